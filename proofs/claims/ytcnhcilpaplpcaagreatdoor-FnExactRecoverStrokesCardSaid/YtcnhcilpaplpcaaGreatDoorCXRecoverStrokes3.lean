/- What the code computes, and what it means: part 3 of the proof of FnExactRecoverStrokes. No condition of its own. -/
import Derived.Deep.Slices
import Derived.WalkKit
import Derived.OpenShut
import Derived.ShutString
import Derived.ChangeOld
import Derived.SizedLaws
import Derived.Shelf.Strings.Cut
import Derived.Shelf.Strings.Split
import Derived.Shelf.Strconv.ParseIntPublic10
import Derived.Test.YtcnhcilpaplpcaaGreatDoorCXRecoverStrokes2
namespace Go.Proofs.YtcnhcilpaplpcaaGreatDoorEv
open Go Go.Proofs
set_option maxRecDepth 10000
set_option maxHeartbeats 2000000
abbrev aT (s : ByteArray) : A := .v (.str s)
def bst (l : List UInt8) : ByteArray := ⟨l.toArray⟩
@[simp] theorem bst_size (l : List UInt8) : (bst l).size = l.length := by simp [bst, ByteArray.size]
@[simp] theorem bst_app (a b : List UInt8) : bst a ++ bst b = bst (a ++ b) := by
  apply ByteArray.ext
  simp [bst, ByteArray.data_append]
@[simp] theorem bst_data (l : List UInt8) : (bst l).data.toList = l := by simp [bst]
theorem dec_len : ∀ n : Nat, (Lib.decDigits n).length ≤ n + 1 := by
  intro n
  induction n using Nat.strongRecOn with
  | _ n ih =>
    rw [Lib.decDigits]
    split
    · simp
    · rw [List.length_append]
      have := ih (n / 10) (by omega)
      simp only [List.length_singleton]
      omega
theorem s_text (n : Int) (h0 : -9223372036854775808 ≤ n) (h1 : n ≤ 9223372036854775807) : Sp Tryz.prog 47 [vi n] (aT (bst (Lib.itoa n))) [] := by
  refine sp_of (m := no) mixed Tryz.func47 k47 ?_
  simp -dsimp [q]
  refine call_of ((s_fmt n h0 h1 : Sp Tryz.prog _ [vi n, vi 10] (aT (bst (Lib.itoa n))) [])) rfl (by simp) ?_
  try simp -dsimp
  try (first | exact fp_one (by decide) | refine fp_and (by decide) ?_)
  try rfl
theorem s_sdec : ∀ n : Nat, n ≤ 1000000000000 → Sp Tryz.prog 42 [vi n] (aT (bst (Lib.decDigits n))) [] := by
  intro n
  induction n using Nat.strongRecOn with
  | _ n ih =>
    intro hn
    rw [Lib.decDigits]
    by_cases h : n < 10
    · rw [dif_pos h]
      have e1 : IntKind.i64.wrap (48 + (n : Int)) = 48 + n := w64 (by omega) (by omega)
      have e2 : IntKind.u8.wrap (48 + (n : Int)) = 48 + n := Int.emod_eq_of_lt (by omega) (by show (48 + (n : Int)) < 256; omega)
      generalize hT : bst [UInt8.ofNat (48 + n)] = T
      refine sp_of (m := no) mixed Tryz.func42 k42 ?_
      simp -dsimp [q, show ((n : Int) < 10) by omega, e1, e2, unBs]
      refine ⟨⟨by omega, by omega⟩, ?_⟩
      rw [← hT, show (48 + (n : Int)).toNat = 48 + n by omega]
      rfl
    · rw [dif_neg h]
      have w := ih (n / 10) (by omega) (by omega)
      have hl := dec_len (n / 10)
      have e0 : IntKind.i64.wrap ((n : Int) / 10) = ((n / 10 : Nat) : Int) := by rw [w64 (by omega) (by omega)]; omega
      have e4 : (n : Int).tmod 10 = ((n % 10 : Nat) : Int) := by rw [Int.tmod_eq_emod_of_nonneg (by omega)]; omega
      have e5 : IntKind.i64.wrap (48 + ((n % 10 : Nat) : Int)) = 48 + ((n % 10 : Nat) : Int) := w64 (by omega) (by omega)
      have e6 : (0 : Int) ≤ 48 + ((n % 10 : Nat) : Int) ∧ 48 + ((n % 10 : Nat) : Int) < 256 := by omega
      have e2 : IntKind.u8.wrap (48 + ((n % 10 : Nat) : Int)) = 48 + ((n % 10 : Nat) : Int) := Int.emod_eq_of_lt (by omega) (by show (48 + ((n % 10 : Nat) : Int)) < 256; omega)
      generalize hT : bst (Lib.decDigits (n / 10) ++ [UInt8.ofNat (48 + n % 10)]) = T
      generalize hD : Lib.decDigits (n / 10) = dd at *
      refine sp_of (m := no) mixed Tryz.func42 k42 ?_
      simp -dsimp [q, show ¬ ((n : Int) < 10) by omega]
      rw [e0]
      refine call_of (w) rfl (by simp) ?_
      try simp -dsimp
      try (first | exact fp_one (by decide) | refine fp_and (by decide) ?_)
      rw [e4, e5, e2]
      simp only [unBs, if_pos e6, Option.map_some]
      generalize hr : n % 10 = r at *
      simp -dsimp
      rw [← hT, show (48 + (r : Int)).toNat = 48 + r by omega]
      exact ⟨by show dd.length + 1 ≤ _; omega, by decide, bst_app dd [UInt8.ofNat (48 + r)]⟩
theorem itoa_nn {n : Int} (h : 0 ≤ n) : Lib.itoa n = Lib.decDigits n.toNat := by unfold Lib.itoa; rw [if_neg (by omega)]
theorem itoa_len {n : Int} (h : n.natAbs ≤ 1000000) : (Lib.itoa n).length ≤ 1000002 := by
  unfold Lib.itoa
  split
  · have := dec_len n.natAbs
    simp only [List.length_cons]
    omega
  · have := dec_len n.toNat
    omega
theorem s_snum (n : Int) (h : n.natAbs ≤ 1000000) : Sp Tryz.prog 62 [vi n] (aT (bst (Lib.itoa n))) [] := by
  refine sp_of (m := no) mixed Tryz.func62 k62 ?_
  unfold Lib.itoa
  by_cases hn : n < 0
  · have w := s_sdec n.natAbs (by omega)
    have hl := dec_len n.natAbs
    have e1 : IntKind.i64.wrap (0 - n) = (n.natAbs : Int) := by rw [w64 (by omega) (by omega)]; omega
    have e2 : IntKind.i64.wrap (-n) = (n.natAbs : Int) := by rw [w64 (by omega) (by omega)]; omega
    generalize hT : bst (if n < 0 then 45 :: Lib.decDigits n.natAbs else Lib.decDigits n.toNat) = T
    generalize Lib.decDigits n.natAbs = dd at *
    simp -dsimp [q, hn, e1, e2]
    refine call_of (w) rfl (by simp) ?_
    try simp -dsimp
    try (first | exact fp_one (by decide) | refine fp_and (by decide) ?_)
    exact ⟨by show 1 + dd.length ≤ _; omega, by rw [← hT, if_pos hn]; exact bst_app [45] dd⟩
  · have w := s_sdec n.toNat (by omega)
    rw [if_neg hn]
    rw [show ((n.toNat : Nat) : Int) = n by omega] at w
    simp -dsimp [q, hn]
    refine call_of (w) rfl (by simp) ?_
    try simp -dsimp
    try (first | exact fp_one (by decide) | refine fp_and (by decide) ?_)
/-! vectors -/
def vtx (x y : Int) : List UInt8 := Lib.itoa x ++ [44] ++ Lib.itoa y
theorem s_svt (x y : Int) (h : okV x y = true) : Sp Tryz.prog 41 [aV x y] (aT (bst (vtx x y))) [] := by
  have w := s_sisVec x y
  rw [h] at w
  obtain ⟨h1, h2⟩ := okV_spec.1 h
  have w1 := s_snum x (by omega)
  have w2 := s_snum y (by omega)
  have l1 := itoa_len (n := x) (by omega)
  have l2 := itoa_len (n := y) (by omega)
  unfold vtx
  generalize Lib.itoa x = a at *
  generalize Lib.itoa y = b at *
  refine sp_of (m := no) mixed Tryz.func41 k41 ?_
  simp -dsimp [q]
  refine call_of (w) rfl (by simp) ?_
  try simp -dsimp
  try (first | exact fp_one (by decide) | refine fp_and (by decide) ?_)
  refine call_of (w1) rfl (by simp) ?_
  try simp -dsimp
  try (first | exact fp_one (by decide) | refine fp_and (by decide) ?_)
  refine ⟨by show a.length + 1 ≤ _; omega, ?_⟩
  have e1 : bst a ++ (⟨#[44]⟩ : ByteArray) = bst (a ++ [44]) := bst_app a [44]
  rw [e1]
  refine call_of (w2) rfl (by simp) ?_
  try simp -dsimp
  try (first | exact fp_one (by decide) | refine fp_and (by decide) ?_)
  omega
def sts (l : List ByteArray) : List V := l.map V.str
@[simp] theorem sts_nil : sts [] = [] := rfl
@[simp] theorem sts_len (l : List ByteArray) : (sts l).length = l.length := by simp [sts]
@[simp] theorem sts_app (l : List ByteArray) (s : ByteArray) : sts l ++ [.str s] = sts (l ++ [s]) := by simp [sts]
def wds (l : List Int) : List ByteArray := l.map fun n => bst (Lib.itoa n)
theorem s_joined (l : List Int) (sep : ByteArray) (hl : l.length ≤ 1048576) (hw : ∀ n ∈ l, n.natAbs ≤ 1000000) (hj : (Lib.join (l.map Lib.itoa) sep.data.toList).length ≤ 140737488355328) : Sp Tryz.prog 68 [aT sep, .v (vis l)] (aT (bst (Lib.join (l.map Lib.itoa) sep.data.toList))) [] := by
  have ew : (wds l).map (·.data.toList) = l.map Lib.itoa := by simp [wds, Function.comp_def]
  have w3 := s_join (wds l) sep (by simp [wds]; omega) (by rw [ew]; exact hj)
  rw [ew] at w3
  have hlen : (wds l).length = l.length := by simp [wds]
  have hget : ∀ (i : Nat) n, l[i]? = some n → (wds l)[i]? = some (bst (Lib.itoa n)) := fun i n h => by simp [wds, h]
  generalize wds l = W at *
  generalize Lib.join (l.map Lib.itoa) sep.data.toList = v at *
  refine sp_of (m := no) mixed Tryz.func68 k68 ?_
  simp -dsimp [q]
  refine awp_it (true :: false :: false :: false :: false :: true :: false :: false :: false :: true :: true :: true :: []) (fun i : Nat => [(11, vi i)]) (fun i => [(0, .row 0 9 (sts (W.take i)))]) (fun i => i ≤ l.length) (fun i => l.length - i) 0 ?_
  intro s0 e
  simp -dsimp at e
  subst e
  refine ⟨?_, ?_⟩
  · simp
  intro i hi
  simp -dsimp
  refine ⟨fun h1 => ⟨h1, fun n hn => ?_⟩, fun h1 => ?_⟩
  · have hb := hw n (List.mem_of_getElem? hn)
    have w1 := s_text n (by omega) (by omega)
    have hg := hget i n hn
    have htl : (W.take i).length ≤ 1048576 := by rw [List.length_take]; omega
    refine call_of (w1) rfl (by simp) ?_
    try simp -dsimp
    try (first | exact fp_one (by decide) | refine fp_and (by decide) ?_)
    refine ⟨⟨by simp at htl ⊢; omega, by simp at htl ⊢; omega⟩, i + 1, ⟨by rw [w64 (by omega) (by omega)]; simp, ?_⟩, by omega, by omega⟩
    rw [List.take_add_one, hg]
    simp
  · have : i = l.length := by omega
    subst this
    rw [List.take_of_length_le (by omega)]
    refine call_of ((w3 : Sp Tryz.prog _ [.v (.sl 0 (sts W)), aT sep] (aT (bst v)) [])) rfl (by simp) ?_
    try simp -dsimp
    try (first | exact fp_one (by decide) | refine fp_and (by decide) ?_)
    try rfl
theorem s_vt (x y : Int) (h : okV x y = true) : Sp Tryz.prog 46 [aV x y] (aT (bst (vtx x y))) [] := by
  have w := s_isVec x y
  rw [h] at w
  obtain ⟨h1, h2⟩ := okV_spec.1 h
  have l1 := itoa_len (n := x) (by omega)
  have l2 := itoa_len (n := y) (by omega)
  have ej : Lib.join ([x, y].map Lib.itoa) (⟨#[44]⟩ : ByteArray).data.toList = vtx x y := by
    simp [Lib.join, List.intercalate, vtx]
  have w2 := s_joined [x, y] ⟨#[44]⟩ (by simp) (by intro n hn; simp at hn; omega) (by rw [ej]; simp only [vtx, List.length_append, List.length_singleton]; omega)
  rw [ej] at w2
  generalize vtx x y = v at *
  refine sp_of (m := no) mixed Tryz.func46 k46 ?_
  simp -dsimp [q]
  refine call_of (w) rfl (by simp) ?_
  try simp -dsimp
  try (first | exact fp_one (by decide) | refine fp_and (by decide) ?_)
  refine call_of ((w2 : Sp Tryz.prog _ [aT ⟨#[44]⟩, .v (.sl 0 [.int .i64 x, .int .i64 y])] (aT (bst v)) [])) rfl (by simp) ?_
  try simp -dsimp
  try (first | exact fp_one (by decide) | refine fp_and (by decide) ?_)
end Go.Proofs.YtcnhcilpaplpcaaGreatDoorEv
namespace Go.Proofs.YtcnhcilpaplpcaaGreatDoorEv
open Go Go.Proofs
set_option maxRecDepth 10000
set_option maxHeartbeats 2000000
theorem bst_get (l : List UInt8) (n : Nat) : (bst l)[n]? = l[n]? := by
  have h := bst_size l
  by_cases hn : n < l.length
  · rw [List.getElem?_eq_getElem hn]
    have e : (bst l)[n]? = some ((bst l)[n]'(by omega)) := by simp [getElem?_def, h, hn]
    rw [e]
    rfl
  · rw [List.getElem?_eq_none (by omega)]
    simp [getElem?_def, h, hn]
@[simp] theorem bst_fA (l : List UInt8) (n : Nat) (K : UInt8 → Prop) : fA ((bst l)[n]?) K = ∀ b, l[n]? = some b → K b := by
  rw [bst_get]
  rfl
theorem bst_ext (l : List UInt8) (a b : Nat) : (bst l).extract a b = bst ((l.take b).drop a) := by
  apply ByteArray.ext
  simp [bst, ByteArray.data_extract, List.drop_take]
theorem drop_seg {s : List UInt8} {st i : Nat} {b : UInt8} (h : s[i]? = some b) (hst : st ≤ i) : s.drop st = (s.drop st).take (i - st) ++ b :: s.drop (i + 1) := by
  obtain ⟨hi, e⟩ := List.getElem?_eq_some_iff.1 h
  conv => lhs; rw [← List.take_append_drop (i - st) (s.drop st)]
  rw [List.drop_drop, show st + (i - st) = i by omega, List.drop_eq_getElem_cons hi, e]
theorem take_seg {s : List UInt8} {st i : Nat} {b : UInt8} (h : s[i]? = some b) (hst : st ≤ i) : (s.drop st).take (i + 1 - st) = (s.drop st).take (i - st) ++ [b] := by
  rw [show i + 1 - st = i - st + 1 by omega, List.take_add_one, List.getElem?_drop, show st + (i - st) = i by omega, h]
  rfl
theorem s_spl (s : List UInt8) (c : UInt8) (hs : s.length ≤ 1048576) : Sp Tryz.prog 28 [aT (bst s), .v (.int .u8 c.toNat)] (.sli 0) [.row 0 9 (sts ((spl c s).map bst))] := by
  refine sp_of (m := no) mixed Tryz.func28 k28 ?_
  simp -dsimp [q]
  refine awp_it (true :: true :: false :: false :: false :: true :: true :: true :: []) (fun x : Nat × Nat × List (List UInt8) => [(6, vi x.2.1), (7, vi x.1)]) (fun x => [(0, .row 0 9 (sts (x.2.2.map bst)))]) (fun x => x.2.2.length ≤ x.1 ∧ ((x.1 ≤ s.length ∧ x.2.1 ≤ x.1 ∧ spl c s = x.2.2 ++ spl c (s.drop x.2.1) ∧ c ∉ (s.drop x.2.1).take (x.1 - x.2.1)) ∨ (x.1 = s.length + 1 ∧ spl c s = x.2.2))) (fun x => s.length + 1 - x.1) (0, 0, []) ?_
  intro s0 e
  simp -dsimp at e
  subst e
  refine ⟨?_, ?_⟩
  · simp
  rintro ⟨i, st, P⟩ ⟨hlen, hx⟩
  simp only at hlen hx
  simp -dsimp [-Prod.forall, -Prod.exists]
  refine ⟨fun hi => ?_, fun hi => ?_⟩
  · obtain ⟨hst, hspl, hno⟩ : st ≤ i ∧ spl c s = P ++ spl c (s.drop st) ∧ ¬ c ∈ (s.drop st).take (i - st) := by
      rcases hx with ⟨_, h⟩ | ⟨h, _⟩
      · exact h
      · omega
    have hw : IntKind.i64.wrap ((i : Int) + 1) = ((i + 1 : Nat) : Int) := by rw [w64 (by omega) (by omega)]; simp
    refine ⟨fun hne => ⟨by omega, fun b hb => ⟨fun hc => ?_, fun hc => ?_⟩⟩, fun he => ?_⟩
    · have hbc : b = c := UInt8.toNat_inj.1 (by omega)
      subst hbc
      refine ⟨⟨hst, hi⟩, by omega, (i + 1, i + 1, P ++ [(s.drop st).take (i - st)]), ⟨⟨hw, hw⟩, ?_⟩, ⟨by simp; omega, .inl ⟨by omega, Nat.le_refl _, ?_, by simp⟩⟩, by simp only; omega⟩
      · simp only [bst_ext, List.drop_take, List.map_append, List.map_cons, List.map_nil]
      · simp only
        rw [hspl]
        conv => lhs; rw [drop_seg hb hst, spl_hit _ _ hno]
        simp
    · have hbc : ¬ c = b := fun e => hc (by rw [e])
      refine ⟨(i + 1, st, P), ⟨⟨rfl, hw⟩, rfl⟩, ⟨by simp only; omega, .inl ⟨by omega, by simp only; omega, hspl, ?_⟩⟩, by simp only; omega⟩
      simp only
      rw [take_seg hb hst]
      simp [hno, hbc]
    · have he : i = s.length := by omega
      have hp : (s.drop st).take (i - st) = s.drop st := List.take_of_length_le (by simp; omega)
      rw [hp] at hno
      refine ⟨⟨hst, hi⟩, by omega, (i + 1, i + 1, P ++ [s.drop st]), ⟨⟨hw, hw⟩, ?_⟩, ⟨by simp; omega, .inr ⟨by simp only; omega, ?_⟩⟩, by simp only; omega⟩
      · simp only [bst_ext, List.drop_take, hp, List.map_append, List.map_cons, List.map_nil]
      · simp only
        rw [hspl, spl_none _ hno]
  · rcases hx with ⟨hx, _⟩ | ⟨_, hx⟩
    · omega
    · rw [hx]
end Go.Proofs.YtcnhcilpaplpcaaGreatDoorEv
namespace Go.Proofs.YtcnhcilpaplpcaaGreatDoorEv
open Go Go.Proofs
set_option maxRecDepth 10000
set_option maxHeartbeats 2000000
def isDg (b : UInt8) : Bool := decide (48 ≤ b.toNat ∧ b.toNat ≤ 57)
def dgIn (l : List UInt8) : Bool := decide (1 ≤ l.length ∧ l.length ≤ 10) && l.all isDg
def dgV (l : List UInt8) : Nat := if dgIn l then dval l else 0
def dgOk (l : List UInt8) : Bool := dgIn l && decide (bst (Lib.decDigits (dval l)) = bst l)
theorem dval_app (l : List UInt8) (b : UInt8) : dval (l ++ [b]) = 10 * dval l + (b.toNat - 48) := by
  unfold dval
  rw [List.foldl_append]
  rfl
theorem dval_take {l : List UInt8} {i : Nat} {b : UInt8} (h : l[i]? = some b) : dval (l.take (i + 1)) = 10 * dval (l.take i) + (b.toNat - 48) := by
  rw [List.take_add_one, h]
  exact dval_app _ _
theorem dval_lt : ∀ (n : Nat) {l : List UInt8}, l.all isDg = true → n ≤ l.length → dval (l.take n) < 10 ^ n
  | 0, l, _, _ => by simp [dval]
  | n + 1, l, h, hn => by
    have ih := dval_lt n h (by omega)
    have hb : l[n]? = some (l[n]'(by omega)) := List.getElem?_eq_getElem (by omega)
    have hd := List.all_eq_true.1 h _ (List.mem_of_getElem? hb)
    unfold isDg at hd
    have hd := of_decide_eq_true hd
    rw [dval_take hb, Nat.pow_succ]
    omega
theorem dval_lt_all {l : List UInt8} (h : l.all isDg = true) (hl : l.length ≤ 10) : dval l < 10000000000 := by
  have := dval_lt l.length h (Nat.le_refl _)
  rw [List.take_length] at this
  exact Nat.lt_of_lt_of_le this (Nat.pow_le_pow_right (by decide) hl)
theorem s_dg (l : List UInt8) (h : l.length ≤ 1048576) : Sp Tryz.prog 30 [aT (bst l)] (.tu [vi (dgV l), vb (dgOk l)]) [] := by
  refine sp_of (m := no) mixed Tryz.func30 k30 ?_
  have bad : ∀ b ∈ l, isDg b = false → dgIn l = false := fun b hb hd => by
    unfold dgIn
    rw [Bool.and_eq_false_iff]
    exact .inr (Bool.eq_false_iff.2 fun ha => by rw [List.all_eq_true.1 ha b hb] at hd; cases hd)
  have len : dgIn l = true → 1 ≤ l.length ∧ l.length ≤ 10 := fun h => by
    unfold dgIn at h
    simp only [Bool.and_eq_true, decide_eq_true_eq] at h
    exact h.1
  simp -dsimp [q]
  have nb : dgIn l = false → (0 : Int) = dgV l ∧ dgOk l = false := fun hf => by
    unfold dgV dgOk
    rw [hf]
    simp
  refine ⟨fun h1 => ⟨fun h2 => nb (Bool.eq_false_iff.2 fun ht => by have := len ht; omega), fun h2 => ?_⟩, fun h1 => nb (Bool.eq_false_iff.2 fun ht => by have := len ht; omega)⟩
  refine awp_it (true :: false :: false :: false :: true :: true :: []) (fun i : Nat => [(4, vi (dval (l.take i))), (5, vi i)]) (fun i => []) (fun i => i ≤ l.length ∧ (l.take i).all isDg = true) (fun i => l.length - i) 0 ?_
  intro s0 e
  simp -dsimp at e
  subst e
  refine ⟨?_, ?_⟩
  · simp [dval]
  rintro i ⟨hi, ha⟩
  simp -dsimp
  refine ⟨fun h3 => ⟨h3, fun b hb => ⟨fun h4 => ⟨h3, fun b1 hb1 => ?_⟩, fun h4 => ?_⟩⟩, fun h3 => ?_⟩
  · rw [hb] at hb1
    cases hb1
    refine ⟨fun h5 => nb (bad b (List.mem_of_getElem? hb) (by unfold isDg; exact decide_eq_false (by omega))), fun h5 => ⟨h3, fun b2 hb2 => ?_⟩⟩
    rw [hb] at hb2
    cases hb2
    have hd : isDg b = true := by unfold isDg; exact decide_eq_true (by omega)
    have h6 := dval_lt i (l := l.take i) ha (by simp; omega)
    rw [List.take_take, Nat.min_self] at h6
    have h7 : 10 ^ i ≤ 10 ^ 10 := Nat.pow_le_pow_right (by decide) (by omega)
    have h8 : 10 ^ 10 = 10000000000 := by decide
    have e1 : IntKind.u8.wrap ((b.toNat : Int) - 48) = (b.toNat : Int) - 48 := Int.emod_eq_of_lt (by omega) (by show (b.toNat : Int) - 48 < 256; omega)
    refine ⟨i + 1, ⟨?_, by rw [w64 (by omega) (by omega)]; simp⟩, ⟨by omega, fun x hx => ?_⟩, by omega⟩
    · rw [e1, w64 (n := 10 * (dval (l.take i) : Int)) (by omega) (by omega), w64 (n := (b.toNat : Int) - 48) (by omega) (by omega), w64 (by omega) (by omega), dval_take hb]
      omega
    · rw [List.take_add_one, hb] at hx
      rcases List.mem_append.1 hx with hx | hx
      · exact List.all_eq_true.1 ha x hx
      · simp only [Option.toList_some, List.mem_singleton] at hx; rw [hx]; exact hd
  · exact nb (bad b (List.mem_of_getElem? hb) (by unfold isDg; exact decide_eq_false (by omega)))
  · rw [List.take_of_length_le h3] at ha ⊢
    have hin : dgIn l = true := by
      unfold dgIn
      rw [ha, decide_eq_true (by omega)]
      rfl
    have h9 := dval_lt_all ha (by omega)
    have w := s_sdec (dval l) (by omega)
    unfold dgV dgOk
    rw [if_pos hin, hin, Bool.true_and]
    generalize Lib.decDigits (dval l) = dd at *
    refine call_of (w) rfl (by simp) ?_
    try simp -dsimp
    try (first | exact fp_one (by decide) | refine fp_and (by decide) ?_)
end Go.Proofs.YtcnhcilpaplpcaaGreatDoorEv
namespace Go.Proofs.YtcnhcilpaplpcaaGreatDoorEv
open Go Go.Proofs
set_option maxRecDepth 10000
set_option maxHeartbeats 2000000
def sgV (l : List UInt8) : Int := if l[0]? = some 45 then -(dgV (l.drop 1) : Int) else dgV l
def sgOk (l : List UInt8) : Bool := if l[0]? = some 45 then dgOk (l.drop 1) && decide (0 < dgV (l.drop 1)) else dgOk l
theorem dgV_lt (l : List UInt8) : dgV l < 10000000000 := by
  unfold dgV
  split
  · rename_i h
    unfold dgIn at h
    simp only [Bool.and_eq_true, decide_eq_true_eq] at h
    exact dval_lt_all h.2 h.1.2
  · decide
theorem s_sg (l : List UInt8) (h : l.length ≤ 1048576) : Sp Tryz.prog 70 [aT (bst l)] (.tu [vi (sgV l), vb (sgOk l)]) [] := by
  have w1 := s_dg l h
  have w2 := s_dg (l.drop 1) (by rw [List.length_drop]; omega)
  have hv := dgV_lt (l.drop 1)
  refine sp_of (m := no) mixed Tryz.func70 k70 ?_
  simp -dsimp [q]
  have ex : (bst l).extract 1 l.length = bst (l.drop 1) := by rw [bst_ext, List.take_length]
  refine ⟨fun h0 => ⟨h0, fun b hb => ⟨fun h1 => ⟨by omega, ?_⟩, fun h1 => ?_⟩⟩, fun h0 => ?_⟩
  · have e : l[0]? = some 45 := by rw [hb, UInt8.toNat_inj.1 (show b.toNat = (45 : UInt8).toNat by have : (45 : UInt8).toNat = 45 := rfl; omega)]
    rw [ex]
    unfold sgV sgOk
    rw [if_pos e, if_pos e]
    generalize dgV (l.drop 1) = v at *
    cases hk : dgOk (l.drop 1) with
    | true =>
      rw [hk] at w2
      refine call_of (w2) rfl (by simp) ?_
      try simp -dsimp
      try (first | exact fp_one (by decide) | refine fp_and (by decide) ?_)
      rw [w64 (by omega) (by omega)]
    | false =>
      rw [hk] at w2
      refine call_of (w2) rfl (by simp) ?_
      try simp -dsimp
      try (first | exact fp_one (by decide) | refine fp_and (by decide) ?_)
      rw [w64 (by omega) (by omega)]
  · have e : ¬ l[0]? = some 45 := by
      rw [hb]
      intro e
      cases e
      exact h1 rfl
    unfold sgV sgOk
    rw [if_neg e, if_neg e]
    refine call_of (w1) rfl (by simp) ?_
    try simp -dsimp
    try (first | exact fp_one (by decide) | refine fp_and (by decide) ?_)
  · have e : ¬ l[0]? = some 45 := by
      rw [List.getElem?_eq_none (by first | omega | simp [h0])]
      simp
    unfold sgV sgOk
    rw [if_neg e, if_neg e]
    refine call_of (w1) rfl (by simp) ?_
    try simp -dsimp
    try (first | exact fp_one (by decide) | refine fp_and (by decide) ?_)
end Go.Proofs.YtcnhcilpaplpcaaGreatDoorEv
namespace Go.Proofs.YtcnhcilpaplpcaaGreatDoorEv
open Go Go.Proofs
set_option maxRecDepth 10000
set_option maxHeartbeats 2000000
@[simp] theorem sts_fA (l : List (List UInt8)) (n : Nat) (K : V → Prop) : fA ((sts (l.map bst))[n]?) K = ∀ p, l[n]? = some p → K (.str (bst p)) := by
  unfold sts
  rw [List.map_map]
  exact fA_map
theorem all_take {α : Type} {p : α → Bool} {l : List α} {i : Nat} {x : α} (h : l[i]? = some x) (ha : (l.take i).all p = true) (hx : p x = true) : (l.take (i + 1)).all p = true := by
  rw [List.take_add_one, h, List.all_append, ha]
  simpa using hx
theorem s_rdnums (L : List (List UInt8)) (hL : L.length ≤ 1048577) (hl : ∀ p ∈ L, p.length ≤ 1048576) (r : A) (hs : List Ck)
    (h1 : L.all sgOk = true → r = .tu [.sli 0, vb true] ∧ hs = [.row 0 2 (is (L.map sgV))]) (h2 : ∀ p ∈ L, sgOk p = false → r = .tu [.nil 0, vb false] ∧ hs = []) : Sp Tryz.prog 49 [.v (.sl 0 (sts (L.map bst)))] r hs := by
  by_cases hall : L.all sgOk = true
  · obtain ⟨rfl, rfl⟩ := h1 hall
    refine sp_of (m := no) mixed Tryz.func49 k49 ?_
    simp -dsimp [q]
    refine awp_it (true :: false :: false :: false :: true :: true :: []) (fun i : Nat => [(5, vi i)]) (fun i => [(0, .row 0 2 (is ((L.take i).map sgV)))]) (fun i => i ≤ L.length) (fun i => L.length - i) 0 ?_
    intro s0 e
    simp -dsimp at e
    subst e
    refine ⟨?_, ?_⟩
    · simp
    rintro i hi
    simp -dsimp [-Prod.forall, -Prod.exists]
    refine ⟨fun h3 => ⟨h3, fun p hp => ?_⟩, fun h3 => ?_⟩
    · have w := s_sg p (hl p (List.mem_of_getElem? hp))
      rw [List.all_eq_true.1 hall p (List.mem_of_getElem? hp)] at w
      refine call_of (w) rfl (by simp) ?_
      try simp -dsimp
      try (first | exact fp_one (by decide) | refine fp_and (by decide) ?_)
      refine ⟨by omega, i + 1, ⟨by rw [w64 (by omega) (by omega)]; simp, ?_⟩, by omega, by omega⟩
      rw [List.take_add_one, List.getElem?_map, hp]
      rfl
    · rw [List.take_of_length_le (by simp; omega)]
  · obtain ⟨p0, hp0, hb0⟩ : ∃ p ∈ L, sgOk p = false := by
      simpa using hall
    obtain ⟨rfl, rfl⟩ := h2 p0 hp0 hb0
    refine sp_of (m := no) mixed Tryz.func49 k49 ?_
    simp -dsimp [q]
    refine awp_it (true :: false :: false :: false :: true :: true :: []) (fun i : Nat => [(5, vi i)]) (fun i => [(0, .row 0 2 (is ((L.take i).map sgV)))]) (fun i => i ≤ L.length ∧ (L.take i).all sgOk = true) (fun i => L.length - i) 0 ?_
    intro s0 e
    simp -dsimp at e
    subst e
    refine ⟨?_, ?_⟩
    · simp
    rintro i ⟨hi, ha⟩
    simp -dsimp [-Prod.forall, -Prod.exists]
    have h3 : i < L.length := by
      rcases Nat.lt_or_ge i L.length with h | h
      · exact h
      · rw [List.take_of_length_le h] at ha
        exact absurd ha hall
    refine ⟨fun _ => ⟨h3, fun p hp => ?_⟩, h3⟩
    · have w := s_sg p (hl p (List.mem_of_getElem? hp))
      cases hk : sgOk p with
      | true =>
        rw [hk] at w
        refine call_of (w) rfl (by simp) ?_
        try simp -dsimp
        try (first | exact fp_one (by decide) | refine fp_and (by decide) ?_)
        refine ⟨by omega, i + 1, ⟨by rw [w64 (by omega) (by omega)]; simp, ?_⟩, ⟨by omega, fun x hx => List.all_eq_true.1 (all_take hp ha hk) x hx⟩, by omega⟩
        rw [List.take_add_one, List.getElem?_map, hp]
        rfl
      | false =>
        rw [hk] at w
        refine call_of (w) rfl (by simp) ?_
        try simp -dsimp
        try (first | exact fp_one (by decide) | refine fp_and (by decide) ?_)
end Go.Proofs.YtcnhcilpaplpcaaGreatDoorEv
namespace Go.Proofs.YtcnhcilpaplpcaaGreatDoorEv
open Go Go.Proofs
set_option maxRecDepth 10000
set_option maxHeartbeats 2000000
def rvL (L : List (List UInt8)) : Option (Int × Int) := match L with
  | [a, b] => if (sgOk a && sgOk b && okV (sgV a) (sgV b)) = true then some (sgV a, sgV b) else none
  | _ => none
theorem rvL_two {L : List (List UInt8)} {a b : List UInt8} (h : L.length = 2) (ha : L[0]? = some a) (hb : L[1]? = some b) : rvL L = if (sgOk a && sgOk b && okV (sgV a) (sgV b)) = true then some (sgV a, sgV b) else none := by
  match L, h with
  | [x, y], _ =>
    cases ha
    cases hb
    rfl
theorem rvL_len {L : List (List UInt8)} (h : L.length ≠ 2) : rvL L = none := by
  unfold rvL
  split
  · simp at h
  · rfl
theorem rvL_bad {L : List (List UInt8)} {p : List UInt8} (h : p ∈ L) (hb : sgOk p = false) : rvL L = none := by
  unfold rvL
  split
  · simp only [List.mem_cons, List.not_mem_nil, or_false] at h
    rcases h with rfl | rfl <;> simp [hb]
  · rfl
def rvA : Option (Int × Int) → A
  | some v => .tu [aV v.1 v.2, vb true]
  | none => .tu [aV 0 0, vb false]
theorem s_srv (l : List UInt8) (h : l.length ≤ 1048576) : Sp Tryz.prog 29 [aT (bst l)] (rvA (rvL (spl 44 l))) [] := by
  have w1 := s_spl l 44 h
  have hlen := spl_len 44 l
  have hmem : ∀ p ∈ spl 44 l, p.length ≤ 1048576 := fun p hp => Nat.le_trans (spl_mem 44 hp) h
  generalize spl 44 l = L at *
  by_cases hall : L.all sgOk = true
  · have w2 := s_rdnums L (by omega) hmem _ _ (fun _ => ⟨rfl, rfl⟩) (fun p hp hb => by rw [List.all_eq_true.1 hall p hp] at hb; cases hb)
    by_cases hl2 : L.length = 2
    · obtain ⟨a, ha⟩ : ∃ a, L[0]? = some a := ⟨_, List.getElem?_eq_getElem (by omega)⟩
      obtain ⟨b, hb⟩ : ∃ b, L[1]? = some b := ⟨_, List.getElem?_eq_getElem (by omega)⟩
      have w3 := s_sisVec (sgV a) (sgV b)
      rw [rvL_two hl2 ha hb, List.all_eq_true.1 hall a (List.mem_of_getElem? ha), List.all_eq_true.1 hall b (List.mem_of_getElem? hb), Bool.true_and, Bool.true_and]
      cases hv : okV (sgV a) (sgV b) with
      | true =>
        rw [hv] at w3
        rw [if_pos rfl]
        refine sp_of (m := no) mixed Tryz.func29 k29 ?_
        simp -dsimp [q, rvA]
        refine call_of (w1) rfl (by simp) ?_
        try simp -dsimp
        try (first | exact fp_one (by decide) | refine fp_and (by decide) ?_)
        refine call_of (w2) rfl (by simp) ?_
        try simp -dsimp
        try (first | exact fp_one (by decide) | refine fp_and (by decide) ?_)
        refine ⟨fun _ => ⟨by omega, fun a1 ha1 => ⟨by omega, by omega, fun b1 hb1 => ?_⟩⟩, by omega⟩
        rw [ha] at ha1
        cases ha1
        rw [hb] at hb1
        cases hb1
        refine call_of (w3) rfl (by simp) ?_
        try simp -dsimp
        try (first | exact fp_one (by decide) | refine fp_and (by decide) ?_)
        refine ⟨by omega, fun a1 ha1 => ⟨by omega, by omega, fun b1 hb1 => ?_⟩⟩
        rw [ha] at ha1
        cases ha1
        rw [hb] at hb1
        cases hb1
        try simp -dsimp
        try decide
      | false =>
        rw [hv] at w3
        rw [if_neg (by decide)]
        refine sp_of (m := no) mixed Tryz.func29 k29 ?_
        simp -dsimp [q, rvA]
        refine call_of (w1) rfl (by simp) ?_
        try simp -dsimp
        try (first | exact fp_one (by decide) | refine fp_and (by decide) ?_)
        refine call_of (w2) rfl (by simp) ?_
        try simp -dsimp
        try (first | exact fp_one (by decide) | refine fp_and (by decide) ?_)
        refine fun _ => ⟨by omega, fun a1 ha1 => ⟨by omega, by omega, fun b1 hb1 => ?_⟩⟩
        rw [ha] at ha1
        cases ha1
        rw [hb] at hb1
        cases hb1
        refine call_of (w3) rfl (by simp) ?_
        try simp -dsimp
        try (first | exact fp_one (by decide) | refine fp_and (by decide) ?_)
    · rw [rvL_len hl2]
      refine sp_of (m := no) mixed Tryz.func29 k29 ?_
      simp -dsimp [q, rvA]
      refine call_of (w1) rfl (by simp) ?_
      try simp -dsimp
      try (first | exact fp_one (by decide) | refine fp_and (by decide) ?_)
      refine call_of (w2) rfl (by simp) ?_
      try simp -dsimp
      try (first | exact fp_one (by decide) | refine fp_and (by decide) ?_)
      try simp -dsimp [hl2]
      try omega
  · obtain ⟨p0, hp0, hb0⟩ : ∃ p ∈ L, sgOk p = false := by
      simpa using hall
    have w2 := s_rdnums L (by omega) hmem _ _ (fun h => absurd h hall) (fun p hp hb => ⟨rfl, rfl⟩)
    rw [rvL_bad hp0 hb0]
    clear hall
    refine sp_of (m := no) mixed Tryz.func29 k29 ?_
    simp -dsimp [q, rvA]
    refine call_of (w1) rfl (by simp) ?_
    try simp -dsimp
    try (first | exact fp_one (by decide) | refine fp_and (by decide) ?_)
    refine call_of (w2) rfl (by simp) ?_
    try simp -dsimp
    try (first | exact fp_one (by decide) | refine fp_and (by decide) ?_)
end Go.Proofs.YtcnhcilpaplpcaaGreatDoorEv
namespace Go.Proofs.YtcnhcilpaplpcaaGreatDoorEv
open Go Go.ChangeShapes Go.WideShapes Go.RowKit Go.Deep

abbrev below (W : World) : Nat → Prop := fun b => b < W.heap.size
def OpC {α : Type} (P : Program) (t : TypeId) (encs : α → List V) (wf : α → Prop) : Prop :=
  ∀ (H : Type) (enc : TypeId × Value → H) (W : World) (spare : Nat → Bool) (held : Bool) (fuel : Nat) (cs : List Value) (x : DataW H × List MemPlace),
    DataW.trod enc P W 0 spare held fuel t cs = some x → ∃ a, RepL (below W) W (encs a) cs ∧ wf a
theorem opc_int {P : Program} {t : TypeId} {k : IntKind} (hu : P.underlying t = some (.int k)) : OpC P t (fun n => [V.int k n]) (fun n => (Lit.int k n).wf = true) := by
  intro H enc W spare held fuel cs x h
  obtain ⟨n, rfl, _, hw⟩ := DataW.trod_int hu h
  exact ⟨n, ⟨_, [], rfl, rfl, rfl, rfl⟩, hw⟩
theorem opc_bool {P : Program} {t : TypeId} (hu : P.underlying t = some .bool) : OpC P t (fun b => [V.bool b]) (fun _ => True) := by
  intro H enc W spare held fuel cs x h
  obtain ⟨n, rfl, _⟩ := DataW.trod_bool hu h
  exact ⟨n, ⟨_, [], rfl, rfl, rfl, rfl⟩, trivial⟩
theorem opc_string {P : Program} {t : TypeId} (hu : P.underlying t = some .string) : OpC P t (fun s => [V.str s]) (fun s => s.size ≤ maxLen) := by
  intro H enc W spare held fuel cs x h
  obtain ⟨n, rfl, _, hs⟩ := DataW.trod_string hu h
  exact ⟨n, ⟨_, [], rfl, rfl, rfl, rfl⟩, hs⟩
theorem list_of {α : Type} {n : Nat} {p : Nat → α → Prop} (h : ∀ i, i < n → ∃ x, p i x) : ∃ l : List α, l.length = n ∧ ∀ i (hi : i < l.length), p i l[i] := by
  induction n with
  | zero => exact ⟨[], rfl, fun i hi => absurd hi (Nat.not_lt_zero _)⟩
  | succ n ih =>
    obtain ⟨l, hl, hp⟩ := ih (fun i hi => h i (Nat.lt_succ_of_lt hi))
    obtain ⟨x, hx⟩ := h n (Nat.lt_succ_self n)
    refine ⟨l ++ [x], by simp [hl], fun i hi => ?_⟩
    by_cases e : i < l.length
    · rw [List.getElem_append_left e]; exact hp i e
    · have : i = n := by simp at hi; omega
      subst this
      rw [List.getElem_append_right (by omega)]
      simpa [hl] using hx
def mkE (k : Nat) (cs : List V) : V := if k = 0 then cs.headD default else .ag cs
theorem repAt_of {S : Nat → Prop} {w : World} {Ad : Option Addr} {e : Nat} : ∀ (xs : List V) (i : Nat), (∀ j x, xs[j]? = some x → ∃ b u, Ad = some b ∧ S b.block ∧ Rep S w x u ∧ u.cells.size = cz e ∧ x.isAg = (e != 0) ∧ ∀ (k : Nat) y, u.cells[k]? = some y → w.cell? (b.add ((i + j) * cz e + k)) = some y) → RepAt S w Ad e i xs
  | [], _, _ => trivial
  | x :: xs, i, h => by
    refine ⟨by simpa using h 0 x rfl, repAt_of xs (i + 1) (fun j y hy => ?_)⟩
    obtain ⟨b, u, h1, h2, h3, h4, h5, h6⟩ := h (j + 1) y (by simpa using hy)
    exact ⟨b, u, h1, h2, h3, h4, h5, fun k z hz => by rw [show i + 1 + j = i + (j + 1) by omega]; exact h6 k z hz⟩
theorem mkE_rep {S : Nat → Prop} {w : World} {k : Nat} {ds : List V} {cs : List Value} (h : RepL S w ds cs) (hl : cs.length = cz k) : ∃ u, Rep S w (mkE k ds) u ∧ u.cells.toList = cs ∧ (mkE k ds).isAg = (k != 0) := by
  unfold mkE
  by_cases hk : k = 0
  · subst hk
    rw [if_pos rfl]
    match ds, cs, h, hl with
    | [d], [c], ⟨u, us', h1, h2, h3, h4⟩, _ =>
      cases h1
      have := h3.cellsNe h2
      exact ⟨c, h3, by rw [this.2], h2⟩
    | [], [], _, hl => cases hl
    | _ :: _ :: _, [], h, _ => obtain ⟨_, _, h1, _⟩ := h; cases h1
    | [_], [], h, _ => obtain ⟨_, _, h1, _⟩ := h; cases h1
    | [_], _ :: _ :: _, _, hl => cases hl
    | [], _ :: _, h, _ => simp [RepL] at h
    | _ :: _ :: _, [_], h, _ => obtain ⟨_, _, h1, _, _, _, _, h2, _⟩ := h; cases h1; cases h2
    | _ :: _ :: _, _ :: _ :: _, _, hl => cases hl
  · rw [if_neg hk]
    exact ⟨.agg cs.toArray, ⟨cs, rfl, h⟩, by simp [Value.cells], by simp [V.isAg, hk]⟩
theorem opc_slice {α : Type} {P : Program} {t e : TypeId} {k : Nat} {encs : α → List V} {wf : α → Prop} (hu : P.underlying t = some (.slice e)) (hk : kindOf P e = some k) (h : OpC P e encs wf) :
    OpC P t (fun l : List α => [V.sl k (l.map fun a => mkE k (encs a))]) (fun l => l.length ≤ maxLen ∧ ∀ x ∈ l, wf x) := by
  intro H enc W spare held fuel cs x hx
  have hsz : P.cellsOf e = cz k := by
    obtain ⟨_, i, _, h1, h2, _⟩ := kindOf_spec hk
    simp [Program.cellsOf, h1, h2]
  rcases open_slice hu hx with ⟨rfl, _⟩ | ⟨a, len, cap, m, n, D, Pl, rfl, _, hl, hm, hmm, _, hel⟩
  · exact ⟨[], ⟨_, [], rfl, rfl, ⟨none, 0, rfl, Nat.le_refl _, Nat.zero_le _, trivial⟩, rfl⟩, Nat.zero_le _, fun x hx => absurd hx (by simp)⟩
  · have hle : len ≤ m := by rw [hmm]; split <;> omega
    obtain ⟨l, hlen, hp⟩ := list_of (p := fun i y => ∃ cs', W.cells? 0 (a.add (i * P.cellsOf e)) (P.cellsOf e) = some cs' ∧ RepL (below W) W (encs y) cs' ∧ wf y) (n := len) (fun i hi => by
      obtain ⟨cs', h1, h2⟩ := hel i (by omega)
      obtain ⟨y, hK, hw⟩ := h H enc W spare held n cs' _ h2
      exact ⟨y, cs', h1, hK, hw⟩)
    subst hlen
    refine ⟨l, ⟨_, [], rfl, rfl, ⟨some a, cap, by simp, by simpa using hl, hm, repAt_of _ 0 (fun j x hj => ?_)⟩, rfl⟩, Nat.le_trans hl hm, fun y hy => ?_⟩
    · simp only [List.getElem?_map, Option.map_eq_some_iff] at hj
      obtain ⟨y, hj, rfl⟩ := hj
      obtain ⟨hj', rfl⟩ := List.getElem?_eq_some_iff.1 hj
      obtain ⟨cs', h1, hK, _⟩ := hp j hj'
      obtain ⟨_, hcl, hcell⟩ := World.cells?_some h1
      rw [hsz] at hcl hcell
      obtain ⟨u, h2, h3, h4⟩ := mkE_rep hK hcl
      have hus : u.cells.size = cz k := by rw [← hcl, ← h3]; simp
      have cell : ∀ (i : Nat) y, u.cells[i]? = some y → W.cell? (a.add (j * cz k + i)) = some y := by
        intro i y hy
        have hi : i < cz k := by have := (Array.getElem?_eq_some_iff.1 hy).1; omega
        have := hcell i hi
        rw [Go.Deep.add_add] at this
        rw [this, ← h3]
        simpa using hy
      refine ⟨a, u, rfl, ?_, h2, hus, h4, fun i y hy => by simpa using cell i y hy⟩
      have h0 : 0 < u.cells.size := by rw [hus]; exact cz_pos k
      have := World.block_lt_of_cell? W _ (cell 0 _ (Array.getElem?_eq_getElem h0))
      rwa [add_block] at this
    · obtain ⟨j, hj, rfl⟩ := List.mem_iff_getElem.1 hy
      obtain ⟨_, _, _, hw⟩ := hp j hj
      exact hw
theorem RepL.append {S : Nat → Prop} {w : World} : ∀ {az bs : List V} {us vs : List Value}, RepL S w az us → RepL S w bs vs → RepL S w (az ++ bs) (us ++ vs)
  | [], _, us, _, h, k => by simp only [RepL] at h; subst h; exact k
  | a :: az, _, us, vs, ⟨u, us', h1, h2, h3, h4⟩, k => by subst h1; exact ⟨u, us' ++ vs, rfl, h2, h3, h4.append k⟩
/-- The fields of a struct, from a place on. -/
def OpF {α : Type} (P : Program) (fs : List Field) (off n : Nat) (encs : α → List V) (wf : α → Prop) : Prop :=
  ∀ (H : Type) (enc : TypeId × Value → H) (W : World) (spare : Nat → Bool) (held : Bool) (fuel : Nat) (cs : List Value), cs.length = off + n →
    (∀ f ∈ fs, ∃ y, DataW.trod enc P W 0 spare held fuel f.type ((cs.drop f.offset).take (P.cellsOf f.type)) = some y) → ∃ a, RepL (below W) W (encs a) (cs.drop off) ∧ wf a
theorem opf_one {α : Type} {P : Program} {f : Field} {off n : Nat} {encs : α → List V} {wf : α → Prop} (ho : f.offset = off) (hc : P.cellsOf f.type = n) (h : OpC P f.type encs wf) : OpF P [f] off n encs wf := by
  intro H enc W spare held fuel cs hl hf
  obtain ⟨y, hy⟩ := hf f (by simp)
  rw [ho, hc, List.take_of_length_le (by rw [List.length_drop]; omega)] at hy
  exact h H enc W spare held fuel _ _ hy
theorem opf_cons {α β : Type} {P : Program} {f : Field} {fs : List Field} {off n m : Nat} {encs : α → List V} {encs1 : β → List V} {wf : α → Prop} {wf1 : β → Prop} (ho : f.offset = off) (hc : P.cellsOf f.type = n) (h : OpC P f.type encs wf) (h1 : OpF P fs (off + n) m encs1 wf1) :
    OpF P (f :: fs) off (n + m) (fun a : α × β => encs a.1 ++ encs1 a.2) (fun a => wf a.1 ∧ wf1 a.2) := by
  intro H enc W spare held fuel cs hl hf
  obtain ⟨y, hy⟩ := hf f (by simp)
  rw [ho, hc] at hy
  obtain ⟨a, hK, hw⟩ := h H enc W spare held fuel _ _ hy
  obtain ⟨b, hK1, hw1⟩ := h1 H enc W spare held fuel cs (by omega) (fun g hg => hf g (by simp [hg]))
  refine ⟨(a, b), ?_, hw, hw1⟩
  have := hK.append hK1
  rwa [← List.drop_drop, List.take_append_drop] at this
theorem opc_struct {α : Type} {P : Program} {t : TypeId} {fs : Array Field} {n : Nat} {encs : α → List V} {wf : α → Prop} (hu : P.underlying t = some (.struct fs)) (hc : P.cellsOf t = n) (h : OpF P fs.toList 0 n encs wf) : OpC P t encs wf := by
  intro H enc W spare held fuel cs x hx
  obtain ⟨xs, m, _, _, hl, hlen, hf⟩ := DataW.trod_struct hu hx
  have := h H enc W spare held m cs (by omega) (fun f hf' => by
    obtain ⟨i, hi, rfl⟩ := List.mem_iff_getElem.1 hf'
    have h2 := hf i fs.toList[i] (by simp at hi ⊢)
    rw [List.getElem?_eq_getElem (by simp at hi; omega)] at h2
    exact ⟨_, h2⟩)
  simpa using this
theorem agg_of {P : Program} {W : World} {r : Reach} {base : Nat} {t : TypeId} {fs : Array Field} {v : Value} (hu : P.underlying t = some (.struct fs)) (hv : Value.okWide P W r base t v) : ∃ cs : Array Value, v = .agg cs := by
  obtain ⟨cs, rfl, _⟩ := okWide_struct hu hv
  exact ⟨cs, rfl⟩
theorem cell_rows {w : World} {g : Nat} {v : Value} (h : w.cell? ⟨g, 0, none⟩ = some v) : ∃ cs t z, w.heap[g]? = some (.cells cs t z) ∧ cs[0]? = some v := by
  unfold World.cell? at h
  split at h
  · rename_i cs t z hh
    refine ⟨cs, t, z, hh, ?_⟩
    simpa using h
  · cases h
theorem rows_cell {w : World} {g : Nat} {v : Value} {cs : Array Value} {t : TypeId} {z : Nat × Nat} (h : w.heap[g]? = some (.cells cs t z)) (h0 : cs[0]? = some v) : w.cell? ⟨g, 0, none⟩ = some v := by
  unfold World.cell?
  simp only [h]
  simpa using h0
/-- A law's call comes back with true, and what was there is there. -/
theorem law_calls {P : Program} {f : Nat} {az : List A} (h : Sp P f az (.v (.bool true)) []) (W : World) (hT : Tbl W (fun _ => False) (below W)) (us : List Value) (hus : ARs (fun _ => none) (fun _ => (0, 0)) (below W) W az us) :
    Calls P f us.toArray W fun e w' => e = .returned (.bool true) ∧ Below W.heap.size W w' := by
  have R0 : Rl W (fun _ => False) (below W) (fun i => ([] : List Ck)[i]?) (fun _ => (0, 0)) (below W) W :=
    ⟨hT, rfl, rfl, rfl, Nat.le_refl _, fun _ _ _ => rfl, fun _ h => h, fun _ h => .inl h, fun _ h => h, fun i => trivial, fun i c hc => (by cases hc), fun i j c d hc => (by cases hc)⟩
  refine (h.2 (below W) W us (fun _ => False) (fun _ => (0, 0)) R0 hus).mono ?_
  rintro e w' ⟨u, S', μ', rfl, R, _, hu⟩
  have : u = .bool true := hu
  exact ⟨by rw [this], R.os, R.tape, R.output, R.size, fun k hk => R.keep k hk (fun h => h)⟩
theorem ar_agg {S : Nat → Prop} {w : World} {ds : List V} {cs : Array Value} (h : RepL S w ds cs.toList) : AR (fun _ => none) (fun _ => (0, 0)) S w (.v (.ag ds)) (.agg cs) := ⟨cs.toList, by simp, h⟩
theorem ar_one {S : Nat → Prop} {w : World} {d : V} {v : Value} (h : RepL S w [d] [v]) : AR (fun _ => none) (fun _ => (0, 0)) S w (.v d) v := by
  obtain ⟨u, us', h1, h2, h3, h4⟩ := h
  cases h1
  exact h3
end Go.Proofs.YtcnhcilpaplpcaaGreatDoorEv
namespace Go.Proofs
open Go.Shelf
shelf_lay Lays.n145 Nm 145 at Tryz as Tryz.lays145
shelf_lay Lays.n146 Nm 146 at Tryz as Tryz.lays146
end Go.Proofs
namespace Go.Proofs.YtcnhcilpaplpcaaGreatDoorEv
open Go Go.Proofs Go.RowKit Go.Shelf Go.Lib
set_option maxRecDepth 100000
set_option maxHeartbeats 2000000
theorem sp_below3 {P : Program} {f : Nat} {fn : Func} (hf : P.funcs[f]? = some fn) (hb : fn.body.isSome = true) (hn : fn.name ≠ "runtime.NumGoroutine") {az : List A} {r : A}
    (hc : ∀ O S μ w us, Rl w O S (fun i => ([] : List Ck)[i]?) μ S w → ARs (fun i => ([] : List Ck)[i]?) μ S w az us → Calls P f us.toArray w fun e w' => ∃ u, e = .returned u ∧ (∀ D μ' S', AR D μ' S' w' r u) ∧ Below w.heap.size w w') : Sp P f az r [] := by
  refine ⟨⟨fn, hf, hb, hn⟩, fun S w us' O μ R h => ?_⟩
  refine (hc O S μ w us' R h).mono fun e w' ⟨u, he, hu, B⟩ => ⟨u, S, μ, he, ?_, ?_, hu _ _ _⟩
  · exact ⟨R.tb, B.os.trans R.os, B.tape.trans R.tape, B.output.trans R.output, Nat.le_trans R.size B.size, fun k hk ho => (B.block k hk).trans (R.keep k hk ho), R.sub, R.new, fun b hb => Nat.lt_of_lt_of_le (R.lt b hb) B.size, fun i => by simp [CR], fun i c hi => by simp at hi, fun i j c d hi => by simp at hi⟩
  · exact ⟨fun _ h => h, fun b hb => B.block b (R.lt b hb), fun i u h => by simp [AR] at h, fun i c hi => by simp at hi⟩
theorem max_of {w : World} {O S S' : Nat → Prop} {D : Nat → Option Ck} {μ : Nat → Nat × Nat} (R : Rl w O S D μ S' w) : ∃ m, w.cell? ⟨0, 0, none⟩ = some (.int .i64 m) := by
  obtain ⟨_, _, cs, t, z, h, m, e⟩ := R.tb _ (List.Mem.tail _ (List.Mem.head _))
  exact ⟨m, rows_cell h e⟩
theorem syn_of {w : World} {O S S' : Nat → Prop} {D : Nat → Option Ck} {μ : Nat → Nat × Nat} (R : Rl w O S D μ S' w) : ∃ t p, w.cell? ⟨2, 0, none⟩ = some (.iface t p) := by
  obtain ⟨_, _, cs, t, z, h, t2, p, e⟩ := R.tb _ (List.Mem.tail _ (List.Mem.tail _ (List.Mem.head _)))
  exact ⟨t2, p, rows_cell h e⟩
theorem rng_of {w : World} {O S S' : Nat → Prop} {D : Nat → Option Ck} {μ : Nat → Nat × Nat} (R : Rl w O S D μ S' w) : ∃ t p, w.cell? ⟨3, 0, none⟩ = some (.iface t p) := by
  obtain ⟨_, _, cs, t, z, h, t2, p, e⟩ := R.tb _ (List.Mem.tail _ (List.Mem.tail _ (List.Mem.tail _ (List.Mem.head _))))
  exact ⟨t2, p, rows_cell h e⟩
theorem s_cut (s : List UInt8) (c : UInt8) (hs : s.length < 4294967281) : Sp Tryz.prog 31 [.v (.str ⟨s.toArray⟩), .v (.str ⟨#[c]⟩)] (.tu [.v (.str ⟨(Lib.cut s [c]).1.toArray⟩), .v (.str ⟨(Lib.cut s [c]).2.1.toArray⟩), .v (.bool (Lib.cut s [c]).2.2)]) [] := by
  refine sp_below3 Tryz.func31 (by kernel_rfl) (by decide) fun O S μ w us R h => ?_
  simp only [ARs, AR, Rep] at h
  obtain ⟨u, us, rfl, rfl, v, us2, rfl, rfl, rfl⟩ := h
  obtain ⟨m, hm⟩ := max_of R
  refine (Any.strings_Cut Tryz.lays145 ⟨s.toArray⟩ ⟨#[c]⟩ m w (by simpa [ByteArray.size] using hs) hm).mono ?_
  rintro e w' ⟨rfl, n, rfl⟩
  exact ⟨_, rfl, fun D μ' S' => by simp [AR, ARs, Rep], below_drewN (Below.refl _ _) n⟩
theorem splitB_mk (c : UInt8) (s : List UInt8) : Lib.splitB ⟨#[c]⟩ 0 (Lib.countB ⟨s.toArray⟩ ⟨#[c]⟩) ⟨s.toArray⟩ = (spl c s).map fun p => (⟨p.toArray⟩ : ByteArray) := by
  have h := Lib.splitB_data ⟨#[c]⟩ 0 (Lib.countB ⟨s.toArray⟩ ⟨#[c]⟩) ⟨s.toArray⟩
  have e : Lib.splitK [c] 0 (Lib.count s [c]) s = spl c s := split_spl c s
  have h2 : (Lib.splitB ⟨#[c]⟩ 0 (Lib.countB ⟨s.toArray⟩ ⟨#[c]⟩) ⟨s.toArray⟩).map (·.data.toList) = spl c s := h.trans e
  rw [← h2, List.map_map]
  conv => lhs; rw [← List.map_id (Lib.splitB ⟨#[c]⟩ 0 (Lib.countB ⟨s.toArray⟩ ⟨#[c]⟩) ⟨s.toArray⟩)]
  refine List.map_congr_left fun x _ => ?_
  simp
theorem repR_strs2 {S : Nat → Prop} {w : World} : ∀ xs : List ByteArray, RepR S w 0 (xs.map V.str) (xs.map Value.string)
  | [] => rfl
  | x :: xs => ⟨.string x, xs.map Value.string, rfl, rfl, rfl, rfl, repR_strs2 xs⟩
theorem s_split (s : List UInt8) (c : UInt8) (hs : s.length < 4294967281) : Sp Tryz.prog 52 [.v (.str ⟨s.toArray⟩), .v (.str ⟨#[c]⟩)] (.sli 0) [.row 0 9 (((spl c s).map fun p => (⟨p.toArray⟩ : ByteArray)).map V.str)] := by
  refine ⟨⟨_, Tryz.func52, by kernel_rfl, by decide⟩, fun S w us O μ R h => ?_⟩
  simp only [ARs, AR, Rep] at h
  obtain ⟨u, us, rfl, rfl, v, us2, rfl, rfl, rfl⟩ := h
  obtain ⟨m, hm⟩ := max_of R
  have c0 := Any.strings_Split Tryz.lays146 (by kernel_rfl) ⟨s.toArray⟩ ⟨#[c]⟩ m w (by simpa [ByteArray.size] using hs) hm (Nat.le_refl 1)
  rw [splitB_mk] at c0
  have hl : Lib.countB ⟨s.toArray⟩ ⟨#[c]⟩ + 1 = (spl c s).length := count_len c s
  rw [hl] at c0
  have hlen := spl_len c s
  generalize spl c s = L at *
  refine c0.mono ?_
  rintro e w' ⟨rfl, rfl⟩
  obtain ⟨R2, T2⟩ := R.alloc (i := 0) (n := L.length) (c := .row 0 9 ((L.map fun p => (⟨p.toArray⟩ : ByteArray)).map V.str)) (o := .cells ((L.map fun p => (⟨p.toArray⟩ : ByteArray)).map Value.string).toArray 9) rfl (by
    unfold CR
    rw [fset_same]
    refine ⟨_, (L.map fun p => (⟨p.toArray⟩ : ByteArray)).map Value.string, by rw [fset_same]; exact heap_alloc_new w _, ?_, by rw [fset_same]; simp, by rw [fset_same]; simp only [maxLen]; omega, repR_strs2 _, List.take_of_length_le (by simp)⟩
    rw [fset_same]
    simp [cz])
  have eD : fset (fun i => ([] : List Ck)[i]?) 0 (some (.row 0 9 ((L.map fun p => (⟨p.toArray⟩ : ByteArray)).map V.str))) = fun i => ([.row 0 9 ((L.map fun p => (⟨p.toArray⟩ : ByteArray)).map V.str)] : List Ck)[i]? := by
    funext i
    cases i <;> simp [fset]
  rw [eD] at R2 T2
  refine ⟨_, S, _, rfl, R2, T2, ?_⟩
  simp [AR, fset, Value.oneCell']
end Go.Proofs.YtcnhcilpaplpcaaGreatDoorEv
namespace Go.Proofs
open Go.Shelf
shelf_lay LaysC.n174 Nm 174 at Tryz as Tryz.lays174
end Go.Proofs
namespace Go.Proofs.YtcnhcilpaplpcaaGreatDoorEv
open Go Go.Proofs Go.RowKit Go.Shelf Go.Lib
set_option maxRecDepth 100000
set_option maxHeartbeats 2000000
def numV (s : List UInt8) : Int := match Lib.parseIntB 64 s with
  | .ok v => v
  | .syntax => 0
  | .range => Lib.intSat 64 s
def numOk (s : List UInt8) : Bool := match Lib.parseIntB 64 s with
  | .ok v => Lib.itoa v == s
  | _ => false
theorem tab_at {w w' : World} (h : TabIs Tryz.prog w "internal/strconv.uint64pow10" .u64 pow10Tab) (B : Below w.heap.size w w') : TabIs Tryz.prog w' "internal/strconv.uint64pow10" .u64 pow10Tab := by
  have hg : Tryz.prog.globalNamed "internal/strconv.uint64pow10" = some 1 := by kernel_rfl
  unfold TabIs World.var? at h ⊢
  rw [hg] at h ⊢
  simp only [Option.bind_some] at h ⊢
  split at h
  · rename_i cs t z hh
    rw [B.block 1 (Array.getElem?_eq_some_iff.1 hh).1, hh]
    exact h
  · cases h
theorem text_calls (n : Int) (h0 : -9223372036854775808 ≤ n) (h1 : n ≤ 9223372036854775807) (w : World) (ht : TabIs Tryz.prog w "internal/strconv.uint64pow10" .u64 pow10Tab) : Calls Tryz.prog 47 #[.int .i64 n] w fun e w' => e = .returned (.string ⟨(Lib.itoa n).toArray⟩) ∧ Below w.heap.size w w' := by
  have hF := Any.strconv_FormatInt_10 Tryz.lays173 n h0 h1 w ht
  change Calls Tryz.prog 69 _ _ _ at hF
  go_enter Tryz.func47, Tryz.ntmps47
  go_wp2_with (go_at_call 69; refine hF.mono ?_; rintro e w' ⟨rfl, k, os, rfl⟩)
  go_ret
  exact ⟨rfl, below_grow k os⟩
theorem below_bw (w : World) (t : TypeId) (s : ByteArray) : Below w.heap.size w (Lib.bytesWorld w t s) := ⟨rfl, rfl, rfl, by rw [Lib.bytesWorld_size]; omega, fun j hj => Lib.bytesWorld_at_old w t s j hj⟩
theorem number_calls (s : List UInt8) (hs : s.length ≤ 281474976710656) (w : World) (ht : TabIs Tryz.prog w "internal/strconv.uint64pow10" .u64 pow10Tab) (h2 : ∃ t p, w.cell? ⟨2, 0, none⟩ = some (.iface t p)) (h3 : ∃ t p, w.cell? ⟨3, 0, none⟩ = some (.iface t p)) :
    Calls Tryz.prog 54 #[.string ⟨s.toArray⟩] w fun e w' => e = .returned (.tuple #[.int .i64 (numV s), .bool (numOk s)]) ∧ Below w.heap.size w w' := by
  unfold numV numOk
  have hz : (⟨s.toArray⟩ : ByteArray).size = s.length := by simp [ByteArray.size]
  cases hp : Lib.parseIntB 64 s with
  | ok v =>
    have hP : Calls Tryz.prog 74 #[.string ⟨s.toArray⟩, .int .i64 10, .int .i64 64] w fun e w' => e = .returned (.tuple #[.int .i64 v, .nilIface]) ∧ Below w.heap.size w w' := by
      refine Calls.mono (Any.strconv_ParseInt_10_at64_ok Tryz.lays174 ⟨s.toArray⟩ (by omega) v hp w) ?_
      rintro e w' ⟨he, hw⟩
      refine ⟨he, ?_⟩
      rcases hw with hw | ⟨t, hw⟩
      · rw [hw]; exact Below.refl _ _
      · rw [hw]; exact below_bw w _ t
    have hb := Lib.parseIntB_bounds hp
    have hT : ∀ w', Below w.heap.size w w' → Calls Tryz.prog 47 #[.int .i64 v] w' fun e w2 => e = .returned (.string ⟨(Lib.itoa v).toArray⟩) ∧ Below w'.heap.size w' w2 := fun w' B => text_calls v (by have := hb.1; simp at this; omega) (by have := hb.2; simp at this; omega) w' (tab_at ht B)
    have HT : Aside _ := hT
    clear hT hb hp
    go_enter Tryz.func54, Tryz.ntmps54
    go_wp2_with (first
      | (go_at_call 74; refine hP.mono ?_; rintro e w1 ⟨rfl, hB⟩)
      | (go_at_call 47; refine (HT.out _ hB).mono ?_; rintro e w2 ⟨rfl, hB2⟩))
    go_ret2
    exact ⟨rfl, hB.trans (hB2.mono hB.size)⟩
  | «syntax» =>
    obtain ⟨t0, p0, hc⟩ := h2
    have hP : Calls Tryz.prog 74 #[.string ⟨s.toArray⟩, .int .i64 10, .int .i64 64] w fun e w' => ∃ (te : TypeId) (N : Nat), e = .returned (.tuple #[.int .i64 (0), .iface te (.pointer (some ⟨N, 0, none⟩))]) ∧ Below w.heap.size w w' := by
      refine Calls.mono (Any.strconv_ParseInt_10_at64_syntax Tryz.lays174 ⟨s.toArray⟩ (by omega) hp (.iface t0 p0) w hc (.inr ⟨_, _, rfl⟩)) ?_
      rintro e w' ⟨N, he, _, _, hB⟩
      exact ⟨_, N, he, hB⟩
    clear hp hc
    show Calls Tryz.prog 54 #[.string ⟨s.toArray⟩] w fun e w' => e = .returned (.tuple #[.int .i64 (0), .bool false]) ∧ Below w.heap.size w w'
    try generalize Lib.intSat 64 s = sat at *
    go_enter Tryz.func54, Tryz.ntmps54
    go_wp2_with (go_at_call 74; refine hP.mono ?_; rintro e w1 ⟨te, N, rfl, hB⟩)
    go_ret2
    exact ⟨rfl, hB⟩
  | range =>
    obtain ⟨t0, p0, hc⟩ := h3
    have hP : Calls Tryz.prog 74 #[.string ⟨s.toArray⟩, .int .i64 10, .int .i64 64] w fun e w' => ∃ (te : TypeId) (N : Nat), e = .returned (.tuple #[.int .i64 (Lib.intSat 64 s), .iface te (.pointer (some ⟨N, 0, none⟩))]) ∧ Below w.heap.size w w' := by
      refine Calls.mono (Any.strconv_ParseInt_10_at64_range Tryz.lays174 ⟨s.toArray⟩ (by omega) hp (.iface t0 p0) w hc (.inr ⟨_, _, rfl⟩)) ?_
      rintro e w' ⟨N, he, _, _, hB⟩
      exact ⟨_, N, he, hB⟩
    clear hp hc
    show Calls Tryz.prog 54 #[.string ⟨s.toArray⟩] w fun e w' => e = .returned (.tuple #[.int .i64 (Lib.intSat 64 s), .bool false]) ∧ Below w.heap.size w w'
    try generalize Lib.intSat 64 s = sat at *
    go_enter Tryz.func54, Tryz.ntmps54
    go_wp2_with (go_at_call 74; refine hP.mono ?_; rintro e w1 ⟨te, N, rfl, hB⟩)
    go_ret2
    exact ⟨rfl, hB⟩
theorem s_number (s : List UInt8) (hs : s.length ≤ 281474976710656) : Sp Tryz.prog 54 [.v (.str ⟨s.toArray⟩)] (.tu [vi (numV s), vb (numOk s)]) [] := by
  refine sp_below3 Tryz.func54 (by kernel_rfl) (by decide) fun O S μ w us R h => ?_
  simp only [ARs, AR, Rep] at h
  obtain ⟨u, us, rfl, rfl, rfl⟩ := h
  refine (number_calls s hs w (tab_of R) (syn_of R) (rng_of R)).mono ?_
  rintro e w' ⟨rfl, hB⟩
  exact ⟨_, rfl, fun D μ' S' => by simp [AR, ARs, Rep], hB⟩
end Go.Proofs.YtcnhcilpaplpcaaGreatDoorEv
namespace Go.Proofs.YtcnhcilpaplpcaaGreatDoorEv
open Go Go.Proofs
set_option maxRecDepth 10000
set_option maxHeartbeats 2000000
theorem s_pt_no (l : List UInt8) (h : l.length ≤ 1048576) (hn : (spl 44 l).length ≠ 2) : Sp Tryz.prog 73 [aT (bst l), aT ⟨#[44]⟩, vi 2] (.tu [.nil 0, vb false]) [] := by
  have w1 : Sp Tryz.prog 52 [aT (bst l), aT ⟨#[44]⟩] (.sli 0) [.row 0 9 (sts ((spl 44 l).map bst))] := s_split l 44 (by omega)
  generalize spl 44 l = L at *
  refine sp_of (m := no) mixed Tryz.func73 k73 ?_
  simp -dsimp [q]
  refine call_of (w1) rfl (by simp) ?_
  try simp -dsimp
  try (first | exact fp_one (by decide) | refine fp_and (by decide) ?_)
  try (intro h9; omega)
theorem s_pt (l : List UInt8) (h : l.length ≤ 1048576) (hn : (spl 44 l).length = 2) (r : A) (hs : List Ck)
    (h1 : (spl 44 l).all numOk = true → r = .tu [.sli 0, vb true] ∧ hs = [.row 0 2 (is ((spl 44 l).map numV))]) (h2 : ∀ p ∈ spl 44 l, numOk p = false → r = .tu [.nil 0, vb false] ∧ hs = []) :
    Sp Tryz.prog 73 [aT (bst l), aT ⟨#[44]⟩, vi 2] r hs := by
  have w1 : Sp Tryz.prog 52 [aT (bst l), aT ⟨#[44]⟩] (.sli 0) [.row 0 9 (sts ((spl 44 l).map bst))] := s_split l 44 (by omega)
  have hl : ∀ p ∈ spl 44 l, p.length ≤ 1048576 := fun p hp => Nat.le_trans (spl_mem 44 hp) h
  generalize spl 44 l = L at *
  by_cases hall : L.all numOk = true
  · obtain ⟨rfl, rfl⟩ := h1 hall
    refine sp_of (m := no) mixed Tryz.func73 k73 ?_
    simp -dsimp [q]
    refine call_of (w1) rfl (by simp) ?_
    try simp -dsimp
    try (first | exact fp_one (by decide) | refine fp_and (by decide) ?_)
    refine ⟨by omega, fun _ => ?_⟩
    refine awp_it (false :: false :: false :: false :: false :: false :: false :: false :: false :: true :: false :: false :: false :: false :: false :: false :: false :: false :: false :: false :: false :: false :: true :: true :: true :: []) (fun i : Nat => [(24, vi i)]) (fun i => [(0, .row 0 2 (is ((L.take i).map numV)))]) (fun i => i ≤ L.length) (fun i => L.length - i) 0 ?_
    intro s0 e
    simp -dsimp at e
    subst e
    refine ⟨?_, ?_⟩
    · simp
    rintro i hi
    simp -dsimp [-Prod.forall, -Prod.exists]
    refine ⟨fun h3 => ⟨h3, fun p hp => ?_⟩, fun h3 => ?_⟩
    · have w : Sp Tryz.prog 54 [aT (bst p)] (.tu [vi (numV p), vb (numOk p)]) [] := s_number p (by have := hl p (List.mem_of_getElem? hp); omega)
      rw [List.all_eq_true.1 hall p (List.mem_of_getElem? hp)] at w
      refine call_of (w) rfl (by simp) ?_
      try simp -dsimp
      try (first | exact fp_one (by decide) | refine fp_and (by decide) ?_)
      refine ⟨by omega, i + 1, ⟨by rw [w64 (by omega) (by omega)]; simp, ?_⟩, by omega, by omega⟩
      rw [List.take_add_one, List.getElem?_map, hp]
      rfl
    · rw [List.take_of_length_le (by simp; omega)]
  · obtain ⟨p0, hp0, hb0⟩ : ∃ p ∈ L, numOk p = false := by
      simpa using hall
    obtain ⟨rfl, rfl⟩ := h2 p0 hp0 hb0
    refine sp_of (m := no) mixed Tryz.func73 k73 ?_
    simp -dsimp [q]
    refine call_of (w1) rfl (by simp) ?_
    try simp -dsimp
    try (first | exact fp_one (by decide) | refine fp_and (by decide) ?_)
    refine fun _ => ?_
    refine awp_it (false :: false :: false :: false :: false :: false :: false :: false :: false :: true :: false :: false :: false :: false :: false :: false :: false :: false :: false :: false :: false :: false :: true :: true :: true :: []) (fun i : Nat => [(24, vi i)]) (fun i => [(0, .row 0 2 (is ((L.take i).map numV)))]) (fun i => i ≤ L.length ∧ (L.take i).all numOk = true) (fun i => L.length - i) 0 ?_
    intro s0 e
    simp -dsimp at e
    subst e
    refine ⟨?_, ?_⟩
    · simp
    rintro i ⟨hi, ha⟩
    simp -dsimp [-Prod.forall, -Prod.exists]
    have h3 : i < L.length := by
      rcases Nat.lt_or_ge i L.length with h | h
      · exact h
      · rw [List.take_of_length_le h] at ha
        exact absurd ha hall
    refine ⟨fun _ => ⟨h3, fun p hp => ?_⟩, h3⟩
    · have w : Sp Tryz.prog 54 [aT (bst p)] (.tu [vi (numV p), vb (numOk p)]) [] := s_number p (by have := hl p (List.mem_of_getElem? hp); omega)
      cases hk : numOk p with
      | true =>
        rw [hk] at w
        refine call_of (w) rfl (by simp) ?_
        try simp -dsimp
        try (first | exact fp_one (by decide) | refine fp_and (by decide) ?_)
        refine ⟨by omega, i + 1, ⟨by rw [w64 (by omega) (by omega)]; simp, ?_⟩, ⟨by omega, fun x hx => List.all_eq_true.1 (all_take hp ha hk) x hx⟩, by omega⟩
        rw [List.take_add_one, List.getElem?_map, hp]
        rfl
      | false =>
        rw [hk] at w
        refine call_of (w) rfl (by simp) ?_
        try simp -dsimp
        try (first | exact fp_one (by decide) | refine fp_and (by decide) ?_)
end Go.Proofs.YtcnhcilpaplpcaaGreatDoorEv
namespace Go.Proofs.YtcnhcilpaplpcaaGreatDoorEv
open Go Go.Proofs
set_option maxRecDepth 10000
set_option maxHeartbeats 2000000
def rvI (L : List (List UInt8)) : Option (Int × Int) := match L with
  | [a, b] => if (numOk a && numOk b && okV (numV a) (numV b)) = true then some (numV a, numV b) else none
  | _ => none
theorem rvI_two {L : List (List UInt8)} {a b : List UInt8} (h : L.length = 2) (ha : L[0]? = some a) (hb : L[1]? = some b) : rvI L = if (numOk a && numOk b && okV (numV a) (numV b)) = true then some (numV a, numV b) else none := by
  match L, h with
  | [x, y], _ =>
    cases ha
    cases hb
    rfl
theorem rvI_len {L : List (List UInt8)} (h : L.length ≠ 2) : rvI L = none := by
  unfold rvI
  split
  · simp at h
  · rfl
theorem rvI_bad {L : List (List UInt8)} {p : List UInt8} (h : p ∈ L) (hb : numOk p = false) : rvI L = none := by
  unfold rvI
  split
  · simp only [List.mem_cons, List.not_mem_nil, or_false] at h
    rcases h with rfl | rfl <;> simp [hb]
  · rfl
theorem s_rv (l : List UInt8) (h : l.length ≤ 1048576) : Sp Tryz.prog 53 [aT (bst l)] (rvA (rvI (spl 44 l))) [] := by
  by_cases hl2 : (spl 44 l).length = 2
  case neg =>
    have w2 := s_pt_no l h hl2
    rw [rvI_len hl2]
    refine sp_of (m := no) mixed Tryz.func53 k53 ?_
    simp -dsimp [q, rvA]
    refine call_of (w2) rfl (by simp) ?_
    try simp -dsimp
    try (first | exact fp_one (by decide) | refine fp_and (by decide) ?_)
  have hpt := s_pt l h hl2
  generalize spl 44 l = L at *
  by_cases hall : L.all numOk = true
  · have w2 := hpt _ _ (fun _ => ⟨rfl, rfl⟩) (fun p hp hb => by rw [List.all_eq_true.1 hall p hp] at hb; cases hb)
    obtain ⟨a, ha⟩ : ∃ a, L[0]? = some a := ⟨_, List.getElem?_eq_getElem (by omega)⟩
    obtain ⟨b, hb⟩ : ∃ b, L[1]? = some b := ⟨_, List.getElem?_eq_getElem (by omega)⟩
    have w3 := s_isVec (numV a) (numV b)
    rw [rvI_two hl2 ha hb, List.all_eq_true.1 hall a (List.mem_of_getElem? ha), List.all_eq_true.1 hall b (List.mem_of_getElem? hb), Bool.true_and, Bool.true_and]
    cases hv : okV (numV a) (numV b) with
    | true =>
      rw [hv] at w3
      rw [if_pos rfl]
      refine sp_of (m := no) mixed Tryz.func53 k53 ?_
      simp -dsimp [q, rvA]
      refine call_of (w2) rfl (by simp) ?_
      try simp -dsimp
      try (first | exact fp_one (by decide) | refine fp_and (by decide) ?_)
      refine ⟨by omega, fun a1 ha1 => ⟨by omega, by omega, fun b1 hb1 => ?_⟩⟩
      rw [ha] at ha1
      cases ha1
      rw [hb] at hb1
      cases hb1
      refine call_of (w3) rfl (by simp) ?_
      try simp -dsimp
      try (first | exact fp_one (by decide) | refine fp_and (by decide) ?_)
      refine ⟨by omega, fun a1 ha1 => ⟨by omega, by omega, fun b1 hb1 => ?_⟩⟩
      rw [ha] at ha1
      cases ha1
      rw [hb] at hb1
      cases hb1
      try simp -dsimp
      try decide
    | false =>
      rw [hv] at w3
      rw [if_neg (by decide)]
      refine sp_of (m := no) mixed Tryz.func53 k53 ?_
      simp -dsimp [q, rvA]
      refine call_of (w2) rfl (by simp) ?_
      try simp -dsimp
      try (first | exact fp_one (by decide) | refine fp_and (by decide) ?_)
      refine ⟨by omega, fun a1 ha1 => ⟨by omega, by omega, fun b1 hb1 => ?_⟩⟩
      rw [ha] at ha1
      cases ha1
      rw [hb] at hb1
      cases hb1
      refine call_of (w3) rfl (by simp) ?_
      try simp -dsimp
      try (first | exact fp_one (by decide) | refine fp_and (by decide) ?_)
  · obtain ⟨p0, hp0, hb0⟩ : ∃ p ∈ L, numOk p = false := by
      simpa using hall
    have w2 := hpt _ _ (fun h => absurd h hall) (fun p hp hb => ⟨rfl, rfl⟩)
    rw [rvI_bad hp0 hb0]
    clear hall
    refine sp_of (m := no) mixed Tryz.func53 k53 ?_
    simp -dsimp [q, rvA]
    refine call_of (w2) rfl (by simp) ?_
    try simp -dsimp
    try (first | exact fp_one (by decide) | refine fp_and (by decide) ?_)
end Go.Proofs.YtcnhcilpaplpcaaGreatDoorEv
namespace Go.Proofs.YtcnhcilpaplpcaaGreatDoorEv
open Go Go.Proofs
set_option maxRecDepth 10000
def rowL (x : Int) : Nat → List (Int × Int)
  | 0 => []
  | n + 1 => rowL x n ++ [(x, (n : Int))]
def cellsL (c : Nat) : Nat → List (Int × Int)
  | 0 => []
  | n + 1 => cellsL c n ++ rowL n c
theorem rowL_len (x : Int) : ∀ n, (rowL x n).length = n
  | 0 => rfl
  | n + 1 => by simp [rowL, rowL_len x n]
theorem cellsL_len (c : Nat) : ∀ n, (cellsL c n).length = n * c
  | 0 => by simp [cellsL]
  | n + 1 => by simp [cellsL, cellsL_len c n, rowL_len, Nat.succ_mul]
theorem nat_ac {a c : Int} (ha : 1 ≤ a ∧ a ≤ 64) (hc : 1 ≤ c ∧ c ≤ 64) {x : Nat} (hx : (x : Int) ≤ a) : x * c.toNat ≤ 4096 := by
  have := Nat.mul_le_mul (show x ≤ 64 by omega) (show c.toNat ≤ 64 by omega)
  omega
/-! reduced vectors -/
def redX (a b c x y : Int) : Int := (x - y / c * b) % a
def num (a b c x y : Int) : Int := redX a b c x y * c + y % c
theorem div_sub {y c : Int} (hc : 0 < c) : (y - y % c).tdiv c = y / c := by
  have h := Int.mul_ediv_add_emod y c
  rw [show y - y % c = y / c * c by rw [Int.mul_comm]; omega, Int.mul_tdiv_cancel _ (by omega)]
theorem kb_le {y b c : Int} (hy : -1000000000 ≤ y ∧ y ≤ 1000000000) (hb : 0 ≤ b ∧ b < 64) (hc : 1 ≤ c) : (-1000000000 ≤ y / c ∧ y / c ≤ 1000000000) ∧ -64000000000 ≤ y / c * b ∧ y / c * b ≤ 64000000000 := by
  have h1 : -1000000000 ≤ y / c := Int.le_ediv_of_mul_le (by omega) (by omega)
  have h2 : y / c ≤ 1000000000 := Int.ediv_le_of_le_mul (by omega) (by omega)
  have h3 := Int.mul_le_mul_of_nonneg_right h1 hb.1
  have h4 := Int.mul_le_mul_of_nonneg_right h2 hb.1
  refine ⟨⟨h1, h2⟩, by omega, by omega⟩
theorem s_reduce (a b c x y : Int) (ha : 1 ≤ a ∧ a ≤ 64) (hb : 0 ≤ b ∧ b < a) (hc : 1 ≤ c ∧ c ≤ 64) (hx : -1000000000 ≤ x ∧ x ≤ 1000000000) (hy : -1000000000 ≤ y ∧ y ≤ 1000000000) : Sp Tryz.prog 106 [aL a b c, aV x y] (aV (redX a b c x y) (y % c)) [] := by
  refine sp_of (m := no) mixed Tryz.func106 k106 ?_
  have h1 := Int.emod_nonneg y (show c ≠ 0 by omega)
  have h2 := Int.emod_lt_of_pos y (show 0 < c by omega)
  obtain ⟨h3, h4⟩ := kb_le (b := b) hy (by omega) hc.1
  have h5 := div_sub (y := y) (show 0 < c by omega)
  simp -dsimp [q]
  refine call_of (s_mod _ _ (by omega)) rfl (by simp) ?_
  try simp -dsimp
  try (first | exact fp_one (by decide) | refine fp_and (by decide) ?_)
  rw [w64 (n := y - y % c) (by omega) (by omega), h5, w64 (n := y / c) (by omega) (by omega), w64 (n := y / c * b) (by omega) (by omega), w64 (n := x - y / c * b) (by omega) (by omega)]
  refine ⟨by omega, ?_⟩
  refine call_of (s_mod _ _ (by omega)) rfl (by simp) ?_
  try simp -dsimp
  try (first | exact fp_one (by decide) | refine fp_and (by decide) ?_)
  rfl
theorem s_sreduce (a b c x y : Int) (ha : 1 ≤ a ∧ a ≤ 64) (hb : 0 ≤ b ∧ b < a) (hc : 1 ≤ c ∧ c ≤ 64) (hx : -1000000000 ≤ x ∧ x ≤ 1000000000) (hy : -1000000000 ≤ y ∧ y ≤ 1000000000) : Sp Tryz.prog 101 [aL a b c, aV x y] (aV (redX a b c x y) (y % c)) [] := by
  refine sp_of (m := no) mixed Tryz.func101 k101 ?_
  have h1 := Int.emod_nonneg y (show c ≠ 0 by omega)
  have h2 := Int.emod_lt_of_pos y (show 0 < c by omega)
  obtain ⟨h3, h4⟩ := kb_le (b := b) hy (by omega) hc.1
  have h5 := div_sub (y := y) (show 0 < c by omega)
  simp -dsimp [q]
  refine call_of (s_smod _ _ (by omega)) rfl (by simp) ?_
  try simp -dsimp
  try (first | exact fp_one (by decide) | refine fp_and (by decide) ?_)
  rw [w64 (n := y - y % c) (by omega) (by omega), h5, w64 (n := y / c) (by omega) (by omega), w64 (n := y / c * b) (by omega) (by omega), w64 (n := x - y / c * b) (by omega) (by omega)]
  refine ⟨by omega, ?_⟩
  refine call_of (s_smod _ _ (by omega)) rfl (by simp) ?_
  try simp -dsimp
  try (first | exact fp_one (by decide) | refine fp_and (by decide) ?_)
  rfl
theorem red_lt {a b c x y : Int} (ha : 1 ≤ a) (hc : 1 ≤ c) : (0 ≤ redX a b c x y ∧ redX a b c x y < a) ∧ 0 ≤ y % c ∧ y % c < c :=
  ⟨⟨Int.emod_nonneg _ (by omega), Int.emod_lt_of_pos _ (by omega)⟩, Int.emod_nonneg _ (by omega), Int.emod_lt_of_pos _ (by omega)⟩
theorem num_lt' {a c u v : Int} (hu : 0 ≤ u ∧ u < a) (hv : 0 ≤ v ∧ v < c) : (0 ≤ u * c ∧ u * c ≤ a * c) ∧ 0 ≤ u * c + v ∧ u * c + v < a * c := by
  have h1 := Int.mul_nonneg hu.1 (show 0 ≤ c by omega)
  have h2 : (u + 1) * c ≤ a * c := Int.mul_le_mul_of_nonneg_right (by omega) (by omega)
  rw [Int.add_mul] at h2
  omega
end Go.Proofs.YtcnhcilpaplpcaaGreatDoorEv
namespace Go.Proofs.YtcnhcilpaplpcaaGreatDoorEv
open Go Go.Proofs
set_option maxRecDepth 10000
theorem mul_bd {x y : Int} {a b : Nat} (hx : x.natAbs ≤ a) (hy : y.natAbs ≤ b) : (x * y).natAbs ≤ a * b := by
  rw [Int.natAbs_mul]; exact Nat.mul_le_mul hx hy
abbrev vvs (l : List (Int × Int)) : V := .sl 2 (vs l)
theorem s_unit : Sp Tryz.prog 82 [] (aM 1 0 0 1) [] := by
  refine sp_of (m := no) mixed Tryz.func82 k82 ?_
  simp -dsimp [q]
theorem s_sunit : Sp Tryz.prog 100 [] (aM 1 0 0 1) [] := by
  refine sp_of (m := no) mixed Tryz.func100 k100 ?_
  simp -dsimp [q]
section
variable (p q' r s x y : Int) (hm : (p.natAbs ≤ 1000 ∧ q'.natAbs ≤ 1000) ∧ r.natAbs ≤ 1000 ∧ s.natAbs ≤ 1000) (hv : x.natAbs ≤ 1000000 ∧ y.natAbs ≤ 1000000)
include hm hv
theorem s_apply : Sp Tryz.prog 108 [aM p q' r s, aV x y] (aV (p * x + q' * y) (r * x + s * y)) [] := by
  refine sp_of (m := no) mixed Tryz.func108 k108 ?_
  have h1 := mul_bd hm.1.1 hv.1
  have h2 := mul_bd hm.1.2 hv.2
  have h3 := mul_bd hm.2.1 hv.1
  have h4 := mul_bd hm.2.2 hv.2
  simp -dsimp [q]
  rw [w64 (n := p * x) (by omega) (by omega), w64 (n := q' * y) (by omega) (by omega), w64 (n := r * x) (by omega) (by omega), w64 (n := s * y) (by omega) (by omega), w64 (by omega) (by omega), w64 (by omega) (by omega)]
  exact ⟨rfl, rfl⟩
theorem s_sapply : Sp Tryz.prog 104 [aM p q' r s, aV x y] (aV (p * x + q' * y) (r * x + s * y)) [] := by
  refine sp_of (m := no) mixed Tryz.func104 k104 ?_
  have h1 := mul_bd hm.1.1 hv.1
  have h2 := mul_bd hm.1.2 hv.2
  have h3 := mul_bd hm.2.1 hv.1
  have h4 := mul_bd hm.2.2 hv.2
  simp -dsimp [q]
  rw [w64 (n := p * x) (by omega) (by omega), w64 (n := q' * y) (by omega) (by omega), w64 (n := r * x) (by omega) (by omega), w64 (n := s * y) (by omega) (by omega), w64 (by omega) (by omega), w64 (by omega) (by omega)]
  exact ⟨rfl, rfl⟩
end
section
variable (p q' r s : Int) (hm : (p.natAbs ≤ 1000 ∧ q'.natAbs ≤ 1000) ∧ r.natAbs ≤ 1000 ∧ s.natAbs ≤ 1000)
include hm
end
/-! divisors -/
theorem gcd_step (a b : Int) : Int.gcd b (a.tmod b) = Int.gcd a b := by
  rw [Int.gcd_comm a b]
  have h := Int.tmod_add_mul_tdiv a b
  have : a.tmod b = a - a.tdiv b * b := by rw [Int.mul_comm]; omega
  rw [this, Int.gcd_sub_mul_right_right]
theorem tmod_abs (a : Int) {b : Int} (hb : b ≠ 0) : (a.tmod b).natAbs < b.natAbs := by
  rw [Int.natAbs_tmod]
  exact Nat.mod_lt _ (by omega)
end Go.Proofs.YtcnhcilpaplpcaaGreatDoorEv
namespace Go.Proofs.YtcnhcilpaplpcaaGreatDoorEv
open Go Go.Proofs
set_option maxRecDepth 10000
def eu : Nat → Int × Int → Int × Int → (Int × Int) × (Int × Int)
  | 0, h, v => (h, v)
  | n + 1, h, v => if v.2 = 0 then (h, v) else eu n v (h.1 - h.2.tdiv v.2 * v.1, h.2.tmod v.2)
theorem eu_zero {n : Nat} {h v : Int × Int} (hv : v.2 = 0) : eu n h v = (h, v) := by
  cases n <;> simp [eu, hv]
theorem eu_fuel : ∀ (n m : Nat) (h v : Int × Int), v.2.natAbs ≤ n → v.2.natAbs ≤ m → eu n h v = eu m h v
  | 0, m, h, v, hn, _ => by rw [eu_zero (by omega), eu_zero (by omega)]
  | n + 1, 0, h, v, _, hm => by rw [eu_zero (by omega), eu_zero (by omega)]
  | n + 1, m + 1, h, v, hn, hm => by
    by_cases hv : v.2 = 0
    · rw [eu_zero hv, eu_zero hv]
    · have h1 := tmod_abs h.2 hv
      simp only [eu, if_neg hv]
      exact eu_fuel n m _ _ (by simp only; omega) (by simp only; omega)
theorem eu_step {h v : Int × Int} (hv : v.2 ≠ 0) : eu v.2.natAbs h v = eu (h.2.tmod v.2).natAbs v (h.1 - h.2.tdiv v.2 * v.1, h.2.tmod v.2) := by
  have h1 := tmod_abs h.2 hv
  obtain ⟨n, hn⟩ : ∃ n, v.2.natAbs = n + 1 := ⟨v.2.natAbs - 1, by omega⟩
  rw [hn]
  simp only [eu, if_neg hv]
  exact eu_fuel _ _ _ _ (by simp only; omega) (Nat.le_refl _)
def pot (h v : Int × Int) : Nat := h.1.natAbs * v.2.natAbs + v.1.natAbs * h.2.natAbs
theorem pot_step {h v : Int × Int} : pot v (h.1 - h.2.tdiv v.2 * v.1, h.2.tmod v.2) ≤ pot h v := by
  obtain ⟨a, b⟩ := h
  obtain ⟨c, d⟩ := v
  simp only [pot]
  have h1 : (a - b.tdiv d * c).natAbs ≤ a.natAbs + b.natAbs / d.natAbs * c.natAbs := by
    have := Int.natAbs_sub_le a (b.tdiv d * c)
    rw [Int.natAbs_mul, Int.natAbs_tdiv] at this
    exact this
  have h2 := Nat.mul_le_mul_right d.natAbs h1
  rw [Int.natAbs_tmod]
  have h3 := Nat.mod_add_div b.natAbs d.natAbs
  have h4 : c.natAbs * b.natAbs = c.natAbs * (b.natAbs % d.natAbs) + b.natAbs / d.natAbs * c.natAbs * d.natAbs := by
    rw [← Nat.mul_comm d.natAbs, ← Nat.mul_assoc, Nat.mul_comm _ c.natAbs, ← Nat.mul_add, h3]
  rw [Nat.add_mul] at h2
  generalize (a - b.tdiv d * c).natAbs * d.natAbs = X at *
  generalize a.natAbs * d.natAbs = Y at *
  generalize c.natAbs * (b.natAbs % d.natAbs) = Z at *
  generalize b.natAbs / d.natAbs * c.natAbs * d.natAbs = W at *
  omega
theorem eu_small {h v : Int × Int} {B : Nat} (hP : pot h v ≤ B) (hv : v.2 ≠ 0) : (h.2.tdiv v.2 * v.1).natAbs ≤ B ∧ (h.2.tdiv v.2).natAbs ≤ h.2.natAbs ∧ (h.2.tdiv v.2 * v.2).natAbs ≤ h.2.natAbs := by
  have hd : 0 < v.2.natAbs := by omega
  unfold pot at hP
  rw [Int.natAbs_mul, Int.natAbs_mul, Int.natAbs_tdiv]
  have h1 := Nat.div_mul_le_self h.2.natAbs v.2.natAbs
  have h2 := Nat.div_le_self h.2.natAbs v.2.natAbs
  refine ⟨?_, h2, h1⟩
  have h3 := Nat.mul_le_mul_right v.1.natAbs h2
  rw [Nat.mul_comm h.2.natAbs v.1.natAbs] at h3
  exact Nat.le_trans h3 (Nat.le_trans (Nat.le_add_left _ _) hP)
def lstep (s : Int × Int × Int) (v : Int × Int) : Int × Int × Int := ((Int.gcd s.1 (eu v.2.natAbs s.2 v).2.1 : Int), (eu v.2.natAbs s.2 v).1)
def lfold (l : List (Int × Int)) : Int × Int × Int := l.foldl lstep (0, 0, 0)
def lfin (s : Int × Int × Int) : Int × Int × Int := (s.1, (if s.2.2 < 0 then -s.2.1 else s.2.1) % s.1, if s.2.2 < 0 then -s.2.2 else s.2.2)
theorem lfold_snoc (l : List (Int × Int)) (v : Int × Int) : lfold (l ++ [v]) = lstep (lfold l) v := by simp [lfold]
def smallV (n : Nat) (v : Int × Int) : Prop := v.1.natAbs ≤ n ∧ v.2.natAbs ≤ n
def lsmall (l : List (Int × Int)) : Prop := (∀ v ∈ l, smallV 1000000 v) ∧ ∀ k, smallV 1000000 (lfold (l.take k)).2 ∧ (lfold (l.take k)).1.natAbs ≤ 1000000
abbrev bV (v : Int × Int) : Ck := .box [.v (.int .i64 v.1), .v (.int .i64 v.2)]
/-! the reference's -/
def lstepS (s : Int × Int × Int) (v : Int × Int) : Int × Int × Int :=
  ((Int.gcd s.1 (eu v.2.natAbs s.2 v).2.1 : Int), if (0 : Int) < Int.gcd s.1 (eu v.2.natAbs s.2 v).2.1 then (eu v.2.natAbs s.2 v).1.1 % (Int.gcd s.1 (eu v.2.natAbs s.2 v).2.1 : Int) else (eu v.2.natAbs s.2 v).1.1, (eu v.2.natAbs s.2 v).1.2)
def lfoldS (l : List (Int × Int)) : Int × Int × Int := l.foldl lstepS (0, 0, 0)
theorem lfoldS_snoc (l : List (Int × Int)) (v : Int × Int) : lfoldS (l ++ [v]) = lstepS (lfoldS l) v := by simp [lfoldS]
def lsmallS (l : List (Int × Int)) : Prop := (∀ v ∈ l, smallV 1000000 v) ∧ ∀ k, smallV 1000000 (lfoldS (l.take k)).2 ∧ (lfoldS (l.take k)).1.natAbs ≤ 1000000
end Go.Proofs.YtcnhcilpaplpcaaGreatDoorEv
namespace Go.Proofs.YtcnhcilpaplpcaaGreatDoorEv
open Go Go.Proofs
theorem rowL_get (x : Int) : ∀ (n k : Nat), k < n → (rowL x n)[k]? = some (x, (k : Int))
  | n + 1, k, h => by
    simp only [rowL]
    by_cases e : k < n
    · rw [List.getElem?_append_left (by rw [rowL_len]; exact e)]; exact rowL_get x n k e
    · have : k = n := by omega
      subst this
      rw [List.getElem?_append_right (by rw [rowL_len]; omega), rowL_len]
      simp
theorem cellsL_get (c : Nat) (hc : 0 < c) : ∀ (n k : Nat), k < n * c → (cellsL c n)[k]? = some (((k / c : Nat) : Int), ((k % c : Nat) : Int))
  | 0, k, h => by simp at h
  | n + 1, k, h => by
    simp only [cellsL]
    by_cases e : k < n * c
    · rw [List.getElem?_append_left (by rw [cellsL_len]; exact e)]; exact cellsL_get c hc n k e
    · rw [List.getElem?_append_right (by rw [cellsL_len]; omega), cellsL_len]
      rw [Nat.succ_mul] at h
      rw [rowL_get _ _ _ (by omega)]
      have h1 : k / c = n := by
        rw [Nat.div_eq_iff hc]
        refine ⟨by omega, by omega⟩
      have h2 : k % c = k - n * c := by
        have := Nat.div_add_mod k c
        rw [h1, Nat.mul_comm] at this
        omega
      rw [h1, h2]
theorem num_cell {a b c : Int} (hc : 0 < c) {k : Nat} (hk : (k : Int) < a * c) : num a b c ((k / c.toNat : Nat) : Int) ((k % c.toNat : Nat) : Int) = k := by
  obtain ⟨n, rfl⟩ : ∃ n : Nat, c = n := ⟨c.toNat, by omega⟩
  have hn : 0 < n := by omega
  have h1 := Nat.mod_lt k hn
  have h2 := Nat.div_add_mod k n
  have h3 : ((k % n : Nat) : Int) / (n : Int) = 0 := Int.ediv_eq_zero_of_lt (by omega) (by omega)
  have h4 : ((k % n : Nat) : Int) % (n : Int) = (k % n : Nat) := Int.emod_eq_of_lt (by omega) (by omega)
  have h5 : ((k / n : Nat) : Int) < a := by
    rcases Int.lt_or_le ((k / n : Nat) : Int) a with h | h
    · exact h
    · exfalso
      have h6 := Int.mul_le_mul_of_nonneg_right h (show (0 : Int) ≤ n by omega)
      have h7 : ((k / n : Nat) : Int) * (n : Int) = ((n * (k / n) : Nat) : Int) := by rw [Int.mul_comm]; simp
      omega
  simp only [num, redX, Int.toNat_natCast, h3, h4, Int.zero_mul, Int.sub_zero]
  rw [Int.emod_eq_of_lt (Int.natCast_nonneg _) h5]
  have h7 : ((k / n : Nat) : Int) * (n : Int) = ((n * (k / n) : Nat) : Int) := by rw [Int.mul_comm]; simp
  omega
theorem num_range {a b c x y : Int} (ha : 0 < a) (hc : 0 < c) : 0 ≤ num a b c x y ∧ num a b c x y < a * c := by
  have h := red_lt (a := a) (b := b) (c := c) (x := x) (y := y) ha hc
  exact (num_lt' h.1 h.2).2
theorem cell_num {a b c x y : Int} (ha : 0 < a) (hc : 0 < c) : (((num a b c x y).toNat / c.toNat : Nat) : Int) = redX a b c x y ∧ (((num a b c x y).toNat % c.toNat : Nat) : Int) = y % c := by
  have h := red_lt (a := a) (b := b) (c := c) (x := x) (y := y) ha hc
  have h1 := (num_lt' h.1 h.2).2
  have h2 : ((num a b c x y).toNat : Int) = num a b c x y := Int.toNat_of_nonneg h1.1
  have h3 : ((c.toNat : Nat) : Int) = c := Int.toNat_of_nonneg (by omega)
  constructor
  · rw [Int.natCast_ediv, h2, h3]
    unfold num
    rw [Int.add_comm, Int.add_mul_ediv_right _ _ (by omega), Int.ediv_eq_zero_of_lt h.2.1 h.2.2, Int.zero_add]
  · rw [Int.natCast_emod, h2, h3]
    unfold num
    rw [Int.add_comm, Int.add_mul_emod_self_right, Int.emod_eq_of_lt h.2.1 h.2.2]
theorem num_add {a b c x y u v : Int} (hc : 0 < c) : num a b c (redX a b c x y + u) (y % c + v) = num a b c (x + u) (y + v) := by
  have h1 : (y + v) % c = (y % c + v) % c := by rw [Int.emod_add_emod]
  have h2 : (y + v) / c = y / c + (y % c + v) / c := by
    have h3 := Int.mul_ediv_add_emod y c
    rw [show y + v = (y % c + v) + c * (y / c) by omega, Int.add_mul_ediv_left _ _ (by omega)]
    omega
  have h4 : redX a b c (redX a b c x y + u) (y % c + v) = redX a b c (x + u) (y + v) := by
    unfold redX
    rw [h2, Int.add_mul]
    rw [show (x - y / c * b) % a + u - (y % c + v) / c * b = (x - y / c * b) % a + (u - (y % c + v) / c * b) by omega, Int.emod_add_emod]
    congr 1
    omega
  unfold num
  rw [h4, h1]
theorem num_shift {a b c x y u v : Int} (ha : 0 < a) (hc : 0 < c) : num a b c ((((num a b c x y).toNat / c.toNat : Nat) : Int) + u) ((((num a b c x y).toNat % c.toNat : Nat) : Int) + v) = num a b c (x + u) (y + v) := by
  obtain ⟨h1, h2⟩ := cell_num (b := b) (x := x) (y := y) ha hc
  rw [h1, h2, num_add hc]
theorem num_back {a b c u v : Int} (ha : 0 < a) (hc : 0 < c) {k : Nat} (hk : (k : Int) < a * c) : num a b c ((((num a b c ((k / c.toNat : Nat) + u) ((k % c.toNat : Nat) + v)).toNat / c.toNat : Nat) : Int) + -u) ((((num a b c ((k / c.toNat : Nat) + u) ((k % c.toNat : Nat) + v)).toNat % c.toNat : Nat) : Int) + -v) = k := by
  rw [num_shift ha hc]
  rw [show ((k / c.toNat : Nat) : Int) + u + -u = ((k / c.toNat : Nat) : Int) by omega, show ((k % c.toNat : Nat) : Int) + v + -v = ((k % c.toNat : Nat) : Int) by omega]
  exact num_cell hc hk
/-! entries set one behind the other -/
def setN (p : Nat → Bool) (ix : Nat → Nat) (val : Nat → Int) (l : List Int) : Nat → List Int
  | 0 => l
  | n + 1 => if p n = true then (setN p ix val l n).set (ix n) (val n) else setN p ix val l n
theorem setN_len (p : Nat → Bool) (ix : Nat → Nat) (val : Nat → Int) (l : List Int) : ∀ n, (setN p ix val l n).length = l.length
  | 0 => rfl
  | n + 1 => by simp only [setN]; split <;> simp [setN_len p ix val l n]
theorem setN_get {p : Nat → Bool} {ix : Nat → Nat} {val : Nat → Int} {l : List Int} {m j i : Nat} (hj : j < l.length) (hi : i < m) (hix : ∀ k, k < m → (ix k = j ↔ k = i)) : ∀ n, n ≤ m → (setN p ix val l n)[j]? = if i < n ∧ p i = true then some (val i) else l[j]?
  | 0, _ => by simp [setN]
  | n + 1, hn => by
    have ih := setN_get (p := p) (val := val) hj hi hix n (by omega)
    simp only [setN]
    by_cases hp : p n = true
    · rw [if_pos hp]
      by_cases e : ix n = j
      · have := (hix n (by omega)).1 e
        subst this
        rw [e, List.getElem?_set_self (by rw [setN_len]; exact hj), if_pos ⟨by omega, hp⟩]
      · rw [List.getElem?_set_ne e, ih]
        have : n ≠ i := fun h => e ((hix n (by omega)).2 h)
        by_cases h2 : i < n ∧ p i = true
        · rw [if_pos h2, if_pos ⟨by omega, h2.2⟩]
        · rw [if_neg h2, if_neg (fun h => h2 ⟨by omega, h.2⟩)]
    · rw [if_neg hp, ih]
      by_cases h2 : i < n ∧ p i = true
      · rw [if_pos h2, if_pos ⟨by omega, h2.2⟩]
      · rw [if_neg h2, if_neg (fun h => by
          have : i ≠ n := fun e => hp (e ▸ h.2)
          exact h2 ⟨by omega, h.2⟩)]
def mv (a b c u v : Int) (k : Nat) : Nat := (num a b c ((k / c.toNat : Nat) + u) ((k % c.toNat : Nat) + v)).toNat
theorem mv_lt {a b c u v : Int} (ha : 0 < a) (hc : 0 < c) (k : Nat) : mv a b c u v k < (a * c).toNat := by
  have := num_range (b := b) (x := (k / c.toNat : Nat) + u) (y := (k % c.toNat : Nat) + v) ha hc
  unfold mv
  omega
theorem mv_iff {a b c u v : Int} (ha : 0 < a) (hc : 0 < c) {k j : Nat} (hk : (k : Int) < a * c) (hj : (j : Int) < a * c) : mv a b c u v k = j ↔ k = mv a b c (-u) (-v) j := by
  constructor
  · rintro rfl
    have := num_back (b := b) (u := u) (v := v) ha hc hk
    unfold mv
    omega
  · rintro rfl
    have := num_back (b := b) (u := -u) (v := -v) ha hc hj
    rw [Int.neg_neg, Int.neg_neg] at this
    unfold mv
    omega
theorem cell_of {a c x y : Int} {i : Nat} (ha : 1 ≤ a) (hc : 1 ≤ c) (h : (cellsL c.toNat a.toNat)[i]? = some (x, y)) : ((0 ≤ x ∧ x < a) ∧ 0 ≤ y ∧ y < c) ∧ (∀ b u v, mv a b c u v i = (num a b c (x + u) (y + v)).toNat) ∧ x * c + y = i := by
  have hi : i < a.toNat * c.toNat := by
    have := (List.getElem?_eq_some_iff.1 h).1
    rwa [cellsL_len] at this
  rw [cellsL_get _ (by omega) _ _ hi] at h
  simp only [Option.some.injEq, Prod.mk.injEq] at h
  obtain ⟨rfl, rfl⟩ := h
  have h1 := Nat.mod_lt i (show 0 < c.toNat by omega)
  have h2 : i / c.toNat < a.toNat := Nat.div_lt_of_lt_mul (by rw [Nat.mul_comm]; exact hi)
  refine ⟨⟨⟨Int.natCast_nonneg _, by omega⟩, Int.natCast_nonneg _, by omega⟩, fun b u v => rfl, ?_⟩
  have h3 := Nat.div_add_mod i c.toNat
  have h4 : ((i / c.toNat : Nat) : Int) * c = ((c.toNat * (i / c.toNat) : Nat) : Int) := by rw [Int.natCast_mul, Int.toNat_of_nonneg (by omega), Int.mul_comm]
  omega
theorem nat_n {a c : Int} (ha : 1 ≤ a) (hc : 1 ≤ c) {n : Nat} (h : (n : Int) = a * c) : a.toNat * c.toNat = n := by
  have h2 : ((a.toNat * c.toNat : Nat) : Int) = a * c := by rw [Int.natCast_mul, Int.toNat_of_nonneg (by omega), Int.toNat_of_nonneg (by omega)]
  omega
end Go.Proofs.YtcnhcilpaplpcaaGreatDoorEv
namespace Go.Proofs.YtcnhcilpaplpcaaGreatDoorEv
open Go Go.Proofs
set_option maxRecDepth 10000
theorem toArgs_shut {h : List Ck} : ∀ {cs : List A}, cs.all A.shut = true → toArgs h cs = some (cs, [])
  | [], _ => rfl
  | c :: cs, hc => by
    simp only [List.all_cons, Bool.and_eq_true] at hc
    have := toArgs_shut (h := h) hc.2
    cases c <;> first | (simp [toArgs, toArg, toArg1, this]; done) | (have := hc.1; cases this)
end Go.Proofs.YtcnhcilpaplpcaaGreatDoorEv
namespace Go.Proofs.YtcnhcilpaplpcaaGreatDoorEv
open Go Go.Proofs
set_option maxRecDepth 10000
abbrev aP (f a b c : Int) (l : List Int) : A := .v (.ag [.int .i64 f, .int .i64 a, .int .i64 b, .int .i64 c, vis l])
abbrev oP (f a b c : Int) (i : Nat) : A := .ag [vi f, vi a, vi b, vi c, .sli i]
def okP (f a b c : Int) (l : List Int) : Bool := decide (0 ≤ f ∧ f ≤ 1) && okL a b c && decide ((l.length : Int) = a * c) && l.all fun n => decide (0 ≤ n ∧ n ≤ 9)
theorem okP_spec {f a b c : Int} {l : List Int} : okP f a b c l = true ↔ (0 ≤ f ∧ f ≤ 1) ∧ okL a b c = true ∧ (l.length : Int) = a * c ∧ ∀ n ∈ l, 0 ≤ n ∧ n ≤ 9 := by
  simp [okP, and_assoc]
end Go.Proofs.YtcnhcilpaplpcaaGreatDoorEv
namespace Go.Proofs.YtcnhcilpaplpcaaGreatDoorEv
open Go Go.Proofs
set_option maxRecDepth 10000
abbrev M4 := Int × Int × Int × Int
def vm (m : M4) : V := .ag [.int .i64 m.1, .int .i64 m.2.1, .int .i64 m.2.2.1, .int .i64 m.2.2.2]
def ms (l : List M4) : List V := l.map vm
abbrev aM4 (m : M4) : A := aM m.1 m.2.1 m.2.2.1 m.2.2.2
@[simp] theorem ms_nil : ms [] = [] := rfl
@[simp] theorem ms_len (l : List M4) : (ms l).length = l.length := by simp [ms]
@[simp] theorem ms_get (l : List M4) (n : Nat) (K : V → Prop) : fA ((ms l)[n]?) K = ∀ m, l[n]? = some m → K (.ag [.int .i64 m.1, .int .i64 m.2.1, .int .i64 m.2.2.1, .int .i64 m.2.2.2]) := by unfold ms; exact fA_map
@[simp] theorem ms_app (l : List M4) (a b c d : Int) : ms l ++ [.ag [.int .i64 a, .int .i64 b, .int .i64 c, .int .i64 d]] = ms (l ++ [(a, b, c, d)]) := by simp [ms, vm]
@[simp] theorem ms_set (l : List M4) (n : Nat) (a b c d : Int) : (ms l).set n (.ag [.int .i64 a, .int .i64 b, .int .i64 c, .int .i64 d]) = ms (l.set n (a, b, c, d)) := by simp [ms, vm, List.map_set]
@[simp] theorem ms_take (l : List M4) (n : Nat) : (ms l).take n = ms (l.take n) := by simp [ms, List.map_take]
@[simp] theorem ms_drop (l : List M4) (n : Nat) : (ms l).drop n = ms (l.drop n) := by simp [ms, List.map_drop]
@[simp] theorem ms_flat (l : List M4) : (∀ x, x ∈ ms l → x.flat = true) ↔ True := by
  simp only [iff_true]
  intro x hx
  obtain ⟨y, _, rfl⟩ := List.mem_map.1 hx
  rfl
theorem vm_inj {m n : M4} (h : vm m = vm n) : m = n := by
  obtain ⟨a, b, c, d⟩ := m
  obtain ⟨a', b', c', d'⟩ := n
  simp only [vm, V.ag.injEq, List.cons.injEq, V.int.injEq, true_and, and_true] at h
  obtain ⟨rfl, rfl, rfl, rfl⟩ := h
  rfl
@[simp] theorem ms_inj (a b : List M4) : ms a = ms b ↔ a = b := by
  constructor
  · exact fun h => (List.map_inj_right (fun x y e => vm_inj e)).1 h
  · rintro rfl; rfl
abbrev vms (l : List M4) : V := .sl 4 (ms l)
def keptM (p : M4 → Bool) (l : List M4) (j : Nat) : List M4 := (l.take j).filter fun v => !p v
theorem keptM_succ {p : M4 → Bool} {l : List M4} {j : Nat} {x : M4} (hx : l[j]? = some x) : keptM p l (j + 1) = keptM p l j ++ if p x = true then [] else [x] := by
  unfold keptM
  rw [List.take_add_one, hx, List.filter_append]
  cases h : p x <;> simp [h]
theorem keptM_first {p : M4 → Bool} {l : List M4} (h : l.any p = true) : keptM p l (l.findIdx p + 1) = l.take (l.findIdx p) ∧ l.findIdx p < l.length := by
  have hlt : l.findIdx p < l.length := List.findIdx_lt_length.2 (by simpa using h)
  have hx := List.getElem?_eq_getElem hlt
  have hp : p l[l.findIdx p] = true := List.findIdx_getElem
  refine ⟨?_, hlt⟩
  rw [keptM_succ hx, if_pos hp, List.append_nil]
  unfold keptM
  rw [List.filter_eq_self]
  intro x hx
  obtain ⟨j, hj, rfl⟩ := List.mem_take_iff_getElem.1 hx
  have := List.not_of_lt_findIdx (p := p) (xs := l) (i := j) (by omega)
  simp [this]
end Go.Proofs.YtcnhcilpaplpcaaGreatDoorEv
namespace Go.Proofs.YtcnhcilpaplpcaaGreatDoorEv
open Go Go.Proofs
set_option maxRecDepth 10000
def normF (f x y : Int) : Int := x * x + f * x * y + y * y
theorem normF_bd {f x y : Int} (hf : 0 ≤ f ∧ f ≤ 1) (hx : x.natAbs ≤ 10000) (hy : y.natAbs ≤ 10000) : (x * x).natAbs ≤ 100000000 ∧ (f * x).natAbs ≤ 10000 ∧ (f * x * y).natAbs ≤ 100000000 ∧ (y * y).natAbs ≤ 100000000 ∧ (x * y).natAbs ≤ 100000000 := by
  have h1 := mul_bd hx hx
  have h2 := mul_bd (show f.natAbs ≤ 1 by omega) hx
  have h3 := mul_bd h2 hy
  have h4 := mul_bd hy hy
  have h5 := mul_bd hx hy
  exact ⟨by omega, by omega, by omega, by omega, by omega⟩
def pmOk (f : Int) (m : M4) : Bool := decide (normF f m.1 m.2.2.1 = 1) && decide (normF f m.2.1 m.2.2.2 = 1) && decide (normF f (m.1 + m.2.1) (m.2.2.1 + m.2.2.2) = 2 + f)
def matOk (a b c d : Int) : Bool := okV a b && okV c d && (decide (a * d - b * c = 1) || decide (a * d - b * c = -1))
theorem matOk_small {a b c d : Int} (h : matOk a b c d = true) : (a.natAbs ≤ 1000 ∧ b.natAbs ≤ 1000) ∧ c.natAbs ≤ 1000 ∧ d.natAbs ≤ 1000 := by
  simp only [matOk, Bool.and_eq_true, okV_spec] at h
  omega
/-! all of a frame -/
def mat81 (k : Nat) : M4 := ((k : Int) / 27 - 1, (k : Int) / 9 % 3 - 1, (k : Int) / 3 % 3 - 1, (k : Int) % 3 - 1)
def pmL (f : Int) (n : Nat) : List M4 := ((List.range n).map mat81).filter fun m => pmOk f m
theorem pmL_succ (f : Int) (n : Nat) : pmL f (n + 1) = pmL f n ++ if pmOk f (mat81 n) = true then [mat81 n] else [] := by
  unfold pmL
  rw [List.range_succ, List.map_append, List.filter_append]
  cases h : pmOk f (mat81 n) <;> simp [h]
theorem pmL_len (f : Int) (n : Nat) : (pmL f n).length ≤ n := by
  unfold pmL
  exact Nat.le_trans (List.length_filter_le _ _) (by simp)
end Go.Proofs.YtcnhcilpaplpcaaGreatDoorEv
namespace Go.Proofs.YtcnhcilpaplpcaaGreatDoorEv
open Go Go.Proofs
set_option maxRecDepth 10000
def inL (a b c x y : Int) : Bool := decide (redX a b c x y = 0) && decide (y % c = 0)
def keepL (a b c : Int) (m : M4) : Bool := inL a b c (m.1 * a) (m.2.2.1 * a) && inL a b c (m.1 * b + m.2.1 * c) (m.2.2.1 * b + m.2.2.2 * c)
theorem pmL_small {f : Int} {n : Nat} (hn : n ≤ 81) {m : M4} (h : m ∈ pmL f n) : (m.1.natAbs ≤ 1 ∧ m.2.1.natAbs ≤ 1) ∧ m.2.2.1.natAbs ≤ 1 ∧ m.2.2.2.natAbs ≤ 1 := by
  unfold pmL at h
  obtain ⟨h1, _⟩ := List.mem_filter.1 h
  obtain ⟨k, hk, rfl⟩ := List.mem_map.1 h1
  have := List.mem_range.1 hk
  simp only [mat81]
  omega
end Go.Proofs.YtcnhcilpaplpcaaGreatDoorEv
namespace Go.Proofs.YtcnhcilpaplpcaaGreatDoorEv
open Go Go.Proofs
set_option maxRecDepth 10000
/-- Closed under adding multiples. -/
structure Sub (L : Int → Int → Prop) : Prop where
  z : L 0 0
  a : ∀ {x y u v : Int} (n : Int), L x y → L u v → L (x + n * u) (y + n * v)
theorem Sub.m {L : Int → Int → Prop} (s : Sub L) {x y : Int} (n : Int) (h : L x y) : L (n * x) (n * y) := by
  have := s.a n s.z h
  simpa using this
theorem Sub.s {L : Int → Int → Prop} (s : Sub L) {x y u v : Int} (n : Int) (h : L x y) (k : L u v) : L (x - n * u) (y - n * v) := by
  have := s.a (-n) h k
  rwa [Int.neg_mul, Int.neg_mul, ← Int.sub_eq_add_neg, ← Int.sub_eq_add_neg] at this
theorem sub_gcd {L : Int → Int → Prop} (s : Sub L) : ∀ (n : Nat) (a b : Int), b.natAbs ≤ n → L a 0 → L b 0 → L (Int.gcd a b : Int) 0
  | 0, a, b, hn, ha, hb => by
    have : b = 0 := by omega
    subst this
    rw [Int.gcd_zero_right]
    rcases Int.natAbs_eq a with h | h
    · rwa [← h]
    · have := s.m (-1) ha
      rw [show ((a.natAbs : Nat) : Int) = -1 * a by omega]
      simpa using this
  | n + 1, a, b, hn, ha, hb => by
    by_cases h0 : b = 0
    · exact sub_gcd s n a b (by omega) ha hb
    have h1 := tmod_abs a h0
    rw [← gcd_step]
    refine sub_gcd s n b _ (by omega) hb ?_
    have h2 := s.s (a.tdiv b) ha hb
    have h3 := Int.tmod_add_mul_tdiv a b
    rw [Int.mul_comm] at h3
    rw [show a.tmod b = a - a.tdiv b * b by omega]
    simpa using h2
theorem sub_of_gcd {L : Int → Int → Prop} (s : Sub L) {a b : Int} (h : L (Int.gcd a b : Int) 0) : L a 0 ∧ L b 0 := by
  obtain ⟨k, hk⟩ := Int.gcd_dvd_left (a := a) (b := b)
  obtain ⟨j, hj⟩ := Int.gcd_dvd_right (a := a) (b := b)
  constructor
  · have := s.m k h
    rw [Int.mul_comm, ← hk] at this
    simpa using this
  · have := s.m j h
    rw [Int.mul_comm, ← hj] at this
    simpa using this
theorem eu_row0 : ∀ (n : Nat) (h v : Int × Int), v.2.natAbs ≤ n → (eu n h v).2.2 = 0
  | 0, h, v, hn => by simp only [eu]; omega
  | n + 1, h, v, hn => by
    simp only [eu]
    by_cases hv : v.2 = 0
    · rw [if_pos hv]; exact hv
    · rw [if_neg hv]
      have := tmod_abs h.2 hv
      exact eu_row0 n _ _ (by simp only; omega)
theorem sub_eu {L : Int → Int → Prop} (s : Sub L) : ∀ (n : Nat) (h v : Int × Int), (L (eu n h v).1.1 (eu n h v).1.2 ∧ L (eu n h v).2.1 (eu n h v).2.2) ↔ (L h.1 h.2 ∧ L v.1 v.2)
  | 0, h, v => by simp [eu]
  | n + 1, h, v => by
    simp only [eu]
    by_cases hv : v.2 = 0
    · rw [if_pos hv]
    · rw [if_neg hv, sub_eu s n]
      have h3 := Int.tmod_add_mul_tdiv h.2 v.2
      rw [Int.mul_comm] at h3
      have e : h.2.tmod v.2 = h.2 - h.2.tdiv v.2 * v.2 := by omega
      simp only [e]
      constructor
      · rintro ⟨h1, h2⟩
        refine ⟨?_, h1⟩
        have := s.a (h.2.tdiv v.2) h2 h1
        rwa [Int.sub_add_cancel, Int.sub_add_cancel] at this
      · rintro ⟨h1, h2⟩
        exact ⟨h2, s.s _ h1 h2⟩
theorem sub_lstep {L : Int → Int → Prop} (s : Sub L) (t : Int × Int × Int) (v : Int × Int) : (L (lstep t v).1 0 ∧ L (lstep t v).2.1 (lstep t v).2.2) ↔ ((L t.1 0 ∧ L t.2.1 t.2.2) ∧ L v.1 v.2) := by
  have e1 := sub_eu s v.2.natAbs t.2 v
  have e2 := eu_row0 v.2.natAbs t.2 v (Nat.le_refl _)
  rw [e2] at e1
  simp only [lstep]
  constructor
  · rintro ⟨h1, h2⟩
    obtain ⟨h3, h4⟩ := sub_of_gcd s h1
    have := e1.1 ⟨h2, h4⟩
    exact ⟨⟨h3, this.1⟩, this.2⟩
  · rintro ⟨⟨h1, h2⟩, h3⟩
    have := e1.2 ⟨h2, h3⟩
    exact ⟨sub_gcd s _ _ _ (Nat.le_refl _) h1 this.2, this.1⟩
theorem sub_lstepS {L : Int → Int → Prop} (s : Sub L) (t : Int × Int × Int) (v : Int × Int) : (L (lstepS t v).1 0 ∧ L (lstepS t v).2.1 (lstepS t v).2.2) ↔ ((L t.1 0 ∧ L t.2.1 t.2.2) ∧ L v.1 v.2) := by
  rw [← sub_lstep s]
  simp only [lstep, lstepS]
  generalize (Int.gcd t.1 (eu v.2.natAbs t.2 v).2.1 : Int) = g
  generalize (eu v.2.natAbs t.2 v).1 = h
  refine and_congr_right fun hg => ?_
  split
  · have e := Int.emod_add_mul_ediv h.1 g
    rw [Int.mul_comm] at e
    constructor
    · intro h1
      have := s.a (h.1 / g) h1 hg
      rw [e] at this
      simpa using this
    · intro h1
      have := s.s (h.1 / g) h1 hg
      rw [show h.1 % g = h.1 - h.1 / g * g by omega]
      simpa using this
  · exact Iff.rfl
theorem sub_foldl {L : Int → Int → Prop} {st : Int × Int × Int → Int × Int → Int × Int × Int} (hst : ∀ t v, (L (st t v).1 0 ∧ L (st t v).2.1 (st t v).2.2) ↔ ((L t.1 0 ∧ L t.2.1 t.2.2) ∧ L v.1 v.2)) : ∀ (l : List (Int × Int)) (t : Int × Int × Int), (L (l.foldl st t).1 0 ∧ L (l.foldl st t).2.1 (l.foldl st t).2.2) ↔ ((L t.1 0 ∧ L t.2.1 t.2.2) ∧ ∀ v ∈ l, L v.1 v.2)
  | [], t => by simp
  | v :: l, t => by
    rw [List.foldl_cons, sub_foldl hst l, hst]
    simp only [List.mem_cons, forall_eq_or_imp, and_assoc]
theorem sub_lfold {L : Int → Int → Prop} (s : Sub L) (l : List (Int × Int)) : (L (lfold l).1 0 ∧ L (lfold l).2.1 (lfold l).2.2) ↔ ∀ v ∈ l, L v.1 v.2 := by
  rw [lfold, sub_foldl (sub_lstep s)]
  simp [s.z]
theorem sub_lfoldS {L : Int → Int → Prop} (s : Sub L) (l : List (Int × Int)) : (L (lfoldS l).1 0 ∧ L (lfoldS l).2.1 (lfoldS l).2.2) ↔ ∀ v ∈ l, L v.1 v.2 := by
  rw [lfoldS, sub_foldl (sub_lstepS s)]
  simp [s.z]
theorem sub_lfin {L : Int → Int → Prop} (s : Sub L) (t : Int × Int × Int) : (L (lfin t).1 0 ∧ L (lfin t).2.1 (lfin t).2.2) ↔ (L t.1 0 ∧ L t.2.1 t.2.2) := by
  simp only [lfin]
  refine and_congr_right fun hg => ?_
  have key : ∀ x y : Int, L (x % t.1) y ↔ L x y := fun x y => by
    have e := Int.emod_add_mul_ediv x t.1
    rw [Int.mul_comm] at e
    constructor
    · intro h1
      have := s.a (x / t.1) h1 hg
      rw [e] at this
      simpa using this
    · intro h1
      have := s.s (x / t.1) h1 hg
      rw [show x % t.1 = x - x / t.1 * t.1 by omega]
      simpa using this
  split
  · rw [key]
    constructor
    · intro h
      have := s.m (-1) h
      simpa using this
    · intro h
      have := s.m (-1) h
      simpa using this
  · rw [key]
def spn (a b c x y : Int) : Prop := ∃ i j : Int, x = i * a + j * b ∧ y = j * c
theorem spn_sub (a b c : Int) : Sub (spn a b c) where
  z := ⟨0, 0, by simp, by simp⟩
  a := by
    rintro x y u v n ⟨i, j, rfl, rfl⟩ ⟨k, l, rfl, rfl⟩
    refine ⟨i + n * k, j + n * l, ?_, ?_⟩
    · simp only [Int.add_mul, Int.mul_add, Int.mul_assoc]; omega
    · simp only [Int.add_mul, Int.mul_assoc]
theorem spn_l (a b c : Int) : spn a b c a 0 := ⟨1, 0, by simp, by simp⟩
theorem spn_r (a b c : Int) : spn a b c b c := ⟨0, 1, by simp, by simp⟩
theorem spn_det {a b c x y u v : Int} (h1 : spn a b c x y) (h2 : spn a b c u v) : a * c ∣ x * v - y * u := by
  obtain ⟨i, j, rfl, rfl⟩ := h1
  obtain ⟨k, l, rfl, rfl⟩ := h2
  refine ⟨i * l - j * k, ?_⟩
  simp only [Int.mul_sub, Int.add_mul, Int.mul_add]
  have e1 : i * a * (l * c) = a * c * (i * l) := by ac_rfl
  have e2 : j * b * (l * c) = j * c * (l * b) := by ac_rfl
  have e3 : j * c * (k * a) = a * c * (j * k) := by ac_rfl
  rw [e1, e2, e3]
  omega
theorem spn_uniq {a b c A B C : Int} (ha : 0 < a) (hb : 0 ≤ b ∧ b < a) (hc : 0 < c) (hA : 0 < A) (hB : 0 ≤ B ∧ B < A) (hC : 0 < C) (h1 : spn A B C a 0) (h2 : spn A B C b c) (h3 : spn a b c A 0) (h4 : spn a b c B C) : (a, b, c) = (A, B, C) := by
  obtain ⟨i1, j1, e1, f1⟩ := h1
  obtain ⟨i2, j2, e2, f2⟩ := h2
  obtain ⟨i3, j3, e3, f3⟩ := h3
  obtain ⟨i4, j4, e4, f4⟩ := h4
  have j1z : j1 = 0 := by
    rcases Int.mul_eq_zero.1 f1.symm with h | h <;> omega
  have j3z : j3 = 0 := by
    rcases Int.mul_eq_zero.1 f3.symm with h | h <;> omega
  subst j1z j3z
  simp only [Int.zero_mul, Int.add_zero] at e1 e3
  have eA : A = a := Int.le_antisymm (Int.le_of_dvd ha ⟨i1, by rw [Int.mul_comm]; exact e1⟩) (Int.le_of_dvd hA ⟨i3, by rw [Int.mul_comm]; exact e3⟩)
  have eC : C = c := Int.le_antisymm (Int.le_of_dvd hc ⟨j2, by rw [Int.mul_comm]; exact f2⟩) (Int.le_of_dvd hC ⟨j4, by rw [Int.mul_comm]; exact f4⟩)
  subst eA eC
  have : j2 = 1 := by
    have : (j2 - 1) * C = 0 := by rw [Int.sub_mul, Int.one_mul]; omega
    rcases Int.mul_eq_zero.1 this with h | h <;> omega
  subst this
  rw [Int.one_mul] at e2
  have : b % A = B % A := by rw [e2, Int.add_comm, Int.add_mul_emod_self_right]
  rw [Int.emod_eq_of_lt hb.1 hb.2, Int.emod_eq_of_lt hB.1 hB.2] at this
  rw [this]
end Go.Proofs.YtcnhcilpaplpcaaGreatDoorEv
namespace Go.Proofs.YtcnhcilpaplpcaaGreatDoorEv
open Go Go.Proofs
set_option maxRecDepth 10000
theorem inL_iff {a b c x y : Int} : inL a b c x y = true ↔ (x - y / c * b) % a = 0 ∧ y % c = 0 := by
  unfold inL
  rw [Bool.and_eq_true, decide_eq_true_iff, decide_eq_true_iff]
  exact Iff.rfl
theorem inL_spn {a b c x y : Int} (hc : 1 ≤ c) : inL a b c x y = true ↔ spn a b c x y := by
  rw [inL_iff]
  constructor
  · rintro ⟨h1, h2⟩
    have e1 := Int.emod_add_mul_ediv (x - y / c * b) a
    have e2 := Int.emod_add_mul_ediv y c
    refine ⟨(x - y / c * b) / a, y / c, ?_, ?_⟩
    · rw [h1, Int.mul_comm] at e1; omega
    · rw [h2, Int.mul_comm] at e2; omega
  · rintro ⟨i, j, rfl, rfl⟩
    rw [Int.mul_ediv_cancel _ (show c ≠ 0 by omega)]
    refine ⟨?_, Int.mul_emod_left _ _⟩
    rw [Int.add_sub_cancel]
    exact Int.mul_emod_left _ _
theorem lfS_one (x y : Int) : lfoldS [(x, y)] = if y = 0 then ((x.natAbs : Int), 0, 0) else (0, x, y) := by
  simp only [lfoldS, List.foldl_cons, List.foldl_nil, lstepS]
  by_cases hy : y = 0
  · subst hy
    simp [eu]
  · have h := eu_step (h := (0, 0)) (v := (x, y)) hy
    simp only at h
    rw [if_neg hy, h]
    simp [eu]
theorem lfS_g (l : List (Int × Int)) (v : Int × Int) : 0 ≤ (lfoldS (l ++ [v])).1 ∧ (0 < (lfoldS (l ++ [v])).1 → 0 ≤ (lfoldS (l ++ [v])).2.1 ∧ (lfoldS (l ++ [v])).2.1 < (lfoldS (l ++ [v])).1) := by
  rw [lfoldS_snoc]
  simp only [lstepS]
  refine ⟨by omega, fun h => ?_⟩
  rw [if_pos h]
  exact ⟨Int.emod_nonneg _ (by omega), Int.emod_lt_of_pos _ h⟩
structure Two (x y u w : Int) : Prop where
  h : 0 < (lfoldS [(x, y), (u, w)]).1
  r : 0 ≤ (lfoldS [(x, y), (u, w)]).2.1 ∧ (lfoldS [(x, y), (u, w)]).2.1 < (lfoldS [(x, y), (u, w)]).1
  k : (lfoldS [(x, y), (u, w)]).2.2 ≠ 0
  d : (lfoldS [(x, y), (u, w)]).1 * (lfoldS [(x, y), (u, w)]).2.2 ∣ x * w - y * u
  s : lsmallS [(x, y), (u, w)]
theorem dvd_bd {a b : Int} {D : Nat} (h : a ∣ b) (h0 : b ≠ 0) (hb : b.natAbs ≤ D) : a.natAbs ≤ D := by
  have := Int.natAbs_dvd_natAbs.2 h
  exact Nat.le_trans (Nat.le_of_dvd (by omega) this) hb
theorem takeTwo {α : Type} (x y : α) (P : List α → Prop) (h0 : P []) (h1 : P [x]) (h2 : P [x, y]) : ∀ k, P (([x, y] : List α).take k)
  | 0 => h0
  | 1 => h1
  | k + 2 => by simpa using h2
theorem two {x y u w : Int} (hx : x.natAbs ≤ 1000) (hy : y.natAbs ≤ 1000) (hu : u.natAbs ≤ 1000) (hw : w.natAbs ≤ 1000) (hd : x * w - y * u ≠ 0) (hD : (x * w - y * u).natAbs ≤ 1000000) : Two x y u w := by
  have g := lfS_g [(x, y)] (u, w)
  have sp := (sub_lfoldS (spn_sub (lfoldS [(x, y), (u, w)]).1 (lfoldS [(x, y), (u, w)]).2.1 (lfoldS [(x, y), (u, w)]).2.2) [(x, y), (u, w)]).1 ⟨spn_l _ _ _, spn_r _ _ _⟩
  have s1 := sp (x, y) (by simp)
  have s2 := sp (u, w) (by simp)
  have dv := spn_det s1 s2
  have e1 := lfS_one x y
  rw [List.singleton_append] at g
  have e2 : smallV 1000000 (lfoldS [(x, y)]).2 ∧ (lfoldS [(x, y)]).1.natAbs ≤ 1000000 := by
    rw [e1]
    split
    · exact ⟨⟨by simp, by simp⟩, by simp only; omega⟩
    · exact ⟨⟨by simp only; omega, by simp only; omega⟩, by simp⟩
  have hv : ∀ v ∈ ([(x, y), (u, w)] : List (Int × Int)), smallV 1000000 v := by
    intro v hv
    simp only [List.mem_cons, List.not_mem_nil, or_false] at hv
    rcases hv with rfl | rfl <;> exact ⟨by simp only; omega, by simp only; omega⟩
  have gz : (lfoldS [(x, y), (u, w)]).1 ≠ 0 := fun e => by rw [e, Int.zero_mul, Int.zero_dvd] at dv; exact hd dv
  have kz : (lfoldS [(x, y), (u, w)]).2.2 ≠ 0 := fun e => by rw [e, Int.mul_zero, Int.zero_dvd] at dv; exact hd dv
  have d1 := dvd_bd (Int.dvd_trans (Int.dvd_mul_right _ _) dv) hd hD
  have d2 := dvd_bd (Int.dvd_trans (Int.dvd_mul_left _ _) dv) hd hD
  have gp : 0 < (lfoldS [(x, y), (u, w)]).1 := by omega
  have gr := g.2 gp
  refine ⟨gp, gr, kz, dv, hv, takeTwo _ _ (fun l => smallV 1000000 (lfoldS l).2 ∧ (lfoldS l).1.natAbs ≤ 1000000) ?_ e2 ?_⟩
  · exact ⟨⟨by decide, by decide⟩, by decide⟩
  · exact ⟨⟨by omega, d2⟩, d1⟩
theorem image_eq {a b c x y u w : Int} (ha : 1 ≤ a) (hb : 0 ≤ b ∧ b < a) (hc : 1 ≤ c) (t : Two x y u w) (hd : x * w - y * u = a * c ∨ x * w - y * u = -(a * c)) : lfin (lfoldS [(x, y), (u, w)]) = (a, b, c) ↔ (spn a b c x y ∧ spn a b c u w) := by
  have e := (sub_lfin (spn_sub a b c) (lfoldS [(x, y), (u, w)])).trans (sub_lfoldS (spn_sub a b c) [(x, y), (u, w)])
  simp only [List.mem_cons, List.not_mem_nil, or_false, forall_eq_or_imp, forall_eq] at e
  rw [← e]
  obtain ⟨t1, t2, t3, t4, _⟩ := t
  have f1 : (lfin (lfoldS [(x, y), (u, w)])).1 = (lfoldS [(x, y), (u, w)]).1 := rfl
  have f2 : 0 ≤ (lfin (lfoldS [(x, y), (u, w)])).2.1 ∧ (lfin (lfoldS [(x, y), (u, w)])).2.1 < (lfoldS [(x, y), (u, w)]).1 := ⟨Int.emod_nonneg _ (by omega), Int.emod_lt_of_pos _ t1⟩
  have f3 : 0 < (lfin (lfoldS [(x, y), (u, w)])).2.2 := by
    simp only [lfin]
    split <;> omega
  have f4 : (lfin (lfoldS [(x, y), (u, w)])).1 * (lfin (lfoldS [(x, y), (u, w)])).2.2 ∣ a * c := by
    have : (lfoldS [(x, y), (u, w)]).1 * (lfoldS [(x, y), (u, w)]).2.2 ∣ a * c := by
      rcases hd with h | h
      · rwa [h] at t4
      · rw [h] at t4; exact Int.dvd_neg.1 t4
    simp only [lfin]
    split
    · rw [Int.mul_neg]; exact Int.neg_dvd.2 this
    · exact this
  rw [← f1] at f2 t1
  generalize lfin (lfoldS [(x, y), (u, w)]) = r at *
  obtain ⟨A, B, C⟩ := r
  simp only at *
  constructor
  · intro h
    cases h
    exact ⟨spn_l _ _ _, spn_r _ _ _⟩
  · rintro ⟨⟨i3, j3, e3, g3⟩, ⟨i4, j4, e4, g4⟩⟩
    have j3z : j3 = 0 := by rcases Int.mul_eq_zero.1 g3.symm with h | h <;> omega
    subst j3z
    simp only [Int.zero_mul, Int.add_zero] at e3
    obtain ⟨n, hn⟩ := f4
    have hp : 0 < a * c := Int.mul_pos (by omega) (by omega)
    have h1 : a * c * (i3 * j4 * n - 1) = 0 := by subst e3 g4; grind
    have h2 : i3 * j4 * n = 1 := by rcases Int.mul_eq_zero.1 h1 with h | h <;> omega
    have i3p : 0 < i3 := by
      rcases Int.lt_trichotomy i3 0 with h | h | h
      · have := Int.mul_neg_of_neg_of_pos h (show 0 < a by omega); omega
      · subst h; simp at e3; omega
      · exact h
    have j4p : 0 < j4 := by
      rcases Int.lt_trichotomy j4 0 with h | h | h
      · have := Int.mul_neg_of_neg_of_pos h (show 0 < c by omega); omega
      · subst h; simp at g4; omega
      · exact h
    have q1 : i3 = 1 := by
      have := Int.le_of_dvd (by decide) (show i3 ∣ 1 from ⟨j4 * n, by rw [← h2, Int.mul_assoc]⟩)
      omega
    have q2 : j4 = 1 := by
      have := Int.le_of_dvd (by decide) (show j4 ∣ 1 from ⟨i3 * n, by rw [← h2]; ac_rfl⟩)
      omega
    subst q1 q2
    simp only [Int.one_mul] at e3 e4 g4
    subst e3 g4
    have : B % A = b % A := by rw [e4, Int.add_comm, Int.add_mul_emod_self_right]
    rw [Int.emod_eq_of_lt hb.1 hb.2, Int.emod_eq_of_lt f2.1 f2.2] at this
    rw [this]
/-! point matrices -/
theorem sq_le {x : Int} {n : Nat} (h : x * x ≤ n) : x.natAbs ≤ n := by
  have h1 : (x * x).natAbs = x.natAbs * x.natAbs := Int.natAbs_mul _ _
  have h0 : 0 ≤ x * x := by rcases Int.le_total 0 x with h | h; exact Int.mul_nonneg h h; exact Int.mul_nonneg_of_nonpos_of_nonpos h h
  rcases Nat.eq_zero_or_pos x.natAbs with h2 | h2
  · omega
  · have := Nat.le_mul_of_pos_right x.natAbs h2
    omega
theorem norm_one {f x y : Int} (hf : 0 ≤ f ∧ f ≤ 1) (h : normF f x y = 1) : x.natAbs ≤ 1 ∧ y.natAbs ≤ 1 := by
  unfold normF at h
  have hsq : ∀ z : Int, 0 ≤ z * z := fun z => by rcases Int.le_total 0 z with h | h; exact Int.mul_nonneg h h; exact Int.mul_nonneg_of_nonpos_of_nonpos h h
  rcases (by omega : f = 0 ∨ f = 1) with rfl | rfl
  · have := hsq x; have := hsq y
    rw [Int.zero_mul, Int.zero_mul] at h
    exact ⟨sq_le (by omega), sq_le (by omega)⟩
  · rw [Int.one_mul] at h
    have e1 := hsq (2 * x + y)
    have e2 := hsq (x + 2 * y)
    have e3 : (2 * x + y) * (2 * x + y) + 3 * (y * y) = 4 := by grind
    have e4 : (x + 2 * y) * (x + 2 * y) + 3 * (x * x) = 4 := by grind
    exact ⟨sq_le (by omega), sq_le (by omega)⟩
theorem one_cases {x : Int} (h : x.natAbs ≤ 1) : x = -1 ∨ x = 0 ∨ x = 1 := by omega
theorem pmL_mem {f : Int} (hf : 0 ≤ f ∧ f ≤ 1) (a b c d : Int) : (a, b, c, d) ∈ pmL f 81 ↔ pmOk f (a, b, c, d) = true := by
  constructor
  · intro h
    unfold pmL at h
    exact (List.mem_filter.1 h).2
  · intro h
    unfold pmL
    refine List.mem_filter.2 ⟨?_, h⟩
    simp only [pmOk, Bool.and_eq_true, decide_eq_true_eq] at h
    obtain ⟨h1, h2⟩ := norm_one hf h.1.1
    obtain ⟨h3, h4⟩ := norm_one hf h.1.2
    refine List.mem_map.2 ⟨((a + 1) * 27 + (b + 1) * 9 + (c + 1) * 3 + (d + 1)).toNat, List.mem_range.2 (by omega), ?_⟩
    simp only [mat81, Prod.mk.injEq]
    omega
theorem pm_facts {f a b c d : Int} (hf : 0 ≤ f ∧ f ≤ 1) (h : pmOk f (a, b, c, d) = true) : (a.natAbs ≤ 1 ∧ b.natAbs ≤ 1) ∧ (c.natAbs ≤ 1 ∧ d.natAbs ≤ 1) ∧ (a * d - b * c = 1 ∨ a * d - b * c = -1) := by
  have h' := h
  simp only [pmOk, Bool.and_eq_true, decide_eq_true_eq] at h
  obtain ⟨h1, h2⟩ := norm_one hf h.1.1
  obtain ⟨h3, h4⟩ := norm_one hf h.1.2
  refine ⟨⟨h1, h3⟩, ⟨h2, h4⟩, ?_⟩
  rcases (by omega : f = 0 ∨ f = 1) with rfl | rfl <;> rcases one_cases h1 with rfl | rfl | rfl <;> rcases one_cases h2 with rfl | rfl | rfl <;> rcases one_cases h3 with rfl | rfl | rfl <;> rcases one_cases h4 with rfl | rfl | rfl <;> first | decide | (exfalso; revert h'; decide)
theorem pm_mat {f a b c d : Int} (hf : 0 ≤ f ∧ f ≤ 1) (h : pmOk f (a, b, c, d) = true) : matOk a b c d = true := by
  obtain ⟨⟨h1, h2⟩, ⟨h3, h4⟩, h5⟩ := pm_facts hf h
  have e1 : okV a b = true := okV_spec.2 (by omega)
  have e2 : okV c d = true := okV_spec.2 (by omega)
  simp only [matOk, e1, e2, Bool.true_and, Bool.or_eq_true, decide_eq_true_eq]
  exact h5
end Go.Proofs.YtcnhcilpaplpcaaGreatDoorEv
namespace Go.Proofs.YtcnhcilpaplpcaaGreatDoorEv
open Go Go.Proofs
set_option maxRecDepth 10000
def suit (f a b c p q' r s t u : Int) : Bool := pmOk f (p, q', r, s) && keepL a b c (p, q', r, s) && okV t u
end Go.Proofs.YtcnhcilpaplpcaaGreatDoorEv
namespace Go.Proofs.YtcnhcilpaplpcaaGreatDoorEv
open Go Go.Proofs
set_option maxRecDepth 10000
theorem s_eqV (x y x' y' : Int) : Sp Tryz.prog 48 [aV x y, aV x' y'] (vb (decide (x = x' ∧ y = y'))) [] := by
  refine sp_of (m := no) mixed Tryz.func48 k48 ?_
  simp -dsimp [q]
  refine ⟨fun h e => absurd e h, fun h => ⟨fun h2 _ => h2, fun h2 => ⟨h, h2⟩⟩⟩
abbrev vvs' (l : List (Int × Int)) : V := .sl 2 (vs l)
theorem s_toV (x y : Int) : Sp Tryz.prog 43 [aV x y] (aV x y) [] := by
  refine sp_of (m := no) mixed Tryz.func43 k43 ?_
  simp -dsimp [q]
def mkV (k : Int) (n : Nat) : List (Int × Int) := (List.range n).map fun i : Nat => (k + 2 * i, k + 2 * i + 1)
/-! marks on patterns -/
abbrev zP' : A := .ag [vi 0, vi 0, vi 0, vi 0, .nil 0]
end Go.Proofs.YtcnhcilpaplpcaaGreatDoorEv
namespace Go.Proofs.YtcnhcilpaplpcaaGreatDoorEv
open Go Go.Proofs
set_option maxRecDepth 10000
abbrev G6 := M4 × Int × Int
def vg (g : G6) : V := .ag [.int .i64 g.1.1, .int .i64 g.1.2.1, .int .i64 g.1.2.2.1, .int .i64 g.1.2.2.2, .int .i64 g.2.1, .int .i64 g.2.2]
def gs (l : List G6) : List V := l.map vg
abbrev aG6 (g : G6) : A := aG g.1.1 g.1.2.1 g.1.2.2.1 g.1.2.2.2 g.2.1 g.2.2
def smallG (g : G6) : Prop := (g.1.1.natAbs ≤ 1000 ∧ g.1.2.1.natAbs ≤ 1000) ∧ (g.1.2.2.1.natAbs ≤ 1000 ∧ g.1.2.2.2.natAbs ≤ 1000) ∧ g.2.1.natAbs ≤ 1000 ∧ g.2.2.natAbs ≤ 1000
def mvV (a b c : Int) (g : G6) (v : Int × Int) : Int × Int := (redX a b c (g.1.1 * v.1 + g.1.2.1 * v.2 + g.2.1) (g.1.2.2.1 * v.1 + g.1.2.2.2 * v.2 + g.2.2), (g.1.2.2.1 * v.1 + g.1.2.2.2 * v.2 + g.2.2) % c)
def suitG (f a b c : Int) (g : G6) : Bool := suit f a b c g.1.1 g.1.2.1 g.1.2.2.1 g.1.2.2.2 g.2.1 g.2.2
theorem suit_small {f a b c : Int} (hf : 0 ≤ f ∧ f ≤ 1) {g : G6} (h : suitG f a b c g = true) : smallG g ∧ (g.1.1.natAbs ≤ 1 ∧ g.1.2.1.natAbs ≤ 1) ∧ (g.1.2.2.1.natAbs ≤ 1 ∧ g.1.2.2.2.natAbs ≤ 1) := by
  simp only [suitG, suit, Bool.and_eq_true] at h
  obtain ⟨h1, h2, _⟩ := pm_facts hf h.1.1
  have h3 := okV_spec.1 h.2
  exact ⟨⟨⟨by omega, by omega⟩, ⟨by omega, by omega⟩, by omega, by omega⟩, h1, h2⟩
def fixN (a b c : Int) (g : G6) (l : List (Int × Int)) : Nat := l.countP fun v => decide (mvV a b c g v = v)
theorem fixN_succ {a b c : Int} {g : G6} {l : List (Int × Int)} {i : Nat} {v : Int × Int} (h : l[i]? = some v) : fixN a b c g (l.take (i + 1)) = fixN a b c g (l.take i) + if mvV a b c g v = v then 1 else 0 := by
  unfold fixN
  rw [List.take_add_one, h, List.countP_append]
  simp [List.countP_cons]
end Go.Proofs.YtcnhcilpaplpcaaGreatDoorEv
namespace Go.Proofs.YtcnhcilpaplpcaaGreatDoorEv
open Go Go.Proofs
set_option maxRecDepth 10000
theorem mget_enc {α : Type} [DecidableEq α] (enc : α → V) (hi : ∀ x y, enc x = enc y → x = y) (S : List α) (x : α) : mget (enc x) (S.map fun y => (enc y, V.bool true)) = if x ∈ S then some (.bool true) else none := by
  induction S with
  | nil => rfl
  | cons y S ih =>
    simp only [List.map_cons, mget]
    by_cases h : enc y = enc x
    · rw [if_pos (by rw [cdec_true]; exact h), if_pos (by rw [hi _ _ h]; simp)]
    · rw [if_neg (by rw [cdec_true]; exact h), ih]
      have : x ≠ y := fun e => h (by rw [e])
      simp [this]
theorem mput_enc {α : Type} [DecidableEq α] (enc : α → V) (hi : ∀ x y, enc x = enc y → x = y) (S : List α) (x : α) : mput (enc x) (.bool true) (S.map fun y => (enc y, V.bool true)) = (if x ∈ S then S else S ++ [x]).map fun y => (enc y, V.bool true) := by
  induction S with
  | nil => rfl
  | cons y S ih =>
    simp only [List.map_cons, mput]
    by_cases h : enc y = enc x
    · rw [if_pos (by rw [cdec_true]; exact h), if_pos (by rw [hi _ _ h]; simp), List.map_cons, h]
    · rw [if_neg (by rw [cdec_true]; exact h), ih]
      have : x ≠ y := fun e => h (by rw [e])
      by_cases hx : x ∈ S <;> simp [this, hx]
def sE (S : List (Int × Int)) : List (V × V) := S.map fun y => (vv y, V.bool true)
theorem vv_inj (x y : Int × Int) (h : vv x = vv y) : x = y := by
  obtain ⟨a, b⟩ := x
  obtain ⟨c, d⟩ := y
  simp only [vv, V.ag.injEq, List.cons.injEq, V.int.injEq, true_and, and_true] at h
  rw [h.1, h.2]
@[simp] theorem sE_nil : sE [] = [] := rfl
@[simp] theorem sE_len (S : List (Int × Int)) : (sE S).length = S.length := by simp [sE]
@[simp] theorem sE_get (S : List (Int × Int)) (x y : Int) : lkA (.bool false) false (mget (.ag [.int .i64 x, .int .i64 y]) (sE S)) = .v (.bool (decide ((x, y) ∈ S))) := by
  have := mget_enc vv vv_inj S (x, y)
  rw [show V.ag [.int .i64 x, .int .i64 y] = vv (x, y) from rfl, sE, this]
  by_cases h : (x, y) ∈ S <;> simp [h, lkA]
@[simp] theorem sE_put (S : List (Int × Int)) (x y : Int) : mput (.ag [.int .i64 x, .int .i64 y]) (.bool true) (sE S) = sE (if (x, y) ∈ S then S else S ++ [(x, y)]) := by
  have := mput_enc vv vv_inj S (x, y)
  rw [show V.ag [.int .i64 x, .int .i64 y] = vv (x, y) from rfl, sE, this, sE]
  by_cases h : (x, y) ∈ S <;> simp [h]
@[simp] theorem sE_keyed (S : List (Int × Int)) (x y : Int) : keyed 2 [1, 1] (.ag [.int .i64 x, .int .i64 y]) (sE S) ↔ True := by
  simp only [keyed, iff_true]
  refine ⟨rfl, rfl, fun p hp => ?_⟩
  obtain ⟨v, _, rfl⟩ := List.mem_map.1 hp
  exact ⟨rfl, rfl⟩
def bs (l : List Bool) : List V := l.map .bool
@[simp] theorem bs_len (l : List Bool) : (bs l).length = l.length := by simp [bs]
@[simp] theorem bs_get (l : List Bool) (n : Nat) (K : V → Prop) : fA ((bs l)[n]?) K = ∀ a, l[n]? = some a → K (.bool a) := by unfold bs; exact fA_map
@[simp] theorem bs_set (l : List Bool) (n : Nat) (b : Bool) : (bs l).set n (.bool b) = bs (l.set n b) := by simp [bs, List.map_set]
@[simp] theorem bs_rep (n : Nat) (b : Bool) : List.replicate n (V.bool b) = bs (List.replicate n b) := by simp [bs]
@[simp] theorem bs_inj (a b : List Bool) : bs a = bs b ↔ a = b := by
  constructor
  · exact fun h => (List.map_inj_right (fun x y e => by cases e; rfl)).1 h
  · rintro rfl; rfl
theorem pigeon {α : Type} [BEq α] [LawfulBEq α] : ∀ (S C : List α), S.Nodup → (∀ x ∈ S, x ∈ C) → S.length ≤ C.length
  | [], _, _, _ => Nat.zero_le _
  | x :: S, C, hn, hs => by
    rw [List.nodup_cons] at hn
    have h1 := pigeon S (C.erase x) hn.2 (fun y hy => (List.mem_erase_of_ne (fun e => hn.1 (by rw [← e]; exact hy))).2 (hs y (List.mem_cons_of_mem _ hy)))
    have h2 := hs x List.mem_cons_self
    rw [List.length_erase_of_mem h2] at h1
    have := List.length_pos_of_mem h2
    simp only [List.length_cons]
    omega
/-! the cells of a lattice, and marks on them -/
abbrev cl (a c : Int) : List (Int × Int) := cellsL c.toNat a.toNat
def inC (a c : Int) (v : Int × Int) : Prop := (0 ≤ v.1 ∧ v.1 < a) ∧ 0 ≤ v.2 ∧ v.2 < c
theorem inC_mv {a b c : Int} (ha : 1 ≤ a) (hc : 1 ≤ c) (g : G6) (v : Int × Int) : inC a c (mvV a b c g v) := red_lt ha hc
def ix (c : Int) (v : Int × Int) : Nat := (v.1 * c + v.2).toNat
theorem cl_ix {a c : Int} (ha : 1 ≤ a) (hc : 1 ≤ c) {v : Int × Int} (hv : inC a c v) : (cl a c)[ix c v]? = some v := by
  obtain ⟨x, y⟩ := v
  obtain ⟨h1, h2⟩ := hv
  simp only at h1 h2
  have h3 := (num_lt' h1 h2).2
  obtain ⟨n, rfl⟩ : ∃ n : Nat, c = n := ⟨c.toNat, by omega⟩
  obtain ⟨k, rfl⟩ : ∃ k : Nat, a = k := ⟨a.toNat, by omega⟩
  obtain ⟨i, rfl⟩ : ∃ i : Nat, x = i := ⟨x.toNat, by omega⟩
  obtain ⟨j, rfl⟩ : ∃ j : Nat, y = j := ⟨y.toNat, by omega⟩
  have hk : ix (n : Int) ((i : Int), (j : Int)) = i * n + j := by
    simp only [ix]
    omega
  have hlt : i * n + j < k * n := by
    have : ((i * n + j : Nat) : Int) < ((k * n : Nat) : Int) := by simpa using h3.2
    omega
  unfold cl
  rw [hk, Int.toNat_natCast, Int.toNat_natCast, cellsL_get n (by omega) k _ hlt]
  have h4 : (i * n + j) / n = i := by
    rw [Nat.div_eq_iff (by omega)]
    omega
  have h5 : (i * n + j) % n = j := by
    have := Nat.div_add_mod (i * n + j) n
    rw [h4, Nat.mul_comm] at this
    omega
  rw [h4, h5]
theorem cl_at {a c : Int} (ha : 1 ≤ a) (hc : 1 ≤ c) {i : Nat} {v : Int × Int} (h : (cl a c)[i]? = some v) : inC a c v ∧ ix c v = i := by
  obtain ⟨x, y⟩ := v
  obtain ⟨h1, _, h3⟩ := cell_of ha hc h
  exact ⟨h1, by simp only [ix]; omega⟩
theorem num_ix {a b c : Int} {v : Int × Int} (hv : inC a c v) : num a b c v.1 v.2 = v.1 * c + v.2 ∧ (0 ≤ v.1 * c + v.2 ∧ v.1 * c + v.2 < a * c) := by
  obtain ⟨h1, h2⟩ := hv
  refine ⟨?_, (num_lt' h1 h2).2⟩
  simp only [num, redX]
  rw [Int.ediv_eq_zero_of_lt h2.1 h2.2, Int.emod_eq_of_lt h2.1 h2.2, Int.zero_mul, Int.sub_zero, Int.emod_eq_of_lt h1.1 h1.2]
def marks (a c : Int) (S : List (Int × Int)) : List Bool := (cl a c).map fun v => decide (v ∈ S)
theorem marks_get {a c : Int} (ha : 1 ≤ a) (hc : 1 ≤ c) {v : Int × Int} (hv : inC a c v) (S : List (Int × Int)) : (marks a c S)[ix c v]? = some (decide (v ∈ S)) := by
  simp only [marks, List.getElem?_map, cl_ix ha hc hv, Option.map_some]
theorem marks_len {a c : Int} (S : List (Int × Int)) : (marks a c S).length = (cl a c).length := by simp [marks]
theorem marks_nil {a c : Int} : marks a c [] = List.replicate (cl a c).length false := by
  unfold marks
  rw [List.eq_replicate_iff]
  refine ⟨by simp, fun b hb => ?_⟩
  obtain ⟨v, _, rfl⟩ := List.mem_map.1 hb
  simp
theorem marks_set {a c : Int} (ha : 1 ≤ a) (hc : 1 ≤ c) {v : Int × Int} (hv : inC a c v) (S : List (Int × Int)) : (marks a c S).set (ix c v) true = marks a c (S ++ [v]) := by
  apply List.ext_getElem?
  intro j
  have hg := cl_ix ha hc hv
  rw [List.getElem?_set, marks_len]
  by_cases hj : ix c v = j
  · subst hj
    rw [if_pos rfl, if_pos (List.getElem?_eq_some_iff.1 hg).1]
    simp [marks, hg]
  · rw [if_neg hj]
    simp only [marks, List.getElem?_map]
    cases hw : (cl a c)[j]? with
    | none => rfl
    | some w =>
      have : w ≠ v := fun e => hj (by rw [← e]; exact (cl_at ha hc hw).2)
      simp [this]
/-! cycles -/
def wk (a b c : Int) (g : G6) : Nat → List (Int × Int) → Int × Int → List (Int × Int)
  | 0, S, _ => S
  | n + 1, S, u => if u ∈ S then S else wk a b c g n (S ++ [u]) (mvV a b c g u)
def wkF (a b c : Int) (g : G6) (S : List (Int × Int)) (u : Int × Int) : List (Int × Int) := wk a b c g ((cl a c).length + 1 - S.length) S u
def okSet (a c : Int) (S : List (Int × Int)) : Prop := S.Nodup ∧ ∀ v ∈ S, inC a c v
theorem okSet_len {a c : Int} (ha : 1 ≤ a) (hc : 1 ≤ c) {S : List (Int × Int)} (h : okSet a c S) : S.length ≤ (cl a c).length :=
  pigeon _ _ h.1 fun v hv => List.mem_of_getElem? (cl_ix ha hc (h.2 v hv))
theorem okSet_snoc {a c : Int} {S : List (Int × Int)} (h : okSet a c S) {u : Int × Int} (hu : inC a c u) (hn : u ∉ S) : okSet a c (S ++ [u]) := by
  refine ⟨?_, fun v hv => ?_⟩
  · rw [List.nodup_append]
    refine ⟨h.1, by simp, fun x hx y hy => ?_⟩
    simp only [List.mem_singleton] at hy
    subst hy
    exact fun e => hn (e ▸ hx)
  · rcases List.mem_append.1 hv with hv | hv
    · exact h.2 v hv
    · simp only [List.mem_singleton] at hv
      exact hv ▸ hu
theorem wkF_hit {a b c : Int} (ha : 1 ≤ a) (hc : 1 ≤ c) {g : G6} {S : List (Int × Int)} (h : okSet a c S) {u : Int × Int} (hu : u ∈ S) : wkF a b c g S u = S := by
  have := okSet_len ha hc h
  unfold wkF
  rw [show (cl a c).length + 1 - S.length = ((cl a c).length - S.length) + 1 by omega]
  simp [wk, hu]
theorem wkF_miss {a b c : Int} (ha : 1 ≤ a) (hc : 1 ≤ c) {g : G6} {S : List (Int × Int)} (h : okSet a c S) {u : Int × Int} (hi : inC a c u) (hu : u ∉ S) : wkF a b c g S u = wkF a b c g (S ++ [u]) (mvV a b c g u) ∧ S.length < (cl a c).length := by
  have := okSet_len ha hc (okSet_snoc h hi hu)
  simp only [List.length_append, List.length_singleton] at this
  refine ⟨?_, by omega⟩
  unfold wkF
  rw [show (cl a c).length + 1 - S.length = ((cl a c).length + 1 - (S ++ [u]).length) + 1 by simp; omega]
  simp [wk, hu]
def cy1 (a b c : Int) (g : G6) (st : List (Int × Int) × Nat) (v : Int × Int) : List (Int × Int) × Nat := if v ∈ st.1 then st else (wkF a b c g st.1 v, st.2 + 1)
def cyS (a b c : Int) (g : G6) (l : List (Int × Int)) : List (Int × Int) × Nat := l.foldl (cy1 a b c g) ([], 0)
theorem cyS_succ {a b c : Int} {g : G6} {l : List (Int × Int)} {i : Nat} {v : Int × Int} (h : l[i]? = some v) : cyS a b c g (l.take (i + 1)) = cy1 a b c g (cyS a b c g (l.take i)) v := by
  unfold cyS
  rw [List.take_add_one, h, List.foldl_append]
  rfl
theorem wk_ok {a b c : Int} (ha : 1 ≤ a) (hc : 1 ≤ c) {g : G6} : ∀ (n : Nat) (S : List (Int × Int)) (u : Int × Int), okSet a c S → inC a c u → okSet a c (wk a b c g n S u)
  | 0, S, u, h, _ => h
  | n + 1, S, u, h, hu => by
    simp only [wk]
    split
    · exact h
    · rename_i hn
      exact wk_ok ha hc n _ _ (okSet_snoc h hu hn) (inC_mv ha hc g u)
theorem cyS_ok {a b c : Int} (ha : 1 ≤ a) (hc : 1 ≤ c) {g : G6} : ∀ i, okSet a c (cyS a b c g ((cl a c).take i)).1 ∧ (cyS a b c g ((cl a c).take i)).2 ≤ i
  | 0 => by simp [cyS, okSet]
  | i + 1 => by
    obtain ⟨h1, h2⟩ := cyS_ok ha hc (g := g) i
    cases hv : (cl a c)[i]? with
    | none =>
      rw [List.take_of_length_le (by have := List.getElem?_eq_none_iff.1 hv; omega)]
      rw [List.take_of_length_le (by have := List.getElem?_eq_none_iff.1 hv; omega)] at h1 h2
      exact ⟨h1, by omega⟩
    | some v =>
      rw [cyS_succ hv]
      unfold cy1
      split
      · exact ⟨h1, by omega⟩
      · exact ⟨wk_ok ha hc _ _ _ h1 (cl_at ha hc hv).1, by simp only; omega⟩
end Go.Proofs.YtcnhcilpaplpcaaGreatDoorEv
namespace Go.Proofs.YtcnhcilpaplpcaaGreatDoorEv
open Go Go.Proofs
set_option maxRecDepth 10000
@[simp] theorem gs_nil : gs [] = [] := rfl
@[simp] theorem gs_len (l : List G6) : (gs l).length = l.length := by simp [gs]
@[simp] theorem gs_get (l : List G6) (n : Nat) (K : V → Prop) : fA ((gs l)[n]?) K = ∀ g, l[n]? = some g → K (.ag [.int .i64 g.1.1, .int .i64 g.1.2.1, .int .i64 g.1.2.2.1, .int .i64 g.1.2.2.2, .int .i64 g.2.1, .int .i64 g.2.2]) := by unfold gs; exact fA_map
@[simp] theorem gs_app (l : List G6) (a b c d x y : Int) : gs l ++ [.ag [.int .i64 a, .int .i64 b, .int .i64 c, .int .i64 d, .int .i64 x, .int .i64 y]] = gs (l ++ [((a, b, c, d), x, y)]) := by simp [gs, vg]
@[simp] theorem gs_set (l : List G6) (n : Nat) (a b c d x y : Int) : (gs l).set n (.ag [.int .i64 a, .int .i64 b, .int .i64 c, .int .i64 d, .int .i64 x, .int .i64 y]) = gs (l.set n ((a, b, c, d), x, y)) := by simp [gs, vg, List.map_set]
@[simp] theorem gs_flat (l : List G6) : (∀ x, x ∈ gs l → x.flat = true) ↔ True := by
  simp only [iff_true]
  intro x hx
  obtain ⟨y, _, rfl⟩ := List.mem_map.1 hx
  rfl
theorem vg_inj (g h : G6) (e : vg g = vg h) : g = h := by
  obtain ⟨⟨a, b, c, d⟩, x, y⟩ := g
  obtain ⟨⟨a', b', c', d'⟩, x', y'⟩ := h
  simp only [vg, V.ag.injEq, List.cons.injEq, V.int.injEq, true_and, and_true] at e
  obtain ⟨rfl, rfl, rfl, rfl, rfl, rfl⟩ := e
  rfl
@[simp] theorem gs_inj (a b : List G6) : gs a = gs b ↔ a = b := by
  constructor
  · exact fun h => (List.map_inj_right (fun x y e => vg_inj x y e)).1 h
  · rintro rfl; rfl
abbrev vgs (l : List G6) : V := .sl 6 (gs l)
def gE (S : List G6) : List (V × V) := S.map fun y => (vg y, V.bool true)
@[simp] theorem gE_nil : gE [] = [] := rfl
@[simp] theorem gE_get (S : List G6) (a b c d x y : Int) : lkA (.bool false) false (mget (.ag [.int .i64 a, .int .i64 b, .int .i64 c, .int .i64 d, .int .i64 x, .int .i64 y]) (gE S)) = .v (.bool (decide (((a, b, c, d), x, y) ∈ S))) := by
  have := mget_enc vg vg_inj S ((a, b, c, d), x, y)
  rw [show V.ag [.int .i64 a, .int .i64 b, .int .i64 c, .int .i64 d, .int .i64 x, .int .i64 y] = vg ((a, b, c, d), x, y) from rfl, gE, this]
  by_cases h : ((a, b, c, d), x, y) ∈ S <;> simp [h, lkA]
@[simp] theorem gE_put (S : List G6) (a b c d x y : Int) : mput (.ag [.int .i64 a, .int .i64 b, .int .i64 c, .int .i64 d, .int .i64 x, .int .i64 y]) (.bool true) (gE S) = gE (if ((a, b, c, d), x, y) ∈ S then S else S ++ [((a, b, c, d), x, y)]) := by
  have := mput_enc vg vg_inj S ((a, b, c, d), x, y)
  rw [show V.ag [.int .i64 a, .int .i64 b, .int .i64 c, .int .i64 d, .int .i64 x, .int .i64 y] = vg ((a, b, c, d), x, y) from rfl, gE, this, gE]
  by_cases h : ((a, b, c, d), x, y) ∈ S <;> simp [h]
@[simp] theorem gE_keyed (S : List G6) (a b c d x y : Int) : keyed 6 [1, 1, 1, 1, 1, 1] (.ag [.int .i64 a, .int .i64 b, .int .i64 c, .int .i64 d, .int .i64 x, .int .i64 y]) (gE S) ↔ True := by
  simp only [keyed, iff_true]
  refine ⟨rfl, rfl, fun p hp => ?_⟩
  obtain ⟨v, _, rfl⟩ := List.mem_map.1 hp
  exact ⟨rfl, rfl⟩
/-! the order -/
def lexLt : List Int → List Int → Bool
  | x :: xs, y :: ys => if x = y then lexLt xs ys else decide (x < y)
  | _, _ => false
theorem lexLt_irr : ∀ xs, lexLt xs xs = false
  | [] => rfl
  | x :: xs => by simp [lexLt, lexLt_irr xs]
theorem lexLt_trans : ∀ {xs ys zs : List Int}, xs.length = ys.length → ys.length = zs.length → lexLt xs ys = true → lexLt ys zs = true → lexLt xs zs = true
  | [], _, _, _, _, h, _ => by simp [lexLt] at h
  | x :: xs, [], _, h, _, _, _ => by simp at h
  | x :: xs, y :: ys, [], _, h, _, _ => by simp at h
  | x :: xs, y :: ys, z :: zs, h1, h2, h3, h4 => by
    simp only [lexLt] at h3 h4 ⊢
    split at h3 <;> split at h4 <;> split
    · exact lexLt_trans (by simpa using h1) (by simpa using h2) h3 h4
    · exfalso; omega
    · exfalso; rename_i e1 e2 e3; simp at h4; omega
    · simp at h4 ⊢; omega
    · exfalso; rename_i e1 e2 e3; simp at h3; omega
    · simp at h3 ⊢; omega
    · simp at h3 h4; omega
    · simp at h3 h4 ⊢; omega
theorem lexLt_at : ∀ {xs ys : List Int} {i : Nat} {x y : Int}, xs.take i = ys.take i → xs[i]? = some x → ys[i]? = some y → x ≠ y → lexLt xs ys = decide (x < y) ∧ xs ≠ ys
  | [], _, _, _, _, _, h, _, _ => by simp at h
  | _ :: _, [], _, _, _, _, _, h, _ => by simp at h
  | a :: xs, b :: ys, 0, x, y, _, h1, h2, hn => by
    simp only [List.getElem?_cons_zero, Option.some.injEq] at h1 h2
    subst h1 h2
    simp [lexLt, hn]
  | a :: xs, b :: ys, i + 1, x, y, h, h1, h2, hn => by
    simp only [List.take_succ_cons, List.cons.injEq] at h
    obtain ⟨rfl, h⟩ := h
    have := lexLt_at h (by simpa using h1) (by simpa using h2) hn
    simp [lexLt, this.1, this.2]
theorem lexLt_app : ∀ {xs ys us vs : List Int}, xs.length = ys.length → lexLt (xs ++ us) (ys ++ vs) = if xs = ys then lexLt us vs else lexLt xs ys
  | [], [], _, _, _ => by simp
  | [], _ :: _, _, _, h => by simp at h
  | _ :: _, [], _, _, h => by simp at h
  | x :: xs, y :: ys, us, vs, h => by
    have := lexLt_app (us := us) (vs := vs) (show xs.length = ys.length by simpa using h)
    simp only [List.cons_append, lexLt]
    by_cases e : x = y
    · subst e
      simp only [if_true, this, List.cons.injEq, true_and]
    · simp [e]
theorem s_cmpN (xs ys : List Int) (hl : xs.length = ys.length) (hx : xs.length ≤ 1048576) : Sp Tryz.prog 144 [.v (vis xs), .v (vis ys)] (vi (if xs = ys then 0 else if lexLt xs ys = true then -1 else 1)) [] := by
  refine sp_of (m := no) mixed Tryz.func144 k144 ?_
  simp -dsimp [q]
  refine awp_it (true :: true :: false :: false :: false :: false :: false :: true :: true :: []) (fun i : Nat => [(8, vi i)]) (fun i => []) (fun i => i ≤ xs.length ∧ xs.take i = ys.take i) (fun i => xs.length - i) 0 ?_
  intro s0 e
  simp -dsimp at e
  subst e
  refine ⟨?_, ?_⟩
  · simp
  rintro i ⟨hi, ht⟩
  simp -dsimp
  refine ⟨fun h1 => ⟨h1, fun x hx' => ⟨by omega, fun y hy' => ⟨fun hn => ?_, fun e => ?_⟩⟩⟩, fun h1 => ?_⟩
  · have hl2 := lexLt_at ht hx' hy' hn
    simp -dsimp [hx', hy', hl2]
    exact ⟨by omega, by omega⟩
  · subst e
    refine ⟨i + 1, by rw [w64 (by omega) (by omega)]; simp, ⟨by omega, ?_⟩, by omega⟩
    rw [List.take_add_one, List.take_add_one, ht, hx', hy']
  · rw [List.take_of_length_le h1, List.take_of_length_le (by omega)] at ht
    exact fun hn => absurd ht hn
theorem s_lessL (xs ys : List Int) (hl : xs.length = ys.length) (hx : xs.length ≤ 1048576) : Sp Tryz.prog 169 [.v (vis xs), .v (vis ys)] (vb (lexLt xs ys)) [] := by
  refine sp_of (m := no) mixed Tryz.func169 k169 ?_
  simp -dsimp [q]
  refine awp_it (true :: true :: false :: false :: false :: true :: []) (fun i : Nat => [(5, vi i)]) (fun i => []) (fun i => i ≤ xs.length ∧ xs.take i = ys.take i) (fun i => xs.length - i) 0 ?_
  intro s0 e
  simp -dsimp at e
  subst e
  refine ⟨?_, ?_⟩
  · simp
  rintro i ⟨hi, ht⟩
  simp -dsimp
  refine ⟨fun h1 => ⟨fun h2 => ⟨h1, fun x hx' => ⟨h2, fun y hy' => ⟨fun hn => ?_, fun e => ?_⟩⟩⟩, fun h2 => ?_⟩, fun h1 => ?_⟩
  · refine ⟨h1, fun x2 hx2 => ⟨h2, fun y2 hy2 => ?_⟩⟩
    rw [hx'] at hx2
    rw [hy'] at hy2
    cases hx2
    cases hy2
    exact (lexLt_at ht hx' hy' hn).1.symm
  · subst e
    refine ⟨i + 1, by rw [w64 (by omega) (by omega)]; simp, ⟨by omega, ?_⟩, by omega⟩
    rw [List.take_add_one, List.take_add_one, ht, hx', hy']
  · omega
  · rw [List.take_of_length_le h1, List.take_of_length_le (by omega)] at ht
    rw [ht, lexLt_irr]
    simp
def m4 (m : M4) : List Int := [m.1, m.2.1, m.2.2.1, m.2.2.2]
def t2 (v : Int × Int) : List Int := [v.1, v.2]
def ltG (g h : G6) : Bool := if g.1 = h.1 then lexLt (t2 g.2) (t2 h.2) else lexLt (m4 g.1) (m4 h.1)
theorem m4_inj (m n : M4) : m4 m = m4 n ↔ m = n := by
  constructor
  · intro h
    simp only [m4, List.cons.injEq, and_true] at h
    exact Prod.ext h.1 (Prod.ext h.2.1 (Prod.ext h.2.2.1 h.2.2.2))
  · rintro rfl; rfl
theorem ltG_lex (g h : G6) : ltG g h = lexLt (m4 g.1 ++ t2 g.2) (m4 h.1 ++ t2 h.2) := by
  have e : (m4 g.1).length = (m4 h.1).length := rfl
  rw [lexLt_app e]
  clear e
  unfold ltG
  by_cases e : g.1 = h.1
  · rw [if_pos e, if_pos (by rw [e])]
  · rw [if_neg e, if_neg (fun k => e ((m4_inj _ _).1 k))]
theorem ltG_irr (g : G6) : ltG g g = false := by rw [ltG_lex, lexLt_irr]
theorem ltG_trans {g h k : G6} (h1 : ltG g h = true) (h2 : ltG h k = true) : ltG g k = true := by
  rw [ltG_lex] at *
  exact lexLt_trans (ys := m4 h.1 ++ t2 h.2) rfl rfl h1 h2
theorem s_cmpM (m n : M4) : Sp Tryz.prog 112 [aM4 m, aM4 n] (vi (if m = n then 0 else if lexLt (m4 m) (m4 n) = true then -1 else 1)) [] := by
  refine sp_of (m := no) mixed Tryz.func112 k112 ?_
  have w := s_cmpN (m4 m) (m4 n) rfl (by simp [m4])
  simp only [m4_inj] at w
  simp -dsimp [q]
  refine call_of ((w : Sp Tryz.prog _ [.v (.sl 0 [.int .i64 m.1, .int .i64 m.2.1, .int .i64 m.2.2.1, .int .i64 m.2.2.2]), .v (.sl 0 [.int .i64 n.1, .int .i64 n.2.1, .int .i64 n.2.2.1, .int .i64 n.2.2.2])] _ _)) rfl (by simp) ?_
  try simp -dsimp
  try (first | exact fp_one (by decide) | refine fp_and (by decide) ?_)
theorem t2_inj (m n : Int × Int) : t2 m = t2 n ↔ m = n := by
  constructor
  · intro h
    simp only [t2, List.cons.injEq, and_true] at h
    exact Prod.ext h.1 h.2
  · rintro rfl; rfl
theorem s_cmpV (m n : Int × Int) : Sp Tryz.prog 113 [aV m.1 m.2, aV n.1 n.2] (vi (if m = n then 0 else if lexLt (t2 m) (t2 n) = true then -1 else 1)) [] := by
  refine sp_of (m := no) mixed Tryz.func113 k113 ?_
  have w := s_cmpN (t2 m) (t2 n) rfl (by simp [t2])
  simp only [t2_inj] at w
  simp -dsimp [q]
  refine call_of ((w : Sp Tryz.prog _ [.v (.sl 0 [.int .i64 m.1, .int .i64 m.2]), .v (.sl 0 [.int .i64 n.1, .int .i64 n.2])] _ _)) rfl (by simp) ?_
  try simp -dsimp
  try (first | exact fp_one (by decide) | refine fp_and (by decide) ?_)
theorem s_cmpG (g h : G6) : ∃ k, Sp Tryz.prog 86 [aG6 g, aG6 h] (vi k) [] ∧ (0 ≤ k ↔ ltG g h = false) := by
  have w1 := s_cmpM g.1 h.1
  have w2 := s_cmpV g.2 h.2
  by_cases e : g.1 = h.1
  · rw [if_pos e] at w1
    refine ⟨if g.2 = h.2 then 0 else if lexLt (t2 g.2) (t2 h.2) = true then -1 else 1, ?_, ?_⟩
    · refine sp_of (m := no) mixed Tryz.func86 k86 ?_
      simp -dsimp [q]
      refine call_of (w1) rfl (by simp) ?_
      try simp -dsimp
      try (first | exact fp_one (by decide) | refine fp_and (by decide) ?_)
      refine call_of (w2) rfl (by simp) ?_
      try simp -dsimp
      try (first | exact fp_one (by decide) | refine fp_and (by decide) ?_)
    · unfold ltG
      rw [if_pos e]
      by_cases e2 : g.2 = h.2
      · rw [if_pos e2, e2, lexLt_irr]; simp
      · rw [if_neg e2]; split <;> simp_all
  · rw [if_neg e] at w1
    refine ⟨if lexLt (m4 g.1) (m4 h.1) = true then -1 else 1, ?_, ?_⟩
    · refine sp_of (m := no) mixed Tryz.func86 k86 ?_
      simp -dsimp [q]
      refine call_of (w1) rfl (by simp) ?_
      try simp -dsimp
      try (first | exact fp_one (by decide) | refine fp_and (by decide) ?_)
      split <;> simp
    · unfold ltG
      rw [if_neg e]
      split <;> simp_all
theorem s_sless (x y x' y' : Int) : Sp Tryz.prog 158 [aV x y, aV x' y'] (vb (lexLt (t2 (x, y)) (t2 (x', y')))) [] := by
  refine sp_of (m := no) mixed Tryz.func158 k158 ?_
  simp -dsimp [q]
  refine ⟨fun h => ⟨fun e => ?_, fun e => ?_⟩, fun h => ?_⟩
  · simp [lexLt, t2, e]
    by_cases e2 : y = y' <;> simp [e2]
  · simp [lexLt, t2, e]
    omega
  · simp [lexLt, t2]
    rw [if_neg (by omega)]
    simpa using h
theorem s_nums (m : M4) : Sp Tryz.prog 170 [aM4 m] (.v (.sl 0 [.int .i64 m.1, .int .i64 m.2.1, .int .i64 m.2.2.1, .int .i64 m.2.2.2])) [] := by
  refine sp_of (m := no) mixed Tryz.func170 k170 ?_
  simp -dsimp [q]
theorem s_lessM (m n : M4) : Sp Tryz.prog 157 [aM4 m, aM4 n] (vb (lexLt (m4 m) (m4 n))) [] := by
  refine sp_of (m := no) mixed Tryz.func157 k157 ?_
  have w := s_lessL (m4 m) (m4 n) rfl (by simp [m4])
  simp -dsimp [q]
  refine call_of (s_nums m) rfl (by simp) ?_
  try simp -dsimp
  try (first | exact fp_one (by decide) | refine fp_and (by decide) ?_)
  refine call_of (s_nums n) rfl (by simp) ?_
  try simp -dsimp
  try (first | exact fp_one (by decide) | refine fp_and (by decide) ?_)
  refine call_of ((w : Sp Tryz.prog _ [.v (.sl 0 [.int .i64 m.1, .int .i64 m.2.1, .int .i64 m.2.2.1, .int .i64 m.2.2.2]), .v (.sl 0 [.int .i64 n.1, .int .i64 n.2.1, .int .i64 n.2.2.1, .int .i64 n.2.2.2])] _ _)) rfl (by simp) ?_
  try simp -dsimp
  try (first | exact fp_one (by decide) | refine fp_and (by decide) ?_)
theorem s_lessG (g h : G6) : Sp Tryz.prog 132 [aG6 g, aG6 h] (vb (ltG g h)) [] := by
  refine sp_of (m := no) mixed Tryz.func132 k132 ?_
  have w1 := s_lessM g.1 h.1
  have w2 := s_sless g.2.1 g.2.2 h.2.1 h.2.2
  simp -dsimp [q]
  refine ⟨fun hn => ?_, fun e1 e2 e3 e4 => ?_⟩
  · have e : ltG g h = lexLt (m4 g.1) (m4 h.1) := by
      unfold ltG
      rw [if_neg (fun e => by rw [e] at hn; exact hn rfl rfl rfl rfl)]
    rw [← e] at w1
    refine call_of (w1) rfl (by simp) ?_
    try simp -dsimp
    try (first | exact fp_one (by decide) | refine fp_and (by decide) ?_)
  · have e : ltG g h = lexLt (t2 g.2) (t2 h.2) := by
      unfold ltG
      rw [if_pos (Prod.ext e1 (Prod.ext e2 (Prod.ext e3 e4)))]
    rw [← e] at w2
    refine call_of (w2) rfl (by simp) ?_
    try simp -dsimp
    try (first | exact fp_one (by decide) | refine fp_and (by decide) ?_)
/-! searching -/
def srt (l : List G6) : Prop := l.Pairwise fun g h => ltG g h = true
theorem srt_get {l : List G6} (h : srt l) {i j : Nat} {g k : G6} (hi : l[i]? = some g) (hj : l[j]? = some k) (hij : i < j) : ltG g k = true := by
  obtain ⟨hi', rfl⟩ := List.getElem?_eq_some_iff.1 hi
  obtain ⟨hj', rfl⟩ := List.getElem?_eq_some_iff.1 hj
  exact List.pairwise_iff_getElem.1 h i j hi' hj' hij
def plc (l : List G6) (m : G6) : Nat := l.findIdx fun x => !ltG x m
theorem plc_eq {l : List G6} {m : G6} {k : Nat} (hk : k ≤ l.length) (h1 : ∀ (j : Nat) x, j < k → l[j]? = some x → ltG x m = true) (h2 : ∀ (j : Nat) x, k ≤ j → l[j]? = some x → ltG x m = false) : plc l m = k := by
  unfold plc
  by_cases e : k < l.length
  · refine (List.findIdx_eq e).2 ⟨by simp [h2 k l[k] (Nat.le_refl _) (List.getElem?_eq_getElem e)], fun j hj => ?_⟩
    simp [h1 j l[j] hj (List.getElem?_eq_getElem (by omega))]
  · have : k = l.length := by omega
    subst this
    rw [List.findIdx_eq_length]
    intro x hx
    obtain ⟨j, hj⟩ := List.getElem?_of_mem hx
    simp [h1 j x (List.getElem?_eq_some_iff.1 hj).1 hj]
def plI (l : List G6) (m : G6) (lo hi : Nat) : Prop := lo ≤ hi ∧ hi ≤ l.length ∧ (∀ (j : Nat) x, j < lo → l[j]? = some x → ltG x m = true) ∧ ∀ (j : Nat) x, hi ≤ j → l[j]? = some x → ltG x m = false
theorem s_place (l : List G6) (m : G6) (hs : srt l) (hl : l.length ≤ 1048576) : Sp Tryz.prog 105 [.v (vgs l), aG6 m] (vi (plc l m)) [] := by
  refine sp_of (m := no) mixed Tryz.func105 k105 ?_
  simp -dsimp [q]
  refine awp_it (true :: false :: false :: true :: false :: true :: true :: []) (fun s : Nat × Nat => [(5, vi s.1), (6, vi s.2)]) (fun s => []) (fun s => plI l m s.1 s.2) (fun s => s.2 - s.1) (0, l.length) ?_
  intro s0 e
  simp -dsimp at e
  subst e
  refine ⟨?_, ?_⟩
  · refine ⟨by simp, by simp, by simp, fun j x hj => by simp at hj, fun j x hj hx => ?_⟩
    have := (List.getElem?_eq_some_iff.1 hx).1
    simp only at hj
    omega
  rintro ⟨lo, hi⟩ ⟨k1, k2, k3, k4⟩
  simp only at k1 k2 k3 k4
  simp -dsimp [-Prod.forall, -Prod.exists]
  refine ⟨fun h1 => ?_, fun h1 => ?_⟩
  · have e : IntKind.i64.wrap ((IntKind.i64.wrap ((lo : Int) + hi)).tdiv 2) = ((lo + hi) / 2 : Nat) := by
      rw [w64 (n := (lo : Int) + hi) (by omega) (by omega), Int.tdiv_eq_ediv_of_nonneg (by omega), w64 (by omega) (by omega)]
      omega
    rw [e]
    generalize hm : (lo + hi) / 2 = md
    have hm1 : lo ≤ md ∧ md < hi := by omega
    refine ⟨⟨by omega, by omega⟩, fun x hx => ?_⟩
    rw [Int.toNat_natCast] at hx
    refine call_of (s_lessG x m) rfl (by simp) ?_
    try simp -dsimp
    try (first | exact fp_one (by decide) | refine fp_and (by decide) ?_)
    refine ⟨fun hlt => ⟨md + 1, hi, ⟨by rw [w64 (by omega) (by omega)]; simp, rfl⟩, ⟨by omega, by omega, fun j y hj hy => ?_, k4⟩, by omega⟩, fun hlt => ⟨lo, md, ⟨rfl, rfl⟩, ⟨by omega, by omega, k3, fun j y hj hy => ?_⟩, by omega⟩⟩
    · by_cases e2 : j = md
      · subst e2
        rw [hx] at hy
        cases hy
        exact hlt
      · exact ltG_trans (srt_get hs hy hx (by omega)) hlt
    · by_cases e2 : j = md
      · subst e2
        rw [hx] at hy
        cases hy
        exact hlt
      · cases hq : ltG y m with
        | false => rfl
        | true =>
          rw [ltG_trans (srt_get hs hx hy (by omega)) hq] at hlt
          cases hlt
  · rw [plc_eq (k := lo) (by omega) k3 (fun j x hj hx => k4 j x (by omega) hx)]
theorem plc_has {l : List G6} {m : G6} (hs : srt l) : (plc l m < l.length ∧ l[plc l m]? = some m) ↔ m ∈ l := by
  constructor
  · exact fun h => List.mem_of_getElem? h.2
  · intro h
    obtain ⟨j, hj⟩ := List.getElem?_of_mem h
    have hjl := (List.getElem?_eq_some_iff.1 hj).1
    have : plc l m = j := plc_eq (by omega) (fun i x hi hx => srt_get hs hx hj hi) (fun i x hi hx => by
      by_cases e : i = j
      · subst e
        rw [hj] at hx
        cases hx
        exact ltG_irr m
      · cases hq : ltG x m with
        | false => rfl
        | true =>
          have := ltG_trans (srt_get hs hj hx (by omega)) hq
          rw [ltG_irr] at this
          cases this)
    rw [this]
    exact ⟨hjl, hj⟩
theorem s_shas (l : List G6) (m : G6) (hs : srt l) (hl : l.length ≤ 1048576) : Sp Tryz.prog 80 [.v (vgs l), aG6 m] (vb (decide (m ∈ l))) [] := by
  refine sp_of (m := no) mixed Tryz.func80 k80 ?_
  have hp := plc_has (m := m) hs
  simp -dsimp [q, -Prod.forall, -Prod.exists]
  refine call_of (s_place l m hs hl) rfl (by simp) ?_
  try simp -dsimp
  try (first | exact fp_one (by decide) | refine fp_and (by decide) ?_)
  refine ⟨fun h1 => ⟨h1, fun a b c d x y hx => ?_⟩, fun h1 hm => ?_⟩
  · rw [Bool.eq_iff_iff, cdec_true, decide_eq_true_iff, ← hp, hx]
    obtain ⟨⟨a', b', c', d'⟩, x', y'⟩ := m
    simp only [Option.some.injEq, Prod.mk.injEq]
    constructor
    · rintro ⟨rfl, rfl, rfl, rfl, rfl, rfl⟩; exact ⟨h1, ⟨rfl, rfl, rfl, rfl⟩, rfl, rfl⟩
    · rintro ⟨_, ⟨rfl, rfl, rfl, rfl⟩, rfl, rfl⟩; exact ⟨rfl, rfl, rfl, rfl, rfl, rfl⟩
  · have := (hp.2 hm).1
    omega
end Go.Proofs.YtcnhcilpaplpcaaGreatDoorEv
namespace Go.Proofs.YtcnhcilpaplpcaaGreatDoorEv
open Go Go.Proofs
set_option maxRecDepth 10000
theorem is_ne (l : List Int) (h : l ≠ []) : is l ≠ [] := by simpa [is] using h
def maskL (l : List Int) (ink : Int) : List Int := l.map fun x => if x = ink then 1 else 0
theorem maskL_len (l : List Int) (ink : Int) : (maskL l ink).length = l.length := by simp [maskL]
theorem maskL_take {l : List Int} {ink z : Int} {n : Nat} (h : l[n]? = some z) : (maskL l ink).take (n + 1) = (maskL l ink).take n ++ [if z = ink then 1 else 0] := by
  rw [List.take_add_one]
  simp [maskL, h]
abbrev ovI (p m : List Int) (ink : Int) (n : Nat) : List Int := setN (fun k => decide (m.getD k 0 = 1)) (fun k => k) (fun _ => ink) p n
abbrev ovS (a b c u v : Int) (p m : List Int) (ink : Int) (n : Nat) : List Int := setN (fun k => decide (m.getD k 0 = 1)) (mv a b c u v) (fun _ => ink) p n
end Go.Proofs.YtcnhcilpaplpcaaGreatDoorEv
namespace Go.Proofs.YtcnhcilpaplpcaaGreatDoorEv
open Go Go.Proofs
set_option maxRecDepth 10000
theorem lf_one {a : Int} (ha : 0 < a) : lstep (0, 0, 0) (a, 0) = (a, 0, 0) ∧ lstepS (0, 0, 0) (a, 0) = (a, 0, 0) := by
  have h : (a.natAbs : Int) = a := by omega
  simp [lstep, lstepS, eu, h]
theorem eu_two {a b c : Int} (hc : 0 < c) : eu c.natAbs (0, 0) (b, c) = ((b, c), (0, 0)) := by
  have h := eu_step (h := (0, 0)) (v := (b, c)) (show c ≠ 0 by omega)
  simp only at h
  rw [h]
  simp [eu]
theorem lf_two {a b c : Int} (ha : 0 < a) (hc : 0 < c) : lstep (a, 0, 0) (b, c) = (a, b, c) ∧ lstepS (a, 0, 0) (b, c) = (a, b % a, c) := by
  have h : (a.natAbs : Int) = a := by omega
  simp only [lstep, lstepS, eu_two (a := a) (b := b) hc, Int.gcd_zero_right, h, if_pos ha, and_self]
theorem lf_basis {a b c : Int} (ha : 0 < a) (hc : 0 < c) : lfold [(a, 0), (b, c)] = (a, b, c) ∧ lfoldS [(a, 0), (b, c)] = (a, b % a, c) := by
  simp only [lfold, lfoldS, List.foldl_cons, List.foldl_nil, lf_one ha, lf_two ha hc, and_self]
theorem take2 {α : Type} (x y : α) (P : List α → Prop) (h0 : P []) (h1 : P [x]) (h2 : P [x, y]) : ∀ k, P (([x, y] : List α).take k)
  | 0 => h0
  | 1 => h1
  | k + 2 => by simpa using h2
theorem ls_basis {a b c : Int} (ha : 1 ≤ a ∧ a ≤ 64) (hb : 0 ≤ b ∧ b < a) (hc : 1 ≤ c ∧ c ≤ 64) : lsmall [(a, 0), (b, c)] ∧ lsmallS [(a, 0), (b, c)] := by
  have hv : ∀ v ∈ ([(a, 0), (b, c)] : List (Int × Int)), smallV 1000000 v := by
    intro v hv
    simp only [List.mem_cons, List.not_mem_nil, or_false] at hv
    rcases hv with rfl | rfl <;> exact ⟨by simp only; omega, by simp only; omega⟩
  have h1 := lf_one (a := a) (by omega)
  have h2 := lf_basis (a := a) (b := b) (c := c) (by omega) (by omega)
  have h3 : b % a = b := Int.emod_eq_of_lt hb.1 hb.2
  refine ⟨⟨hv, take2 _ _ (fun l => smallV 1000000 (lfold l).2 ∧ (lfold l).1.natAbs ≤ 1000000) ?_ ?_ ?_⟩, hv, take2 _ _ (fun l => smallV 1000000 (lfoldS l).2 ∧ (lfoldS l).1.natAbs ≤ 1000000) ?_ ?_ ?_⟩
  · simp [lfold, smallV]
  · simp only [lfold, List.foldl_cons, List.foldl_nil, h1.1, smallV]; omega
  · rw [h2.1]; simp only [smallV]; omega
  · simp [lfoldS, smallV]
  · simp only [lfoldS, List.foldl_cons, List.foldl_nil, h1.2, smallV]; omega
  · rw [h2.2]; simp only [smallV]; omega
abbrev mvI (a b c u v : Int) (l : List Int) (n : Nat) : List Int := (List.range n).map fun j => l.getD (mv a b c (-u) (-v) j) 0
theorem mvI_take {a b c u v : Int} {l : List Int} {n i : Nat} (hi : i < n) : (mvI a b c u v l n).take (i + 1) = (mvI a b c u v l n).take i ++ [l.getD (mv a b c (-u) (-v) i) 0] := by
  rw [List.take_add_one]
  simp [mvI, List.getElem?_range hi]
theorem mvI_len {a b c u v : Int} {l : List Int} {n : Nat} : (mvI a b c u v l n).length = n := by simp [mvI]
theorem mvS_eq {a b c u v : Int} {l : List Int} (ha : 0 < a) (hc : 0 < c) (hl : (l.length : Int) = a * c) : setN (fun _ => true) (mv a b c u v) (fun k => l.getD k 0) (List.replicate l.length 0) l.length = mvI a b c u v l l.length := by
  apply List.ext_getElem?
  intro j
  by_cases hj : j < l.length
  · have h1 : mv a b c (-u) (-v) j < l.length := by have := mv_lt (b := b) (u := -u) (v := -v) ha hc j; omega
    rw [setN_get (p := fun _ => true) (i := mv a b c (-u) (-v) j) (m := l.length) (by simpa using hj) h1 (fun k hk => mv_iff ha hc (by omega) (by omega)) l.length (Nat.le_refl _)]
    simp [h1, hj, mvI, List.getElem?_range hj]
  · rw [List.getElem?_eq_none (by rw [setN_len]; simp; omega), List.getElem?_eq_none (by rw [mvI_len]; omega)]
theorem cdec_eq (p : Prop) [Decidable p] : cdec p = decide p := by
  by_cases h : p
  · rw [decide_eq_true h, cdec_true.2 h]
  · rw [decide_eq_false h, cdec_false.2 h]
/-! the search -/
def fR : Option (Int × Int) → Int × Int × Int
  | some t => (t.1, t.2, 0)
  | none => (0, 0, 4)
def fF (a b c : Int) (l l' : List Int) : Option (Int × Int) := (cellsL c.toNat a.toNat).find? fun t => decide (mvI a b c t.1 t.2 l l.length = l')
theorem find_hit {α : Type} {l : List α} {p : α → Bool} {i : Nat} {z : α} (hz : l[i]? = some z) (hp : p z = true) (hn : ∀ x ∈ l.take i, p x = false) : l.find? p = some z := by
  obtain ⟨hi, rfl⟩ := List.getElem?_eq_some_iff.1 hz
  refine List.find?_eq_some_iff_getElem.2 ⟨hp, i, hi, rfl, fun j hj => ?_⟩
  simp [hn l[j] (List.mem_take_iff_getElem.2 ⟨j, by omega, rfl⟩)]
theorem find_miss {α : Type} {l : List α} {p : α → Bool} {i : Nat} (hi : l.length ≤ i) (hn : ∀ x ∈ l.take i, p x = false) : l.find? p = none := by
  rw [List.take_of_length_le hi] at hn
  exact List.find?_eq_none.2 (fun x hx => by simp [hn x hx])
theorem mem_take_succ {α : Type} {l : List α} {i : Nat} {z x : α} (hz : l[i]? = some z) (hx : x ∈ l.take (i + 1)) : x ∈ l.take i ∨ x = z := by
  rw [List.take_add_one, hz] at hx
  simpa using hx
/-! what is not to be searched -/
end Go.Proofs.YtcnhcilpaplpcaaGreatDoorEv
namespace Go.Proofs.YtcnhcilpaplpcaaGreatDoorEv
open Go Go.Proofs
set_option maxRecDepth 10000
set_option maxHeartbeats 2000000
theorem s_reduceAny (a b c x y : Int) (ha : 1 ≤ a ∧ a ≤ 64) (hc : 1 ≤ c ∧ c ≤ 64) : ∃ X, ((0 ≤ X ∧ X < a) ∧ (inC a c (x, y) → X = x)) ∧ Sp Tryz.prog 106 [aL a b c, aV x y] (aV X (y % c)) [] := by
  refine ⟨(IntKind.i64.wrap (x - IntKind.i64.wrap (IntKind.i64.wrap ((IntKind.i64.wrap (y - y % c)).tdiv c) * b))) % a, ⟨⟨Int.emod_nonneg _ (by omega), Int.emod_lt_of_pos _ (by omega)⟩, fun h => ?_⟩, ?_⟩
  · obtain ⟨h1, h2⟩ := h
    simp only at h1 h2
    rw [Int.emod_eq_of_lt h2.1 h2.2, Int.sub_self, w64 (n := 0) (by omega) (by omega), Int.zero_tdiv, w64 (n := 0) (by omega) (by omega), Int.zero_mul, w64 (n := 0) (by omega) (by omega), Int.sub_zero, w64 (by omega) (by omega), Int.emod_eq_of_lt h1.1 h1.2]
  refine sp_of (m := no) mixed Tryz.func106 k106 ?_
  simp -dsimp [q]
  refine call_of (s_mod _ _ (by omega)) rfl (by simp) ?_
  try simp -dsimp
  try (first | exact fp_one (by decide) | refine fp_and (by decide) ?_)
  refine ⟨by omega, ?_⟩
  refine call_of (s_mod _ _ (by omega)) rfl (by simp) ?_
  try simp -dsimp
  try (first | exact fp_one (by decide) | refine fp_and (by decide) ?_)
def mulM (m n : M4) : M4 := (m.1 * n.1 + m.2.1 * n.2.2.1, m.1 * n.2.1 + m.2.1 * n.2.2.2, m.2.2.1 * n.1 + m.2.2.2 * n.2.2.1, m.2.2.1 * n.2.1 + m.2.2.2 * n.2.2.2)
def oneM (m : M4) : Prop := (m.1.natAbs ≤ 1 ∧ m.2.1.natAbs ≤ 1) ∧ m.2.2.1.natAbs ≤ 1 ∧ m.2.2.2.natAbs ≤ 1
theorem s_mmul (m n : M4) (hm : oneM m) (hn : oneM n) : Sp Tryz.prog 107 [aM4 m, aM4 n] (aM4 (mulM m n)) [] := by
  refine sp_of (m := no) mixed Tryz.func107 k107 ?_
  obtain ⟨⟨m1, m2⟩, m3, m4⟩ := hm
  obtain ⟨⟨n1, n2⟩, n3, n4⟩ := hn
  have h1 := mul_bd m1 n1
  have h2 := mul_bd m2 n3
  have h3 := mul_bd m1 n2
  have h4 := mul_bd m2 n4
  have h5 := mul_bd m3 n1
  have h6 := mul_bd m4 n3
  have h7 := mul_bd m3 n2
  have h8 := mul_bd m4 n4
  simp -dsimp [q]
  rw [w64 (n := m.1 * n.1) (by omega) (by omega), w64 (n := m.2.1 * n.2.2.1) (by omega) (by omega), w64 (n := m.1 * n.2.1) (by omega) (by omega), w64 (n := m.2.1 * n.2.2.2) (by omega) (by omega),
    w64 (n := m.2.2.1 * n.1) (by omega) (by omega), w64 (n := m.2.2.2 * n.2.2.1) (by omega) (by omega), w64 (n := m.2.2.1 * n.2.1) (by omega) (by omega), w64 (n := m.2.2.2 * n.2.2.2) (by omega) (by omega)]
  refine ⟨w64 (by omega) (by omega), w64 (by omega) (by omega), w64 (by omega) (by omega), w64 (by omega) (by omega)⟩
theorem s_smmul (m n : M4) (hm : oneM m) (hn : oneM n) : Sp Tryz.prog 102 [aM4 m, aM4 n] (aM4 (mulM m n)) [] := by
  refine sp_of (m := no) mixed Tryz.func102 k102 ?_
  obtain ⟨⟨m1, m2⟩, m3, m4⟩ := hm
  obtain ⟨⟨n1, n2⟩, n3, n4⟩ := hn
  have h1 := mul_bd m1 n1
  have h2 := mul_bd m2 n3
  have h3 := mul_bd m1 n2
  have h4 := mul_bd m2 n4
  have h5 := mul_bd m3 n1
  have h6 := mul_bd m4 n3
  have h7 := mul_bd m3 n2
  have h8 := mul_bd m4 n4
  simp -dsimp [q]
  rw [w64 (n := m.1 * n.1) (by omega) (by omega), w64 (n := m.2.1 * n.2.2.1) (by omega) (by omega), w64 (n := m.1 * n.2.1) (by omega) (by omega), w64 (n := m.2.1 * n.2.2.2) (by omega) (by omega),
    w64 (n := m.2.2.1 * n.1) (by omega) (by omega), w64 (n := m.2.2.2 * n.2.2.1) (by omega) (by omega), w64 (n := m.2.2.1 * n.2.1) (by omega) (by omega), w64 (n := m.2.2.2 * n.2.2.2) (by omega) (by omega)]
  refine ⟨w64 (by omega) (by omega), w64 (by omega) (by omega), w64 (by omega) (by omega), w64 (by omega) (by omega)⟩
def mulG (g h : G6) : G6 := (mulM g.1 h.1, g.1.1 * h.2.1 + g.1.2.1 * h.2.2 + g.2.1, g.1.2.2.1 * h.2.1 + g.1.2.2.2 * h.2.2 + g.2.2)
def redG (a b c : Int) (g : G6) : G6 := (g.1, redX a b c g.2.1 g.2.2, g.2.2 % c)
def memG (a c : Int) (g : G6) : Prop := oneM g.1 ∧ inC a c g.2
theorem s_gmul (g h : G6) (hg : oneM g.1 ∧ g.2.1.natAbs ≤ 1000 ∧ g.2.2.natAbs ≤ 1000) (hh : oneM h.1 ∧ h.2.1.natAbs ≤ 1000 ∧ h.2.2.natAbs ≤ 1000) : Sp Tryz.prog 84 [aG6 g, aG6 h] (aG6 (mulG g h)) [] := by
  refine sp_of (m := no) mixed Tryz.func84 k84 ?_
  have wm := s_mmul g.1 h.1 hg.1 hh.1
  obtain ⟨⟨⟨m1, m2⟩, m3, m4⟩, m5, m6⟩ := hg
  obtain ⟨_, n5, n6⟩ := hh
  have h1 := mul_bd m1 n5
  have h2 := mul_bd m2 n6
  have h3 := mul_bd m3 n5
  have h4 := mul_bd m4 n6
  simp -dsimp [q]
  refine call_of (wm) rfl (by simp) ?_
  try simp -dsimp
  try (first | exact fp_one (by decide) | refine fp_and (by decide) ?_)
  refine call_of (s_apply _ _ _ _ _ _ ⟨⟨by omega, by omega⟩, by omega, by omega⟩ ⟨by omega, by omega⟩) rfl (by simp) ?_
  try simp -dsimp
  try (first | exact fp_one (by decide) | refine fp_and (by decide) ?_)
  refine call_of (s_add _ _ _ _ (by omega) (by omega) (by omega) (by omega)) rfl (by simp) ?_
  try simp -dsimp
  try (first | exact fp_one (by decide) | refine fp_and (by decide) ?_)
  exact ⟨rfl, rfl, rfl, rfl, rfl, rfl⟩
theorem s_sgmul (g h : G6) (hg : oneM g.1 ∧ g.2.1.natAbs ≤ 1000 ∧ g.2.2.natAbs ≤ 1000) (hh : oneM h.1 ∧ h.2.1.natAbs ≤ 1000 ∧ h.2.2.natAbs ≤ 1000) : Sp Tryz.prog 79 [aG6 g, aG6 h] (aG6 (mulG g h)) [] := by
  refine sp_of (m := no) mixed Tryz.func79 k79 ?_
  have wm := s_smmul g.1 h.1 hg.1 hh.1
  obtain ⟨⟨⟨m1, m2⟩, m3, m4⟩, m5, m6⟩ := hg
  obtain ⟨_, n5, n6⟩ := hh
  have h1 := mul_bd m1 n5
  have h2 := mul_bd m2 n6
  have h3 := mul_bd m3 n5
  have h4 := mul_bd m4 n6
  simp -dsimp [q]
  refine call_of (wm) rfl (by simp) ?_
  try simp -dsimp
  try (first | exact fp_one (by decide) | refine fp_and (by decide) ?_)
  refine call_of (s_sapply _ _ _ _ _ _ ⟨⟨by omega, by omega⟩, by omega, by omega⟩ ⟨by omega, by omega⟩) rfl (by simp) ?_
  try simp -dsimp
  try (first | exact fp_one (by decide) | refine fp_and (by decide) ?_)
  refine call_of (s_sadd _ _ _ _ (by omega) (by omega) (by omega) (by omega)) rfl (by simp) ?_
  try simp -dsimp
  try (first | exact fp_one (by decide) | refine fp_and (by decide) ?_)
  exact ⟨rfl, rfl, rfl, rfl, rfl, rfl⟩
theorem s_gred (a b c : Int) (g : G6) (ha : 1 ≤ a ∧ a ≤ 64) (hb : 0 ≤ b ∧ b < a) (hc : 1 ≤ c ∧ c ≤ 64) (hx : -1000000000 ≤ g.2.1 ∧ g.2.1 ≤ 1000000000) (hy : -1000000000 ≤ g.2.2 ∧ g.2.2 ≤ 1000000000) : Sp Tryz.prog 83 [aL a b c, aG6 g] (aG6 (redG a b c g)) [] := by
  refine sp_of (m := no) mixed Tryz.func83 k83 ?_
  simp -dsimp [q]
  refine call_of (s_reduce a b c _ _ ha hb hc hx hy) rfl (by simp) ?_
  try simp -dsimp
  try (first | exact fp_one (by decide) | refine fp_and (by decide) ?_)
  exact ⟨rfl, rfl, rfl, rfl, rfl, rfl⟩
theorem s_sgred (a b c : Int) (g : G6) (ha : 1 ≤ a ∧ a ≤ 64) (hb : 0 ≤ b ∧ b < a) (hc : 1 ≤ c ∧ c ≤ 64) (hx : -1000000000 ≤ g.2.1 ∧ g.2.1 ≤ 1000000000) (hy : -1000000000 ≤ g.2.2 ∧ g.2.2 ≤ 1000000000) : Sp Tryz.prog 78 [aL a b c, aG6 g] (aG6 (redG a b c g)) [] := by
  refine sp_of (m := no) mixed Tryz.func78 k78 ?_
  simp -dsimp [q]
  refine call_of (s_sreduce a b c _ _ ha hb hc hx hy) rfl (by simp) ?_
  try simp -dsimp
  try (first | exact fp_one (by decide) | refine fp_and (by decide) ?_)
  exact ⟨rfl, rfl, rfl, rfl, rfl, rfl⟩
abbrev unG : G6 := ((1, 0, 0, 1), 0, 0)
theorem s_sun : Sp Tryz.prog 77 [] (aG6 unG) [] := by
  refine sp_of (m := no) mixed Tryz.func77 k77 ?_
  simp -dsimp [q]
  refine call_of (s_sunit) rfl (by simp) ?_
  try simp -dsimp
  try (first | exact fp_one (by decide) | refine fp_and (by decide) ?_)
/-! is it a group? -/
def elG (f a b c : Int) (g : G6) : Bool := pmOk f g.1 && keepL a b c g.1 && decide (0 ≤ g.2.1 ∧ g.2.1 < a) && decide (0 ≤ g.2.2 ∧ g.2.2 < c)
theorem elG_spec {f a b c : Int} (hf : 0 ≤ f ∧ f ≤ 1) {g : G6} (h : elG f a b c g = true) : oneM g.1 ∧ inC a c g.2 := by
  simp only [elG, Bool.and_eq_true, decide_eq_true_eq] at h
  obtain ⟨h1, h2, _⟩ := pm_facts hf h.1.1.1
  exact ⟨⟨⟨h1.1, h1.2⟩, h2.1, h2.2⟩, h.1.2, h.2⟩
def fst (f a b c : Int) (l : List G6) (i : Nat) : Prop := (∀ g ∈ l.take i, elG f a b c g = true) ∧ srt (l.take i)
theorem fst_succ {f a b c : Int} {l : List G6} {i : Nat} {g : G6} (hg : l[i]? = some g) : fst f a b c l (i + 1) ↔ (fst f a b c l i ∧ elG f a b c g = true ∧ ∀ p, 0 < i → l[i - 1]? = some p → ltG p g = true) := by
  unfold fst srt
  have e : l.take (i + 1) = l.take i ++ [g] := by rw [List.take_add_one, hg]; rfl
  rw [e, List.pairwise_append]
  constructor
  · rintro ⟨h1, h2, _, h3⟩
    refine ⟨⟨fun x hx => h1 x (by simp [hx]), h2⟩, h1 g (by simp), fun p hi hp => h3 p ?_ g (by simp)⟩
    exact List.mem_of_getElem? (i := i - 1) (by rw [List.getElem?_take_of_lt (by omega)]; exact hp)
  · rintro ⟨⟨h1, h2⟩, h3, h4⟩
    refine ⟨fun x hx => ?_, h2, by simp, fun x hx y hy => ?_⟩
    · rcases List.mem_append.1 hx with hx | hx
      · exact h1 x hx
      · simp only [List.mem_singleton] at hx; rw [hx]; exact h3
    · simp only [List.mem_singleton] at hy
      subst hy
      obtain ⟨j, hj⟩ := List.getElem?_of_mem hx
      have hji : j < i := by
        have := (List.getElem?_eq_some_iff.1 hj).1
        simp at this; omega
      have hil := (List.getElem?_eq_some_iff.1 hg).1
      obtain ⟨p, hp⟩ : ∃ p, l[i - 1]? = some p := ⟨_, List.getElem?_eq_getElem (show i - 1 < l.length by omega)⟩
      have h5 := h4 _ (by omega) hp
      by_cases ej : j = i - 1
      · subst ej
        rw [List.getElem?_take_of_lt (by omega), hp] at hj
        cases hj
        exact h5
      · exact ltG_trans (srt_get h2 hj (by rw [List.getElem?_take_of_lt (show i - 1 < i by omega)]; exact hp) (by omega)) h5
def prd (a b c : Int) (l : List G6) (i : Nat) : Prop := ∀ g ∈ l.take i, ∀ h ∈ l, redG a b c (mulG g h) ∈ l
def prd1 (a b c : Int) (l : List G6) (g : G6) (j : Nat) : Prop := ∀ h ∈ l.take j, redG a b c (mulG g h) ∈ l
def grp (f a b c : Int) (l : List G6) : Prop := fst f a b c l l.length ∧ unG ∈ l ∧ prd a b c l l.length
theorem fst_mono {f a b c : Int} {l : List G6} {i j : Nat} (h : i ≤ j) (k : fst f a b c l j) : fst f a b c l i := by
  have e : l.take i = (l.take j).take i := by rw [List.take_take, Nat.min_eq_left h]
  unfold fst srt at *
  rw [e]
  exact ⟨fun g hg => k.1 g (List.mem_of_mem_take hg), k.2.sublist (List.take_sublist _ _)⟩
theorem cdec_t {p : Prop} (h : p) : cdec p = true := cdec_true.2 h
theorem cdec_f {p : Prop} (h : ¬ p) : cdec p = false := cdec_false.2 h
theorem fst_new {f a b c : Int} {l : List G6} {i : Nat} {g : G6} (hg : l[i]? = some g) (h : fst f a b c l (i + 1)) : g ∉ l.take i := by
  intro hm
  obtain ⟨j, hj⟩ := List.getElem?_of_mem hm
  have hji : j < i := by
    have := (List.getElem?_eq_some_iff.1 hj).1
    simp at this; omega
  have := srt_get h.2 (i := j) (j := i) (g := g) (k := g) (by rw [List.getElem?_take_of_lt (by omega)] at hj ⊢; exact hj) (by rw [List.getElem?_take_of_lt (by omega)]; exact hg) hji
  rw [ltG_irr] at this
  cases this
end Go.Proofs.YtcnhcilpaplpcaaGreatDoorEv
namespace Go.Proofs.YtcnhcilpaplpcaaGreatDoorEv
open Go Go.Proofs
set_option maxRecDepth 10000
set_option maxHeartbeats 2000000
theorem pm_count (f : Int) (hf : 0 ≤ f ∧ f ≤ 1) : (pmL f 81).length ≤ 12 := by
  rcases (by omega : f = 0 ∨ f = 1) with rfl | rfl
  · decide +kernel
  · decide +kernel
theorem flat_len {α β : Type} (l : List α) (m : List β) : (l.flatMap fun x => m.map fun y => (x, y)).length = l.length * m.length := by
  induction l with
  | nil => simp
  | cons x l ih => simp [ih, Nat.succ_mul, Nat.add_comm]
theorem fst_len {f a b c : Int} {l : List G6} (hf : 0 ≤ f ∧ f ≤ 1) (ha : 1 ≤ a) (hc : 1 ≤ c) (hac : a * c ≤ 64) (h : fst f a b c l l.length) : l.length ≤ 768 := by
  obtain ⟨h1, h2⟩ := h
  rw [List.take_length] at h1 h2
  have hn : l.Nodup := h2.imp fun {x y} hxy e => by rw [e, ltG_irr] at hxy; cases hxy
  have := pigeon l ((pmL f 81).flatMap fun x => (cl a c).map fun y => (x, y)) hn (fun g hg => by
    have hg' := h1 g hg
    have h3 := (elG_spec hf hg').2
    simp only [elG, Bool.and_eq_true] at hg'
    refine List.mem_flatMap.2 ⟨g.1, (pmL_mem hf _ _ _ _).2 hg'.1.1.1, List.mem_map.2 ⟨g.2, List.mem_of_getElem? (cl_ix ha hc h3), rfl⟩⟩)
  rw [flat_len] at this
  have h4 := pm_count f hf
  have h5 : (cl a c).length ≤ 64 := by
    unfold cl
    rw [cellsL_len]
    have : ((a.toNat * c.toNat : Nat) : Int) = a * c := by rw [Int.natCast_mul, Int.toNat_of_nonneg (by omega), Int.toNat_of_nonneg (by omega)]
    omega
  have := Nat.mul_le_mul h4 h5
  omega
theorem elG_suit {f a b c : Int} (hf : 0 ≤ f ∧ f ≤ 1) (ha : 1 ≤ a ∧ a ≤ 64) (hc : 1 ≤ c ∧ c ≤ 64) {g : G6} : elG f a b c g = true ↔ (suitG f a b c g = true ∧ redG a b c g = g) := by
  constructor
  · intro h
    obtain ⟨_, h1, h2⟩ := elG_spec hf h
    simp only [elG, Bool.and_eq_true] at h
    refine ⟨?_, ?_⟩
    · simp only [suitG, suit, Bool.and_eq_true]
      exact ⟨h.1.1, okV_spec.2 (by omega)⟩
    · unfold redG redX
      rw [Int.ediv_eq_zero_of_lt h2.1 h2.2, Int.emod_eq_of_lt h2.1 h2.2, Int.zero_mul, Int.sub_zero, Int.emod_eq_of_lt h1.1 h1.2]
  · rintro ⟨h1, h2⟩
    simp only [suitG, suit, Bool.and_eq_true] at h1
    have h3 := red_lt (a := a) (b := b) (c := c) (x := g.2.1) (y := g.2.2) ha.1 hc.1
    have e1 : redX a b c g.2.1 g.2.2 = g.2.1 := congrArg (fun g : G6 => g.2.1) h2
    have e2 : g.2.2 % c = g.2.2 := congrArg (fun g : G6 => g.2.2) h2
    rw [e1, e2] at h3
    simp only [elG, Bool.and_eq_true, decide_eq_true_eq]
    exact ⟨⟨h1.1, h3.1⟩, h3.2⟩
end Go.Proofs.YtcnhcilpaplpcaaGreatDoorEv
namespace Go.Proofs.YtcnhcilpaplpcaaGreatDoorEv
open Go Go.Proofs
set_option maxRecDepth 10000
/-! lists of vectors -/
def okS (l : List (Int × Int)) : Bool := decide (l.length = 9) && l.all fun v => okV v.1 v.2
theorem all_not_any {α : Type} (l : List α) (p : α → Bool) : (!(l.any fun v => !p v)) = l.all p := by
  induction l with
  | nil => rfl
  | cons x l ih => simp only [List.any_cons, List.all_cons, Bool.not_or, Bool.not_not, ih]
/-! the prints -/
theorem okP_mask {f a b c : Int} {l : List Int} (ink : Int) (h : okP f a b c l = true) : okP f a b c (maskL l ink) = true := by
  rw [okP_spec] at h ⊢
  refine ⟨h.1, h.2.1, by rw [maskL_len]; exact h.2.2.1, fun n hn => ?_⟩
  obtain ⟨x, _, rfl⟩ := List.mem_map.1 hn
  split <;> omega
theorem ovS_eq {a b c u v : Int} {p m : List Int} {ink : Int} (ha : 0 < a) (hc : 0 < c) (hp : (p.length : Int) = a * c) (hm : m.length = p.length) : ovS a b c u v p m ink p.length = ovI p (mvI a b c u v m m.length) ink p.length := by
  apply List.ext_getElem?
  intro j
  by_cases hj : j < p.length
  · have h1 : mv a b c (-u) (-v) j < p.length := by have := mv_lt (b := b) (u := -u) (v := -v) ha hc j; omega
    rw [setN_get (i := mv a b c (-u) (-v) j) (m := p.length) hj h1 (fun k hk => mv_iff ha hc (by omega) (by omega)) p.length (Nat.le_refl _)]
    rw [setN_get (i := j) (m := p.length) hj hj (fun k hk => Iff.rfl) p.length (Nat.le_refl _)]
    simp [h1, hj, hm, mvI, List.getElem?_range hj]
  · rw [List.getElem?_eq_none (by rw [setN_len]; omega), List.getElem?_eq_none (by rw [setN_len]; omega)]
def prL (a b c : Int) (l : List Int) (sh : List (Int × Int)) : Nat → List Int
  | 0 => List.replicate l.length 0
  | k + 1 => ovI (prL a b c l sh k) (mvI a b c (sh.getD k (0, 0)).1 (sh.getD k (0, 0)).2 (maskL l (k + 1)) l.length) (k + 1) l.length
theorem prL_len {a b c : Int} {l : List Int} {sh : List (Int × Int)} : ∀ k, (prL a b c l sh k).length = l.length
  | 0 => by simp [prL]
  | k + 1 => by rw [prL, setN_len, prL_len k]
theorem okS_get {sh : List (Int × Int)} (h : okS sh = true) {k : Nat} {x y : Int} (hk : sh[k]? = some (x, y)) : x.natAbs ≤ 1000 ∧ y.natAbs ≤ 1000 := by
  simp only [okS, Bool.and_eq_true, List.all_eq_true] at h
  have := okV_spec.1 (h.2 _ (List.mem_of_getElem? hk))
  simp only at this
  omega
/-! all of it -/
abbrev zP : A := .ag [vi 0, vi 0, vi 0, vi 0, .nil 0]
def gapL (p r : List Int) : Nat → Int
  | 0 => 0
  | n + 1 => gapL p r n + if r.getD n 0 = 0 ∧ p.getD n 0 ≠ 0 then 1 else 0
theorem gapL_bd (p r : List Int) : ∀ n, 0 ≤ gapL p r n ∧ gapL p r n ≤ n
  | 0 => by simp [gapL]
  | n + 1 => by have := gapL_bd p r n; simp only [gapL]; split <;> omega
end Go.Proofs.YtcnhcilpaplpcaaGreatDoorEv
namespace Go.Proofs.YtcnhcilpaplpcaaGreatDoorEv
open Go Go.Proofs
set_option maxRecDepth 10000
set_option maxHeartbeats 1000000
@[simp] theorem gs_rep (n : Nat) (a b c d x y : Int) : List.replicate n (V.ag [.int .i64 a, .int .i64 b, .int .i64 c, .int .i64 d, .int .i64 x, .int .i64 y]) = gs (List.replicate n ((a, b, c, d), x, y)) := by simp [gs, vg]
/-! codes -/
def cellB (a c : Int) (v : Int × Int) : Bool := decide (0 ≤ v.1 ∧ v.1 ≤ a - 1) && decide (0 ≤ v.2 ∧ v.2 ≤ c - 1)
theorem s_isCell (a b c x y : Int) (ha : 1 ≤ a ∧ a ≤ 64) (hc : 1 ≤ c ∧ c ≤ 64) : Sp Tryz.prog 33 [aL a b c, aV x y] (vb (cellB a c (x, y))) [] := by
  refine sp_of (m := no) mixed Tryz.func33 k33 ?_
  have w1 := s_within x 0 (a - 1)
  have w2 := s_within y 0 (c - 1)
  unfold cellB
  simp only
  generalize decide (0 ≤ x ∧ x ≤ a - 1) = b1 at *
  generalize decide (0 ≤ y ∧ y ≤ c - 1) = b2 at *
  simp -dsimp [q]
  rw [w64 (by omega) (by omega)]
  refine call_of (w1) rfl (by simp) ?_
  try simp -dsimp
  try (first | exact fp_one (by decide) | refine fp_and (by decide) ?_)
  cases b1
  · simp -dsimp
  simp -dsimp
  rw [w64 (by omega) (by omega)]
  refine call_of (w2) rfl (by simp) ?_
  try simp -dsimp
  try (first | exact fp_one (by decide) | refine fp_and (by decide) ?_)
theorem s_sisCell (a b c x y : Int) : ∃ T, Sp Tryz.prog 39 [aL a b c, aV x y] (vb T) [] ∧ (okL a b c = true → T = cellB a c (x, y)) := by
  refine ⟨decide (0 ≤ x ∧ x ≤ IntKind.i64.wrap (a - 1)) && decide (0 ≤ y ∧ y ≤ IntKind.i64.wrap (c - 1)), ?_, fun h => ?_⟩
  · refine sp_of (m := no) mixed Tryz.func39 k39 ?_
    have w1 := s_in x 0 (IntKind.i64.wrap (a - 1))
    have w2 := s_in y 0 (IntKind.i64.wrap (c - 1))
    generalize decide (0 ≤ x ∧ x ≤ IntKind.i64.wrap (a - 1)) = b1 at *
    generalize decide (0 ≤ y ∧ y ≤ IntKind.i64.wrap (c - 1)) = b2 at *
    simp -dsimp [q]
    refine call_of (w1) rfl (by simp) ?_
    try simp -dsimp
    try (first | exact fp_one (by decide) | refine fp_and (by decide) ?_)
    cases b1
    · simp -dsimp
    simp -dsimp
    refine call_of (w2) rfl (by simp) ?_
    try simp -dsimp
    try (first | exact fp_one (by decide) | refine fp_and (by decide) ?_)
  · obtain ⟨ha, hc, _, _⟩ := okL_spec.1 h
    rw [w64 (by omega) (by omega), w64 (by omega) (by omega)]
    rfl
end Go.Proofs.YtcnhcilpaplpcaaGreatDoorEv
namespace Go.Proofs.YtcnhcilpaplpcaaGreatDoorEv
open Go Go.Proofs
set_option maxRecDepth 10000
set_option maxHeartbeats 1000000
abbrev K3 := (Int × Int) × Int
def vk (k : K3) : V := .ag [.int .i64 k.1.1, .int .i64 k.1.2, .int .i64 k.2]
def ks (l : List K3) : List V := l.map vk
abbrev aK (k : K3) : A := .v (.ag [.int .i64 k.1.1, .int .i64 k.1.2, .int .i64 k.2])
@[simp] theorem ks_nil : ks [] = [] := rfl
@[simp] theorem ks_len (l : List K3) : (ks l).length = l.length := by simp [ks]
@[simp] theorem ks_get (l : List K3) (n : Nat) (K : V → Prop) : fA ((ks l)[n]?) K = ∀ k, l[n]? = some k → K (.ag [.int .i64 k.1.1, .int .i64 k.1.2, .int .i64 k.2]) := by unfold ks; exact fA_map
@[simp] theorem ks_app (l : List K3) (x y c : Int) : ks l ++ [.ag [.int .i64 x, .int .i64 y, .int .i64 c]] = ks (l ++ [((x, y), c)]) := by simp [ks, vk]
@[simp] theorem ks_set (l : List K3) (n : Nat) (x y c : Int) : (ks l).set n (.ag [.int .i64 x, .int .i64 y, .int .i64 c]) = ks (l.set n ((x, y), c)) := by simp [ks, vk, List.map_set]
@[simp] theorem ks_rep (n : Nat) (x y c : Int) : List.replicate n (V.ag [.int .i64 x, .int .i64 y, .int .i64 c]) = ks (List.replicate n ((x, y), c)) := by simp [ks, vk]
@[simp] theorem ks_flat (l : List K3) : (∀ x, x ∈ ks l → x.flat = true) ↔ True := by
  simp only [iff_true]
  intro x hx
  obtain ⟨y, _, rfl⟩ := List.mem_map.1 hx
  rfl
theorem vk_inj (g h : K3) (e : vk g = vk h) : g = h := by
  obtain ⟨⟨x, y⟩, c⟩ := g
  obtain ⟨⟨x', y'⟩, c'⟩ := h
  simp only [vk, V.ag.injEq, List.cons.injEq, V.int.injEq, true_and, and_true] at e
  obtain ⟨rfl, rfl, rfl⟩ := e
  rfl
@[simp] theorem ks_inj (a b : List K3) : ks a = ks b ↔ a = b := by
  constructor
  · exact fun h => (List.map_inj_right (fun x y e => vk_inj x y e)).1 h
  · rintro rfl; rfl
abbrev vks (l : List K3) : V := .sl 3 (ks l)
theorem s_szK (l : List K3) (n : Int) (h : l.length ≤ maxLen) (hn : 0 ≤ n ∧ n ≤ 1048576) : Sp Tryz.prog 6 [.v (vks l), vi n] (vi (if n < l.length then -1 else n - l.length)) [] := by
  refine sp_of (m := no) mixed Tryz.func6 k6 ?_
  rw [mLen] at h
  simp -dsimp [q]
  rw [w64 (by omega) (by omega)]
  constructor
  · intro h1 h2; omega
  · intro h1; rw [if_neg (by omega)]
theorem s_toK1 (k : K3) : Sp Tryz.prog 24 [aK k] (aK k) [] := by
  refine sp_of (m := no) mixed Tryz.func24 k24 ?_
  simp -dsimp [q]
  refine call_of (s_toV k.1.1 k.1.2) rfl (by simp) ?_
  try simp -dsimp
  try (first | exact fp_one (by decide) | refine fp_and (by decide) ?_)
theorem s_toK (l : List K3) (h : l.length ≤ 1048576) : Sp Tryz.prog 8 [.v (vks l)] (.sli 0) [.row 3 54 (ks l)] := by
  refine sp_of (m := no) mixed Tryz.func8 k8 ?_
  simp -dsimp [q]
  refine ⟨⟨by omega, by omega⟩, ?_⟩
  refine awp_it (true :: false :: false :: true :: true :: []) (fun i : Nat => [(4, vi i)]) (fun i => [(0, .row 3 54 (ks (l.take i ++ List.replicate (l.length - i) ((0, 0), 0))))]) (fun i => i ≤ l.length) (fun i => l.length - i) 0 ?_
  intro s0 e
  simp -dsimp at e
  subst e
  refine ⟨?_, ?_⟩
  · simp
  intro i hi
  simp -dsimp [-Prod.forall, -Prod.exists]
  refine ⟨fun h1 => ⟨h1, fun g ha => ?_⟩, fun h1 => ?_⟩
  · refine call_of (s_toK1 g) rfl (by simp) ?_
    try simp -dsimp
    try (first | exact fp_one (by decide) | refine fp_and (by decide) ?_)
    refine ⟨by omega, by omega, i + 1, ⟨by rw [w64 (by omega) (by omega)]; simp, ?_⟩, by omega, by omega⟩
    exact fill_set ha
  · have : i = l.length := by omega
    subst this
    simp
theorem s_eqK1 (g h : K3) : Sp Tryz.prog 27 [aK g, aK h] (vb (decide (g = h))) [] := by
  have w2 := s_eqV g.1.1 g.1.2 h.1.1 h.1.2
  obtain ⟨⟨x, y⟩, c⟩ := g
  obtain ⟨⟨x', y'⟩, c'⟩ := h
  have e : decide (((x, y), c) = ((x', y'), c')) = (decide (x = x' ∧ y = y') && decide (c = c')) := by
    rw [Bool.eq_iff_iff, Bool.and_eq_true, decide_eq_true_iff, decide_eq_true_iff, decide_eq_true_iff]
    simp
  rw [e]
  simp only at w2
  generalize decide (x = x' ∧ y = y') = b2 at *
  generalize hb : decide (c = c') = b1 at *
  refine sp_of (m := no) mixed Tryz.func27 k27 ?_
  simp -dsimp [q]
  refine call_of (w2) rfl (by simp) ?_
  try simp -dsimp
  try (first | exact fp_one (by decide) | refine fp_and (by decide) ?_)
  cases b2
  · simp -dsimp
  cases b1
  · have := of_decide_eq_false hb
    simp -dsimp [this]
  · have := of_decide_eq_true hb
    simp -dsimp [this]
theorem s_eqK (xs ys : List K3) (hx : xs.length ≤ 1048576) : Sp Tryz.prog 10 [.v (vks xs), .v (vks ys)] (vb (decide (xs = ys))) [] := by
  refine sp_of (m := no) mixed Tryz.func10 k10 ?_
  simp -dsimp [q]
  refine ⟨fun h e => h (by rw [e]), fun hl => ?_⟩
  refine awp_it (true :: true :: false :: false :: false :: true :: []) (fun i : Nat => [(5, vi i)]) (fun i => []) (fun i => i ≤ xs.length ∧ xs.take i = ys.take i) (fun i => xs.length - i) 0 ?_
  intro s0 e
  simp -dsimp at e
  subst e
  refine ⟨?_, ?_⟩
  · simp
  intro i hi
  simp -dsimp [-Prod.forall, -Prod.exists]
  obtain ⟨hi, ht⟩ := hi
  refine ⟨fun h1 => ⟨h1, fun g ha => ⟨by omega, fun h hb => ?_⟩⟩, fun h1 => ?_⟩
  · have w := s_eqK1 g h
    by_cases e : g = h
    · subst e
      rw [decide_eq_true rfl] at w
      refine call_of (w) rfl (by simp) ?_
      try simp -dsimp
      try (first | exact fp_one (by decide) | refine fp_and (by decide) ?_)
      refine ⟨i + 1, by rw [w64 (by omega) (by omega)]; simp, ⟨by omega, ?_⟩, by omega⟩
      rw [List.take_add_one, List.take_add_one, ht, ha, hb]
    · rw [decide_eq_false e] at w
      refine call_of (w) rfl (by simp) ?_
      try simp -dsimp
      try (first | exact fp_one (by decide) | refine fp_and (by decide) ?_)
      rintro rfl
      rw [ha] at hb
      cases hb
      exact e rfl
  · have h2 : i = xs.length := by omega
    subst h2
    rw [List.take_length, List.take_of_length_le (by omega)] at ht
    exact ht
/-! strokes for a lattice -/
def okK (a c : Int) (k : K3) : Bool := cellB a c k.1 && decide (0 ≤ k.2 ∧ k.2 ≤ 9)
def okKs (a c : Int) (l : List K3) : Bool := decide (l.length ≤ 100) && l.all (okK a c)
theorem s_isCol (n : Int) : Sp Tryz.prog 55 [vi n] (vb (decide (0 ≤ n ∧ n ≤ 9))) [] := by
  refine sp_of (m := no) mixed Tryz.func55 k55 ?_
  simp -dsimp [q]
  refine call_of (s_within n 0 9) rfl (by simp) ?_
  try simp -dsimp
  try (first | exact fp_one (by decide) | refine fp_and (by decide) ?_)
theorem s_str1 (a b c : Int) (k : K3) (ha : 1 ≤ a ∧ a ≤ 64) (hc : 1 ≤ c ∧ c ≤ 64) : Sp Tryz.prog 66 [aK k, .fq [.int .i64 a, .int .i64 b, .int .i64 c]] (vb (!okK a c k)) [] := by
  have w1 := s_isCell a b c k.1.1 k.1.2 ha hc
  have w2 := s_isCol k.2
  have e : okK a c k = (cellB a c (k.1.1, k.1.2) && decide (0 ≤ k.2 ∧ k.2 ≤ 9)) := rfl
  rw [e]
  generalize cellB a c (k.1.1, k.1.2) = b1 at *
  generalize decide (0 ≤ k.2 ∧ k.2 ≤ 9) = b2 at *
  refine sp_of (m := no) mixed Tryz.func66 k66 ?_
  simp -dsimp [q]
  refine call_of (w1) rfl (by simp) ?_
  try simp -dsimp
  try (first | exact fp_one (by decide) | refine fp_and (by decide) ?_)
  cases b1
  · simp -dsimp
  simp -dsimp
  refine call_of (w2) rfl (by simp) ?_
  try simp -dsimp
  try (first | exact fp_one (by decide) | refine fp_and (by decide) ?_)
theorem s_fiK (l : List K3) (f : Nat) (cs : List A) (p : K3 → Bool) (h : l.length ≤ 1048576) (hc : cs.all A.shut = true) (hf : ∀ v ∈ l, Sp Tryz.prog f (aK v :: cs) (vb (p v)) []) : Sp Tryz.prog 87 [.v (vks l), .fn f cs] (vi (if l.any p = true then l.findIdx p else -1)) [] := by
  refine sp_of (m := no) mixed Tryz.func87 k87 ?_
  simp -dsimp [q, -Prod.forall, -Prod.exists]
  refine awp_it (true :: true :: false :: false :: false :: false :: false :: true :: true :: []) (fun i : Nat => [(8, vi i)]) (fun i => []) (fun i => i ≤ l.length ∧ ∀ x ∈ l.take i, p x = false) (fun i => l.length - i) 0 ?_
  intro s0 e
  simp -dsimp [hc] at e
  subst e
  refine ⟨?_, ?_⟩
  · simp [hc]
  rintro i ⟨hi, hi2⟩
  simp -dsimp [hc, -Prod.forall, -Prod.exists]
  refine ⟨fun h1 => ⟨h1, fun x ha => call_of (rd := []) (hf x (List.mem_of_getElem? ha)) (by simp [toArgs_shut hc]) (by simp) ?_⟩, fun h1 => ?_⟩
  · simp -dsimp [hc, -Prod.forall, -Prod.exists]
    obtain ⟨_, hal⟩ := List.getElem?_eq_some_iff.1 ha
    refine ⟨fun hp => ?_, fun hp => ⟨i + 1, by rw [w64 (by omega) (by omega)]; simp, ⟨by omega, fun x' hx => ?_⟩, by omega⟩⟩
    · rw [if_pos ⟨x, List.mem_of_getElem? ha, hp⟩, (List.findIdx_eq h1).2 ⟨by rw [hal]; exact hp, fun j hj => hi2 _ (List.mem_iff_getElem.2 ⟨j, by simp; omega, by simp⟩)⟩]
    · rw [List.take_add_one, ha] at hx
      rcases List.mem_append.1 hx with hx | hx
      · exact hi2 _ hx
      · simp only [Option.toList_some, List.mem_singleton] at hx; rw [hx]; exact hp
  · rw [List.take_of_length_le h1] at hi2
    exact hi2
theorem s_hasK (l : List K3) (f : Nat) (cs : List A) (p : K3 → Bool) (h : l.length ≤ 1048576) (hc : cs.all A.shut = true) (hf : ∀ v ∈ l, Sp Tryz.prog f (aK v :: cs) (vb (p v)) []) : Sp Tryz.prog 65 [.v (vks l), .fn f cs] (vb (l.any p)) [] := by
  refine sp_of (m := no) mixed Tryz.func65 k65 ?_
  simp -dsimp [q]
  refine call_of (rd := []) (s_fiK l f cs p h hc hf) (by simp [hc]) (by simp) ?_
  simp -dsimp
  by_cases hp : l.any p = true
  · rw [if_pos hp, hp]
    simp
  · rw [if_neg (by simpa using hp)]
    simpa using hp
theorem s_areK (a b c : Int) (l : List K3) (h : l.length ≤ 1048576) (ha : 1 ≤ a ∧ a ≤ 64) (hc : 1 ≤ c ∧ c ≤ 64) : Sp Tryz.prog 45 [aL a b c, .v (vks l)] (vb (okKs a c l)) [] := by
  have w1 := s_hasK l 66 [.fq [.int .i64 a, .int .i64 b, .int .i64 c]] (fun v => !okK a c v) h rfl (fun v _ => s_str1 a b c v ha hc)
  have e : (l.any fun v => !okK a c v) = !(l.all (okK a c)) := by rw [← all_not_any l (okK a c), Bool.not_not]
  rw [e] at w1
  unfold okKs
  generalize l.all (okK a c) = b1 at *
  refine sp_of (m := no) mixed Tryz.func45 k45 ?_
  simp -dsimp [q]
  refine ⟨fun hl => ?_, fun hl => ?_⟩
  · refine call_of (w1) rfl (by simp) ?_
    try simp -dsimp
    try (first | exact fp_one (by decide) | refine fp_and (by decide) ?_)
    simp [show l.length ≤ 100 by omega]
  · simp [show ¬ l.length ≤ 100 by omega]
theorem s_sareK (a b c : Int) (l : List K3) (h : l.length ≤ 1048576) (hk : okL a b c = true) : Sp Tryz.prog 22 [aL a b c, .v (vks l)] (vb (okKs a c l)) [] := by
  refine sp_of (m := no) mixed Tryz.func22 k22 ?_
  simp -dsimp [q]
  refine awp_it (false :: true :: true :: false :: false :: true :: []) (fun i : Nat => [(5, vi i)]) (fun i => []) (fun i => i ≤ l.length ∧ (l.take i).all (okK a c) = true) (fun i => l.length - i) 0 ?_
  intro s0 e
  simp -dsimp at e
  subst e
  refine ⟨?_, ?_⟩
  · simp
  rintro i ⟨hi, hi2⟩
  simp -dsimp [-Prod.forall, -Prod.exists]
  refine ⟨fun h1 => ⟨h1, fun k ha => ?_⟩, fun h1 => ?_⟩
  · obtain ⟨T1, w1, t1⟩ := s_sisCell a b c k.1.1 k.1.2
    have e : okK a c k = (T1 && decide (0 ≤ k.2 ∧ k.2 ≤ 9)) := by rw [t1 hk]; rfl
    have bad : okK a c k = false → okKs a c l = false := fun hb => by
      unfold okKs
      rw [Bool.and_eq_false_iff]
      refine .inr (Bool.eq_false_iff.2 fun hall => ?_)
      rw [List.all_eq_true.1 hall k (List.mem_of_getElem? ha)] at hb
      cases hb
    have w2 := s_in k.2 0 9
    refine call_of (w1) rfl (by simp) ?_
    try simp -dsimp
    try (first | exact fp_one (by decide) | refine fp_and (by decide) ?_)
    rw [e] at bad
    have next : (T1 && decide (0 ≤ k.2 ∧ k.2 ≤ 9)) = true → (l.take (i + 1)).all (okK a c) = true := fun hg => by
      rw [List.take_add_one, ha, List.all_append, hi2]
      simpa [e] using hg
    generalize decide (0 ≤ k.2 ∧ k.2 ≤ 9) = b2 at *
    cases T1
    · simp -dsimp [bad rfl]
    simp -dsimp [-Prod.forall, -Prod.exists]
    refine ⟨h1, fun x y z ha' => ?_⟩
    rw [ha] at ha'
    cases ha'
    refine call_of (w2) rfl (by simp) ?_
    try simp -dsimp
    try (first | exact fp_one (by decide) | refine fp_and (by decide) ?_)
    cases b2
    · simp -dsimp [bad rfl]
    simp -dsimp
    exact ⟨i + 1, by rw [w64 (by omega) (by omega)]; simp, ⟨by omega, fun x y z hm => List.all_eq_true.1 (next rfl) _ hm⟩, by omega⟩
  · rw [List.take_of_length_le (by omega)] at hi2
    unfold okKs
    rw [hi2]
    simp
    omega
end Go.Proofs.YtcnhcilpaplpcaaGreatDoorEv
namespace Go.Proofs.YtcnhcilpaplpcaaGreatDoorEv
open Go Go.Proofs
set_option maxRecDepth 10000
set_option maxHeartbeats 2000000
def ckn (k : K3) (i : Nat) : Nat := (17 * k.1.1.toNat + 29 * k.1.2.toNat + 7 * k.2.toNat + 13 * i) % 997
def lnx (k : K3) (i : Nat) : List UInt8 := vtx k.1.1 k.1.2 ++ [32] ++ Lib.decDigits k.2.toNat ++ [32] ++ Lib.decDigits (ckn k i)
def smK (k : K3) : Prop := (0 ≤ k.1.1 ∧ k.1.1 ≤ 7) ∧ (0 ≤ k.1.2 ∧ k.1.2 ≤ 7) ∧ (0 ≤ k.2 ∧ k.2 ≤ 9)
theorem smK_of {n : Int} (hn : 1 ≤ n ∧ n ≤ 4) {k : K3} (h : okK (2 * n) (2 * n) k = true) : smK k := by
  unfold okK cellB at h
  simp only [Bool.and_eq_true, decide_eq_true_eq] at h
  unfold smK
  omega
theorem okV_sm {k : K3} (h : smK k) : okV k.1.1 k.1.2 = true := by
  unfold smK at h
  exact okV_spec.2 (by omega)
theorem ckn_lt (k : K3) (i : Nat) : ckn k i < 997 := Nat.mod_lt _ (by decide)
theorem vtx_len {x y : Int} (hx : 0 ≤ x ∧ x ≤ 7) (hy : 0 ≤ y ∧ y ≤ 7) : (vtx x y).length ≤ 17 := by
  unfold vtx
  rw [itoa_nn hx.1, itoa_nn hy.1]
  have := dec_len x.toNat
  have := dec_len y.toNat
  simp only [List.length_append, List.length_singleton]
  omega
theorem lnx_len {k : K3} (h : smK k) (i : Nat) : (lnx k i).length ≤ 2000 := by
  unfold lnx
  have h1 := vtx_len h.1 h.2.1
  have h2 := dec_len k.2.toNat
  have h3 := dec_len (ckn k i)
  have h4 := ckn_lt k i
  have := h.2.2
  simp only [List.length_append, List.length_singleton]
  omega
theorem ck_eq {k : K3} (h : smK k) {i : Nat} (hi : i < 1000) : IntKind.i64.wrap (IntKind.i64.wrap (IntKind.i64.wrap (IntKind.i64.wrap (17 * k.1.1) + IntKind.i64.wrap (29 * k.1.2)) + IntKind.i64.wrap (7 * k.2)) + IntKind.i64.wrap (13 * (i : Int))) = ((17 * k.1.1.toNat + 29 * k.1.2.toNat + 7 * k.2.toNat + 13 * i : Nat) : Int) := by
  obtain ⟨h1, h2, h3⟩ := h
  rw [w64 (n := 17 * k.1.1) (by omega) (by omega), w64 (n := 29 * k.1.2) (by omega) (by omega), w64 (n := 7 * k.2) (by omega) (by omega), w64 (n := 13 * (i : Int)) (by omega) (by omega), w64 (n := 17 * k.1.1 + 29 * k.1.2) (by omega) (by omega), w64 (n := 17 * k.1.1 + 29 * k.1.2 + 7 * k.2) (by omega) (by omega), w64 (by omega) (by omega)]
  omega
theorem ck_mod (k : K3) (i : Nat) : (((17 * k.1.1.toNat + 29 * k.1.2.toNat + 7 * k.2.toNat + 13 * i : Nat) : Int)).tmod 997 = (ckn k i : Int) := by
  rw [Int.tmod_eq_emod_of_nonneg (by omega)]
  rfl
theorem bst32 (l : List UInt8) : bst l ++ (⟨#[32]⟩ : ByteArray) = bst (l ++ [32]) := bst_app l [32]
theorem bst10 (l : List UInt8) : bst l ++ (⟨#[10]⟩ : ByteArray) = bst (l ++ [10]) := bst_app l [10]
theorem s_line (k : K3) (i : Nat) (h : smK k) (hi : i < 1000) : Sp Tryz.prog 26 [aK k, vi i] (aT (bst (lnx k i))) [] := by
  have w1 := s_vt k.1.1 k.1.2 (okV_sm h)
  have w2 := s_text k.2 (by have := h.2.2; omega) (by have := h.2.2; omega)
  have w3 := s_text (ckn k i : Int) (by omega) (by have := ckn_lt k i; omega)
  rw [itoa_nn h.2.2.1] at w2
  rw [itoa_nn (by omega), Int.toNat_natCast] at w3
  have e1 := ck_eq h hi
  have e2 := ck_mod k i
  have l1 := vtx_len h.1 h.2.1
  have l2 := dec_len k.2.toNat
  have l3 := dec_len (ckn k i)
  have l4 := ckn_lt k i
  have l5 := h.2.2
  have l6 : (⟨#[32]⟩ : ByteArray).size = 1 := rfl
  unfold lnx
  generalize vtx k.1.1 k.1.2 = v1 at *
  generalize Lib.decDigits k.2.toNat = v2 at *
  generalize Lib.decDigits (ckn k i) = v3 at *
  refine sp_of (m := no) mixed Tryz.func26 k26 ?_
  simp -dsimp [q]
  rw [e1, e2]
  refine call_of (w1) rfl (by simp) ?_
  try simp -dsimp
  try (first | exact fp_one (by decide) | refine fp_and (by decide) ?_)
  rw [bst32]
  refine ⟨by show v1.length + 1 ≤ _; omega, ?_⟩
  refine call_of (w2) rfl (by simp) ?_
  try simp -dsimp
  try (first | exact fp_one (by decide) | refine fp_and (by decide) ?_)
  rw [bst32]
  simp -dsimp
  refine ⟨by omega, by omega, ?_⟩
  refine call_of (w3) rfl (by simp) ?_
  try simp -dsimp
  try (first | exact fp_one (by decide) | refine fp_and (by decide) ?_)
  try simp
  try omega
theorem s_sline (k : K3) (i : Nat) (h : smK k) (hi : i < 1000) : Sp Tryz.prog 23 [aK k, vi i] (aT (bst (lnx k i))) [] := by
  have w1 := s_svt k.1.1 k.1.2 (okV_sm h)
  have w2 := s_sdec k.2.toNat (by have := h.2.2; omega)
  have w3 := s_sdec (ckn k i) (by have := ckn_lt k i; omega)
  rw [show ((k.2.toNat : Nat) : Int) = k.2 by have := h.2.2; omega] at w2
  have e1 := ck_eq h hi
  have e2 := ck_mod k i
  have l1 := vtx_len h.1 h.2.1
  have l2 := dec_len k.2.toNat
  have l3 := dec_len (ckn k i)
  have l4 := ckn_lt k i
  have l5 := h.2.2
  have l6 : (⟨#[32]⟩ : ByteArray).size = 1 := rfl
  unfold lnx
  generalize vtx k.1.1 k.1.2 = v1 at *
  generalize Lib.decDigits k.2.toNat = v2 at *
  generalize Lib.decDigits (ckn k i) = v3 at *
  refine sp_of (m := no) mixed Tryz.func23 k23 ?_
  simp -dsimp [q]
  rw [e1, e2]
  refine call_of (w1) rfl (by simp) ?_
  try simp -dsimp
  try (first | exact fp_one (by decide) | refine fp_and (by decide) ?_)
  rw [bst32]
  refine ⟨by show v1.length + 1 ≤ _; omega, ?_⟩
  refine call_of (w2) rfl (by simp) ?_
  try simp -dsimp
  try (first | exact fp_one (by decide) | refine fp_and (by decide) ?_)
  rw [bst32]
  simp -dsimp
  refine ⟨by omega, by omega, ?_⟩
  refine call_of (w3) rfl (by simp) ?_
  try simp -dsimp
  try (first | exact fp_one (by decide) | refine fp_and (by decide) ?_)
  try simp
  try omega
end Go.Proofs.YtcnhcilpaplpcaaGreatDoorEv
namespace Go.Proofs.YtcnhcilpaplpcaaGreatDoorEv
open Go Go.Proofs
set_option maxRecDepth 10000
set_option maxHeartbeats 2000000
def ckG (k : K3) (i : Nat) : Int := (17 * k.1.1 + 29 * k.1.2 + 7 * k.2 + 13 * i).tmod 997
def lnG (k : K3) (i : Nat) : List UInt8 := vtx k.1.1 k.1.2 ++ [32] ++ Lib.itoa k.2 ++ [32] ++ Lib.itoa (ckG k i)
theorem ckG_lt (k : K3) (i : Nat) : -997 < ckG k i ∧ ckG k i < 997 := by
  unfold ckG
  have h1 := Int.tmod_lt_of_pos (17 * k.1.1 + 29 * k.1.2 + 7 * k.2 + 13 * (i : Int)) (show (0 : Int) < 997 by decide)
  have h2 := Int.lt_tmod_of_pos (17 * k.1.1 + 29 * k.1.2 + 7 * k.2 + 13 * (i : Int)) (show (0 : Int) < 997 by decide)
  omega
theorem lnG_sm {k : K3} (h : smK k) (i : Nat) : lnG k i = lnx k i := by
  unfold lnG lnx
  have e : ckG k i = (ckn k i : Int) := by
    rw [← ck_mod]
    unfold ckG
    obtain ⟨h1, h2, h3⟩ := h
    congr 1
    omega
  rw [e, itoa_nn h.2.2.1, itoa_nn (by omega), Int.toNat_natCast]
theorem s_lineG (k : K3) (i : Nat) (hv : okV k.1.1 k.1.2 = true) (hc : 0 ≤ k.2 ∧ k.2 ≤ 9) (hi : i < 1000) : Sp Tryz.prog 26 [aK k, vi i] (aT (bst (lnG k i))) [] := by
  have hb := okV_spec.1 hv
  have hg := ckG_lt k i
  have w1 := s_vt k.1.1 k.1.2 hv
  have w2 := s_text k.2 (by omega) (by omega)
  have w3 := s_text (ckG k i) (by omega) (by omega)
  have e1 : IntKind.i64.wrap (IntKind.i64.wrap (IntKind.i64.wrap (IntKind.i64.wrap (17 * k.1.1) + IntKind.i64.wrap (29 * k.1.2)) + IntKind.i64.wrap (7 * k.2)) + IntKind.i64.wrap (13 * (i : Int))) = 17 * k.1.1 + 29 * k.1.2 + 7 * k.2 + 13 * i := by
    rw [w64 (n := 17 * k.1.1) (by omega) (by omega), w64 (n := 29 * k.1.2) (by omega) (by omega), w64 (n := 7 * k.2) (by omega) (by omega), w64 (n := 13 * (i : Int)) (by omega) (by omega), w64 (n := 17 * k.1.1 + 29 * k.1.2) (by omega) (by omega), w64 (n := 17 * k.1.1 + 29 * k.1.2 + 7 * k.2) (by omega) (by omega), w64 (by omega) (by omega)]
  have e2 : (17 * k.1.1 + 29 * k.1.2 + 7 * k.2 + 13 * (i : Int)).tmod 997 = ckG k i := rfl
  have l0 := itoa_len (n := k.1.1) (by omega)
  have l1 := itoa_len (n := k.1.2) (by omega)
  have l2 := itoa_len (n := k.2) (by omega)
  have l3 := itoa_len (n := ckG k i) (by omega)
  have lv : (vtx k.1.1 k.1.2).length ≤ 3000000 := by
    unfold vtx
    simp only [List.length_append, List.length_singleton]
    omega
  have l6 : (⟨#[32]⟩ : ByteArray).size = 1 := rfl
  unfold lnG
  clear l0 l1 hb hg
  generalize vtx k.1.1 k.1.2 = v1 at *
  generalize Lib.itoa k.2 = v2 at *
  generalize ckG k i = g at *
  generalize Lib.itoa g = v3 at *
  refine sp_of (m := no) mixed Tryz.func26 k26 ?_
  simp -dsimp [q]
  rw [e1, e2]
  refine call_of (w1) rfl (by simp) ?_
  try simp -dsimp
  try (first | exact fp_one (by decide) | refine fp_and (by decide) ?_)
  rw [bst32]
  refine ⟨by show v1.length + 1 ≤ _; omega, ?_⟩
  refine call_of (w2) rfl (by simp) ?_
  try simp -dsimp
  try (first | exact fp_one (by decide) | refine fp_and (by decide) ?_)
  rw [bst32]
  simp -dsimp
  refine ⟨by omega, by omega, ?_⟩
  refine call_of (w3) rfl (by simp) ?_
  try simp -dsimp
  try (first | exact fp_one (by decide) | refine fp_and (by decide) ?_)
  try simp
  try omega
end Go.Proofs.YtcnhcilpaplpcaaGreatDoorEv
namespace Go.Proofs.YtcnhcilpaplpcaaGreatDoorEv
open Go Go.Proofs
set_option maxRecDepth 10000
set_option maxHeartbeats 2000000
theorem vtx_spl (x y : Int) : spl 44 (vtx x y) = [Lib.itoa x, Lib.itoa y] := by
  unfold vtx
  rw [show Lib.itoa x ++ [44] ++ Lib.itoa y = Lib.itoa x ++ 44 :: Lib.itoa y by simp, spl_hit _ _ (itoa_free x 44 (by decide)), spl_none _ (itoa_free y 44 (by decide))]
theorem vtx_free (x y : Int) (b : UInt8) (h : b.toNat < 44) : b ∉ vtx x y := by
  unfold vtx
  have h1 := itoa_free x b (by omega)
  have h2 := itoa_free y b (by omega)
  have h3 : b ≠ 44 := fun e => by rw [e] at h; exact absurd h (by decide)
  simp [h1, h2, h3]
theorem lnG_spl (k : K3) (i : Nat) : spl 32 (lnG k i) = [vtx k.1.1 k.1.2, Lib.itoa k.2, Lib.itoa (ckG k i)] := by
  unfold lnG
  rw [show vtx k.1.1 k.1.2 ++ [32] ++ Lib.itoa k.2 ++ [32] ++ Lib.itoa (ckG k i) = vtx k.1.1 k.1.2 ++ 32 :: (Lib.itoa k.2 ++ 32 :: Lib.itoa (ckG k i)) by simp, spl_hit _ _ (vtx_free _ _ 32 (by decide)), spl_hit _ _ (itoa_free _ 32 (by decide)), spl_none _ (itoa_free _ 32 (by decide))]
theorem lnG_free (k : K3) (i : Nat) : (10 : UInt8) ∉ lnG k i := by
  unfold lnG
  have h1 := vtx_free k.1.1 k.1.2 10 (by decide)
  have h2 := itoa_free k.2 10 (by decide)
  have h3 := itoa_free (ckG k i) 10 (by decide)
  simp [h1, h2, h3]
theorem num_itoa (n : Int) (h : n.natAbs ≤ 1000000) : numV (Lib.itoa n) = n ∧ numOk (Lib.itoa n) = true := by
  have hp := parse_itoa n (by omega) (by omega)
  unfold numV numOk
  rw [hp]
  simp
theorem rvI_vtx {x y : Int} (h : okV x y = true) : rvI (spl 44 (vtx x y)) = some (x, y) := by
  obtain ⟨h1, h2⟩ := okV_spec.1 h
  obtain ⟨a1, a2⟩ := num_itoa x (by omega)
  obtain ⟨b1, b2⟩ := num_itoa y (by omega)
  rw [vtx_spl]
  simp [rvI, a1, a2, b1, b2, h]
theorem rvI_ok {L : List (List UInt8)} {v : Int × Int} (h : rvI L = some v) : okV v.1 v.2 = true := by
  unfold rvI at h
  split at h
  · split at h
    · rename_i hc
      cases h
      simp only [Bool.and_eq_true] at hc
      exact hc.2
    · cases h
  · cases h
def rd1 (l : List UInt8) (i : Nat) : Option K3 := match spl 32 l with
  | [a, b, _] => match rvI (spl 44 a) with
    | some v => if (numOk b && decide (0 ≤ numV b ∧ numV b ≤ 9) && decide (lnG (v, numV b) i = l)) = true then some (v, numV b) else none
    | none => none
  | _ => none
theorem rd1_three {l a b c : List UInt8} (i : Nat) (h : spl 32 l = [a, b, c]) : rd1 l i = match rvI (spl 44 a) with
    | some v => if (numOk b && decide (0 ≤ numV b ∧ numV b ≤ 9) && decide (lnG (v, numV b) i = l)) = true then some (v, numV b) else none
    | none => none := by
  unfold rd1
  rw [h]
theorem rd1_len {l : List UInt8} (i : Nat) (h : (spl 32 l).length ≠ 3) : rd1 l i = none := by
  unfold rd1
  split
  · rename_i e
    rw [e] at h
    simp at h
  · rfl
theorem three {α : Type} {L : List α} (h : L.length = 3) : ∃ a b c, L = [a, b, c] := by
  match L, h with
  | [a, b, c], _ => exact ⟨a, b, c, rfl⟩
theorem s_rs (l : List UInt8) (i : Nat) (h : l.length ≤ 1048576) (hi : i < 1000) : ∃ (k : K3) (ok : Bool), Sp Tryz.prog 32 [aT (bst l), vi i] (.tu [aK k, vb ok]) [] ∧ rd1 l i = if ok = true then some k else none := by
  have w1 : Sp Tryz.prog 52 [aT (bst l), aT ⟨#[32]⟩] (.sli 0) [.row 0 9 (sts ((spl 32 l).map bst))] := s_split l 32 (by omega)
  have hl : ∀ p ∈ spl 32 l, p.length ≤ 1048576 := fun p hp => Nat.le_trans (spl_mem 32 hp) h
  by_cases h3 : (spl 32 l).length = 3
  case neg =>
    refine ⟨((0, 0), 0), false, ?_, rd1_len i h3⟩
    generalize spl 32 l = L at *
    refine sp_of (m := no) mixed Tryz.func32 k32 ?_
    simp -dsimp [q]
    refine call_of (w1) rfl (by simp) ?_
    try simp -dsimp
    try (first | exact fp_one (by decide) | refine fp_and (by decide) ?_)
    try (intro h9; omega)
  obtain ⟨a, b, c, hL⟩ := three h3
  rw [rd1_three i hL]
  rw [hL] at w1 hl
  have w2 := s_rv a (hl a (by simp))
  have w3 : Sp Tryz.prog 54 [aT (bst b)] (.tu [vi (numV b), vb (numOk b)]) [] := s_number b (by have := hl b (by simp); omega)
  have w4 := s_isCol (numV b)
  have hrv : ∀ v, rvI (spl 44 a) = some v → okV v.1 v.2 = true := fun v hv => rvI_ok hv
  clear hL hl h3
  generalize numV b = cb at *
  generalize numOk b = ob at *
  cases hv : rvI (spl 44 a) with
  | none =>
    rw [hv] at w2
    simp only [rvA] at w2
    refine ⟨((0, 0), cb), false, ?_, rfl⟩
    clear hv hrv
    refine sp_of (m := no) mixed Tryz.func32 k32 ?_
    simp -dsimp [q]
    refine call_of (w1) rfl (by simp) ?_
    try simp -dsimp
    try (first | exact fp_one (by decide) | refine fp_and (by decide) ?_)
    refine call_of (w2) rfl (by simp) ?_
    try simp -dsimp
    try (first | exact fp_one (by decide) | refine fp_and (by decide) ?_)
    refine call_of (w3) rfl (by simp) ?_
    try simp -dsimp
    try (first | exact fp_one (by decide) | refine fp_and (by decide) ?_)
  | some v =>
    rw [hv] at w2
    simp only [rvA] at w2
    have hok := hrv v hv
    clear hv hrv
    cases ob with
    | false =>
      refine ⟨(v, cb), false, ?_, rfl⟩
      refine sp_of (m := no) mixed Tryz.func32 k32 ?_
      simp -dsimp [q]
      refine call_of (w1) rfl (by simp) ?_
      try simp -dsimp
      try (first | exact fp_one (by decide) | refine fp_and (by decide) ?_)
      refine call_of (w2) rfl (by simp) ?_
      try simp -dsimp
      try (first | exact fp_one (by decide) | refine fp_and (by decide) ?_)
      refine call_of (w3) rfl (by simp) ?_
      try simp -dsimp
      try (first | exact fp_one (by decide) | refine fp_and (by decide) ?_)
    | true =>
      by_cases hc : 0 ≤ cb ∧ cb ≤ 9
      case neg =>
        refine ⟨(v, cb), false, ?_, by simp [hc]⟩
        rw [decide_eq_false hc] at w4
        refine sp_of (m := no) mixed Tryz.func32 k32 ?_
        simp -dsimp [q]
        refine call_of (w1) rfl (by simp) ?_
        try simp -dsimp
        try (first | exact fp_one (by decide) | refine fp_and (by decide) ?_)
        refine call_of (w2) rfl (by simp) ?_
        try simp -dsimp
        try (first | exact fp_one (by decide) | refine fp_and (by decide) ?_)
        refine call_of (w3) rfl (by simp) ?_
        try simp -dsimp
        try (first | exact fp_one (by decide) | refine fp_and (by decide) ?_)
        refine call_of (w4) rfl (by simp) ?_
        try simp -dsimp
        try (first | exact fp_one (by decide) | refine fp_and (by decide) ?_)
      have w5 := s_lineG (v, cb) i hok hc hi
      refine ⟨(v, cb), decide (lnG (v, cb) i = l), ?_, by simp [hc]⟩
      rw [decide_eq_true hc] at w4
      have e : bst (lnG (v, cb) i) = bst l ↔ lnG (v, cb) i = l := by simp [bst]
      generalize lnG (v, cb) i = L at *
      rw [show decide (L = l) = decide (bst L = bst l) from decide_eq_decide.2 e.symm]
      refine sp_of (m := no) mixed Tryz.func32 k32 ?_
      simp -dsimp [q]
      refine call_of (w1) rfl (by simp) ?_
      try simp -dsimp
      try (first | exact fp_one (by decide) | refine fp_and (by decide) ?_)
      refine call_of (w2) rfl (by simp) ?_
      try simp -dsimp
      try (first | exact fp_one (by decide) | refine fp_and (by decide) ?_)
      refine call_of (w3) rfl (by simp) ?_
      try simp -dsimp
      try (first | exact fp_one (by decide) | refine fp_and (by decide) ?_)
      refine call_of (w4) rfl (by simp) ?_
      try simp -dsimp
      try (first | exact fp_one (by decide) | refine fp_and (by decide) ?_)
      refine call_of (w5) rfl (by simp) ?_
      try simp -dsimp
      try (first | exact fp_one (by decide) | refine fp_and (by decide) ?_)
end Go.Proofs.YtcnhcilpaplpcaaGreatDoorEv
namespace Go.Proofs.YtcnhcilpaplpcaaGreatDoorEv
open Go Go.Proofs
set_option maxRecDepth 10000
set_option maxHeartbeats 2000000
theorem rd1_iff (l : List UInt8) (i : Nat) (k : K3) : rd1 l i = some k ↔ okV k.1.1 k.1.2 = true ∧ (0 ≤ k.2 ∧ k.2 ≤ 9) ∧ lnG k i = l := by
  constructor
  · intro h
    by_cases h3 : (spl 32 l).length = 3
    case neg => rw [rd1_len i h3] at h; cases h
    obtain ⟨a, b, c, hL⟩ := three h3
    rw [rd1_three i hL] at h
    cases hv : rvI (spl 44 a) with
    | none => rw [hv] at h; cases h
    | some v =>
      rw [hv] at h
      simp only at h
      split at h
      · rename_i hc
        cases h
        simp only [Bool.and_eq_true, decide_eq_true_eq] at hc
        exact ⟨rvI_ok hv, hc.1.2, hc.2⟩
      · cases h
  · rintro ⟨h1, h2, h3⟩
    have hs := lnG_spl k i
    rw [h3] at hs
    obtain ⟨a1, a2⟩ := num_itoa k.2 (by omega)
    rw [rd1_three i hs, rvI_vtx h1]
    simp only [a1, a2]
    rw [decide_eq_true h2, decide_eq_true h3]
    rfl
def accK (a c : Int) (i : Nat) (l : List UInt8) : Option K3 := match rd1 l i with
  | some k => if okK a c k = true then some k else none
  | none => none
theorem accK_iff (a c : Int) (l : List UInt8) (i : Nat) (k : K3) : accK a c i l = some k ↔ okV k.1.1 k.1.2 = true ∧ okK a c k = true ∧ lnG k i = l := by
  unfold accK
  cases h : rd1 l i with
  | none =>
    constructor
    · intro h; cases h
    · rintro ⟨h1, h2, h3⟩
      have := (rd1_iff l i k).2 ⟨h1, ?_, h3⟩
      · rw [h] at this; cases this
      · unfold okK at h2
        simp only [Bool.and_eq_true, decide_eq_true_eq] at h2
        exact h2.2
  | some k' =>
    obtain ⟨h1, h2, h3⟩ := (rd1_iff l i k').1 h
    simp only
    constructor
    · intro hk
      split at hk
      · cases hk
        rename_i hc
        exact ⟨h1, hc, h3⟩
      · cases hk
    · rintro ⟨g1, g2, g3⟩
      have hg : 0 ≤ k.2 ∧ k.2 ≤ 9 := by
        unfold okK at g2
        simp only [Bool.and_eq_true, decide_eq_true_eq] at g2
        exact g2.2
      have := (rd1_iff l i k).2 ⟨g1, hg, g3⟩
      rw [h] at this
      cases this
      rw [if_pos g2]
def recL (a c : Int) : Nat → List (List UInt8) → List K3
  | i, l :: m :: L => if i < 100 then (match accK a c i l with
    | some k => k :: recL a c (i + 1) (m :: L)
    | none => []) else []
  | _, _ => []
theorem recL_one (a c : Int) (i : Nat) (l : List UInt8) : recL a c i [l] = [] := rfl
theorem recL_far (a c : Int) {i : Nat} (h : 100 ≤ i) (L : List (List UInt8)) : recL a c i L = [] := by
  unfold recL
  split
  · rw [if_neg (by omega)]
  · rfl
theorem recL_yes {a c : Int} {i : Nat} {l : List UInt8} {k : K3} {L : List (List UInt8)} (h : i < 100) (hk : accK a c i l = some k) (hL : 1 ≤ L.length) : recL a c i (l :: L) = k :: recL a c (i + 1) L := by
  cases L with
  | nil => simp at hL
  | cons m L => rw [recL, if_pos h, hk]
theorem recL_no {a c : Int} {i : Nat} {l : List UInt8} {L : List (List UInt8)} (hk : accK a c i l = none) : recL a c i (l :: L) = [] := by
  cases L with
  | nil => rfl
  | cons m L =>
    unfold recL
    split
    · rw [hk]
    · rfl
theorem recL_len (a c : Int) : ∀ (L : List (List UInt8)) (i : Nat), (recL a c i L).length ≤ 100 - i
  | [], i => by simp [recL]
  | [l], i => by simp [recL]
  | l :: m :: L, i => by
    unfold recL
    have ih := recL_len a c (m :: L) (i + 1)
    split
    · split
      · simp; omega
      · simp
    · simp
def rdS (a c : Int) (i : Nat) (l : List UInt8) : Option K3 := match spl 32 l with
  | [u, b, _] => match rvL (spl 44 u) with
    | some v => if (dgOk b && okKs a c [(v, (dgV b : Int))] && decide (lnx (v, (dgV b : Int)) i = l)) = true then some (v, (dgV b : Int)) else none
    | none => none
  | _ => none
theorem rdS_three {a c : Int} {l u b w : List UInt8} (i : Nat) (h : spl 32 l = [u, b, w]) : rdS a c i l = match rvL (spl 44 u) with
    | some v => if (dgOk b && okKs a c [(v, (dgV b : Int))] && decide (lnx (v, (dgV b : Int)) i = l)) = true then some (v, (dgV b : Int)) else none
    | none => none := by
  unfold rdS
  rw [h]
theorem rdS_len {a c : Int} {l : List UInt8} (i : Nat) (h : (spl 32 l).length ≠ 3) : rdS a c i l = none := by
  unfold rdS
  split
  · rename_i e
    rw [e] at h
    simp at h
  · rfl
theorem okKs_one (a c : Int) (k : K3) : okKs a c [k] = okK a c k := by
  simp [okKs]
theorem dg_dec {u : Nat} (h : u < 1000000) : dgV (Lib.decDigits u) = u ∧ dgOk (Lib.decDigits u) = true := by
  have h1 := dec_len10 6 u (by have : (10 : Nat) ^ (6 + 1) = 10000000 := by decide
                               omega)
  have h2 : (Lib.decDigits u).all isDg = true := by
    rw [List.all_eq_true]
    intro b hb
    unfold isDg
    exact decide_eq_true (dec_digit u b hb)
  have h3 : 1 ≤ (Lib.decDigits u).length := by
    have := dec_ne u
    cases h : Lib.decDigits u with
    | nil => exact absurd h this
    | cons x y => simp
  have h4 : dgIn (Lib.decDigits u) = true := by
    unfold dgIn
    rw [h2, decide_eq_true (by omega)]
    rfl
  unfold dgV dgOk
  rw [h4, dval_dec]
  simp
theorem sg_dec {u : Nat} (h : u < 1000000) : sgV (Lib.decDigits u) = u ∧ sgOk (Lib.decDigits u) = true := by
  have hn : (Lib.decDigits u)[0]? ≠ some 45 := by
    intro e
    have := dec_digit u _ (List.mem_of_getElem? e)
    exact absurd this (by decide)
  obtain ⟨h1, h2⟩ := dg_dec h
  unfold sgV sgOk
  rw [if_neg hn, if_neg hn, h1, h2]
  exact ⟨rfl, rfl⟩
theorem rvL_vtx {x y : Int} (hx : 0 ≤ x ∧ x ≤ 7) (hy : 0 ≤ y ∧ y ≤ 7) (h : okV x y = true) : rvL (spl 44 (vtx x y)) = some (x, y) := by
  obtain ⟨a1, a2⟩ := sg_dec (u := x.toNat) (by omega)
  obtain ⟨b1, b2⟩ := sg_dec (u := y.toNat) (by omega)
  rw [vtx_spl, itoa_nn hx.1, itoa_nn hy.1]
  have e1 : ((x.toNat : Nat) : Int) = x := by omega
  have e2 : ((y.toNat : Nat) : Int) = y := by omega
  simp [rvL, a1, a2, b1, b2, e1, e2, h]
theorem rdS_eq {n : Int} (hn : 1 ≤ n ∧ n ≤ 4) (l : List UInt8) (i : Nat) : rdS (2 * n) (2 * n) i l = accK (2 * n) (2 * n) i l := by
  have hiff : ∀ k, rdS (2 * n) (2 * n) i l = some k ↔ accK (2 * n) (2 * n) i l = some k := by
    intro k
    rw [accK_iff]
    constructor
    · intro h
      by_cases h3 : (spl 32 l).length = 3
      case neg => rw [rdS_len i h3] at h; cases h
      obtain ⟨u, b, w, hL⟩ := three h3
      rw [rdS_three i hL] at h
      cases hv : rvL (spl 44 u) with
      | none => rw [hv] at h; cases h
      | some v =>
        rw [hv] at h
        simp only at h
        split at h
        · rename_i hc
          cases h
          simp only [Bool.and_eq_true, decide_eq_true_eq, okKs_one] at hc
          have hs := smK_of hn hc.1.2
          exact ⟨okV_sm hs, hc.1.2, by rw [lnG_sm hs]; exact hc.2⟩
        · cases h
    · rintro ⟨h1, h2, h3⟩
      have hs := smK_of hn h2
      have hsp := lnG_spl k i
      rw [h3] at hsp
      rw [lnG_sm hs] at h3
      obtain ⟨hx, hy, hc⟩ := id hs
      obtain ⟨d1, d2⟩ := dg_dec (u := k.2.toNat) (by omega)
      have e2 : ((k.2.toNat : Nat) : Int) = k.2 := by omega
      rw [rdS_three i hsp, rvL_vtx hx hy h1]
      rw [itoa_nn hc.1]
      simp only [d1, d2, e2, okKs_one]
      rw [h2, decide_eq_true h3]
      rfl
  cases h : accK (2 * n) (2 * n) i l with
  | some k => exact (hiff k).2 h
  | none =>
    cases h2 : rdS (2 * n) (2 * n) i l with
    | none => rfl
    | some k => rw [(hiff k).1 h2] at h; cases h
end Go.Proofs.YtcnhcilpaplpcaaGreatDoorEv
namespace Go.Proofs.YtcnhcilpaplpcaaGreatDoorEv
open Go Go.Proofs
set_option maxRecDepth 10000
set_option maxHeartbeats 1000000
def bStr (l : List UInt8) : ByteArray := ⟨l.toArray⟩
def stdOf (s : ByteArray) (n : Int) : Option (Int × List G6) :=
  if s = ⟨#[112, 49]⟩ then some (0, []) else
  if s = ⟨#[112, 50]⟩ then some (0, [((-1, 0, 0, -1), 0, 0)]) else
  if s = ⟨#[112, 109]⟩ then some (0, [((1, 0, 0, -1), 0, 0)]) else
  if s = ⟨#[112, 103]⟩ then some (0, [((1, 0, 0, -1), n, 0)]) else
  if s = ⟨#[99, 109]⟩ then some (0, [((0, 1, 1, 0), 0, 0)]) else
  if s = ⟨#[112, 109, 109]⟩ then some (0, [((1, 0, 0, -1), 0, 0), ((-1, 0, 0, -1), 0, 0)]) else
  if s = ⟨#[112, 109, 103]⟩ then some (0, [((1, 0, 0, -1), n, 0), ((-1, 0, 0, -1), 0, 0)]) else
  if s = ⟨#[112, 103, 103]⟩ then some (0, [((1, 0, 0, -1), n, n), ((-1, 0, 0, -1), 0, 0)]) else
  if s = ⟨#[99, 109, 109]⟩ then some (0, [((0, 1, 1, 0), 0, 0), ((-1, 0, 0, -1), 0, 0)]) else
  if s = ⟨#[112, 52]⟩ then some (0, [((0, -1, 1, 0), 0, 0)]) else
  if s = ⟨#[112, 52, 109]⟩ then some (0, [((0, -1, 1, 0), 0, 0), ((1, 0, 0, -1), 0, 0)]) else
  if s = ⟨#[112, 52, 103]⟩ then some (0, [((0, -1, 1, 0), 0, 0), ((1, 0, 0, -1), n, n)]) else
  if s = ⟨#[112, 51]⟩ then some (1, [((-1, -1, 1, 0), 0, 0)]) else
  if s = ⟨#[112, 51, 109, 49]⟩ then some (1, [((-1, -1, 1, 0), 0, 0), ((0, 1, 1, 0), 0, 0)]) else
  if s = ⟨#[112, 51, 49, 109]⟩ then some (1, [((-1, -1, 1, 0), 0, 0), ((1, 1, 0, -1), 0, 0)]) else
  if s = ⟨#[112, 54]⟩ then some (1, [((0, -1, 1, 1), 0, 0)]) else
  if s = ⟨#[112, 54, 109]⟩ then some (1, [((0, -1, 1, 1), 0, 0), ((0, 1, 1, 0), 0, 0)]) else none
def cloS (n : Int) (L S : List G6) : List G6 := L.foldl (fun S m => S.foldl (fun S' g => if redG (2 * n) 0 (2 * n) (mulG m g) ∈ S' then S' else S' ++ [redG (2 * n) 0 (2 * n) (mulG m g)]) S) S
def clo (n : Int) (L : List G6) : Nat → List G6
  | 0 => [unG]
  | k + 1 => cloS n L (clo n L k)
def small1 (n : Int) (g : G6) : Bool := decide (g.1.1.natAbs ≤ 1 ∧ g.1.2.1.natAbs ≤ 1 ∧ g.1.2.2.1.natAbs ≤ 1 ∧ g.1.2.2.2.natAbs ≤ 1 ∧ 0 ≤ g.2.1 ∧ g.2.1 < 2 * n ∧ 0 ≤ g.2.2 ∧ g.2.2 < 2 * n)
/-- A small set that holds the group. -/
structure Clo (n : Int) (L S : List G6) : Prop where
  len : S.length ≤ 12
  len2 : L.length ≤ 2
  un : unG ∈ S
  sm : ∀ g ∈ S, memG (2 * n) (2 * n) g
  sl : ∀ g ∈ L, memG (2 * n) (2 * n) g
  st : ∀ m ∈ L, ∀ g ∈ S, redG (2 * n) 0 (2 * n) (mulG m g) ∈ S
def chkC (n : Int) (L S : List G6) : Bool := decide (S.length ≤ 12) && decide (L.length ≤ 2) && decide (unG ∈ S) && S.all (small1 n) && L.all (small1 n) && L.all fun m => S.all fun g => decide (redG (2 * n) 0 (2 * n) (mulG m g) ∈ S)
theorem small1_spec {n : Int} {g : G6} (h : small1 n g = true) : memG (2 * n) (2 * n) g := by
  simp only [small1, decide_eq_true_eq] at h
  exact ⟨⟨⟨h.1, h.2.1⟩, h.2.2.1, h.2.2.2.1⟩, ⟨h.2.2.2.2.1, h.2.2.2.2.2.1⟩, h.2.2.2.2.2.2.1, h.2.2.2.2.2.2.2⟩
theorem chkC_spec {n : Int} {L S : List G6} (h : chkC n L S = true) : Clo n L S := by
  simp only [chkC, Bool.and_eq_true, decide_eq_true_eq, List.all_eq_true] at h
  obtain ⟨⟨⟨⟨⟨h1, h2⟩, h3⟩, h4⟩, h5⟩, h6⟩ := h
  exact ⟨h1, h2, h3, fun g hg => small1_spec (h4 g hg), fun g hg => small1_spec (h5 g hg), h6⟩
def stdLs (n : Int) : List (List G6) := [[], [((-1, 0, 0, -1), 0, 0)], [((1, 0, 0, -1), 0, 0)], [((1, 0, 0, -1), n, 0)], [((0, 1, 1, 0), 0, 0)],
  [((1, 0, 0, -1), 0, 0), ((-1, 0, 0, -1), 0, 0)], [((1, 0, 0, -1), n, 0), ((-1, 0, 0, -1), 0, 0)], [((1, 0, 0, -1), n, n), ((-1, 0, 0, -1), 0, 0)], [((0, 1, 1, 0), 0, 0), ((-1, 0, 0, -1), 0, 0)],
  [((0, -1, 1, 0), 0, 0)], [((0, -1, 1, 0), 0, 0), ((1, 0, 0, -1), 0, 0)], [((0, -1, 1, 0), 0, 0), ((1, 0, 0, -1), n, n)], [((-1, -1, 1, 0), 0, 0)],
  [((-1, -1, 1, 0), 0, 0), ((0, 1, 1, 0), 0, 0)], [((-1, -1, 1, 0), 0, 0), ((1, 1, 0, -1), 0, 0)], [((0, -1, 1, 1), 0, 0)], [((0, -1, 1, 1), 0, 0), ((0, 1, 1, 0), 0, 0)]]
theorem std_mem {s : ByteArray} {n f : Int} {L : List G6} (h : stdOf s n = some (f, L)) : L ∈ stdLs n := by
  have key : ∀ (p : Prop) [Decidable p] (f' : Int) (L' : List G6) (r : Option (Int × List G6)), (if p then some (f', L') else r) = some (f, L) → L' ∈ stdLs n → (r = some (f, L) → L ∈ stdLs n) → L ∈ stdLs n := by
    intro p _ f' L' r h h1 h2
    by_cases hp : p
    · rw [if_pos hp] at h
      cases h
      exact h1
    · rw [if_neg hp] at h
      exact h2 h
  unfold stdOf at h
  revert h
  iterate 17 refine fun h => key _ _ _ _ h (by simp [stdLs]) ?_
  intro h
  cases h
theorem chk1 : (stdLs 1).all (fun L => chkC 1 L (clo 1 L 6)) = true := by decide +kernel
theorem chk2 : (stdLs 2).all (fun L => chkC 2 L (clo 2 L 6)) = true := by decide +kernel
theorem chk3 : (stdLs 3).all (fun L => chkC 3 L (clo 3 L 6)) = true := by decide +kernel
theorem chk4 : (stdLs 4).all (fun L => chkC 4 L (clo 4 L 6)) = true := by decide +kernel
theorem std_clo {s : ByteArray} {n f : Int} {L : List G6} (h : stdOf s n = some (f, L)) (hn : 1 ≤ n ∧ n ≤ 4) : ∃ S, Clo n L S := by
  have hm := std_mem h
  have : n = 1 ∨ n = 2 ∨ n = 3 ∨ n = 4 := by omega
  rcases this with rfl | rfl | rfl | rfl
  · exact ⟨_, chkC_spec (List.all_eq_true.1 chk1 _ hm)⟩
  · exact ⟨_, chkC_spec (List.all_eq_true.1 chk2 _ hm)⟩
  · exact ⟨_, chkC_spec (List.all_eq_true.1 chk3 _ hm)⟩
  · exact ⟨_, chkC_spec (List.all_eq_true.1 chk4 _ hm)⟩
end Go.Proofs.YtcnhcilpaplpcaaGreatDoorEv
namespace Go.Proofs.YtcnhcilpaplpcaaGreatDoorEv
open Go Go.Proofs
set_option maxRecDepth 10000
set_option maxHeartbeats 1000000
@[simp] theorem gs_take (l : List G6) (n : Nat) : (gs l).take n = gs (l.take n) := by simp [gs, List.map_take]
@[simp] theorem gs_drop (l : List G6) (n : Nat) : (gs l).drop n = gs (l.drop n) := by simp [gs, List.map_drop]
theorem gs_app2 (l k : List G6) : gs l ++ gs k = gs (l ++ k) := by simp [gs]
/-! putting into order -/
theorem lexLt_tri : ∀ {xs ys : List Int}, xs.length = ys.length → xs = ys ∨ lexLt xs ys = true ∨ lexLt ys xs = true
  | [], [], _ => .inl rfl
  | x :: xs, y :: ys, h => by
    rcases lexLt_tri (xs := xs) (ys := ys) (by simpa using h) with e | e | e
    · subst e
      rcases Int.lt_trichotomy x y with e | e | e
      · exact .inr (.inl (by simp [lexLt, e, show x ≠ y by omega]))
      · subst e; exact .inl rfl
      · exact .inr (.inr (by simp [lexLt, e, show y ≠ x by omega]))
    · rcases Int.lt_trichotomy x y with f | f | f
      · exact .inr (.inl (by simp [lexLt, f, show x ≠ y by omega]))
      · subst f; exact .inr (.inl (by simp [lexLt, e]))
      · exact .inr (.inr (by simp [lexLt, f, show y ≠ x by omega]))
    · rcases Int.lt_trichotomy x y with f | f | f
      · exact .inr (.inl (by simp [lexLt, f, show x ≠ y by omega]))
      · subst f; exact .inr (.inr (by simp [lexLt, e]))
      · exact .inr (.inr (by simp [lexLt, f, show y ≠ x by omega]))
theorem ltG_tri (g h : G6) : g = h ∨ ltG g h = true ∨ ltG h g = true := by
  rw [ltG_lex, ltG_lex]
  rcases lexLt_tri (xs := m4 g.1 ++ t2 g.2) (ys := m4 h.1 ++ t2 h.2) rfl with e | e | e
  · refine .inl ?_
    obtain ⟨⟨a, b, c, d⟩, x, y⟩ := g
    obtain ⟨⟨a', b', c', d'⟩, x', y'⟩ := h
    simpa [m4, t2, and_assoc] using e
  · exact .inr (.inl e)
  · exact .inr (.inr e)
def insG (l : List G6) (m : G6) : List G6 := l.take (plc l m) ++ m :: l.drop (plc l m)
theorem insG_mem {l : List G6} {m x : G6} : x ∈ insG l m ↔ x = m ∨ x ∈ l := by
  unfold insG
  conv => rhs; rw [← List.take_append_drop (plc l m) l]
  simp only [List.mem_append, List.mem_cons]
  constructor
  · rintro (h | h | h) <;> simp [h]
  · rintro (h | h | h) <;> simp [h]
theorem insG_len (l : List G6) (m : G6) : (insG l m).length = l.length + 1 := by
  unfold insG
  have := congrArg List.length (List.take_append_drop (plc l m) l)
  simp only [List.length_append, List.length_cons] at *
  omega
theorem plc_bef {l : List G6} {m x : G6} (h : x ∈ l.take (plc l m)) : ltG x m = true := by
  obtain ⟨j, hj, rfl⟩ := List.mem_take_iff_getElem.1 h
  have := List.not_of_lt_findIdx (p := fun x => !ltG x m) (xs := l) (i := j) (by unfold plc at hj; omega)
  simpa using this
theorem plc_aft {l : List G6} {m x : G6} (hs : srt l) (hm : m ∉ l) (h : x ∈ l.drop (plc l m)) : ltG m x = true := by
  obtain ⟨j, hj, rfl⟩ := List.mem_iff_getElem.1 h
  rw [List.getElem_drop] at h ⊢
  rw [List.length_drop] at hj
  have hlt : plc l m < l.length := by omega
  have h0 : ltG l[plc l m] m = false := by
    have := List.findIdx_getElem (p := fun x => !ltG x m) (xs := l) (w := hlt)
    rw [Bool.not_eq_true'] at this
    exact this
  have h1 : ltG m l[plc l m] = true := by
    rcases ltG_tri m l[plc l m] with e | e | e
    · exact absurd (e ▸ List.getElem_mem hlt) hm
    · exact e
    · rw [h0] at e; cases e
  rcases Nat.eq_zero_or_pos j with e | e
  · subst e; exact h1
  · exact ltG_trans h1 (srt_get hs (i := plc l m) (j := plc l m + j) (List.getElem?_eq_getElem hlt) (List.getElem?_eq_getElem (by omega)) (by omega))
theorem insG_srt {l : List G6} {m : G6} (hs : srt l) (hm : m ∉ l) : srt (insG l m) := by
  unfold srt insG
  have h0 : srt (l.take (plc l m) ++ l.drop (plc l m)) := by rw [List.take_append_drop]; exact hs
  unfold srt at h0
  rw [List.pairwise_append] at h0 ⊢
  refine ⟨h0.1, List.pairwise_cons.2 ⟨fun x hx => plc_aft hs hm hx, h0.2.1⟩, fun x hx y hy => ?_⟩
  rcases List.mem_cons.1 hy with e | e
  · rw [e]; exact plc_bef hx
  · exact h0.2.2 x hx y e
def srtL (Q : List G6) : List G6 := Q.foldl insG []
theorem srtL_app (Q : List G6) (m : G6) : srtL (Q ++ [m]) = insG (srtL Q) m := by simp [srtL, List.foldl_append]
theorem foldl_ins_mem (Q s : List G6) (x : G6) : x ∈ Q.foldl insG s ↔ x ∈ Q ∨ x ∈ s := by
  induction Q generalizing s with
  | nil => simp
  | cons m Q ih =>
    rw [List.foldl_cons, ih, insG_mem, List.mem_cons]
    constructor
    · rintro (h | h | h) <;> simp [h]
    · rintro ((h | h) | h) <;> simp [h]
theorem srtL_mem {Q : List G6} {x : G6} : x ∈ srtL Q ↔ x ∈ Q := by simp [srtL, foldl_ins_mem]
theorem foldl_ins_len (Q s : List G6) : (Q.foldl insG s).length = Q.length + s.length := by
  induction Q generalizing s with
  | nil => simp
  | cons m Q ih => rw [List.foldl_cons, ih, insG_len, List.length_cons]; omega
theorem srtL_len (Q : List G6) : (srtL Q).length = Q.length := by simp [srtL, foldl_ins_len]
theorem foldl_ins_srt (Q s : List G6) (hs : srt s) (hn : Q.Nodup) (hd : ∀ x ∈ Q, x ∉ s) : srt (Q.foldl insG s) := by
  induction Q generalizing s with
  | nil => exact hs
  | cons m Q ih =>
    rw [List.nodup_cons] at hn
    refine ih _ (insG_srt hs (hd m (by simp))) hn.2 fun x hx h => ?_
    rcases insG_mem.1 h with e | e
    · exact hn.1 (e ▸ hx)
    · exact hd x (by simp [hx]) e
theorem srtL_srt {Q : List G6} (hn : Q.Nodup) : srt (srtL Q) := foldl_ins_srt Q [] (by simp [srt]) hn (by simp)
/-! closing -/
def addG (n : Int) (g : G6) (O : List G6) (m : G6) : List G6 := if redG (2 * n) 0 (2 * n) (mulG m g) ∈ O then O else O ++ [redG (2 * n) 0 (2 * n) (mulG m g)]
def bfs (n : Int) (L : List G6) : Nat → Nat → List G6 → List G6
  | 0, _, O => O
  | f + 1, k, O => match O[k]? with
    | none => O
    | some g => bfs n L f (k + 1) (L.foldl (addG n g) O)
def grpL (n : Int) (L : List G6) : List G6 := bfs n L 13 0 [unG]
theorem bfs_end (n : Int) (L : List G6) (f k : Nat) (O : List G6) (h : O.length ≤ k) : bfs n L f k O = O := by
  cases f with
  | zero => rfl
  | succ f => rw [bfs, List.getElem?_eq_none h]
theorem bfs_step (n : Int) (L : List G6) (f k : Nat) (O : List G6) (g : G6) (h : O[k]? = some g) : bfs n L (f + 1) k O = bfs n L f (k + 1) (L.foldl (addG n g) O) := by rw [bfs, h]
structure Gd (S O : List G6) : Prop where
  nd : O.Nodup
  sub : ∀ x ∈ O, x ∈ S
  un : unG ∈ O
theorem Gd.len {n : Int} {L S O : List G6} (c : Clo n L S) (h : Gd S O) : O.length ≤ 12 := Nat.le_trans (pigeon O S h.nd h.sub) c.len
theorem Gd.add {n : Int} {L S O : List G6} (c : Clo n L S) (h : Gd S O) {m g : G6} (hm : m ∈ L) (hg : g ∈ S) : Gd S (addG n g O m) := by
  unfold addG
  split
  · exact h
  case isFalse hn =>
    refine ⟨?_, fun x hx => ?_, by simp [h.un]⟩
    · rw [List.nodup_append]
      refine ⟨h.nd, by simp, fun a ha b hb => ?_⟩
      rw [List.mem_singleton] at hb
      rintro rfl
      exact hn (hb ▸ ha)
    · rcases List.mem_append.1 hx with e | e
      · exact h.sub x e
      · rw [List.mem_singleton.1 e]; exact c.st m hm g hg
theorem Gd.one {n : Int} {L S : List G6} (c : Clo n L S) : Gd S [unG] := ⟨by simp, fun x hx => by rw [List.mem_singleton.1 hx]; exact c.un, by simp⟩
theorem addG_get {n : Int} {g m : G6} {O : List G6} {k : Nat} {x : G6} (h : O[k]? = some x) : (addG n g O m)[k]? = some x := by
  unfold addG
  split
  · exact h
  · rw [List.getElem?_append_left (List.getElem?_eq_some_iff.1 h).1, h]
/-! sorting by exchanges -/
def sw (l : List G6) (j : Nat) (a b : G6) : List G6 := (l.set (j + 1) a).set j b
def innr : Nat → List G6 → List G6
  | 0, l => l
  | j + 1, l => match l[j + 1]?, l[j]? with
    | some b, some a => if ltG b a = true then innr j (sw l j a b) else l
    | _, _ => l
def outr : Nat → List G6 → List G6
  | 0, l => l
  | 1, l => l
  | i + 2, l => innr (i + 1) (outr (i + 1) l)
theorem sw_len (l : List G6) (j : Nat) (a b : G6) : (sw l j a b).length = l.length := by simp [sw]
theorem innr_len (j : Nat) (l : List G6) : (innr j l).length = l.length := by
  induction j generalizing l with
  | zero => rfl
  | succ j ih =>
    rw [innr]
    split
    · split
      · rw [ih, sw_len]
      · rfl
    · rfl
theorem outr_len (i : Nat) (l : List G6) : (outr i l).length = l.length := by
  fun_induction outr i l with
  | case1 => rfl
  | case2 => rfl
  | case3 l i ih => rw [innr_len, ih]
theorem innr_step {j : Nat} {l : List G6} {a b : G6} (hb : l[j + 1]? = some b) (ha : l[j]? = some a) : innr (j + 1) l = if ltG b a = true then innr j (sw l j a b) else l := by rw [innr, hb, ha]
end Go.Proofs.YtcnhcilpaplpcaaGreatDoorEv
namespace Go.Proofs.YtcnhcilpaplpcaaGreatDoorEv
open Go Go.Proofs
set_option maxRecDepth 10000
set_option maxHeartbeats 2000000
def StdR (f : Nat) (s : ByteArray) (n : Int) (o : Option (Int × List G6)) : Prop := match o with
  | none => Sp Tryz.prog f [.v (.str s), vi n] (.tu [vi 0, .nil 6, vb false]) []
  | some (k, []) => Sp Tryz.prog f [.v (.str s), vi n] (.tu [vi k, .nil 6, vb true]) []
  | some (k, x :: L) => Sp Tryz.prog f [.v (.str s), vi n] (.tu [vi k, .sli 0, vb true]) [.row 6 116 (gs (x :: L))]
theorem std_p1 (n : Int) : StdR 63 ⟨#[112, 49]⟩ n (stdOf ⟨#[112, 49]⟩ n) := by
  have e : stdOf ⟨#[112, 49]⟩ n = some (0, []) := by simp [stdOf]
  rw [e]
  unfold StdR
  simp only
  refine sp_of (m := no) mixed Tryz.func63 k63 ?_
  simp -dsimp [q, gs, vg]
  all_goals decide
theorem std_p2 (n : Int) : StdR 63 ⟨#[112, 50]⟩ n (stdOf ⟨#[112, 50]⟩ n) := by
  have e : stdOf ⟨#[112, 50]⟩ n = some (0, [((-1, 0, 0, -1), 0, 0)]) := by simp [stdOf]
  rw [e]
  unfold StdR
  simp only
  refine sp_of (m := no) mixed Tryz.func63 k63 ?_
  simp -dsimp [q, gs, vg]
  all_goals decide
theorem std_pm (n : Int) : StdR 63 ⟨#[112, 109]⟩ n (stdOf ⟨#[112, 109]⟩ n) := by
  have e : stdOf ⟨#[112, 109]⟩ n = some (0, [((1, 0, 0, -1), 0, 0)]) := by simp [stdOf]
  rw [e]
  unfold StdR
  simp only
  refine sp_of (m := no) mixed Tryz.func63 k63 ?_
  simp -dsimp [q, gs, vg]
  all_goals decide
theorem std_pg (n : Int) : StdR 63 ⟨#[112, 103]⟩ n (stdOf ⟨#[112, 103]⟩ n) := by
  have e : stdOf ⟨#[112, 103]⟩ n = some (0, [((1, 0, 0, -1), n, 0)]) := by simp [stdOf]
  rw [e]
  unfold StdR
  simp only
  refine sp_of (m := no) mixed Tryz.func63 k63 ?_
  simp -dsimp [q, gs, vg]
  all_goals decide
theorem std_cm (n : Int) : StdR 63 ⟨#[99, 109]⟩ n (stdOf ⟨#[99, 109]⟩ n) := by
  have e : stdOf ⟨#[99, 109]⟩ n = some (0, [((0, 1, 1, 0), 0, 0)]) := by simp [stdOf]
  rw [e]
  unfold StdR
  simp only
  refine sp_of (m := no) mixed Tryz.func63 k63 ?_
  simp -dsimp [q, gs, vg]
  all_goals decide
theorem std_pmm (n : Int) : StdR 63 ⟨#[112, 109, 109]⟩ n (stdOf ⟨#[112, 109, 109]⟩ n) := by
  have e : stdOf ⟨#[112, 109, 109]⟩ n = some (0, [((1, 0, 0, -1), 0, 0), ((-1, 0, 0, -1), 0, 0)]) := by simp [stdOf]
  rw [e]
  unfold StdR
  simp only
  refine sp_of (m := no) mixed Tryz.func63 k63 ?_
  simp -dsimp [q, gs, vg]
  all_goals decide
theorem std_pmg (n : Int) : StdR 63 ⟨#[112, 109, 103]⟩ n (stdOf ⟨#[112, 109, 103]⟩ n) := by
  have e : stdOf ⟨#[112, 109, 103]⟩ n = some (0, [((1, 0, 0, -1), n, 0), ((-1, 0, 0, -1), 0, 0)]) := by simp [stdOf]
  rw [e]
  unfold StdR
  simp only
  refine sp_of (m := no) mixed Tryz.func63 k63 ?_
  simp -dsimp [q, gs, vg]
  all_goals decide
theorem std_pgg (n : Int) : StdR 63 ⟨#[112, 103, 103]⟩ n (stdOf ⟨#[112, 103, 103]⟩ n) := by
  have e : stdOf ⟨#[112, 103, 103]⟩ n = some (0, [((1, 0, 0, -1), n, n), ((-1, 0, 0, -1), 0, 0)]) := by simp [stdOf]
  rw [e]
  unfold StdR
  simp only
  refine sp_of (m := no) mixed Tryz.func63 k63 ?_
  simp -dsimp [q, gs, vg]
  all_goals decide
theorem std_cmm (n : Int) : StdR 63 ⟨#[99, 109, 109]⟩ n (stdOf ⟨#[99, 109, 109]⟩ n) := by
  have e : stdOf ⟨#[99, 109, 109]⟩ n = some (0, [((0, 1, 1, 0), 0, 0), ((-1, 0, 0, -1), 0, 0)]) := by simp [stdOf]
  rw [e]
  unfold StdR
  simp only
  refine sp_of (m := no) mixed Tryz.func63 k63 ?_
  simp -dsimp [q, gs, vg]
  all_goals decide
theorem std_p4 (n : Int) : StdR 63 ⟨#[112, 52]⟩ n (stdOf ⟨#[112, 52]⟩ n) := by
  have e : stdOf ⟨#[112, 52]⟩ n = some (0, [((0, -1, 1, 0), 0, 0)]) := by simp [stdOf]
  rw [e]
  unfold StdR
  simp only
  refine sp_of (m := no) mixed Tryz.func63 k63 ?_
  simp -dsimp [q, gs, vg]
  all_goals decide
theorem std_p4m (n : Int) : StdR 63 ⟨#[112, 52, 109]⟩ n (stdOf ⟨#[112, 52, 109]⟩ n) := by
  have e : stdOf ⟨#[112, 52, 109]⟩ n = some (0, [((0, -1, 1, 0), 0, 0), ((1, 0, 0, -1), 0, 0)]) := by simp [stdOf]
  rw [e]
  unfold StdR
  simp only
  refine sp_of (m := no) mixed Tryz.func63 k63 ?_
  simp -dsimp [q, gs, vg]
  all_goals decide
theorem std_p4g (n : Int) : StdR 63 ⟨#[112, 52, 103]⟩ n (stdOf ⟨#[112, 52, 103]⟩ n) := by
  have e : stdOf ⟨#[112, 52, 103]⟩ n = some (0, [((0, -1, 1, 0), 0, 0), ((1, 0, 0, -1), n, n)]) := by simp [stdOf]
  rw [e]
  unfold StdR
  simp only
  refine sp_of (m := no) mixed Tryz.func63 k63 ?_
  simp -dsimp [q, gs, vg]
  all_goals decide
theorem std_p3 (n : Int) : StdR 63 ⟨#[112, 51]⟩ n (stdOf ⟨#[112, 51]⟩ n) := by
  have e : stdOf ⟨#[112, 51]⟩ n = some (1, [((-1, -1, 1, 0), 0, 0)]) := by simp [stdOf]
  rw [e]
  unfold StdR
  simp only
  refine sp_of (m := no) mixed Tryz.func63 k63 ?_
  simp -dsimp [q, gs, vg]
  all_goals decide
theorem std_p3m1 (n : Int) : StdR 63 ⟨#[112, 51, 109, 49]⟩ n (stdOf ⟨#[112, 51, 109, 49]⟩ n) := by
  have e : stdOf ⟨#[112, 51, 109, 49]⟩ n = some (1, [((-1, -1, 1, 0), 0, 0), ((0, 1, 1, 0), 0, 0)]) := by simp [stdOf]
  rw [e]
  unfold StdR
  simp only
  refine sp_of (m := no) mixed Tryz.func63 k63 ?_
  simp -dsimp [q, gs, vg]
  all_goals decide
theorem std_p31m (n : Int) : StdR 63 ⟨#[112, 51, 49, 109]⟩ n (stdOf ⟨#[112, 51, 49, 109]⟩ n) := by
  have e : stdOf ⟨#[112, 51, 49, 109]⟩ n = some (1, [((-1, -1, 1, 0), 0, 0), ((1, 1, 0, -1), 0, 0)]) := by simp [stdOf]
  rw [e]
  unfold StdR
  simp only
  refine sp_of (m := no) mixed Tryz.func63 k63 ?_
  simp -dsimp [q, gs, vg]
  all_goals decide
theorem std_p6 (n : Int) : StdR 63 ⟨#[112, 54]⟩ n (stdOf ⟨#[112, 54]⟩ n) := by
  have e : stdOf ⟨#[112, 54]⟩ n = some (1, [((0, -1, 1, 1), 0, 0)]) := by simp [stdOf]
  rw [e]
  unfold StdR
  simp only
  refine sp_of (m := no) mixed Tryz.func63 k63 ?_
  simp -dsimp [q, gs, vg]
  all_goals decide
theorem std_p6m (n : Int) : StdR 63 ⟨#[112, 54, 109]⟩ n (stdOf ⟨#[112, 54, 109]⟩ n) := by
  have e : stdOf ⟨#[112, 54, 109]⟩ n = some (1, [((0, -1, 1, 1), 0, 0), ((0, 1, 1, 0), 0, 0)]) := by simp [stdOf]
  rw [e]
  unfold StdR
  simp only
  refine sp_of (m := no) mixed Tryz.func63 k63 ?_
  simp -dsimp [q, gs, vg]
  all_goals decide
theorem std_no (s : ByteArray) (n : Int) (h0 : ¬ s = ⟨#[112, 49]⟩) (h1 : ¬ s = ⟨#[112, 50]⟩) (h2 : ¬ s = ⟨#[112, 109]⟩) (h3 : ¬ s = ⟨#[112, 103]⟩) (h4 : ¬ s = ⟨#[99, 109]⟩) (h5 : ¬ s = ⟨#[112, 109, 109]⟩) (h6 : ¬ s = ⟨#[112, 109, 103]⟩) (h7 : ¬ s = ⟨#[112, 103, 103]⟩) (h8 : ¬ s = ⟨#[99, 109, 109]⟩) (h9 : ¬ s = ⟨#[112, 52]⟩) (h10 : ¬ s = ⟨#[112, 52, 109]⟩) (h11 : ¬ s = ⟨#[112, 52, 103]⟩) (h12 : ¬ s = ⟨#[112, 51]⟩) (h13 : ¬ s = ⟨#[112, 51, 109, 49]⟩) (h14 : ¬ s = ⟨#[112, 51, 49, 109]⟩) (h15 : ¬ s = ⟨#[112, 54]⟩) (h16 : ¬ s = ⟨#[112, 54, 109]⟩) : StdR 63 s n (stdOf s n) := by
  have e : stdOf s n = none := by simp [stdOf, h0, h1, h2, h3, h4, h5, h6, h7, h8, h9, h10, h11, h12, h13, h14, h15, h16]
  rw [e]
  unfold StdR
  simp only
  refine sp_of (m := no) mixed Tryz.func63 k63 ?_
  simp -dsimp [q, h0, h1, h2, h3, h4, h5, h6, h7, h8, h9, h10, h11, h12, h13, h14, h15, h16]
  all_goals decide
theorem s_std (s : ByteArray) (n : Int) : StdR 63 s n (stdOf s n) := by
  by_cases h0 : s = ⟨#[112, 49]⟩
  · rw [h0]; exact std_p1 n
  by_cases h1 : s = ⟨#[112, 50]⟩
  · rw [h1]; exact std_p2 n
  by_cases h2 : s = ⟨#[112, 109]⟩
  · rw [h2]; exact std_pm n
  by_cases h3 : s = ⟨#[112, 103]⟩
  · rw [h3]; exact std_pg n
  by_cases h4 : s = ⟨#[99, 109]⟩
  · rw [h4]; exact std_cm n
  by_cases h5 : s = ⟨#[112, 109, 109]⟩
  · rw [h5]; exact std_pmm n
  by_cases h6 : s = ⟨#[112, 109, 103]⟩
  · rw [h6]; exact std_pmg n
  by_cases h7 : s = ⟨#[112, 103, 103]⟩
  · rw [h7]; exact std_pgg n
  by_cases h8 : s = ⟨#[99, 109, 109]⟩
  · rw [h8]; exact std_cmm n
  by_cases h9 : s = ⟨#[112, 52]⟩
  · rw [h9]; exact std_p4 n
  by_cases h10 : s = ⟨#[112, 52, 109]⟩
  · rw [h10]; exact std_p4m n
  by_cases h11 : s = ⟨#[112, 52, 103]⟩
  · rw [h11]; exact std_p4g n
  by_cases h12 : s = ⟨#[112, 51]⟩
  · rw [h12]; exact std_p3 n
  by_cases h13 : s = ⟨#[112, 51, 109, 49]⟩
  · rw [h13]; exact std_p3m1 n
  by_cases h14 : s = ⟨#[112, 51, 49, 109]⟩
  · rw [h14]; exact std_p31m n
  by_cases h15 : s = ⟨#[112, 54]⟩
  · rw [h15]; exact std_p6 n
  by_cases h16 : s = ⟨#[112, 54, 109]⟩
  · rw [h16]; exact std_p6m n
  exact std_no s n h0 h1 h2 h3 h4 h5 h6 h7 h8 h9 h10 h11 h12 h13 h14 h15 h16
end Go.Proofs.YtcnhcilpaplpcaaGreatDoorEv
namespace Go.Proofs.YtcnhcilpaplpcaaGreatDoorEv
open Go Go.Proofs
set_option maxRecDepth 10000
set_option maxHeartbeats 2000000
theorem sstd_p1 (n : Int) : StdR 60 ⟨#[112, 49]⟩ n (stdOf ⟨#[112, 49]⟩ n) := by
  have e : stdOf ⟨#[112, 49]⟩ n = some (0, []) := by simp [stdOf]
  rw [e]
  unfold StdR
  simp only
  refine sp_of (m := no) mixed Tryz.func60 k60 ?_
  simp -dsimp [q, gs, vg]
  all_goals decide
theorem sstd_p2 (n : Int) : StdR 60 ⟨#[112, 50]⟩ n (stdOf ⟨#[112, 50]⟩ n) := by
  have e : stdOf ⟨#[112, 50]⟩ n = some (0, [((-1, 0, 0, -1), 0, 0)]) := by simp [stdOf]
  rw [e]
  unfold StdR
  simp only
  refine sp_of (m := no) mixed Tryz.func60 k60 ?_
  simp -dsimp [q, gs, vg]
  all_goals decide
theorem sstd_pm (n : Int) : StdR 60 ⟨#[112, 109]⟩ n (stdOf ⟨#[112, 109]⟩ n) := by
  have e : stdOf ⟨#[112, 109]⟩ n = some (0, [((1, 0, 0, -1), 0, 0)]) := by simp [stdOf]
  rw [e]
  unfold StdR
  simp only
  refine sp_of (m := no) mixed Tryz.func60 k60 ?_
  simp -dsimp [q, gs, vg]
  all_goals decide
theorem sstd_pg (n : Int) : StdR 60 ⟨#[112, 103]⟩ n (stdOf ⟨#[112, 103]⟩ n) := by
  have e : stdOf ⟨#[112, 103]⟩ n = some (0, [((1, 0, 0, -1), n, 0)]) := by simp [stdOf]
  rw [e]
  unfold StdR
  simp only
  refine sp_of (m := no) mixed Tryz.func60 k60 ?_
  simp -dsimp [q, gs, vg]
  all_goals decide
theorem sstd_cm (n : Int) : StdR 60 ⟨#[99, 109]⟩ n (stdOf ⟨#[99, 109]⟩ n) := by
  have e : stdOf ⟨#[99, 109]⟩ n = some (0, [((0, 1, 1, 0), 0, 0)]) := by simp [stdOf]
  rw [e]
  unfold StdR
  simp only
  refine sp_of (m := no) mixed Tryz.func60 k60 ?_
  simp -dsimp [q, gs, vg]
  all_goals decide
theorem sstd_pmm (n : Int) : StdR 60 ⟨#[112, 109, 109]⟩ n (stdOf ⟨#[112, 109, 109]⟩ n) := by
  have e : stdOf ⟨#[112, 109, 109]⟩ n = some (0, [((1, 0, 0, -1), 0, 0), ((-1, 0, 0, -1), 0, 0)]) := by simp [stdOf]
  rw [e]
  unfold StdR
  simp only
  refine sp_of (m := no) mixed Tryz.func60 k60 ?_
  simp -dsimp [q, gs, vg]
  all_goals decide
theorem sstd_pmg (n : Int) : StdR 60 ⟨#[112, 109, 103]⟩ n (stdOf ⟨#[112, 109, 103]⟩ n) := by
  have e : stdOf ⟨#[112, 109, 103]⟩ n = some (0, [((1, 0, 0, -1), n, 0), ((-1, 0, 0, -1), 0, 0)]) := by simp [stdOf]
  rw [e]
  unfold StdR
  simp only
  refine sp_of (m := no) mixed Tryz.func60 k60 ?_
  simp -dsimp [q, gs, vg]
  all_goals decide
theorem sstd_pgg (n : Int) : StdR 60 ⟨#[112, 103, 103]⟩ n (stdOf ⟨#[112, 103, 103]⟩ n) := by
  have e : stdOf ⟨#[112, 103, 103]⟩ n = some (0, [((1, 0, 0, -1), n, n), ((-1, 0, 0, -1), 0, 0)]) := by simp [stdOf]
  rw [e]
  unfold StdR
  simp only
  refine sp_of (m := no) mixed Tryz.func60 k60 ?_
  simp -dsimp [q, gs, vg]
  all_goals decide
theorem sstd_cmm (n : Int) : StdR 60 ⟨#[99, 109, 109]⟩ n (stdOf ⟨#[99, 109, 109]⟩ n) := by
  have e : stdOf ⟨#[99, 109, 109]⟩ n = some (0, [((0, 1, 1, 0), 0, 0), ((-1, 0, 0, -1), 0, 0)]) := by simp [stdOf]
  rw [e]
  unfold StdR
  simp only
  refine sp_of (m := no) mixed Tryz.func60 k60 ?_
  simp -dsimp [q, gs, vg]
  all_goals decide
theorem sstd_p4 (n : Int) : StdR 60 ⟨#[112, 52]⟩ n (stdOf ⟨#[112, 52]⟩ n) := by
  have e : stdOf ⟨#[112, 52]⟩ n = some (0, [((0, -1, 1, 0), 0, 0)]) := by simp [stdOf]
  rw [e]
  unfold StdR
  simp only
  refine sp_of (m := no) mixed Tryz.func60 k60 ?_
  simp -dsimp [q, gs, vg]
  all_goals decide
theorem sstd_p4m (n : Int) : StdR 60 ⟨#[112, 52, 109]⟩ n (stdOf ⟨#[112, 52, 109]⟩ n) := by
  have e : stdOf ⟨#[112, 52, 109]⟩ n = some (0, [((0, -1, 1, 0), 0, 0), ((1, 0, 0, -1), 0, 0)]) := by simp [stdOf]
  rw [e]
  unfold StdR
  simp only
  refine sp_of (m := no) mixed Tryz.func60 k60 ?_
  simp -dsimp [q, gs, vg]
  all_goals decide
theorem sstd_p4g (n : Int) : StdR 60 ⟨#[112, 52, 103]⟩ n (stdOf ⟨#[112, 52, 103]⟩ n) := by
  have e : stdOf ⟨#[112, 52, 103]⟩ n = some (0, [((0, -1, 1, 0), 0, 0), ((1, 0, 0, -1), n, n)]) := by simp [stdOf]
  rw [e]
  unfold StdR
  simp only
  refine sp_of (m := no) mixed Tryz.func60 k60 ?_
  simp -dsimp [q, gs, vg]
  all_goals decide
theorem sstd_p3 (n : Int) : StdR 60 ⟨#[112, 51]⟩ n (stdOf ⟨#[112, 51]⟩ n) := by
  have e : stdOf ⟨#[112, 51]⟩ n = some (1, [((-1, -1, 1, 0), 0, 0)]) := by simp [stdOf]
  rw [e]
  unfold StdR
  simp only
  refine sp_of (m := no) mixed Tryz.func60 k60 ?_
  simp -dsimp [q, gs, vg]
  all_goals decide
theorem sstd_p3m1 (n : Int) : StdR 60 ⟨#[112, 51, 109, 49]⟩ n (stdOf ⟨#[112, 51, 109, 49]⟩ n) := by
  have e : stdOf ⟨#[112, 51, 109, 49]⟩ n = some (1, [((-1, -1, 1, 0), 0, 0), ((0, 1, 1, 0), 0, 0)]) := by simp [stdOf]
  rw [e]
  unfold StdR
  simp only
  refine sp_of (m := no) mixed Tryz.func60 k60 ?_
  simp -dsimp [q, gs, vg]
  all_goals decide
theorem sstd_p31m (n : Int) : StdR 60 ⟨#[112, 51, 49, 109]⟩ n (stdOf ⟨#[112, 51, 49, 109]⟩ n) := by
  have e : stdOf ⟨#[112, 51, 49, 109]⟩ n = some (1, [((-1, -1, 1, 0), 0, 0), ((1, 1, 0, -1), 0, 0)]) := by simp [stdOf]
  rw [e]
  unfold StdR
  simp only
  refine sp_of (m := no) mixed Tryz.func60 k60 ?_
  simp -dsimp [q, gs, vg]
  all_goals decide
theorem sstd_p6 (n : Int) : StdR 60 ⟨#[112, 54]⟩ n (stdOf ⟨#[112, 54]⟩ n) := by
  have e : stdOf ⟨#[112, 54]⟩ n = some (1, [((0, -1, 1, 1), 0, 0)]) := by simp [stdOf]
  rw [e]
  unfold StdR
  simp only
  refine sp_of (m := no) mixed Tryz.func60 k60 ?_
  simp -dsimp [q, gs, vg]
  all_goals decide
theorem sstd_p6m (n : Int) : StdR 60 ⟨#[112, 54, 109]⟩ n (stdOf ⟨#[112, 54, 109]⟩ n) := by
  have e : stdOf ⟨#[112, 54, 109]⟩ n = some (1, [((0, -1, 1, 1), 0, 0), ((0, 1, 1, 0), 0, 0)]) := by simp [stdOf]
  rw [e]
  unfold StdR
  simp only
  refine sp_of (m := no) mixed Tryz.func60 k60 ?_
  simp -dsimp [q, gs, vg]
  all_goals decide
theorem sstd_no (s : ByteArray) (n : Int) (h0 : ¬ s = ⟨#[112, 49]⟩) (h1 : ¬ s = ⟨#[112, 50]⟩) (h2 : ¬ s = ⟨#[112, 109]⟩) (h3 : ¬ s = ⟨#[112, 103]⟩) (h4 : ¬ s = ⟨#[99, 109]⟩) (h5 : ¬ s = ⟨#[112, 109, 109]⟩) (h6 : ¬ s = ⟨#[112, 109, 103]⟩) (h7 : ¬ s = ⟨#[112, 103, 103]⟩) (h8 : ¬ s = ⟨#[99, 109, 109]⟩) (h9 : ¬ s = ⟨#[112, 52]⟩) (h10 : ¬ s = ⟨#[112, 52, 109]⟩) (h11 : ¬ s = ⟨#[112, 52, 103]⟩) (h12 : ¬ s = ⟨#[112, 51]⟩) (h13 : ¬ s = ⟨#[112, 51, 109, 49]⟩) (h14 : ¬ s = ⟨#[112, 51, 49, 109]⟩) (h15 : ¬ s = ⟨#[112, 54]⟩) (h16 : ¬ s = ⟨#[112, 54, 109]⟩) : StdR 60 s n (stdOf s n) := by
  have e : stdOf s n = none := by simp [stdOf, h0, h1, h2, h3, h4, h5, h6, h7, h8, h9, h10, h11, h12, h13, h14, h15, h16]
  rw [e]
  unfold StdR
  simp only
  refine sp_of (m := no) mixed Tryz.func60 k60 ?_
  simp -dsimp [q, h0, h1, h2, h3, h4, h5, h6, h7, h8, h9, h10, h11, h12, h13, h14, h15, h16]
  all_goals decide
theorem s_sstd (s : ByteArray) (n : Int) : StdR 60 s n (stdOf s n) := by
  by_cases h0 : s = ⟨#[112, 49]⟩
  · rw [h0]; exact sstd_p1 n
  by_cases h1 : s = ⟨#[112, 50]⟩
  · rw [h1]; exact sstd_p2 n
  by_cases h2 : s = ⟨#[112, 109]⟩
  · rw [h2]; exact sstd_pm n
  by_cases h3 : s = ⟨#[112, 103]⟩
  · rw [h3]; exact sstd_pg n
  by_cases h4 : s = ⟨#[99, 109]⟩
  · rw [h4]; exact sstd_cm n
  by_cases h5 : s = ⟨#[112, 109, 109]⟩
  · rw [h5]; exact sstd_pmm n
  by_cases h6 : s = ⟨#[112, 109, 103]⟩
  · rw [h6]; exact sstd_pmg n
  by_cases h7 : s = ⟨#[112, 103, 103]⟩
  · rw [h7]; exact sstd_pgg n
  by_cases h8 : s = ⟨#[99, 109, 109]⟩
  · rw [h8]; exact sstd_cmm n
  by_cases h9 : s = ⟨#[112, 52]⟩
  · rw [h9]; exact sstd_p4 n
  by_cases h10 : s = ⟨#[112, 52, 109]⟩
  · rw [h10]; exact sstd_p4m n
  by_cases h11 : s = ⟨#[112, 52, 103]⟩
  · rw [h11]; exact sstd_p4g n
  by_cases h12 : s = ⟨#[112, 51]⟩
  · rw [h12]; exact sstd_p3 n
  by_cases h13 : s = ⟨#[112, 51, 109, 49]⟩
  · rw [h13]; exact sstd_p3m1 n
  by_cases h14 : s = ⟨#[112, 51, 49, 109]⟩
  · rw [h14]; exact sstd_p31m n
  by_cases h15 : s = ⟨#[112, 54]⟩
  · rw [h15]; exact sstd_p6 n
  by_cases h16 : s = ⟨#[112, 54, 109]⟩
  · rw [h16]; exact sstd_p6m n
  exact sstd_no s n h0 h1 h2 h3 h4 h5 h6 h7 h8 h9 h10 h11 h12 h13 h14 h15 h16
end Go.Proofs.YtcnhcilpaplpcaaGreatDoorEv
namespace Go.Proofs.YtcnhcilpaplpcaaGreatDoorEv
open Go Go.Proofs
set_option maxRecDepth 10000
set_option maxHeartbeats 2000000
theorem fA_of {α : Type} {o : Option α} {K : α → Prop} {y : α} (h : o = some y) (k : K y) : fA o K := by rw [h, fA_some]; exact k
def len8 (x : Nat) : Int := ([0, 1, 2, 2, 3, 3, 3, 3, 4, 4, 4, 4, 4] : List Int).getD x 0
theorem s_len64 (x : Nat) (h : x ≤ 12) : Sp Tryz.prog 143 [.v (.int .u64 x)] (vi (len8 x)) [] := by
  have hx : x = 0 ∨ x = 1 ∨ x = 2 ∨ x = 3 ∨ x = 4 ∨ x = 5 ∨ x = 6 ∨ x = 7 ∨ x = 8 ∨ x = 9 ∨ x = 10 ∨ x = 11 ∨ x = 12 := by omega
  refine sp_of (m := no) mixed Tryz.func143 k143 ?_
  rcases hx with rfl | rfl | rfl | rfl | rfl | rfl | rfl | rfl | rfl | rfl | rfl | rfl | rfl
  all_goals
    simp -dsimp [q, len8]
    refine ⟨⟨by decide, by decide⟩, ?_⟩
    first
      | refine fA_of (y := 0) (by decide) ?_
      | refine fA_of (y := 1) (by decide) ?_
      | refine fA_of (y := 2) (by decide) ?_
      | refine fA_of (y := 3) (by decide) ?_
      | refine fA_of (y := 4) (by decide) ?_
    rw [hd_app]
    simp -dsimp [q]
    try decide
theorem s_len (x : Nat) (h : x ≤ 12) : Sp Tryz.prog 111 [.v (.int .u64 x)] (vi (len8 x)) [] := by
  refine sp_of (m := no) mixed Tryz.func111 k111 ?_
  simp -dsimp [q]
  refine call_of (s_len64 x h) rfl (by simp) ?_
  try simp -dsimp
  try (first | exact fp_one (by decide) | refine fp_and (by decide) ?_)
theorem s_insS (l : List G6) (t : Nat) (h : l.length ≤ 12) : SpG Tryz.prog 134 [.sli 0, vi 0, vi l.length, .fn 86 []] [.row 6 t (gs l)] (.tu []) [.row 6 t (gs (outr l.length l))] := by
  refine sg_of (m := no) mixed Tryz.func134 k134 ?_
  simp -dsimp [q]
  refine awp_it (true :: true :: true :: true :: false :: false :: false :: false :: true :: []) (fun s : Nat × List G6 => [(8, vi s.1)]) (fun s => [(0, .row 6 t (gs s.2))]) (fun s => s.2.length = l.length ∧ 1 ≤ s.1 ∧ (s.1 ≤ l.length ∨ s.1 = 1) ∧ outr s.1 l = s.2) (fun s => l.length - s.1) (1, l) ?_
  intro s0 e
  simp -dsimp at e
  subst e
  refine ⟨?_, ?_⟩
  · simp [outr]
    decide
  rintro ⟨i, r⟩ ⟨h1, h2, h3, h4⟩
  simp only at h1 h2 h3 h4
  by_cases hi : i < l.length
  case neg =>
    have e : outr l.length l = r := by
      rcases h3 with h3 | h3
      · rw [← h4, show i = l.length by omega]
      · subst h3
        rw [← h4]
        have : l.length = 0 ∨ l.length = 1 := by omega
        rcases this with e | e <;> rw [e] <;> rfl
    simp -dsimp [show ¬ ((i : Int) < l.length) by omega, e]
  simp -dsimp [show ((i : Int) < l.length) by omega]
  refine awp_it (true :: true :: true :: true :: false :: false :: false :: false :: true :: true :: []) (fun s : Nat × List G6 => [(9, vi s.1)]) (fun s => [(0, .row 6 t (gs s.2))]) (fun s => s.2.length = l.length ∧ s.1 ≤ i ∧ innr s.1 s.2 = innr i r) (fun s => s.1) (i, r) ?_
  intro s0 e
  simp -dsimp at e
  subst e
  refine ⟨?_, ?_⟩
  · simp [h1]
  rintro ⟨j, r'⟩ ⟨k1, k2, k3⟩
  simp only at k1 k2 k3
  have nx : ∀ r', innr i r = r' → outr (i + 1) l = r' := fun r' e => by
    obtain ⟨i', rfl⟩ : ∃ i', i = i' + 1 := ⟨i - 1, by omega⟩
    rw [outr, h4, e]
  by_cases hj : 0 < j
  case neg =>
    obtain rfl : j = 0 := by omega
    have e := nx r' k3.symm
    simp -dsimp [-Prod.forall, -Prod.exists]
    exact ⟨(i + 1, r'), ⟨by rw [w64 (by omega) (by omega)]; simp, rfl⟩, ⟨k1, by simp, .inl (by simp only; omega), e⟩, by simp only; omega⟩
  obtain ⟨j, rfl⟩ : ∃ j', j = j' + 1 := ⟨j - 1, by omega⟩
  have e1 : IntKind.i64.wrap (j : Int) = j := w64 (by omega) (by omega)
  simp -dsimp [e1, -Prod.forall, -Prod.exists]
  refine ⟨⟨by omega, by omega⟩, by omega, fun b hb => ⟨by omega, fun a ha => ?_⟩⟩
  obtain ⟨k, wk, hk⟩ := s_cmpG b a
  have st := innr_step hb ha
  have hb' : (gs r')[j + 1]? = some (vg b) := by simp [gs, hb]
  have ha' : (gs r')[j]? = some (vg a) := by simp [gs, ha]
  refine call_of (wk) rfl (by simp) ?_
  try simp -dsimp
  try (first | exact fp_one (by decide) | refine fp_and (by decide) ?_)
  refine ⟨fun hk0 => ?_, fun hk0 => ?_⟩
  · have hlt : ltG b a = true := by
      cases e : ltG b a with
      | true => rfl
      | false => have := hk.2 e; omega
    rw [if_pos hlt] at st
    clear hb' ha' wk
    rw [e1, Int.toNat_natCast]
    refine ⟨⟨by omega, by omega⟩, by omega, fun x1 x2 x3 x4 x5 x6 hx => ?_⟩
    rw [ha] at hx
    cases hx
    refine ⟨⟨by omega, by omega⟩, by omega, fun y1 y2 y3 y4 y5 y6 hy => ?_⟩
    rw [hb] at hy
    cases hy
    exact ⟨⟨by omega, by omega⟩, by omega, ⟨by omega, by omega⟩, by omega, by decide, j, _, ⟨rfl, rfl⟩, ⟨by simp [k1], by omega, by rw [← k3, st]; rfl⟩, by omega⟩
  · have hlt : ltG b a = false := hk.1 (by omega)
    rw [if_neg (by rw [hlt]; simp)] at st
    have e := nx r' (by rw [← k3, st])
    exact ⟨i + 1, r', ⟨by rw [w64 (by omega) (by omega)]; simp, rfl⟩, ⟨k1, by omega, .inl (by omega), e⟩, by omega⟩
theorem s_pdq (l : List G6) (t : Nat) (lim : Int) (h : l.length ≤ 12) : SpG Tryz.prog 110 [.sli 0, vi 0, vi l.length, vi lim, .fn 86 []] [.row 6 t (gs l)] (.tu []) [.row 6 t (gs (outr l.length l))] := by
  refine sg_of (m := fun f => f == 134) mixed Tryz.func110 k110 ?_
  simp -dsimp [q]
  refine awp_it (true :: true :: true :: true :: true :: false :: false :: false :: false :: false :: true :: true :: []) (fun i : Nat => []) (fun i => []) (fun i => i = 0) (fun i => 0) 0 ?_
  intro s0 e
  simp -dsimp at e
  subst e
  refine ⟨?_, ?_⟩
  · simp
  rintro i rfl
  have e1 : IntKind.i64.wrap (l.length : Int) = l.length := w64 (by omega) (by omega)
  simp -dsimp [e1, show (l.length : Int) ≤ 12 by omega]
  refine callM_of rfl (s_insS l t h) (by simp) ?_
  try simp -dsimp
  try (first | exact fp_one (by decide) | refine fp_and (by decide) ?_)
theorem s_sort (l : List G6) (t : Nat) (h : l.length ≤ 12) : SpG Tryz.prog 85 [.sli 0, .fn 86 []] [.row 6 t (gs l)] (.tu []) [.row 6 t (gs (outr l.length l))] := by
  refine sg_of (m := fun f => f == 110) mixed Tryz.func85 k85 ?_
  have e1 : IntKind.u64.wrap (l.length : Int) = l.length := by
    have : l.length = 0 ∨ l.length = 1 ∨ l.length = 2 ∨ l.length = 3 ∨ l.length = 4 ∨ l.length = 5 ∨ l.length = 6 ∨ l.length = 7 ∨ l.length = 8 ∨ l.length = 9 ∨ l.length = 10 ∨ l.length = 11 ∨ l.length = 12 := by omega
    rcases this with e | e | e | e | e | e | e | e | e | e | e | e | e <;> rw [e] <;> rfl
  simp -dsimp [q, e1]
  refine call_of (s_len l.length h) rfl (by simp) ?_
  try simp -dsimp
  try (first | exact fp_one (by decide) | refine fp_and (by decide) ?_)
  refine callM_of rfl (s_pdq l t (len8 l.length) h) (by simp) ?_
  try simp -dsimp
  try (first | exact fp_one (by decide) | refine fp_and (by decide) ?_)
/-! closing, as the program does it -/
theorem s_close (n : Int) (L S : List G6) (hn : 1 ≤ n ∧ n ≤ 4) (c : Clo n L S) : Sp Tryz.prog 64 [aL (2 * n) 0 (2 * n), .v (vgs L)] (.sli 0) [.row 6 116 (gs (outr (grpL n L).length (grpL n L)))] := by
  refine sp_of (m := fun f => f == 85) mixed Tryz.func64 k64 ?_
  simp -dsimp [q]
  refine call_of (s_unit) rfl (by simp) ?_
  try simp -dsimp
  try (first | exact fp_one (by decide) | refine fp_and (by decide) ?_)
  refine ⟨(gE_keyed [] 1 0 0 1 0 0).2 trivial, ?_⟩
  have hmem : ∀ g, memG (2 * n) (2 * n) g → oneM g.1 ∧ g.2.1.natAbs ≤ 1000 ∧ g.2.2.natAbs ≤ 1000 := fun g ⟨g1, g2, g3⟩ => ⟨g1, by omega, by omega⟩
  have hlen := c.len2
  refine awp_it (false :: true :: true :: false :: false :: true :: true :: true :: []) (fun s : Nat × List G6 => [(7, vi s.1)]) (fun s => [(1, .row 6 116 (gs s.2)), (2, .map [] (gE s.2))]) (fun s => Gd S s.2 ∧ s.1 ≤ s.2.length ∧ bfs n L (13 - s.1) s.1 s.2 = grpL n L) (fun s => 13 - s.1) (0, [unG]) ?_
  intro s0 e
  simp -dsimp at e
  subst e
  refine ⟨?_, ?_⟩
  · exact ⟨by simp [gs, gE, vg, mput], Gd.one c, by simp, rfl⟩
  rintro ⟨k, O⟩ ⟨h1, h2, h3⟩
  simp only at h1 h2 h3
  have hO := h1.len c
  by_cases hk : k < O.length
  case neg =>
    have e : O = grpL n L := by rw [← h3, bfs_end _ _ _ _ _ (by omega)]
    simp -dsimp [show ¬ ((k : Int) < O.length) by omega, -Prod.forall, -Prod.exists]
    rw [e] at hO ⊢
    refine callM_of rfl (s_sort (grpL n L) 116 hO) (by simp) ?_
    try simp -dsimp
    try (first | exact fp_one (by decide) | refine fp_and (by decide) ?_)
  obtain ⟨g, hg⟩ : ∃ g, O[k]? = some g := ⟨_, List.getElem?_eq_getElem hk⟩
  have hgS := h1.sub g (List.mem_of_getElem? hg)
  rw [show 13 - k = (12 - k) + 1 by omega, bfs_step n L _ k O g hg] at h3
  simp -dsimp [show ((k : Int) < O.length) by omega, -Prod.forall, -Prod.exists]
  refine awp_it (false :: true :: true :: false :: false :: true :: true :: true :: false :: false :: false :: false :: false :: false :: false :: false :: false :: false :: false :: false :: false :: false :: false :: false :: false :: true :: true :: true :: []) (fun s : Nat × List G6 => [(27, vi s.1)]) (fun s => [(1, .row 6 116 (gs s.2)), (2, .map [] (gE s.2))]) (fun s => Gd S s.2 ∧ s.2[k]? = some g ∧ s.1 ≤ L.length ∧ (L.drop s.1).foldl (addG n g) s.2 = L.foldl (addG n g) O) (fun s => L.length - s.1) (0, O) ?_
  intro s0 e
  simp -dsimp at e
  subst e
  refine ⟨?_, ?_⟩
  · exact ⟨by simp, h1, hg, by simp, rfl⟩
  rintro ⟨i, O'⟩ ⟨k1, k2, k3, k4⟩
  simp only at k1 k2 k3 k4
  have hO' := k1.len c
  by_cases hi : i < L.length
  case neg =>
    rw [List.drop_of_length_le (by omega), List.foldl_nil] at k4
    simp -dsimp [show ¬ ((i : Int) < L.length) by omega, -Prod.forall, -Prod.exists]
    have hkl := (List.getElem?_eq_some_iff.1 k2).1
    exact ⟨(k + 1, O'), ⟨by rw [w64 (by omega) (by omega)]; simp, rfl, rfl⟩, ⟨k1, by simp only; omega, by simp only; rw [k4, ← h3, show 13 - (k + 1) = 12 - k by omega]⟩, by simp only; omega⟩
  obtain ⟨m, hm⟩ : ∃ m, L[i]? = some m := ⟨_, List.getElem?_eq_getElem hi⟩
  have hmL := List.mem_of_getElem? hm
  have ga := k1.add c hmL hgS
  have mg := hmem m (c.sl m hmL)
  have kg := hmem g (c.sm g hgS)
  have kd : (L.drop (i + 1)).foldl (addG n g) (addG n g O' m) = L.foldl (addG n g) O := by
    rw [← k4]
    conv => rhs; rw [List.drop_eq_getElem_cons hi, List.foldl_cons]
    rw [(List.getElem?_eq_some_iff.1 hm).2]
  simp -dsimp [show ((i : Int) < L.length) by omega, -Prod.forall, -Prod.exists]
  refine fun m' hm' => ?_
  rw [hm] at hm'
  cases hm'
  have hkl := (List.getElem?_eq_some_iff.1 k2).1
  refine ⟨hkl, fun g' hg' => ?_⟩
  rw [k2] at hg'
  cases hg'
  refine call_of (s_gmul m g mg kg) rfl (by simp) ?_
  try simp -dsimp
  try (first | exact fp_one (by decide) | refine fp_and (by decide) ?_)
  have q1 := mul_bd mg.1.1.1 kg.2.1
  have q2 := mul_bd mg.1.1.2 kg.2.2
  have q3 := mul_bd mg.1.2.1 kg.2.1
  have q4 := mul_bd mg.1.2.2 kg.2.2
  obtain ⟨_, mg2, mg3⟩ := mg
  refine call_of (s_gred (2 * n) 0 (2 * n) (mulG m g) (by omega) (by omega) (by omega) (by simp only [mulG]; omega) (by simp only [mulG]; omega)) rfl (by simp) ?_
  try simp -dsimp
  try (first | exact fp_one (by decide) | refine fp_and (by decide) ?_)
  have ad : addG n g O' m = if redG (2 * n) 0 (2 * n) (mulG m g) ∈ O' then O' else O' ++ [redG (2 * n) 0 (2 * n) (mulG m g)] := rfl
  have gk := addG_get (n := n) (g := g) (m := m) k2
  generalize redG (2 * n) 0 (2 * n) (mulG m g) = p at *
  obtain ⟨⟨p1, p2, p3, p4⟩, p5, p6⟩ := p
  simp only
  refine ⟨fun hno => ⟨⟨by omega, by omega⟩, i + 1, _, ⟨by rw [w64 (by omega) (by omega)]; simp, rfl, by rw [if_neg hno]⟩, ?_, by omega⟩, fun hyes => ⟨i + 1, _, ⟨by rw [w64 (by omega) (by omega)]; simp, rfl, rfl⟩, ?_, by omega⟩⟩
  · rw [if_neg hno] at ad
    rw [← ad]
    exact ⟨ga, gk, by omega, kd⟩
  · rw [if_pos hyes] at ad
    rw [ad] at ga gk kd
    exact ⟨ga, gk, by omega, kd⟩
end Go.Proofs.YtcnhcilpaplpcaaGreatDoorEv
namespace Go.Proofs.YtcnhcilpaplpcaaGreatDoorEv
open Go Go.Proofs
set_option maxRecDepth 10000
set_option maxHeartbeats 2000000
theorem s_sins (l : List G6) (m : G6) (hs : srt l) (hl : l.length ≤ 1000) (hm : m ∉ l) : Sp Tryz.prog 81 [.v (vgs l), aG6 m] (.sli 0) [.row 6 116 (gs (insG l m))] := by
  refine sp_of (m := no) mixed Tryz.func81 k81 ?_
  have hp := plc_has (m := m) hs
  have hpl : plc l m ≤ l.length := List.findIdx_le_length
  have e0 : gs (insG l m) = gs (List.take (plc l m) l ++ [((m.1.1, m.1.2.1, m.1.2.2.1, m.1.2.2.2), m.2.1, m.2.2)]) ++ gs (List.take (l.length - plc l m) (List.drop (plc l m) l)) := by
    rw [gs_app2, show List.take (l.length - plc l m) (List.drop (plc l m) l) = List.drop (plc l m) l from List.take_of_length_le (by simp)]
    simp [insG]
  simp -dsimp [q, -Prod.forall, -Prod.exists]
  refine call_of (s_place l m hs (by omega)) rfl (by simp) ?_
  try simp -dsimp
  try (first | exact fp_one (by decide) | refine fp_and (by decide) ?_)
  refine ⟨fun hlt => ⟨hlt, fun a1 a2 a3 a4 a5 a6 hx => ⟨?_, fun _ => ⟨by omega, ⟨by omega, by omega⟩, ⟨by omega, by omega⟩, by omega, ⟨by omega, by omega⟩, by decide, e0⟩⟩⟩, fun hge => ⟨by omega, ⟨by omega, by omega⟩, ⟨by omega, by omega⟩, by omega, ⟨by omega, by omega⟩, by decide, e0⟩⟩
  rintro rfl rfl rfl rfl rfl rfl
  exact hm (hp.1 ⟨hlt, hx⟩)
theorem s_sclose (n : Int) (L S : List G6) (hn : 1 ≤ n ∧ n ≤ 4) (c : Clo n L S) : Sp Tryz.prog 61 [aL (2 * n) 0 (2 * n), .v (vgs L)] (.sli 0) [.row 6 116 (gs (srtL (grpL n L)))] := by
  refine sp_of (m := no) mixed Tryz.func61 k61 ?_
  simp -dsimp [q]
  refine call_of (s_sun) rfl (by simp) ?_
  try simp -dsimp
  try (first | exact fp_one (by decide) | refine fp_and (by decide) ?_)
  refine call_of (s_sun) rfl (by simp) ?_
  try simp -dsimp
  try (first | exact fp_one (by decide) | refine fp_and (by decide) ?_)
  have hmem : ∀ g, memG (2 * n) (2 * n) g → oneM g.1 ∧ g.2.1.natAbs ≤ 1000 ∧ g.2.2.natAbs ≤ 1000 := fun g ⟨g1, g2, g3⟩ => ⟨g1, by omega, by omega⟩
  have hlen := c.len2
  refine awp_it (false :: true :: true :: false :: false :: true :: true :: true :: []) (fun s : Nat × List G6 => [(7, vi s.1)]) (fun s => [(1, .row 6 116 (gs (srtL s.2))), (2, .row 6 116 (gs s.2))]) (fun s => Gd S s.2 ∧ s.1 ≤ s.2.length ∧ bfs n L (13 - s.1) s.1 s.2 = grpL n L) (fun s => 13 - s.1) (0, [unG]) ?_
  intro s0 e
  simp -dsimp at e
  subst e
  refine ⟨?_, ?_⟩
  · exact ⟨by simp [gs, vg, srtL, insG, plc], Gd.one c, by simp, rfl⟩
  rintro ⟨k, O⟩ ⟨h1, h2, h3⟩
  simp only at h1 h2 h3
  have hO := h1.len c
  by_cases hk : k < O.length
  case neg =>
    have e : O = grpL n L := by rw [← h3, bfs_end _ _ _ _ _ (by omega)]
    have hk2 : ¬ ((k : Int) < (grpL n L).length) := by rw [← e]; omega
    simp -dsimp [hk2, -Prod.forall, -Prod.exists, e]
  obtain ⟨g, hg⟩ : ∃ g, O[k]? = some g := ⟨_, List.getElem?_eq_getElem hk⟩
  have hgS := h1.sub g (List.mem_of_getElem? hg)
  rw [show 13 - k = (12 - k) + 1 by omega, bfs_step n L _ k O g hg] at h3
  simp -dsimp [show ((k : Int) < O.length) by omega, -Prod.forall, -Prod.exists]
  refine awp_it (false :: true :: true :: false :: false :: true :: true :: true :: true :: []) (fun s : Nat × List G6 => [(8, vi s.1)]) (fun s => [(1, .row 6 116 (gs (srtL s.2))), (2, .row 6 116 (gs s.2))]) (fun s => Gd S s.2 ∧ s.2[k]? = some g ∧ s.1 ≤ L.length ∧ (L.drop s.1).foldl (addG n g) s.2 = L.foldl (addG n g) O) (fun s => L.length - s.1) (0, O) ?_
  intro s0 e
  simp -dsimp at e
  subst e
  refine ⟨?_, ?_⟩
  · exact ⟨by simp, h1, hg, by simp, rfl⟩
  rintro ⟨i, O'⟩ ⟨k1, k2, k3, k4⟩
  simp only at k1 k2 k3 k4
  have hO' := k1.len c
  by_cases hi : i < L.length
  case neg =>
    rw [List.drop_of_length_le (by omega), List.foldl_nil] at k4
    simp -dsimp [show ¬ ((i : Int) < L.length) by omega, -Prod.forall, -Prod.exists]
    have hkl := (List.getElem?_eq_some_iff.1 k2).1
    exact ⟨(k + 1, O'), ⟨by rw [w64 (by omega) (by omega)]; simp, rfl, rfl⟩, ⟨k1, by simp only; omega, by simp only; rw [k4, ← h3, show 13 - (k + 1) = 12 - k by omega]⟩, by simp only; omega⟩
  obtain ⟨m, hm⟩ : ∃ m, L[i]? = some m := ⟨_, List.getElem?_eq_getElem hi⟩
  have hmL := List.mem_of_getElem? hm
  have ga := k1.add c hmL hgS
  have mg := hmem m (c.sl m hmL)
  have kg := hmem g (c.sm g hgS)
  have kd : (L.drop (i + 1)).foldl (addG n g) (addG n g O' m) = L.foldl (addG n g) O := by
    rw [← k4]
    conv => rhs; rw [List.drop_eq_getElem_cons hi, List.foldl_cons]
    rw [(List.getElem?_eq_some_iff.1 hm).2]
  have hkl := (List.getElem?_eq_some_iff.1 k2).1
  simp -dsimp [show ((i : Int) < L.length) by omega, -Prod.forall, -Prod.exists]
  refine fun m' hm' => ?_
  rw [hm] at hm'
  cases hm'
  refine ⟨hkl, fun g' hg' => ?_⟩
  rw [k2] at hg'
  cases hg'
  refine call_of (s_sgmul m g mg kg) rfl (by simp) ?_
  try simp -dsimp
  try (first | exact fp_one (by decide) | refine fp_and (by decide) ?_)
  have q1 := mul_bd mg.1.1.1 kg.2.1
  have q2 := mul_bd mg.1.1.2 kg.2.2
  have q3 := mul_bd mg.1.2.1 kg.2.1
  have q4 := mul_bd mg.1.2.2 kg.2.2
  obtain ⟨_, mg2, mg3⟩ := mg
  refine call_of (s_sgred (2 * n) 0 (2 * n) (mulG m g) (by omega) (by omega) (by omega) (by simp only [mulG]; omega) (by simp only [mulG]; omega)) rfl (by simp) ?_
  try simp -dsimp
  try (first | exact fp_one (by decide) | refine fp_and (by decide) ?_)
  have ad : addG n g O' m = if redG (2 * n) 0 (2 * n) (mulG m g) ∈ O' then O' else O' ++ [redG (2 * n) 0 (2 * n) (mulG m g)] := rfl
  have gk := addG_get (n := n) (g := g) (m := m) k2
  generalize redG (2 * n) 0 (2 * n) (mulG m g) = p at *
  have hsr := srtL_srt k1.nd
  have hsl := srtL_len O'
  have hsm := srtL_mem (Q := O') (x := p)
  have hsa := srtL_app O' p
  refine call_of (s_shas (srtL O') p hsr (by omega)) rfl (by simp) ?_
  try simp -dsimp
  try (first | exact fp_one (by decide) | refine fp_and (by decide) ?_)
  refine ⟨fun hno => ?_, fun hyes => ⟨i + 1, O', ⟨by rw [w64 (by omega) (by omega)]; simp, rfl, rfl⟩, ?_, by omega⟩⟩
  · rw [if_neg (fun hin => hno (hsm.2 hin))] at ad
    rw [ad] at ga gk kd
    refine call_of (s_sins (srtL O') p hsr (by omega) hno) rfl (by simp) ?_
    try simp -dsimp
    try (first | exact fp_one (by decide) | refine fp_and (by decide) ?_)
    exact ⟨⟨by omega, by omega⟩, i + 1, O' ++ [p], ⟨by rw [w64 (by omega) (by omega)]; simp, hsa.symm, rfl⟩, ⟨ga, gk, by omega, kd⟩, by omega⟩
  · rw [if_pos (hsm.1 hyes)] at ad
    rw [ad] at ga gk kd
    exact ⟨ga, gk, by omega, kd⟩
end Go.Proofs.YtcnhcilpaplpcaaGreatDoorEv
namespace Go.Proofs.YtcnhcilpaplpcaaGreatDoorEv
open Go Go.Proofs
set_option maxRecDepth 10000
set_option maxHeartbeats 2000000
theorem s_SG_no (s : ByteArray) (n : Int) (h : stdOf s n = none) : Sp Tryz.prog 44 [.v (.str s), vi n] (.tu [vi 0, aL 0 0 0, .nil 6, vi 4]) [] := by
  refine sp_of (m := no) mixed Tryz.func44 k44 ?_
  have w := s_std s n
  rw [h] at w
  unfold StdR at w
  simp only at w
  simp -dsimp [q]
  refine call_of (w) rfl (by simp) ?_
  try simp -dsimp
  try (first | exact fp_one (by decide) | refine fp_and (by decide) ?_)
theorem s_SG_far (s : ByteArray) (n f : Int) (L : List G6) (h : stdOf s n = some (f, L)) (hn : ¬ (1 ≤ n ∧ n ≤ 4)) : Sp Tryz.prog 44 [.v (.str s), vi n] (.tu [vi 0, aL 0 0 0, .nil 6, vi 2]) [] := by
  refine sp_of (m := no) mixed Tryz.func44 k44 ?_
  have w := s_std s n
  have w2 := s_within n 1 4
  rw [decide_eq_false hn] at w2
  rw [h] at w
  unfold StdR at w
  simp -dsimp [q]
  cases L with
  | nil =>
    simp only at w
    refine call_of (w) rfl (by simp) ?_
    try simp -dsimp
    try (first | exact fp_one (by decide) | refine fp_and (by decide) ?_)
    refine call_of (w2) rfl (by simp) ?_
    try simp -dsimp
    try (first | exact fp_one (by decide) | refine fp_and (by decide) ?_)
  | cons x L =>
    simp only at w
    refine call_of (w) rfl (by simp) ?_
    try simp -dsimp
    try (first | exact fp_one (by decide) | refine fp_and (by decide) ?_)
    refine call_of (w2) rfl (by simp) ?_
    try simp -dsimp
    try (first | exact fp_one (by decide) | refine fp_and (by decide) ?_)
theorem s_SG (s : ByteArray) (n f : Int) (L S : List G6) (h : stdOf s n = some (f, L)) (hn : 1 ≤ n ∧ n ≤ 4) (c : Clo n L S) : Sp Tryz.prog 44 [.v (.str s), vi n] (.tu [vi f, aL (2 * n) 0 (2 * n), .sli 0, vi 0]) [.row 6 116 (gs (outr (grpL n L).length (grpL n L)))] := by
  refine sp_of (m := no) mixed Tryz.func44 k44 ?_
  have w := s_std s n
  have w2 := s_within n 1 4
  have w3 := s_close n L S hn c
  have e2 : IntKind.i64.wrap (2 * n) = 2 * n := w64 (by omega) (by omega)
  rw [decide_eq_true hn] at w2
  rw [h] at w
  unfold StdR at w
  generalize outr (grpL n L).length (grpL n L) = G at *
  simp -dsimp [q]
  cases L with
  | nil =>
    simp only at w
    refine call_of (w) rfl (by simp) ?_
    try simp -dsimp
    try (first | exact fp_one (by decide) | refine fp_and (by decide) ?_)
    refine call_of (w2) rfl (by simp) ?_
    try simp -dsimp
    try (first | exact fp_one (by decide) | refine fp_and (by decide) ?_)
    rw [e2]
    refine call_of (w3) rfl (by simp) ?_
    try simp -dsimp
    try (first | exact fp_one (by decide) | refine fp_and (by decide) ?_)
    try decide
  | cons x L =>
    simp only at w
    refine call_of (w) rfl (by simp) ?_
    try simp -dsimp
    try (first | exact fp_one (by decide) | refine fp_and (by decide) ?_)
    refine call_of (w2) rfl (by simp) ?_
    try simp -dsimp
    try (first | exact fp_one (by decide) | refine fp_and (by decide) ?_)
    rw [e2]
    refine call_of (w3) rfl (by simp) ?_
    try simp -dsimp
    try (first | exact fp_one (by decide) | refine fp_and (by decide) ?_)
    try decide
theorem s_sSG_no (s : ByteArray) (n : Int) (h : stdOf s n = none) : Sp Tryz.prog 38 [.v (.str s), vi n] (.tu [vi 0, aL 0 0 0, .nil 6, vi 4]) [] := by
  refine sp_of (m := no) mixed Tryz.func38 k38 ?_
  have w := s_sstd s n
  rw [h] at w
  unfold StdR at w
  simp only at w
  simp -dsimp [q]
  refine call_of (w) rfl (by simp) ?_
  try simp -dsimp
  try (first | exact fp_one (by decide) | refine fp_and (by decide) ?_)
theorem s_sSG_far (s : ByteArray) (n f : Int) (L : List G6) (h : stdOf s n = some (f, L)) (hn : ¬ (1 ≤ n ∧ n ≤ 4)) : Sp Tryz.prog 38 [.v (.str s), vi n] (.tu [vi 0, aL 0 0 0, .nil 6, vi 2]) [] := by
  refine sp_of (m := no) mixed Tryz.func38 k38 ?_
  have w := s_sstd s n
  have w2 := s_in n 1 4
  rw [decide_eq_false hn] at w2
  rw [h] at w
  unfold StdR at w
  simp -dsimp [q]
  cases L with
  | nil =>
    simp only at w
    refine call_of (w) rfl (by simp) ?_
    try simp -dsimp
    try (first | exact fp_one (by decide) | refine fp_and (by decide) ?_)
    refine call_of (w2) rfl (by simp) ?_
    try simp -dsimp
    try (first | exact fp_one (by decide) | refine fp_and (by decide) ?_)
  | cons x L =>
    simp only at w
    refine call_of (w) rfl (by simp) ?_
    try simp -dsimp
    try (first | exact fp_one (by decide) | refine fp_and (by decide) ?_)
    refine call_of (w2) rfl (by simp) ?_
    try simp -dsimp
    try (first | exact fp_one (by decide) | refine fp_and (by decide) ?_)
theorem s_sSG (s : ByteArray) (n f : Int) (L S : List G6) (h : stdOf s n = some (f, L)) (hn : 1 ≤ n ∧ n ≤ 4) (c : Clo n L S) : Sp Tryz.prog 38 [.v (.str s), vi n] (.tu [vi f, aL (2 * n) 0 (2 * n), .sli 0, vi 0]) [.row 6 116 (gs (srtL (grpL n L)))] := by
  refine sp_of (m := no) mixed Tryz.func38 k38 ?_
  have w := s_sstd s n
  have w2 := s_in n 1 4
  have w3 := s_sclose n L S hn c
  have e2 : IntKind.i64.wrap (2 * n) = 2 * n := w64 (by omega) (by omega)
  rw [decide_eq_true hn] at w2
  rw [h] at w
  unfold StdR at w
  generalize srtL (grpL n L) = G at *
  simp -dsimp [q]
  cases L with
  | nil =>
    simp only at w
    refine call_of (w) rfl (by simp) ?_
    try simp -dsimp
    try (first | exact fp_one (by decide) | refine fp_and (by decide) ?_)
    refine call_of (w2) rfl (by simp) ?_
    try simp -dsimp
    try (first | exact fp_one (by decide) | refine fp_and (by decide) ?_)
    rw [e2]
    refine call_of (w3) rfl (by simp) ?_
    try simp -dsimp
    try (first | exact fp_one (by decide) | refine fp_and (by decide) ?_)
    try decide
  | cons x L =>
    simp only at w
    refine call_of (w) rfl (by simp) ?_
    try simp -dsimp
    try (first | exact fp_one (by decide) | refine fp_and (by decide) ?_)
    refine call_of (w2) rfl (by simp) ?_
    try simp -dsimp
    try (first | exact fp_one (by decide) | refine fp_and (by decide) ?_)
    rw [e2]
    refine call_of (w3) rfl (by simp) ?_
    try simp -dsimp
    try (first | exact fp_one (by decide) | refine fp_and (by decide) ?_)
    try decide
def cvOk (s : ByteArray) (n : Int) (l : List K3) : Option (Int × List G6) := match stdOf s n with
  | none => none
  | some (f, L) => if 1 ≤ n ∧ n ≤ 4 then some (f, L) else none
theorem s_canvas_no (s : ByteArray) (n : Int) (l : List K3) (k : Int) (hk : k ≠ 0) (w : Sp Tryz.prog 44 [.v (.str s), vi n] (.tu [vi 0, aL 0 0 0, .nil 6, vi k]) []) : Sp Tryz.prog 25 [.v (.str s), vi n, .v (.sl 0 [vks l])] (.tu [vi 0, aL 0 0 0, .nil 6, vi k]) [] := by
  refine sp_of (m := no) mixed Tryz.func25 k25 ?_
  simp -dsimp [q]
  refine call_of (w) rfl (by simp) ?_
  try simp -dsimp
  try (first | exact fp_one (by decide) | refine fp_and (by decide) ?_)
  simp -dsimp [hk]
theorem s_canvas (s : ByteArray) (n f : Int) (l : List K3) (G : List G6) (hn : 1 ≤ n ∧ n ≤ 4) (hl : l.length ≤ 1048576) (w : Sp Tryz.prog 44 [.v (.str s), vi n] (.tu [vi f, aL (2 * n) 0 (2 * n), .sli 0, vi 0]) [.row 6 116 (gs G)]) (hk : okKs (2 * n) (2 * n) l = true) : Sp Tryz.prog 25 [.v (.str s), vi n, .v (.sl 0 [vks l])] (.tu [vi f, aL (2 * n) 0 (2 * n), .sli 0, vi 0]) [.row 6 116 (gs G)] := by
  refine sp_of (m := no) mixed Tryz.func25 k25 ?_
  have w1 := s_areK (2 * n) 0 (2 * n) l hl (by omega) (by omega)
  rw [hk] at w1
  simp -dsimp [q]
  refine call_of (w) rfl (by simp) ?_
  try simp -dsimp
  try (first | exact fp_one (by decide) | refine fp_and (by decide) ?_)
  refine awp_it (false :: false :: false :: false :: false :: false :: false :: true :: false :: false :: true :: true :: true :: false :: false :: false :: false :: false :: false :: false :: false :: false :: false :: false :: false :: false :: false :: false :: true :: true :: true :: []) (fun i : Nat => [(30, vi i)]) (fun i => []) (fun i => i ≤ 1) (fun i => 1 - i) 0 ?_
  intro s0 e
  simp -dsimp at e
  subst e
  refine ⟨?_, ?_⟩
  · simp
  intro i hi
  have : i = 0 ∨ i = 1 := by omega
  rcases this with rfl | rfl
  · simp -dsimp
    refine call_of (w1) rfl (by simp) ?_
    try simp -dsimp
    try (first | exact fp_one (by decide) | refine fp_and (by decide) ?_)
    exact ⟨1, by decide, by decide, by decide⟩
  · simp -dsimp
    decide
theorem s_canvas_far (s : ByteArray) (n f : Int) (l : List K3) (G : List G6) (hn : 1 ≤ n ∧ n ≤ 4) (hl : l.length ≤ 1048576) (w : Sp Tryz.prog 44 [.v (.str s), vi n] (.tu [vi f, aL (2 * n) 0 (2 * n), .sli 0, vi 0]) [.row 6 116 (gs G)]) (hk : okKs (2 * n) (2 * n) l = false) : Sp Tryz.prog 25 [.v (.str s), vi n, .v (.sl 0 [vks l])] (.tu [vi 0, aL 0 0 0, .nil 6, vi 2]) [] := by
  refine sp_of (m := no) mixed Tryz.func25 k25 ?_
  have w1 := s_areK (2 * n) 0 (2 * n) l hl (by omega) (by omega)
  rw [hk] at w1
  simp -dsimp [q]
  refine call_of (w) rfl (by simp) ?_
  try simp -dsimp
  try (first | exact fp_one (by decide) | refine fp_and (by decide) ?_)
  refine awp_it (false :: false :: false :: false :: false :: false :: false :: true :: false :: false :: true :: true :: true :: false :: false :: false :: false :: false :: false :: false :: false :: false :: false :: false :: false :: false :: false :: false :: true :: true :: true :: []) (fun i : Nat => [(30, vi i)]) (fun i => []) (fun i => i = 0) (fun i => 1 - i) 0 ?_
  intro s0 e
  simp -dsimp at e
  subst e
  refine ⟨?_, ?_⟩
  · simp
  rintro i rfl
  simp -dsimp
  refine call_of (w1) rfl (by simp) ?_
  try simp -dsimp
  try (first | exact fp_one (by decide) | refine fp_and (by decide) ?_)
theorem ok2n {n : Int} (hn : 1 ≤ n ∧ n ≤ 4) : okL (2 * n) 0 (2 * n) = true := by
  have : n = 1 ∨ n = 2 ∨ n = 3 ∨ n = 4 := by omega
  rcases this with rfl | rfl | rfl | rfl <;> decide
end Go.Proofs.YtcnhcilpaplpcaaGreatDoorEv
namespace Go.Proofs.YtcnhcilpaplpcaaGreatDoorEv
open Go Go.Proofs
set_option maxRecDepth 10000
set_option maxHeartbeats 2000000
theorem s_canvas0_no (s : ByteArray) (n : Int) (k : Int) (hk : k ≠ 0) (w : Sp Tryz.prog 44 [.v (.str s), vi n] (.tu [vi 0, aL 0 0 0, .nil 6, vi k]) []) : Sp Tryz.prog 25 [.v (.str s), vi n, .v (.sl 0 [])] (.tu [vi 0, aL 0 0 0, .nil 6, vi k]) [] := by
  refine sp_of (m := no) mixed Tryz.func25 k25 ?_
  simp -dsimp [q]
  refine call_of (w) rfl (by simp) ?_
  try simp -dsimp
  try (first | exact fp_one (by decide) | refine fp_and (by decide) ?_)
  simp -dsimp [hk]
theorem s_canvas0 (s : ByteArray) (n f : Int) (G : List G6) (hn : 1 ≤ n ∧ n ≤ 4) (w : Sp Tryz.prog 44 [.v (.str s), vi n] (.tu [vi f, aL (2 * n) 0 (2 * n), .sli 0, vi 0]) [.row 6 116 (gs G)]) : Sp Tryz.prog 25 [.v (.str s), vi n, .v (.sl 0 [])] (.tu [vi f, aL (2 * n) 0 (2 * n), .sli 0, vi 0]) [.row 6 116 (gs G)] := by
  refine sp_of (m := no) mixed Tryz.func25 k25 ?_
  simp -dsimp [q]
  refine call_of (w) rfl (by simp) ?_
  try simp -dsimp
  try (first | exact fp_one (by decide) | refine fp_and (by decide) ?_)
  refine awp_it (false :: false :: false :: false :: false :: false :: false :: true :: false :: false :: true :: true :: true :: false :: false :: false :: false :: false :: false :: false :: false :: false :: false :: false :: false :: false :: false :: false :: true :: true :: true :: []) (fun i : Nat => [(30, vi i)]) (fun i => []) (fun i => i = 0) (fun i => 0) 0 ?_
  intro s0 e
  simp -dsimp at e
  subst e
  refine ⟨?_, ?_⟩
  · simp
  rintro i rfl
  simp -dsimp
  try decide
theorem s_rec_no (s : ByteArray) (n : Int) (t : List UInt8) (k : Int) (hk : k ≠ 0) (w : Sp Tryz.prog 44 [.v (.str s), vi n] (.tu [vi 0, aL 0 0 0, .nil 6, vi k]) []) : Sp Tryz.prog 12 [.v (.str s), vi n, aT (bst t)] (.tu [.nil 3, vi k]) [] := by
  have w1 := s_canvas0_no s n k hk w
  refine sp_of (m := no) mixed Tryz.func12 k12 ?_
  simp -dsimp [q]
  refine call_of (w1) rfl (by simp) ?_
  try simp -dsimp
  try (first | exact fp_one (by decide) | refine fp_and (by decide) ?_)
  simp -dsimp [hk]
theorem s_rec_long (s : ByteArray) (n f : Int) (G : List G6) (t : List UInt8) (hn : 1 ≤ n ∧ n ≤ 4) (ht : 4000 < t.length) (w : Sp Tryz.prog 44 [.v (.str s), vi n] (.tu [vi f, aL (2 * n) 0 (2 * n), .sli 0, vi 0]) [.row 6 116 (gs G)]) : Sp Tryz.prog 12 [.v (.str s), vi n, aT (bst t)] (.tu [.nil 3, vi 3]) [] := by
  have w1 := s_canvas0 s n f G hn w
  refine sp_of (m := no) mixed Tryz.func12 k12 ?_
  simp -dsimp [q]
  refine call_of (w1) rfl (by simp) ?_
  try simp -dsimp
  try (first | exact fp_one (by decide) | refine fp_and (by decide) ?_)
  try simp -dsimp [ht]
  try omega
theorem s_rec (s : ByteArray) (n f : Int) (G : List G6) (t : List UInt8) (hn : 1 ≤ n ∧ n ≤ 4) (ht : t.length ≤ 4000) (w : Sp Tryz.prog 44 [.v (.str s), vi n] (.tu [vi f, aL (2 * n) 0 (2 * n), .sli 0, vi 0]) [.row 6 116 (gs G)]) : Sp Tryz.prog 12 [.v (.str s), vi n, aT (bst t)] (.tu [.sli 0, vi 0]) [.row 3 54 (ks (recL (2 * n) (2 * n) 0 (spl 10 t)))] := by
  have w1 := s_canvas0 s n f G hn w
  have hL := recL_len (2 * n) (2 * n) (spl 10 t) 0
  generalize hL0 : recL (2 * n) (2 * n) 0 (spl 10 t) = L0 at *
  refine sp_of (m := no) mixed Tryz.func12 k12 ?_
  simp -dsimp [q]
  refine call_of (w1) rfl (by simp) ?_
  try simp -dsimp
  try (first | exact fp_one (by decide) | refine fp_and (by decide) ?_)
  refine ⟨by omega, fun _ => ?_⟩
  refine awp_it (false :: false :: true :: false :: false :: false :: false :: false :: false :: true :: false :: false :: true :: []) (fun x : List K3 × List UInt8 => [(2, aT (bst x.2))]) (fun x => [(1, .row 3 54 (ks x.1))]) (fun x => x.1.length ≤ 100 ∧ x.2.length ≤ 4000 ∧ L0 = x.1 ++ recL (2 * n) (2 * n) x.1.length (spl 10 x.2)) (fun x => 100 - x.1.length) ([], t) ?_
  intro s0 e
  simp -dsimp at e
  subst e
  refine ⟨?_, ?_⟩
  · simp [hL0]
    exact ht
  rintro ⟨out, u⟩ ⟨h1, h2, h3⟩
  simp only at h1 h2 h3
  simp -dsimp [-Prod.forall, -Prod.exists]
  refine ⟨fun h4 => ?_, fun h4 => ?_⟩
  case refine_2 =>
    rw [recL_far (2 * n) (2 * n) (by omega), List.append_nil] at h3
    rw [h3]
  have wc := s_cut u 10 (by omega)
  have hcut := cut_spl 10 u
  rcases hcut with ⟨p, e1, e2⟩ | ⟨p, r, e1, e2, e3⟩
  · rw [e2] at wc
    rw [e1, recL_one, List.append_nil] at h3
    have hp : p.length ≤ u.length := by
      have := spl_mem 10 (l := u) (p := p) (by rw [e1]; simp)
      exact this
    obtain ⟨k, ok, wr, _⟩ := s_rs p out.length (by omega) (by omega)
    refine call_of (wc) rfl (by simp) ?_
    try simp -dsimp
    try (first | exact fp_one (by decide) | refine fp_and (by decide) ?_)
    refine call_of (wr) rfl (by simp) ?_
    try simp -dsimp
    try (first | exact fp_one (by decide) | refine fp_and (by decide) ?_)
    rw [h3]
  · rw [e2] at wc
    rw [e1] at h3
    have hp : p.length ≤ u.length := by
      have := spl_mem 10 (l := u) (p := p) (by rw [e1]; simp)
      exact this
    obtain ⟨k, ok, wr, hr⟩ := s_rs p out.length (by omega) (by omega)
    have hpos := spl_pos 10 r
    refine call_of (wc) rfl (by simp) ?_
    try simp -dsimp
    try (first | exact fp_one (by decide) | refine fp_and (by decide) ?_)
    refine call_of (wr) rfl (by simp) ?_
    try simp -dsimp
    try (first | exact fp_one (by decide) | refine fp_and (by decide) ?_)
    have hacc : ok = false → accK (2 * n) (2 * n) out.length p = none := fun ho => by
      unfold accK
      rw [hr, ho]
      rfl
    refine ⟨fun ho => ?_, fun ho => by rw [h3, recL_no (hacc ho), List.append_nil]⟩
    have wi := s_isCell (2 * n) 0 (2 * n) k.1.1 k.1.2 (by omega) (by omega)
    rw [ho, if_pos rfl] at hr
    obtain ⟨_, hcol, _⟩ := (rd1_iff p out.length k).1 hr
    have hok2 : okK (2 * n) (2 * n) k = cellB (2 * n) (2 * n) (k.1.1, k.1.2) := by
      unfold okK
      rw [decide_eq_true hcol, Bool.and_true]
    have hacc2 : accK (2 * n) (2 * n) out.length p = if cellB (2 * n) (2 * n) (k.1.1, k.1.2) = true then some k else none := by
      unfold accK
      rw [hr, ← hok2]
    generalize cellB (2 * n) (2 * n) (k.1.1, k.1.2) = cb at *
    refine call_of (wi) rfl (by simp) ?_
    try simp -dsimp
    try (first | exact fp_one (by decide) | refine fp_and (by decide) ?_)
    refine ⟨fun hc => by rw [h3, recL_no (by rw [hacc2, hc]; rfl), List.append_nil], fun hc => ?_⟩
    rw [hc, if_pos rfl] at hacc2
    by_cases h5 : out.length < 100
    case neg => omega
    rw [recL_yes h5 hacc2 (by omega)] at h3
    have e0 : (((k.1.1, k.1.2), k.2) : K3) = k := rfl
    rw [e0]
    refine ⟨⟨by omega, by omega⟩, out ++ [k], r, ⟨rfl, rfl⟩, ⟨by simp; omega, by omega, ?_⟩, by simp; omega⟩
    rw [h3]
    simp
end Go.Proofs.YtcnhcilpaplpcaaGreatDoorEv
namespace Go.Proofs.YtcnhcilpaplpcaaGreatDoorEv
open Go Go.Proofs
set_option maxRecDepth 10000
set_option maxHeartbeats 2000000
def jn (l : List K3) : Nat → List UInt8
  | 0 => []
  | n + 1 => jn l n ++ (match l[n]? with | some k => lnx k n ++ [10] | none => [])
theorem jn_len {l : List K3} (h : ∀ k ∈ l, smK k) : ∀ n, (jn l n).length ≤ 2001 * n
  | 0 => by simp [jn]
  | n + 1 => by
    have ih := jn_len h n
    unfold jn
    cases hn : l[n]? with
    | none => simp; omega
    | some k =>
      have := lnx_len (h k (List.mem_of_getElem? hn)) n
      simp only [List.length_append, List.length_singleton]
      omega
theorem jn_succ {l : List K3} {n : Nat} {k : K3} (h : l[n]? = some k) : jn l (n + 1) = jn l n ++ (lnx k n ++ [10]) := by
  rw [jn, h]
theorem okKs_spec {a c : Int} {l : List K3} (h : okKs a c l = true) : l.length ≤ 100 ∧ ∀ k ∈ l, okK a c k = true := by
  unfold okKs at h
  simp only [Bool.and_eq_true, decide_eq_true_eq, List.all_eq_true] at h
  exact h
theorem s_jn_no (s : ByteArray) (n : Int) (l : List K3) (k : Int) (hk : k ≠ 0) (w : Sp Tryz.prog 25 [.v (.str s), vi n, .v (.sl 0 [vks l])] (.tu [vi 0, aL 0 0 0, .nil 6, vi k]) []) : Sp Tryz.prog 9 [.v (.str s), vi n, .v (vks l)] (.tu [aT ⟨#[]⟩, vi k]) [] := by
  refine sp_of (m := no) mixed Tryz.func9 k9 ?_
  simp -dsimp [q]
  refine call_of (w) rfl (by simp) ?_
  try simp -dsimp
  try (first | exact fp_one (by decide) | refine fp_and (by decide) ?_)
  simp -dsimp [hk]
theorem s_jn (s : ByteArray) (n f : Int) (l : List K3) (G : List G6) (hn : 1 ≤ n ∧ n ≤ 4) (hk : okKs (2 * n) (2 * n) l = true) (w : Sp Tryz.prog 25 [.v (.str s), vi n, .v (.sl 0 [vks l])] (.tu [vi f, aL (2 * n) 0 (2 * n), .sli 0, vi 0]) [.row 6 116 (gs G)]) : Sp Tryz.prog 9 [.v (.str s), vi n, .v (vks l)] (.tu [aT (bst (jn l l.length)), vi 0]) [] := by
  obtain ⟨h1, h2⟩ := okKs_spec hk
  have hs : ∀ k ∈ l, smK k := fun k hm => smK_of hn (h2 k hm)
  refine sp_of (m := no) mixed Tryz.func9 k9 ?_
  simp -dsimp [q]
  refine call_of (w) rfl (by simp) ?_
  try simp -dsimp
  try (first | exact fp_one (by decide) | refine fp_and (by decide) ?_)
  refine awp_it (false :: false :: false :: false :: false :: false :: false :: false :: false :: false :: false :: false :: true :: false :: false :: false :: false :: false :: false :: false :: false :: false :: false :: false :: false :: false :: false :: false :: true :: true :: true :: []) (fun i : Nat => [(12, aT (bst (jn l i))), (30, vi i)]) (fun i => []) (fun i => i ≤ l.length) (fun i => l.length - i) 0 ?_
  intro s0 e
  simp -dsimp at e
  subst e
  refine ⟨?_, ?_⟩
  · simp -dsimp
    rfl
  intro i hi
  simp -dsimp [-Prod.forall, -Prod.exists]
  refine ⟨fun h3 => ⟨h3, fun k ha => ?_⟩, fun h3 => ?_⟩
  · have hm := hs k (List.mem_of_getElem? ha)
    have w2 := s_line k i hm (by omega)
    have l1 := lnx_len hm i
    have l2 := jn_len hs i
    have e := jn_succ ha
    have l6 : (⟨#[10]⟩ : ByteArray).size = 1 := rfl
    generalize lnx k i = v at *
    refine call_of (w2) rfl (by simp) ?_
    try simp -dsimp
    try (first | exact fp_one (by decide) | refine fp_and (by decide) ?_)
    rw [bst10]
    simp only [bst_size, bst_app, List.length_append, List.length_singleton]
    refine ⟨by omega, by omega, i + 1, ⟨?_, ?_⟩, by omega, by omega⟩
    · rw [e]
    · rw [w64 (by omega) (by omega)]; simp
  · have : i = l.length := by omega
    subst this
    try rfl
def bsR (l : List UInt8) : List V := l.map fun b => .int .u8 b.toNat
@[simp] theorem bsR_nil : bsR [] = [] := rfl
@[simp] theorem bsR_len (l : List UInt8) : (bsR l).length = l.length := by simp [bsR]
theorem unBs_bsR : ∀ l : List UInt8, unBs (bsR l) = some l
  | [] => rfl
  | b :: l => by
    have hb := UInt8.toNat_lt b
    have ih := unBs_bsR l
    simp only [bsR, List.map_cons, unBs] at ih ⊢
    rw [if_pos (by omega), ih]
    simp
@[simp] theorem bsR_app (l m : List UInt8) : bsR l ++ bsV (bst m) = bsR (l ++ m) := by
  simp [bsR, bsV, bst]
theorem s_sjn_no (s : ByteArray) (n : Int) (l : List K3) (k : Int) (hk : k ≠ 0) (w : Sp Tryz.prog 38 [.v (.str s), vi n] (.tu [vi 0, aL 0 0 0, .nil 6, vi k]) []) : Sp Tryz.prog 7 [.v (.str s), vi n, .v (vks l)] (.tu [aT ⟨#[]⟩, vi k]) [] := by
  have wc : Sp Tryz.prog 21 [.v (.str s), vi n] (.tu [vi 0, aL 0 0 0, .nil 6, vi k]) [] := by
    refine sp_of (m := no) mixed Tryz.func21 k21 ?_
    simp -dsimp [q]
    refine call_of (w) rfl (by simp) ?_
    try simp -dsimp
    try (first | exact fp_one (by decide) | refine fp_and (by decide) ?_)
  refine sp_of (m := no) mixed Tryz.func7 k7 ?_
  simp -dsimp [q]
  refine call_of (wc) rfl (by simp) ?_
  try simp -dsimp
  try (first | exact fp_one (by decide) | refine fp_and (by decide) ?_)
  simp -dsimp [hk]
theorem s_sjn_far (s : ByteArray) (n f : Int) (l : List K3) (G : List G6) (hn : 1 ≤ n ∧ n ≤ 4) (hl : l.length ≤ 1048576) (hk : okKs (2 * n) (2 * n) l = false) (w : Sp Tryz.prog 38 [.v (.str s), vi n] (.tu [vi f, aL (2 * n) 0 (2 * n), .sli 0, vi 0]) [.row 6 116 (gs G)]) : Sp Tryz.prog 7 [.v (.str s), vi n, .v (vks l)] (.tu [aT ⟨#[]⟩, vi 2]) [] := by
  have wc : Sp Tryz.prog 21 [.v (.str s), vi n] (.tu [vi f, aL (2 * n) 0 (2 * n), .sli 0, vi 0]) [.row 6 116 (gs G)] := by
    refine sp_of (m := no) mixed Tryz.func21 k21 ?_
    simp -dsimp [q]
    refine call_of (w) rfl (by simp) ?_
    try simp -dsimp
    try (first | exact fp_one (by decide) | refine fp_and (by decide) ?_)
  have w2 := s_sareK (2 * n) 0 (2 * n) l hl (ok2n hn)
  rw [hk] at w2
  refine sp_of (m := no) mixed Tryz.func7 k7 ?_
  simp -dsimp [q]
  refine call_of (wc) rfl (by simp) ?_
  try simp -dsimp
  try (first | exact fp_one (by decide) | refine fp_and (by decide) ?_)
  refine call_of (w2) rfl (by simp) ?_
  try simp -dsimp
  try (first | exact fp_one (by decide) | refine fp_and (by decide) ?_)
theorem s_sjn (s : ByteArray) (n f : Int) (l : List K3) (G : List G6) (hn : 1 ≤ n ∧ n ≤ 4) (hk : okKs (2 * n) (2 * n) l = true) (w : Sp Tryz.prog 38 [.v (.str s), vi n] (.tu [vi f, aL (2 * n) 0 (2 * n), .sli 0, vi 0]) [.row 6 116 (gs G)]) : Sp Tryz.prog 7 [.v (.str s), vi n, .v (vks l)] (.tu [aT (bst (jn l l.length)), vi 0]) [] := by
  obtain ⟨h1, h2⟩ := okKs_spec hk
  have hs : ∀ k ∈ l, smK k := fun k hm => smK_of hn (h2 k hm)
  have wc : Sp Tryz.prog 21 [.v (.str s), vi n] (.tu [vi f, aL (2 * n) 0 (2 * n), .sli 0, vi 0]) [.row 6 116 (gs G)] := by
    refine sp_of (m := no) mixed Tryz.func21 k21 ?_
    simp -dsimp [q]
    refine call_of (w) rfl (by simp) ?_
    try simp -dsimp
    try (first | exact fp_one (by decide) | refine fp_and (by decide) ?_)
  have w2 := s_sareK (2 * n) 0 (2 * n) l (by omega) (ok2n hn)
  rw [hk] at w2
  refine sp_of (m := no) mixed Tryz.func7 k7 ?_
  simp -dsimp [q]
  refine call_of (wc) rfl (by simp) ?_
  try simp -dsimp
  try (first | exact fp_one (by decide) | refine fp_and (by decide) ?_)
  refine call_of (w2) rfl (by simp) ?_
  try simp -dsimp
  try (first | exact fp_one (by decide) | refine fp_and (by decide) ?_)
  refine awp_it (false :: false :: true :: false :: false :: false :: false :: false :: false :: false :: false :: false :: true :: true :: []) (fun i : Nat => [(13, vi i)]) (fun i => [(0, .row 0 5 (bsR (jn l i)))]) (fun i => i ≤ l.length) (fun i => l.length - i) 0 ?_
  intro s0 e
  simp -dsimp at e
  subst e
  refine ⟨?_, ?_⟩
  · simp -dsimp [jn]
  intro i hi
  simp -dsimp [-Prod.forall, -Prod.exists]
  refine ⟨fun h3 => ⟨h3, fun k ha => ?_⟩, fun h3 => ?_⟩
  · have hm := hs k (List.mem_of_getElem? ha)
    have w2 := s_sline k i hm (by omega)
    have l1 := lnx_len hm i
    have l2 := jn_len hs i
    have e := jn_succ ha
    have l6 : (⟨#[10]⟩ : ByteArray).size = 1 := rfl
    generalize lnx k i = v at *
    refine call_of (w2) rfl (by simp) ?_
    try simp -dsimp
    try (first | exact fp_one (by decide) | refine fp_and (by decide) ?_)
    rw [bst10]
    simp only [bst_size, bst_app, bsR_len, bsR_app, List.length_append, List.length_singleton]
    refine ⟨by omega, by omega, i + 1, ⟨?_, ?_⟩, by omega, by omega⟩
    · rw [w64 (by omega) (by omega)]; simp
    · rw [e]
  · have : i = l.length := by omega
    subst this
    simp -dsimp [unBs_bsR]
    try rfl
theorem jn_both (s : ByteArray) (n : Int) (l : List K3) (hl : l.length ≤ 1048576) : ∃ (T : ByteArray) (k : Int), T.size ≤ 1000000 ∧ Sp Tryz.prog 7 [.v (.str s), vi n, .v (vks l)] (.tu [aT T, vi k]) [] ∧ Sp Tryz.prog 9 [.v (.str s), vi n, .v (vks l)] (.tu [aT T, vi k]) [] := by
  cases h : stdOf s n with
  | none => exact ⟨⟨#[]⟩, 4, by decide, s_sjn_no s n l 4 (by decide) (s_sSG_no s n h), s_jn_no s n l 4 (by decide) (s_canvas_no s n l 4 (by decide) (s_SG_no s n h))⟩
  | some p =>
    obtain ⟨f, L⟩ := p
    by_cases hn : 1 ≤ n ∧ n ≤ 4
    case neg => exact ⟨⟨#[]⟩, 2, by decide, s_sjn_no s n l 2 (by decide) (s_sSG_far s n f L h hn), s_jn_no s n l 2 (by decide) (s_canvas_no s n l 2 (by decide) (s_SG_far s n f L h hn))⟩
    obtain ⟨S, c⟩ := std_clo h hn
    have w := s_SG s n f L S h hn c
    have ws := s_sSG s n f L S h hn c
    cases hk : okKs (2 * n) (2 * n) l with
    | true =>
      refine ⟨bst (jn l l.length), 0, ?_, s_sjn s n f l _ hn hk ws, s_jn s n f l _ hn hk (s_canvas s n f l _ hn hl w hk)⟩
      obtain ⟨h1, h2⟩ := okKs_spec hk
      have := jn_len (fun k hm => smK_of hn (h2 k hm)) l.length
      rw [bst_size]
      omega
    | false => exact ⟨⟨#[]⟩, 2, by decide, s_sjn_far s n f l _ hn hl hk ws, s_jn_no s n l 2 (by decide) (s_canvas_far s n f l _ hn hl w hk)⟩
end Go.Proofs.YtcnhcilpaplpcaaGreatDoorEv
