/- What the code computes, and what it means: part 4 of the proof of FnPrints. No condition of its own. -/
import Derived.Deep.Slices
import Derived.WalkKit
import Derived.OpenShut
import Derived.ShutString
import Derived.ChangeOld
import Derived.SizedLaws
import Derived.Test.YtgkhakhkebjbpaaGreatCFnPrints3
namespace Go.Proofs.YtgkhakhkebjbpaaGreatEv
open Go Go.Proofs
set_option maxRecDepth 10000
@[simp] theorem gs_nil : gs [] = [] := rfl
@[simp] theorem gs_len (l : List G6) : (gs l).length = l.length := by simp [gs]
@[simp] theorem gs_get (l : List G6) (n : Nat) (K : V → Prop) : fA ((gs l)[n]?) K = ∀ g, l[n]? = some g → K (.ag [.int .i64 g.1.1, .int .i64 g.1.2.1, .int .i64 g.1.2.2.1, .int .i64 g.1.2.2.2, .int .i64 g.2.1, .int .i64 g.2.2]) := by unfold gs; exact fA_map
@[simp] theorem gs_app (l : List G6) (a b c d x y : Int) : gs l ++ [.ag [.int .i64 a, .int .i64 b, .int .i64 c, .int .i64 d, .int .i64 x, .int .i64 y]] = gs (l ++ [((a, b, c, d), x, y)]) := by simp [gs, vg]
@[simp] theorem gs_set (l : List G6) (n : Nat) (a b c d x y : Int) : (gs l).set n (.ag [.int .i64 a, .int .i64 b, .int .i64 c, .int .i64 d, .int .i64 x, .int .i64 y]) = gs (l.set n ((a, b, c, d), x, y)) := by simp [gs, vg, List.map_set]
@[simp] theorem gs_flat (l : List G6) : (∀ x, x ∈ gs l → x.flat = true) ↔ True := by
  simp only [iff_true]
  intro x hx
  obtain ⟨y, _, rfl⟩ := List.mem_map.1 hx
  rfl
theorem vg_inj (g h : G6) (e : vg g = vg h) : g = h := by
  obtain ⟨⟨a, b, c, d⟩, x, y⟩ := g
  obtain ⟨⟨a', b', c', d'⟩, x', y'⟩ := h
  simp only [vg, V.ag.injEq, List.cons.injEq, V.int.injEq, true_and, and_true] at e
  obtain ⟨rfl, rfl, rfl, rfl, rfl, rfl⟩ := e
  rfl
@[simp] theorem gs_inj (a b : List G6) : gs a = gs b ↔ a = b := by
  constructor
  · exact fun h => (List.map_inj_right (fun x y e => vg_inj x y e)).1 h
  · rintro rfl; rfl
abbrev vgs (l : List G6) : V := .sl 6 (gs l)
def gE (S : List G6) : List (V × V) := S.map fun y => (vg y, V.bool true)
@[simp] theorem gE_nil : gE [] = [] := rfl
@[simp] theorem gE_get (S : List G6) (a b c d x y : Int) : lkA (.bool false) false (mget (.ag [.int .i64 a, .int .i64 b, .int .i64 c, .int .i64 d, .int .i64 x, .int .i64 y]) (gE S)) = .v (.bool (decide (((a, b, c, d), x, y) ∈ S))) := by
  have := mget_enc vg vg_inj S ((a, b, c, d), x, y)
  rw [show V.ag [.int .i64 a, .int .i64 b, .int .i64 c, .int .i64 d, .int .i64 x, .int .i64 y] = vg ((a, b, c, d), x, y) from rfl, gE, this]
  by_cases h : ((a, b, c, d), x, y) ∈ S <;> simp [h, lkA]
@[simp] theorem gE_put (S : List G6) (a b c d x y : Int) : mput (.ag [.int .i64 a, .int .i64 b, .int .i64 c, .int .i64 d, .int .i64 x, .int .i64 y]) (.bool true) (gE S) = gE (if ((a, b, c, d), x, y) ∈ S then S else S ++ [((a, b, c, d), x, y)]) := by
  have := mput_enc vg vg_inj S ((a, b, c, d), x, y)
  rw [show V.ag [.int .i64 a, .int .i64 b, .int .i64 c, .int .i64 d, .int .i64 x, .int .i64 y] = vg ((a, b, c, d), x, y) from rfl, gE, this, gE]
  by_cases h : ((a, b, c, d), x, y) ∈ S <;> simp [h]
@[simp] theorem gE_keyed (S : List G6) (a b c d x y : Int) : keyed 6 [1, 1, 1, 1, 1, 1] (.ag [.int .i64 a, .int .i64 b, .int .i64 c, .int .i64 d, .int .i64 x, .int .i64 y]) (gE S) ↔ True := by
  simp only [keyed, iff_true]
  refine ⟨rfl, rfl, fun p hp => ?_⟩
  obtain ⟨v, _, rfl⟩ := List.mem_map.1 hp
  exact ⟨rfl, rfl⟩
/-! the order -/
def lexLt : List Int → List Int → Bool
  | x :: xs, y :: ys => if x = y then lexLt xs ys else decide (x < y)
  | _, _ => false
theorem lexLt_irr : ∀ xs, lexLt xs xs = false
  | [] => rfl
  | x :: xs => by simp [lexLt, lexLt_irr xs]
theorem lexLt_trans : ∀ {xs ys zs : List Int}, xs.length = ys.length → ys.length = zs.length → lexLt xs ys = true → lexLt ys zs = true → lexLt xs zs = true
  | [], _, _, _, _, h, _ => by simp [lexLt] at h
  | x :: xs, [], _, h, _, _, _ => by simp at h
  | x :: xs, y :: ys, [], _, h, _, _ => by simp at h
  | x :: xs, y :: ys, z :: zs, h1, h2, h3, h4 => by
    simp only [lexLt] at h3 h4 ⊢
    split at h3 <;> split at h4 <;> split
    · exact lexLt_trans (by simpa using h1) (by simpa using h2) h3 h4
    · exfalso; omega
    · exfalso; rename_i e1 e2 e3; simp at h4; omega
    · simp at h4 ⊢; omega
    · exfalso; rename_i e1 e2 e3; simp at h3; omega
    · simp at h3 ⊢; omega
    · simp at h3 h4; omega
    · simp at h3 h4 ⊢; omega
theorem lexLt_at : ∀ {xs ys : List Int} {i : Nat} {x y : Int}, xs.take i = ys.take i → xs[i]? = some x → ys[i]? = some y → x ≠ y → lexLt xs ys = decide (x < y) ∧ xs ≠ ys
  | [], _, _, _, _, _, h, _, _ => by simp at h
  | _ :: _, [], _, _, _, _, _, h, _ => by simp at h
  | a :: xs, b :: ys, 0, x, y, _, h1, h2, hn => by
    simp only [List.getElem?_cons_zero, Option.some.injEq] at h1 h2
    subst h1 h2
    simp [lexLt, hn]
  | a :: xs, b :: ys, i + 1, x, y, h, h1, h2, hn => by
    simp only [List.take_succ_cons, List.cons.injEq] at h
    obtain ⟨rfl, h⟩ := h
    have := lexLt_at h (by simpa using h1) (by simpa using h2) hn
    simp [lexLt, this.1, this.2]
theorem lexLt_app : ∀ {xs ys us vs : List Int}, xs.length = ys.length → lexLt (xs ++ us) (ys ++ vs) = if xs = ys then lexLt us vs else lexLt xs ys
  | [], [], _, _, _ => by simp
  | [], _ :: _, _, _, h => by simp at h
  | _ :: _, [], _, _, h => by simp at h
  | x :: xs, y :: ys, us, vs, h => by
    have := lexLt_app (us := us) (vs := vs) (show xs.length = ys.length by simpa using h)
    simp only [List.cons_append, lexLt]
    by_cases e : x = y
    · subst e
      simp only [if_true, this, List.cons.injEq, true_and]
    · simp [e]
theorem s_lessL (xs ys : List Int) (hl : xs.length = ys.length) (hx : xs.length ≤ 1048576) : Sp Tryz.prog 168 [.v (vis xs), .v (vis ys)] (vb (lexLt xs ys)) [] := by
  refine sp_of (m := no) mixed Tryz.func168 k168 ?_
  simp -dsimp [q]
  refine awp_it (true :: true :: false :: false :: false :: true :: []) (fun i : Nat => [(5, vi i)]) (fun i => []) (fun i => i ≤ xs.length ∧ xs.take i = ys.take i) (fun i => xs.length - i) 0 ?_
  intro s0 e
  simp -dsimp at e
  subst e
  refine ⟨?_, ?_⟩
  · simp
  rintro i ⟨hi, ht⟩
  simp -dsimp
  refine ⟨fun h1 => ⟨fun h2 => ⟨h1, fun x hx' => ⟨h2, fun y hy' => ⟨fun hn => ?_, fun e => ?_⟩⟩⟩, fun h2 => ?_⟩, fun h1 => ?_⟩
  · refine ⟨h1, fun x2 hx2 => ⟨h2, fun y2 hy2 => ?_⟩⟩
    rw [hx'] at hx2
    rw [hy'] at hy2
    cases hx2
    cases hy2
    exact (lexLt_at ht hx' hy' hn).1.symm
  · subst e
    refine ⟨i + 1, by rw [w64 (by omega) (by omega)]; simp, ⟨by omega, ?_⟩, by omega⟩
    rw [List.take_add_one, List.take_add_one, ht, hx', hy']
  · omega
  · rw [List.take_of_length_le h1, List.take_of_length_le (by omega)] at ht
    rw [ht, lexLt_irr]
    simp
def m4 (m : M4) : List Int := [m.1, m.2.1, m.2.2.1, m.2.2.2]
def t2 (v : Int × Int) : List Int := [v.1, v.2]
def ltG (g h : G6) : Bool := if g.1 = h.1 then lexLt (t2 g.2) (t2 h.2) else lexLt (m4 g.1) (m4 h.1)
theorem m4_inj (m n : M4) : m4 m = m4 n ↔ m = n := by
  constructor
  · intro h
    simp only [m4, List.cons.injEq, and_true] at h
    exact Prod.ext h.1 (Prod.ext h.2.1 (Prod.ext h.2.2.1 h.2.2.2))
  · rintro rfl; rfl
theorem ltG_lex (g h : G6) : ltG g h = lexLt (m4 g.1 ++ t2 g.2) (m4 h.1 ++ t2 h.2) := by
  have e : (m4 g.1).length = (m4 h.1).length := rfl
  rw [lexLt_app e]
  clear e
  unfold ltG
  by_cases e : g.1 = h.1
  · rw [if_pos e, if_pos (by rw [e])]
  · rw [if_neg e, if_neg (fun k => e ((m4_inj _ _).1 k))]
theorem ltG_irr (g : G6) : ltG g g = false := by rw [ltG_lex, lexLt_irr]
theorem ltG_trans {g h k : G6} (h1 : ltG g h = true) (h2 : ltG h k = true) : ltG g k = true := by
  rw [ltG_lex] at *
  exact lexLt_trans (ys := m4 h.1 ++ t2 h.2) rfl rfl h1 h2
theorem t2_inj (m n : Int × Int) : t2 m = t2 n ↔ m = n := by
  constructor
  · intro h
    simp only [t2, List.cons.injEq, and_true] at h
    exact Prod.ext h.1 h.2
  · rintro rfl; rfl
theorem s_sless (x y x' y' : Int) : Sp Tryz.prog 167 [aV x y, aV x' y'] (vb (lexLt (t2 (x, y)) (t2 (x', y')))) [] := by
  refine sp_of (m := no) mixed Tryz.func167 k167 ?_
  simp -dsimp [q]
  refine ⟨fun h => ⟨fun e => ?_, fun e => ?_⟩, fun h => ?_⟩
  · simp [lexLt, t2, e]
    by_cases e2 : y = y' <;> simp [e2]
  · simp [lexLt, t2, e]
    omega
  · simp [lexLt, t2]
    rw [if_neg (by omega)]
    simpa using h
theorem s_nums (m : M4) : Sp Tryz.prog 169 [aM4 m] (.v (.sl 0 [.int .i64 m.1, .int .i64 m.2.1, .int .i64 m.2.2.1, .int .i64 m.2.2.2])) [] := by
  refine sp_of (m := no) mixed Tryz.func169 k169 ?_
  simp -dsimp [q]
theorem s_lessM (m n : M4) : Sp Tryz.prog 166 [aM4 m, aM4 n] (vb (lexLt (m4 m) (m4 n))) [] := by
  refine sp_of (m := no) mixed Tryz.func166 k166 ?_
  have w := s_lessL (m4 m) (m4 n) rfl (by simp [m4])
  simp -dsimp [q]
  refine call_of (s_nums m) rfl (by simp) ?_
  try simp -dsimp
  try (first | exact fp_one (by decide) | refine fp_and (by decide) ?_)
  refine call_of (s_nums n) rfl (by simp) ?_
  try simp -dsimp
  try (first | exact fp_one (by decide) | refine fp_and (by decide) ?_)
  refine call_of ((w : Sp Tryz.prog _ [.v (.sl 0 [.int .i64 m.1, .int .i64 m.2.1, .int .i64 m.2.2.1, .int .i64 m.2.2.2]), .v (.sl 0 [.int .i64 n.1, .int .i64 n.2.1, .int .i64 n.2.2.1, .int .i64 n.2.2.2])] _ _)) rfl (by simp) ?_
  try simp -dsimp
  try (first | exact fp_one (by decide) | refine fp_and (by decide) ?_)
theorem s_lessG (g h : G6) : Sp Tryz.prog 162 [aG6 g, aG6 h] (vb (ltG g h)) [] := by
  refine sp_of (m := no) mixed Tryz.func162 k162 ?_
  have w1 := s_lessM g.1 h.1
  have w2 := s_sless g.2.1 g.2.2 h.2.1 h.2.2
  simp -dsimp [q]
  refine ⟨fun hn => ?_, fun e1 e2 e3 e4 => ?_⟩
  · have e : ltG g h = lexLt (m4 g.1) (m4 h.1) := by
      unfold ltG
      rw [if_neg (fun e => by rw [e] at hn; exact hn rfl rfl rfl rfl)]
    rw [← e] at w1
    refine call_of (w1) rfl (by simp) ?_
    try simp -dsimp
    try (first | exact fp_one (by decide) | refine fp_and (by decide) ?_)
  · have e : ltG g h = lexLt (t2 g.2) (t2 h.2) := by
      unfold ltG
      rw [if_pos (Prod.ext e1 (Prod.ext e2 (Prod.ext e3 e4)))]
    rw [← e] at w2
    refine call_of (w2) rfl (by simp) ?_
    try simp -dsimp
    try (first | exact fp_one (by decide) | refine fp_and (by decide) ?_)
/-! searching -/
def srt (l : List G6) : Prop := l.Pairwise fun g h => ltG g h = true
theorem srt_get {l : List G6} (h : srt l) {i j : Nat} {g k : G6} (hi : l[i]? = some g) (hj : l[j]? = some k) (hij : i < j) : ltG g k = true := by
  obtain ⟨hi', rfl⟩ := List.getElem?_eq_some_iff.1 hi
  obtain ⟨hj', rfl⟩ := List.getElem?_eq_some_iff.1 hj
  exact List.pairwise_iff_getElem.1 h i j hi' hj' hij
def plc (l : List G6) (m : G6) : Nat := l.findIdx fun x => !ltG x m
theorem plc_eq {l : List G6} {m : G6} {k : Nat} (hk : k ≤ l.length) (h1 : ∀ (j : Nat) x, j < k → l[j]? = some x → ltG x m = true) (h2 : ∀ (j : Nat) x, k ≤ j → l[j]? = some x → ltG x m = false) : plc l m = k := by
  unfold plc
  by_cases e : k < l.length
  · refine (List.findIdx_eq e).2 ⟨by simp [h2 k l[k] (Nat.le_refl _) (List.getElem?_eq_getElem e)], fun j hj => ?_⟩
    simp [h1 j l[j] hj (List.getElem?_eq_getElem (by omega))]
  · have : k = l.length := by omega
    subst this
    rw [List.findIdx_eq_length]
    intro x hx
    obtain ⟨j, hj⟩ := List.getElem?_of_mem hx
    simp [h1 j x (List.getElem?_eq_some_iff.1 hj).1 hj]
def plI (l : List G6) (m : G6) (lo hi : Nat) : Prop := lo ≤ hi ∧ hi ≤ l.length ∧ (∀ (j : Nat) x, j < lo → l[j]? = some x → ltG x m = true) ∧ ∀ (j : Nat) x, hi ≤ j → l[j]? = some x → ltG x m = false
theorem s_place (l : List G6) (m : G6) (hs : srt l) (hl : l.length ≤ 1048576) : Sp Tryz.prog 159 [.v (vgs l), aG6 m] (vi (plc l m)) [] := by
  refine sp_of (m := no) mixed Tryz.func159 k159 ?_
  simp -dsimp [q]
  refine awp_it (true :: false :: false :: true :: false :: true :: true :: []) (fun s : Nat × Nat => [(5, vi s.1), (6, vi s.2)]) (fun s => []) (fun s => plI l m s.1 s.2) (fun s => s.2 - s.1) (0, l.length) ?_
  intro s0 e
  simp -dsimp at e
  subst e
  refine ⟨?_, ?_⟩
  · refine ⟨by simp, by simp, by simp, fun j x hj => by simp at hj, fun j x hj hx => ?_⟩
    have := (List.getElem?_eq_some_iff.1 hx).1
    simp only at hj
    omega
  rintro ⟨lo, hi⟩ ⟨k1, k2, k3, k4⟩
  simp only at k1 k2 k3 k4
  simp -dsimp [-Prod.forall, -Prod.exists]
  refine ⟨fun h1 => ?_, fun h1 => ?_⟩
  · have e : IntKind.i64.wrap ((IntKind.i64.wrap ((lo : Int) + hi)).tdiv 2) = ((lo + hi) / 2 : Nat) := by
      rw [w64 (n := (lo : Int) + hi) (by omega) (by omega), Int.tdiv_eq_ediv_of_nonneg (by omega), w64 (by omega) (by omega)]
      omega
    rw [e]
    generalize hm : (lo + hi) / 2 = md
    have hm1 : lo ≤ md ∧ md < hi := by omega
    refine ⟨⟨by omega, by omega⟩, fun x hx => ?_⟩
    rw [Int.toNat_natCast] at hx
    refine call_of (s_lessG x m) rfl (by simp) ?_
    try simp -dsimp
    try (first | exact fp_one (by decide) | refine fp_and (by decide) ?_)
    refine ⟨fun hlt => ⟨md + 1, hi, ⟨by rw [w64 (by omega) (by omega)]; simp, rfl⟩, ⟨by omega, by omega, fun j y hj hy => ?_, k4⟩, by omega⟩, fun hlt => ⟨lo, md, ⟨rfl, rfl⟩, ⟨by omega, by omega, k3, fun j y hj hy => ?_⟩, by omega⟩⟩
    · by_cases e2 : j = md
      · subst e2
        rw [hx] at hy
        cases hy
        exact hlt
      · exact ltG_trans (srt_get hs hy hx (by omega)) hlt
    · by_cases e2 : j = md
      · subst e2
        rw [hx] at hy
        cases hy
        exact hlt
      · cases hq : ltG y m with
        | false => rfl
        | true =>
          rw [ltG_trans (srt_get hs hx hy (by omega)) hq] at hlt
          cases hlt
  · rw [plc_eq (k := lo) (by omega) k3 (fun j x hj hx => k4 j x (by omega) hx)]
theorem plc_has {l : List G6} {m : G6} (hs : srt l) : (plc l m < l.length ∧ l[plc l m]? = some m) ↔ m ∈ l := by
  constructor
  · exact fun h => List.mem_of_getElem? h.2
  · intro h
    obtain ⟨j, hj⟩ := List.getElem?_of_mem h
    have hjl := (List.getElem?_eq_some_iff.1 hj).1
    have : plc l m = j := plc_eq (by omega) (fun i x hi hx => srt_get hs hx hj hi) (fun i x hi hx => by
      by_cases e : i = j
      · subst e
        rw [hj] at hx
        cases hx
        exact ltG_irr m
      · cases hq : ltG x m with
        | false => rfl
        | true =>
          have := ltG_trans (srt_get hs hj hx (by omega)) hq
          rw [ltG_irr] at this
          cases this)
    rw [this]
    exact ⟨hjl, hj⟩
theorem s_shas (l : List G6) (m : G6) (hs : srt l) (hl : l.length ≤ 1048576) : Sp Tryz.prog 152 [.v (vgs l), aG6 m] (vb (decide (m ∈ l))) [] := by
  refine sp_of (m := no) mixed Tryz.func152 k152 ?_
  have hp := plc_has (m := m) hs
  simp -dsimp [q, -Prod.forall, -Prod.exists]
  refine call_of (s_place l m hs hl) rfl (by simp) ?_
  try simp -dsimp
  try (first | exact fp_one (by decide) | refine fp_and (by decide) ?_)
  refine ⟨fun h1 => ⟨h1, fun a b c d x y hx => ?_⟩, fun h1 hm => ?_⟩
  · rw [Bool.eq_iff_iff, cdec_true, decide_eq_true_iff, ← hp, hx]
    obtain ⟨⟨a', b', c', d'⟩, x', y'⟩ := m
    simp only [Option.some.injEq, Prod.mk.injEq]
    constructor
    · rintro ⟨rfl, rfl, rfl, rfl, rfl, rfl⟩; exact ⟨h1, ⟨rfl, rfl, rfl, rfl⟩, rfl, rfl⟩
    · rintro ⟨_, ⟨rfl, rfl, rfl, rfl⟩, rfl, rfl⟩; exact ⟨rfl, rfl, rfl, rfl, rfl, rfl⟩
  · have := (hp.2 hm).1
    omega
end Go.Proofs.YtgkhakhkebjbpaaGreatEv
namespace Go.Proofs.YtgkhakhkebjbpaaGreatEv
open Go Go.Proofs
set_option maxRecDepth 10000
theorem s_own (l : List Int) (hl : l.length ≤ 1048576) : Sp Tryz.prog 135 [.v (vis l)] (.sli 0) [.row 0 2 (is l)] := by
  refine sp_of (m := no) mixed Tryz.func135 k135 ?_
  simp -dsimp [q]
  exact ⟨by omega, by omega⟩
theorem is_ne (l : List Int) (h : l ≠ []) : is l ≠ [] := by simpa [is] using h
theorem s_clone (l : List Int) (hl : l.length ≤ 1048576) (h0 : l ≠ []) : Sp Tryz.prog 134 [.v (vis l)] (.sli 0) [.row 0 2 (is l)] := by
  refine sp_of (m := no) mixed Tryz.func134 k134 ?_
  simp -dsimp [q]
  exact ⟨is_ne l h0, by omega, by omega⟩
def maskL (l : List Int) (ink : Int) : List Int := l.map fun x => if x = ink then 1 else 0
theorem maskL_len (l : List Int) (ink : Int) : (maskL l ink).length = l.length := by simp [maskL]
theorem maskL_take {l : List Int} {ink z : Int} {n : Nat} (h : l[n]? = some z) : (maskL l ink).take (n + 1) = (maskL l ink).take n ++ [if z = ink then 1 else 0] := by
  rw [List.take_add_one]
  simp [maskL, h]
theorem s_mask (f a b c : Int) (l : List Int) (ink : Int) (hl : l.length ≤ 1048576) (h0 : l ≠ []) : Sp Tryz.prog 96 [aP f a b c l, vi ink] (aP f a b c (maskL l ink)) [] := by
  refine sp_of (m := no) mixed Tryz.func96 k96 ?_
  simp -dsimp [q]
  refine awp_it (false :: true :: false :: false :: true :: true :: false :: false :: false :: false :: false :: false :: false :: false :: false :: true :: true :: true :: []) (fun i : Nat => [(17, vi i)]) (fun i => match i with | 0 => [] | i + 1 => [(1, .box [vi f, vi a, vi b, vi c, .sli 2]), (2, .row 0 2 (is ((maskL l ink).take (i + 1))))]) (fun i => i ≤ l.length) (fun i => l.length - i) 0 ?_
  intro s0 e
  simp -dsimp at e
  subst e
  refine ⟨?_, ?_⟩
  · simp
  intro i hi
  cases i with
  | zero =>
    simp -dsimp
    refine ⟨fun h1 => ⟨h1, fun z hz => ?_⟩, fun h1 => absurd h1 h0⟩
    have ht := maskL_take (ink := ink) hz
    simp at ht
    constructor
    · intro e
      rw [if_pos e] at ht
      exact ⟨1, by rw [w64 (by omega) (by omega)]; simp [ht], by omega, by omega⟩
    · intro e
      rw [if_neg e] at ht
      exact ⟨1, by rw [w64 (by omega) (by omega)]; simp [ht], by omega, by omega⟩
  | succ i =>
    simp -dsimp [maskL_len]
    refine ⟨fun h1 => ⟨⟨by omega, h1⟩, fun z hz => ?_⟩, fun h1 => ?_⟩
    · have ht := maskL_take (ink := ink) hz
      constructor
      · intro e
        rw [if_pos e] at ht
        refine ⟨⟨by omega, by omega⟩, i + 2, ⟨by rw [w64 (by omega) (by omega)]; simp; omega, ?_⟩, by omega, by omega⟩
        simp [ht]
      · intro e
        rw [if_neg e] at ht
        refine ⟨⟨by omega, by omega⟩, i + 2, ⟨by rw [w64 (by omega) (by omega)]; simp; omega, ?_⟩, by omega, by omega⟩
        simp [ht]
    · rw [List.take_of_length_le (by rw [maskL_len]; omega)]
theorem s_smask (f a b c : Int) (l : List Int) (ink : Int) (hl : l.length ≤ 1048576) : Sp Tryz.prog 99 [aP f a b c l, vi ink] (aP f a b c (maskL l ink)) [] := by
  refine sp_of (m := no) mixed Tryz.func99 k99 ?_
  simp -dsimp [q]
  refine awp_it (false :: true :: true :: false :: true :: true :: true :: []) (fun i : Nat => [(6, vi i)]) (fun i => [(3, .row 0 2 (is ((maskL l ink).take i)))]) (fun i => i ≤ l.length) (fun i => l.length - i) 0 ?_
  intro s0 e
  simp -dsimp at e
  subst e
  refine ⟨?_, ?_⟩
  · simp
  intro i hi
  simp -dsimp [maskL_len]
  refine ⟨fun h1 => ⟨h1, fun z hz => ?_⟩, fun h1 => ?_⟩
  · have ht := maskL_take (ink := ink) hz
    constructor
    · intro e
      rw [if_pos e] at ht
      refine ⟨⟨by omega, by omega⟩, i + 1, ⟨by rw [w64 (by omega) (by omega)]; simp, ?_⟩, by omega, by omega⟩
      simp [ht]
    · intro e
      rw [if_neg e] at ht
      refine ⟨⟨by omega, by omega⟩, i + 1, ⟨by rw [w64 (by omega) (by omega)]; simp, ?_⟩, by omega, by omega⟩
      simp [ht]
  · rw [List.take_of_length_le (by rw [maskL_len]; omega)]
abbrev ovI (p m : List Int) (ink : Int) (n : Nat) : List Int := setN (fun k => decide (m.getD k 0 = 1)) (fun k => k) (fun _ => ink) p n
theorem s_overprint (f a b c : Int) (p : List Int) (f' a' b' c' : Int) (m : List Int) (ink : Int) (hp : p.length ≤ 1048576) (h0 : p ≠ []) (hm : m.length = p.length) : Sp Tryz.prog 95 [aP f a b c p, aP f' a' b' c' m, vi ink] (oP f a b c 0) [.row 0 2 (is (ovI p m ink p.length))] := by
  refine sp_of (m := no) mixed Tryz.func95 k95 ?_
  simp -dsimp [q]
  refine call_of (s_clone p hp h0) rfl (by simp) ?_
  try simp -dsimp
  try (first | exact fp_one (by decide) | refine fp_and (by decide) ?_)
  refine awp_it (false :: false :: true :: false :: false :: false :: true :: true :: false :: false :: false :: false :: false :: false :: false :: false :: false :: false :: false :: true :: true :: true :: []) (fun i : Nat => [(21, vi i)]) (fun i => [(2, .row 0 2 (is (ovI p m ink i)))]) (fun i => i ≤ p.length) (fun i => p.length - i) 0 ?_
  intro s0 e
  simp -dsimp at e
  subst e
  refine ⟨?_, ?_⟩
  · simp [ovI, setN]
  intro i hi
  simp -dsimp [setN_len, hm]
  refine ⟨fun h1 => ⟨h1, fun z hz => ?_⟩, fun h1 => ?_⟩
  · have hg : m.getD i 0 = z := by simp [hz]
    refine ⟨fun e => ⟨h1, i + 1, ⟨by rw [w64 (by omega) (by omega)]; simp, ?_⟩, by omega, by omega⟩, fun e => ⟨i + 1, ⟨by rw [w64 (by omega) (by omega)]; simp, ?_⟩, by omega, by omega⟩⟩
    · simp only [ovI, setN, hg, decide_eq_true e, if_true]
    · simp only [ovI, setN, hg, decide_eq_false e, if_false, Bool.false_eq_true]
  · rw [show i = p.length by omega]
abbrev ovS (a b c u v : Int) (p m : List Int) (ink : Int) (n : Nat) : List Int := setN (fun k => decide (m.getD k 0 = 1)) (mv a b c u v) (fun _ => ink) p n
theorem s_over (f a b c : Int) (p : List Int) (f' a' b' c' : Int) (m : List Int) (ink u v : Int) (hl : okL a b c = true) (hp : (p.length : Int) = a * c) (hm : m.length = p.length) (hu : u.natAbs ≤ 1000) (hv : v.natAbs ≤ 1000) : Sp Tryz.prog 98 [aP f a b c p, aP f' a' b' c' m, vi ink, aV u v] (oP f a b c 0) [.row 0 2 (is (ovS a b c u v p m ink p.length))] := by
  obtain ⟨ha, hc, hb, hac⟩ := okL_spec.1 hl
  have h1 := ac_pos ha.1 hc.1
  have hn := nat_n ha.1 hc.1 hp
  refine sp_of (m := no) mixed Tryz.func98 k98 ?_
  simp -dsimp [q]
  refine call_of (s_scells a b c ha hc) rfl (by simp) ?_
  try simp -dsimp
  try (first | exact fp_one (by decide) | refine fp_and (by decide) ?_)
  refine call_of (s_own p (by omega)) rfl (by simp) ?_
  try simp -dsimp
  try (first | exact fp_one (by decide) | refine fp_and (by decide) ?_)
  refine awp_it (false :: false :: true :: false :: true :: true :: false :: true :: true :: true :: true :: true :: []) (fun i : Nat => [(11, vi i)]) (fun i => [(6, .row 0 2 (is (ovS a b c u v p m ink i)))]) (fun i => i ≤ p.length) (fun i => p.length - i) 0 ?_
  intro s0 e
  simp -dsimp at e
  subst e
  refine ⟨?_, ?_⟩
  · simp [ovS, setN]
  intro i hi
  simp -dsimp [setN_len, hm, cellsL_len, hn]
  refine ⟨fun h1 => ⟨h1, fun z hz => ?_⟩, fun h1 => ?_⟩
  · have hg : m.getD i 0 = z := by simp [hz]
    refine ⟨fun e => ⟨h1, fun x y hxy => ?_⟩, fun e => ⟨i + 1, ⟨by rw [w64 (by omega) (by omega)]; simp, ?_⟩, by omega, by omega⟩⟩
    · obtain ⟨⟨k1, k2⟩, k3, _⟩ := cell_of ha.1 hc.1 hxy
      have k4 := k3 b u v
      have k5 := num_range (a := a) (b := b) (c := c) (x := x + u) (y := y + v) (by omega) (by omega)
      refine call_of (s_sadd _ _ _ _ (by omega) (by omega) (by omega) (by omega)) rfl (by simp) ?_
      try simp -dsimp
      try (first | exact fp_one (by decide) | refine fp_and (by decide) ?_)
      refine call_of (s_snumber _ _ _ _ _ ha hb hc (by omega) (by omega)) rfl (by simp) ?_
      try simp -dsimp
      try (first | exact fp_one (by decide) | refine fp_and (by decide) ?_)
      simp only [setN_len]
      refine ⟨⟨k5.1, by omega⟩, by omega, by decide, i + 1, ⟨by rw [w64 (by omega) (by omega)]; simp, ?_⟩, by omega, by omega⟩
      simp only [ovS, setN, hg, decide_eq_true e, if_true, k4]
    · simp only [ovS, setN, hg, decide_eq_false e, if_false, Bool.false_eq_true]
  · rw [show i = p.length by omega]
end Go.Proofs.YtgkhakhkebjbpaaGreatEv
namespace Go.Proofs.YtgkhakhkebjbpaaGreatEv
open Go Go.Proofs
set_option maxRecDepth 10000
theorem lf_one {a : Int} (ha : 0 < a) : lstep (0, 0, 0) (a, 0) = (a, 0, 0) ∧ lstepS (0, 0, 0) (a, 0) = (a, 0, 0) := by
  have h : (a.natAbs : Int) = a := by omega
  simp [lstep, lstepS, eu, h]
theorem eu_two {a b c : Int} (hc : 0 < c) : eu c.natAbs (0, 0) (b, c) = ((b, c), (0, 0)) := by
  have h := eu_step (h := (0, 0)) (v := (b, c)) (show c ≠ 0 by omega)
  simp only at h
  rw [h]
  simp [eu]
theorem lf_two {a b c : Int} (ha : 0 < a) (hc : 0 < c) : lstep (a, 0, 0) (b, c) = (a, b, c) ∧ lstepS (a, 0, 0) (b, c) = (a, b % a, c) := by
  have h : (a.natAbs : Int) = a := by omega
  simp only [lstep, lstepS, eu_two (a := a) (b := b) hc, Int.gcd_zero_right, h, if_pos ha, and_self]
theorem lf_basis {a b c : Int} (ha : 0 < a) (hc : 0 < c) : lfold [(a, 0), (b, c)] = (a, b, c) ∧ lfoldS [(a, 0), (b, c)] = (a, b % a, c) := by
  simp only [lfold, lfoldS, List.foldl_cons, List.foldl_nil, lf_one ha, lf_two ha hc, and_self]
theorem take2 {α : Type} (x y : α) (P : List α → Prop) (h0 : P []) (h1 : P [x]) (h2 : P [x, y]) : ∀ k, P (([x, y] : List α).take k)
  | 0 => h0
  | 1 => h1
  | k + 2 => by simpa using h2
theorem ls_basis {a b c : Int} (ha : 1 ≤ a ∧ a ≤ 64) (hb : 0 ≤ b ∧ b < a) (hc : 1 ≤ c ∧ c ≤ 64) : lsmall [(a, 0), (b, c)] ∧ lsmallS [(a, 0), (b, c)] := by
  have hv : ∀ v ∈ ([(a, 0), (b, c)] : List (Int × Int)), smallV 1000000 v := by
    intro v hv
    simp only [List.mem_cons, List.not_mem_nil, or_false] at hv
    rcases hv with rfl | rfl <;> exact ⟨by simp only; omega, by simp only; omega⟩
  have h1 := lf_one (a := a) (by omega)
  have h2 := lf_basis (a := a) (b := b) (c := c) (by omega) (by omega)
  have h3 : b % a = b := Int.emod_eq_of_lt hb.1 hb.2
  refine ⟨⟨hv, take2 _ _ (fun l => smallV 1000000 (lfold l).2 ∧ (lfold l).1.natAbs ≤ 1000000) ?_ ?_ ?_⟩, hv, take2 _ _ (fun l => smallV 1000000 (lfoldS l).2 ∧ (lfoldS l).1.natAbs ≤ 1000000) ?_ ?_ ?_⟩
  · simp [lfold, smallV]
  · simp only [lfold, List.foldl_cons, List.foldl_nil, h1.1, smallV]; omega
  · rw [h2.1]; simp only [smallV]; omega
  · simp [lfoldS, smallV]
  · simp only [lfoldS, List.foldl_cons, List.foldl_nil, h1.2, smallV]; omega
  · rw [h2.2]; simp only [smallV]; omega
theorem s_latticeOf_basis (a b c : Int) (ha : 1 ≤ a ∧ a ≤ 64) (hb : 0 ≤ b ∧ b < a) (hc : 1 ≤ c ∧ c ≤ 64) : Sp Tryz.prog 106 [.v (vvs [(a, 0), (b, c)])] (aL a b c) [] := by
  have h := s_latticeOf [(a, 0), (b, c)] (by simp) (ls_basis ha hb hc).1 (by rw [(lf_basis (by omega) (by omega)).1]; simp only; omega)
  rw [(lf_basis (by omega) (by omega)).1] at h
  simp only [lfin, if_neg (show ¬ c < 0 by omega), Int.emod_eq_of_lt hb.1 hb.2] at h
  exact h
theorem s_hermite_basis (a b c : Int) (ha : 1 ≤ a ∧ a ≤ 64) (hb : 0 ≤ b ∧ b < a) (hc : 1 ≤ c ∧ c ≤ 64) : Sp Tryz.prog 120 [.v (vvs [(a, 0), (b, c)])] (aL a b c) [] := by
  have h := s_hermite [(a, 0), (b, c)] (by simp) (ls_basis ha hb hc).2 (by rw [(lf_basis (by omega) (by omega)).2]; simp only; omega)
  rw [(lf_basis (by omega) (by omega)).2] at h
  simp only [lfin, if_neg (show ¬ c < 0 by omega), Int.emod_eq_of_lt hb.1 hb.2] at h
  exact h
theorem s_sbasisL (a b c : Int) : Sp Tryz.prog 118 [aL a b c] (.v (.sl 2 [.ag [.int .i64 a, .int .i64 0], .ag [.int .i64 b, .int .i64 c]])) [] := s_sbasis a b c
theorem s_image1 (a b c : Int) (ha : 1 ≤ a ∧ a ≤ 64) (hb : 0 ≤ b ∧ b < a) (hc : 1 ≤ c ∧ c ≤ 64) : Sp Tryz.prog 102 [aM 1 0 0 1, aL a b c] (aL a b c) [] := by
  refine sp_of (m := no) mixed Tryz.func102 k102 ?_
  simp -dsimp [q]
  refine call_of (s_sbasisL a b c) rfl (by simp) ?_
  try simp -dsimp
  try (first | exact fp_one (by decide) | refine fp_and (by decide) ?_)
  refine call_of (s_sapply 1 0 0 1 a 0 (by decide) ⟨by omega, by omega⟩) rfl (by simp) ?_
  try simp -dsimp
  try (first | exact fp_one (by decide) | refine fp_and (by decide) ?_)
  refine call_of (s_sapply 1 0 0 1 b c (by decide) ⟨by omega, by omega⟩) rfl (by simp) ?_
  try simp -dsimp
  try (first | exact fp_one (by decide) | refine fp_and (by decide) ?_)
  refine call_of (s_hermite_basis a b c ha hb hc) rfl (by simp) ?_
  try simp -dsimp
  try (first | exact fp_one (by decide) | refine fp_and (by decide) ?_)
abbrev mvI (a b c u v : Int) (l : List Int) (n : Nat) : List Int := (List.range n).map fun j => l.getD (mv a b c (-u) (-v) j) 0
theorem mvI_take {a b c u v : Int} {l : List Int} {n i : Nat} (hi : i < n) : (mvI a b c u v l n).take (i + 1) = (mvI a b c u v l n).take i ++ [l.getD (mv a b c (-u) (-v) i) 0] := by
  rw [List.take_add_one]
  simp [mvI, List.getElem?_range hi]
theorem mvI_len {a b c u v : Int} {l : List Int} {n : Nat} : (mvI a b c u v l n).length = n := by simp [mvI]
theorem s_move1 (f a b c u v : Int) (l : List Int) (hf : okP f a b c l = true) (hu : u.natAbs ≤ 1000) (hv : v.natAbs ≤ 1000) : Sp Tryz.prog 59 [aP f a b c l, aG 1 0 0 1 u v] (aP f a b c (mvI a b c u v l l.length)) [] := by
  obtain ⟨_, h2, h3, _⟩ := okP_spec.1 hf
  obtain ⟨ha, hc, hb, hac⟩ := okL_spec.1 h2
  have h1 := ac_pos ha.1 hc.1
  have hn := nat_n ha.1 hc.1 h3
  refine sp_of (m := no) mixed Tryz.func59 k59 ?_
  simp -dsimp [q]
  refine call_of (s_basis a b c) rfl (by simp) ?_
  try simp -dsimp
  try (first | exact fp_one (by decide) | refine fp_and (by decide) ?_)
  refine call_of (s_apply 1 0 0 1 a 0 (by decide) ⟨by omega, by omega⟩) rfl (by simp) ?_
  try simp -dsimp
  try (first | exact fp_one (by decide) | refine fp_and (by decide) ?_)
  refine call_of (s_apply 1 0 0 1 b c (by decide) ⟨by omega, by omega⟩) rfl (by simp) ?_
  try simp -dsimp
  try (first | exact fp_one (by decide) | refine fp_and (by decide) ?_)
  refine call_of (s_latticeOf_basis a b c ha hb hc) rfl (by simp) ?_
  try simp -dsimp
  try (first | exact fp_one (by decide) | refine fp_and (by decide) ?_)
  refine call_of (s_ginv1 u v (by omega) (by omega)) rfl (by simp) ?_
  try simp -dsimp
  try (first | exact fp_one (by decide) | refine fp_and (by decide) ?_)
  refine call_of (s_cells a b c ha hc) rfl (by simp) ?_
  try simp -dsimp
  try (first | exact fp_one (by decide) | refine fp_and (by decide) ?_)
  refine awp_it (false :: false :: true :: false :: true :: false :: false :: true :: true :: false :: false :: false :: false :: false :: false :: false :: false :: false :: false :: false :: false :: false :: false :: false :: false :: false :: false :: false :: false :: false :: false :: false :: false :: false :: true :: true :: true :: []) (fun i : Nat => [(36, vi i)]) (fun i => match i with | 0 => [] | i + 1 => [(2, .box [vi f, vi a, vi b, vi c, .sli 5]), (5, .row 0 2 (is ((mvI a b c u v l l.length).take (i + 1))))]) (fun i => i ≤ l.length) (fun i => l.length - i) 0 ?_
  intro s0 e
  simp -dsimp at e
  subst e
  refine ⟨?_, ?_⟩
  · simp
  intro i hi
  cases i with
  | zero =>
    simp -dsimp [cellsL_len, hn]
    refine ⟨fun _ => ⟨by omega, fun x y hxy => ?_⟩, by rintro rfl; simp at h3; omega⟩
    obtain ⟨⟨k1, k2⟩, k3, _⟩ := cell_of ha.1 hc.1 hxy
    have k4 := k3 b (-u) (-v)
    have ht := mvI_take (a := a) (b := b) (c := c) (u := u) (v := v) (l := l) (show 0 < l.length by omega)
    simp only [List.take_zero, List.nil_append] at ht
    rw [k4] at ht
    refine call_of (s_gapply 1 0 0 1 (-u) (-v) x y (by decide) ⟨by omega, by omega⟩ ⟨by omega, by omega⟩) rfl (by simp) ?_
    try simp -dsimp
    try (first | exact fp_one (by decide) | refine fp_and (by decide) ?_)
    refine call_of (s_at f a b c (x + -u) (y + -v) l hf (by omega) (by omega)) rfl (by simp) ?_
    try simp -dsimp
    try (first | exact fp_one (by decide) | refine fp_and (by decide) ?_)
    refine ⟨1, ⟨by rw [w64 (by omega) (by omega)]; simp, ?_⟩, by omega, by omega⟩
    simp [ht]
  | succ i =>
    simp -dsimp [cellsL_len, hn]
    refine ⟨fun h5 => ⟨⟨by omega, h5⟩, by omega, fun x y hxy => ?_⟩, fun h5 => ?_⟩
    · obtain ⟨⟨k1, k2⟩, k3, _⟩ := cell_of ha.1 hc.1 hxy
      have k4 := k3 b (-u) (-v)
      have ht := mvI_take (a := a) (b := b) (c := c) (u := u) (v := v) (l := l) (show i + 1 < l.length by omega)
      rw [k4] at ht
      refine call_of (s_gapply 1 0 0 1 (-u) (-v) x y (by decide) ⟨by omega, by omega⟩ ⟨by omega, by omega⟩) rfl (by simp) ?_
      try simp -dsimp
      try (first | exact fp_one (by decide) | refine fp_and (by decide) ?_)
      refine call_of (s_at f a b c (x + -u) (y + -v) l hf (by omega) (by omega)) rfl (by simp) ?_
      try simp -dsimp
      try (first | exact fp_one (by decide) | refine fp_and (by decide) ?_)
      refine ⟨⟨by omega, by omega⟩, by decide, i + 2, ⟨by rw [w64 (by omega) (by omega)]; simp; omega, ?_⟩, by omega, by omega⟩
      simp [ht]
    · rw [List.take_of_length_le (by rw [mvI_len]; omega)]
theorem mvS_eq {a b c u v : Int} {l : List Int} (ha : 0 < a) (hc : 0 < c) (hl : (l.length : Int) = a * c) : setN (fun _ => true) (mv a b c u v) (fun k => l.getD k 0) (List.replicate l.length 0) l.length = mvI a b c u v l l.length := by
  apply List.ext_getElem?
  intro j
  by_cases hj : j < l.length
  · have h1 : mv a b c (-u) (-v) j < l.length := by have := mv_lt (b := b) (u := -u) (v := -v) ha hc j; omega
    rw [setN_get (p := fun _ => true) (i := mv a b c (-u) (-v) j) (m := l.length) (by simpa using hj) h1 (fun k hk => mv_iff ha hc (by omega) (by omega)) l.length (Nat.le_refl _)]
    simp [h1, hj, mvI, List.getElem?_range hj]
  · rw [List.getElem?_eq_none (by rw [setN_len]; simp; omega), List.getElem?_eq_none (by rw [mvI_len]; omega)]
theorem s_smove1 (f a b c u v : Int) (l : List Int) (hf : okP f a b c l = true) (hu : u.natAbs ≤ 1000) (hv : v.natAbs ≤ 1000) : Sp Tryz.prog 54 [aP f a b c l, aG 1 0 0 1 u v] (aP f a b c (mvI a b c u v l l.length)) [] := by
  obtain ⟨_, h2, h3, _⟩ := okP_spec.1 hf
  obtain ⟨ha, hc, hb, hac⟩ := okL_spec.1 h2
  have h1 := ac_pos ha.1 hc.1
  have hn := nat_n ha.1 hc.1 h3
  rw [← mvS_eq (by omega) (by omega) h3]
  refine sp_of (m := no) mixed Tryz.func54 k54 ?_
  simp -dsimp [q]
  refine call_of (s_image1 a b c ha hb hc) rfl (by simp) ?_
  try simp -dsimp
  try (first | exact fp_one (by decide) | refine fp_and (by decide) ?_)
  refine call_of (s_scells a b c ha hc) rfl (by simp) ?_
  try simp -dsimp
  try (first | exact fp_one (by decide) | refine fp_and (by decide) ?_)
  simp only [cellsL_len, hn]
  refine ⟨by omega, by decide, ?_⟩
  refine awp_it (false :: false :: true :: true :: true :: true :: true :: true :: true :: []) (fun i : Nat => [(8, vi i)]) (fun i => [(6, .row 0 2 (is (setN (fun _ => true) (mv a b c u v) (fun k => l.getD k 0) (List.replicate l.length 0) i)))]) (fun i => i ≤ l.length) (fun i => l.length - i) 0 ?_
  intro s0 e
  simp -dsimp at e
  subst e
  refine ⟨?_, ?_⟩
  · simp [setN]
  intro i hi
  simp -dsimp [setN_len, cellsL_len, hn]
  refine ⟨fun h5 => ⟨by omega, fun x y hxy => ?_⟩, fun h5 => ?_⟩
  · obtain ⟨⟨k1, k2⟩, k3, _⟩ := cell_of ha.1 hc.1 hxy
    have k4 := k3 b u v
    have k5 := num_range (a := a) (b := b) (c := c) (x := x + u) (y := y + v) (by omega) (by omega)
    refine call_of (s_sgapply 1 0 0 1 u v x y (by decide) ⟨by omega, by omega⟩ ⟨by omega, by omega⟩) rfl (by simp) ?_
    try simp -dsimp
    try (first | exact fp_one (by decide) | refine fp_and (by decide) ?_)
    refine call_of (s_snumber _ _ _ _ _ ha hb hc (by omega) (by omega)) rfl (by simp) ?_
    try simp -dsimp
    try (first | exact fp_one (by decide) | refine fp_and (by decide) ?_)
    refine ⟨h5, fun z hz => ?_⟩
    simp only [setN_len, List.length_replicate]
    refine ⟨⟨by omega, by omega⟩, by omega, by decide, i + 1, ⟨by rw [w64 (by omega) (by omega)]; simp, ?_⟩, by omega, by omega⟩
    simp [setN, k4, hz]
  · rw [show i = l.length by omega]
theorem s_equal (xs ys : List Int) (hx : xs.length ≤ 1048576) : Sp Tryz.prog 58 [.v (vis xs), .v (vis ys)] (vb (decide (xs = ys))) [] := by
  refine sp_of (m := no) mixed Tryz.func58 k58 ?_
  simp -dsimp [q]
  refine ⟨fun h e => h (by rw [e]), fun hl => ?_⟩
  refine awp_it (true :: true :: false :: false :: false :: false :: false :: false :: false :: false :: false :: false :: true :: true :: []) (fun i : Nat => [(13, vi i)]) (fun i => []) (fun i => i ≤ xs.length ∧ xs.take i = ys.take i) (fun i => xs.length - i) 0 ?_
  intro s0 e
  simp -dsimp at e
  subst e
  refine ⟨?_, ?_⟩
  · simp
  intro i hi
  simp -dsimp
  obtain ⟨hi, ht⟩ := hi
  refine ⟨fun h1 => ⟨h1, fun a ha => ⟨by omega, fun b hb => ⟨fun hn e => ?_, fun e => ⟨i + 1, by rw [w64 (by omega) (by omega)]; simp, ⟨by omega, ?_⟩, by omega⟩⟩⟩⟩, fun h1 => ?_⟩
  · subst e
    rw [ha] at hb
    cases hb
    exact hn rfl
  · subst e
    rw [List.take_add_one, List.take_add_one, ht, ha, hb]
  · have h2 : i = xs.length := by omega
    subst h2
    rw [List.take_length, List.take_of_length_le (by omega)] at ht
    exact ht
theorem s_ssame (xs ys : List Int) (hx : xs.length ≤ 1048576) : Sp Tryz.prog 110 [.v (vis xs), .v (vis ys)] (vb (decide (xs = ys))) [] := by
  refine sp_of (m := no) mixed Tryz.func110 k110 ?_
  simp -dsimp [q]
  refine ⟨fun h e => h (by rw [e]), fun hl => ?_⟩
  refine awp_it (true :: true :: false :: false :: false :: true :: []) (fun i : Nat => [(5, vi i)]) (fun i => []) (fun i => i ≤ xs.length ∧ xs.take i = ys.take i) (fun i => xs.length - i) 0 ?_
  intro s0 e
  simp -dsimp at e
  subst e
  refine ⟨?_, ?_⟩
  · simp
  intro i hi
  simp -dsimp
  obtain ⟨hi, ht⟩ := hi
  refine ⟨fun h1 => ⟨h1, fun a ha => ⟨by omega, fun b hb => ⟨fun hn e => ?_, fun e => ⟨i + 1, by rw [w64 (by omega) (by omega)]; simp, ⟨by omega, ?_⟩, by omega⟩⟩⟩⟩, fun h1 => ?_⟩
  · subst e
    rw [ha] at hb
    cases hb
    exact hn rfl
  · subst e
    rw [List.take_add_one, List.take_add_one, ht, ha, hb]
  · have h2 : i = xs.length := by omega
    subst h2
    rw [List.take_length, List.take_of_length_le (by omega)] at ht
    exact ht
theorem cdec_eq (p : Prop) [Decidable p] : cdec p = decide p := by
  by_cases h : p
  · rw [decide_eq_true h, cdec_true.2 h]
  · rw [decide_eq_false h, cdec_false.2 h]
theorem s_sameCells (f a b c : Int) (l : List Int) (f' a' b' c' : Int) (l' : List Int) : Sp Tryz.prog 56 [aP f a b c l, aP f' a' b' c' l'] (vb (decide (f = f' ∧ a = a' ∧ b = b' ∧ c = c'))) [] := by
  refine sp_of (m := no) mixed Tryz.func56 k56 ?_
  simp -dsimp [q, cdec_eq]
  by_cases h : f = f'
  · simp [h]
  · simp [h]
theorem s_ssameP (f a b c : Int) (l : List Int) (f' a' b' c' : Int) (l' : List Int) (hl : l.length ≤ 1048576) : Sp Tryz.prog 62 [aP f a b c l, aP f' a' b' c' l'] (vb (decide (f = f' ∧ (a = a' ∧ b = b' ∧ c = c') ∧ l = l'))) [] := by
  refine sp_of (m := no) mixed Tryz.func62 k62 ?_
  simp -dsimp [q, cdec_eq]
  by_cases h1 : f = f'
  case neg => simp [h1]
  by_cases h2 : a = a' ∧ b = b' ∧ c = c'
  case neg =>
    refine ⟨fun _ => ⟨fun e1 e2 e3 => absurd ⟨e1, e2, e3⟩ h2, fun _ => ?_⟩, fun e => absurd h1 e⟩
    exact fun _ e1 e2 e3 => absurd ⟨e1, e2, e3⟩ h2
  obtain ⟨rfl, rfl, rfl⟩ := h2
  subst h1
  refine ⟨fun _ => ⟨fun _ _ _ => ?_, fun h => absurd rfl (h rfl rfl)⟩, fun e => absurd rfl e⟩
  refine call_of (s_ssame l l' hl) rfl (by simp) ?_
  try simp -dsimp
  try (first | exact fp_one (by decide) | refine fp_and (by decide) ?_)
/-! the search -/
def fR : Option (Int × Int) → Int × Int × Int
  | some t => (t.1, t.2, 0)
  | none => (0, 0, 4)
def fF (a b c : Int) (l l' : List Int) : Option (Int × Int) := (cellsL c.toNat a.toNat).find? fun t => decide (mvI a b c t.1 t.2 l l.length = l')
theorem find_hit {α : Type} {l : List α} {p : α → Bool} {i : Nat} {z : α} (hz : l[i]? = some z) (hp : p z = true) (hn : ∀ x ∈ l.take i, p x = false) : l.find? p = some z := by
  obtain ⟨hi, rfl⟩ := List.getElem?_eq_some_iff.1 hz
  refine List.find?_eq_some_iff_getElem.2 ⟨hp, i, hi, rfl, fun j hj => ?_⟩
  simp [hn l[j] (List.mem_take_iff_getElem.2 ⟨j, by omega, rfl⟩)]
theorem find_miss {α : Type} {l : List α} {p : α → Bool} {i : Nat} (hi : l.length ≤ i) (hn : ∀ x ∈ l.take i, p x = false) : l.find? p = none := by
  rw [List.take_of_length_le hi] at hn
  exact List.find?_eq_none.2 (fun x hx => by simp [hn x hx])
theorem mem_take_succ {α : Type} {l : List α} {i : Nat} {z x : α} (hz : l[i]? = some z) (hx : x ∈ l.take (i + 1)) : x ∈ l.take i ∨ x = z := by
  rw [List.take_add_one, hz] at hx
  simpa using hx
theorem s_find (f a b c : Int) (l l' : List Int) (hf : okP f a b c l = true) (hf' : okP f a b c l' = true) (hl : l.length ≤ 1048576) (hl' : l'.length ≤ 1048576) : Sp Tryz.prog 13 [aP f a b c l, aP f a b c l'] (.tu [aV (fR (fF a b c l l')).1 (fR (fF a b c l l')).2.1, vi (fR (fF a b c l l')).2.2]) [] := by
  obtain ⟨_, h2, h3, _⟩ := okP_spec.1 hf
  obtain ⟨ha, hc, hb, hac⟩ := okL_spec.1 h2
  have h1 := ac_pos ha.1 hc.1
  have hn := nat_n ha.1 hc.1 h3
  have w1 := s_isP f a b c l hl
  have w2 := s_isP f a b c l' hl'
  have w3 := s_sameCells f a b c l f a b c l'
  rw [hf] at w1
  rw [hf'] at w2
  simp only [and_self, decide_true] at w3
  refine sp_of (m := no) mixed Tryz.func13 k13 ?_
  simp -dsimp [q]
  refine call_of (w1) rfl (by simp) ?_
  try simp -dsimp
  try (first | exact fp_one (by decide) | refine fp_and (by decide) ?_)
  refine call_of (w2) rfl (by simp) ?_
  try simp -dsimp
  try (first | exact fp_one (by decide) | refine fp_and (by decide) ?_)
  refine call_of (w3) rfl (by simp) ?_
  try simp -dsimp
  try (first | exact fp_one (by decide) | refine fp_and (by decide) ?_)
  refine call_of (s_cells a b c ha hc) rfl (by simp) ?_
  try simp -dsimp
  try (first | exact fp_one (by decide) | refine fp_and (by decide) ?_)
  refine awp_it (false :: false :: true :: true :: true :: false :: false :: false :: false :: false :: false :: false :: false :: false :: false :: false :: false :: false :: false :: false :: false :: false :: false :: false :: true :: true :: true :: []) (fun i : Nat => [(26, vi i)]) (fun i => []) (fun i => i ≤ l.length ∧ ∀ t ∈ (cellsL c.toNat a.toNat).take i, decide (mvI a b c t.1 t.2 l l.length = l') = false) (fun i => l.length - i) 0 ?_
  intro s0 e
  simp -dsimp at e
  subst e
  refine ⟨?_, ?_⟩
  · simp
  rintro i ⟨hi, hno⟩
  simp -dsimp [cellsL_len, hn]
  refine ⟨fun h5 => ⟨by omega, fun x y hxy => ?_⟩, fun h5 => ?_⟩
  · obtain ⟨⟨k1, k2⟩, _, _⟩ := cell_of ha.1 hc.1 hxy
    refine call_of (s_unit) rfl (by simp) ?_
    try simp -dsimp
    try (first | exact fp_one (by decide) | refine fp_and (by decide) ?_)
    refine call_of (s_move1 f a b c x y l hf (by omega) (by omega)) rfl (by simp) ?_
    try simp -dsimp
    try (first | exact fp_one (by decide) | refine fp_and (by decide) ?_)
    refine call_of (s_equal _ _ (by simp; omega)) rfl (by simp) ?_
    try simp -dsimp
    try (first | exact fp_one (by decide) | refine fp_and (by decide) ?_)
    refine ⟨fun e => ?_, fun e => ⟨i + 1, by rw [w64 (by omega) (by omega)]; simp, ⟨by omega, fun x' y' ht => ?_⟩, by omega⟩⟩
    · have : fF a b c l l' = some (x, y) := find_hit hxy (decide_eq_true e) hno
      simp [this, fR]
    · rcases mem_take_succ hxy ht with h | h
      · simpa using hno _ h
      · cases h; exact e
  · have : fF a b c l l' = none := find_miss (by rw [cellsL_len, hn]; exact h5) hno
    simp [this, fR]
theorem s_sfind (f a b c : Int) (l l' : List Int) (hf : okP f a b c l = true) (hf' : okP f a b c l' = true) (hl : l.length ≤ 1048576) (hl' : l'.length ≤ 1048576) : Sp Tryz.prog 14 [aP f a b c l, aP f a b c l'] (.tu [aV (fR (fF a b c l l')).1 (fR (fF a b c l l')).2.1, vi (fR (fF a b c l l')).2.2]) [] := by
  obtain ⟨_, h2, h3, _⟩ := okP_spec.1 hf
  obtain ⟨ha, hc, hb, hac⟩ := okL_spec.1 h2
  have h1 := ac_pos ha.1 hc.1
  have hn := nat_n ha.1 hc.1 h3
  have w1 := s_sisP f a b c l hl
  have w2 := s_sisP f a b c l' hl'
  rw [hf] at w1
  rw [hf'] at w2
  refine sp_of (m := no) mixed Tryz.func14 k14 ?_
  simp -dsimp [q, cdec_eq]
  refine call_of (w1) rfl (by simp) ?_
  try simp -dsimp
  try (first | exact fp_one (by decide) | refine fp_and (by decide) ?_)
  refine call_of (w2) rfl (by simp) ?_
  try simp -dsimp
  try (first | exact fp_one (by decide) | refine fp_and (by decide) ?_)
  refine call_of (s_scells a b c ha hc) rfl (by simp) ?_
  try simp -dsimp
  try (first | exact fp_one (by decide) | refine fp_and (by decide) ?_)
  refine awp_it (false :: false :: true :: true :: true :: false :: true :: true :: []) (fun i : Nat => [(7, vi i)]) (fun i => []) (fun i => i ≤ l.length ∧ ∀ t ∈ (cellsL c.toNat a.toNat).take i, decide (mvI a b c t.1 t.2 l l.length = l') = false) (fun i => l.length - i) 0 ?_
  intro s0 e
  simp -dsimp at e
  subst e
  refine ⟨?_, ?_⟩
  · simp
  rintro i ⟨hi, hno⟩
  simp -dsimp [cellsL_len, hn]
  refine ⟨fun h5 => ?_, fun h5 => ?_⟩
  · refine call_of (s_sunit) rfl (by simp) ?_
    try simp -dsimp
    try (first | exact fp_one (by decide) | refine fp_and (by decide) ?_)
    simp only [cellsL_len, hn]
    refine ⟨by omega, fun x y hxy => ?_⟩
    obtain ⟨⟨k1, k2⟩, _, _⟩ := cell_of ha.1 hc.1 hxy
    refine call_of (s_smove1 f a b c x y l hf (by omega) (by omega)) rfl (by simp) ?_
    try simp -dsimp
    try (first | exact fp_one (by decide) | refine fp_and (by decide) ?_)
    refine call_of (s_ssameP f a b c _ f a b c l' (by simp; omega)) rfl (by simp) ?_
    try simp -dsimp
    try (first | exact fp_one (by decide) | refine fp_and (by decide) ?_)
    refine ⟨fun e => ⟨by rw [cellsL_len, hn]; exact h5, fun x' y' hxy' => ?_⟩, fun e => ⟨i + 1, by rw [w64 (by omega) (by omega)]; simp, ⟨by omega, fun x' y' ht => ?_⟩, by omega⟩⟩
    · rw [hxy] at hxy'
      cases hxy'
      have : fF a b c l l' = some (x, y) := find_hit hxy (decide_eq_true e) hno
      simp [this, fR]
    · rcases mem_take_succ hxy ht with h | h
      · simpa using hno _ h
      · cases h; exact e
  · have : fF a b c l l' = none := find_miss (by rw [cellsL_len, hn]; exact h5) hno
    simp [this, fR]
/-! what is not to be searched -/
theorem s_find_bad (f a b c : Int) (l : List Int) (f' a' b' c' : Int) (l' : List Int) (hb : ¬ (okP f a b c l = true ∧ okP f' a' b' c' l' = true)) (hl : l.length ≤ 1048576) (hl' : l'.length ≤ 1048576) : Sp Tryz.prog 13 [aP f a b c l, aP f' a' b' c' l'] (.tu [aV 0 0, vi 1]) [] := by
  have w1 := s_isP f a b c l hl
  have w2 := s_isP f' a' b' c' l' hl'
  refine sp_of (m := no) mixed Tryz.func13 k13 ?_
  simp -dsimp [q]
  cases h1 : okP f a b c l
  · rw [h1] at w1
    refine call_of (w1) rfl (by simp) ?_
    try simp -dsimp
    try (first | exact fp_one (by decide) | refine fp_and (by decide) ?_)
  · rw [h1] at w1 hb
    refine call_of (w1) rfl (by simp) ?_
    try simp -dsimp
    try (first | exact fp_one (by decide) | refine fp_and (by decide) ?_)
    have h2 : okP f' a' b' c' l' = false := by simpa using hb
    rw [h2] at w2
    refine call_of (w2) rfl (by simp) ?_
    try simp -dsimp
    try (first | exact fp_one (by decide) | refine fp_and (by decide) ?_)
theorem s_sfind_bad (f a b c : Int) (l : List Int) (f' a' b' c' : Int) (l' : List Int) (hb : ¬ (okP f a b c l = true ∧ okP f' a' b' c' l' = true)) (hl : l.length ≤ 1048576) (hl' : l'.length ≤ 1048576) : Sp Tryz.prog 14 [aP f a b c l, aP f' a' b' c' l'] (.tu [aV 0 0, vi 1]) [] := by
  have w1 := s_sisP f a b c l hl
  have w2 := s_sisP f' a' b' c' l' hl'
  refine sp_of (m := no) mixed Tryz.func14 k14 ?_
  simp -dsimp [q]
  cases h1 : okP f a b c l
  · rw [h1] at w1
    refine call_of (w1) rfl (by simp) ?_
    try simp -dsimp
    try (first | exact fp_one (by decide) | refine fp_and (by decide) ?_)
  · rw [h1] at w1 hb
    refine call_of (w1) rfl (by simp) ?_
    try simp -dsimp
    try (first | exact fp_one (by decide) | refine fp_and (by decide) ?_)
    have h2 : okP f' a' b' c' l' = false := by simpa using hb
    rw [h2] at w2
    refine call_of (w2) rfl (by simp) ?_
    try simp -dsimp
    try (first | exact fp_one (by decide) | refine fp_and (by decide) ?_)
theorem s_find_far (f a b c : Int) (l : List Int) (f' a' b' c' : Int) (l' : List Int) (h1 : okP f a b c l = true) (h2 : okP f' a' b' c' l' = true) (h3 : ¬ (f = f' ∧ a = a' ∧ b = b' ∧ c = c')) (hl : l.length ≤ 1048576) (hl' : l'.length ≤ 1048576) : Sp Tryz.prog 13 [aP f a b c l, aP f' a' b' c' l'] (.tu [aV 0 0, vi 2]) [] := by
  have w1 := s_isP f a b c l hl
  have w2 := s_isP f' a' b' c' l' hl'
  have w3 := s_sameCells f a b c l f' a' b' c' l'
  rw [h1] at w1
  rw [h2] at w2
  rw [decide_eq_false h3] at w3
  refine sp_of (m := no) mixed Tryz.func13 k13 ?_
  simp -dsimp [q]
  refine call_of (w1) rfl (by simp) ?_
  try simp -dsimp
  try (first | exact fp_one (by decide) | refine fp_and (by decide) ?_)
  refine call_of (w2) rfl (by simp) ?_
  try simp -dsimp
  try (first | exact fp_one (by decide) | refine fp_and (by decide) ?_)
  refine call_of (w3) rfl (by simp) ?_
  try simp -dsimp
  try (first | exact fp_one (by decide) | refine fp_and (by decide) ?_)
theorem s_sfind_far (f a b c : Int) (l : List Int) (f' a' b' c' : Int) (l' : List Int) (h1 : okP f a b c l = true) (h2 : okP f' a' b' c' l' = true) (h3 : ¬ (f = f' ∧ a = a' ∧ b = b' ∧ c = c')) (hl : l.length ≤ 1048576) (hl' : l'.length ≤ 1048576) : Sp Tryz.prog 14 [aP f a b c l, aP f' a' b' c' l'] (.tu [aV 0 0, vi 2]) [] := by
  have w1 := s_sisP f a b c l hl
  have w2 := s_sisP f' a' b' c' l' hl'
  rw [h1] at w1
  rw [h2] at w2
  refine sp_of (m := no) mixed Tryz.func14 k14 ?_
  simp -dsimp [q, cdec_eq]
  refine call_of (w1) rfl (by simp) ?_
  try simp -dsimp
  try (first | exact fp_one (by decide) | refine fp_and (by decide) ?_)
  refine call_of (w2) rfl (by simp) ?_
  try simp -dsimp
  try (first | exact fp_one (by decide) | refine fp_and (by decide) ?_)
  exact fun e1 e2 e3 e4 => absurd ⟨e1, e2, e3, e4⟩ h3
end Go.Proofs.YtgkhakhkebjbpaaGreatEv
namespace Go.Proofs.YtgkhakhkebjbpaaGreatEv
open Go Go.Proofs
set_option maxRecDepth 10000
set_option maxHeartbeats 2000000
theorem s_reduceAny (a b c x y : Int) (ha : 1 ≤ a ∧ a ≤ 64) (hc : 1 ≤ c ∧ c ≤ 64) : ∃ X, ((0 ≤ X ∧ X < a) ∧ (inC a c (x, y) → X = x)) ∧ Sp Tryz.prog 117 [aL a b c, aV x y] (aV X (y % c)) [] := by
  refine ⟨(IntKind.i64.wrap (x - IntKind.i64.wrap (IntKind.i64.wrap ((IntKind.i64.wrap (y - y % c)).tdiv c) * b))) % a, ⟨⟨Int.emod_nonneg _ (by omega), Int.emod_lt_of_pos _ (by omega)⟩, fun h => ?_⟩, ?_⟩
  · obtain ⟨h1, h2⟩ := h
    simp only at h1 h2
    rw [Int.emod_eq_of_lt h2.1 h2.2, Int.sub_self, w64 (n := 0) (by omega) (by omega), Int.zero_tdiv, w64 (n := 0) (by omega) (by omega), Int.zero_mul, w64 (n := 0) (by omega) (by omega), Int.sub_zero, w64 (by omega) (by omega), Int.emod_eq_of_lt h1.1 h1.2]
  refine sp_of (m := no) mixed Tryz.func117 k117 ?_
  simp -dsimp [q]
  refine call_of (s_mod _ _ (by omega)) rfl (by simp) ?_
  try simp -dsimp
  try (first | exact fp_one (by decide) | refine fp_and (by decide) ?_)
  refine ⟨by omega, ?_⟩
  refine call_of (s_mod _ _ (by omega)) rfl (by simp) ?_
  try simp -dsimp
  try (first | exact fp_one (by decide) | refine fp_and (by decide) ?_)
def mulM (m n : M4) : M4 := (m.1 * n.1 + m.2.1 * n.2.2.1, m.1 * n.2.1 + m.2.1 * n.2.2.2, m.2.2.1 * n.1 + m.2.2.2 * n.2.2.1, m.2.2.1 * n.2.1 + m.2.2.2 * n.2.2.2)
def oneM (m : M4) : Prop := (m.1.natAbs ≤ 1 ∧ m.2.1.natAbs ≤ 1) ∧ m.2.2.1.natAbs ≤ 1 ∧ m.2.2.2.natAbs ≤ 1
theorem s_smmul (m n : M4) (hm : oneM m) (hn : oneM n) : Sp Tryz.prog 158 [aM4 m, aM4 n] (aM4 (mulM m n)) [] := by
  refine sp_of (m := no) mixed Tryz.func158 k158 ?_
  obtain ⟨⟨m1, m2⟩, m3, m4⟩ := hm
  obtain ⟨⟨n1, n2⟩, n3, n4⟩ := hn
  have h1 := mul_bd m1 n1
  have h2 := mul_bd m2 n3
  have h3 := mul_bd m1 n2
  have h4 := mul_bd m2 n4
  have h5 := mul_bd m3 n1
  have h6 := mul_bd m4 n3
  have h7 := mul_bd m3 n2
  have h8 := mul_bd m4 n4
  simp -dsimp [q]
  rw [w64 (n := m.1 * n.1) (by omega) (by omega), w64 (n := m.2.1 * n.2.2.1) (by omega) (by omega), w64 (n := m.1 * n.2.1) (by omega) (by omega), w64 (n := m.2.1 * n.2.2.2) (by omega) (by omega),
    w64 (n := m.2.2.1 * n.1) (by omega) (by omega), w64 (n := m.2.2.2 * n.2.2.1) (by omega) (by omega), w64 (n := m.2.2.1 * n.2.1) (by omega) (by omega), w64 (n := m.2.2.2 * n.2.2.2) (by omega) (by omega)]
  refine ⟨w64 (by omega) (by omega), w64 (by omega) (by omega), w64 (by omega) (by omega), w64 (by omega) (by omega)⟩
def mulG (g h : G6) : G6 := (mulM g.1 h.1, g.1.1 * h.2.1 + g.1.2.1 * h.2.2 + g.2.1, g.1.2.2.1 * h.2.1 + g.1.2.2.2 * h.2.2 + g.2.2)
def redG (a b c : Int) (g : G6) : G6 := (g.1, redX a b c g.2.1 g.2.2, g.2.2 % c)
def memG (a c : Int) (g : G6) : Prop := oneM g.1 ∧ inC a c g.2
theorem s_sgmul (g h : G6) (hg : oneM g.1 ∧ g.2.1.natAbs ≤ 1000 ∧ g.2.2.natAbs ≤ 1000) (hh : oneM h.1 ∧ h.2.1.natAbs ≤ 1000 ∧ h.2.2.natAbs ≤ 1000) : Sp Tryz.prog 151 [aG6 g, aG6 h] (aG6 (mulG g h)) [] := by
  refine sp_of (m := no) mixed Tryz.func151 k151 ?_
  have wm := s_smmul g.1 h.1 hg.1 hh.1
  obtain ⟨⟨⟨m1, m2⟩, m3, m4⟩, m5, m6⟩ := hg
  obtain ⟨_, n5, n6⟩ := hh
  have h1 := mul_bd m1 n5
  have h2 := mul_bd m2 n6
  have h3 := mul_bd m3 n5
  have h4 := mul_bd m4 n6
  simp -dsimp [q]
  refine call_of (wm) rfl (by simp) ?_
  try simp -dsimp
  try (first | exact fp_one (by decide) | refine fp_and (by decide) ?_)
  refine call_of (s_sapply _ _ _ _ _ _ ⟨⟨by omega, by omega⟩, by omega, by omega⟩ ⟨by omega, by omega⟩) rfl (by simp) ?_
  try simp -dsimp
  try (first | exact fp_one (by decide) | refine fp_and (by decide) ?_)
  refine call_of (s_sadd _ _ _ _ (by omega) (by omega) (by omega) (by omega)) rfl (by simp) ?_
  try simp -dsimp
  try (first | exact fp_one (by decide) | refine fp_and (by decide) ?_)
  exact ⟨rfl, rfl, rfl, rfl, rfl, rfl⟩
theorem s_sgred (a b c : Int) (g : G6) (ha : 1 ≤ a ∧ a ≤ 64) (hb : 0 ≤ b ∧ b < a) (hc : 1 ≤ c ∧ c ≤ 64) (hx : -1000000000 ≤ g.2.1 ∧ g.2.1 ≤ 1000000000) (hy : -1000000000 ≤ g.2.2 ∧ g.2.2 ≤ 1000000000) : Sp Tryz.prog 127 [aL a b c, aG6 g] (aG6 (redG a b c g)) [] := by
  refine sp_of (m := no) mixed Tryz.func127 k127 ?_
  simp -dsimp [q]
  refine call_of (s_sreduce a b c _ _ ha hb hc hx hy) rfl (by simp) ?_
  try simp -dsimp
  try (first | exact fp_one (by decide) | refine fp_and (by decide) ?_)
  exact ⟨rfl, rfl, rfl, rfl, rfl, rfl⟩
abbrev unG : G6 := ((1, 0, 0, 1), 0, 0)
theorem s_sun : Sp Tryz.prog 126 [] (aG6 unG) [] := by
  refine sp_of (m := no) mixed Tryz.func126 k126 ?_
  simp -dsimp [q]
  refine call_of (s_sunit) rfl (by simp) ?_
  try simp -dsimp
  try (first | exact fp_one (by decide) | refine fp_and (by decide) ?_)
/-! is it a group? -/
def elG (f a b c : Int) (g : G6) : Bool := pmOk f g.1 && keepL a b c g.1 && decide (0 ≤ g.2.1 ∧ g.2.1 < a) && decide (0 ≤ g.2.2 ∧ g.2.2 < c)
theorem elG_spec {f a b c : Int} (hf : 0 ≤ f ∧ f ≤ 1) {g : G6} (h : elG f a b c g = true) : oneM g.1 ∧ inC a c g.2 := by
  simp only [elG, Bool.and_eq_true, decide_eq_true_eq] at h
  obtain ⟨h1, h2, _⟩ := pm_facts hf h.1.1.1
  exact ⟨⟨⟨h1.1, h1.2⟩, h2.1, h2.2⟩, h.1.2, h.2⟩
def fst (f a b c : Int) (l : List G6) (i : Nat) : Prop := (∀ g ∈ l.take i, elG f a b c g = true) ∧ srt (l.take i)
theorem fst_succ {f a b c : Int} {l : List G6} {i : Nat} {g : G6} (hg : l[i]? = some g) : fst f a b c l (i + 1) ↔ (fst f a b c l i ∧ elG f a b c g = true ∧ ∀ p, 0 < i → l[i - 1]? = some p → ltG p g = true) := by
  unfold fst srt
  have e : l.take (i + 1) = l.take i ++ [g] := by rw [List.take_add_one, hg]; rfl
  rw [e, List.pairwise_append]
  constructor
  · rintro ⟨h1, h2, _, h3⟩
    refine ⟨⟨fun x hx => h1 x (by simp [hx]), h2⟩, h1 g (by simp), fun p hi hp => h3 p ?_ g (by simp)⟩
    exact List.mem_of_getElem? (i := i - 1) (by rw [List.getElem?_take_of_lt (by omega)]; exact hp)
  · rintro ⟨⟨h1, h2⟩, h3, h4⟩
    refine ⟨fun x hx => ?_, h2, by simp, fun x hx y hy => ?_⟩
    · rcases List.mem_append.1 hx with hx | hx
      · exact h1 x hx
      · simp only [List.mem_singleton] at hx; rw [hx]; exact h3
    · simp only [List.mem_singleton] at hy
      subst hy
      obtain ⟨j, hj⟩ := List.getElem?_of_mem hx
      have hji : j < i := by
        have := (List.getElem?_eq_some_iff.1 hj).1
        simp at this; omega
      have hil := (List.getElem?_eq_some_iff.1 hg).1
      obtain ⟨p, hp⟩ : ∃ p, l[i - 1]? = some p := ⟨_, List.getElem?_eq_getElem (show i - 1 < l.length by omega)⟩
      have h5 := h4 _ (by omega) hp
      by_cases ej : j = i - 1
      · subst ej
        rw [List.getElem?_take_of_lt (by omega), hp] at hj
        cases hj
        exact h5
      · exact ltG_trans (srt_get h2 hj (by rw [List.getElem?_take_of_lt (show i - 1 < i by omega)]; exact hp) (by omega)) h5
def prd (a b c : Int) (l : List G6) (i : Nat) : Prop := ∀ g ∈ l.take i, ∀ h ∈ l, redG a b c (mulG g h) ∈ l
def prd1 (a b c : Int) (l : List G6) (g : G6) (j : Nat) : Prop := ∀ h ∈ l.take j, redG a b c (mulG g h) ∈ l
def grp (f a b c : Int) (l : List G6) : Prop := fst f a b c l l.length ∧ unG ∈ l ∧ prd a b c l l.length
theorem fst_mono {f a b c : Int} {l : List G6} {i j : Nat} (h : i ≤ j) (k : fst f a b c l j) : fst f a b c l i := by
  have e : l.take i = (l.take j).take i := by rw [List.take_take, Nat.min_eq_left h]
  unfold fst srt at *
  rw [e]
  exact ⟨fun g hg => k.1 g (List.mem_of_mem_take hg), k.2.sublist (List.take_sublist _ _)⟩
theorem cdec_t {p : Prop} (h : p) : cdec p = true := cdec_true.2 h
theorem cdec_f {p : Prop} (h : ¬ p) : cdec p = false := cdec_false.2 h
theorem fst_new {f a b c : Int} {l : List G6} {i : Nat} {g : G6} (hg : l[i]? = some g) (h : fst f a b c l (i + 1)) : g ∉ l.take i := by
  intro hm
  obtain ⟨j, hj⟩ := List.getElem?_of_mem hm
  have hji : j < i := by
    have := (List.getElem?_eq_some_iff.1 hj).1
    simp at this; omega
  have := srt_get h.2 (i := j) (j := i) (g := g) (k := g) (by rw [List.getElem?_take_of_lt (by omega)] at hj ⊢; exact hj) (by rw [List.getElem?_take_of_lt (by omega)]; exact hg) hji
  rw [ltG_irr] at this
  cases this
end Go.Proofs.YtgkhakhkebjbpaaGreatEv
namespace Go.Proofs.YtgkhakhkebjbpaaGreatEv
open Go Go.Proofs
set_option maxRecDepth 10000
set_option maxHeartbeats 2000000
theorem pm_count (f : Int) (hf : 0 ≤ f ∧ f ≤ 1) : (pmL f 81).length ≤ 12 := by
  rcases (by omega : f = 0 ∨ f = 1) with rfl | rfl
  · decide +kernel
  · decide +kernel
theorem flat_len {α β : Type} (l : List α) (m : List β) : (l.flatMap fun x => m.map fun y => (x, y)).length = l.length * m.length := by
  induction l with
  | nil => simp
  | cons x l ih => simp [ih, Nat.succ_mul, Nat.add_comm]
theorem fst_len {f a b c : Int} {l : List G6} (hf : 0 ≤ f ∧ f ≤ 1) (ha : 1 ≤ a) (hc : 1 ≤ c) (hac : a * c ≤ 64) (h : fst f a b c l l.length) : l.length ≤ 768 := by
  obtain ⟨h1, h2⟩ := h
  rw [List.take_length] at h1 h2
  have hn : l.Nodup := h2.imp fun {x y} hxy e => by rw [e, ltG_irr] at hxy; cases hxy
  have := pigeon l ((pmL f 81).flatMap fun x => (cl a c).map fun y => (x, y)) hn (fun g hg => by
    have hg' := h1 g hg
    have h3 := (elG_spec hf hg').2
    simp only [elG, Bool.and_eq_true] at hg'
    refine List.mem_flatMap.2 ⟨g.1, (pmL_mem hf _ _ _ _).2 hg'.1.1.1, List.mem_map.2 ⟨g.2, List.mem_of_getElem? (cl_ix ha hc h3), rfl⟩⟩)
  rw [flat_len] at this
  have h4 := pm_count f hf
  have h5 : (cl a c).length ≤ 64 := by
    unfold cl
    rw [cellsL_len]
    have : ((a.toNat * c.toNat : Nat) : Int) = a * c := by rw [Int.natCast_mul, Int.toNat_of_nonneg (by omega), Int.toNat_of_nonneg (by omega)]
    omega
  have := Nat.mul_le_mul h4 h5
  omega
theorem elG_suit {f a b c : Int} (hf : 0 ≤ f ∧ f ≤ 1) (ha : 1 ≤ a ∧ a ≤ 64) (hc : 1 ≤ c ∧ c ≤ 64) {g : G6} : elG f a b c g = true ↔ (suitG f a b c g = true ∧ redG a b c g = g) := by
  constructor
  · intro h
    obtain ⟨_, h1, h2⟩ := elG_spec hf h
    simp only [elG, Bool.and_eq_true] at h
    refine ⟨?_, ?_⟩
    · simp only [suitG, suit, Bool.and_eq_true]
      exact ⟨h.1.1, okV_spec.2 (by omega)⟩
    · unfold redG redX
      rw [Int.ediv_eq_zero_of_lt h2.1 h2.2, Int.emod_eq_of_lt h2.1 h2.2, Int.zero_mul, Int.sub_zero, Int.emod_eq_of_lt h1.1 h1.2]
  · rintro ⟨h1, h2⟩
    simp only [suitG, suit, Bool.and_eq_true] at h1
    have h3 := red_lt (a := a) (b := b) (c := c) (x := g.2.1) (y := g.2.2) ha.1 hc.1
    have e1 : redX a b c g.2.1 g.2.2 = g.2.1 := congrArg (fun g : G6 => g.2.1) h2
    have e2 : g.2.2 % c = g.2.2 := congrArg (fun g : G6 => g.2.2) h2
    rw [e1, e2] at h3
    simp only [elG, Bool.and_eq_true, decide_eq_true_eq]
    exact ⟨⟨h1.1, h3.1⟩, h3.2⟩
end Go.Proofs.YtgkhakhkebjbpaaGreatEv
namespace Go.Proofs.YtgkhakhkebjbpaaGreatEv
open Go Go.Proofs
set_option maxRecDepth 10000
set_option maxHeartbeats 1000000
def bStr (l : List UInt8) : ByteArray := ⟨l.toArray⟩
def stdOf (s : ByteArray) (n : Int) : Option (Int × List G6) :=
  if s = ⟨#[112, 49]⟩ then some (0, []) else
  if s = ⟨#[112, 50]⟩ then some (0, [((-1, 0, 0, -1), 0, 0)]) else
  if s = ⟨#[112, 109]⟩ then some (0, [((1, 0, 0, -1), 0, 0)]) else
  if s = ⟨#[112, 103]⟩ then some (0, [((1, 0, 0, -1), n, 0)]) else
  if s = ⟨#[99, 109]⟩ then some (0, [((0, 1, 1, 0), 0, 0)]) else
  if s = ⟨#[112, 109, 109]⟩ then some (0, [((1, 0, 0, -1), 0, 0), ((-1, 0, 0, -1), 0, 0)]) else
  if s = ⟨#[112, 109, 103]⟩ then some (0, [((1, 0, 0, -1), n, 0), ((-1, 0, 0, -1), 0, 0)]) else
  if s = ⟨#[112, 103, 103]⟩ then some (0, [((1, 0, 0, -1), n, n), ((-1, 0, 0, -1), 0, 0)]) else
  if s = ⟨#[99, 109, 109]⟩ then some (0, [((0, 1, 1, 0), 0, 0), ((-1, 0, 0, -1), 0, 0)]) else
  if s = ⟨#[112, 52]⟩ then some (0, [((0, -1, 1, 0), 0, 0)]) else
  if s = ⟨#[112, 52, 109]⟩ then some (0, [((0, -1, 1, 0), 0, 0), ((1, 0, 0, -1), 0, 0)]) else
  if s = ⟨#[112, 52, 103]⟩ then some (0, [((0, -1, 1, 0), 0, 0), ((1, 0, 0, -1), n, n)]) else
  if s = ⟨#[112, 51]⟩ then some (1, [((-1, -1, 1, 0), 0, 0)]) else
  if s = ⟨#[112, 51, 109, 49]⟩ then some (1, [((-1, -1, 1, 0), 0, 0), ((0, 1, 1, 0), 0, 0)]) else
  if s = ⟨#[112, 51, 49, 109]⟩ then some (1, [((-1, -1, 1, 0), 0, 0), ((1, 1, 0, -1), 0, 0)]) else
  if s = ⟨#[112, 54]⟩ then some (1, [((0, -1, 1, 1), 0, 0)]) else
  if s = ⟨#[112, 54, 109]⟩ then some (1, [((0, -1, 1, 1), 0, 0), ((0, 1, 1, 0), 0, 0)]) else none
def cloS (n : Int) (L S : List G6) : List G6 := L.foldl (fun S m => S.foldl (fun S' g => if redG (2 * n) 0 (2 * n) (mulG m g) ∈ S' then S' else S' ++ [redG (2 * n) 0 (2 * n) (mulG m g)]) S) S
def clo (n : Int) (L : List G6) : Nat → List G6
  | 0 => [unG]
  | k + 1 => cloS n L (clo n L k)
def small1 (n : Int) (g : G6) : Bool := decide (g.1.1.natAbs ≤ 1 ∧ g.1.2.1.natAbs ≤ 1 ∧ g.1.2.2.1.natAbs ≤ 1 ∧ g.1.2.2.2.natAbs ≤ 1 ∧ 0 ≤ g.2.1 ∧ g.2.1 < 2 * n ∧ 0 ≤ g.2.2 ∧ g.2.2 < 2 * n)
/-- A small set that holds the group. -/
structure Clo (n : Int) (L S : List G6) : Prop where
  len : S.length ≤ 12
  len2 : L.length ≤ 2
  un : unG ∈ S
  sm : ∀ g ∈ S, memG (2 * n) (2 * n) g
  sl : ∀ g ∈ L, memG (2 * n) (2 * n) g
  st : ∀ m ∈ L, ∀ g ∈ S, redG (2 * n) 0 (2 * n) (mulG m g) ∈ S
def chkC (n : Int) (L S : List G6) : Bool := decide (S.length ≤ 12) && decide (L.length ≤ 2) && decide (unG ∈ S) && S.all (small1 n) && L.all (small1 n) && L.all fun m => S.all fun g => decide (redG (2 * n) 0 (2 * n) (mulG m g) ∈ S)
theorem small1_spec {n : Int} {g : G6} (h : small1 n g = true) : memG (2 * n) (2 * n) g := by
  simp only [small1, decide_eq_true_eq] at h
  exact ⟨⟨⟨h.1, h.2.1⟩, h.2.2.1, h.2.2.2.1⟩, ⟨h.2.2.2.2.1, h.2.2.2.2.2.1⟩, h.2.2.2.2.2.2.1, h.2.2.2.2.2.2.2⟩
theorem chkC_spec {n : Int} {L S : List G6} (h : chkC n L S = true) : Clo n L S := by
  simp only [chkC, Bool.and_eq_true, decide_eq_true_eq, List.all_eq_true] at h
  obtain ⟨⟨⟨⟨⟨h1, h2⟩, h3⟩, h4⟩, h5⟩, h6⟩ := h
  exact ⟨h1, h2, h3, fun g hg => small1_spec (h4 g hg), fun g hg => small1_spec (h5 g hg), h6⟩
def stdLs (n : Int) : List (List G6) := [[], [((-1, 0, 0, -1), 0, 0)], [((1, 0, 0, -1), 0, 0)], [((1, 0, 0, -1), n, 0)], [((0, 1, 1, 0), 0, 0)],
  [((1, 0, 0, -1), 0, 0), ((-1, 0, 0, -1), 0, 0)], [((1, 0, 0, -1), n, 0), ((-1, 0, 0, -1), 0, 0)], [((1, 0, 0, -1), n, n), ((-1, 0, 0, -1), 0, 0)], [((0, 1, 1, 0), 0, 0), ((-1, 0, 0, -1), 0, 0)],
  [((0, -1, 1, 0), 0, 0)], [((0, -1, 1, 0), 0, 0), ((1, 0, 0, -1), 0, 0)], [((0, -1, 1, 0), 0, 0), ((1, 0, 0, -1), n, n)], [((-1, -1, 1, 0), 0, 0)],
  [((-1, -1, 1, 0), 0, 0), ((0, 1, 1, 0), 0, 0)], [((-1, -1, 1, 0), 0, 0), ((1, 1, 0, -1), 0, 0)], [((0, -1, 1, 1), 0, 0)], [((0, -1, 1, 1), 0, 0), ((0, 1, 1, 0), 0, 0)]]
theorem std_mem {s : ByteArray} {n f : Int} {L : List G6} (h : stdOf s n = some (f, L)) : L ∈ stdLs n := by
  have key : ∀ (p : Prop) [Decidable p] (f' : Int) (L' : List G6) (r : Option (Int × List G6)), (if p then some (f', L') else r) = some (f, L) → L' ∈ stdLs n → (r = some (f, L) → L ∈ stdLs n) → L ∈ stdLs n := by
    intro p _ f' L' r h h1 h2
    by_cases hp : p
    · rw [if_pos hp] at h
      cases h
      exact h1
    · rw [if_neg hp] at h
      exact h2 h
  unfold stdOf at h
  revert h
  iterate 17 refine fun h => key _ _ _ _ h (by simp [stdLs]) ?_
  intro h
  cases h
theorem chk1 : (stdLs 1).all (fun L => chkC 1 L (clo 1 L 6)) = true := by decide +kernel
theorem chk2 : (stdLs 2).all (fun L => chkC 2 L (clo 2 L 6)) = true := by decide +kernel
theorem chk3 : (stdLs 3).all (fun L => chkC 3 L (clo 3 L 6)) = true := by decide +kernel
theorem chk4 : (stdLs 4).all (fun L => chkC 4 L (clo 4 L 6)) = true := by decide +kernel
theorem std_clo {s : ByteArray} {n f : Int} {L : List G6} (h : stdOf s n = some (f, L)) (hn : 1 ≤ n ∧ n ≤ 4) : ∃ S, Clo n L S := by
  have hm := std_mem h
  have : n = 1 ∨ n = 2 ∨ n = 3 ∨ n = 4 := by omega
  rcases this with rfl | rfl | rfl | rfl
  · exact ⟨_, chkC_spec (List.all_eq_true.1 chk1 _ hm)⟩
  · exact ⟨_, chkC_spec (List.all_eq_true.1 chk2 _ hm)⟩
  · exact ⟨_, chkC_spec (List.all_eq_true.1 chk3 _ hm)⟩
  · exact ⟨_, chkC_spec (List.all_eq_true.1 chk4 _ hm)⟩
end Go.Proofs.YtgkhakhkebjbpaaGreatEv
namespace Go.Proofs.YtgkhakhkebjbpaaGreatEv
open Go Go.Proofs
set_option maxRecDepth 10000
set_option maxHeartbeats 1000000
@[simp] theorem gs_take (l : List G6) (n : Nat) : (gs l).take n = gs (l.take n) := by simp [gs, List.map_take]
@[simp] theorem gs_drop (l : List G6) (n : Nat) : (gs l).drop n = gs (l.drop n) := by simp [gs, List.map_drop]
theorem gs_app2 (l k : List G6) : gs l ++ gs k = gs (l ++ k) := by simp [gs]
/-! putting into order -/
theorem lexLt_tri : ∀ {xs ys : List Int}, xs.length = ys.length → xs = ys ∨ lexLt xs ys = true ∨ lexLt ys xs = true
  | [], [], _ => .inl rfl
  | x :: xs, y :: ys, h => by
    rcases lexLt_tri (xs := xs) (ys := ys) (by simpa using h) with e | e | e
    · subst e
      rcases Int.lt_trichotomy x y with e | e | e
      · exact .inr (.inl (by simp [lexLt, e, show x ≠ y by omega]))
      · subst e; exact .inl rfl
      · exact .inr (.inr (by simp [lexLt, e, show y ≠ x by omega]))
    · rcases Int.lt_trichotomy x y with f | f | f
      · exact .inr (.inl (by simp [lexLt, f, show x ≠ y by omega]))
      · subst f; exact .inr (.inl (by simp [lexLt, e]))
      · exact .inr (.inr (by simp [lexLt, f, show y ≠ x by omega]))
    · rcases Int.lt_trichotomy x y with f | f | f
      · exact .inr (.inl (by simp [lexLt, f, show x ≠ y by omega]))
      · subst f; exact .inr (.inr (by simp [lexLt, e]))
      · exact .inr (.inr (by simp [lexLt, f, show y ≠ x by omega]))
theorem ltG_tri (g h : G6) : g = h ∨ ltG g h = true ∨ ltG h g = true := by
  rw [ltG_lex, ltG_lex]
  rcases lexLt_tri (xs := m4 g.1 ++ t2 g.2) (ys := m4 h.1 ++ t2 h.2) rfl with e | e | e
  · refine .inl ?_
    obtain ⟨⟨a, b, c, d⟩, x, y⟩ := g
    obtain ⟨⟨a', b', c', d'⟩, x', y'⟩ := h
    simpa [m4, t2, and_assoc] using e
  · exact .inr (.inl e)
  · exact .inr (.inr e)
def insG (l : List G6) (m : G6) : List G6 := l.take (plc l m) ++ m :: l.drop (plc l m)
theorem insG_mem {l : List G6} {m x : G6} : x ∈ insG l m ↔ x = m ∨ x ∈ l := by
  unfold insG
  conv => rhs; rw [← List.take_append_drop (plc l m) l]
  simp only [List.mem_append, List.mem_cons]
  constructor
  · rintro (h | h | h) <;> simp [h]
  · rintro (h | h | h) <;> simp [h]
theorem insG_len (l : List G6) (m : G6) : (insG l m).length = l.length + 1 := by
  unfold insG
  have := congrArg List.length (List.take_append_drop (plc l m) l)
  simp only [List.length_append, List.length_cons] at *
  omega
theorem plc_bef {l : List G6} {m x : G6} (h : x ∈ l.take (plc l m)) : ltG x m = true := by
  obtain ⟨j, hj, rfl⟩ := List.mem_take_iff_getElem.1 h
  have := List.not_of_lt_findIdx (p := fun x => !ltG x m) (xs := l) (i := j) (by unfold plc at hj; omega)
  simpa using this
theorem plc_aft {l : List G6} {m x : G6} (hs : srt l) (hm : m ∉ l) (h : x ∈ l.drop (plc l m)) : ltG m x = true := by
  obtain ⟨j, hj, rfl⟩ := List.mem_iff_getElem.1 h
  rw [List.getElem_drop] at h ⊢
  rw [List.length_drop] at hj
  have hlt : plc l m < l.length := by omega
  have h0 : ltG l[plc l m] m = false := by
    have := List.findIdx_getElem (p := fun x => !ltG x m) (xs := l) (w := hlt)
    rw [Bool.not_eq_true'] at this
    exact this
  have h1 : ltG m l[plc l m] = true := by
    rcases ltG_tri m l[plc l m] with e | e | e
    · exact absurd (e ▸ List.getElem_mem hlt) hm
    · exact e
    · rw [h0] at e; cases e
  rcases Nat.eq_zero_or_pos j with e | e
  · subst e; exact h1
  · exact ltG_trans h1 (srt_get hs (i := plc l m) (j := plc l m + j) (List.getElem?_eq_getElem hlt) (List.getElem?_eq_getElem (by omega)) (by omega))
theorem insG_srt {l : List G6} {m : G6} (hs : srt l) (hm : m ∉ l) : srt (insG l m) := by
  unfold srt insG
  have h0 : srt (l.take (plc l m) ++ l.drop (plc l m)) := by rw [List.take_append_drop]; exact hs
  unfold srt at h0
  rw [List.pairwise_append] at h0 ⊢
  refine ⟨h0.1, List.pairwise_cons.2 ⟨fun x hx => plc_aft hs hm hx, h0.2.1⟩, fun x hx y hy => ?_⟩
  rcases List.mem_cons.1 hy with e | e
  · rw [e]; exact plc_bef hx
  · exact h0.2.2 x hx y e
def srtL (Q : List G6) : List G6 := Q.foldl insG []
theorem srtL_app (Q : List G6) (m : G6) : srtL (Q ++ [m]) = insG (srtL Q) m := by simp [srtL, List.foldl_append]
theorem foldl_ins_mem (Q s : List G6) (x : G6) : x ∈ Q.foldl insG s ↔ x ∈ Q ∨ x ∈ s := by
  induction Q generalizing s with
  | nil => simp
  | cons m Q ih =>
    rw [List.foldl_cons, ih, insG_mem, List.mem_cons]
    constructor
    · rintro (h | h | h) <;> simp [h]
    · rintro ((h | h) | h) <;> simp [h]
theorem srtL_mem {Q : List G6} {x : G6} : x ∈ srtL Q ↔ x ∈ Q := by simp [srtL, foldl_ins_mem]
theorem foldl_ins_len (Q s : List G6) : (Q.foldl insG s).length = Q.length + s.length := by
  induction Q generalizing s with
  | nil => simp
  | cons m Q ih => rw [List.foldl_cons, ih, insG_len, List.length_cons]; omega
theorem srtL_len (Q : List G6) : (srtL Q).length = Q.length := by simp [srtL, foldl_ins_len]
theorem foldl_ins_srt (Q s : List G6) (hs : srt s) (hn : Q.Nodup) (hd : ∀ x ∈ Q, x ∉ s) : srt (Q.foldl insG s) := by
  induction Q generalizing s with
  | nil => exact hs
  | cons m Q ih =>
    rw [List.nodup_cons] at hn
    refine ih _ (insG_srt hs (hd m (by simp))) hn.2 fun x hx h => ?_
    rcases insG_mem.1 h with e | e
    · exact hn.1 (e ▸ hx)
    · exact hd x (by simp [hx]) e
theorem srtL_srt {Q : List G6} (hn : Q.Nodup) : srt (srtL Q) := foldl_ins_srt Q [] (by simp [srt]) hn (by simp)
/-! closing -/
def addG (n : Int) (g : G6) (O : List G6) (m : G6) : List G6 := if redG (2 * n) 0 (2 * n) (mulG m g) ∈ O then O else O ++ [redG (2 * n) 0 (2 * n) (mulG m g)]
def bfs (n : Int) (L : List G6) : Nat → Nat → List G6 → List G6
  | 0, _, O => O
  | f + 1, k, O => match O[k]? with
    | none => O
    | some g => bfs n L f (k + 1) (L.foldl (addG n g) O)
def grpL (n : Int) (L : List G6) : List G6 := bfs n L 13 0 [unG]
theorem bfs_end (n : Int) (L : List G6) (f k : Nat) (O : List G6) (h : O.length ≤ k) : bfs n L f k O = O := by
  cases f with
  | zero => rfl
  | succ f => rw [bfs, List.getElem?_eq_none h]
theorem bfs_step (n : Int) (L : List G6) (f k : Nat) (O : List G6) (g : G6) (h : O[k]? = some g) : bfs n L (f + 1) k O = bfs n L f (k + 1) (L.foldl (addG n g) O) := by rw [bfs, h]
structure Gd (S O : List G6) : Prop where
  nd : O.Nodup
  sub : ∀ x ∈ O, x ∈ S
  un : unG ∈ O
theorem Gd.len {n : Int} {L S O : List G6} (c : Clo n L S) (h : Gd S O) : O.length ≤ 12 := Nat.le_trans (pigeon O S h.nd h.sub) c.len
theorem Gd.add {n : Int} {L S O : List G6} (c : Clo n L S) (h : Gd S O) {m g : G6} (hm : m ∈ L) (hg : g ∈ S) : Gd S (addG n g O m) := by
  unfold addG
  split
  · exact h
  case isFalse hn =>
    refine ⟨?_, fun x hx => ?_, by simp [h.un]⟩
    · rw [List.nodup_append]
      refine ⟨h.nd, by simp, fun a ha b hb => ?_⟩
      rw [List.mem_singleton] at hb
      rintro rfl
      exact hn (hb ▸ ha)
    · rcases List.mem_append.1 hx with e | e
      · exact h.sub x e
      · rw [List.mem_singleton.1 e]; exact c.st m hm g hg
theorem Gd.one {n : Int} {L S : List G6} (c : Clo n L S) : Gd S [unG] := ⟨by simp, fun x hx => by rw [List.mem_singleton.1 hx]; exact c.un, by simp⟩
theorem addG_get {n : Int} {g m : G6} {O : List G6} {k : Nat} {x : G6} (h : O[k]? = some x) : (addG n g O m)[k]? = some x := by
  unfold addG
  split
  · exact h
  · rw [List.getElem?_append_left (List.getElem?_eq_some_iff.1 h).1, h]
/-! sorting by exchanges -/
def sw (l : List G6) (j : Nat) (a b : G6) : List G6 := (l.set (j + 1) a).set j b
def innr : Nat → List G6 → List G6
  | 0, l => l
  | j + 1, l => match l[j + 1]?, l[j]? with
    | some b, some a => if ltG b a = true then innr j (sw l j a b) else l
    | _, _ => l
def outr : Nat → List G6 → List G6
  | 0, l => l
  | 1, l => l
  | i + 2, l => innr (i + 1) (outr (i + 1) l)
theorem sw_len (l : List G6) (j : Nat) (a b : G6) : (sw l j a b).length = l.length := by simp [sw]
theorem innr_len (j : Nat) (l : List G6) : (innr j l).length = l.length := by
  induction j generalizing l with
  | zero => rfl
  | succ j ih =>
    rw [innr]
    split
    · split
      · rw [ih, sw_len]
      · rfl
    · rfl
theorem outr_len (i : Nat) (l : List G6) : (outr i l).length = l.length := by
  fun_induction outr i l with
  | case1 => rfl
  | case2 => rfl
  | case3 l i ih => rw [innr_len, ih]
theorem innr_step {j : Nat} {l : List G6} {a b : G6} (hb : l[j + 1]? = some b) (ha : l[j]? = some a) : innr (j + 1) l = if ltG b a = true then innr j (sw l j a b) else l := by rw [innr, hb, ha]
end Go.Proofs.YtgkhakhkebjbpaaGreatEv
namespace Go.Proofs.YtgkhakhkebjbpaaGreatEv
open Go Go.Proofs
set_option maxRecDepth 10000
/-! lists of vectors -/
theorem s_fiV (l : List (Int × Int)) (f : Nat) (cs : List A) (p : Int × Int → Bool) (h : l.length ≤ 1048576) (hc : cs.all A.shut = true) (hf : ∀ v ∈ l, Sp Tryz.prog f (aV v.1 v.2 :: cs) (vb (p v)) []) : Sp Tryz.prog 133 [.v (vvs l), .fn f cs] (vi (if l.any p = true then l.findIdx p else -1)) [] := by
  refine sp_of (m := no) mixed Tryz.func133 k133 ?_
  simp -dsimp [q]
  refine awp_it (true :: true :: false :: false :: false :: false :: false :: true :: true :: []) (fun i : Nat => [(8, vi i)]) (fun i => []) (fun i => i ≤ l.length ∧ (l.take i).any p = false) (fun i => l.length - i) 0 ?_
  intro s0 e
  simp -dsimp [hc] at e
  subst e
  refine ⟨?_, ?_⟩
  · simp [hc]
  intro i hi
  simp -dsimp [hc]
  refine ⟨fun h1 => ⟨h1, fun x y ha => call_of (rd := []) (hf (x, y) (List.mem_of_getElem? ha)) (by simp [toArgs_shut hc]) (by simp) ?_⟩, fun h1 => ?_⟩
  · simp -dsimp [hc]
    have hi2 : ∀ x ∈ l.take i, p x = false := fun x hx => by
      have := List.any_eq_false.1 hi.2 x hx
      simpa using this
    obtain ⟨_, hal⟩ := List.getElem?_eq_some_iff.1 ha
    refine ⟨fun hp => ?_, fun hp => ⟨i + 1, by rw [w64 (by omega) (by omega)]; simp, ⟨by omega, fun x' y' hx => ?_⟩, by omega⟩⟩
    · rw [if_pos (List.any_eq_true.2 ⟨(x, y), List.mem_of_getElem? ha, hp⟩), (List.findIdx_eq h1).2 ⟨by rw [hal]; exact hp, fun j hj => hi2 _ (List.mem_iff_getElem.2 ⟨j, by simp; omega, by simp⟩)⟩]
    · rcases mem_take_succ ha hx with hx | hx
      · exact hi2 _ hx
      · rw [hx]; exact hp
  · have := hi.2
    rw [List.take_of_length_le h1] at this
    intro x y hx
    simpa using List.any_eq_false.1 this (x, y) hx
theorem s_hasV (l : List (Int × Int)) (f : Nat) (cs : List A) (p : Int × Int → Bool) (h : l.length ≤ 1048576) (hc : cs.all A.shut = true) (hf : ∀ v ∈ l, Sp Tryz.prog f (aV v.1 v.2 :: cs) (vb (p v)) []) : Sp Tryz.prog 92 [.v (vvs l), .fn f cs] (vb (l.any p)) [] := by
  refine sp_of (m := no) mixed Tryz.func92 k92 ?_
  simp -dsimp [q]
  refine call_of (rd := []) (s_fiV l f cs p h hc hf) (by simp [hc]) (by simp) ?_
  simp -dsimp
  by_cases hp : l.any p = true
  · rw [if_pos hp, hp]
    simp
  · rw [if_neg hp]
    simp only [Bool.not_eq_true] at hp
    rw [hp]
    simp
def okS (l : List (Int × Int)) : Bool := decide (l.length = 9) && l.all fun v => okV v.1 v.2
theorem s_isS1 (x y : Int) : Sp Tryz.prog 93 [aV x y] (vb (!okV x y)) [] := by
  refine sp_of (m := no) mixed Tryz.func93 k93 ?_
  simp -dsimp [q]
  refine call_of (s_isVec _ _) rfl (by simp) ?_
  try simp -dsimp
  try (first | exact fp_one (by decide) | refine fp_and (by decide) ?_)
theorem all_not_any {α : Type} (l : List α) (p : α → Bool) : (!(l.any fun v => !p v)) = l.all p := by
  induction l with
  | nil => rfl
  | cons x l ih => simp only [List.any_cons, List.all_cons, Bool.not_or, Bool.not_not, ih]
theorem s_isS (l : List (Int × Int)) (h : l.length ≤ 1048576) : Sp Tryz.prog 47 [.v (vvs l)] (vb (okS l)) [] := by
  refine sp_of (m := no) mixed Tryz.func47 k47 ?_
  simp -dsimp [q]
  refine ⟨fun e => ?_, fun e => ?_⟩
  · refine call_of (s_hasV l _ [] (fun v => !okV v.1 v.2) h rfl (fun v _ => s_isS1 v.1 v.2)) rfl (by simp) ?_
    try simp -dsimp
    try (first | exact fp_one (by decide) | refine fp_and (by decide) ?_)
    have := all_not_any l (fun v => okV v.1 v.2)
    simp only [okS, decide_eq_true (show l.length = 9 by omega), Bool.true_and]
    rw [← this]
    simp
  · simp only [okS, decide_eq_false (show ¬ l.length = 9 by omega), Bool.false_and]
theorem s_sisS (l : List (Int × Int)) (h : l.length ≤ 1048576) : Sp Tryz.prog 50 [.v (vvs l)] (vb (okS l)) [] := by
  refine sp_of (m := no) mixed Tryz.func50 k50 ?_
  simp -dsimp [q]
  refine awp_it (true :: false :: false :: true :: []) (fun i : Nat => [(3, vi i)]) (fun i => []) (fun i => i ≤ l.length ∧ ∀ v ∈ l.take i, okV v.1 v.2 = true) (fun i => l.length - i) 0 ?_
  intro s0 e
  simp -dsimp at e
  subst e
  refine ⟨?_, ?_⟩
  · simp
  rintro i ⟨hi, hok⟩
  simp -dsimp
  refine ⟨fun h1 => ⟨h1, fun x y hxy => ?_⟩, fun h1 => ?_⟩
  · refine call_of (s_sisVec x y) rfl (by simp) ?_
    try simp -dsimp
    try (first | exact fp_one (by decide) | refine fp_and (by decide) ?_)
    refine ⟨fun e => ?_, fun e => ⟨i + 1, by rw [w64 (by omega) (by omega)]; simp, ⟨by omega, fun x' y' ht => ?_⟩, by omega⟩⟩
    · simp only [okS]
      have : (l.all fun v => okV v.1 v.2) = false := List.all_eq_false.2 ⟨(x, y), List.mem_of_getElem? hxy, by simp [e]⟩
      rw [this, Bool.and_false]
    · rcases mem_take_succ hxy ht with ht | ht
      · exact hok _ ht
      · cases ht; exact e
  · rw [List.take_of_length_le h1] at hok
    have : (l.all fun v => okV v.1 v.2) = true := List.all_eq_true.2 hok
    simp only [okS, this, Bool.and_true]
    by_cases e : l.length = 9
    · rw [decide_eq_true e]; simp [e]
    · rw [decide_eq_false e]; simp; omega
theorem s_scode25 (f a b c : Int) (l : List Int) (t : Bool) (hl : l.length ≤ 1048576) : Sp Tryz.prog 49 [aP f a b c l, vb t] (vi (if okP f a b c l = true then if t = true then 0 else 2 else 1)) [] := by
  refine sp_of (m := no) mixed Tryz.func49 k49 ?_
  simp -dsimp [q]
  refine call_of (s_sisP f a b c l hl) rfl (by simp) ?_
  cases okP f a b c l <;> cases t <;> simp -dsimp
/-! the prints -/
theorem okP_mask {f a b c : Int} {l : List Int} (ink : Int) (h : okP f a b c l = true) : okP f a b c (maskL l ink) = true := by
  rw [okP_spec] at h ⊢
  refine ⟨h.1, h.2.1, by rw [maskL_len]; exact h.2.2.1, fun n hn => ?_⟩
  obtain ⟨x, _, rfl⟩ := List.mem_map.1 hn
  split <;> omega
theorem ovS_eq {a b c u v : Int} {p m : List Int} {ink : Int} (ha : 0 < a) (hc : 0 < c) (hp : (p.length : Int) = a * c) (hm : m.length = p.length) : ovS a b c u v p m ink p.length = ovI p (mvI a b c u v m m.length) ink p.length := by
  apply List.ext_getElem?
  intro j
  by_cases hj : j < p.length
  · have h1 : mv a b c (-u) (-v) j < p.length := by have := mv_lt (b := b) (u := -u) (v := -v) ha hc j; omega
    rw [setN_get (i := mv a b c (-u) (-v) j) (m := p.length) hj h1 (fun k hk => mv_iff ha hc (by omega) (by omega)) p.length (Nat.le_refl _)]
    rw [setN_get (i := j) (m := p.length) hj hj (fun k hk => Iff.rfl) p.length (Nat.le_refl _)]
    simp [h1, hj, hm, mvI, List.getElem?_range hj]
  · rw [List.getElem?_eq_none (by rw [setN_len]; omega), List.getElem?_eq_none (by rw [setN_len]; omega)]
def prL (a b c : Int) (l : List Int) (sh : List (Int × Int)) : Nat → List Int
  | 0 => List.replicate l.length 0
  | k + 1 => ovI (prL a b c l sh k) (mvI a b c (sh.getD k (0, 0)).1 (sh.getD k (0, 0)).2 (maskL l (k + 1)) l.length) (k + 1) l.length
theorem prL_len {a b c : Int} {l : List Int} {sh : List (Int × Int)} : ∀ k, (prL a b c l sh k).length = l.length
  | 0 => by simp [prL]
  | k + 1 => by rw [prL, setN_len, prL_len k]
theorem s_marked (f a b c : Int) (k : Int) (ha : 1 ≤ a ∧ a ≤ 64) (hc : 1 ≤ c ∧ c ≤ 64) : Sp Tryz.prog 94 [vi f, aL a b c, .v (.sl 2 []), vi k] (oP f a b c 0) [.row 0 2 (is (List.replicate (a * c).toNat 0))] := by
  refine sp_of (m := no) mixed Tryz.func94 k94 ?_
  have h1 := ac_pos ha.1 hc.1
  have h2 := ac_hi ha hc
  simp -dsimp [q]
  refine call_of (s_index a b c ha hc) rfl (by simp) ?_
  try simp -dsimp
  try (first | exact fp_one (by decide) | refine fp_and (by decide) ?_)
  refine ⟨by omega, by decide, ?_⟩
  refine awp_it (false :: false :: false :: true :: false :: true :: false :: false :: true :: true :: false :: false :: false :: false :: false :: false :: false :: false :: true :: true :: true :: []) (fun i : Nat => [(20, vi i)]) (fun i => []) (fun i => i = 0) (fun i => 0) 0 ?_
  intro s0 e
  simp -dsimp at e
  subst e
  refine ⟨?_, ?_⟩
  · simp
  rintro i rfl
  simp -dsimp
theorem okS_get {sh : List (Int × Int)} (h : okS sh = true) {k : Nat} {x y : Int} (hk : sh[k]? = some (x, y)) : x.natAbs ≤ 1000 ∧ y.natAbs ≤ 1000 := by
  simp only [okS, Bool.and_eq_true, List.all_eq_true] at h
  have := okV_spec.1 (h.2 _ (List.mem_of_getElem? hk))
  simp only at this
  omega
theorem s_print (f a b c : Int) (l : List Int) (sh : List (Int × Int)) (hf : okP f a b c l = true) (hs : okS sh = true) : Sp Tryz.prog 48 [aP f a b c l, .v (vvs sh)] (oP f a b c 0) [.row 0 2 (is (prL a b c l sh 9))] := by
  obtain ⟨_, h2, h3, _⟩ := okP_spec.1 hf
  obtain ⟨ha, hc, hb, hac⟩ := okL_spec.1 h2
  have h1 := ac_pos ha.1 hc.1
  have h9 : sh.length = 9 := by simp only [okS, Bool.and_eq_true, decide_eq_true_eq] at hs; exact hs.1
  have h0 : l ≠ [] := by rintro rfl; simp at h3; omega
  refine sp_of (m := no) mixed Tryz.func48 k48 ?_
  simp -dsimp [q]
  refine call_of (s_marked f a b c 0 ha hc) rfl (by simp) ?_
  try simp -dsimp
  try (first | exact fp_one (by decide) | refine fp_and (by decide) ?_)
  refine awp_it (false :: false :: true :: false :: true :: true :: false :: false :: false :: false :: false :: false :: false :: false :: true :: true :: true :: []) (fun i : Nat => [(16, vi i)]) (fun i => [(3, .row 0 2 (is (prL a b c l sh i)))]) (fun i => i ≤ 9) (fun i => 9 - i) 0 ?_
  intro s0 e
  simp -dsimp at e
  subst e
  refine ⟨?_, ?_⟩
  · simp [prL]
    omega
  intro i hi
  simp -dsimp [h9]
  refine ⟨fun h5 => ⟨by omega, fun x y hxy => ?_⟩, fun h5 => ?_⟩
  · obtain ⟨k1, k2⟩ := okS_get hs hxy
    rw [w64 (by omega) (by omega)]
    refine call_of (s_mask f a b c l (i + 1) (by omega) h0) rfl (by simp) ?_
    try simp -dsimp
    try (first | exact fp_one (by decide) | refine fp_and (by decide) ?_)
    refine call_of (s_unit) rfl (by simp) ?_
    try simp -dsimp
    try (first | exact fp_one (by decide) | refine fp_and (by decide) ?_)
    refine call_of (s_move1 f a b c x y _ (okP_mask _ hf) k1 k2) rfl (by simp) ?_
    try simp -dsimp
    try (first | exact fp_one (by decide) | refine fp_and (by decide) ?_)
    have e1 := mvI_len (a := a) (b := b) (c := c) (u := x) (v := y) (l := maskL l (i + 1)) (n := (maskL l (i + 1)).length)
    have e2 := maskL_len l (i + 1)
    refine call_of (s_overprint f a b c (prL a b c l sh i) f a b c _ (i + 1) (by rw [prL_len]; omega) (by intro e; have := prL_len (a := a) (b := b) (c := c) (l := l) (sh := sh) i; rw [e] at this; simp at this; exact h0 (List.eq_nil_of_length_eq_zero this.symm)) (by rw [e1, e2, prL_len])) rfl (by simp) ?_
    try simp -dsimp
    try (first | exact fp_one (by decide) | refine fp_and (by decide) ?_)
    refine ⟨i + 1, ⟨by rw [w64 (by omega) (by omega)]; simp, ?_⟩, by omega, by omega⟩
    have e3 : sh.getD i (0, 0) = (x, y) := by simp [hxy]
    rw [prL, e3, prL_len, e2]
  · rw [show i = 9 by omega]
theorem s_sprint (f a b c : Int) (l : List Int) (sh : List (Int × Int)) (hf : okP f a b c l = true) (hs : okS sh = true) : Sp Tryz.prog 51 [aP f a b c l, .v (vvs sh)] (oP f a b c 0) [.row 0 2 (is (prL a b c l sh 9))] := by
  obtain ⟨_, h2, h3, _⟩ := okP_spec.1 hf
  obtain ⟨ha, hc, hb, hac⟩ := okL_spec.1 h2
  have h1 := ac_pos ha.1 hc.1
  have h9 : sh.length = 9 := by simp only [okS, Bool.and_eq_true, decide_eq_true_eq] at hs; exact hs.1
  have h0 : l ≠ [] := by rintro rfl; simp at h3; omega
  refine sp_of (m := no) mixed Tryz.func51 k51 ?_
  simp -dsimp [q]
  refine ⟨by omega, by decide, ?_⟩
  refine awp_it (false :: true :: true :: false :: true :: true :: true :: []) (fun i : Nat => [(6, vi (i + 1))]) (fun i => [(3, .row 0 2 (is (prL a b c l sh i)))]) (fun i => i ≤ 9) (fun i => 9 - i) 0 ?_
  intro s0 e
  simp -dsimp at e
  subst e
  refine ⟨?_, ?_⟩
  · simp [prL]
  intro i hi
  simp -dsimp [h9]
  refine ⟨fun h5 => ?_, fun h5 => ?_⟩
  · refine call_of (s_smask f a b c l (i + 1) (by omega)) rfl (by simp) ?_
    try simp -dsimp
    try (first | exact fp_one (by decide) | refine fp_and (by decide) ?_)
    rw [w64 (n := (i : Int)) (by omega) (by omega)]
    refine ⟨⟨by omega, by omega⟩, fun x y hxy => ?_⟩
    simp only [Int.toNat_natCast] at hxy
    obtain ⟨k1, k2⟩ := okS_get hs hxy
    have hw := s_over f a b c (prL a b c l sh i) f a b c (maskL l (i + 1)) (i + 1) x y h2 (by rw [prL_len]; exact h3) (by rw [maskL_len, prL_len]) k1 k2
    rw [ovS_eq (by omega) (by omega) (by rw [prL_len]; exact h3) (by rw [maskL_len, prL_len])] at hw
    refine call_of (hw) rfl (by simp) ?_
    try simp -dsimp
    try (first | exact fp_one (by decide) | refine fp_and (by decide) ?_)
    refine ⟨i + 1, ⟨by rw [w64 (by omega) (by omega)]; simp, ?_⟩, by omega, by omega⟩
    have e3 : sh.getD i (0, 0) = (x, y) := by simp [hxy]
    rw [prL, e3, prL_len, maskL_len]
  · rw [show i = 9 by omega]
/-! all of it -/
abbrev zP : A := .ag [vi 0, vi 0, vi 0, vi 0, .nil 0]
theorem s_pS (f a b c : Int) (l : List Int) (sh : List (Int × Int)) (hf : okP f a b c l = true) (hs : okS sh = true) (hl : l.length ≤ 1048576) (hsl : sh.length ≤ 1048576) : Sp Tryz.prog 8 [aP f a b c l, .v (vvs sh)] (.tu [oP f a b c 0, vi 0]) [.row 0 2 (is (prL a b c l sh 9))] := by
  have w1 := s_isP f a b c l hl
  have w2 := s_isS sh hsl
  rw [hf] at w1
  rw [hs] at w2
  refine sp_of (m := no) mixed Tryz.func8 k8 ?_
  simp -dsimp [q]
  refine call_of (w1) rfl (by simp) ?_
  try simp -dsimp
  try (first | exact fp_one (by decide) | refine fp_and (by decide) ?_)
  refine call_of (w2) rfl (by simp) ?_
  try simp -dsimp
  try (first | exact fp_one (by decide) | refine fp_and (by decide) ?_)
  refine call_of (s_print f a b c l sh hf hs) rfl (by simp) ?_
  try simp -dsimp
  try (first | exact fp_one (by decide) | refine fp_and (by decide) ?_)
theorem s_pS_bad (f a b c : Int) (l : List Int) (sh : List (Int × Int)) (hf : okP f a b c l = false) (hl : l.length ≤ 1048576) : Sp Tryz.prog 8 [aP f a b c l, .v (vvs sh)] (.tu [zP, vi 1]) [] := by
  have w1 := s_isP f a b c l hl
  rw [hf] at w1
  refine sp_of (m := no) mixed Tryz.func8 k8 ?_
  simp -dsimp [q]
  refine call_of (w1) rfl (by simp) ?_
  try simp -dsimp
  try (first | exact fp_one (by decide) | refine fp_and (by decide) ?_)
theorem s_pS_far (f a b c : Int) (l : List Int) (sh : List (Int × Int)) (hf : okP f a b c l = true) (hs : okS sh = false) (hl : l.length ≤ 1048576) (hsl : sh.length ≤ 1048576) : Sp Tryz.prog 8 [aP f a b c l, .v (vvs sh)] (.tu [zP, vi 2]) [] := by
  have w1 := s_isP f a b c l hl
  have w2 := s_isS sh hsl
  rw [hf] at w1
  rw [hs] at w2
  refine sp_of (m := no) mixed Tryz.func8 k8 ?_
  simp -dsimp [q]
  refine call_of (w1) rfl (by simp) ?_
  try simp -dsimp
  try (first | exact fp_one (by decide) | refine fp_and (by decide) ?_)
  refine call_of (w2) rfl (by simp) ?_
  try simp -dsimp
  try (first | exact fp_one (by decide) | refine fp_and (by decide) ?_)
theorem s_spS (f a b c : Int) (l : List Int) (sh : List (Int × Int)) (hf : okP f a b c l = true) (hs : okS sh = true) (hl : l.length ≤ 1048576) (hsl : sh.length ≤ 1048576) : Sp Tryz.prog 9 [aP f a b c l, .v (vvs sh)] (.tu [oP f a b c 0, vi 0]) [.row 0 2 (is (prL a b c l sh 9))] := by
  have w1 := s_scode25 f a b c l true hl
  have w2 := s_sisS sh hsl
  rw [hf] at w1
  rw [hs] at w2
  refine sp_of (m := no) mixed Tryz.func9 k9 ?_
  simp -dsimp [q]
  refine call_of (w2) rfl (by simp) ?_
  try simp -dsimp
  try (first | exact fp_one (by decide) | refine fp_and (by decide) ?_)
  refine call_of (w1) rfl (by simp) ?_
  try simp -dsimp
  try (first | exact fp_one (by decide) | refine fp_and (by decide) ?_)
  refine call_of (s_sprint f a b c l sh hf hs) rfl (by simp) ?_
  try simp -dsimp
  try (first | exact fp_one (by decide) | refine fp_and (by decide) ?_)
theorem s_spS_bad (f a b c : Int) (l : List Int) (sh : List (Int × Int)) (hb : ¬ (okP f a b c l = true ∧ okS sh = true)) (hl : l.length ≤ 1048576) (hsl : sh.length ≤ 1048576) : Sp Tryz.prog 9 [aP f a b c l, .v (vvs sh)] (.tu [zP, vi (if okP f a b c l = true then 2 else 1)]) [] := by
  have w1 := s_scode25 f a b c l (okS sh) hl
  have w2 := s_sisS sh hsl
  generalize okP f a b c l = p at *
  generalize okS sh = s at *
  refine sp_of (m := no) mixed Tryz.func9 k9 ?_
  simp -dsimp [q]
  refine call_of (w2) rfl (by simp) ?_
  try simp -dsimp
  try (first | exact fp_one (by decide) | refine fp_and (by decide) ?_)
  refine call_of (w1) rfl (by simp) ?_
  try simp -dsimp
  try (first | exact fp_one (by decide) | refine fp_and (by decide) ?_)
  cases p <;> cases s <;> simp at hb ⊢
def gapL (p r : List Int) : Nat → Int
  | 0 => 0
  | n + 1 => gapL p r n + if r.getD n 0 = 0 ∧ p.getD n 0 ≠ 0 then 1 else 0
theorem gapL_bd (p r : List Int) : ∀ n, 0 ≤ gapL p r n ∧ gapL p r n ≤ n
  | 0 => by simp [gapL]
  | n + 1 => by have := gapL_bd p r n; simp only [gapL]; split <;> omega
theorem s_gaps (f a b c : Int) (l : List Int) (sh : List (Int × Int)) (hf : okP f a b c l = true) (hs : okS sh = true) (hl : l.length ≤ 1048576) (hsl : sh.length ≤ 1048576) : Sp Tryz.prog 10 [aP f a b c l, .v (vvs sh)] (.tu [vi (gapL l (prL a b c l sh 9) l.length), vi 0]) [] := by
  refine sp_of (m := no) mixed Tryz.func10 k10 ?_
  have e := prL_len (a := a) (b := b) (c := c) (l := l) (sh := sh) 9
  have w := s_pS f a b c l sh hf hs hl hsl
  generalize prL a b c l sh 9 = r at *
  simp -dsimp [q]
  refine call_of (w) rfl (by simp) ?_
  try simp -dsimp
  try (first | exact fp_one (by decide) | refine fp_and (by decide) ?_)
  refine awp_it (false :: false :: true :: false :: false :: false :: false :: true :: true :: false :: false :: false :: false :: false :: false :: false :: false :: false :: true :: true :: true :: []) (fun i : Nat => [(8, vi (gapL l r i)), (20, vi i)]) (fun i => []) (fun i => i ≤ l.length) (fun i => l.length - i) 0 ?_
  intro s0 e
  simp -dsimp at e
  subst e
  refine ⟨?_, ?_⟩
  · simp [gapL]
  intro i hi
  simp -dsimp [e]
  have hb := gapL_bd l r i
  refine ⟨fun h1 => ⟨by omega, fun z hz => ?_⟩, fun h1 => ?_⟩
  · refine ⟨fun e0 => ⟨h1, fun y hy => ⟨fun e1 => ⟨i + 1, ⟨?_, by rw [w64 (by omega) (by omega)]; simp⟩, by omega, by omega⟩, fun e1 => ⟨i + 1, ⟨?_, by rw [w64 (by omega) (by omega)]; simp⟩, by omega, by omega⟩⟩⟩, fun e0 => ⟨i + 1, ⟨?_, by rw [w64 (by omega) (by omega)]; simp⟩, by omega, by omega⟩⟩
    · rw [w64 (by omega) (by omega)]
      simp [gapL, hz, hy, e0, e1]
    · simp [gapL, hz, hy, e0, e1]
    · simp [gapL, hz, e0]
  · rw [show i = l.length by omega]
theorem s_gaps_bad (f a b c : Int) (l : List Int) (sh : List (Int × Int)) (k : Int) (w : Sp Tryz.prog 8 [aP f a b c l, .v (vvs sh)] (.tu [zP, vi k]) []) : Sp Tryz.prog 10 [aP f a b c l, .v (vvs sh)] (.tu [vi 0, vi k]) [] := by
  refine sp_of (m := no) mixed Tryz.func10 k10 ?_
  simp -dsimp [q]
  refine call_of (w) rfl (by simp) ?_
  try simp -dsimp
  try (first | exact fp_one (by decide) | refine fp_and (by decide) ?_)
  refine awp_it (false :: false :: true :: false :: false :: false :: false :: true :: true :: false :: false :: false :: false :: false :: false :: false :: false :: false :: true :: true :: true :: []) (fun i : Nat => []) (fun i => []) (fun i => i = 0) (fun i => 0) 0 ?_
  intro s0 e
  simp -dsimp at e
  subst e
  refine ⟨?_, ?_⟩
  · simp
  rintro i rfl
  simp -dsimp
theorem s_sgaps (f a b c : Int) (l : List Int) (sh : List (Int × Int)) (hf : okP f a b c l = true) (hs : okS sh = true) (hl : l.length ≤ 1048576) (hsl : sh.length ≤ 1048576) : Sp Tryz.prog 11 [aP f a b c l, .v (vvs sh)] (.tu [vi (gapL l (prL a b c l sh 9) l.length), vi 0]) [] := by
  have hpos := (okP_spec.1 hf).2.2.2
  have w1 := s_scode25 f a b c l true hl
  have w2 := s_sisS sh hsl
  have w3 := s_sprint f a b c l sh hf hs
  rw [hf] at w1
  rw [hs] at w2
  have e := prL_len (a := a) (b := b) (c := c) (l := l) (sh := sh) 9
  generalize prL a b c l sh 9 = r at *
  refine sp_of (m := no) mixed Tryz.func11 k11 ?_
  simp -dsimp [q]
  refine call_of (w2) rfl (by simp) ?_
  try simp -dsimp
  try (first | exact fp_one (by decide) | refine fp_and (by decide) ?_)
  refine call_of (w1) rfl (by simp) ?_
  try simp -dsimp
  try (first | exact fp_one (by decide) | refine fp_and (by decide) ?_)
  refine call_of (w3) rfl (by simp) ?_
  try simp -dsimp
  try (first | exact fp_one (by decide) | refine fp_and (by decide) ?_)
  refine awp_it (false :: false :: true :: false :: false :: false :: false :: true :: true :: true :: []) (fun i : Nat => [(8, vi (gapL l r i)), (9, vi i)]) (fun i => []) (fun i => i ≤ l.length) (fun i => l.length - i) 0 ?_
  intro s0 e
  simp -dsimp at e
  subst e
  refine ⟨?_, ?_⟩
  · simp [gapL]
  intro i hi
  simp -dsimp [e]
  have hb := gapL_bd l r i
  refine ⟨fun h1 => ⟨h1, fun y hy => ?_⟩, fun h1 => ?_⟩
  · have hy0 := hpos y (List.mem_of_getElem? hy)
    refine ⟨fun e1 => ⟨h1, fun z hz => ⟨fun e0 => ⟨i + 1, ⟨?_, by rw [w64 (by omega) (by omega)]; simp⟩, by omega, by omega⟩, fun e0 => ⟨i + 1, ⟨?_, by rw [w64 (by omega) (by omega)]; simp⟩, by omega, by omega⟩⟩⟩, fun e1 => ⟨i + 1, ⟨?_, by rw [w64 (by omega) (by omega)]; simp⟩, by omega, by omega⟩⟩
    · rw [w64 (by omega) (by omega)]
      simp [gapL, hz, hy, e0, show ¬ y = 0 by omega]
    · simp [gapL, hz, e0]
    · simp [gapL, hy, show y = 0 by omega]
  · rw [show i = l.length by omega]
theorem s_sgaps_bad (f a b c : Int) (l : List Int) (sh : List (Int × Int)) (hb : ¬ (okP f a b c l = true ∧ okS sh = true)) (hl : l.length ≤ 1048576) (hsl : sh.length ≤ 1048576) : Sp Tryz.prog 11 [aP f a b c l, .v (vvs sh)] (.tu [vi 0, vi (if okP f a b c l = true then 2 else 1)]) [] := by
  have w1 := s_scode25 f a b c l (okS sh) hl
  have w2 := s_sisS sh hsl
  generalize okP f a b c l = p at *
  generalize okS sh = s at *
  refine sp_of (m := no) mixed Tryz.func11 k11 ?_
  simp -dsimp [q]
  refine call_of (w2) rfl (by simp) ?_
  try simp -dsimp
  try (first | exact fp_one (by decide) | refine fp_and (by decide) ?_)
  refine call_of (w1) rfl (by simp) ?_
  try simp -dsimp
  try (first | exact fp_one (by decide) | refine fp_and (by decide) ?_)
  cases p <;> cases s <;> simp at hb ⊢
end Go.Proofs.YtgkhakhkebjbpaaGreatEv
namespace Go.Proofs.YtgkhakhkebjbpaaGreatEv
open Go Go.Proofs
set_option maxRecDepth 10000
set_option maxHeartbeats 1000000
@[simp] theorem gs_rep (n : Nat) (a b c d x y : Int) : List.replicate n (V.ag [.int .i64 a, .int .i64 b, .int .i64 c, .int .i64 d, .int .i64 x, .int .i64 y]) = gs (List.replicate n ((a, b, c, d), x, y)) := by simp [gs, vg]
/-! codes -/
def cellB (a c : Int) (v : Int × Int) : Bool := decide (0 ≤ v.1 ∧ v.1 ≤ a - 1) && decide (0 ≤ v.2 ∧ v.2 ≤ c - 1)
end Go.Proofs.YtgkhakhkebjbpaaGreatEv
namespace Go.Proofs.YtgkhakhkebjbpaaGreatEv
open Go Go.Proofs
set_option maxRecDepth 10000
set_option maxHeartbeats 2000000
theorem fA_of {α : Type} {o : Option α} {K : α → Prop} {y : α} (h : o = some y) (k : K y) : fA o K := by rw [h, fA_some]; exact k
def len8 (x : Nat) : Int := ([0, 1, 2, 2, 3, 3, 3, 3, 4, 4, 4, 4, 4] : List Int).getD x 0
/-! closing, as the program does it -/
end Go.Proofs.YtgkhakhkebjbpaaGreatEv
namespace Go.Proofs.YtgkhakhkebjbpaaGreatEv
open Go Go.Proofs
set_option maxRecDepth 10000
set_option maxHeartbeats 2000000
theorem s_sins (l : List G6) (m : G6) (hs : srt l) (hl : l.length ≤ 1000) (hm : m ∉ l) : Sp Tryz.prog 153 [.v (vgs l), aG6 m] (.sli 0) [.row 6 47 (gs (insG l m))] := by
  refine sp_of (m := no) mixed Tryz.func153 k153 ?_
  have hp := plc_has (m := m) hs
  have hpl : plc l m ≤ l.length := List.findIdx_le_length
  have e0 : gs (insG l m) = gs (List.take (plc l m) l ++ [((m.1.1, m.1.2.1, m.1.2.2.1, m.1.2.2.2), m.2.1, m.2.2)]) ++ gs (List.take (l.length - plc l m) (List.drop (plc l m) l)) := by
    rw [gs_app2, show List.take (l.length - plc l m) (List.drop (plc l m) l) = List.drop (plc l m) l from List.take_of_length_le (by simp)]
    simp [insG]
  simp -dsimp [q, -Prod.forall, -Prod.exists]
  refine call_of (s_place l m hs (by omega)) rfl (by simp) ?_
  try simp -dsimp
  try (first | exact fp_one (by decide) | refine fp_and (by decide) ?_)
  refine ⟨fun hlt => ⟨hlt, fun a1 a2 a3 a4 a5 a6 hx => ⟨?_, fun _ => ⟨by omega, ⟨by omega, by omega⟩, ⟨by omega, by omega⟩, by omega, ⟨by omega, by omega⟩, by decide, e0⟩⟩⟩, fun hge => ⟨by omega, ⟨by omega, by omega⟩, ⟨by omega, by omega⟩, by omega, ⟨by omega, by omega⟩, by decide, e0⟩⟩
  rintro rfl rfl rfl rfl rfl rfl
  exact hm (hp.1 ⟨hlt, hx⟩)
theorem s_sclose (n : Int) (L S : List G6) (hn : 1 ≤ n ∧ n ≤ 4) (c : Clo n L S) : Sp Tryz.prog 129 [aL (2 * n) 0 (2 * n), .v (vgs L)] (.sli 0) [.row 6 47 (gs (srtL (grpL n L)))] := by
  refine sp_of (m := no) mixed Tryz.func129 k129 ?_
  simp -dsimp [q]
  refine call_of (s_sun) rfl (by simp) ?_
  try simp -dsimp
  try (first | exact fp_one (by decide) | refine fp_and (by decide) ?_)
  refine call_of (s_sun) rfl (by simp) ?_
  try simp -dsimp
  try (first | exact fp_one (by decide) | refine fp_and (by decide) ?_)
  have hmem : ∀ g, memG (2 * n) (2 * n) g → oneM g.1 ∧ g.2.1.natAbs ≤ 1000 ∧ g.2.2.natAbs ≤ 1000 := fun g ⟨g1, g2, g3⟩ => ⟨g1, by omega, by omega⟩
  have hlen := c.len2
  refine awp_it (false :: true :: true :: false :: false :: true :: true :: true :: []) (fun s : Nat × List G6 => [(7, vi s.1)]) (fun s => [(1, .row 6 47 (gs (srtL s.2))), (2, .row 6 47 (gs s.2))]) (fun s => Gd S s.2 ∧ s.1 ≤ s.2.length ∧ bfs n L (13 - s.1) s.1 s.2 = grpL n L) (fun s => 13 - s.1) (0, [unG]) ?_
  intro s0 e
  simp -dsimp at e
  subst e
  refine ⟨?_, ?_⟩
  · exact ⟨by simp [gs, vg, srtL, insG, plc], Gd.one c, by simp, rfl⟩
  rintro ⟨k, O⟩ ⟨h1, h2, h3⟩
  simp only at h1 h2 h3
  have hO := h1.len c
  by_cases hk : k < O.length
  case neg =>
    have e : O = grpL n L := by rw [← h3, bfs_end _ _ _ _ _ (by omega)]
    have hk2 : ¬ ((k : Int) < (grpL n L).length) := by rw [← e]; omega
    simp -dsimp [hk2, -Prod.forall, -Prod.exists, e]
  obtain ⟨g, hg⟩ : ∃ g, O[k]? = some g := ⟨_, List.getElem?_eq_getElem hk⟩
  have hgS := h1.sub g (List.mem_of_getElem? hg)
  rw [show 13 - k = (12 - k) + 1 by omega, bfs_step n L _ k O g hg] at h3
  simp -dsimp [show ((k : Int) < O.length) by omega, -Prod.forall, -Prod.exists]
  refine awp_it (false :: true :: true :: false :: false :: true :: true :: true :: true :: []) (fun s : Nat × List G6 => [(8, vi s.1)]) (fun s => [(1, .row 6 47 (gs (srtL s.2))), (2, .row 6 47 (gs s.2))]) (fun s => Gd S s.2 ∧ s.2[k]? = some g ∧ s.1 ≤ L.length ∧ (L.drop s.1).foldl (addG n g) s.2 = L.foldl (addG n g) O) (fun s => L.length - s.1) (0, O) ?_
  intro s0 e
  simp -dsimp at e
  subst e
  refine ⟨?_, ?_⟩
  · exact ⟨by simp, h1, hg, by simp, rfl⟩
  rintro ⟨i, O'⟩ ⟨k1, k2, k3, k4⟩
  simp only at k1 k2 k3 k4
  have hO' := k1.len c
  by_cases hi : i < L.length
  case neg =>
    rw [List.drop_of_length_le (by omega), List.foldl_nil] at k4
    simp -dsimp [show ¬ ((i : Int) < L.length) by omega, -Prod.forall, -Prod.exists]
    have hkl := (List.getElem?_eq_some_iff.1 k2).1
    exact ⟨(k + 1, O'), ⟨by rw [w64 (by omega) (by omega)]; simp, rfl, rfl⟩, ⟨k1, by simp only; omega, by simp only; rw [k4, ← h3, show 13 - (k + 1) = 12 - k by omega]⟩, by simp only; omega⟩
  obtain ⟨m, hm⟩ : ∃ m, L[i]? = some m := ⟨_, List.getElem?_eq_getElem hi⟩
  have hmL := List.mem_of_getElem? hm
  have ga := k1.add c hmL hgS
  have mg := hmem m (c.sl m hmL)
  have kg := hmem g (c.sm g hgS)
  have kd : (L.drop (i + 1)).foldl (addG n g) (addG n g O' m) = L.foldl (addG n g) O := by
    rw [← k4]
    conv => rhs; rw [List.drop_eq_getElem_cons hi, List.foldl_cons]
    rw [(List.getElem?_eq_some_iff.1 hm).2]
  have hkl := (List.getElem?_eq_some_iff.1 k2).1
  simp -dsimp [show ((i : Int) < L.length) by omega, -Prod.forall, -Prod.exists]
  refine fun m' hm' => ?_
  rw [hm] at hm'
  cases hm'
  refine ⟨hkl, fun g' hg' => ?_⟩
  rw [k2] at hg'
  cases hg'
  refine call_of (s_sgmul m g mg kg) rfl (by simp) ?_
  try simp -dsimp
  try (first | exact fp_one (by decide) | refine fp_and (by decide) ?_)
  have q1 := mul_bd mg.1.1.1 kg.2.1
  have q2 := mul_bd mg.1.1.2 kg.2.2
  have q3 := mul_bd mg.1.2.1 kg.2.1
  have q4 := mul_bd mg.1.2.2 kg.2.2
  obtain ⟨_, mg2, mg3⟩ := mg
  refine call_of (s_sgred (2 * n) 0 (2 * n) (mulG m g) (by omega) (by omega) (by omega) (by simp only [mulG]; omega) (by simp only [mulG]; omega)) rfl (by simp) ?_
  try simp -dsimp
  try (first | exact fp_one (by decide) | refine fp_and (by decide) ?_)
  have ad : addG n g O' m = if redG (2 * n) 0 (2 * n) (mulG m g) ∈ O' then O' else O' ++ [redG (2 * n) 0 (2 * n) (mulG m g)] := rfl
  have gk := addG_get (n := n) (g := g) (m := m) k2
  generalize redG (2 * n) 0 (2 * n) (mulG m g) = p at *
  have hsr := srtL_srt k1.nd
  have hsl := srtL_len O'
  have hsm := srtL_mem (Q := O') (x := p)
  have hsa := srtL_app O' p
  refine call_of (s_shas (srtL O') p hsr (by omega)) rfl (by simp) ?_
  try simp -dsimp
  try (first | exact fp_one (by decide) | refine fp_and (by decide) ?_)
  refine ⟨fun hno => ?_, fun hyes => ⟨i + 1, O', ⟨by rw [w64 (by omega) (by omega)]; simp, rfl, rfl⟩, ?_, by omega⟩⟩
  · rw [if_neg (fun hin => hno (hsm.2 hin))] at ad
    rw [ad] at ga gk kd
    refine call_of (s_sins (srtL O') p hsr (by omega) hno) rfl (by simp) ?_
    try simp -dsimp
    try (first | exact fp_one (by decide) | refine fp_and (by decide) ?_)
    exact ⟨⟨by omega, by omega⟩, i + 1, O' ++ [p], ⟨by rw [w64 (by omega) (by omega)]; simp, hsa.symm, rfl⟩, ⟨ga, gk, by omega, kd⟩, by omega⟩
  · rw [if_pos (hsm.1 hyes)] at ad
    rw [ad] at ga gk kd
    exact ⟨ga, gk, by omega, kd⟩
end Go.Proofs.YtgkhakhkebjbpaaGreatEv
namespace Go.Proofs.YtgkhakhkebjbpaaGreatEv
open Go Go.Proofs
set_option maxRecDepth 10000
set_option maxHeartbeats 1000000
theorem get_findIdx {α : Type} (p : α → Bool) : ∀ l : List α, l[l.findIdx p]? = l.find? p
  | [] => rfl
  | x :: l => by
    rw [List.findIdx_cons, List.find?_cons]
    cases h : p x
    · simpa using get_findIdx p l
    · simp
theorem ite_and_two {p q : Prop} [Decidable p] [Decidable q] (h : ¬ (p ∧ q)) : (if p then (if q then (0 : Int) else 2) else 2) = 2 := by
  split
  · rw [if_neg (fun hq => h ⟨by assumption, hq⟩)]
  · rfl
def mvB (a b c : Int) (u v : Int × Int) (g : G6) : Bool := decide (mvV a b c g u = v)
theorem mvB_cdec (a b c x y x' y' : Int) (g : G6) : cdec ((mvV a b c g (x, y)).1 = x' ∧ (mvV a b c g (x, y)).2 = y') = mvB a b c (x, y) (x', y') g := by
  rw [Bool.eq_iff_iff, cdec_true, mvB, decide_eq_true_iff]
  exact ⟨fun h => Prod.ext h.1 h.2, fun h => ⟨congrArg Prod.fst h, congrArg Prod.snd h⟩⟩
theorem grp_small {f a b c : Int} {l : List G6} (hf : 0 ≤ f ∧ f ≤ 1) (ha : 1 ≤ a ∧ a ≤ 64) (hc : 1 ≤ c ∧ c ≤ 64) (h : grp f a b c l) : ∀ g ∈ l, smallG g := fun g hg => by
  have h1 := h.1.1 g (by rw [List.take_length]; exact hg)
  exact (suit_small hf ((elG_suit hf ha hc).1 h1).1).1
theorem cell_small {a c : Int} (ha : 1 ≤ a ∧ a ≤ 64) (hc : 1 ≤ c ∧ c ≤ 64) {x y : Int} (h : cellB a c (x, y) = true) : x.natAbs ≤ 1000 ∧ y.natAbs ≤ 1000 := by
  simp only [cellB, Bool.and_eq_true, decide_eq_true_eq] at h
  omega
def mvR (o : Option G6) : G6 × Int := match o with
  | some g => (g, 0)
  | none => (((0, 0, 0, 0), 0, 0), 4)
end Go.Proofs.YtgkhakhkebjbpaaGreatEv
namespace Go.Proofs.YtgkhakhkebjbpaaGreatEv
open Go Go.Proofs
set_option maxRecDepth 10000
set_option maxHeartbeats 1000000
theorem gs_mget (M R : List G6) (g : G6) : (gs (M ++ g :: R))[M.length]? = some (.ag [.int .i64 g.1.1, .int .i64 g.1.2.1, .int .i64 g.1.2.2.1, .int .i64 g.1.2.2.2, .int .i64 g.2.1, .int .i64 g.2.2]) := by
  simp [gs, vg]
theorem gs_mset (M R : List G6) (g : G6) (a b c d x y : Int) : (gs (M ++ g :: R)).set M.length (.ag [.int .i64 a, .int .i64 b, .int .i64 c, .int .i64 d, .int .i64 x, .int .i64 y]) = gs (M ++ ((a, b, c, d), x, y) :: R) := by
  simp [gs, vg]
theorem gs_mgetI (M R : List G6) (g : G6) : (gs (M ++ g :: R))[((M.length : Nat) : Int).toNat]? = some (.ag [.int .i64 g.1.1, .int .i64 g.1.2.1, .int .i64 g.1.2.2.1, .int .i64 g.1.2.2.2, .int .i64 g.2.1, .int .i64 g.2.2]) := by
  rw [Int.toNat_natCast, gs_mget]
theorem gs_msetI (M R : List G6) (g : G6) (a b c d x y : Int) : (gs (M ++ g :: R)).set ((M.length : Nat) : Int).toNat (.ag [.int .i64 a, .int .i64 b, .int .i64 c, .int .i64 d, .int .i64 x, .int .i64 y]) = gs (M ++ ((a, b, c, d), x, y) :: R) := by
  rw [Int.toNat_natCast, gs_mset]
def mkG (k : Int) (n : Nat) : List G6 := (List.range n).map fun i : Nat => ((k + 6 * i, k + 6 * i + 1, k + 6 * i + 2, k + 6 * i + 3), k + 6 * i + 4, k + 6 * i + 5)
theorem mkG_len (k : Int) (n : Nat) : (mkG k n).length = n := by simp [mkG]
theorem mkG_succ (k : Int) (n : Nat) : mkG k (n + 1) = mkG k n ++ [((k + 6 * n, k + 6 * n + 1, k + 6 * n + 2, k + 6 * n + 3), k + 6 * n + 4, k + 6 * n + 5)] := by simp [mkG, List.range_succ]
theorem mkG_get {k : Int} {n i : Nat} (h : i < n) : (mkG k n)[i]? = some ((k + 6 * i, k + 6 * i + 1, k + 6 * i + 2, k + 6 * i + 3), k + 6 * i + 4, k + 6 * i + 5) := by
  simp [mkG, h]
/-! stabilisers -/
def stL (a b c : Int) (v : Int × Int) (l : List G6) : List G6 := l.filter (mvB a b c v v)
theorem stL_succ {a b c : Int} {v : Int × Int} {l : List G6} {i : Nat} {g : G6} (h : l[i]? = some g) : stL a b c v (l.take (i + 1)) = if mvB a b c v v g = true then stL a b c v (l.take i) ++ [g] else stL a b c v (l.take i) := by
  unfold stL
  rw [List.take_add_one, h, List.filter_append]
  cases hm : mvB a b c v v g <;> simp [hm]
theorem stL_len (a b c : Int) (v : Int × Int) (l : List G6) : (stL a b c v l).length ≤ l.length := List.length_filter_le _ _
end Go.Proofs.YtgkhakhkebjbpaaGreatEv
namespace Go.Proofs.YtgkhakhkebjbpaaGreatEv
open Go Go.Proofs
set_option maxRecDepth 10000
theorem eu_out : ∀ (n : Nat) (h v : Int × Int), 0 < h.2 → 0 ≤ v.2 → v.2.natAbs ≤ n → (eu n h v).2.2 = 0 ∧ 0 < (eu n h v).1.2 ∧ (eu n h v).1.2 ∣ h.2 ∧ (eu n h v).1.2 ∣ v.2 ∧ ((eu n h v).1 = h ∨ (eu n h v).1 = v ∨ (eu n h v).1.1.natAbs * (2 * (eu n h v).1.2.natAbs) ≤ pot h v)
  | 0, h, v, hh, hv, hn => by
    have : v.2 = 0 := by omega
    rw [eu_zero this, this]
    exact ⟨rfl, hh, Int.dvd_refl _, Int.dvd_zero _, .inl rfl⟩
  | n + 1, h, v, hh, hv, hn => by
    by_cases hz : v.2 = 0
    · rw [eu_zero hz, hz]
      exact ⟨rfl, hh, Int.dvd_refl _, Int.dvd_zero _, .inl rfl⟩
    have hp := pot_step (h := h) (v := v)
    simp only [eu, if_neg hz]
    have e1 : h.2.tmod v.2 = h.2 % v.2 := Int.tmod_eq_emod_of_nonneg (by omega)
    have e2 := Int.emod_nonneg h.2 hz
    have e3 := Int.emod_lt_of_pos h.2 (show 0 < v.2 by omega)
    have e4 := Int.emod_add_mul_ediv h.2 v.2
    obtain ⟨i1, i2, i3, i4, i5⟩ := eu_out n v (h.1 - h.2.tdiv v.2 * v.1, h.2.tmod v.2) (by omega) (by simp only; omega) (by simp only; omega)
    generalize eu n v (h.1 - h.2.tdiv v.2 * v.1, h.2.tmod v.2) = r at *
    generalize hw : h.1 - h.2.tdiv v.2 * v.1 = w1 at *
    simp only at i4 i5 hp
    rw [e1] at i4 i5 hp
    refine ⟨i1, i2, ?_, i3, ?_⟩
    · rw [← e4]
      exact Int.dvd_add i4 (Int.dvd_trans i3 (Int.dvd_mul_right _ _))
    · rcases i5 with i5 | i5 | i5
      · exact .inr (.inl i5)
      · refine .inr (.inr (Nat.le_trans ?_ hp))
        rw [i5] at i2 i3 ⊢
        simp only at i2 i3 ⊢
        obtain ⟨m, hm⟩ := i3
        have hm2 : 2 ≤ m := by
          rcases Int.lt_or_le m 2 with hlt | hge
          · exfalso
            have : (h.2 % v.2 : Int) * m ≤ (h.2 % v.2) * 1 := Int.mul_le_mul_of_nonneg_left (by omega) (by omega)
            omega
          · exact hge
        have hv2 : 2 * (h.2 % v.2).natAbs ≤ v.2.natAbs := by
          have := Int.mul_le_mul_of_nonneg_left hm2 (show 0 ≤ h.2 % v.2 by omega)
          omega
        unfold pot
        exact Nat.le_trans (Nat.mul_le_mul_left _ hv2) (Nat.le_add_left _ _)
      · exact .inr (.inr (Nat.le_trans i5 hp))
theorem eu_same {n : Nat} {h v : Int × Int} (hh : 0 < h.2) (hv : 0 ≤ v.2) (hn : v.2.natAbs ≤ n) (hd : h.2 ∣ v.2) : (eu n h v).1 = h ∨ (eu n h v).1 = v := by
  by_cases hz : v.2 = 0
  · rw [eu_zero hz]; exact .inl rfl
  obtain ⟨k, rfl⟩ : ∃ k, n = k + 1 := ⟨n - 1, by omega⟩
  simp only [eu, if_neg hz]
  by_cases he : v.2 = h.2
  · right
    rw [eu_zero (by simp only; rw [he, Int.tmod_self])]
  · left
    have hlt : h.2 < v.2 := by
      have := Int.le_of_dvd (by omega) hd
      omega
    have e1 : h.2.tmod v.2 = h.2 := by rw [Int.tmod_eq_emod_of_nonneg (by omega), Int.emod_eq_of_lt (by omega) hlt]
    have e2 : h.2.tdiv v.2 = 0 := Int.tdiv_eq_zero_of_lt (by omega) hlt
    rw [e1, e2, Int.zero_mul, Int.sub_zero]
    obtain ⟨j, rfl⟩ : ∃ j, k = j + 1 := ⟨k - 1, by omega⟩
    have e3 : v.2.tmod h.2 = 0 := by
      obtain ⟨m, hm⟩ := hd
      rw [hm, Int.mul_tmod_right]
    simp only [eu]
    rw [if_neg (by omega), eu_zero (by simp only; exact e3)]
def tm (c y : Int) : Int := if c < 2 * y then 1 else if c < 4 * y then 4 else if c < 8 * y then 20 else if c < 16 * y then 168 else if c < 32 * y then 2704 else if c < 64 * y then 86560 else 5539904
theorem tm_pos (c y : Int) : 1 ≤ tm c y := by
  unfold tm
  repeat' split
  all_goals omega
theorem tm_core {c y' A X Z t K : Int} (hy' : 0 < y') (hc : 0 ≤ c) (hA : 0 ≤ A) (hK : 0 ≤ K) (hX : X ≤ A * t) (hz : Z * (2 * y') ≤ (X + A) * c) (h : c ≤ K * (2 * y')) (ht : 0 ≤ t) : Z ≤ A * ((t + 1) * K) := by
  have h1 : (X + A) * c ≤ (A * (t + 1)) * c := Int.mul_le_mul_of_nonneg_right (by rw [Int.mul_add, Int.mul_one]; omega) hc
  have h2 : (A * (t + 1)) * c ≤ (A * (t + 1)) * (K * (2 * y')) := Int.mul_le_mul_of_nonneg_left h (Int.mul_nonneg hA (by omega))
  have h3 : Z * (2 * y') ≤ (A * ((t + 1) * K)) * (2 * y') := by
    have e : (A * ((t + 1) * K)) * (2 * y') = (A * (t + 1)) * (K * (2 * y')) := by ac_rfl
    rw [e]; omega
  exact Int.le_of_mul_le_mul_right h3 (by omega)
theorem tm_next {c y y' A X Z : Int} (hy' : 0 < y') (h2 : 2 * y' ≤ y) (hy : y ≤ c) (hc : c ≤ 64) (hA : 0 ≤ A) (hX : X ≤ A * tm c y) (hz : Z * (2 * y') ≤ (X + A) * c) : Z ≤ A * tm c y' := by
  have up : ∀ t : Int, tm c y ≤ t → X ≤ A * t := fun t ht => Int.le_trans hX (Int.mul_le_mul_of_nonneg_left ht hA)
  have tmy : (c < 2 * y → tm c y ≤ 1) ∧ (c < 4 * y → tm c y ≤ 4) ∧ (c < 8 * y → tm c y ≤ 20) ∧ (c < 16 * y → tm c y ≤ 168) ∧ (c < 32 * y → tm c y ≤ 2704) ∧ (c < 64 * y → tm c y ≤ 86560) := by
    unfold tm
    repeat' split
    all_goals omega
  obtain ⟨t1, t2, t3, t4, t5, t6⟩ := tmy
  have c0 : 0 ≤ c := by omega
  unfold tm
  split
  · omega
  split
  · exact tm_core (t := 1) (K := 2) hy' c0 hA (by omega) (up 1 (t1 (by omega))) hz (by omega) (by omega)
  split
  · exact tm_core (t := 4) (K := 4) hy' c0 hA (by omega) (up 4 (t2 (by omega))) hz (by omega) (by omega)
  split
  · exact tm_core (t := 20) (K := 8) hy' c0 hA (by omega) (up 20 (t3 (by omega))) hz (by omega) (by omega)
  split
  · exact tm_core (t := 168) (K := 16) hy' c0 hA (by omega) (up 168 (t4 (by omega))) hz (by omega) (by omega)
  split
  · exact tm_core (t := 2704) (K := 32) hy' c0 hA (by omega) (up 2704 (t5 (by omega))) hz (by omega) (by omega)
  · exact tm_core (t := 86560) (K := 64) hy' c0 hA (by omega) (up 86560 (t6 (by omega))) hz (by omega) (by omega)
theorem tm_small {a c y : Int} (ha : 1 ≤ a ∧ a ≤ 64) (hc : 1 ≤ c ∧ c ≤ 64) (hac : a * c ≤ 64) (hy : 0 < y) : 0 ≤ (a - 1) * tm c y ∧ (a - 1) * tm c y ≤ 100000 := by
  have key : ∀ K : Int, K ≤ c → a * K ≤ 64 := fun K hK => Int.le_trans (Int.mul_le_mul_of_nonneg_left hK (by omega)) hac
  have k1 := key 2
  have k2 := key 4
  have k3 := key 8
  have k4 := key 16
  have k5 := key 32
  have k6 := key 64
  unfold tm
  repeat' split
  all_goals omega
structure inv (a c : Int) (s : Int × Int × Int) : Prop where
  g : 0 < s.1 ∧ s.1 ∣ a
  y : 0 < s.2.2 ∧ s.2.2 ∣ c
  x : (s.2.1.natAbs : Int) ≤ (a - 1) * tm c s.2.2
theorem gcd_facts {g r a : Int} (hg : 0 < g) (ha : g ∣ a) : 0 < (Int.gcd g r : Int) ∧ (Int.gcd g r : Int) ∣ a := by
  have h1 : (Int.gcd g r : Int) ∣ g := Int.gcd_dvd_left ..
  refine ⟨?_, Int.dvd_trans h1 ha⟩
  rcases Nat.eq_zero_or_pos (Int.gcd g r) with h | h
  · rw [h] at h1
    have := Int.zero_dvd.1 h1
    omega
  · omega
theorem inv_step {a c : Int} (ha : 1 ≤ a ∧ a ≤ 64) (hc : 1 ≤ c ∧ c ≤ 64) {s : Int × Int × Int} (h : inv a c s) {v : Int × Int} (hv : inC a c v) : inv a c (lstep s v) := by
  obtain ⟨⟨g1, g2⟩, ⟨y1, y2⟩, hx⟩ := h
  obtain ⟨⟨v1, v2⟩, v3, v4⟩ := hv
  obtain ⟨e1, e2, e3, e4, e5⟩ := eu_out v.2.natAbs s.2 v y1 v3 (Nat.le_refl _)
  have hyc := Int.le_of_dvd (by omega) y2
  have es := eu_same (n := v.2.natAbs) (h := s.2) (v := v) y1 v3 (Nat.le_refl _)
  have tp := tm_pos c s.2.2
  unfold lstep
  generalize eu v.2.natAbs s.2 v = r at *
  have tp' := tm_pos c r.1.2
  have hvx : (v.1.natAbs : Int) ≤ (a - 1) * tm c r.1.2 := by
    have := Int.mul_le_mul_of_nonneg_left tp' (show 0 ≤ a - 1 by omega)
    omega
  refine ⟨gcd_facts g1 g2, ⟨e2, Int.dvd_trans e3 y2⟩, ?_⟩
  simp only
  by_cases he : r.1.2 = s.2.2
  · rcases es (by rw [← he]; exact e4) with h | h
    · rw [h]; exact hx
    · rw [h] at hvx ⊢; exact hvx
  · have h2 : 2 * r.1.2 ≤ s.2.2 := by
      obtain ⟨m, hm⟩ := e3
      have hm2 : 2 ≤ m := by
        rcases Int.lt_or_le m 2 with h | h
        · exfalso
          rcases Int.lt_or_le m 1 with h' | h'
          · have := Int.mul_le_mul_of_nonneg_left (show m ≤ 0 by omega) (show 0 ≤ r.1.2 by omega)
            omega
          · have : m = 1 := by omega
            rw [this, Int.mul_one] at hm
            exact he hm.symm
        · exact h
      have := Int.mul_le_mul_of_nonneg_left hm2 (show 0 ≤ r.1.2 by omega)
      omega
    rcases e5 with h | h | h
    · exact absurd (by rw [h]) he
    · rw [h] at hvx ⊢; exact hvx
    · refine tm_next (y := s.2.2) e2 h2 hyc hc.2 (by omega) hx ?_
      unfold pot at h
      have q1 : s.2.1.natAbs * v.2.natAbs ≤ s.2.1.natAbs * c.toNat := Nat.mul_le_mul_left _ (by omega)
      have q2 : v.1.natAbs * s.2.2.natAbs ≤ (a - 1).toNat * c.toNat := Nat.mul_le_mul (by omega) (by omega)
      have q3 : r.1.1.natAbs * (2 * r.1.2.natAbs) ≤ (s.2.1.natAbs + (a - 1).toNat) * c.toNat := by rw [Nat.add_mul]; omega
      have q4 : ((r.1.1.natAbs * (2 * r.1.2.natAbs) : Nat) : Int) ≤ (((s.2.1.natAbs + (a - 1).toNat) * c.toNat : Nat) : Int) := Int.ofNat_le.2 q3
      rw [Int.natCast_mul, Int.natCast_mul, Int.natCast_mul, Int.natCast_add] at q4
      have w1 : ((r.1.2.natAbs : Nat) : Int) = r.1.2 := by omega
      have w2 : (((a - 1).toNat : Nat) : Int) = a - 1 := by omega
      have w3 : ((c.toNat : Nat) : Int) = c := by omega
      rw [w1, w2, w3] at q4
      exact q4
structure invS (a c : Int) (s : Int × Int × Int) : Prop where
  g : 0 < s.1 ∧ s.1 ∣ a
  y : 0 < s.2.2 ∧ s.2.2 ∣ c
  x : 0 ≤ s.2.1 ∧ s.2.1 < s.1
theorem invS_step {a c : Int} {s : Int × Int × Int} (h : invS a c s) {v : Int × Int} (hv : inC a c v) : invS a c (lstepS s v) := by
  obtain ⟨⟨g1, g2⟩, ⟨y1, y2⟩, hx⟩ := h
  obtain ⟨⟨v1, v2⟩, v3, v4⟩ := hv
  obtain ⟨e1, e2, e3, e4, e5⟩ := eu_out v.2.natAbs s.2 v y1 v3 (Nat.le_refl _)
  unfold lstepS
  generalize eu v.2.natAbs s.2 v = r at *
  have hg := gcd_facts (r := r.2.1) g1 g2
  refine ⟨hg, ⟨e2, Int.dvd_trans e3 y2⟩, ?_⟩
  simp only
  rw [if_pos hg.1]
  exact ⟨Int.emod_nonneg _ (by omega), Int.emod_lt_of_pos _ hg.1⟩
theorem fold_inv {α β : Type} {st : α → β → α} {I : α → Prop} {p : β → Prop} (h : ∀ s v, I s → p v → I (st s v)) : ∀ (M : List β) (s : α), I s → (∀ v ∈ M, p v) → I (M.foldl st s)
  | [], s, hs, _ => hs
  | v :: M, s, hs, hp => fold_inv h M _ (h s v hs (hp v List.mem_cons_self)) (fun w hw => hp w (List.mem_cons_of_mem _ hw))
theorem full_lat {a b c : Int} (h : okL a b c = true) (M : List (Int × Int)) (hM : ∀ v ∈ M, inC a c v) : ∃ A B C, okL A B C = true ∧ (lsmall ((a, 0) :: (b, c) :: M) ∧ 0 < (lfold ((a, 0) :: (b, c) :: M)).1 ∧ lfin (lfold ((a, 0) :: (b, c) :: M)) = (A, B, C)) ∧
    lsmallS ((a, 0) :: (b, c) :: M) ∧ 0 < (lfoldS ((a, 0) :: (b, c) :: M)).1 ∧ lfin (lfoldS ((a, 0) :: (b, c) :: M)) = (A, B, C) := by
  obtain ⟨ha, hc, hb, hac⟩ := okL_spec.1 h
  obtain ⟨f1, f2⟩ := lf_basis (a := a) (b := b) (c := c) (by omega) (by omega)
  rw [Int.emod_eq_of_lt hb.1 hb.2] at f2
  have g1 : ∀ N : List (Int × Int), lfold ((a, 0) :: (b, c) :: N) = N.foldl lstep (a, b, c) := fun N => by
    rw [← f1]; rfl
  have g2 : ∀ N : List (Int × Int), lfoldS ((a, 0) :: (b, c) :: N) = N.foldl lstepS (a, b, c) := fun N => by
    rw [← f2]; rfl
  have i0 : inv a c (a, b, c) := ⟨⟨by simp only; omega, Int.dvd_refl _⟩, ⟨by simp only; omega, Int.dvd_refl _⟩, by
    have := Int.mul_le_mul_of_nonneg_left (tm_pos c c) (show 0 ≤ a - 1 by omega)
    simp only
    omega⟩
  have j0 : invS a c (a, b, c) := ⟨⟨by simp only; omega, Int.dvd_refl _⟩, ⟨by simp only; omega, Int.dvd_refl _⟩, hb⟩
  have i1 : ∀ N : List (Int × Int), (∀ v ∈ N, inC a c v) → inv a c (lfold ((a, 0) :: (b, c) :: N)) := fun N hN => by
    rw [g1]; exact fold_inv (I := inv a c) (st := lstep) (p := inC a c) (fun s v hs hv => inv_step ha hc hs hv) N _ i0 hN
  have j1 : ∀ N : List (Int × Int), (∀ v ∈ N, inC a c v) → invS a c (lfoldS ((a, 0) :: (b, c) :: N)) := fun N hN => by
    rw [g2]; exact fold_inv (I := invS a c) (st := lstepS) (p := inC a c) (fun s v hs hv => invS_step hs hv) N _ j0 hN
  have tk : ∀ k, ∀ v ∈ M.take k, inC a c v := fun k v hv => hM v (List.mem_of_mem_take hv)
  have sm : ∀ v ∈ (a, 0) :: (b, c) :: M, smallV 1000000 v := by
    intro v hv
    rcases List.mem_cons.1 hv with rfl | hv
    · exact ⟨by simp only; omega, by simp⟩
    · rcases List.mem_cons.1 hv with rfl | hv
      · exact ⟨by simp only; omega, by simp only; omega⟩
      · obtain ⟨q1, q2⟩ := hM v hv
        exact ⟨by omega, by omega⟩
  obtain ⟨l1, l2⟩ := lf_one (a := a) (by omega)
  have ls : lsmall ((a, 0) :: (b, c) :: M) := by
    refine ⟨sm, fun k => ?_⟩
    match k with
    | 0 => simp [lfold, smallV]
    | 1 => simp only [List.take_succ_cons, List.take_zero, lfold, List.foldl_cons, List.foldl_nil, l1, smallV]; omega
    | k + 2 =>
      simp only [List.take_succ_cons]
      obtain ⟨⟨p1, p2⟩, ⟨p3, p4⟩, p5⟩ := i1 (M.take k) (tk k)
      have q1 := Int.le_of_dvd (by omega) p2
      have q2 := Int.le_of_dvd (by omega) p4
      have q3 := tm_small ha hc hac p3
      exact ⟨⟨by omega, by omega⟩, by omega⟩
  have lsS : lsmallS ((a, 0) :: (b, c) :: M) := by
    refine ⟨sm, fun k => ?_⟩
    match k with
    | 0 => simp [lfoldS, smallV]
    | 1 => simp only [List.take_succ_cons, List.take_zero, lfoldS, List.foldl_cons, List.foldl_nil, l2, smallV]; omega
    | k + 2 =>
      simp only [List.take_succ_cons]
      obtain ⟨⟨p1, p2⟩, ⟨p3, p4⟩, p5⟩ := j1 (M.take k) (tk k)
      have q1 := Int.le_of_dvd (by omega) p2
      have q2 := Int.le_of_dvd (by omega) p4
      exact ⟨⟨by omega, by omega⟩, by omega⟩
  have iM := i1 M hM
  have jM := j1 M hM
  generalize hL : (a, 0) :: (b, c) :: M = L at *
  -- one lattice, one form
  have form : ∀ s : Int × Int × Int, 0 < s.1 → 0 < s.2.2 → (lfin s).1 = s.1 ∧ (0 ≤ (lfin s).2.1 ∧ (lfin s).2.1 < s.1) ∧ (lfin s).2.2 = s.2.2 := fun s h1 h2 => by
    refine ⟨rfl, ⟨Int.emod_nonneg _ (by omega), Int.emod_lt_of_pos _ h1⟩, ?_⟩
    simp only [lfin]
    rw [if_neg (by omega)]
  obtain ⟨p1, p2, p3⟩ := form _ iM.g.1 iM.y.1
  obtain ⟨r1, r2, r3⟩ := form _ jM.g.1 jM.y.1
  have sub1 : ∀ {Λ : Int → Int → Prop}, Sub Λ → ((Λ (lfin (lfold L)).1 0 ∧ Λ (lfin (lfold L)).2.1 (lfin (lfold L)).2.2) ↔ ∀ v ∈ L, Λ v.1 v.2) := fun s => (sub_lfin s _).trans (sub_lfold s L)
  have sub2 : ∀ {Λ : Int → Int → Prop}, Sub Λ → ((Λ (lfin (lfoldS L)).1 0 ∧ Λ (lfin (lfoldS L)).2.1 (lfin (lfoldS L)).2.2) ↔ ∀ v ∈ L, Λ v.1 v.2) := fun s => (sub_lfin s _).trans (sub_lfoldS s L)
  have gi := iM.g
  have yi := iM.y
  have gj := jM.g
  have yj := jM.y
  rw [← p1] at gi p2
  rw [← p3] at yi
  rw [← r1] at gj r2
  rw [← r3] at yj
  generalize lfin (lfold L) = R at *
  generalize lfin (lfoldS L) = T at *
  obtain ⟨A, B, C⟩ := R
  obtain ⟨A', B', C'⟩ := T
  simp only at *
  have m1 := (sub2 (spn_sub A B C)).2 ((sub1 (spn_sub A B C)).1 ⟨spn_l _ _ _, spn_r _ _ _⟩)
  have m2 := (sub1 (spn_sub A' B' C')).2 ((sub2 (spn_sub A' B' C')).1 ⟨spn_l _ _ _, spn_r _ _ _⟩)
  have e := spn_uniq gi.1 p2 yi.1 gj.1 r2 yj.1 m2.1 m2.2 m1.1 m1.2
  have q1 := Int.le_of_dvd (by omega) gi.2
  have q2 := Int.le_of_dvd (by omega) yi.2
  have q3 : A * C ≤ a * c := Int.mul_le_mul q1 q2 (by omega) (by omega)
  exact ⟨A, B, C, okL_spec.2 ⟨⟨by omega, by omega⟩, ⟨by omega, by omega⟩, p2, by omega⟩, ⟨ls, iM.g.1, rfl⟩, lsS, jM.g.1, e.symm⟩
end Go.Proofs.YtgkhakhkebjbpaaGreatEv
namespace Go.Proofs.YtgkhakhkebjbpaaGreatEv
open Go Go.Proofs
set_option maxRecDepth 10000
set_option maxHeartbeats 1000000
def imG (g : G6) (v : Int × Int) : Int × Int := (g.1.1 * v.1 + g.1.2.1 * v.2 + g.2.1, g.1.2.2.1 * v.1 + g.1.2.2.2 * v.2 + g.2.2)
def kp1 (a b c : Int) (l : List Int) (g : G6) (v : Int × Int) : Bool := decide (l.getD (num a b c (imG g v).1 (imG g v).2).toNat 0 = l.getD (num a b c v.1 v.2).toNat 0)
def kpB (a b c : Int) (l : List Int) (g : G6) : Bool := (cl a c).all (kp1 a b c l g)
theorem all_hit {α : Type} {l : List α} {p : α → Bool} {i : Nat} {z : α} (hz : l[i]? = some z) (hp : p z = false) : l.all p = false := by
  rw [List.all_eq_false]
  exact ⟨z, List.mem_of_getElem? hz, by rw [hp]; simp⟩
theorem all_done {α : Type} {l : List α} {p : α → Bool} {i : Nat} (hi : l.length ≤ i) (hn : ∀ x ∈ l.take i, p x = true) : l.all p = true := by
  rw [List.take_of_length_le hi] at hn
  exact List.all_eq_true.2 hn
theorem all_next {α : Type} {l : List α} {p : α → Bool} {i : Nat} {z : α} (hz : l[i]? = some z) (hn : ∀ x ∈ l.take i, p x = true) (hp : p z = true) : ∀ x ∈ l.take (i + 1), p x = true := by
  intro x hx
  rcases mem_take_succ hz hx with h | h
  · exact hn _ h
  · rw [h]; exact hp
theorem im_bd {g : G6} (hg : smallG g) {x y : Int} (hx : 0 ≤ x ∧ x < 64) (hy : 0 ≤ y ∧ y < 64) : (imG g (x, y)).1.natAbs ≤ 1000000 ∧ (imG g (x, y)).2.natAbs ≤ 1000000 := by
  obtain ⟨g1, g2, g3⟩ := hg
  have h1 := mul_bd g1.1 (show x.natAbs ≤ 64 by omega)
  have h2 := mul_bd g1.2 (show y.natAbs ≤ 64 by omega)
  have h3 := mul_bd g2.1 (show x.natAbs ≤ 64 by omega)
  have h4 := mul_bd g2.2 (show y.natAbs ≤ 64 by omega)
  simp only [imG]
  omega
theorem s_keeps (f a b c : Int) (l : List Int) (g : G6) (hf : okP f a b c l = true) (hg : smallG g) : Sp Tryz.prog 116 [aP f a b c l, aG6 g] (vb (kpB a b c l g)) [] := by
  obtain ⟨_, h2, h3, _⟩ := okP_spec.1 hf
  obtain ⟨ha, hc, hb, hac⟩ := okL_spec.1 h2
  have h1 := ac_pos ha.1 hc.1
  have hn := nat_n ha.1 hc.1 h3
  refine sp_of (m := no) mixed Tryz.func116 k116 ?_
  simp -dsimp [q]
  refine call_of (s_cells a b c ha hc) rfl (by simp) ?_
  try simp -dsimp
  try (first | exact fp_one (by decide) | refine fp_and (by decide) ?_)
  refine awp_it (false :: false :: true :: true :: false :: false :: false :: false :: false :: true :: true :: true :: []) (fun i : Nat => [(11, vi i)]) (fun i => []) (fun i => i ≤ l.length ∧ ∀ t ∈ (cl a c).take i, kp1 a b c l g t = true) (fun i => l.length - i) 0 ?_
  intro s0 e
  simp -dsimp at e
  subst e
  refine ⟨?_, ?_⟩
  · simp
  rintro i ⟨hi, hno⟩
  simp -dsimp [cellsL_len, hn, -Prod.forall]
  refine ⟨fun h5 => ⟨by omega, fun v hv => ?_⟩, fun h5 => ?_⟩
  · obtain ⟨x, y⟩ := v
    obtain ⟨⟨k1, k2⟩, _, k3⟩ := cell_of ha.1 hc.1 hv
    have k4 := (num_ix (b := b) (show inC a c (x, y) from ⟨k1, k2⟩)).1
    have k5 := im_bd hg (x := x) (y := y) (by omega) (by omega)
    have w1 : Sp Tryz.prog 109 [aG6 g, aV x y] (aV (imG g (x, y)).1 (imG g (x, y)).2) [] := s_gapply _ _ _ _ _ _ x y ⟨hg.1, hg.2.1⟩ ⟨by omega, by omega⟩ (by have := hg.2.2; omega)
    have w2 := s_at f a b c (imG g (x, y)).1 (imG g (x, y)).2 l hf (by omega) (by omega)
    have hz : (l.getD i 0) = l.getD (num a b c (x, y).1 (x, y).2).toNat 0 := by rw [k4, k3]; simp
    refine call_of (w1) rfl (by simp) ?_
    try simp -dsimp
    try (first | exact fp_one (by decide) | refine fp_and (by decide) ?_)
    refine call_of (w2) rfl (by simp) ?_
    try simp -dsimp
    try (first | exact fp_one (by decide) | refine fp_and (by decide) ?_)
    refine ⟨h5, fun z hz' => ⟨fun e => ?_, fun e => ⟨i + 1, by rw [w64 (by omega) (by omega)]; simp, ⟨by omega, fun x' y' ht => ?_⟩, by omega⟩⟩⟩
    · exact all_hit hv (decide_eq_false (by rw [← hz, List.getD_eq_getElem?_getD, List.getD_eq_getElem?_getD, hz']; exact e))
    · exact all_next hv hno (decide_eq_true (by rw [← hz, List.getD_eq_getElem?_getD, List.getD_eq_getElem?_getD, hz']; exact e)) _ ht
  · rw [kpB, all_done (by rw [cellsL_len, hn]; exact h5) hno]
theorem s_skeepsP (f a b c : Int) (l : List Int) (g : G6) (hf : okP f a b c l = true) (hg : smallG g) : Sp Tryz.prog 119 [aP f a b c l, aG6 g] (vb (kpB a b c l g)) [] := by
  obtain ⟨_, h2, h3, _⟩ := okP_spec.1 hf
  obtain ⟨ha, hc, hb, hac⟩ := okL_spec.1 h2
  have h1 := ac_pos ha.1 hc.1
  have hn := nat_n ha.1 hc.1 h3
  refine sp_of (m := no) mixed Tryz.func119 k119 ?_
  simp -dsimp [q]
  refine call_of (s_scells a b c ha hc) rfl (by simp) ?_
  try simp -dsimp
  try (first | exact fp_one (by decide) | refine fp_and (by decide) ?_)
  refine awp_it (false :: false :: true :: true :: false :: true :: true :: []) (fun i : Nat => [(6, vi i)]) (fun i => []) (fun i => i ≤ l.length ∧ ∀ t ∈ (cl a c).take i, kp1 a b c l g t = true) (fun i => l.length - i) 0 ?_
  intro s0 e
  simp -dsimp at e
  subst e
  refine ⟨?_, ?_⟩
  · simp
  rintro i ⟨hi, hno⟩
  simp -dsimp [cellsL_len, hn, -Prod.forall]
  refine ⟨fun h5 => ⟨by omega, fun v hv => ?_⟩, fun h5 => ?_⟩
  · obtain ⟨x, y⟩ := v
    obtain ⟨⟨k1, k2⟩, _, k3⟩ := cell_of ha.1 hc.1 hv
    have k5 := im_bd hg (x := x) (y := y) (by omega) (by omega)
    have w1 : Sp Tryz.prog 104 [aG6 g, aV x y] (aV (imG g (x, y)).1 (imG g (x, y)).2) [] := s_sgapply _ _ _ _ _ _ x y ⟨hg.1, hg.2.1⟩ ⟨by omega, by omega⟩ (by have := hg.2.2; omega)
    have w2 := s_sat f a b c (imG g (x, y)).1 (imG g (x, y)).2 l hf (by omega) (by omega)
    have w3 := s_sat f a b c x y l hf (by omega) (by omega)
    refine call_of (w1) rfl (by simp) ?_
    try simp -dsimp
    try (first | exact fp_one (by decide) | refine fp_and (by decide) ?_)
    refine call_of (w2) rfl (by simp) ?_
    try simp -dsimp
    try (first | exact fp_one (by decide) | refine fp_and (by decide) ?_)
    refine ⟨by rw [cellsL_len, hn]; exact h5, fun x' y' hv' => ?_⟩
    rw [hv] at hv'
    cases hv'
    refine call_of (w3) rfl (by simp) ?_
    try simp -dsimp
    try (first | exact fp_one (by decide) | refine fp_and (by decide) ?_)
    refine ⟨fun e => ?_, fun e => ⟨i + 1, by rw [w64 (by omega) (by omega)]; simp, ⟨by omega, fun x' y' ht => ?_⟩, by omega⟩⟩
    · exact all_hit hv (decide_eq_false (by rw [List.getD_eq_getElem?_getD, List.getD_eq_getElem?_getD]; exact e))
    · exact all_next hv hno (decide_eq_true (by rw [List.getD_eq_getElem?_getD, List.getD_eq_getElem?_getD]; exact e)) _ ht
  · rw [kpB, all_done (by rw [cellsL_len, hn]; exact h5) hno]
theorem small_tr {a c x y : Int} (ha : 1 ≤ a ∧ a ≤ 64) (hc : 1 ≤ c ∧ c ≤ 64) (h : (0 ≤ x ∧ x < a) ∧ 0 ≤ y ∧ y < c) : smallG ((1, 0, 0, 1), x, y) := by
  unfold smallG
  simp only
  omega
abbrev kpV (a b c : Int) (l : List Int) (v : Int × Int) : Bool := kpB a b c l ((1, 0, 0, 1), v)
def fuL (a b c : Int) (l : List Int) (n : Nat) : List (Int × Int) := (a, 0) :: (b, c) :: ((cl a c).take n).filter (kpV a b c l)
theorem fuL_zero (a b c : Int) (l : List Int) : fuL a b c l 0 = [(a, 0), (b, c)] := rfl
theorem fuL_succ {a b c : Int} {l : List Int} {n : Nat} {v : Int × Int} (h : (cl a c)[n]? = some v) : fuL a b c l (n + 1) = if kpV a b c l v = true then fuL a b c l n ++ [v] else fuL a b c l n := by
  unfold fuL
  rw [List.take_add_one, h, List.filter_append]
  cases hm : kpV a b c l v <;> simp [hm]
theorem fuL_len (a b c : Int) (l : List Int) (n : Nat) : (fuL a b c l n).length ≤ n + 2 := by
  have := List.length_filter_le (kpV a b c l) ((cl a c).take n)
  rw [List.length_take] at this
  simp only [fuL, List.length_cons]
  omega
theorem fuL_lat {a b c : Int} (h : okL a b c = true) (l : List Int) (n : Nat) : ∃ A B C, okL A B C = true ∧ (lsmall (fuL a b c l n) ∧ 0 < (lfold (fuL a b c l n)).1 ∧ lfin (lfold (fuL a b c l n)) = (A, B, C)) ∧ lsmallS (fuL a b c l n) ∧ 0 < (lfoldS (fuL a b c l n)).1 ∧ lfin (lfoldS (fuL a b c l n)) = (A, B, C) := by
  obtain ⟨ha, hc, hb, hac⟩ := okL_spec.1 h
  refine full_lat h _ (fun v hv => ?_)
  have h1 := List.mem_of_mem_take (List.mem_filter.1 hv).1
  obtain ⟨i, hi⟩ := List.mem_iff_getElem?.1 h1
  exact (cl_at ha.1 hc.1 hi).1
theorem s_full (f a b c : Int) (l : List Int) (hf : okP f a b c l = true) {A' B' C' : Int} (hs : lsmall (fuL a b c l l.length)) (h0 : 0 < (lfold (fuL a b c l l.length)).1) (he : lfin (lfold (fuL a b c l l.length)) = (A', B', C')) : Sp Tryz.prog 76 [aP f a b c l] (aL A' B' C') [] := by
  obtain ⟨_, h2, h3, _⟩ := okP_spec.1 hf
  obtain ⟨ha, hc, hb, hac⟩ := okL_spec.1 h2
  have h1 := ac_pos ha.1 hc.1
  have hn := nat_n ha.1 hc.1 h3
  have w9 := s_latticeOf _ (by have := fuL_len a b c l l.length; omega) hs h0
  rw [he] at w9
  refine sp_of (m := no) mixed Tryz.func76 k76 ?_
  simp -dsimp [q]
  refine call_of (s_basis a b c) rfl (by simp) ?_
  try simp -dsimp
  try (first | exact fp_one (by decide) | refine fp_and (by decide) ?_)
  refine call_of (s_cells a b c ha hc) rfl (by simp) ?_
  try simp -dsimp
  try (first | exact fp_one (by decide) | refine fp_and (by decide) ?_)
  refine awp_it (false :: true :: true :: false :: false :: true :: false :: false :: false :: false :: false :: false :: false :: false :: false :: false :: false :: false :: false :: true :: true :: true :: []) (fun i : Nat => [(21, vi i)]) (fun i => [(2, .row 2 39 (vs (fuL a b c l i)))]) (fun i => i ≤ l.length) (fun i => l.length - i) 0 ?_
  intro s0 e
  simp -dsimp at e
  subst e
  refine ⟨?_, ?_⟩
  · simp [fuL, vs, vv]
  intro i hi
  have hfl := fuL_len a b c l i
  simp -dsimp [cellsL_len, hn, -Prod.forall]
  refine ⟨fun h5 => ⟨by omega, fun v hv => ?_⟩, fun h5 => ?_⟩
  · obtain ⟨x, y⟩ := v
    obtain ⟨k1, _, _⟩ := cell_of ha.1 hc.1 hv
    have w1 := s_keeps f a b c l ((1, 0, 0, 1), x, y) hf (small_tr ha hc k1)
    have hsu := fuL_succ (b := b) (l := l) hv
    refine call_of (s_unit) rfl (by simp) ?_
    try simp -dsimp
    try (first | exact fp_one (by decide) | refine fp_and (by decide) ?_)
    refine call_of (w1) rfl (by simp) ?_
    try simp -dsimp
    try (first | exact fp_one (by decide) | refine fp_and (by decide) ?_)
    refine ⟨fun e => ?_, fun e => ?_⟩
    · refine ⟨⟨by omega, by omega⟩, i + 1, ⟨by rw [w64 (by omega) (by omega)]; simp, ?_⟩, by omega, by omega⟩
      rw [hsu, if_pos e]
    · refine ⟨i + 1, ⟨by rw [w64 (by omega) (by omega)]; simp, ?_⟩, by omega, by omega⟩
      rw [hsu, if_neg (by rw [kpV, e]; simp)]
  · obtain rfl : i = l.length := by omega
    refine call_of (w9) rfl (by simp) ?_
    try simp -dsimp
    try (first | exact fp_one (by decide) | refine fp_and (by decide) ?_)
theorem s_sfull (f a b c : Int) (l : List Int) (hf : okP f a b c l = true) {A' B' C' : Int} (hs : lsmallS (fuL a b c l l.length)) (h0 : 0 < (lfoldS (fuL a b c l l.length)).1) (he : lfin (lfoldS (fuL a b c l l.length)) = (A', B', C')) : Sp Tryz.prog 79 [aP f a b c l] (aL A' B' C') [] := by
  obtain ⟨_, h2, h3, _⟩ := okP_spec.1 hf
  obtain ⟨ha, hc, hb, hac⟩ := okL_spec.1 h2
  have h1 := ac_pos ha.1 hc.1
  have hn := nat_n ha.1 hc.1 h3
  have w9 := s_hermite _ (by have := fuL_len a b c l l.length; omega) hs h0
  rw [he] at w9
  refine sp_of (m := no) mixed Tryz.func79 k79 ?_
  simp -dsimp [q]
  refine call_of (s_scells a b c ha hc) rfl (by simp) ?_
  try simp -dsimp
  try (first | exact fp_one (by decide) | refine fp_and (by decide) ?_)
  refine call_of (s_sbasis' a b c) rfl (by simp) ?_
  try simp -dsimp
  try (first | exact fp_one (by decide) | refine fp_and (by decide) ?_)
  refine awp_it (false :: true :: true :: true :: true :: true :: []) (fun i : Nat => [(5, vi i)]) (fun i => [(3, .row 2 39 (vs (fuL a b c l i)))]) (fun i => i ≤ l.length) (fun i => l.length - i) 0 ?_
  intro s0 e
  simp -dsimp at e
  subst e
  refine ⟨?_, ?_⟩
  · simp [fuL, vs, vv]
  intro i hi
  have hfl := fuL_len a b c l i
  simp -dsimp [cellsL_len, hn, -Prod.forall]
  refine ⟨fun h5 => ?_, fun h5 => ?_⟩
  · refine call_of (s_sunit) rfl (by simp) ?_
    try simp -dsimp
    try (first | exact fp_one (by decide) | refine fp_and (by decide) ?_)
    refine ⟨by rw [cellsL_len, hn]; exact h5, fun x y hv => ?_⟩
    obtain ⟨k1, _, _⟩ := cell_of ha.1 hc.1 hv
    have w1 := s_skeepsP f a b c l ((1, 0, 0, 1), x, y) hf (small_tr ha hc k1)
    have hsu := fuL_succ (b := b) (l := l) hv
    refine call_of (w1) rfl (by simp) ?_
    try simp -dsimp
    try (first | exact fp_one (by decide) | refine fp_and (by decide) ?_)
    refine ⟨fun e => ?_, fun e => ?_⟩
    · refine ⟨by rw [cellsL_len, hn]; exact h5, fun x' y' hv' => ?_⟩
      rw [hv] at hv'
      cases hv'
      refine ⟨⟨by omega, by omega⟩, i + 1, ⟨by rw [w64 (by omega) (by omega)]; simp, ?_⟩, by omega, by omega⟩
      rw [hsu, if_pos e]
    · refine ⟨i + 1, ⟨by rw [w64 (by omega) (by omega)]; simp, ?_⟩, by omega, by omega⟩
      rw [hsu, if_neg (by rw [kpV, e]; simp)]
  · obtain rfl : i = l.length := by omega
    refine call_of (w9) rfl (by simp) ?_
    try simp -dsimp
    try (first | exact fp_one (by decide) | refine fp_and (by decide) ?_)
def lnL (a b c A C : Int) (l : List Int) (n : Nat) : List Int := ((cl A C).take n).map fun v => l.getD (num a b c v.1 v.2).toNat 0
theorem lnL_succ {a b c A C : Int} {l : List Int} {n : Nat} {v : Int × Int} (h : (cl A C)[n]? = some v) : lnL a b c A C l (n + 1) = lnL a b c A C l n ++ [l.getD (num a b c v.1 v.2).toNat 0] := by
  simp [lnL, List.take_add_one, h]
theorem lnL_len (a b c A C : Int) (l : List Int) (n : Nat) : (lnL a b c A C l n).length = min n (cl A C).length := by simp [lnL]
theorem nat_ac1 {a c : Int} (ha : 1 ≤ a) (hc : 1 ≤ c) : 0 < a.toNat * c.toNat := Nat.mul_pos (by omega) (by omega)
theorem lnL_ok {f a b c A' B' C' : Int} {l : List Int} (hf : okP f a b c l = true) (h : okL A' B' C' = true) {N : Nat} (hN : A'.toNat * C'.toNat = N) : okP f A' B' C' (lnL a b c A' C' l N) = true := by
  obtain ⟨h1, h2, h3, h4⟩ := okP_spec.1 hf
  obtain ⟨ha, hc, hb, hac⟩ := okL_spec.1 h
  refine okP_spec.2 ⟨h1, h, ?_, fun n hn => ?_⟩
  · rw [lnL_len, cellsL_len, hN, Nat.min_self, ← hN, Int.natCast_mul, Int.toNat_of_nonneg (by omega), Int.toNat_of_nonneg (by omega)]
  · obtain ⟨v, _, rfl⟩ := List.mem_map.1 hn
    rw [List.getD_eq_getElem?_getD]
    cases he : l[(num a b c v.1 v.2).toNat]? with
    | none => simp
    | some z => exact h4 _ (List.mem_of_getElem? he)
end Go.Proofs.YtgkhakhkebjbpaaGreatEv
namespace Go.Proofs.YtgkhakhkebjbpaaGreatEv
open Go Go.Proofs
set_option maxRecDepth 10000
set_option maxHeartbeats 1000000
theorem s_smats (f : Int) (hf : 0 ≤ f ∧ f ≤ 1) : Sp Tryz.prog 157 [vi f] (.sli 0) [.row 4 45 (ms (pmL f 81))] := by
  refine sp_of (m := no) mixed Tryz.func157 k157 ?_
  simp -dsimp [q]
  refine awp_it (true :: false :: false :: true :: true :: []) (fun i : Nat => [(4, vi i)]) (fun i => [(0, .row 4 45 (ms (pmL f i)))]) (fun i => i ≤ 81) (fun i => 81 - i) 0 ?_
  intro s0 e
  simp -dsimp at e
  subst e
  refine ⟨?_, ?_⟩
  · simp [pmL]
  intro i hi
  have hlen := pmL_len f i
  have hs := pmL_succ f i
  have a1 : IntKind.i64.wrap ((i : Int) / 27) = (i : Int) / 27 := w64 (by omega) (by omega)
  have a2 : IntKind.i64.wrap ((i : Int) / 9) = (i : Int) / 9 := w64 (by omega) (by omega)
  have a3 : IntKind.i64.wrap ((i : Int) / 3) = (i : Int) / 3 := w64 (by omega) (by omega)
  have b2 : ((i : Int) / 9).tmod 3 = (i : Int) / 9 % 3 := Int.tmod_eq_emod_of_nonneg (by omega)
  have b3 : ((i : Int) / 3).tmod 3 = (i : Int) / 3 % 3 := Int.tmod_eq_emod_of_nonneg (by omega)
  have b4 : (i : Int).tmod 3 = (i : Int) % 3 := Int.tmod_eq_emod_of_nonneg (by omega)
  have c1 : IntKind.i64.wrap ((i : Int) / 27 - 1) = (i : Int) / 27 - 1 := w64 (by omega) (by omega)
  have c2 : IntKind.i64.wrap ((i : Int) / 9 % 3 - 1) = (i : Int) / 9 % 3 - 1 := w64 (by omega) (by omega)
  have c3 : IntKind.i64.wrap ((i : Int) / 3 % 3 - 1) = (i : Int) / 3 % 3 - 1 := w64 (by omega) (by omega)
  have c4 : IntKind.i64.wrap ((i : Int) % 3 - 1) = (i : Int) % 3 - 1 := w64 (by omega) (by omega)
  have d1 : -1 ≤ (i : Int) / 27 - 1 ∧ ((i : Int) < 81 → (i : Int) / 27 - 1 ≤ 1) := ⟨by omega, by omega⟩
  have d2 : -1 ≤ (i : Int) / 9 % 3 - 1 ∧ (i : Int) / 9 % 3 - 1 ≤ 1 := ⟨by omega, by omega⟩
  have d3 : -1 ≤ (i : Int) / 3 % 3 - 1 ∧ (i : Int) / 3 % 3 - 1 ≤ 1 := ⟨by omega, by omega⟩
  have d4 : -1 ≤ (i : Int) % 3 - 1 ∧ (i : Int) % 3 - 1 ≤ 1 := ⟨by omega, by omega⟩
  have hmat : mat81 i = ((i : Int) / 27 - 1, (i : Int) / 9 % 3 - 1, (i : Int) / 3 % 3 - 1, (i : Int) % 3 - 1) := rfl
  simp -dsimp [a1, a2, a3, b2, b3, b4, c1, c2, c3, c4]
  refine ⟨fun h1 => ?_, fun h1 => ?_⟩
  · generalize (i : Int) / 27 - 1 = a at *
    generalize (i : Int) / 9 % 3 - 1 = b at *
    generalize (i : Int) / 3 % 3 - 1 = c at *
    generalize (i : Int) % 3 - 1 = d at *
    have d1' := d1.2 (by omega)
    rw [hmat] at hs
    refine call_of (s_skeeps f a b c d hf ⟨⟨by omega, by omega⟩, by omega, by omega⟩) rfl (by simp) ?_
    try simp -dsimp
    try (first | exact fp_one (by decide) | refine fp_and (by decide) ?_)
    refine ⟨fun e => ?_, fun e => ?_⟩
    · rw [if_pos e] at hs
      refine ⟨⟨by omega, by omega⟩, i + 1, ?_, by omega, by omega⟩
      exact ⟨by rw [w64 (by omega) (by omega)]; simp, by rw [hs]⟩
    · rw [if_neg (by rw [e]; simp)] at hs
      rw [List.append_nil] at hs
      exact ⟨i + 1, ⟨by rw [w64 (by omega) (by omega)]; simp, by rw [hs]⟩, by omega, by omega⟩
  · rw [show i = 81 by omega]
abbrev mtL (f a b c : Int) : List M4 := (pmL f 81).filter fun m => keepL a b c m
theorem flt_succ {α : Type} {p : α → Bool} {l : List α} {i : Nat} {g : α} (h : l[i]? = some g) : (l.take (i + 1)).filter p = if p g = true then (l.take i).filter p ++ [g] else (l.take i).filter p := by
  rw [List.take_add_one, h, List.filter_append]
  cases hm : p g <;> simp [hm]
theorem flt_len {α : Type} (p : α → Bool) (l : List α) (i : Nat) : ((l.take i).filter p).length ≤ i := by
  have := List.length_filter_le p (l.take i)
  rw [List.length_take] at this
  omega
theorem s_stable (f a b c : Int) (hf : 0 ≤ f ∧ f ≤ 1) (h : okL a b c = true) : Sp Tryz.prog 150 [vi f, aL a b c] (.v (vms (mtL f a b c))) [] := by
  have hlen := pmL_len f 81
  refine sp_of (m := no) mixed Tryz.func150 k150 ?_
  simp -dsimp [q]
  refine call_of (s_smats f hf) rfl (by simp) ?_
  try simp -dsimp
  try (first | exact fp_one (by decide) | refine fp_and (by decide) ?_)
  refine awp_it (false :: false :: false :: true :: false :: true :: true :: true :: []) (fun i : Nat => [(7, vi i)]) (fun i => [(2, .row 4 45 (ms (((pmL f 81).take i).filter fun m => keepL a b c m)))]) (fun i => i ≤ (pmL f 81).length) (fun i => (pmL f 81).length - i) 0 ?_
  intro s0 e
  simp -dsimp at e
  subst e
  refine ⟨?_, ?_⟩
  · simp
  intro i hi
  have hfl := flt_len (fun m => keepL a b c m) (pmL f 81) i
  simp -dsimp [-Prod.forall, -Prod.exists]
  refine ⟨fun h5 => ⟨h5, fun m hm => ?_⟩, fun h5 => ?_⟩
  · have hpm := List.mem_of_getElem? hm
    obtain ⟨p, q', r, s⟩ := m
    obtain ⟨A', B', C', hk, w1⟩ := s_simage a b c p q' r s h (pm_facts hf ((pmL_mem hf _ _ _ _).1 hpm))
    have hsu := flt_succ (p := fun m => keepL a b c m) hm
    refine call_of (w1) rfl (by simp) ?_
    try simp -dsimp
    try (first | exact fp_one (by decide) | refine fp_and (by decide) ?_)
    refine ⟨?_, fun e => ?_⟩
    · rintro rfl rfl rfl
      refine ⟨h5, fun p1 p2 p3 p4 hm' => ?_⟩
      rw [hm] at hm'
      cases hm'
      refine ⟨⟨by omega, by omega⟩, i + 1, ⟨by rw [w64 (by omega) (by omega)]; simp, ?_⟩, by omega, by omega⟩
      rw [hsu, if_pos (hk.1 rfl)]
    · refine ⟨i + 1, ⟨by rw [w64 (by omega) (by omega)]; simp, ?_⟩, by omega, by omega⟩
      rw [hsu, if_neg (fun hkk => by
        have := hk.2 hkk
        simp only [Prod.mk.injEq] at this
        exact e this.1 this.2.1 this.2.2)]
  · rw [List.take_of_length_le h5]
def rwG (a b c : Int) (l : List Int) (m : M4) (k : Nat) : List G6 := (((cl a c).take k).filter fun v => kpB a b c l (m, v)).map fun v => (m, v)
theorem rwG_succ {a b c : Int} {l : List Int} {m : M4} {k : Nat} {v : Int × Int} (h : (cl a c)[k]? = some v) : rwG a b c l m (k + 1) = if kpB a b c l (m, v) = true then rwG a b c l m k ++ [(m, v)] else rwG a b c l m k := by
  unfold rwG
  rw [flt_succ h]
  cases hm : kpB a b c l (m, v) <;> simp
theorem rwG_len (a b c : Int) (l : List Int) (m : M4) (k : Nat) : (rwG a b c l m k).length ≤ k := by
  rw [rwG, List.length_map]
  exact flt_len _ _ _
def gpG (a b c : Int) (l : List Int) (M : List M4) : List G6 := M.flatMap fun m => rwG a b c l m (cl a c).length
theorem gpG_succ {a b c : Int} {l : List Int} {M : List M4} {i : Nat} {m : M4} (h : M[i]? = some m) : gpG a b c l (M.take (i + 1)) = gpG a b c l (M.take i) ++ rwG a b c l m (cl a c).length := by
  simp [gpG, List.take_add_one, h]
theorem gpG_len (a b c : Int) (l : List Int) : ∀ M : List M4, (gpG a b c l M).length ≤ M.length * (cl a c).length
  | [] => by simp [gpG]
  | m :: M => by
    have h1 := rwG_len a b c l m (cl a c).length
    have h2 := gpG_len a b c l M
    rw [show gpG a b c l (m :: M) = rwG a b c l m (cl a c).length ++ gpG a b c l M from rfl, List.length_append, List.length_cons, Nat.add_mul, Nat.one_mul]
    omega
theorem mt_small {f a b c : Int} {m : M4} (h : m ∈ mtL f a b c) : (m.1.natAbs ≤ 1 ∧ m.2.1.natAbs ≤ 1) ∧ m.2.2.1.natAbs ≤ 1 ∧ m.2.2.2.natAbs ≤ 1 := pmL_small (Nat.le_refl _) (List.mem_filter.1 h).1
theorem mt_G {f a b c : Int} {m : M4} (h : m ∈ mtL f a b c) {x y : Int} (ha : 1 ≤ a ∧ a ≤ 64) (hc : 1 ≤ c ∧ c ≤ 64) (k : (0 ≤ x ∧ x < a) ∧ 0 ≤ y ∧ y < c) : smallG (m, x, y) := by
  obtain ⟨h1, h2⟩ := mt_small h
  unfold smallG
  simp only
  omega
theorem gp_small {f a b c : Int} {l : List Int} (ha : 1 ≤ a ∧ a ≤ 64) (hc : 1 ≤ c ∧ c ≤ 64) : ∀ g ∈ gpG a b c l (mtL f a b c), smallG g := by
  intro g hg
  obtain ⟨m, hm, hg⟩ := List.mem_flatMap.1 hg
  obtain ⟨v, hv, rfl⟩ := List.mem_map.1 hg
  obtain ⟨i, hi⟩ := List.mem_iff_getElem?.1 (List.mem_of_mem_take (List.mem_filter.1 hv).1)
  exact mt_G hm ha hc (cl_at ha.1 hc.1 hi).1
end Go.Proofs.YtgkhakhkebjbpaaGreatEv
namespace Go.Proofs.YtgkhakhkebjbpaaGreatEv
open Go Go.Proofs
set_option maxRecDepth 100000
set_option maxHeartbeats 2000000
theorem pm_mul_all (f : Int) (hf : f = 0 ∨ f = 1) : ((pmL f 81).all fun m => (pmL f 81).all fun g => pmOk f (mulM m g)) = true := by
  rcases hf with rfl | rfl <;> decide +kernel
theorem pm_mul {f : Int} (hf : 0 ≤ f ∧ f ≤ 1) {m g : M4} (hm : pmOk f m = true) (hg : pmOk f g = true) : pmOk f (mulM m g) = true := by
  have h := pm_mul_all f (by omega)
  rw [List.all_eq_true] at h
  have h2 := h m ((pmL_mem hf _ _ _ _).2 hm)
  rw [List.all_eq_true] at h2
  exact h2 g ((pmL_mem hf _ _ _ _).2 hg)
theorem keep_spn {a b c : Int} (hc : 1 ≤ c) {m : M4} : keepL a b c m = true ↔ spn a b c (m.1 * a) (m.2.2.1 * a) ∧ spn a b c (m.1 * b + m.2.1 * c) (m.2.2.1 * b + m.2.2.2 * c) := by
  unfold keepL
  rw [Bool.and_eq_true, inL_spn hc, inL_spn hc]
theorem spn_map {a b c : Int} {m : M4} (h1 : spn a b c (m.1 * a) (m.2.2.1 * a)) (h2 : spn a b c (m.1 * b + m.2.1 * c) (m.2.2.1 * b + m.2.2.2 * c)) {x y : Int} (h : spn a b c x y) : spn a b c (m.1 * x + m.2.1 * y) (m.2.2.1 * x + m.2.2.2 * y) := by
  obtain ⟨i, j, rfl, rfl⟩ := h
  obtain ⟨i1, j1, e1, e2⟩ := h1
  obtain ⟨i2, j2, e3, e4⟩ := h2
  refine ⟨i * i1 + j * i2, i * j1 + j * j2, ?_, ?_⟩
  · have : m.1 * (i * a + j * b) + m.2.1 * (j * c) = i * (m.1 * a) + j * (m.1 * b + m.2.1 * c) := by
      simp only [Int.mul_add, Int.mul_left_comm, Int.add_assoc]
    rw [this, e1, e3]
    simp only [Int.mul_add, Int.add_mul, Int.mul_assoc]
    omega
  · have : m.2.2.1 * (i * a + j * b) + m.2.2.2 * (j * c) = i * (m.2.2.1 * a) + j * (m.2.2.1 * b + m.2.2.2 * c) := by
      simp only [Int.mul_add, Int.mul_left_comm, Int.add_assoc]
    rw [this, e2, e4]
    simp only [Int.mul_add, Int.add_mul, Int.mul_assoc]
theorem keep_mul {a b c : Int} (hc : 1 ≤ c) {m g : M4} (hm : keepL a b c m = true) (hg : keepL a b c g = true) : keepL a b c (mulM m g) = true := by
  rw [keep_spn hc] at hm hg ⊢
  have h1 := spn_map hm.1 hm.2 hg.1
  have h2 := spn_map hm.1 hm.2 hg.2
  simp only [mulM]
  refine ⟨?_, ?_⟩
  · have e1 : (m.1 * g.1 + m.2.1 * g.2.2.1) * a = m.1 * (g.1 * a) + m.2.1 * (g.2.2.1 * a) := by rw [Int.add_mul, Int.mul_assoc, Int.mul_assoc]
    have e2 : (m.2.2.1 * g.1 + m.2.2.2 * g.2.2.1) * a = m.2.2.1 * (g.1 * a) + m.2.2.2 * (g.2.2.1 * a) := by rw [Int.add_mul, Int.mul_assoc, Int.mul_assoc]
    rw [e1, e2]
    exact h1
  · have e1 : (m.1 * g.1 + m.2.1 * g.2.2.1) * b + (m.1 * g.2.1 + m.2.1 * g.2.2.2) * c = m.1 * (g.1 * b + g.2.1 * c) + m.2.1 * (g.2.2.1 * b + g.2.2.2 * c) := by
      simp only [Int.mul_add, Int.add_mul, Int.mul_assoc]
      omega
    have e2 : (m.2.2.1 * g.1 + m.2.2.2 * g.2.2.1) * b + (m.2.2.1 * g.2.1 + m.2.2.2 * g.2.2.2) * c = m.2.2.1 * (g.1 * b + g.2.1 * c) + m.2.2.2 * (g.2.2.1 * b + g.2.2.2 * c) := by
      simp only [Int.mul_add, Int.add_mul, Int.mul_assoc]
      omega
    rw [e1, e2]
    exact h2
theorem red_in {a b c : Int} (ha : 1 ≤ a) (hc : 1 ≤ c) (x y : Int) : (0 ≤ redX a b c x y ∧ redX a b c x y < a) ∧ 0 ≤ y % c ∧ y % c < c :=
  ⟨⟨Int.emod_nonneg _ (by omega), Int.emod_lt_of_pos _ (by omega)⟩, Int.emod_nonneg _ (by omega), Int.emod_lt_of_pos _ (by omega)⟩
theorem el_red {f a b c : Int} (ha : 1 ≤ a) (hc : 1 ≤ c) {g : G6} (h1 : pmOk f g.1 = true) (h2 : keepL a b c g.1 = true) : elG f a b c (redG a b c g) = true := by
  have h := red_in (b := b) ha hc g.2.1 g.2.2
  show (pmOk f g.1 && keepL a b c g.1 && decide (0 ≤ redX a b c g.2.1 g.2.2 ∧ redX a b c g.2.1 g.2.2 < a) && decide (0 ≤ g.2.2 % c ∧ g.2.2 % c < c)) = true
  rw [h1, h2, decide_eq_true h.1, decide_eq_true h.2]
  rfl
theorem el_mul {f a b c : Int} (hf : 0 ≤ f ∧ f ≤ 1) (ha : 1 ≤ a) (hc : 1 ≤ c) {m g : G6} (hm : elG f a b c m = true) (hg : elG f a b c g = true) : elG f a b c (redG a b c (mulG m g)) = true := by
  simp only [elG, Bool.and_eq_true, decide_eq_true_eq] at hm hg
  exact el_red ha hc (pm_mul hf hm.1.1.1 hg.1.1.1) (keep_mul hc hm.1.1.2 hg.1.1.2)
theorem el_un {f a b c : Int} (hf : 0 ≤ f ∧ f ≤ 1) (ha : 1 ≤ a) (hc : 1 ≤ c) : elG f a b c unG = true := by
  have h1 : pmOk f (1, 0, 0, 1) = true := by
    have : f = 0 ∨ f = 1 := by omega
    rcases this with rfl | rfl <;> decide
  have h2 : keepL a b c (1, 0, 0, 1) = true := by
    rw [keep_spn hc]
    exact ⟨⟨1, 0, by simp, by simp⟩, ⟨0, 1, by simp, by simp⟩⟩
  simp only [elG, unG, h1, h2, Bool.true_and, Bool.and_eq_true, decide_eq_true_eq]
  omega
def allG (f a b c : Int) : List G6 := (mtL f a b c).flatMap fun m => (cl a c).map fun v => (m, v)
theorem allG_mem {f a b c : Int} (hf : 0 ≤ f ∧ f ≤ 1) (ha : 1 ≤ a) (hc : 1 ≤ c) {g : G6} (h : elG f a b c g = true) : g ∈ allG f a b c := by
  simp only [elG, Bool.and_eq_true, decide_eq_true_eq] at h
  have hv := cl_ix ha hc (v := g.2) ⟨h.1.2, h.2⟩
  exact List.mem_flatMap.2 ⟨g.1, List.mem_filter.2 ⟨(pmL_mem hf _ _ _ _).2 h.1.1.1, h.1.1.2⟩, List.mem_map.2 ⟨g.2, List.mem_of_getElem? hv, rfl⟩⟩
theorem flatG_len {α β : Type} (g : α → List β) (n : Nat) : ∀ l : List α, (∀ x ∈ l, (g x).length = n) → (l.flatMap g).length = l.length * n
  | [], _ => by simp
  | x :: l, h => by
    rw [List.flatMap_cons, List.length_append, h x (by simp), flatG_len g n l (fun y hy => h y (List.mem_cons_of_mem _ hy)), List.length_cons, Nat.add_mul]
    omega
theorem allG_len {f a b c : Int} (hf : 0 ≤ f ∧ f ≤ 1) (h : okL a b c = true) : (allG f a b c).length ≤ 768 := by
  obtain ⟨ha, hc, hb, hac⟩ := okL_spec.1 h
  have hM : (mtL f a b c).length ≤ 12 := Nat.le_trans (List.length_filter_le _ _) (pm_count f hf)
  have hcl : (cl a c).length ≤ 64 := by
    rw [cellsL_len]
    have e : ((a.toNat * c.toNat : Nat) : Int) = a * c := by
      rw [Int.natCast_mul, Int.toNat_of_nonneg (by omega), Int.toNat_of_nonneg (by omega)]
    omega
  unfold allG
  rw [flatG_len _ (cl a c).length _ (fun m _ => by simp)]
  exact Nat.mul_le_mul hM hcl
def adG (a b c : Int) (g : G6) (O : List G6) (m : G6) : List G6 := if redG a b c (mulG m g) ∈ O then O else O ++ [redG a b c (mulG m g)]
def bfG (a b c : Int) (L : List G6) : Nat → Nat → List G6 → List G6
  | 0, _, O => O
  | f + 1, k, O => match O[k]? with
    | none => O
    | some g => bfG a b c L f (k + 1) (L.foldl (adG a b c g) O)
theorem bfG_end (a b c : Int) (L : List G6) (f k : Nat) (O : List G6) (h : O.length ≤ k) : bfG a b c L f k O = O := by
  cases f with
  | zero => rfl
  | succ f => rw [bfG, List.getElem?_eq_none h]
theorem bfG_step (a b c : Int) (L : List G6) (f k : Nat) (O : List G6) (g : G6) (h : O[k]? = some g) : bfG a b c L (f + 1) k O = bfG a b c L f (k + 1) (L.foldl (adG a b c g) O) := by rw [bfG, h]
/-- What is found so far. -/
structure Gd2 (f a b c : Int) (O : List G6) : Prop where
  nd : O.Nodup
  sub : ∀ x ∈ O, elG f a b c x = true
  un : unG ∈ O
theorem Gd2.len {f a b c : Int} (hf : 0 ≤ f ∧ f ≤ 1) (h : okL a b c = true) {O : List G6} (g : Gd2 f a b c O) : O.length ≤ 768 := by
  obtain ⟨ha, hc, _, _⟩ := okL_spec.1 h
  exact Nat.le_trans (pigeon O _ g.nd fun x hx => allG_mem hf ha.1 hc.1 (g.sub x hx)) (allG_len hf h)
theorem Gd2.add {f a b c : Int} (hf : 0 ≤ f ∧ f ≤ 1) (ha : 1 ≤ a) (hc : 1 ≤ c) {O : List G6} (h : Gd2 f a b c O) {m g : G6} (hm : elG f a b c m = true) (hg : elG f a b c g = true) : Gd2 f a b c (adG a b c g O m) := by
  unfold adG
  split
  · exact h
  case isFalse hn =>
    refine ⟨?_, fun x hx => ?_, by simp [h.un]⟩
    · rw [List.nodup_append]
      refine ⟨h.nd, by simp, fun a ha b hb => ?_⟩
      rw [List.mem_singleton] at hb
      rintro rfl
      exact hn (hb ▸ ha)
    · rcases List.mem_append.1 hx with e | e
      · exact h.sub x e
      · rw [List.mem_singleton.1 e]; exact el_mul hf ha hc hm hg
theorem Gd2.one {f a b c : Int} (hf : 0 ≤ f ∧ f ≤ 1) (ha : 1 ≤ a) (hc : 1 ≤ c) : Gd2 f a b c [unG] := ⟨by simp, fun x hx => by rw [List.mem_singleton.1 hx]; exact el_un hf ha hc, by simp⟩
theorem adG_get {a b c : Int} {g m : G6} {O : List G6} {k : Nat} {x : G6} (h : O[k]? = some x) : (adG a b c g O m)[k]? = some x := by
  unfold adG
  split
  · exact h
  · rw [List.getElem?_append_left (List.getElem?_eq_some_iff.1 h).1, h]
theorem foldl_gd {f a b c : Int} (hf : 0 ≤ f ∧ f ≤ 1) (ha : 1 ≤ a) (hc : 1 ≤ c) {g : G6} (hg : elG f a b c g = true) : ∀ (L O : List G6), (∀ m ∈ L, elG f a b c m = true) → Gd2 f a b c O → Gd2 f a b c (L.foldl (adG a b c g) O)
  | [], _, _, h => h
  | m :: L, O, hL, h => foldl_gd hf ha hc hg L _ (fun x hx => hL x (List.mem_cons_of_mem _ hx)) (h.add hf ha hc (hL m (by simp)) hg)
theorem bfG_gd {f a b c : Int} (hf : 0 ≤ f ∧ f ≤ 1) (ha : 1 ≤ a) (hc : 1 ≤ c) {L : List G6} (hL : ∀ m ∈ L, elG f a b c m = true) : ∀ (n k : Nat) (O : List G6), Gd2 f a b c O → Gd2 f a b c (bfG a b c L n k O)
  | 0, _, _, h => h
  | n + 1, k, O, h => by
    unfold bfG
    split
    · exact h
    · rename_i g hg
      exact bfG_gd hf ha hc hL n (k + 1) _ (foldl_gd hf ha hc (h.sub g (List.mem_of_getElem? hg)) L O hL h)
def closL (a b c : Int) (L : List G6) : List G6 := bfG a b c L 769 0 [unG]
theorem clos_gd {f a b c : Int} (hf : 0 ≤ f ∧ f ≤ 1) (ha : 1 ≤ a) (hc : 1 ≤ c) {L : List G6} (hL : ∀ m ∈ L, elG f a b c m = true) : Gd2 f a b c (closL a b c L) := bfG_gd hf ha hc hL _ _ _ (Gd2.one hf ha hc)
theorem s_clos (f a b c : Int) (L : List G6) (hf : 0 ≤ f ∧ f ≤ 1) (hok : okL a b c = true) (hL : ∀ m ∈ L, elG f a b c m = true) (hL2 : L.length ≤ 1000) : Sp Tryz.prog 129 [aL a b c, .v (vgs L)] (.sli 0) [.row 6 47 (gs (srtL (closL a b c L)))] := by
  obtain ⟨ha, hc, hb, hac⟩ := okL_spec.1 hok
  refine sp_of (m := no) mixed Tryz.func129 k129 ?_
  simp -dsimp [q]
  refine call_of (s_sun) rfl (by simp) ?_
  try simp -dsimp
  try (first | exact fp_one (by decide) | refine fp_and (by decide) ?_)
  refine call_of (s_sun) rfl (by simp) ?_
  try simp -dsimp
  try (first | exact fp_one (by decide) | refine fp_and (by decide) ?_)
  have hmem : ∀ g, elG f a b c g = true → oneM g.1 ∧ g.2.1.natAbs ≤ 1000 ∧ g.2.2.natAbs ≤ 1000 := fun g hg => by
    obtain ⟨g1, g2, g3⟩ := elG_spec hf hg
    exact ⟨g1, by omega, by omega⟩
  refine awp_it (false :: true :: true :: false :: false :: true :: true :: true :: []) (fun s : Nat × List G6 => [(7, vi s.1)]) (fun s => [(1, .row 6 47 (gs (srtL s.2))), (2, .row 6 47 (gs s.2))]) (fun s => Gd2 f a b c s.2 ∧ s.1 ≤ s.2.length ∧ bfG a b c L (769 - s.1) s.1 s.2 = closL a b c L) (fun s => 769 - s.1) (0, [unG]) ?_
  intro s0 e
  simp -dsimp at e
  subst e
  refine ⟨?_, ?_⟩
  · exact ⟨by simp [gs, vg, srtL, insG, plc], Gd2.one hf ha.1 hc.1, by simp, rfl⟩
  rintro ⟨k, O⟩ ⟨h1, h2, h3⟩
  simp only at h1 h2 h3
  have hO := h1.len hf hok
  by_cases hk : k < O.length
  case neg =>
    have e : O = closL a b c L := by rw [← h3, bfG_end _ _ _ _ _ _ _ (by omega)]
    have hk2 : ¬ ((k : Int) < (closL a b c L).length) := by rw [← e]; omega
    simp -dsimp [hk2, -Prod.forall, -Prod.exists, e]
  obtain ⟨g, hg⟩ : ∃ g, O[k]? = some g := ⟨_, List.getElem?_eq_getElem hk⟩
  have hgS := h1.sub g (List.mem_of_getElem? hg)
  rw [show 769 - k = (768 - k) + 1 by omega, bfG_step a b c L _ k O g hg] at h3
  simp -dsimp [show ((k : Int) < O.length) by omega, -Prod.forall, -Prod.exists]
  refine awp_it (false :: true :: true :: false :: false :: true :: true :: true :: true :: []) (fun s : Nat × List G6 => [(8, vi s.1)]) (fun s => [(1, .row 6 47 (gs (srtL s.2))), (2, .row 6 47 (gs s.2))]) (fun s => Gd2 f a b c s.2 ∧ s.2[k]? = some g ∧ s.1 ≤ L.length ∧ (L.drop s.1).foldl (adG a b c g) s.2 = L.foldl (adG a b c g) O) (fun s => L.length - s.1) (0, O) ?_
  intro s0 e
  simp -dsimp at e
  subst e
  refine ⟨?_, ?_⟩
  · exact ⟨by simp, h1, hg, by simp, rfl⟩
  rintro ⟨i, O'⟩ ⟨k1, k2, k3, k4⟩
  simp only at k1 k2 k3 k4
  have hO' := k1.len hf hok
  by_cases hi : i < L.length
  case neg =>
    rw [List.drop_of_length_le (by omega), List.foldl_nil] at k4
    simp -dsimp [show ¬ ((i : Int) < L.length) by omega, -Prod.forall, -Prod.exists]
    have hkl := (List.getElem?_eq_some_iff.1 k2).1
    exact ⟨(k + 1, O'), ⟨by rw [w64 (by omega) (by omega)]; simp, rfl, rfl⟩, ⟨k1, by simp only; omega, by simp only; rw [k4, ← h3, show 769 - (k + 1) = 768 - k by omega]⟩, by simp only; omega⟩
  obtain ⟨m, hm⟩ : ∃ m, L[i]? = some m := ⟨_, List.getElem?_eq_getElem hi⟩
  have hmL := hL m (List.mem_of_getElem? hm)
  have ga := k1.add hf ha.1 hc.1 hmL hgS
  have mg := hmem m hmL
  have kg := hmem g hgS
  have kd : (L.drop (i + 1)).foldl (adG a b c g) (adG a b c g O' m) = L.foldl (adG a b c g) O := by
    rw [← k4]
    conv => rhs; rw [List.drop_eq_getElem_cons hi, List.foldl_cons]
    rw [(List.getElem?_eq_some_iff.1 hm).2]
  have hkl := (List.getElem?_eq_some_iff.1 k2).1
  simp -dsimp [show ((i : Int) < L.length) by omega, -Prod.forall, -Prod.exists]
  refine fun m' hm' => ?_
  rw [hm] at hm'
  cases hm'
  refine ⟨hkl, fun g' hg' => ?_⟩
  rw [k2] at hg'
  cases hg'
  refine call_of (s_sgmul m g mg kg) rfl (by simp) ?_
  try simp -dsimp
  try (first | exact fp_one (by decide) | refine fp_and (by decide) ?_)
  have q1 := mul_bd mg.1.1.1 kg.2.1
  have q2 := mul_bd mg.1.1.2 kg.2.2
  have q3 := mul_bd mg.1.2.1 kg.2.1
  have q4 := mul_bd mg.1.2.2 kg.2.2
  obtain ⟨_, mg2, mg3⟩ := mg
  refine call_of (s_sgred a b c (mulG m g) ha hb hc (by simp only [mulG]; omega) (by simp only [mulG]; omega)) rfl (by simp) ?_
  try simp -dsimp
  try (first | exact fp_one (by decide) | refine fp_and (by decide) ?_)
  have ad : adG a b c g O' m = if redG a b c (mulG m g) ∈ O' then O' else O' ++ [redG a b c (mulG m g)] := rfl
  have gk := adG_get (a := a) (b := b) (c := c) (g := g) (m := m) k2
  generalize redG a b c (mulG m g) = p at *
  have hsr := srtL_srt k1.nd
  have hsl := srtL_len O'
  have hsm := srtL_mem (Q := O') (x := p)
  have hsa := srtL_app O' p
  refine call_of (s_shas (srtL O') p hsr (by omega)) rfl (by simp) ?_
  try simp -dsimp
  try (first | exact fp_one (by decide) | refine fp_and (by decide) ?_)
  refine ⟨fun hno => ?_, fun hyes => ⟨i + 1, O', ⟨by rw [w64 (by omega) (by omega)]; simp, rfl, rfl⟩, ?_, by omega⟩⟩
  · rw [if_neg (fun hin => hno (hsm.2 hin))] at ad
    rw [ad] at ga gk kd
    refine call_of (s_sins (srtL O') p hsr (by omega) hno) rfl (by simp) ?_
    try simp -dsimp
    try (first | exact fp_one (by decide) | refine fp_and (by decide) ?_)
    exact ⟨⟨by omega, by omega⟩, i + 1, O' ++ [p], ⟨by rw [w64 (by omega) (by omega)]; simp, hsa.symm, rfl⟩, ⟨ga, gk, by omega, kd⟩, by omega⟩
  · rw [if_pos (hsm.1 hyes)] at ad
    rw [ad] at ga gk kd
    exact ⟨ga, gk, by omega, kd⟩
end Go.Proofs.YtgkhakhkebjbpaaGreatEv
namespace Go.Proofs.YtgkhakhkebjbpaaGreatEv
open Go Go.Proofs
set_option maxRecDepth 10000
set_option maxHeartbeats 2000000
def ltVB (u v : Int × Int) : Bool := lexLt (t2 (u.1, u.2)) (t2 (v.1, v.2))
def plV (l : List (Int × Int)) (v : Int × Int) : Nat := l.findIdx fun x => !ltVB x v
def inV (l : List (Int × Int)) (v : Int × Int) : List (Int × Int) := if l[plV l v]? = some v then l else l.take (plV l v) ++ v :: l.drop (plV l v)
theorem inV_mem {l : List (Int × Int)} {v x : Int × Int} (h : x ∈ inV l v) : x = v ∨ x ∈ l := by
  unfold inV at h
  split at h
  · exact .inr h
  · rcases List.mem_append.1 h with h | h
    · exact .inr (List.mem_of_mem_take h)
    · rcases List.mem_cons.1 h with h | h
      · exact .inl h
      · exact .inr (List.mem_of_mem_drop h)
theorem inV_len (l : List (Int × Int)) (v : Int × Int) : (inV l v).length ≤ l.length + 1 ∧ 0 < (inV l v).length := by
  unfold inV
  split
  · rename_i h
    have := (List.getElem?_eq_some_iff.1 h).1
    omega
  · have := congrArg List.length (List.take_append_drop (plV l v) l)
    simp only [List.length_append, List.length_cons] at *
    omega
theorem plV_stop {l : List (Int × Int)} {v : Int × Int} {i : Nat} (h : ∀ x ∈ l.take i, ltVB x v = true) (hx : i = l.length ∨ ∃ x, l[i]? = some x ∧ ltVB x v = false) : plV l v = i := by
  have hb : ∀ j, j < i → (hj : j < l.length) → (fun x => !ltVB x v) l[j] = false := fun j hj hl => by
    have := h l[j] (List.mem_take_iff_getElem.2 ⟨j, by omega, rfl⟩)
    simp [this]
  rcases hx with rfl | ⟨x, hx, hf⟩
  · unfold plV
    exact List.findIdx_eq_length.2 (fun x hx => by
      have := h x (by rw [List.take_length]; exact hx)
      simp [this])
  · obtain ⟨hl, e⟩ := List.getElem?_eq_some_iff.1 hx
    exact (List.findIdx_eq hl).2 ⟨by rw [e]; simp [hf], fun j hj => hb j hj (by omega)⟩
theorem plV_next {l : List (Int × Int)} {v x : Int × Int} {i : Nat} (h : ∀ y ∈ l.take i, ltVB y v = true) (hx : l[i]? = some x) (hl : ltVB x v = true) : ∀ y ∈ l.take (i + 1), ltVB y v = true := fun y hy => by
  rw [List.take_add_one, hx] at hy
  rcases List.mem_append.1 hy with hy | hy
  · exact h y hy
  · simp only [Option.toList_some, List.mem_singleton] at hy; rw [hy]; exact hl
theorem s_insV1 (l : List (Int × Int)) (v : Int × Int) (hl : l.length ≤ 1000) (h : l[plV l v]? = some v) : SpG Tryz.prog 163 [.sli 0, aV v.1 v.2] [.row 2 39 (vs l)] (.sli 0) [.row 2 39 (vs l)] := by
  have hp := (List.getElem?_eq_some_iff.1 h).1
  refine sg_of (m := no) mixed Tryz.func163 k163 ?_
  simp -dsimp [q]
  refine awp_it (true :: false :: false :: true :: false :: true :: []) (fun i : Nat => [(5, vi i)]) (fun i => []) (fun i => i ≤ l.length ∧ ∀ x ∈ l.take i, ltVB x v = true) (fun i => l.length - i) 0 ?_
  intro s0 e
  simp -dsimp at e
  subst e
  refine ⟨?_, ?_⟩
  · simp
  rintro i ⟨hi, hb⟩
  simp -dsimp [-Prod.forall, -Prod.exists]
  refine ⟨fun h1 => ⟨h1, fun x hx => ?_⟩, fun h1 => ?_⟩
  · have w := s_sless x.1 x.2 v.1 v.2
    have hst := plV_stop (i := i) hb
    have hnx := plV_next hb hx
    change Sp Tryz.prog _ _ (vb (ltVB x v)) [] at w
    cases hlt : ltVB x v with
    | true =>
      rw [hlt] at w
      refine call_of (w) rfl (by simp) ?_
      try simp -dsimp
      try (first | exact fp_one (by decide) | refine fp_and (by decide) ?_)
      exact ⟨i + 1, by rw [w64 (by omega) (by omega)]; simp, ⟨by omega, fun a b hm => hnx hlt (a, b) hm⟩, by omega⟩
    | false =>
      rw [hlt] at w
      obtain rfl := hst (.inr ⟨x, hx, hlt⟩)
      rw [h] at hx
      cases hx
      refine call_of (w) rfl (by simp) ?_
      try simp -dsimp
      try (first | exact fp_one (by decide) | refine fp_and (by decide) ?_)
      exact ⟨fun _ => ⟨hp, fun a b hab => by rw [h] at hab; cases hab; exact ⟨rfl, rfl⟩⟩, hp⟩
  · have := plV_stop (i := i) hb (.inl (by omega))
    omega
theorem s_insV2 (l : List (Int × Int)) (v : Int × Int) (hl : l.length ≤ 1000) (h : ¬ l[plV l v]? = some v) : SpG Tryz.prog 163 [.sli 0, aV v.1 v.2] [.row 2 39 (vs l)] (.sli 1) [.row 2 39 (vs l), .row 2 39 (vs (inV l v))] := by
  have hp : plV l v ≤ l.length := List.findIdx_le_length
  have hin : inV l v = l.take (plV l v) ++ v :: l.drop (plV l v) := by unfold inV; rw [if_neg h]
  have evs : vs (inV l v) = List.take (plV l v) (vs l) ++ V.ag [.int .i64 v.1, .int .i64 v.2] :: List.take (l.length - plV l v) (List.drop (plV l v) (vs l)) := by
    rw [hin, show List.take (l.length - plV l v) (List.drop (plV l v) (vs l)) = List.drop (plV l v) (vs l) from List.take_of_length_le (by simp)]
    simp [vs, vv, List.map_take, List.map_drop]
  refine sg_of (m := no) mixed Tryz.func163 k163 ?_
  simp -dsimp [q]
  refine awp_it (true :: false :: false :: true :: false :: true :: []) (fun i : Nat => [(5, vi i)]) (fun i => []) (fun i => i ≤ l.length ∧ ∀ x ∈ l.take i, ltVB x v = true) (fun i => l.length - i) 0 ?_
  intro s0 e
  simp -dsimp at e
  subst e
  refine ⟨?_, ?_⟩
  · simp
  rintro i ⟨hi, hb⟩
  simp -dsimp [-Prod.forall, -Prod.exists]
  refine ⟨fun h1 => ⟨h1, fun x hx => ?_⟩, fun h1 => ?_⟩
  · have w := s_sless x.1 x.2 v.1 v.2
    have hst := plV_stop (i := i) hb
    have hnx := plV_next hb hx
    change Sp Tryz.prog _ _ (vb (ltVB x v)) [] at w
    cases hlt : ltVB x v with
    | true =>
      rw [hlt] at w
      refine call_of (w) rfl (by simp) ?_
      try simp -dsimp
      try (first | exact fp_one (by decide) | refine fp_and (by decide) ?_)
      exact ⟨i + 1, by rw [w64 (by omega) (by omega)]; simp, ⟨by omega, fun a b hm => hnx hlt (a, b) hm⟩, by omega⟩
    | false =>
      rw [hlt] at w
      obtain rfl := hst (.inr ⟨x, hx, hlt⟩)
      refine call_of (w) rfl (by simp) ?_
      try simp -dsimp
      try (first | exact fp_one (by decide) | refine fp_and (by decide) ?_)
      exact ⟨fun _ => ⟨h1, fun a b hab => ⟨fun e1 e2 => h (by rw [hab, e1, e2]), fun _ => ⟨hp, ⟨by omega, by omega⟩, ⟨by omega, by omega⟩, hp, by omega, ⟨by omega, by omega⟩, by decide, evs⟩⟩⟩, fun _ => ⟨hp, ⟨by omega, by omega⟩, ⟨by omega, by omega⟩, hp, by omega, ⟨by omega, by omega⟩, by decide, evs⟩⟩
  · obtain rfl := plV_stop (i := i) hb (.inl (by omega))
    exact ⟨fun _ => ⟨by omega, fun y hab => ⟨fun e1 e2 => h (by rw [hab]; exact congrArg some (Prod.ext e1 e2)), fun _ => ⟨hp, ⟨by omega, by omega⟩, ⟨by omega, by omega⟩, hp, by omega, ⟨by omega, by omega⟩, by decide, evs⟩⟩⟩, fun _ => ⟨hp, ⟨by omega, by omega⟩, ⟨by omega, by omega⟩, hp, by omega, ⟨by omega, by omega⟩, by decide, evs⟩⟩
def orV (a b c : Int) (v : Int × Int) (G : List G6) : List (Int × Int) := G.foldl (fun o g => inV o (mvV a b c g v)) []
theorem orV_succ {a b c : Int} {v : Int × Int} {G : List G6} {i : Nat} {g : G6} (h : G[i]? = some g) : orV a b c v (G.take (i + 1)) = inV (orV a b c v (G.take i)) (mvV a b c g v) := by
  unfold orV
  rw [List.take_add_one, h, List.foldl_append]
  rfl
theorem mvV_in {a b c : Int} (ha : 1 ≤ a) (hc : 1 ≤ c) (g : G6) (v : Int × Int) : inC a c (mvV a b c g v) := by
  unfold mvV inC
  exact red_in ha hc _ _
theorem foldl_or {a b c : Int} (ha : 1 ≤ a) (hc : 1 ≤ c) (v : Int × Int) : ∀ (G : List G6) (o : List (Int × Int)), (∀ x ∈ o, inC a c x) → (∀ x ∈ G.foldl (fun o g => inV o (mvV a b c g v)) o, inC a c x) ∧ (G.foldl (fun o g => inV o (mvV a b c g v)) o).length ≤ o.length + G.length ∧ (0 < o.length ∨ 0 < G.length → 0 < (G.foldl (fun o g => inV o (mvV a b c g v)) o).length)
  | [], o, h => ⟨h, by simp, by simp⟩
  | g :: G, o, h => by
    obtain ⟨h1, h2⟩ := inV_len o (mvV a b c g v)
    obtain ⟨k1, k2, k3⟩ := foldl_or ha hc v G (inV o (mvV a b c g v)) (fun x hx => by
      rcases inV_mem hx with rfl | hx
      · exact mvV_in ha hc g v
      · exact h x hx)
    rw [List.foldl_cons]
    exact ⟨k1, by simp only [List.length_cons]; omega, fun _ => k3 (.inl h2)⟩
theorem orV_in {a b c : Int} (ha : 1 ≤ a) (hc : 1 ≤ c) (v : Int × Int) (G : List G6) : (∀ x ∈ orV a b c v G, inC a c x) ∧ (orV a b c v G).length ≤ G.length ∧ (0 < G.length → 0 < (orV a b c v G).length) := by
  obtain ⟨h1, h2, h3⟩ := foldl_or (b := b) ha hc v G [] (by simp)
  exact ⟨h1, Nat.le_trans h2 (by simp), fun h => h3 (.inr h)⟩
theorem s_orbit (a b c : Int) (G : List G6) (v : Int × Int) (h : okL a b c = true) (hv : inC a c v) (hG : G.length ≤ 800) (hs : ∀ g ∈ G, smallG g) : Sp Tryz.prog 160 [aL a b c, .v (vgs G), aV v.1 v.2] (.v (.sl 2 (vs (orV a b c v G)))) [] := by
  obtain ⟨ha, hc, hb, hac⟩ := okL_spec.1 h
  refine sp_of (m := fun f => f == 163) mixed Tryz.func160 k160 ?_
  simp -dsimp [q]
  refine awp_it (false :: true :: false :: true :: false :: true :: false :: true :: true :: []) (fun i : Nat => [(8, vi i)]) (fun i => [(2, .row 2 39 (vs (orV a b c v (G.take i))))]) (fun i => i ≤ G.length) (fun i => G.length - i) 0 ?_
  intro s0 e
  simp -dsimp at e
  subst e
  refine ⟨?_, ?_⟩
  · simp [orV]
  intro i hi
  simp -dsimp [-Prod.forall, -Prod.exists]
  refine ⟨fun h1 => ⟨h1, fun g hg => ?_⟩, fun h1 => ?_⟩
  · have hos := orV_succ (a := a) (b := b) (c := c) (v := v) hg
    have hol := (orV_in (b := b) ha.1 hc.1 v (G.take i)).2.1
    have hol2 : (orV a b c v (G.take i)).length ≤ 800 := by rw [List.length_take] at hol; omega
    have wm := s_smove a b c g v.1 v.2 (hs g (List.mem_of_getElem? hg)) ha hb hc (by obtain ⟨h3, h4⟩ := hv; omega)
    generalize orV a b c v (G.take i) = o at *
    have e9 : mvV a b c g (v.1, v.2) = mvV a b c g v := rfl
    rw [e9] at wm
    generalize mvV a b c g v = u at *
    refine call_of (wm) rfl (by simp) ?_
    try simp -dsimp
    try (first | exact fp_one (by decide) | refine fp_and (by decide) ?_)
    by_cases hpr : o[plV o u]? = some u
    · have wi := s_insV1 o u (by omega) hpr
      have e2 : inV o u = o := by unfold inV; rw [if_pos hpr]
      refine callM_of rfl (wi) (by simp) ?_
      try simp -dsimp
      try (first | exact fp_one (by decide) | refine fp_and (by decide) ?_)
      exact ⟨i + 1, ⟨by rw [w64 (by omega) (by omega)]; simp, by rw [hos, e2]⟩, by omega, by omega⟩
    · have wi := s_insV2 o u (by omega) hpr
      refine callM_of rfl (wi) (by simp) ?_
      try simp -dsimp
      try (first | exact fp_one (by decide) | refine fp_and (by decide) ?_)
      exact ⟨i + 1, ⟨by rw [w64 (by omega) (by omega)]; simp, by rw [hos]⟩, by omega, by omega⟩
  · rw [List.take_of_length_le h1]
def vsS (L : List (List (Int × Int))) : List V := L.map fun o => V.sl 2 (vs o)
@[simp] theorem vsS_nil : vsS [] = [] := rfl
@[simp] theorem vsS_len (l : List (List (Int × Int))) : (vsS l).length = l.length := by simp [vsS]
@[simp] theorem vsS_app (l : List (List (Int × Int))) (o : List (Int × Int)) : vsS l ++ [.sl 2 (vs o)] = vsS (l ++ [o]) := by simp [vsS]
@[simp] theorem vsS_get (l : List (List (Int × Int))) (n : Nat) (K : V → Prop) : fA ((vsS l)[n]?) K = ∀ o, l[n]? = some o → K (.sl 2 (vs o)) := by unfold vsS; exact fA_map
def osV (a b c : Int) (G : List G6) (n : Nat) : List (List (Int × Int)) := ((cl a c).take n).filterMap fun v => if (orV a b c v G)[0]? = some v then some (orV a b c v G) else none
theorem osV_succ {a b c : Int} {G : List G6} {i : Nat} {v : Int × Int} (h : (cl a c)[i]? = some v) : osV a b c G (i + 1) = osV a b c G i ++ (if (orV a b c v G)[0]? = some v then [orV a b c v G] else []) := by
  unfold osV
  rw [List.take_add_one, h, List.filterMap_append]
  congr 1
  simp only [Option.toList_some, List.filterMap_cons, List.filterMap_nil]
  by_cases hh : (orV a b c v G)[0]? = some v
  · rw [if_pos hh, if_pos hh]
  · rw [if_neg hh, if_neg hh]
theorem osV_len (a b c : Int) (G : List G6) (n : Nat) : (osV a b c G n).length ≤ n := by
  refine Nat.le_trans (List.length_filterMap_le _ _) ?_
  rw [List.length_take]
  omega
theorem osV_mem {a b c : Int} {G : List G6} {n : Nat} {o : List (Int × Int)} (h : o ∈ osV a b c G n) : ∃ v, o = orV a b c v G := by
  obtain ⟨v, _, hv⟩ := List.mem_filterMap.1 h
  split at hv
  · cases hv; exact ⟨v, rfl⟩
  · cases hv
theorem s_orbits (a b c : Int) (G : List G6) (h : okL a b c = true) (hG : 0 < G.length ∧ G.length ≤ 800) (hs : ∀ g ∈ G, smallG g) : Sp Tryz.prog 154 [aL a b c, .v (vgs G)] (.v (.sl 0 (vsS (osV a b c G (cl a c).length)))) [] := by
  obtain ⟨ha, hc, hb, hac⟩ := okL_spec.1 h
  have wc := s_scells a b c ha hc
  have hcl : (cl a c).length ≤ 64 := by
    rw [cellsL_len]
    have e : ((a.toNat * c.toNat : Nat) : Int) = a * c := by
      rw [Int.natCast_mul, Int.toNat_of_nonneg (by omega), Int.toNat_of_nonneg (by omega)]
    omega
  refine sp_of (m := no) mixed Tryz.func154 k154 ?_
  simp -dsimp [q]
  refine call_of (wc) rfl (by simp) ?_
  try simp -dsimp
  try (first | exact fp_one (by decide) | refine fp_and (by decide) ?_)
  refine awp_it (false :: true :: true :: false :: false :: true :: true :: true :: []) (fun i : Nat => [(7, vi i)]) (fun i => [(2, .row 0 29 (vsS (osV a b c G i)))]) (fun i => i ≤ (cl a c).length) (fun i => (cl a c).length - i) 0 ?_
  intro s0 e
  simp -dsimp at e
  subst e
  refine ⟨?_, ?_⟩
  · simp [osV]
  intro i hi
  simp -dsimp [-Prod.forall, -Prod.exists]
  refine ⟨fun h1 => ⟨h1, fun v hv => ?_⟩, fun h1 => ?_⟩
  · have hin : inC a c v := (cl_at ha.1 hc.1 hv).1
    have wo := s_orbit a b c G v h hin hG.2 hs
    obtain ⟨_, ho2, ho3⟩ := orV_in (b := b) ha.1 hc.1 v G
    have hos := osV_succ (b := b) (G := G) hv
    have hol := osV_len a b c G i
    have ho3 := ho3 hG.1
    generalize orV a b c v G = o at *
    obtain ⟨u, hu⟩ : ∃ u, o[0]? = some u := ⟨_, List.getElem?_eq_getElem ho3⟩
    refine call_of (wo) rfl (by simp) ?_
    try simp -dsimp
    try (first | exact fp_one (by decide) | refine fp_and (by decide) ?_)
    refine ⟨by omega, fun u1 u2 hu' => ⟨h1, fun v1 v2 hv' => ?_⟩⟩
    obtain rfl : v = (v1, v2) := Option.some.inj (hv.symm.trans hv')
    obtain rfl : u = (u1, u2) := Option.some.inj (hu.symm.trans hu')
    have h1' : i < (cl a c).length := h1
    refine ⟨fun e1 e2 => ⟨⟨by omega, by omega⟩, i + 1, ⟨by rw [w64 (by omega) (by omega)]; simp, ?_⟩, by omega, by omega⟩, fun hne => ⟨i + 1, ⟨by rw [w64 (by omega) (by omega)]; simp, ?_⟩, by omega, by omega⟩⟩
    · rw [hos, if_pos (by rw [hu, e1, e2])]
    · rw [hos, if_neg (fun e => by
        rw [hu] at e
        cases e
        exact hne rfl rfl), List.append_nil]
  · have h1' : (cl a c).length ≤ i := h1
    have : i = (cl a c).length := by omega
    subst this
    rfl
def seO (a b c : Int) (k : Int) (N : List Int) (o : List (Int × Int)) : List Int := o.foldl (fun N v => N.set (num a b c v.1 v.2).toNat k) N
theorem seO_succ {a b c k : Int} {N : List Int} {o : List (Int × Int)} {j : Nat} {v : Int × Int} (h : o[j]? = some v) : seO a b c k N (o.take (j + 1)) = (seO a b c k N (o.take j)).set (num a b c v.1 v.2).toNat k := by
  unfold seO
  rw [List.take_add_one, h, List.foldl_append]
  rfl
theorem seO_prop {a b c k : Int} {B : Int} (hk : 0 ≤ k ∧ k < B) : ∀ (o : List (Int × Int)) (N : List Int), (∀ x ∈ N, 0 ≤ x ∧ x < B) → (seO a b c k N o).length = N.length ∧ ∀ x ∈ seO a b c k N o, 0 ≤ x ∧ x < B
  | [], N, h => ⟨rfl, h⟩
  | v :: o, N, h => by
    have := seO_prop (a := a) (b := b) (c := c) hk o (N.set (num a b c v.1 v.2).toNat k) (fun x hx => by
      rcases List.mem_or_eq_of_mem_set hx with hx | rfl
      · exact h x hx
      · exact hk)
    exact ⟨this.1.trans (by simp), this.2⟩
def nuV (a b c : Int) (Os : List (List (Int × Int))) : Nat → List Int
  | 0 => List.replicate (a * c).toNat 0
  | k + 1 => match Os[k]? with
    | some o => seO a b c k (nuV a b c Os k) o
    | none => nuV a b c Os k
theorem nuV_succ {a b c : Int} {Os : List (List (Int × Int))} {k : Nat} {o : List (Int × Int)} (h : Os[k]? = some o) : nuV a b c Os (k + 1) = seO a b c k (nuV a b c Os k) o := by rw [nuV, h]
theorem nuV_prop (a b c : Int) (Os : List (List (Int × Int))) (B : Int) (hB : 0 < B) : ∀ k : Nat, (k : Int) ≤ B → (nuV a b c Os k).length = (a * c).toNat ∧ ∀ x ∈ nuV a b c Os k, 0 ≤ x ∧ x < B
  | 0, _ => ⟨by simp [nuV], fun x hx => by
    rw [nuV] at hx
    rw [(List.mem_replicate.1 hx).2]
    omega⟩
  | k + 1, hk => by
    obtain ⟨h1, h2⟩ := nuV_prop a b c Os B hB k (by omega)
    unfold nuV
    split
    · rename_i o _
      have := seO_prop (a := a) (b := b) (c := c) (k := (k : Int)) (B := B) ⟨by omega, by omega⟩ o _ h2
      exact ⟨this.1.trans h1, this.2⟩
    · exact ⟨h1, h2⟩
theorem s_numbers (a b c : Int) (G : List G6) (h : okL a b c = true) (hG : 0 < G.length ∧ G.length ≤ 800) (hs : ∀ g ∈ G, smallG g) : Sp Tryz.prog 130 [aL a b c, .v (vgs G)] (.sli 0) [.row 0 2 (is (nuV a b c (osV a b c G (cl a c).length) (osV a b c G (cl a c).length).length))] := by
  obtain ⟨ha, hc, hb, hac⟩ := okL_spec.1 h
  have wo := s_orbits a b c G h hG hs
  have hpos := ac_pos ha.1 hc.1
  have hOs : ∀ o ∈ osV a b c G (cl a c).length, (∀ x ∈ o, inC a c x) ∧ o.length ≤ 800 := fun o ho => by
    obtain ⟨v, rfl⟩ := osV_mem ho
    obtain ⟨h1, h2, _⟩ := orV_in (b := b) ha.1 hc.1 v G
    exact ⟨h1, by omega⟩
  have hcl : (cl a c).length ≤ 64 := by
    rw [cellsL_len]
    have e : ((a.toNat * c.toNat : Nat) : Int) = a * c := by
      rw [Int.natCast_mul, Int.toNat_of_nonneg (by omega), Int.toNat_of_nonneg (by omega)]
    omega
  have hlen := osV_len a b c G (cl a c).length
  have hN := fun k hk => (nuV_prop a b c (osV a b c G (cl a c).length) 1000 (by decide) k hk).1
  generalize osV a b c G (cl a c).length = Os at *
  have e1 : IntKind.i64.wrap (a * c) = a * c := w64 (by omega) (by omega)
  refine sp_of (m := no) mixed Tryz.func130 k130 ?_
  simp -dsimp [q, e1]
  refine ⟨⟨by omega, by omega, by omega⟩, ?_⟩
  refine call_of (wo) rfl (by simp) ?_
  try simp -dsimp
  try (first | exact fp_one (by decide) | refine fp_and (by decide) ?_)
  refine awp_it (false :: false :: true :: false :: false :: true :: true :: true :: []) (fun k : Nat => [(7, vi k)]) (fun k => [(1, .row 0 2 (is (nuV a b c Os k)))]) (fun k => k ≤ Os.length) (fun k => Os.length - k) 0 ?_
  intro s0 e
  simp -dsimp at e
  subst e
  refine ⟨?_, ?_⟩
  · simp [nuV]
  intro k hk
  simp -dsimp
  refine ⟨fun h1 => ?_, fun h1 => ?_⟩
  · obtain ⟨o, ho⟩ : ∃ o, Os[k]? = some o := ⟨_, List.getElem?_eq_getElem h1⟩
    obtain ⟨hoc, hol⟩ := hOs o (List.mem_of_getElem? ho)
    have hnu := nuV_succ (a := a) (b := b) (c := c) ho
    have hnl := hN k (by omega)
    refine awp_it (false :: false :: true :: false :: false :: true :: true :: true :: true :: []) (fun j : Nat => [(8, vi j)]) (fun j => [(1, .row 0 2 (is (seO a b c k (nuV a b c Os k) (o.take j))))]) (fun j => j ≤ o.length) (fun j => o.length - j) 0 ?_
    intro s0 e
    simp -dsimp at e
    subst e
    refine ⟨?_, ?_⟩
    · simp [seO]
    intro j hj
    simp -dsimp [ho]
    refine ⟨h1, fun h2 => ⟨h1, h2, fun x y hxy => ?_⟩, fun h2 => ?_⟩
    · obtain ⟨hx, hy⟩ := hoc _ (List.mem_of_getElem? hxy)
      simp only at hx hy
      have wn := s_snumber a b c x y ha hb hc (by omega) (by omega)
      have hr := num_range (a := a) (b := b) (c := c) (x := x) (y := y) (by omega) (by omega)
      have hse := seO_succ (a := a) (b := b) (c := c) (k := (k : Int)) (N := nuV a b c Os k) hxy
      have hsl := (seO_prop (a := a) (b := b) (c := c) (k := (k : Int)) (B := 100000) ⟨by omega, by omega⟩ (o.take j) (nuV a b c Os k) (nuV_prop a b c Os 100000 (by decide) k (by omega)).2).1
      rw [hnl] at hsl
      generalize num a b c x y = u at *
      generalize seO a b c k (nuV a b c Os k) (o.take j) = M at *
      refine call_of (wn) rfl (by simp) ?_
      try simp -dsimp
      try (first | exact fp_one (by decide) | refine fp_and (by decide) ?_)
      exact ⟨⟨hr.1, by omega⟩, by omega, by decide, j + 1, ⟨by rw [w64 (by omega) (by omega)]; simp, by rw [hse]⟩, by omega, by omega⟩
    · refine ⟨k + 1, ⟨by rw [w64 (by omega) (by omega)]; simp, ?_⟩, by omega, by omega⟩
      rw [hnu, List.take_of_length_le h2]
  · rw [show Os.length = k by omega]
end Go.Proofs.YtgkhakhkebjbpaaGreatEv
namespace Go.Proofs.YtgkhakhkebjbpaaGreatEv
open Go Go.Proofs
set_option maxRecDepth 10000
set_option maxHeartbeats 2000000
def u8s (l : List Int) : List V := l.map fun y => .int .u8 y
@[simp] theorem u8s_len (l : List Int) : (u8s l).length = l.length := by simp [u8s]
@[simp] theorem u8s_get (l : List Int) (n : Nat) (K : V → Prop) : fA ((u8s l)[n]?) K = ∀ a, l[n]? = some a → K (.int .u8 a) := by unfold u8s; exact fA_map
abbrev cdV (l : List Int) : V := .sl 0 (u8s l)
def okC (l : List Int) : Prop := l.length ≤ 4096 ∧ ∀ y ∈ l, 0 ≤ y ∧ y < 256
abbrev Sr := Nat × Int
abbrev srC (code : List Int) (s : Sr) : Ck := .box [.v (cdV code), vi s.1, vi s.2]
def okSr (s : Sr) : Prop := s.1 ≤ 4096 ∧ 0 ≤ s.2 ∧ s.2 < 2147483647
theorem tmod_in {x m : Int} (h : 0 ≤ x) (hm : 0 < m) : 0 ≤ x.tmod m ∧ x.tmod m < m := ⟨Int.tmod_nonneg m h, Int.tmod_lt_of_pos x hm⟩
theorem s_from (code : List Int) (hc : okC code) : ∃ s, okSr s ∧ SpG Tryz.prog 43 [.v (cdV code)] [] (.ptr 0 0) [srC code s] := by
  obtain ⟨h1, h2⟩ := hc
  let f : Nat → Int := fun n => Nat.rec 93001 (fun i s => (s * 73 + (code[i]?).getD 0).tmod 2147483647) n
  have f0 : f 0 = 93001 := rfl
  have fs : ∀ i y, code[i]? = some y → f (i + 1) = (f i * 73 + y).tmod 2147483647 := fun i y hy => by
    show (f i * 73 + (code[i]?).getD 0).tmod 2147483647 = _
    rw [hy]
    rfl
  have fr : ∀ i, i ≤ code.length → 0 ≤ f i ∧ f i < 2147483647 := by
    intro i
    induction i with
    | zero => intro _; rw [f0]; decide
    | succ i ih =>
      intro hi
      have hy : code[i]? = some (code[i]'(by omega)) := List.getElem?_eq_getElem (by omega)
      rw [fs i _ hy]
      have := ih (by omega)
      have := h2 _ (List.mem_of_getElem? hy)
      exact tmod_in (by omega) (by decide)
  clear_value f
  refine ⟨(0, f (min code.length 64)), ⟨by simp, fr _ (by omega)⟩, ?_⟩
  refine sg_of (m := no) mixed Tryz.func43 k43 ?_
  simp -dsimp [q]
  refine awp_it (true :: false :: false :: true :: true :: []) (fun i : Nat => [(4, vi i)]) (fun i => [(0, .box [.v (cdV code), vi 0, vi (f i)])]) (fun i => i ≤ code.length ∧ i ≤ 64) (fun i => code.length - i) 0 ?_
  intro s0 e
  simp -dsimp at e
  subst e
  refine ⟨?_, ?_⟩
  · simp [f0]
  rintro i ⟨hi, hi2⟩
  have hfr := fr i hi
  simp -dsimp
  refine ⟨fun h3 => ⟨fun h4 => ⟨h3, fun a ha => ?_⟩, fun h4 => ?_⟩, fun h3 => ?_⟩
  · have hya := h2 a (List.mem_of_getElem? ha)
    refine ⟨by decide, i + 1, ⟨by rw [w64 (by omega) (by omega)]; simp, ?_⟩, ⟨by omega, by omega⟩, by omega⟩
    rw [w64 (n := f i * 73) (by omega) (by omega), w64 (n := a) (by omega) (by omega), w64 (by omega) (by omega), fs i a ha]
  · rw [show min code.length 64 = i by omega]
  · rw [show min code.length 64 = i by omega]
theorem s_next (code : List Int) (hc : okC code) (s : Sr) (hs : okSr s) (n : Int) (hn : n ≤ 9223372036854775807) : ∃ v s', okSr s' ∧ (n ≤ 1 → v = 0) ∧ (1 < n → 0 ≤ v ∧ v < n) ∧ SpG Tryz.prog 53 [.ptr 0 0, vi n] [srC code s] (vi v) [srC code s'] := by
  obtain ⟨h1, h2⟩ := hc
  obtain ⟨s1, s2, s3⟩ := hs
  by_cases hn1 : n ≤ 1
  · refine ⟨0, s, ⟨s1, s2, s3⟩, fun _ => rfl, fun h => by omega, ?_⟩
    refine sg_of (m := no) mixed Tryz.func53 k53 ?_
    simp -dsimp [q, hn1]
  have e1 : IntKind.i64.wrap (IntKind.i64.wrap (s.2 * 48271) + 67) = s.2 * 48271 + 67 := by rw [w64 (n := s.2 * 48271) (by omega) (by omega), w64 (by omega) (by omega)]
  have hm := tmod_in (x := s.2 * 48271 + 67) (m := 2147483647) (by omega) (by decide)
  generalize hg : (s.2 * 48271 + 67).tmod 2147483647 = g at *
  have hd : 0 ≤ g.tdiv 37 ∧ g.tdiv 37 < 2147483647 := by
    rw [Int.tdiv_eq_ediv_of_nonneg hm.1]
    omega
  have e2 : IntKind.i64.wrap (g.tdiv 37) = g.tdiv 37 := w64 (by omega) (by omega)
  generalize hx : g.tdiv 37 = x at *
  by_cases ha : s.1 < code.length
  case neg =>
    refine ⟨x.tmod n, (s.1, g), ⟨s1, hm⟩, fun h => absurd h hn1, fun h => tmod_in hd.1 (by omega), ?_⟩
    refine sg_of (m := no) mixed Tryz.func53 k53 ?_
    have n0 : ¬ n = 0 := by omega
    have a2 : code.length ≤ s.1 := by omega
    simp -dsimp [q, hn1, e1, hg, hx, e2, ha, n0, a2]
  obtain ⟨y, hy⟩ : ∃ y, code[s.1]? = some y := ⟨_, List.getElem?_eq_getElem ha⟩
  have hyb := h2 y (List.mem_of_getElem? hy)
  refine ⟨(if n ≤ 256 ∧ ((s.1 : Int) + 1).tmod 2 = 0 then y else x + y).tmod n, (s.1 + 1, g), ⟨by simp only; omega, hm⟩, fun h => absurd h hn1, fun h => tmod_in (by split <;> omega) (by omega), ?_⟩
  refine sg_of (m := no) mixed Tryz.func53 k53 ?_
  have n0 : ¬ n = 0 := by omega
  have a2 : ¬ code.length ≤ s.1 := by omega
  have e3 : IntKind.i64.wrap ((s.1 : Int) + 1) = (s.1 : Int) + 1 := w64 (by omega) (by omega)
  have e4 : IntKind.i64.wrap (IntKind.i64.wrap x + IntKind.i64.wrap y) = x + y := by rw [w64 (n := x) (by omega) (by omega), w64 (n := y) (by omega) (by omega), w64 (by omega) (by omega)]
  have e5 : IntKind.i64.wrap ((s.1 : Int) + 1 - 1) = s.1 := by rw [w64 (by omega) (by omega)]; omega
  have e6 : IntKind.i64.wrap y = y := w64 (by omega) (by omega)
  have hg3 : (u8s code)[s.1]? = some (.int .u8 y) := by simp [u8s, hy]
  have hg2 : (u8s code)[((s.1 : Nat) : Int).toNat]? = some (.int .u8 y) := by rw [Int.toNat_natCast]; exact hg3
  simp -dsimp [q, hn1, e1, hg, hx, e2, ha, n0, a2, ↓hg2, ↓hg3, e3, e4, e5, e6]
  have e7 : IntKind.i64.wrap (x + y) = x + y := w64 (by omega) (by omega)
  rw [e7]
  refine ⟨fun h3 => ⟨fun h4 => ?_, fun h4 => ?_⟩, fun h3 => ?_⟩
  · have e8 : IntKind.i64.wrap (s.1 : Int) = s.1 := w64 (by omega) (by omega)
    rw [e8, if_pos ⟨h3, h4⟩]
    refine ⟨⟨by omega, by omega⟩, fun a ha' => ?_⟩
    rw [Int.toNat_natCast, hy] at ha'
    cases ha'
    rw [e6]
  · rw [if_neg (fun e => h4 e.2)]
  · rw [if_neg (fun e => by omega)]
open Classical in
noncomputable def nx (code : List Int) (s : Sr) (n : Int) : Int × Sr :=
  if h : okC code ∧ okSr s ∧ n ≤ 9223372036854775807 then ((s_next code h.1 s h.2.1 n h.2.2).choose, (s_next code h.1 s h.2.1 n h.2.2).choose_spec.choose) else (0, s)
theorem nx_spec {code : List Int} (hc : okC code) {s : Sr} (hs : okSr s) {n : Int} (hn : n ≤ 9223372036854775807) : okSr (nx code s n).2 ∧ (n ≤ 1 → (nx code s n).1 = 0) ∧ (1 < n → 0 ≤ (nx code s n).1 ∧ (nx code s n).1 < n) ∧ SpG Tryz.prog 53 [.ptr 0 0, vi n] [srC code s] (vi (nx code s n).1) [srC code (nx code s n).2] := by
  unfold nx
  rw [dif_pos ⟨hc, hs, hn⟩]
  exact (s_next code hc s hs n hn).choose_spec.choose_spec
theorem nx_ok {code : List Int} (hc : okC code) {s : Sr} (hs : okSr s) {n : Int} (hn : n ≤ 9223372036854775807) : okSr (nx code s n).2 := (nx_spec hc hs hn).1
theorem nx_lt {code : List Int} (hc : okC code) {s : Sr} (hs : okSr s) {n : Int} (hn : 1 ≤ n ∧ n ≤ 9223372036854775807) : 0 ≤ (nx code s n).1 ∧ (nx code s n).1 < n := by
  obtain ⟨_, h1, h2, _⟩ := nx_spec hc hs hn.2
  by_cases h : n ≤ 1
  · rw [h1 h]; omega
  · exact h2 (by omega)
theorem nx_nn {code : List Int} (hc : okC code) {s : Sr} (hs : okSr s) {n : Int} (hn : n ≤ 9223372036854775807) : 0 ≤ (nx code s n).1 := by
  obtain ⟨_, h1, h2, _⟩ := nx_spec hc hs hn
  by_cases h : n ≤ 1
  · rw [h1 h]; omega
  · exact (h2 (by omega)).1
theorem s_nx {code : List Int} (hc : okC code) {s : Sr} (hs : okSr s) {n : Int} (hn : n ≤ 9223372036854775807) : SpG Tryz.prog 53 [.ptr 0 0, vi n] [srC code s] (vi (nx code s n).1) [srC code (nx code s n).2] := (nx_spec hc hs hn).2.2.2
theorem s_pick (code : List Int) (hc : okC code) (s : Sr) (hs : okSr s) (l : List Int) (hl : 1 ≤ l.length ∧ l.length ≤ 1000) (t : Nat) : ∃ v s', okSr s' ∧ v ∈ l ∧ SpG Tryz.prog 66 [.ptr 0 0, .sli 1] [srC code s, .row 0 t (is l)] (vi v) [srC code s', .row 0 t (is l)] := by
  obtain ⟨i, s', hs', h0, h1, w⟩ := s_next code hc s hs l.length (by omega)
  have hi : 0 ≤ i ∧ i < l.length := by
    by_cases h : (l.length : Int) ≤ 1
    · rw [h0 h]; omega
    · exact h1 (by omega)
  obtain ⟨v, hv⟩ : ∃ v, l[i.toNat]? = some v := ⟨_, List.getElem?_eq_getElem (by omega)⟩
  refine ⟨v, s', hs', List.mem_of_getElem? hv, ?_⟩
  refine sg_of (m := fun f => f == 53) mixed Tryz.func66 k66 ?_
  simp -dsimp [q]
  refine callM_of rfl (w) (by simp) ?_
  try simp -dsimp
  try (first | exact fp_one (by decide) | refine fp_and (by decide) ?_)
  refine ⟨hi, by omega, fun a ha => ⟨rfl, by decide, ?_⟩⟩
  rw [hv] at ha
  cases ha
  rfl
end Go.Proofs.YtgkhakhkebjbpaaGreatEv
namespace Go.Proofs.YtgkhakhkebjbpaaGreatEv
open Go Go.Proofs
set_option maxRecDepth 10000
set_option maxHeartbeats 2000000
noncomputable def dmG (code : List Int) (f a b c : Int) (s : Sr) : G6 × Sr :=
  let i := nx code s (mtL f a b c).length
  let x := nx code i.2 9
  let y := nx code x.2 9
  ((((mtL f a b c)[i.1.toNat]?).getD (1, 0, 0, 1), x.1 - 4, y.1 - 4), y.2)
theorem mt_pos {f a b c : Int} (hf : 0 ≤ f ∧ f ≤ 1) (hc : 1 ≤ c) : 0 < (mtL f a b c).length := by
  have h1 : pmOk f (1, 0, 0, 1) = true := by
    have : f = 0 ∨ f = 1 := by omega
    rcases this with rfl | rfl <;> decide
  have h2 : keepL a b c (1, 0, 0, 1) = true := by
    rw [keep_spn hc]
    exact ⟨⟨1, 0, by simp, by simp⟩, ⟨0, 1, by simp, by simp⟩⟩
  exact List.length_pos_of_mem (a := (1, 0, 0, 1)) (List.mem_filter.2 ⟨(pmL_mem hf _ _ _ _).2 h1, h2⟩)
theorem s_drawM (code : List Int) (hc : okC code) (s : Sr) (hs : okSr s) (f a b c : Int) (hf : 0 ≤ f ∧ f ≤ 1) (hok : okL a b c = true) : okSr (dmG code f a b c s).2 ∧ ((dmG code f a b c s).1.1 ∈ mtL f a b c ∧ (dmG code f a b c s).1.2.1.natAbs ≤ 4 ∧ (dmG code f a b c s).1.2.2.natAbs ≤ 4) ∧
    SpG Tryz.prog 128 [.ptr 0 0, vi f, aL a b c] [srC code s] (aG6 (dmG code f a b c s).1) [srC code (dmG code f a b c s).2] := by
  obtain ⟨ha, hcc, hb, hac⟩ := okL_spec.1 hok
  have wcode := s_scode f a b c
  rw [if_pos ⟨hf.1, hf.2, hok⟩] at wcode
  have wst := s_stable f a b c hf hok
  have hM : (mtL f a b c).length ≤ 12 := Nat.le_trans (List.length_filter_le _ _) (pm_count f hf)
  have hpos := mt_pos (a := a) (b := b) hf hcc.1
  unfold dmG
  simp only
  generalize mtL f a b c = L at *
  have w1 := s_nx hc hs (n := (L.length : Int)) (by omega)
  have o1 := nx_ok hc hs (n := (L.length : Int)) (by omega)
  have l1 := nx_lt hc hs (n := (L.length : Int)) (by omega)
  generalize nx code s (L.length : Int) = x1 at *
  obtain ⟨i, s1⟩ := x1
  simp only at w1 o1 l1 ⊢
  have w2 := s_nx hc o1 (n := 9) (by decide)
  have o2 := nx_ok hc o1 (n := 9) (by decide)
  have l2 := nx_lt hc o1 (n := 9) (by decide)
  generalize nx code s1 9 = x2 at *
  obtain ⟨x, s2⟩ := x2
  simp only at w2 o2 l2 ⊢
  have w3 := s_nx hc o2 (n := 9) (by decide)
  have o3 := nx_ok hc o2 (n := 9) (by decide)
  have l3 := nx_lt hc o2 (n := 9) (by decide)
  generalize nx code s2 9 = x3 at *
  obtain ⟨y, s3⟩ := x3
  simp only at w3 o3 l3 ⊢
  obtain ⟨m, hm⟩ : ∃ m, L[i.toNat]? = some m := ⟨_, List.getElem?_eq_getElem (by omega)⟩
  rw [hm]
  refine ⟨o3, ⟨List.mem_of_getElem? hm, by omega, by omega⟩, ?_⟩
  simp only [Option.getD_some]
  refine sg_of (m := fun f => f == 53) mixed Tryz.func128 k128 ?_
  simp -dsimp [q]
  refine call_of (s_sunit) rfl (by simp) ?_
  try simp -dsimp
  try (first | exact fp_one (by decide) | refine fp_and (by decide) ?_)
  refine call_of (wcode) rfl (by simp) ?_
  try simp -dsimp
  try (first | exact fp_one (by decide) | refine fp_and (by decide) ?_)
  refine call_of (wst) rfl (by simp) ?_
  try simp -dsimp
  try (first | exact fp_one (by decide) | refine fp_and (by decide) ?_)
  refine callM_of rfl (w1) (by simp) ?_
  try simp -dsimp
  try (first | exact fp_one (by decide) | refine fp_and (by decide) ?_)
  refine ⟨l1, fun m1 m2 m3 m4 hm' => ?_⟩
  obtain rfl : m = (m1, m2, m3, m4) := Option.some.inj (hm.symm.trans hm')
  refine callM_of rfl (w2) (by simp) ?_
  try simp -dsimp
  try (first | exact fp_one (by decide) | refine fp_and (by decide) ?_)
  refine callM_of rfl (w3) (by simp) ?_
  try simp -dsimp
  try (first | exact fp_one (by decide) | refine fp_and (by decide) ?_)
  rw [w64 (by omega) (by omega), w64 (by omega) (by omega)]
  exact ⟨rfl, rfl⟩
noncomputable def dgL (code : List Int) (f a b c : Int) : Nat → List G6 → Sr → List G6 × Sr
  | 0, l, s => (l, s)
  | k + 1, l, s => dgL code f a b c k (l ++ [redG a b c (dmG code f a b c s).1]) (dmG code f a b c s).2
theorem mt_el {f a b c : Int} {g : G6} (ha : 1 ≤ a) (hc : 1 ≤ c) (hf : 0 ≤ f ∧ f ≤ 1) (h : g.1 ∈ mtL f a b c) : elG f a b c (redG a b c g) = true := by
  obtain ⟨h1, h2⟩ := List.mem_filter.1 h
  exact el_red ha hc ((pmL_mem hf _ _ _ _).1 h1) h2
theorem dgL_ok {code : List Int} (hc : okC code) {f a b c : Int} (hf : 0 ≤ f ∧ f ≤ 1) (hok : okL a b c = true) : ∀ (k : Nat) (l : List G6) (s : Sr), okSr s → (∀ g ∈ l, elG f a b c g = true) → okSr (dgL code f a b c k l s).2 ∧ (∀ g ∈ (dgL code f a b c k l s).1, elG f a b c g = true) ∧ (dgL code f a b c k l s).1.length = l.length + k
  | 0, l, s, h, hl => ⟨h, hl, rfl⟩
  | k + 1, l, s, h, hl => by
    obtain ⟨ha, hcc, _, _⟩ := okL_spec.1 hok
    obtain ⟨o1, ⟨o2, _⟩, _⟩ := s_drawM code hc s h f a b c hf hok
    have := dgL_ok hc hf hok k (l ++ [redG a b c (dmG code f a b c s).1]) _ o1 (fun g hg => by
      rcases List.mem_append.1 hg with hg | hg
      · exact hl g hg
      · rw [List.mem_singleton.1 hg]
        exact mt_el ha.1 hcc.1 hf o2)
    refine ⟨this.1, this.2.1, ?_⟩
    show (dgL code f a b c k _ _).1.length = _
    rw [this.2.2]
    simp
    omega
noncomputable def dcL (code : List Int) (n : Int) : Nat → List Int → Sr → List Int × Sr
  | 0, l, s => (l, s)
  | k + 1, l, s => dcL code n k (l ++ [(nx code s n).1]) (nx code s n).2
theorem dcL_ok {code : List Int} (hc : okC code) {n : Int} (hn : 1 ≤ n ∧ n ≤ 1000) : ∀ (k : Nat) (l : List Int) (s : Sr), okSr s → (∀ x ∈ l, 0 ≤ x ∧ x < n) → okSr (dcL code n k l s).2 ∧ (∀ x ∈ (dcL code n k l s).1, 0 ≤ x ∧ x < n) ∧ (dcL code n k l s).1.length = l.length + k
  | 0, l, s, h, hl => ⟨h, hl, rfl⟩
  | k + 1, l, s, h, hl => by
    have o1 := nx_ok hc h (n := n) (by omega)
    have l1 := nx_lt hc h (n := n) (by omega)
    have := dcL_ok hc hn k (l ++ [(nx code s n).1]) _ o1 (fun x hx => by
      rcases List.mem_append.1 hx with hx | hx
      · exact hl x hx
      · rw [List.mem_singleton.1 hx]; exact l1)
    refine ⟨this.1, this.2.1, ?_⟩
    show (dcL code n k _ _).1.length = _
    rw [this.2.2]
    simp
    omega
theorem el_small {f a b c : Int} (hf : 0 ≤ f ∧ f ≤ 1) (hok : okL a b c = true) {g : G6} (h : elG f a b c g = true) : smallG g := by
  obtain ⟨ha, hcc, _, _⟩ := okL_spec.1 hok
  obtain ⟨⟨⟨h1, h2⟩, h3, h4⟩, ⟨h5, h6⟩, h7, h8⟩ := elG_spec hf h
  unfold smallG
  omega
theorem s_drawOn (code : List Int) (hc : okC code) (s : Sr) (hs : okSr s) (f a b c : Int) (hf : 0 ≤ f ∧ f ≤ 1) (hok : okL a b c = true) : ∃ (l : List Int) (s' : Sr), okSr s' ∧ okP f a b c l = true ∧ (∀ x ∈ l, x ≤ 4) ∧
    SpG Tryz.prog 86 [.ptr 0 0, vi f, aL a b c] [srC code s] (.ag [vi f, vi a, vi b, vi c, .sli 1]) [srC code s', .row 0 2 (is l)] := by
  obtain ⟨ha, hcc, hb, hac⟩ := okL_spec.1 hok
  have hpos := ac_pos ha.1 hcc.1
  have hcl : ((cl a c).length : Int) = a * c := by
    rw [cellsL_len, Int.natCast_mul, Int.toNat_of_nonneg (by omega), Int.toNat_of_nonneg (by omega)]
  have wcode := s_scode f a b c
  rw [if_pos ⟨hf.1, hf.2, hok⟩] at wcode
  have w1 := s_nx hc hs (n := 4) (by decide)
  have o1 := nx_ok hc hs (n := 4) (by decide)
  have l1 := nx_lt hc hs (n := 4) (by decide)
  generalize nx code s 4 = x1 at *
  obtain ⟨v1, s1⟩ := x1
  simp only at w1 o1 l1
  by_cases hv : 0 < v1
  · have w2 := s_nx hc o1 (n := 2) (by decide)
    have o2 := nx_ok hc o1 (n := 2) (by decide)
    have l2 := nx_lt hc o1 (n := 2) (by decide)
    generalize nx code s1 2 = x2 at *
    obtain ⟨v2, s2⟩ := x2
    simp only at w2 o2 l2
    obtain ⟨d1, d2, d3⟩ := dgL_ok hc hf hok (1 + v2).toNat [] s2 o2 (by simp)
    generalize hL : dgL code f a b c (1 + v2).toNat [] s2 = RL at *
    obtain ⟨L, s22⟩ := RL
    simp only at d1 d2 d3
    have hLl : L.length ≤ 2 := by simp at d3; omega
    have wcl := s_clos f a b c L hf hok d2 (by omega)
    have hgd := clos_gd hf ha.1 hcc.1 d2
    have hG : ∀ g ∈ srtL (closL a b c L), elG f a b c g = true := fun g hg => hgd.sub g (srtL_mem.1 hg)
    have hGl := hgd.len hf hok
    have hGp : 0 < (closL a b c L).length := List.length_pos_of_mem hgd.un
    generalize closL a b c L = G at *
    have hGl2 := srtL_len G
    have wn := s_numbers a b c (srtL G) hok ⟨by omega, by omega⟩ (fun g hg => el_small hf hok (hG g hg))
    generalize srtL G = G at *
    have hN := nuV_prop a b c (osV a b c G (cl a c).length) (a * c) (by omega) (osV a b c G (cl a c).length).length (by have := osV_len a b c G (cl a c).length; omega)
    generalize nuV a b c (osV a b c G (cl a c).length) (osV a b c G (cl a c).length).length = N at *
    have w3 := s_nx hc d1 (n := 3) (by decide)
    have o3 := nx_ok hc d1 (n := 3) (by decide)
    have l3 := nx_lt hc d1 (n := 3) (by decide)
    generalize nx code s22 3 = x3 at *
    obtain ⟨v3, s3⟩ := x3
    simp only at w3 o3 l3
    obtain ⟨c1, c2, c3⟩ := dcL_ok hc (n := 2 + v3) (by omega) N.length [] s3 o3 (by simp)
    generalize hcols : dcL code (2 + v3) N.length [] s3 = R at *
    obtain ⟨cols, s4⟩ := R
    simp only at c1 c2 c3
    have e2 : IntKind.i64.wrap (2 + v3) = 2 + v3 := w64 (by omega) (by omega)
    have e3 : IntKind.i64.wrap (1 + v2) = 1 + v2 := w64 (by omega) (by omega)
    have hcolp : okP f a b c (N.map fun i => (cols[i.toNat]?).getD 0) = true ∧ ∀ x ∈ (N.map fun i => (cols[i.toNat]?).getD 0), x ≤ 4 := by
      have hx : ∀ x ∈ (N.map fun i => (cols[i.toNat]?).getD 0), 0 ≤ x ∧ x ≤ 4 := fun x hx => by
        obtain ⟨i, hi, rfl⟩ := List.mem_map.1 hx
        obtain ⟨q1, q2⟩ := hN.2 i hi
        have hlt : i.toNat < cols.length := by rw [show cols.length = N.length by simpa using c3, hN.1]; omega
        rw [List.getElem?_eq_getElem hlt, Option.getD_some]
        have := c2 _ (List.getElem_mem hlt)
        omega
      refine ⟨okP_spec.2 ⟨hf, hok, by rw [List.length_map, hN.1]; omega, fun x h => by have := hx x h; omega⟩, fun x h => (hx x h).2⟩
    refine ⟨N.map fun i => (cols[i.toNat]?).getD 0, s4, c1, hcolp.1, hcolp.2, ?_⟩
    refine sg_of (m := fun f => f == 53 || f == 128) mixed Tryz.func86 k86 ?_
    simp -dsimp [q]
    refine call_of (wcode) rfl (by simp) ?_
    try simp -dsimp
    try (first | exact fp_one (by decide) | refine fp_and (by decide) ?_)
    refine call_of (s_sun) rfl (by simp) ?_
    try simp -dsimp
    try (first | exact fp_one (by decide) | refine fp_and (by decide) ?_)
    refine callM_of rfl (w1) (by simp) ?_
    try simp -dsimp
    try (first | exact fp_one (by decide) | refine fp_and (by decide) ?_)
    refine ⟨fun _ => ?_, fun h => absurd hv (by omega)⟩
    refine callM_of rfl (w2) (by simp) ?_
    try simp -dsimp
    try (first | exact fp_one (by decide) | refine fp_and (by decide) ?_)
    rw [e3]
    have e4 : (((1 + v2).toNat : Nat) : Int) = 1 + v2 := by omega
    refine awp_it (true :: true :: false :: false :: false :: true :: true :: true :: false :: true :: true :: []) (fun x : Nat × List G6 × Sr => [(10, vi x.1)]) (fun x => [(0, srC code x.2.2), (4, .row 6 47 (gs x.2.1))]) (fun x => x.1 ≤ 2 ∧ x.1 + x.2.1.length ≤ 2 ∧ okSr x.2.2 ∧ (∀ g ∈ x.2.1, elG f a b c g = true) ∧ dgL code f a b c x.1 x.2.1 x.2.2 = (L, s22)) (fun x => x.1) ((1 + v2).toNat, [], s2) ?_
    intro s0 e
    simp -dsimp at e
    subst e
    refine ⟨?_, ?_⟩
    · simp -dsimp [e4, o2, hL]
      omega
    rintro ⟨k, M, t⟩ ⟨g1, g2, g3, g5, g4⟩
    simp only at g1 g2 g3 g4 g5
    simp -dsimp [-Prod.forall, -Prod.exists]
    refine ⟨fun hk => ?_, fun hk => ?_⟩
    · obtain ⟨k', rfl⟩ : ∃ k', k = k' + 1 := ⟨k - 1, by omega⟩
      rw [dgL] at g4
      obtain ⟨ow, ⟨hmt, hm1, hm2⟩, wd⟩ := s_drawM code hc t g3 f a b c hf hok
      have hel := mt_el ha.1 hcc.1 hf hmt
      have wr := s_sgred a b c (dmG code f a b c t).1 ha hb hcc (by omega) (by omega)
      generalize redG a b c (dmG code f a b c t).1 = r at *
      generalize dmG code f a b c t = D at *
      obtain ⟨gd, td⟩ := D
      simp only at ow wd wr g4
      refine callM_of rfl (wd) (by simp) ?_
      try simp -dsimp
      try (first | exact fp_one (by decide) | refine fp_and (by decide) ?_)
      refine call_of (wr) rfl (by simp) ?_
      try simp -dsimp
      try (first | exact fp_one (by decide) | refine fp_and (by decide) ?_)
      refine ⟨⟨by omega, by omega⟩, by decide, k', _, td.1, td.2, ⟨w64 (by omega) (by omega), ⟨rfl, rfl⟩, rfl⟩, ⟨by omega, by simp; omega, ow, fun p1 p2 p3 p4 p5 p6 hp => ?_, g4⟩, by omega⟩
      rcases List.mem_append.1 hp with hp | hp
      · exact g5 _ hp
      · rw [List.mem_singleton.1 hp]
        exact hel
    · obtain rfl : k = 0 := by omega
      rw [dgL] at g4
      cases g4
      refine call_of (wcl) rfl (by simp) ?_
      try simp -dsimp
      try (first | exact fp_one (by decide) | refine fp_and (by decide) ?_)
      refine call_of (wn) rfl (by simp) ?_
      try simp -dsimp
      try (first | exact fp_one (by decide) | refine fp_and (by decide) ?_)
      refine callM_of rfl (w3) (by simp) ?_
      try simp -dsimp
      try (first | exact fp_one (by decide) | refine fp_and (by decide) ?_)
      rw [e2]
      refine awp_it (true :: false :: false :: false :: false :: false :: true :: true :: false :: false :: false :: true :: true :: true :: true :: []) (fun x : Nat × List Int × Sr => [(14, vi x.1)]) (fun x => [(0, srC code x.2.2), (4, .row 0 2 (is x.2.1))]) (fun x => x.1 ≤ N.length ∧ x.2.1.length = x.1 ∧ okSr x.2.2 ∧ dcL code (2 + v3) (N.length - x.1) x.2.1 x.2.2 = (cols, s4)) (fun x => N.length - x.1) (0, [], s3) ?_
      intro s0 e
      simp -dsimp at e
      subst e
      refine ⟨?_, ?_⟩
      · simp -dsimp [o3, hcols]
      rintro ⟨j, K, t⟩ ⟨g1, g2, g3, g4⟩
      simp only at g1 g2 g3 g4
      simp -dsimp [-Prod.forall, -Prod.exists]
      refine ⟨fun hj => ?_, fun hj => ?_⟩
      · obtain ⟨m, hm⟩ : ∃ m, N.length - j = m + 1 := ⟨N.length - j - 1, by omega⟩
        rw [hm, dcL] at g4
        have wx := s_nx hc g3 (n := 2 + v3) (by omega)
        have ox := nx_ok hc g3 (n := 2 + v3) (by omega)
        generalize nx code t (2 + v3) = xx at *
        obtain ⟨vx, tx⟩ := xx
        simp only at wx ox g4
        refine callM_of rfl (wx) (by simp) ?_
        try simp -dsimp
        try (first | exact fp_one (by decide) | refine fp_and (by decide) ?_)
        refine ⟨⟨by omega, by omega⟩, j + 1, _, tx.1, tx.2, ⟨by rw [w64 (by omega) (by omega)]; simp, ⟨rfl, rfl⟩, rfl⟩, ⟨by omega, by simp; omega, ox, ?_⟩, by omega⟩
        rw [show N.length - (j + 1) = m by omega]
        exact g4
      · rw [show N.length - j = 0 by omega, dcL] at g4
        cases g4
        have hjl : cols.length = N.length := by simpa using c3
        refine awp_it (false :: false :: false :: false :: false :: false :: true :: true :: false :: false :: false :: true :: true :: false :: false :: true :: []) (fun i : Nat => [(15, vi i)]) (fun i => [(5, .row 0 2 (is ((N.take i).map fun x => (cols[x.toNat]?).getD 0)))]) (fun i => i ≤ N.length) (fun i => N.length - i) 0 ?_
        intro s0 e
        simp -dsimp at e
        subst e
        refine ⟨?_, ?_⟩
        · simp
        intro i hi
        simp -dsimp
        refine ⟨fun h5 => ⟨h5, fun x hx => ?_⟩, fun h5 => ?_⟩
        · obtain ⟨q1, q2⟩ := hN.2 x (List.mem_of_getElem? hx)
          refine ⟨⟨q1, by omega⟩, by omega, fun y hy => ⟨⟨by omega, by omega⟩, by decide, i + 1, ⟨by rw [w64 (by omega) (by omega)]; simp, ?_⟩, by omega, by omega⟩⟩
          rw [List.take_add_one, List.getElem?_map, hx, Option.map_some, hy]
          rfl
        · rw [List.take_of_length_le (by rw [List.length_map]; omega)]
  -- no group but the unit
  have hG : ∀ g ∈ [unG], elG f a b c g = true := fun g hg => by rw [List.mem_singleton.1 hg]; exact el_un hf ha.1 hcc.1
  have wn := s_numbers a b c [unG] hok (by simp) (fun g hg => el_small hf hok (hG g hg))
  have hN := nuV_prop a b c (osV a b c [unG] (cl a c).length) (a * c) (by omega) (osV a b c [unG] (cl a c).length).length (by have := osV_len a b c [unG] (cl a c).length; omega)
  generalize nuV a b c (osV a b c [unG] (cl a c).length) (osV a b c [unG] (cl a c).length).length = N at *
  have w3 := s_nx hc o1 (n := 3) (by decide)
  have o3 := nx_ok hc o1 (n := 3) (by decide)
  have l3 := nx_lt hc o1 (n := 3) (by decide)
  generalize nx code s1 3 = x3 at *
  obtain ⟨v3, s3⟩ := x3
  simp only at w3 o3 l3
  obtain ⟨c1, c2, c3⟩ := dcL_ok hc (n := 2 + v3) (by omega) N.length [] s3 o3 (by simp)
  generalize hcols : dcL code (2 + v3) N.length [] s3 = R at *
  obtain ⟨cols, s4⟩ := R
  simp only at c1 c2 c3
  have e2 : IntKind.i64.wrap (2 + v3) = 2 + v3 := w64 (by omega) (by omega)
  have hcolp : okP f a b c (N.map fun i => (cols[i.toNat]?).getD 0) = true ∧ ∀ x ∈ (N.map fun i => (cols[i.toNat]?).getD 0), x ≤ 4 := by
    have hx : ∀ x ∈ (N.map fun i => (cols[i.toNat]?).getD 0), 0 ≤ x ∧ x ≤ 4 := fun x hx => by
      obtain ⟨i, hi, rfl⟩ := List.mem_map.1 hx
      obtain ⟨q1, q2⟩ := hN.2 i hi
      have hlt : i.toNat < cols.length := by rw [show cols.length = N.length by simpa using c3, hN.1]; omega
      rw [List.getElem?_eq_getElem hlt, Option.getD_some]
      have := c2 _ (List.getElem_mem hlt)
      omega
    refine ⟨okP_spec.2 ⟨hf, hok, by rw [List.length_map, hN.1]; omega, fun x h => by have := hx x h; omega⟩, fun x h => (hx x h).2⟩
  refine ⟨N.map fun i => (cols[i.toNat]?).getD 0, s4, c1, hcolp.1, hcolp.2, ?_⟩
  refine sg_of (m := fun f => f == 53 || f == 128) mixed Tryz.func86 k86 ?_
  simp -dsimp [q]
  refine call_of (wcode) rfl (by simp) ?_
  try simp -dsimp
  try (first | exact fp_one (by decide) | refine fp_and (by decide) ?_)
  refine call_of (s_sun) rfl (by simp) ?_
  try simp -dsimp
  try (first | exact fp_one (by decide) | refine fp_and (by decide) ?_)
  refine callM_of rfl (w1) (by simp) ?_
  try simp -dsimp
  try (first | exact fp_one (by decide) | refine fp_and (by decide) ?_)
  refine ⟨fun h => absurd h hv, fun _ => ?_⟩
  refine call_of (wn) rfl (by simp) ?_
  try simp -dsimp
  try (first | exact fp_one (by decide) | refine fp_and (by decide) ?_)
  refine callM_of rfl (w3) (by simp) ?_
  try simp -dsimp
  try (first | exact fp_one (by decide) | refine fp_and (by decide) ?_)
  rw [e2]
  refine awp_it (true :: false :: false :: false :: false :: false :: true :: true :: false :: false :: false :: true :: true :: true :: true :: []) (fun x : Nat × List Int × Sr => [(14, vi x.1)]) (fun x => [(0, srC code x.2.2), (4, .row 0 2 (is x.2.1))]) (fun x => x.1 ≤ N.length ∧ x.2.1.length = x.1 ∧ okSr x.2.2 ∧ dcL code (2 + v3) (N.length - x.1) x.2.1 x.2.2 = (cols, s4)) (fun x => N.length - x.1) (0, [], s3) ?_
  intro s0 e
  simp -dsimp at e
  subst e
  refine ⟨?_, ?_⟩
  · simp -dsimp [o3, hcols]
  rintro ⟨j, K, t⟩ ⟨g1, g2, g3, g4⟩
  simp only at g1 g2 g3 g4
  simp -dsimp [-Prod.forall, -Prod.exists]
  refine ⟨fun hj => ?_, fun hj => ?_⟩
  · obtain ⟨m, hm⟩ : ∃ m, N.length - j = m + 1 := ⟨N.length - j - 1, by omega⟩
    rw [hm, dcL] at g4
    have wx := s_nx hc g3 (n := 2 + v3) (by omega)
    have ox := nx_ok hc g3 (n := 2 + v3) (by omega)
    generalize nx code t (2 + v3) = xx at *
    obtain ⟨vx, tx⟩ := xx
    simp only at wx ox g4
    refine callM_of rfl (wx) (by simp) ?_
    try simp -dsimp
    try (first | exact fp_one (by decide) | refine fp_and (by decide) ?_)
    refine ⟨⟨by omega, by omega⟩, j + 1, _, tx.1, tx.2, ⟨by rw [w64 (by omega) (by omega)]; simp, ⟨rfl, rfl⟩, rfl⟩, ⟨by omega, by simp; omega, ox, ?_⟩, by omega⟩
    rw [show N.length - (j + 1) = m by omega]
    exact g4
  · rw [show N.length - j = 0 by omega, dcL] at g4
    cases g4
    have hjl : cols.length = N.length := by simpa using c3
    refine awp_it (false :: false :: false :: false :: false :: false :: true :: true :: false :: false :: false :: true :: true :: false :: false :: true :: []) (fun i : Nat => [(15, vi i)]) (fun i => [(5, .row 0 2 (is ((N.take i).map fun x => (cols[x.toNat]?).getD 0)))]) (fun i => i ≤ N.length) (fun i => N.length - i) 0 ?_
    intro s0 e
    simp -dsimp at e
    subst e
    refine ⟨?_, ?_⟩
    · simp
    intro i hi
    simp -dsimp
    refine ⟨fun h5 => ⟨h5, fun x hx => ?_⟩, fun h5 => ?_⟩
    · obtain ⟨q1, q2⟩ := hN.2 x (List.mem_of_getElem? hx)
      refine ⟨⟨q1, by omega⟩, by omega, fun y hy => ⟨⟨by omega, by omega⟩, by decide, i + 1, ⟨by rw [w64 (by omega) (by omega)]; simp, ?_⟩, by omega, by omega⟩⟩
      rw [List.take_add_one, List.getElem?_map, hx, Option.map_some, hy]
      rfl
    · rw [List.take_of_length_le (by rw [List.length_map]; omega)]
end Go.Proofs.YtgkhakhkebjbpaaGreatEv
namespace Go.Proofs.YtgkhakhkebjbpaaGreatEv
open Go Go.Proofs
set_option maxRecDepth 10000
set_option maxHeartbeats 2000000
theorem nx_all {code : List Int} (hc : okC code) {s : Sr} (hs : okSr s) {n : Int} (hn : 1 ≤ n ∧ n ≤ 9223372036854775807) : ∃ v s', okSr s' ∧ (0 ≤ v ∧ v < n) ∧ SpG Tryz.prog 53 [.ptr 0 0, vi n] [srC code s] (vi v) [srC code s'] := ⟨_, _, nx_ok hc hs hn.2, nx_lt hc hs hn, s_nx hc hs hn.2⟩
theorem s_vecD (code : List Int) (hc : okC code) (s : Sr) (hs : okSr s) : ∃ (x y : Int) (s' : Sr), okSr s' ∧ (x.natAbs ≤ 1001 ∧ y.natAbs ≤ 1001) ∧ SpG Tryz.prog 87 [.ptr 0 0] [srC code s] (aV x y) [srC code s'] := by
  obtain ⟨v1, s1, o1, l1, w1⟩ := nx_all hc hs (n := 40) (by decide)
  by_cases hv : v1 = 0
  · obtain ⟨x, s2, o2, hx, w2⟩ := s_pick code hc s1 o1 [-1000, 1000, 1001, 0] (by simp) 2
    obtain ⟨y, s3, o3, hy, w3⟩ := s_pick code hc s2 o2 [-1001, 1000, 0] (by simp) 2
    refine ⟨x, y, s3, o3, by simp at hx hy; omega, ?_⟩
    refine sg_of (m := fun f => f == 53 || f == 66) mixed Tryz.func87 k87 ?_
    simp -dsimp [q]
    refine callM_of rfl (w1) (by simp) ?_
    try simp -dsimp
    try (first | exact fp_one (by decide) | refine fp_and (by decide) ?_)
    refine ⟨fun _ => ?_, fun h => absurd hv h⟩
    refine callM_of rfl ((w2 : SpG Tryz.prog _ [.ptr 0 0, .sli 1] [srC code s1, .row 0 2 [.int .i64 (-1000), .int .i64 1000, .int .i64 1001, .int .i64 0]] (vi x) [srC code s2, .row 0 2 (is [-1000, 1000, 1001, 0])])) (by simp) ?_
    try simp -dsimp
    try (first | exact fp_one (by decide) | refine fp_and (by decide) ?_)
    refine callM_of rfl ((w3 : SpG Tryz.prog _ [.ptr 0 0, .sli 1] [srC code s2, .row 0 2 [.int .i64 (-1001), .int .i64 1000, .int .i64 0]] (vi y) [srC code s3, .row 0 2 (is [-1001, 1000, 0])])) (by simp) ?_
    try simp -dsimp
    try (first | exact fp_one (by decide) | refine fp_and (by decide) ?_)
  · obtain ⟨n, s2, o2, hn, w2⟩ := s_pick code hc s1 o1 [4, 9, 30] (by simp) 2
    have hn2 : 4 ≤ n ∧ n ≤ 30 := by simp at hn; omega
    obtain ⟨x, s3, o3, l3, w3⟩ := nx_all hc o2 (n := 2 * n + 1) (by omega)
    obtain ⟨y, s4, o4, l4, w4⟩ := nx_all hc o3 (n := 2 * n + 1) (by omega)
    have e1 : IntKind.i64.wrap (IntKind.i64.wrap (2 * n) + 1) = 2 * n + 1 := by rw [w64 (n := 2 * n) (by omega) (by omega), w64 (by omega) (by omega)]
    refine ⟨x - n, y - n, s4, o4, by omega, ?_⟩
    refine sg_of (m := fun f => f == 53 || f == 66) mixed Tryz.func87 k87 ?_
    simp -dsimp [q]
    refine callM_of rfl (w1) (by simp) ?_
    try simp -dsimp
    try (first | exact fp_one (by decide) | refine fp_and (by decide) ?_)
    refine ⟨fun h => absurd h hv, fun _ => ?_⟩
    refine callM_of rfl ((w2 : SpG Tryz.prog _ [.ptr 0 0, .sli 1] [srC code s1, .row 0 2 [.int .i64 4, .int .i64 9, .int .i64 30]] (vi n) [srC code s2, .row 0 2 (is [4, 9, 30])])) (by simp) ?_
    try simp -dsimp
    try (first | exact fp_one (by decide) | refine fp_and (by decide) ?_)
    rw [e1]
    refine callM_of rfl (w3) (by simp) ?_
    try simp -dsimp
    try (first | exact fp_one (by decide) | refine fp_and (by decide) ?_)
    rw [e1]
    refine callM_of rfl (w4) (by simp) ?_
    try simp -dsimp
    try (first | exact fp_one (by decide) | refine fp_and (by decide) ?_)
    exact ⟨w64 (by omega) (by omega), w64 (by omega) (by omega)⟩
theorem s_frD (code : List Int) (hc : okC code) (s : Sr) (hs : okSr s) : ∃ (f : Int) (s' : Sr), okSr s' ∧ (-1 ≤ f ∧ f ≤ 2) ∧ SpG Tryz.prog 124 [.ptr 0 0] [srC code s] (vi f) [srC code s'] := by
  obtain ⟨v1, s1, o1, l1, w1⟩ := nx_all hc hs (n := 40) (by decide)
  by_cases hv : v1 = 0
  · obtain ⟨x, s2, o2, hx, w2⟩ := s_pick code hc s1 o1 [-1, 2] (by simp) 2
    refine ⟨x, s2, o2, by simp at hx; omega, ?_⟩
    refine sg_of (m := fun f => f == 53 || f == 66) mixed Tryz.func124 k124 ?_
    simp -dsimp [q]
    refine callM_of rfl (w1) (by simp) ?_
    try simp -dsimp
    try (first | exact fp_one (by decide) | refine fp_and (by decide) ?_)
    refine ⟨fun _ => ?_, fun h => absurd hv h⟩
    refine callM_of rfl ((w2 : SpG Tryz.prog _ [.ptr 0 0, .sli 1] [srC code s1, .row 0 2 [.int .i64 (-1), .int .i64 2]] (vi x) [srC code s2, .row 0 2 (is [-1, 2])])) (by simp) ?_
    try simp -dsimp
    try (first | exact fp_one (by decide) | refine fp_and (by decide) ?_)
  · obtain ⟨x, s2, o2, l2, w2⟩ := nx_all hc o1 (n := 2) (by decide)
    refine ⟨x, s2, o2, by omega, ?_⟩
    refine sg_of (m := fun f => f == 53 || f == 66) mixed Tryz.func124 k124 ?_
    simp -dsimp [q]
    refine callM_of rfl (w1) (by simp) ?_
    try simp -dsimp
    try (first | exact fp_one (by decide) | refine fp_and (by decide) ?_)
    refine ⟨fun h => absurd h hv, fun _ => ?_⟩
    refine callM_of rfl (w2) (by simp) ?_
    try simp -dsimp
    try (first | exact fp_one (by decide) | refine fp_and (by decide) ?_)
def smL (a b c : Int) : Prop := a.natAbs ≤ 1000 ∧ b.natAbs ≤ 1000 ∧ c.natAbs ≤ 1000
theorem s_latD (code : List Int) (hc : okC code) (s : Sr) (hs : okSr s) : ∃ (a b c : Int) (s' : Sr), okSr s' ∧ smL a b c ∧ SpG Tryz.prog 125 [.ptr 0 0] [srC code s] (aL a b c) [srC code s'] := by
  obtain ⟨v1, s1, o1, l1, w1⟩ := nx_all hc hs (n := 6) (by decide)
  obtain ⟨v2, s2, o2, l2, w2⟩ := nx_all hc o1 (n := 6) (by decide)
  obtain ⟨v3, s3, o3, l3, w3⟩ := nx_all hc o2 (n := 1 + v1) (by omega)
  obtain ⟨v4, s4, o4, l4, w4⟩ := nx_all hc o3 (n := 60) (by decide)
  have e1 : IntKind.i64.wrap (1 + v1) = 1 + v1 := w64 (by omega) (by omega)
  have e2 : IntKind.i64.wrap (1 + v2) = 1 + v2 := w64 (by omega) (by omega)
  by_cases h0 : v4 = 0
  · obtain ⟨x, s5, o5, hx, w5⟩ := s_pick code hc s4 o4 [0, 64, 65, 8] (by simp) 2
    refine ⟨x, v3, 1 + v2, s5, o5, by unfold smL; simp at hx; omega, ?_⟩
    refine sg_of (m := fun f => f == 53 || f == 66) mixed Tryz.func125 k125 ?_
    simp -dsimp [q]
    refine callM_of rfl (w1) (by simp) ?_
    try simp -dsimp
    try (first | exact fp_one (by decide) | refine fp_and (by decide) ?_)
    refine callM_of rfl (w2) (by simp) ?_
    try simp -dsimp
    try (first | exact fp_one (by decide) | refine fp_and (by decide) ?_)
    rw [e1, e2]
    refine callM_of rfl (w3) (by simp) ?_
    try simp -dsimp
    try (first | exact fp_one (by decide) | refine fp_and (by decide) ?_)
    refine callM_of rfl (w4) (by simp) ?_
    try simp -dsimp
    try (first | exact fp_one (by decide) | refine fp_and (by decide) ?_)
    refine ⟨fun _ => ?_, fun h => absurd h0 h⟩
    refine callM_of rfl ((w5 : SpG Tryz.prog _ [.ptr 0 0, .sli 1] [srC code s4, .row 0 2 [.int .i64 0, .int .i64 64, .int .i64 65, .int .i64 8]] (vi x) [srC code s5, .row 0 2 (is [0, 64, 65, 8])])) (by simp) ?_
    try simp -dsimp
    try (first | exact fp_one (by decide) | refine fp_and (by decide) ?_)
  by_cases h1 : v4 = 1
  · obtain ⟨x, s5, o5, hx, w5⟩ := s_pick code hc s4 o4 [-1, 1 + v1, 1 + v1 - 1] (by simp) 2
    have e3 : IntKind.i64.wrap (1 + v1 - 1) = 1 + v1 - 1 := w64 (by omega) (by omega)
    refine ⟨1 + v1, x, 1 + v2, s5, o5, by unfold smL; simp at hx; omega, ?_⟩
    refine sg_of (m := fun f => f == 53 || f == 66) mixed Tryz.func125 k125 ?_
    simp -dsimp [q]
    refine callM_of rfl (w1) (by simp) ?_
    try simp -dsimp
    try (first | exact fp_one (by decide) | refine fp_and (by decide) ?_)
    refine callM_of rfl (w2) (by simp) ?_
    try simp -dsimp
    try (first | exact fp_one (by decide) | refine fp_and (by decide) ?_)
    rw [e1, e2]
    refine callM_of rfl (w3) (by simp) ?_
    try simp -dsimp
    try (first | exact fp_one (by decide) | refine fp_and (by decide) ?_)
    refine callM_of rfl (w4) (by simp) ?_
    try simp -dsimp
    try (first | exact fp_one (by decide) | refine fp_and (by decide) ?_)
    refine ⟨fun h => absurd h h0, fun _ => ⟨fun _ => ?_, fun h => absurd h1 h⟩⟩
    rw [e3]
    refine callM_of rfl ((w5 : SpG Tryz.prog _ [.ptr 0 0, .sli 1] [srC code s4, .row 0 2 [.int .i64 (-1), .int .i64 (1 + v1), .int .i64 (1 + v1 - 1)]] (vi x) [srC code s5, .row 0 2 (is [-1, 1 + v1, 1 + v1 - 1])])) (by simp) ?_
    try simp -dsimp
    try (first | exact fp_one (by decide) | refine fp_and (by decide) ?_)
  by_cases h2 : v4 = 2
  · obtain ⟨x, s5, o5, hx, w5⟩ := s_pick code hc s4 o4 [8, 9] (by simp) 2
    refine ⟨8, 3, x, s5, o5, by unfold smL; simp at hx; omega, ?_⟩
    refine sg_of (m := fun f => f == 53 || f == 66) mixed Tryz.func125 k125 ?_
    simp -dsimp [q]
    refine callM_of rfl (w1) (by simp) ?_
    try simp -dsimp
    try (first | exact fp_one (by decide) | refine fp_and (by decide) ?_)
    refine callM_of rfl (w2) (by simp) ?_
    try simp -dsimp
    try (first | exact fp_one (by decide) | refine fp_and (by decide) ?_)
    rw [e1, e2]
    refine callM_of rfl (w3) (by simp) ?_
    try simp -dsimp
    try (first | exact fp_one (by decide) | refine fp_and (by decide) ?_)
    refine callM_of rfl (w4) (by simp) ?_
    try simp -dsimp
    try (first | exact fp_one (by decide) | refine fp_and (by decide) ?_)
    refine ⟨fun h => absurd h h0, fun _ => ⟨fun h => absurd h h1, fun _ => ⟨fun _ => ?_, fun h => absurd h2 h⟩⟩⟩
    refine callM_of rfl ((w5 : SpG Tryz.prog _ [.ptr 0 0, .sli 1] [srC code s4, .row 0 2 [.int .i64 8, .int .i64 9]] (vi x) [srC code s5, .row 0 2 (is [8, 9])])) (by simp) ?_
    try simp -dsimp
    try (first | exact fp_one (by decide) | refine fp_and (by decide) ?_)
  · refine ⟨1 + v1, v3, 1 + v2, s4, o4, by unfold smL; omega, ?_⟩
    refine sg_of (m := fun f => f == 53 || f == 66) mixed Tryz.func125 k125 ?_
    simp -dsimp [q]
    refine callM_of rfl (w1) (by simp) ?_
    try simp -dsimp
    try (first | exact fp_one (by decide) | refine fp_and (by decide) ?_)
    refine callM_of rfl (w2) (by simp) ?_
    try simp -dsimp
    try (first | exact fp_one (by decide) | refine fp_and (by decide) ?_)
    rw [e1, e2]
    refine callM_of rfl (w3) (by simp) ?_
    try simp -dsimp
    try (first | exact fp_one (by decide) | refine fp_and (by decide) ?_)
    refine callM_of rfl (w4) (by simp) ?_
    try simp -dsimp
    try (first | exact fp_one (by decide) | refine fp_and (by decide) ?_)
    exact ⟨fun h => absurd h h0, fun _ => ⟨fun h => absurd h h1, fun _ h => absurd h h2⟩⟩
theorem s_flD (code : List Int) (hc : okC code) (s : Sr) (hs : okSr s) : ∃ (f a b c : Int) (s' : Sr), okSr s' ∧ (-1 ≤ f ∧ f ≤ 2) ∧ smL a b c ∧ SpG Tryz.prog 85 [.ptr 0 0] [srC code s] (.tu [vi f, aL a b c]) [srC code s'] := by
  obtain ⟨f, s1, o1, l1, w1⟩ := s_frD code hc s hs
  obtain ⟨v2, s2, o2, l2, w2⟩ := nx_all hc o1 (n := 5) (by decide)
  by_cases h0 : v2 = 0
  · obtain ⟨a, b, c, s3, o3, hsm, w3⟩ := s_latD code hc s2 o2
    refine ⟨f, a, b, c, s3, o3, l1, hsm, ?_⟩
    refine sg_of (m := fun f => f == 53 || f == 124 || f == 125) mixed Tryz.func85 k85 ?_
    simp -dsimp [q]
    refine callM_of rfl (w1) (by simp) ?_
    try simp -dsimp
    try (first | exact fp_one (by decide) | refine fp_and (by decide) ?_)
    refine callM_of rfl (w2) (by simp) ?_
    try simp -dsimp
    try (first | exact fp_one (by decide) | refine fp_and (by decide) ?_)
    refine ⟨fun _ => ?_, fun h => absurd h0 h⟩
    refine callM_of rfl (w3) (by simp) ?_
    try simp -dsimp
    try (first | exact fp_one (by decide) | refine fp_and (by decide) ?_)
  by_cases h1 : v2 = 1
  · obtain ⟨v3, s3, o3, l3, w3⟩ := nx_all hc o2 (n := 4) (by decide)
    obtain ⟨v4, s4, o4, l4, w4⟩ := nx_all hc o3 (n := 4) (by decide)
    refine ⟨f, 1 + v3, 0, 1 + v4, s4, o4, l1, by unfold smL; omega, ?_⟩
    refine sg_of (m := fun f => f == 53 || f == 124 || f == 125) mixed Tryz.func85 k85 ?_
    simp -dsimp [q]
    refine callM_of rfl (w1) (by simp) ?_
    try simp -dsimp
    try (first | exact fp_one (by decide) | refine fp_and (by decide) ?_)
    refine callM_of rfl (w2) (by simp) ?_
    try simp -dsimp
    try (first | exact fp_one (by decide) | refine fp_and (by decide) ?_)
    refine ⟨fun h => absurd h h0, fun _ => ⟨fun _ => ?_, fun h => absurd h1 h⟩⟩
    refine callM_of rfl (w3) (by simp) ?_
    try simp -dsimp
    try (first | exact fp_one (by decide) | refine fp_and (by decide) ?_)
    refine callM_of rfl (w4) (by simp) ?_
    try simp -dsimp
    try (first | exact fp_one (by decide) | refine fp_and (by decide) ?_)
    exact ⟨w64 (by omega) (by omega), w64 (by omega) (by omega)⟩
  by_cases h2 : v2 = 2
  · by_cases hf : f = 0
    · refine ⟨f, 2, 1, 1, s2, o2, l1, by unfold smL; omega, ?_⟩
      refine sg_of (m := fun f => f == 53 || f == 124 || f == 125) mixed Tryz.func85 k85 ?_
      simp -dsimp [q]
      refine callM_of rfl (w1) (by simp) ?_
      try simp -dsimp
      try (first | exact fp_one (by decide) | refine fp_and (by decide) ?_)
      refine callM_of rfl (w2) (by simp) ?_
      try simp -dsimp
      try (first | exact fp_one (by decide) | refine fp_and (by decide) ?_)
      exact ⟨fun h => absurd h h0, fun _ => ⟨fun h => absurd h h1, fun _ => ⟨fun _ => hf, fun h => absurd h2 h⟩⟩⟩
    · refine ⟨f, 3, 1, 1, s2, o2, l1, by unfold smL; omega, ?_⟩
      refine sg_of (m := fun f => f == 53 || f == 124 || f == 125) mixed Tryz.func85 k85 ?_
      simp -dsimp [q]
      refine callM_of rfl (w1) (by simp) ?_
      try simp -dsimp
      try (first | exact fp_one (by decide) | refine fp_and (by decide) ?_)
      refine callM_of rfl (w2) (by simp) ?_
      try simp -dsimp
      try (first | exact fp_one (by decide) | refine fp_and (by decide) ?_)
      exact ⟨fun h => absurd h h0, fun _ => ⟨fun h => absurd h h1, fun _ => ⟨fun _ h => absurd h hf, fun h => absurd h2 h⟩⟩⟩
  · obtain ⟨v3, s3, o3, l3, w3⟩ := nx_all hc o2 (n := 4) (by decide)
    refine ⟨f, 1 + v3, 0, 1 + v3, s3, o3, l1, by unfold smL; omega, ?_⟩
    refine sg_of (m := fun f => f == 53 || f == 124 || f == 125) mixed Tryz.func85 k85 ?_
    simp -dsimp [q]
    refine callM_of rfl (w1) (by simp) ?_
    try simp -dsimp
    try (first | exact fp_one (by decide) | refine fp_and (by decide) ?_)
    refine callM_of rfl (w2) (by simp) ?_
    try simp -dsimp
    try (first | exact fp_one (by decide) | refine fp_and (by decide) ?_)
    refine ⟨fun h => absurd h h0, fun _ => ⟨fun h => absurd h h1, fun _ => ⟨fun h => absurd h h2, fun _ => ?_⟩⟩⟩
    refine callM_of rfl (w3) (by simp) ?_
    try simp -dsimp
    try (first | exact fp_one (by decide) | refine fp_and (by decide) ?_)
    exact w64 (by omega) (by omega)
end Go.Proofs.YtgkhakhkebjbpaaGreatEv
namespace Go.Proofs.YtgkhakhkebjbpaaGreatEv
open Go Go.Proofs
set_option maxRecDepth 10000
set_option maxHeartbeats 2000000
abbrev dcC (code : List Int) (s : Sr) : Ck := .box [.v (cdV code), vi s.1, .v (.int .u64 s.2)]
theorem s_roll (code : List Int) (hc : okC code) (n : Int) : ∃ s : Sr, s.1 ≤ 4096 ∧ SpG Tryz.prog 40 [.v (cdV code), .v (.int .u64 n)] [] (.ptr 0 0) [dcC code s] := by
  obtain ⟨h1, h2⟩ := hc
  let f : Nat → Int := fun k => Nat.rec (IntKind.u64.wrap (IntKind.u64.wrap (n * 9311) + IntKind.u64.wrap code.length)) (fun i s => IntKind.u64.wrap (IntKind.u64.wrap (IntKind.u64.wrap (s * 1099511628211) + IntKind.u64.wrap ((code[i]?).getD 0)) + 5)) k
  have f0 : f 0 = IntKind.u64.wrap (IntKind.u64.wrap (n * 9311) + IntKind.u64.wrap code.length) := rfl
  have fs : ∀ i y, code[i]? = some y → f (i + 1) = IntKind.u64.wrap (IntKind.u64.wrap (IntKind.u64.wrap (f i * 1099511628211) + IntKind.u64.wrap y) + 5) := fun i y hy => by
    show IntKind.u64.wrap (IntKind.u64.wrap (IntKind.u64.wrap (f i * 1099511628211) + IntKind.u64.wrap ((code[i]?).getD 0)) + 5) = _
    rw [hy]
    rfl
  clear_value f
  refine ⟨(0, f code.length), by simp, ?_⟩
  refine sg_of (m := no) mixed Tryz.func40 k40 ?_
  simp -dsimp [q]
  refine awp_it (true :: false :: false :: false :: false :: true :: true :: []) (fun i : Nat => [(6, vi i)]) (fun i => [(0, .box [.v (cdV code), vi 0, .v (.int .u64 (f i))])]) (fun i => i ≤ code.length) (fun i => code.length - i) 0 ?_
  intro s0 e
  simp -dsimp at e
  subst e
  refine ⟨?_, ?_⟩
  · simp [f0]
  rintro i hi
  simp -dsimp
  refine ⟨fun h3 => ⟨h3, fun a ha => ⟨by decide, i + 1, ⟨by rw [w64 (by omega) (by omega)]; simp, ?_⟩, by omega, by omega⟩⟩, fun h3 => ?_⟩
  · rw [fs i a ha]
  · rw [show code.length = i by omega]
theorem and24 (a : Nat) : 0 ≤ IntKind.i64.wrap (IntKind.u64.wrap ((a &&& 16777215 % 2 ^ IntKind.u64.bits : Nat) : Int)) ∧ IntKind.i64.wrap (IntKind.u64.wrap ((a &&& 16777215 % 2 ^ IntKind.u64.bits : Nat) : Int)) ≤ 16777215 := by
  have h : (a &&& 16777215 % 2 ^ IntKind.u64.bits) ≤ 16777215 := Nat.le_trans Nat.and_le_right (by decide)
  generalize (a &&& 16777215 % 2 ^ IntKind.u64.bits) = x at *
  have e : IntKind.u64.wrap (x : Int) = x := Int.emod_eq_of_lt (by omega) (by show (x : Int) < 18446744073709551616; omega)
  rw [e, w64 (by omega) (by omega)]
  omega
theorem s_below (code : List Int) (hc : okC code) (s : Sr) (hs : s.1 ≤ 4096) (n : Int) (hn : 1 ≤ n ∧ n ≤ 9223372036854775807) : ∃ v s', s'.1 ≤ 4096 ∧ (0 ≤ v ∧ v < n) ∧ SpG Tryz.prog 41 [.ptr 0 0, vi n] [dcC code s] (vi v) [dcC code s'] := by
  obtain ⟨h1, h2⟩ := hc
  generalize hg : IntKind.u64.wrap (IntKind.u64.wrap (s.2 * 6364136223846793005) + 1442695040888963407) = g at *
  have hx := and24 (g.fdiv (2 ^ min 33 IntKind.u64.bits) % 2 ^ IntKind.u64.bits).toNat
  generalize hxx : IntKind.i64.wrap (IntKind.u64.wrap (((g.fdiv (2 ^ min 33 IntKind.u64.bits) % 2 ^ IntKind.u64.bits).toNat &&& 16777215 % 2 ^ IntKind.u64.bits : Nat) : Int)) = x at *
  have n0 : ¬ n = 0 := by omega
  by_cases ha : s.1 < code.length
  case neg =>
    have a2 : code.length ≤ s.1 := by omega
    refine ⟨x.tmod n, (s.1, g), hs, tmod_in hx.1 (by omega), ?_⟩
    refine sg_of (m := no) mixed Tryz.func41 k41 ?_
    simp -dsimp [q, hg, ha, a2, n0, hxx]
    try rw [hxx]
  obtain ⟨y, hy⟩ : ∃ y, code[s.1]? = some y := ⟨_, List.getElem?_eq_getElem ha⟩
  have hyb := h2 y (List.mem_of_getElem? hy)
  have a2 : ¬ code.length ≤ s.1 := by omega
  have hg3 : (u8s code)[s.1]? = some (.int .u8 y) := by simp [u8s, hy]
  have hg2 : (u8s code)[((s.1 : Nat) : Int).toNat]? = some (.int .u8 y) := by rw [Int.toNat_natCast]; exact hg3
  have e3 : IntKind.i64.wrap ((s.1 : Int) + 1) = (s.1 : Int) + 1 := w64 (by omega) (by omega)
  have e6 : IntKind.i64.wrap y = y := w64 (by omega) (by omega)
  have e7 : IntKind.i64.wrap (x + y) = x + y := w64 (by omega) (by omega)
  refine ⟨(x + y).tmod n, (s.1 + 1, g), by simp only; omega, tmod_in (by omega) (by omega), ?_⟩
  refine sg_of (m := no) mixed Tryz.func41 k41 ?_
  simp -dsimp [q, hg, ha, a2, n0, hxx, ↓hg2, ↓hg3, e3, e6, e7]
  try rw [hxx, e7]
end Go.Proofs.YtgkhakhkebjbpaaGreatEv
namespace Go.Proofs.YtgkhakhkebjbpaaGreatEv
open Go Go.Proofs
set_option maxRecDepth 10000
set_option maxHeartbeats 2000000
abbrev pD (f a b c : Int) (j : Nat) : A := .ag [vi f, vi a, vi b, vi c, .sli j]
theorem s_drawAny (code : List Int) (hc : okC code) (s : Sr) (hs : okSr s) (f a b c : Int) : ∃ (l : List Int) (s' : Sr), okSr s' ∧ l.length ≤ 64 ∧ SpG Tryz.prog 86 [.ptr 0 0, vi f, aL a b c] [srC code s] (pD f a b c 1) [srC code s', .row 0 2 (is l)] := by
  by_cases h : (0 ≤ f ∧ f ≤ 1) ∧ okL a b c = true
  · obtain ⟨l, s', h1, h2, _, h3⟩ := s_drawOn code hc s hs f a b c h.1 h.2
    obtain ⟨_, k2, k3, _⟩ := okP_spec.1 h2
    obtain ⟨_, _, _, k4⟩ := okL_spec.1 k2
    exact ⟨l, s', h1, by omega, h3⟩
  · have w := s_scode f a b c
    rw [if_neg (fun e => h ⟨⟨e.1, e.2.1⟩, e.2.2⟩)] at w
    refine ⟨[], s, hs, by simp, ?_⟩
    refine sg_of (m := fun f => f == 53 || f == 128) mixed Tryz.func86 k86 ?_
    simp -dsimp [q]
    refine call_of (w) rfl (by simp) ?_
    try simp -dsimp
    try (first | exact fp_one (by decide) | refine fp_and (by decide) ?_)
theorem s_patD (code : List Int) (hc : okC code) (s : Sr) (hs : okSr s) : ∃ (f a b c : Int) (l : List Int) (s' : Sr), okSr s' ∧ l.length ≤ 65 ∧ SpG Tryz.prog 44 [.ptr 0 0] [srC code s] (pD f a b c 1) [srC code s', .row 0 2 (is l)] := by
  obtain ⟨f, a, b, c, s1, o1, l1, hsm, w1⟩ := s_flD code hc s hs
  obtain ⟨l, s2, o2, hl, w2⟩ := s_drawAny code hc s1 o1 f a b c
  obtain ⟨v3, s3, o3, l3, w3⟩ := nx_all hc o2 (n := 60) (by decide)
  by_cases h0 : v3 = 0
  · refine ⟨f, a, b, c, l ++ [0], s3, o3, by simp; omega, ?_⟩
    refine sg_of (m := fun f => f == 53 || f == 66 || f == 85 || f == 86) mixed Tryz.func44 k44 ?_
    simp -dsimp [q]
    refine callM_of rfl (w1) (by simp) ?_
    try simp -dsimp
    try (first | exact fp_one (by decide) | refine fp_and (by decide) ?_)
    refine callM_of rfl (w2) (by simp) ?_
    try simp -dsimp
    try (first | exact fp_one (by decide) | refine fp_and (by decide) ?_)
    refine callM_of rfl (w3) (by simp) ?_
    try simp -dsimp
    try (first | exact fp_one (by decide) | refine fp_and (by decide) ?_)
    refine ⟨fun _ => ?_, fun h => absurd h0 h⟩
    exact ⟨by omega, by omega⟩
  by_cases h1 : v3 = 1 ∧ 0 < l.length
  · obtain ⟨x, s4, o4, hx, w4⟩ := s_pick code hc s3 o3 [-1, 9, 10] (by simp) 2
    refine ⟨f, a, b, c, l.set 0 x, s4, o4, by simp; omega, ?_⟩
    refine sg_of (m := fun f => f == 53 || f == 66 || f == 85 || f == 86) mixed Tryz.func44 k44 ?_
    simp -dsimp [q]
    refine callM_of rfl (w1) (by simp) ?_
    try simp -dsimp
    try (first | exact fp_one (by decide) | refine fp_and (by decide) ?_)
    refine callM_of rfl (w2) (by simp) ?_
    try simp -dsimp
    try (first | exact fp_one (by decide) | refine fp_and (by decide) ?_)
    refine callM_of rfl (w3) (by simp) ?_
    try simp -dsimp
    try (first | exact fp_one (by decide) | refine fp_and (by decide) ?_)
    refine ⟨fun h => absurd h h0, fun _ => ⟨fun _ => ⟨fun _ => ?_, fun h => absurd h1.2 (by rw [h]; simp)⟩, fun h => absurd h1.1 h⟩⟩
    refine callM_of rfl ((w4 : SpG Tryz.prog _ [.ptr 0 0, .sli 1] [srC code s3, .row 0 2 [.int .i64 (-1), .int .i64 9, .int .i64 10]] (vi x) [srC code s4, .row 0 2 (is [-1, 9, 10])])) (by simp) ?_
    try simp -dsimp
    try (first | exact fp_one (by decide) | refine fp_and (by decide) ?_)
    exact ⟨h1.2, by decide⟩
  · refine ⟨f, a, b, c, l, s3, o3, by omega, ?_⟩
    refine sg_of (m := fun f => f == 53 || f == 66 || f == 85 || f == 86) mixed Tryz.func44 k44 ?_
    simp -dsimp [q]
    refine callM_of rfl (w1) (by simp) ?_
    try simp -dsimp
    try (first | exact fp_one (by decide) | refine fp_and (by decide) ?_)
    refine callM_of rfl (w2) (by simp) ?_
    try simp -dsimp
    try (first | exact fp_one (by decide) | refine fp_and (by decide) ?_)
    refine callM_of rfl (w3) (by simp) ?_
    try simp -dsimp
    try (first | exact fp_one (by decide) | refine fp_and (by decide) ?_)
    refine ⟨fun h => absurd h h0, fun _ => ?_⟩
    exact fun e1 e2 => absurd ⟨e1, e2⟩ h1
noncomputable def shL (code : List Int) : Nat → List (Int × Int) → Sr → List (Int × Int) × Sr
  | 0, l, s => (l, s)
  | k + 1, l, s => if (nx code s 3).1 = 0 then shL code k (l ++ [((nx code (nx code s 3).2 3).1 - 1, (nx code (nx code (nx code s 3).2 3).2 3).1 - 1)]) (nx code (nx code (nx code s 3).2 3).2 3).2 else shL code k (l ++ [(0, 0)]) (nx code s 3).2
theorem shL_ok {code : List Int} (hc : okC code) : ∀ (k : Nat) (l : List (Int × Int)) (s : Sr), okSr s → okSr (shL code k l s).2 ∧ (shL code k l s).1.length = l.length + k
  | 0, l, s, h => ⟨h, rfl⟩
  | k + 1, l, s, h => by
    have o1 := nx_ok hc h (n := 3) (by decide)
    have o2 := nx_ok hc o1 (n := 3) (by decide)
    have o3 := nx_ok hc o2 (n := 3) (by decide)
    unfold shL
    split
    · have := shL_ok hc k (l ++ [((nx code (nx code s 3).2 3).1 - 1, (nx code (nx code (nx code s 3).2 3).2 3).1 - 1)]) _ o3
      exact ⟨this.1, by rw [this.2]; simp; omega⟩
    · have := shL_ok hc k (l ++ [(0, 0)]) _ o1
      exact ⟨this.1, by rw [this.2]; simp; omega⟩
theorem s_shD (code : List Int) (hc : okC code) (s : Sr) (hs : okSr s) : ∃ (l : List (Int × Int)) (s' : Sr), okSr s' ∧ l.length ≤ 9 ∧ SpG Tryz.prog 45 [.ptr 0 0] [srC code s] (.v (.sl 2 (vs l))) [srC code s'] := by
  obtain ⟨o1, l1⟩ := shL_ok hc 9 [] s hs
  generalize hR : shL code 9 [] s = R at *
  obtain ⟨sh, s1⟩ := R
  simp only at o1 l1
  have l1 : sh.length = 9 := by simpa using l1
  obtain ⟨v2, s2, o2, l2, w2⟩ := nx_all hc o1 (n := 30) (by decide)
  by_cases h0 : v2 = 0
  · refine ⟨(sh.drop 1).take 8, s2, o2, by simp; omega, ?_⟩
    refine sg_of (m := fun f => f == 53 || f == 87) mixed Tryz.func45 k45 ?_
    simp -dsimp [q]
    refine awp_it (true :: false :: false :: true :: true :: []) (fun x : Nat × List (Int × Int) × Sr => [(4, vi x.1)]) (fun x => [(0, srC code x.2.2), (1, .row 2 39 (vs x.2.1))]) (fun x => x.1 ≤ 9 ∧ x.2.1.length = x.1 ∧ okSr x.2.2 ∧ shL code (9 - x.1) x.2.1 x.2.2 = (sh, s1)) (fun x => 9 - x.1) (0, [], s) ?_
    intro s0 e
    simp -dsimp at e
    subst e
    refine ⟨?_, ?_⟩
    · simp -dsimp [hs, hR]
    rintro ⟨j, K, t⟩ ⟨g1, g2, g3, g4⟩
    simp only at g1 g2 g3 g4
    simp -dsimp [-Prod.forall, -Prod.exists]
    refine ⟨fun hj => ?_, fun hj => ?_⟩
    · obtain ⟨m, hm⟩ : ∃ m, 9 - j = m + 1 := ⟨9 - j - 1, by omega⟩
      rw [hm, shL] at g4
      have wx := s_nx hc g3 (n := 3) (by decide)
      have ox := nx_ok hc g3 (n := 3) (by decide)
      generalize nx code t 3 = xx at *
      obtain ⟨vx, tx⟩ := xx
      simp only at wx ox g4
      have wy := s_nx hc ox (n := 3) (by decide)
      have oy := nx_ok hc ox (n := 3) (by decide)
      have ly := nx_lt hc ox (n := 3) (by decide)
      generalize nx code tx 3 = xy at *
      obtain ⟨vy, ty⟩ := xy
      simp only at wy oy ly g4
      have wz := s_nx hc oy (n := 3) (by decide)
      have oz := nx_ok hc oy (n := 3) (by decide)
      have lz := nx_lt hc oy (n := 3) (by decide)
      generalize nx code ty 3 = xz at *
      obtain ⟨vz, tz⟩ := xz
      simp only at wz oz lz g4
      refine callM_of rfl (wx) (by simp) ?_
      try simp -dsimp
      try (first | exact fp_one (by decide) | refine fp_and (by decide) ?_)
      by_cases hx : vx = 0
      · rw [if_pos hx] at g4
        refine ⟨fun _ => ?_, fun h => absurd hx h⟩
        refine callM_of rfl (wy) (by simp) ?_
        try simp -dsimp
        try (first | exact fp_one (by decide) | refine fp_and (by decide) ?_)
        refine callM_of rfl (wz) (by simp) ?_
        try simp -dsimp
        try (first | exact fp_one (by decide) | refine fp_and (by decide) ?_)
        rw [w64 (n := vy - 1) (by omega) (by omega), w64 (n := vz - 1) (by omega) (by omega)]
        refine ⟨⟨by omega, by omega⟩, j + 1, _, tz.1, tz.2, ⟨by rw [w64 (by omega) (by omega)]; simp, ⟨rfl, rfl⟩, rfl⟩, ⟨by omega, by simp; omega, oz, ?_⟩, by omega⟩
        rw [show 9 - (j + 1) = m by omega]
        exact g4
      · rw [if_neg hx] at g4
        refine ⟨fun h => absurd h hx, fun _ => ?_⟩
        refine ⟨⟨by omega, by omega⟩, j + 1, _, tx.1, tx.2, ⟨by rw [w64 (by omega) (by omega)]; simp, ⟨rfl, rfl⟩, rfl⟩, ⟨by omega, by simp; omega, ox, ?_⟩, by omega⟩
        rw [show 9 - (j + 1) = m by omega]
        exact g4
    · rw [show 9 - j = 0 by omega, shL] at g4
      cases g4
      refine callM_of rfl (w2) (by simp) ?_
      try simp -dsimp
      try (first | exact fp_one (by decide) | refine fp_and (by decide) ?_)
      refine ⟨fun _ => ?_, fun h => absurd h0 h⟩
      exact ⟨by omega, by omega, by rw [l1]; simp [vs, List.map_tail, List.map_take]⟩
  by_cases h1 : v2 = 1
  · obtain ⟨x, y, s3, o3, _, w3⟩ := s_vecD code hc s2 o2
    refine ⟨sh.set 0 (x, y), s3, o3, by simp; omega, ?_⟩
    refine sg_of (m := fun f => f == 53 || f == 87) mixed Tryz.func45 k45 ?_
    simp -dsimp [q]
    refine awp_it (true :: false :: false :: true :: true :: []) (fun x : Nat × List (Int × Int) × Sr => [(4, vi x.1)]) (fun x => [(0, srC code x.2.2), (1, .row 2 39 (vs x.2.1))]) (fun x => x.1 ≤ 9 ∧ x.2.1.length = x.1 ∧ okSr x.2.2 ∧ shL code (9 - x.1) x.2.1 x.2.2 = (sh, s1)) (fun x => 9 - x.1) (0, [], s) ?_
    intro s0 e
    simp -dsimp at e
    subst e
    refine ⟨?_, ?_⟩
    · simp -dsimp [hs, hR]
    rintro ⟨j, K, t⟩ ⟨g1, g2, g3, g4⟩
    simp only at g1 g2 g3 g4
    simp -dsimp [-Prod.forall, -Prod.exists]
    refine ⟨fun hj => ?_, fun hj => ?_⟩
    · obtain ⟨m, hm⟩ : ∃ m, 9 - j = m + 1 := ⟨9 - j - 1, by omega⟩
      rw [hm, shL] at g4
      have wx := s_nx hc g3 (n := 3) (by decide)
      have ox := nx_ok hc g3 (n := 3) (by decide)
      generalize nx code t 3 = xx at *
      obtain ⟨vx, tx⟩ := xx
      simp only at wx ox g4
      have wy := s_nx hc ox (n := 3) (by decide)
      have oy := nx_ok hc ox (n := 3) (by decide)
      have ly := nx_lt hc ox (n := 3) (by decide)
      generalize nx code tx 3 = xy at *
      obtain ⟨vy, ty⟩ := xy
      simp only at wy oy ly g4
      have wz := s_nx hc oy (n := 3) (by decide)
      have oz := nx_ok hc oy (n := 3) (by decide)
      have lz := nx_lt hc oy (n := 3) (by decide)
      generalize nx code ty 3 = xz at *
      obtain ⟨vz, tz⟩ := xz
      simp only at wz oz lz g4
      refine callM_of rfl (wx) (by simp) ?_
      try simp -dsimp
      try (first | exact fp_one (by decide) | refine fp_and (by decide) ?_)
      by_cases hx : vx = 0
      · rw [if_pos hx] at g4
        refine ⟨fun _ => ?_, fun h => absurd hx h⟩
        refine callM_of rfl (wy) (by simp) ?_
        try simp -dsimp
        try (first | exact fp_one (by decide) | refine fp_and (by decide) ?_)
        refine callM_of rfl (wz) (by simp) ?_
        try simp -dsimp
        try (first | exact fp_one (by decide) | refine fp_and (by decide) ?_)
        rw [w64 (n := vy - 1) (by omega) (by omega), w64 (n := vz - 1) (by omega) (by omega)]
        refine ⟨⟨by omega, by omega⟩, j + 1, _, tz.1, tz.2, ⟨by rw [w64 (by omega) (by omega)]; simp, ⟨rfl, rfl⟩, rfl⟩, ⟨by omega, by simp; omega, oz, ?_⟩, by omega⟩
        rw [show 9 - (j + 1) = m by omega]
        exact g4
      · rw [if_neg hx] at g4
        refine ⟨fun h => absurd h hx, fun _ => ?_⟩
        refine ⟨⟨by omega, by omega⟩, j + 1, _, tx.1, tx.2, ⟨by rw [w64 (by omega) (by omega)]; simp, ⟨rfl, rfl⟩, rfl⟩, ⟨by omega, by simp; omega, ox, ?_⟩, by omega⟩
        rw [show 9 - (j + 1) = m by omega]
        exact g4
    · rw [show 9 - j = 0 by omega, shL] at g4
      cases g4
      refine callM_of rfl (w2) (by simp) ?_
      try simp -dsimp
      try (first | exact fp_one (by decide) | refine fp_and (by decide) ?_)
      refine ⟨fun h => absurd h h0, fun _ => ⟨fun _ => ?_, fun h => absurd h1 h⟩⟩
      refine callM_of rfl (w3) (by simp) ?_
      try simp -dsimp
      try (first | exact fp_one (by decide) | refine fp_and (by decide) ?_)
      omega
  · refine ⟨sh, s2, o2, by omega, ?_⟩
    refine sg_of (m := fun f => f == 53 || f == 87) mixed Tryz.func45 k45 ?_
    simp -dsimp [q]
    refine awp_it (true :: false :: false :: true :: true :: []) (fun x : Nat × List (Int × Int) × Sr => [(4, vi x.1)]) (fun x => [(0, srC code x.2.2), (1, .row 2 39 (vs x.2.1))]) (fun x => x.1 ≤ 9 ∧ x.2.1.length = x.1 ∧ okSr x.2.2 ∧ shL code (9 - x.1) x.2.1 x.2.2 = (sh, s1)) (fun x => 9 - x.1) (0, [], s) ?_
    intro s0 e
    simp -dsimp at e
    subst e
    refine ⟨?_, ?_⟩
    · simp -dsimp [hs, hR]
    rintro ⟨j, K, t⟩ ⟨g1, g2, g3, g4⟩
    simp only at g1 g2 g3 g4
    simp -dsimp [-Prod.forall, -Prod.exists]
    refine ⟨fun hj => ?_, fun hj => ?_⟩
    · obtain ⟨m, hm⟩ : ∃ m, 9 - j = m + 1 := ⟨9 - j - 1, by omega⟩
      rw [hm, shL] at g4
      have wx := s_nx hc g3 (n := 3) (by decide)
      have ox := nx_ok hc g3 (n := 3) (by decide)
      generalize nx code t 3 = xx at *
      obtain ⟨vx, tx⟩ := xx
      simp only at wx ox g4
      have wy := s_nx hc ox (n := 3) (by decide)
      have oy := nx_ok hc ox (n := 3) (by decide)
      have ly := nx_lt hc ox (n := 3) (by decide)
      generalize nx code tx 3 = xy at *
      obtain ⟨vy, ty⟩ := xy
      simp only at wy oy ly g4
      have wz := s_nx hc oy (n := 3) (by decide)
      have oz := nx_ok hc oy (n := 3) (by decide)
      have lz := nx_lt hc oy (n := 3) (by decide)
      generalize nx code ty 3 = xz at *
      obtain ⟨vz, tz⟩ := xz
      simp only at wz oz lz g4
      refine callM_of rfl (wx) (by simp) ?_
      try simp -dsimp
      try (first | exact fp_one (by decide) | refine fp_and (by decide) ?_)
      by_cases hx : vx = 0
      · rw [if_pos hx] at g4
        refine ⟨fun _ => ?_, fun h => absurd hx h⟩
        refine callM_of rfl (wy) (by simp) ?_
        try simp -dsimp
        try (first | exact fp_one (by decide) | refine fp_and (by decide) ?_)
        refine callM_of rfl (wz) (by simp) ?_
        try simp -dsimp
        try (first | exact fp_one (by decide) | refine fp_and (by decide) ?_)
        rw [w64 (n := vy - 1) (by omega) (by omega), w64 (n := vz - 1) (by omega) (by omega)]
        refine ⟨⟨by omega, by omega⟩, j + 1, _, tz.1, tz.2, ⟨by rw [w64 (by omega) (by omega)]; simp, ⟨rfl, rfl⟩, rfl⟩, ⟨by omega, by simp; omega, oz, ?_⟩, by omega⟩
        rw [show 9 - (j + 1) = m by omega]
        exact g4
      · rw [if_neg hx] at g4
        refine ⟨fun h => absurd h hx, fun _ => ?_⟩
        refine ⟨⟨by omega, by omega⟩, j + 1, _, tx.1, tx.2, ⟨by rw [w64 (by omega) (by omega)]; simp, ⟨rfl, rfl⟩, rfl⟩, ⟨by omega, by simp; omega, ox, ?_⟩, by omega⟩
        rw [show 9 - (j + 1) = m by omega]
        exact g4
    · rw [show 9 - j = 0 by omega, shL] at g4
      cases g4
      refine callM_of rfl (w2) (by simp) ?_
      try simp -dsimp
      try (first | exact fp_one (by decide) | refine fp_and (by decide) ?_)
      exact ⟨fun h => absurd h h0, fun _ h => absurd h h1⟩
end Go.Proofs.YtgkhakhkebjbpaaGreatEv
namespace Go.Proofs.YtgkhakhkebjbpaaGreatEv
open Go Go.Proofs
set_option maxRecDepth 10000
theorem setN_congr {p : Nat → Bool} {ix ix' : Nat → Nat} {val : Nat → Int} {l : List Int} : ∀ {n : Nat}, (∀ k, k < n → ix k = ix' k) → setN p ix val l n = setN p ix' val l n
  | 0, _ => rfl
  | n + 1, h => by simp only [setN]; rw [setN_congr (fun k hk => h k (by omega)), h n (by omega)]
theorem ovS_zero {a b c : Int} {p m : List Int} {ink : Int} (hc : 0 < c) (hp : (p.length : Int) = a * c) : ovS a b c 0 0 p m ink p.length = ovI p m ink p.length :=
  setN_congr fun k hk => by
    have := num_cell (a := a) (b := b) hc (k := k) (by omega)
    simp only [mv, Int.add_zero]
    omega
def ovOk (f a b c f' a' b' c' : Int) (m : List Int) (ink : Int) : Prop := (1 ≤ ink ∧ ink ≤ 9) ∧ (f = f' ∧ a = a' ∧ b = b' ∧ c = c') ∧ (m.all fun n => decide (0 ≤ n ∧ n ≤ 1)) = true
section
variable (f a b c : Int) (p : List Int) (f' a' b' c' : Int) (m : List Int) (ink : Int) (hp : p.length ≤ 1048576) (hm : m.length ≤ 1048576)
include hp hm
end
end Go.Proofs.YtgkhakhkebjbpaaGreatEv
namespace Go.Proofs.YtgkhakhkebjbpaaGreatEv
open Go Go.Proofs
set_option maxRecDepth 10000
set_option maxHeartbeats 2000000
theorem s_smoveO (f a b c u v : Int) (l : List Int) (hf : okP f a b c l = true) (hu : u.natAbs ≤ 1000) (hv : v.natAbs ≤ 1000) : Sp Tryz.prog 54 [aP f a b c l, aG 1 0 0 1 u v] (oP f a b c 0) [.row 0 2 (is (mvI a b c u v l l.length))] := by
  obtain ⟨_, h2, h3, _⟩ := okP_spec.1 hf
  obtain ⟨ha, hc, hb, hac⟩ := okL_spec.1 h2
  have h1 := ac_pos ha.1 hc.1
  have hn := nat_n ha.1 hc.1 h3
  rw [← mvS_eq (by omega) (by omega) h3]
  refine sp_of (m := no) mixed Tryz.func54 k54 ?_
  simp -dsimp [q]
  refine call_of (s_image1 a b c ha hb hc) rfl (by simp) ?_
  try simp -dsimp
  try (first | exact fp_one (by decide) | refine fp_and (by decide) ?_)
  refine call_of (s_scells a b c ha hc) rfl (by simp) ?_
  try simp -dsimp
  try (first | exact fp_one (by decide) | refine fp_and (by decide) ?_)
  simp only [cellsL_len, hn]
  refine ⟨by omega, by decide, ?_⟩
  refine awp_it (false :: false :: true :: true :: true :: true :: true :: true :: true :: []) (fun i : Nat => [(8, vi i)]) (fun i => [(6, .row 0 2 (is (setN (fun _ => true) (mv a b c u v) (fun k => l.getD k 0) (List.replicate l.length 0) i)))]) (fun i => i ≤ l.length) (fun i => l.length - i) 0 ?_
  intro s0 e
  simp -dsimp at e
  subst e
  refine ⟨?_, ?_⟩
  · simp [setN]
  intro i hi
  simp -dsimp [setN_len, cellsL_len, hn]
  refine ⟨fun h5 => ⟨by omega, fun x y hxy => ?_⟩, fun h5 => ?_⟩
  · obtain ⟨⟨k1, k2⟩, k3, _⟩ := cell_of ha.1 hc.1 hxy
    have k4 := k3 b u v
    have k5 := num_range (a := a) (b := b) (c := c) (x := x + u) (y := y + v) (by omega) (by omega)
    refine call_of (s_sgapply 1 0 0 1 u v x y (by decide) ⟨by omega, by omega⟩ ⟨by omega, by omega⟩) rfl (by simp) ?_
    try simp -dsimp
    try (first | exact fp_one (by decide) | refine fp_and (by decide) ?_)
    refine call_of (s_snumber _ _ _ _ _ ha hb hc (by omega) (by omega)) rfl (by simp) ?_
    try simp -dsimp
    try (first | exact fp_one (by decide) | refine fp_and (by decide) ?_)
    refine ⟨h5, fun z hz => ?_⟩
    simp only [setN_len, List.length_replicate]
    refine ⟨⟨by omega, by omega⟩, by omega, by decide, i + 1, ⟨by rw [w64 (by omega) (by omega)]; simp, ?_⟩, by omega, by omega⟩
    simp [setN, k4, hz]
  · rw [show i = l.length by omega]
theorem s_dPS (code : List Int) (hc : okC code) : ∃ (f a b c : Int) (l : List Int) (sh : List (Int × Int)), l.length ≤ 65 ∧ sh.length ≤ 9 ∧ Sp Tryz.prog 7 [.v (cdV code)] (.tu [aP f a b c l, .v (.sl 2 (vs sh))]) [] := by
  obtain ⟨s, o, w⟩ := s_from code hc
  obtain ⟨f, a, b, c, l, s1, o1, hl, w1⟩ := s_patD code hc s o
  obtain ⟨sh, s2, o2, hsh, w2⟩ := s_shD code hc s1 o1
  refine ⟨f, a, b, c, l, sh, hl, hsh, ?_⟩
  refine sp_of (m := fun f => f == 43 || f == 44 || f == 45) mixed Tryz.func7 k7 ?_
  simp -dsimp [q]
  refine callM_of rfl (w) (by simp) ?_
  try simp -dsimp
  try (first | exact fp_one (by decide) | refine fp_and (by decide) ?_)
  refine callM_of rfl (w1) (by simp) ?_
  try simp -dsimp
  try (first | exact fp_one (by decide) | refine fp_and (by decide) ?_)
  refine callM_of rfl (w2) (by simp) ?_
  try simp -dsimp
  try (first | exact fp_one (by decide) | refine fp_and (by decide) ?_)
theorem s_dFS (code : List Int) (hc : okC code) : ∃ (f a b c : Int) (l : List Int) (f' a' b' c' : Int) (l' : List Int), l.length ≤ 65 ∧ l'.length ≤ 65 ∧ Sp Tryz.prog 12 [.v (cdV code)] (.tu [aP f a b c l, aP f' a' b' c' l']) [] := by
  obtain ⟨s, o, w⟩ := s_from code hc
  obtain ⟨f, a, b, c, l, s1, o1, hl, w1⟩ := s_patD code hc s o
  have w2 := s_sisP f a b c l (by omega)
  cases hp : okP f a b c l with
  | false =>
    rw [hp] at w2
    obtain ⟨f', a', b', c', l', s3, o3, hl', w3⟩ := s_patD code hc s1 o1
    refine ⟨f, a, b, c, l, f', a', b', c', l', hl, hl', ?_⟩
    refine sp_of (m := fun f => f == 43 || f == 44 || f == 53) mixed Tryz.func12 k12 ?_
    simp -dsimp [q]
    refine callM_of rfl (w) (by simp) ?_
    try simp -dsimp
    try (first | exact fp_one (by decide) | refine fp_and (by decide) ?_)
    refine callM_of rfl (w1) (by simp) ?_
    try simp -dsimp
    try (first | exact fp_one (by decide) | refine fp_and (by decide) ?_)
    refine call_of (w2) rfl (by simp) ?_
    try simp -dsimp
    try (first | exact fp_one (by decide) | refine fp_and (by decide) ?_)
    refine callM_of rfl (w3) (by simp) ?_
    try simp -dsimp
    try (first | exact fp_one (by decide) | refine fp_and (by decide) ?_)
  | true =>
    rw [hp] at w2
    obtain ⟨v3, s3, o3, l3, w3⟩ := nx_all hc o1 (n := 6) (by decide)
    by_cases h0 : v3 = 0
    · obtain ⟨f', a', b', c', l', s4, o4, hl', w4⟩ := s_patD code hc s3 o3
      refine ⟨f, a, b, c, l, f', a', b', c', l', hl, hl', ?_⟩
      refine sp_of (m := fun f => f == 43 || f == 44 || f == 53) mixed Tryz.func12 k12 ?_
      simp -dsimp [q]
      refine callM_of rfl (w) (by simp) ?_
      try simp -dsimp
      try (first | exact fp_one (by decide) | refine fp_and (by decide) ?_)
      refine callM_of rfl (w1) (by simp) ?_
      try simp -dsimp
      try (first | exact fp_one (by decide) | refine fp_and (by decide) ?_)
      refine call_of (w2) rfl (by simp) ?_
      try simp -dsimp
      try (first | exact fp_one (by decide) | refine fp_and (by decide) ?_)
      refine callM_of rfl (w3) (by simp) ?_
      try simp -dsimp
      try (first | exact fp_one (by decide) | refine fp_and (by decide) ?_)
      refine ⟨fun _ => ?_, fun h => absurd h0 h⟩
      refine callM_of rfl (w4) (by simp) ?_
      try simp -dsimp
      try (first | exact fp_one (by decide) | refine fp_and (by decide) ?_)
    obtain ⟨x, s4, o4, l4, w4⟩ := nx_all hc o3 (n := 9) (by decide)
    obtain ⟨y, s5, o5, l5, w5⟩ := nx_all hc o4 (n := 9) (by decide)
    have w6 := s_smoveO f a b c (x - 4) (y - 4) l hp (by omega) (by omega)
    have hml : (mvI a b c (x - 4) (y - 4) l l.length).length = l.length := mvI_len
    have hpos : 0 < l.length := by
      obtain ⟨_, k2, k3, _⟩ := okP_spec.1 hp
      obtain ⟨k4, k5, _, _⟩ := okL_spec.1 k2
      have := ac_pos k4.1 k5.1
      omega
    generalize mvI a b c (x - 4) (y - 4) l l.length = r at *
    obtain ⟨v7, s7, o7, l7, w7⟩ := nx_all hc o5 (n := 5) (by decide)
    have e1 : IntKind.i64.wrap (x - 4) = x - 4 := w64 (by omega) (by omega)
    have e2 : IntKind.i64.wrap (y - 4) = y - 4 := w64 (by omega) (by omega)
    by_cases h7 : v7 = 0
    · obtain ⟨z, s8, o8, l8, w8⟩ := nx_all hc o7 (n := 3) (by decide)
      refine ⟨f, a, b, c, l, f, a, b, c, r.set 0 z, hl, by simp; omega, ?_⟩
      refine sp_of (m := fun f => f == 43 || f == 44 || f == 53) mixed Tryz.func12 k12 ?_
      simp -dsimp [q]
      refine callM_of rfl (w) (by simp) ?_
      try simp -dsimp
      try (first | exact fp_one (by decide) | refine fp_and (by decide) ?_)
      refine callM_of rfl (w1) (by simp) ?_
      try simp -dsimp
      try (first | exact fp_one (by decide) | refine fp_and (by decide) ?_)
      refine call_of (w2) rfl (by simp) ?_
      try simp -dsimp
      try (first | exact fp_one (by decide) | refine fp_and (by decide) ?_)
      refine callM_of rfl (w3) (by simp) ?_
      try simp -dsimp
      try (first | exact fp_one (by decide) | refine fp_and (by decide) ?_)
      refine ⟨fun h => absurd h h0, fun _ => ?_⟩
      refine call_of (s_sunit) rfl (by simp) ?_
      try simp -dsimp
      try (first | exact fp_one (by decide) | refine fp_and (by decide) ?_)
      refine callM_of rfl (w4) (by simp) ?_
      try simp -dsimp
      try (first | exact fp_one (by decide) | refine fp_and (by decide) ?_)
      refine callM_of rfl (w5) (by simp) ?_
      try simp -dsimp
      try (first | exact fp_one (by decide) | refine fp_and (by decide) ?_)
      rw [e1, e2]
      refine call_of (w6) rfl (by simp) ?_
      try simp -dsimp
      try (first | exact fp_one (by decide) | refine fp_and (by decide) ?_)
      refine callM_of rfl (w7) (by simp) ?_
      try simp -dsimp
      try (first | exact fp_one (by decide) | refine fp_and (by decide) ?_)
      refine ⟨fun _ => ?_, fun h => absurd h7 h⟩
      refine callM_of rfl (w8) (by simp) ?_
      try simp -dsimp
      try (first | exact fp_one (by decide) | refine fp_and (by decide) ?_)
      exact ⟨by omega, by decide, by decide⟩
    · refine ⟨f, a, b, c, l, f, a, b, c, r, hl, by omega, ?_⟩
      refine sp_of (m := fun f => f == 43 || f == 44 || f == 53) mixed Tryz.func12 k12 ?_
      simp -dsimp [q]
      refine callM_of rfl (w) (by simp) ?_
      try simp -dsimp
      try (first | exact fp_one (by decide) | refine fp_and (by decide) ?_)
      refine callM_of rfl (w1) (by simp) ?_
      try simp -dsimp
      try (first | exact fp_one (by decide) | refine fp_and (by decide) ?_)
      refine call_of (w2) rfl (by simp) ?_
      try simp -dsimp
      try (first | exact fp_one (by decide) | refine fp_and (by decide) ?_)
      refine callM_of rfl (w3) (by simp) ?_
      try simp -dsimp
      try (first | exact fp_one (by decide) | refine fp_and (by decide) ?_)
      refine ⟨fun h => absurd h h0, fun _ => ?_⟩
      refine call_of (s_sunit) rfl (by simp) ?_
      try simp -dsimp
      try (first | exact fp_one (by decide) | refine fp_and (by decide) ?_)
      refine callM_of rfl (w4) (by simp) ?_
      try simp -dsimp
      try (first | exact fp_one (by decide) | refine fp_and (by decide) ?_)
      refine callM_of rfl (w5) (by simp) ?_
      try simp -dsimp
      try (first | exact fp_one (by decide) | refine fp_and (by decide) ?_)
      rw [e1, e2]
      refine call_of (w6) rfl (by simp) ?_
      try simp -dsimp
      try (first | exact fp_one (by decide) | refine fp_and (by decide) ?_)
      refine callM_of rfl (w7) (by simp) ?_
      try simp -dsimp
      try (first | exact fp_one (by decide) | refine fp_and (by decide) ?_)
      refine ⟨fun h => absurd h h7, fun _ => ?_⟩
      decide
end Go.Proofs.YtgkhakhkebjbpaaGreatEv
namespace Go.Proofs.YtgkhakhkebjbpaaGreatEv
open Go Go.Proofs
set_option maxRecDepth 10000
set_option maxHeartbeats 2000000
theorem mvI_zero {a b c : Int} {l : List Int} (hc : 0 < c) (hl : (l.length : Int) = a * c) : mvI a b c 0 0 l l.length = l := by
  apply List.ext_getElem?
  intro j
  by_cases hj : j < l.length
  · have h := num_cell (a := a) (b := b) hc (k := j) (by omega)
    have e : mv a b c 0 0 j = j := by
      unfold mv
      simp only [Int.add_zero]
      rw [h]
      simp
    simp [hj, e]
  · rw [List.getElem?_eq_none (by rw [mvI_len]; omega), List.getElem?_eq_none (by omega)]
def capC (k : Int) (x : Int) : Int := if x ≤ k then x else 0
theorem prL_zero {a b c : Int} {l : List Int} (hc : 0 < c) (hl : (l.length : Int) = a * c) (h0 : ∀ x ∈ l, 0 ≤ x ∧ x ≤ 9) : ∀ k : Nat, k ≤ 9 → prL a b c l (List.replicate 9 (0, 0)) k = l.map (capC k)
  | 0, _ => by
    unfold prL
    apply List.ext_getElem?
    intro j
    by_cases hj : j < l.length
    · have hx := h0 l[j] (List.getElem_mem hj)
      simp only [List.getElem?_replicate, hj, if_true, List.getElem?_map, List.getElem?_eq_getElem, Option.map_some, capC]
      split
      · congr 1
        omega
      · rfl
    · rw [List.getElem?_eq_none (by simp; omega), List.getElem?_eq_none (by simp; omega)]
  | k + 1, hk => by
    have ih := prL_zero (a := a) (b := b) hc hl h0 k (by omega)
    have e0 : (List.replicate 9 ((0 : Int), (0 : Int))).getD k (0, 0) = (0, 0) := by
      rw [List.getD_eq_getElem?_getD, List.getElem?_replicate]
      split <;> rfl
    have em : mvI a b c 0 0 (maskL l ((k : Int) + 1)) l.length = maskL l ((k : Int) + 1) := by
      have := mvI_zero (a := a) (b := b) (l := maskL l ((k : Int) + 1)) hc (by rw [maskL_len]; exact hl)
      rwa [maskL_len] at this
    unfold prL
    rw [ih, e0, em]
    apply List.ext_getElem?
    intro j
    by_cases hj : j < l.length
    · rw [setN_get (i := j) (m := l.length) (by simpa using hj) hj (fun k _ => Iff.rfl) l.length (Nat.le_refl _)]
      have hx := h0 l[j] (List.getElem_mem hj)
      have hg : (maskL l ((k : Int) + 1)).getD j 0 = if l[j] = (k : Int) + 1 then 1 else 0 := by
        simp [maskL, hj]
      simp only [hj, true_and, decide_eq_true_eq, hg, List.getElem?_map, List.getElem?_eq_getElem, Option.map_some]
      by_cases hxe : l[j] = (k : Int) + 1
      · rw [if_pos (by rw [if_pos hxe])]
        simp [capC, hxe]
      · rw [if_neg (by rw [if_neg hxe]; decide)]
        congr 1
        unfold capC
        by_cases h2 : l[j] ≤ (k : Int)
        · rw [if_pos h2, if_pos (by omega)]
        · rw [if_neg h2, if_neg (by omega)]
    · rw [List.getElem?_eq_none (by rw [setN_len]; simp; omega), List.getElem?_eq_none (by simp; omega)]
theorem prL_same {a b c : Int} {l : List Int} (hc : 0 < c) (hl : (l.length : Int) = a * c) (h0 : ∀ x ∈ l, 0 ≤ x ∧ x ≤ 9) : prL a b c l (List.replicate 9 (0, 0)) 9 = l := by
  rw [prL_zero hc hl h0 9 (Nat.le_refl _)]
  conv => rhs; rw [← List.map_id l]
  refine List.map_congr_left fun x hx => ?_
  have := h0 x hx
  unfold capC
  rw [if_pos (by omega)]
  rfl
theorem gapL_same (l : List Int) : ∀ n, gapL l l n = 0
  | 0 => rfl
  | n + 1 => by
    rw [gapL, gapL_same l n, if_neg (fun h => h.2 h.1)]
    rfl
theorem s_likeI (xs ys : List Int) (hx : xs.length ≤ 1048576) : Sp Tryz.prog 39 [.v (vis xs), .v (vis ys)] (vb (decide (xs = ys))) [] := by
  refine sp_of (m := no) mixed Tryz.func39 k39 ?_
  simp -dsimp [q]
  refine ⟨fun h e => h (by rw [e]), fun hl => ?_⟩
  refine awp_it (true :: true :: false :: false :: false :: true :: []) (fun i : Nat => [(5, vi i)]) (fun i => []) (fun i => i ≤ xs.length ∧ xs.take i = ys.take i) (fun i => xs.length - i) 0 ?_
  intro s0 e
  simp -dsimp at e
  subst e
  refine ⟨?_, ?_⟩
  · simp
  intro i hi
  simp -dsimp
  obtain ⟨hi, ht⟩ := hi
  refine ⟨fun h1 => ⟨h1, fun x hx' => ⟨by omega, fun y hy => ⟨fun hne e => ?_, fun e => ⟨i + 1, by rw [w64 (by omega) (by omega)]; simp, ⟨by omega, ?_⟩, by omega⟩⟩⟩⟩, fun h1 => ?_⟩
  · rw [e] at hx'
    rw [hx'] at hy
    cases hy
    exact hne rfl
  · subst e
    rw [List.take_add_one, List.take_add_one, ht, hx', hy]
  · have h2 : i = xs.length := by omega
    subst h2
    rw [List.take_length, List.take_of_length_le (by omega)] at ht
    try exact ht
theorem s_likeP (f a b c : Int) (l : List Int) (f' a' b' c' : Int) (l' : List Int) (hl : l.length ≤ 1048576) : Sp Tryz.prog 15 [aP f a b c l, aP f' a' b' c' l'] (vb (decide (f = f' ∧ (a = a' ∧ b = b' ∧ c = c') ∧ l = l'))) [] := by
  have w := s_likeI l l' hl
  by_cases h1 : f = f'
  case neg =>
    rw [decide_eq_false (fun h => h1 h.1)]
    refine sp_of (m := no) mixed Tryz.func15 k15 ?_
    simp -dsimp [q, h1]
  by_cases h2 : a = a' ∧ b = b' ∧ c = c'
  case neg =>
    rw [decide_eq_false (fun h => h2 h.2.1)]
    refine sp_of (m := no) mixed Tryz.func15 k15 ?_
    simp -dsimp [q, h1]
    exact fun e1 e2 e3 => absurd ⟨e1, e2, e3⟩ h2
  obtain ⟨rfl, rfl, rfl⟩ := h2
  subst h1
  have e : decide (f = f ∧ (a = a ∧ b = b ∧ c = c) ∧ l = l') = decide (l = l') := by simp
  rw [e]
  generalize decide (l = l') = T at *
  refine sp_of (m := no) mixed Tryz.func15 k15 ?_
  simp -dsimp [q]
  refine call_of (w) rfl (by simp) ?_
  try simp -dsimp
  try (first | exact fp_one (by decide) | refine fp_and (by decide) ?_)
theorem s_iPM (f : Int) (hf : 0 ≤ f ∧ f ≤ 1) (m : M4) : Sp Tryz.prog 63 [vi f, aM4 m] (vb (decide (m ∈ pmL f 81))) [] := by
  have w1 := s_isFr f
  rw [decide_eq_true hf] at w1
  have w2 := s_pm f hf
  have hlen := pmL_len f 81
  have w3 := s_contM (pmL f 81) m (by omega)
  generalize decide (m ∈ pmL f 81) = T at *
  refine sp_of (m := no) mixed Tryz.func63 k63 ?_
  simp -dsimp [q]
  refine call_of (w1) rfl (by simp) ?_
  try simp -dsimp
  try (first | exact fp_one (by decide) | refine fp_and (by decide) ?_)
  refine call_of (w2) rfl (by simp) ?_
  try simp -dsimp
  try (first | exact fp_one (by decide) | refine fp_and (by decide) ?_)
  refine call_of (w3) rfl (by simp) ?_
  try simp -dsimp
  try (first | exact fp_one (by decide) | refine fp_and (by decide) ?_)
  try decide
theorem s_moveP (f a b c u v : Int) (l : List Int) (hf : okP f a b c l = true) (hu : u.natAbs ≤ 1000) (hv : v.natAbs ≤ 1000) (hl : l.length ≤ 1048576) : Sp Tryz.prog 16 [aP f a b c l, aG 1 0 0 1 u v] (.tu [aP f a b c (mvI a b c u v l l.length), vi 0]) [] := by
  have w1 := s_isP f a b c l hl
  rw [hf] at w1
  obtain ⟨h1, _, _, _⟩ := okP_spec.1 hf
  have h2 : pmOk f (1, 0, 0, 1) = true := by
    have : f = 0 ∨ f = 1 := by omega
    rcases this with rfl | rfl <;> decide
  have w2 := s_iPM f h1 (1, 0, 0, 1)
  rw [decide_eq_true ((pmL_mem h1 _ _ _ _).2 h2)] at w2
  have w3 := s_isVec u v
  rw [show okV u v = true from okV_spec.2 (by omega)] at w3
  have w4 := s_move1 f a b c u v l hf hu hv
  generalize mvI a b c u v l l.length = r at *
  refine sp_of (m := no) mixed Tryz.func16 k16 ?_
  simp -dsimp [q]
  refine call_of (w1) rfl (by simp) ?_
  try simp -dsimp
  try (first | exact fp_one (by decide) | refine fp_and (by decide) ?_)
  refine call_of ((w2 : Sp Tryz.prog _ [vi f, aM 1 0 0 1] (vb true) [])) rfl (by simp) ?_
  try simp -dsimp
  try (first | exact fp_one (by decide) | refine fp_and (by decide) ?_)
  refine call_of (w3) rfl (by simp) ?_
  try simp -dsimp
  try (first | exact fp_one (by decide) | refine fp_and (by decide) ?_)
  refine call_of (w4) rfl (by simp) ?_
  try simp -dsimp
  try (first | exact fp_one (by decide) | refine fp_and (by decide) ?_)
end Go.Proofs.YtgkhakhkebjbpaaGreatEv
namespace Go.Proofs.YtgkhakhkebjbpaaGreatEv
open Go Go.Proofs
set_option maxRecDepth 10000
set_option maxHeartbeats 2000000
theorem s_big (l : List Int) : Sp Tryz.prog 6 [.v (cdV l)] (vb (decide ((4096 : Int) < l.length))) [] := by
  refine sp_of (m := no) mixed Tryz.func6 k6 ?_
  simp -dsimp [q]
theorem u8_wf {y : Int} (h : (Lit.int .u8 y).wf = true) : 0 ≤ y ∧ y < 256 := by
  have h2 : (Lit.int .u8 y).wf = (decide (0 ≤ y) && decide (y ≤ 255)) := rfl
  rw [h2, Bool.and_eq_true, decide_eq_true_eq, decide_eq_true_eq] at h
  omega
theorem prints (f a b c : Int) (l : List Int) (sh : List (Int × Int)) (hl : l.length ≤ 1048576) (hsl : sh.length ≤ 1048576) :
    (okP f a b c l = true ∧ ∃ (r : List Int) (n : Int), r.length = l.length ∧ Sp Tryz.prog 9 [aP f a b c l, .v (vvs sh)] (.tu [oP f a b c 0, vi 0]) [.row 0 2 (is r)] ∧ Sp Tryz.prog 8 [aP f a b c l, .v (vvs sh)] (.tu [oP f a b c 0, vi 0]) [.row 0 2 (is r)] ∧
      Sp Tryz.prog 11 [aP f a b c l, .v (vvs sh)] (.tu [vi n, vi 0]) [] ∧ Sp Tryz.prog 10 [aP f a b c l, .v (vvs sh)] (.tu [vi n, vi 0]) []) ∨
    ∃ k, k ≠ 0 ∧ Sp Tryz.prog 9 [aP f a b c l, .v (vvs sh)] (.tu [zP, vi k]) [] ∧ Sp Tryz.prog 8 [aP f a b c l, .v (vvs sh)] (.tu [zP, vi k]) [] ∧
      Sp Tryz.prog 11 [aP f a b c l, .v (vvs sh)] (.tu [vi 0, vi k]) [] ∧ Sp Tryz.prog 10 [aP f a b c l, .v (vvs sh)] (.tu [vi 0, vi k]) [] := by
  by_cases h1 : okP f a b c l = true
  case neg =>
    simp only [Bool.not_eq_true] at h1
    have h2 := s_spS_bad f a b c l sh (by rw [h1]; simp) hl hsl
    have h3 := s_sgaps_bad f a b c l sh (by rw [h1]; simp) hl hsl
    rw [h1] at h2 h3
    have h4 := s_pS_bad f a b c l sh h1 hl
    exact .inr ⟨1, by decide, h2, h4, h3, s_gaps_bad f a b c l sh 1 h4⟩
  by_cases h2 : okS sh = true
  case neg =>
    simp only [Bool.not_eq_true] at h2
    have h3 := s_spS_bad f a b c l sh (by rw [h2]; simp) hl hsl
    have h4 := s_sgaps_bad f a b c l sh (by rw [h2]; simp) hl hsl
    rw [h1] at h3 h4
    have h5 := s_pS_far f a b c l sh h1 h2 hl hsl
    exact .inr ⟨2, by decide, h3, h5, h4, s_gaps_bad f a b c l sh 2 h5⟩
  exact .inl ⟨h1, _, _, prL_len 9, s_spS f a b c l sh h1 h2 hl hsl, s_pS f a b c l sh h1 h2 hl hsl, s_sgaps f a b c l sh h1 h2 hl hsl, s_gaps f a b c l sh h1 h2 hl hsl⟩
theorem finds (f a b c : Int) (l : List Int) (f' a' b' c' : Int) (l' : List Int) (hl : l.length ≤ 1048576) (hl' : l'.length ≤ 1048576) : ∃ x y k, Sp Tryz.prog 14 [aP f a b c l, aP f' a' b' c' l'] (.tu [aV x y, vi k]) [] ∧ Sp Tryz.prog 13 [aP f a b c l, aP f' a' b' c' l'] (.tu [aV x y, vi k]) [] ∧
    (k = 0 → ((f = f' ∧ (a = a' ∧ b = b' ∧ c = c')) ∧ mvI a b c x y l l.length = l') ∧ Sp Tryz.prog 16 [aP f a b c l, aG 1 0 0 1 x y] (.tu [aP f a b c (mvI a b c x y l l.length), vi 0]) []) := by
  by_cases h1 : okP f a b c l = true ∧ okP f' a' b' c' l' = true
  case neg => exact ⟨0, 0, 1, s_sfind_bad _ _ _ _ _ _ _ _ _ _ h1 hl hl', s_find_bad _ _ _ _ _ _ _ _ _ _ h1 hl hl', fun h => absurd h (by decide)⟩
  by_cases h2 : f = f' ∧ a = a' ∧ b = b' ∧ c = c'
  case neg => exact ⟨0, 0, 2, s_sfind_far _ _ _ _ _ _ _ _ _ _ h1.1 h1.2 h2 hl hl', s_find_far _ _ _ _ _ _ _ _ _ _ h1.1 h1.2 h2 hl hl', fun h => absurd h (by decide)⟩
  obtain ⟨rfl, rfl, rfl, rfl⟩ := h2
  refine ⟨_, _, _, s_sfind _ _ _ _ _ _ h1.1 h1.2 hl hl', s_find _ _ _ _ _ _ h1.1 h1.2 hl hl', fun h => ?_⟩
  cases hF : fF a b c l l' with
  | none => rw [hF] at h; exact absurd h (by decide)
  | some t =>
    have hp := List.find?_some hF
    have hm := List.mem_of_find?_eq_some hF
    obtain ⟨i, hi⟩ := List.mem_iff_getElem?.1 hm
    obtain ⟨_, k2, _, _⟩ := okP_spec.1 h1.1
    obtain ⟨ha, hc, _, _⟩ := okL_spec.1 k2
    obtain ⟨⟨q1, q2⟩, _⟩ := cell_of ha.1 hc.1 (x := t.1) (y := t.2) hi
    exact ⟨⟨⟨rfl, rfl, rfl, rfl⟩, of_decide_eq_true hp⟩, s_moveP f a b c t.1 t.2 l h1.1 (by omega) (by omega) hl⟩
theorem law_FnPrints (a0 : List (Int)) (wf0 : (a0.length ≤ maxLen ∧ ∀ y ∈ a0, (Lit.int .u8 y).wf = true)) : Sp Tryz.prog 3 [.v (.sl 0 (a0.map fun y => .int .u8 y))] (.v (.bool true)) [] := by
  have hw := wf0.2
  clear wf0
  generalize a0 = code at *
  show Sp Tryz.prog 3 [.v (cdV code)] (vb true) []
  have wb := s_big code
  by_cases hb : (4096 : Int) < code.length
  · rw [decide_eq_true hb] at wb
    refine sp_of (m := no) mixed Tryz.func3 k3 ?_
    simp -dsimp [q]
    refine call_of (wb) rfl (by simp) ?_
    try simp -dsimp
    try (first | exact fp_one (by decide) | refine fp_and (by decide) ?_)
  rw [decide_eq_false hb] at wb
  have hc : okC code := ⟨by omega, fun y hy => u8_wf (hw y hy)⟩
  obtain ⟨f, a, b, c, l, sh, hl, hsh, w1⟩ := s_dPS code hc
  obtain ⟨f1, a1, b1, c1, l1, f2, a2, b2, c2, l2, hl1, hl2, w2⟩ := s_dFS code hc
  obtain ⟨x, y, k, wf1, wf2, hk⟩ := finds f1 a1 b1 c1 l1 f2 a2 b2 c2 l2 (by omega) (by omega)
  have hP := prints f a b c l sh (by omega) (by omega)
  rcases hP with ⟨hok, r, n, hr, p1, p2, p3, p4⟩ | ⟨j, hj, p1, p2, p3, p4⟩
  · have lr := s_likeP f a b c r f a b c r (by omega)
    have lf := s_likeP f1 a1 b1 c1 (mvI a1 b1 c1 x y l1 l1.length) f2 a2 b2 c2 l2 (by rw [mvI_len]; omega)
    have ll := s_likeP f a b c l f a b c l (by omega)
    rw [decide_eq_true ⟨rfl, ⟨rfl, rfl, rfl⟩, rfl⟩] at lr ll
    obtain ⟨_, kk2, kk3, kk4⟩ := okP_spec.1 hok
    obtain ⟨_, hcc, _, _⟩ := okL_spec.1 kk2
    have hz : okS (List.replicate 9 (0, 0)) = true := by decide
    have z1 := s_pS f a b c l (List.replicate 9 (0, 0)) hok hz (by omega) (by simp)
    have z2 := s_gaps f a b c l (List.replicate 9 (0, 0)) hok hz (by omega) (by simp)
    rw [prL_same (b := b) (by omega) kk3 kk4] at z1 z2
    rw [gapL_same] at z2
    have e9 : List.replicate 9 ((0:Int),(0:Int)) = [(0,0),(0,0),(0,0),(0,0),(0,0),(0,0),(0,0),(0,0),(0,0)] := rfl
    rw [e9] at z1 z2
    by_cases h0 : k = 0
    · subst h0
      obtain ⟨⟨e1, e2⟩, wm⟩ := hk rfl
      have lf : Sp Tryz.prog 15 [aP f1 a1 b1 c1 (mvI a1 b1 c1 x y l1 l1.length), aP f2 a2 b2 c2 l2] (vb true) [] := by
        rw [decide_eq_true ⟨e1.1, e1.2, e2⟩] at lf
        exact lf
      refine sp_of (m := no) mixed Tryz.func3 k3 ?_
      simp -dsimp [q]
      repeat ((first | refine call_of (wb) rfl (by simp) ?_ | refine call_of (w1) rfl (by simp) ?_ | refine call_of (p2) rfl (by simp) ?_ | refine call_of (p1) rfl (by simp) ?_ | refine call_of (p4) rfl (by simp) ?_ | refine call_of (p3) rfl (by simp) ?_ | refine call_of (w2) rfl (by simp) ?_ | refine call_of (wf2) rfl (by simp) ?_ | refine call_of (wf1) rfl (by simp) ?_ | refine call_of (lr) rfl (by simp) ?_ | refine call_of (ll) rfl (by simp) ?_ | refine call_of (lf) rfl (by simp) ?_ | refine call_of (wm) rfl (by simp) ?_ | refine call_of (z1) rfl (by simp) ?_ | refine call_of (z2) rfl (by simp) ?_ | exact fp_one (by decide) | refine fp_and (by decide) ?_ | refine br_l (by omega) (by omega) ?_ | refine br_r (by omega) (by omega) ?_ | refine br_p (by omega) (by omega) ?_ | refine br_q (by omega) (by omega) ?_); try simp -dsimp)
    · refine sp_of (m := no) mixed Tryz.func3 k3 ?_
      simp -dsimp [q]
      repeat ((first | refine call_of (wb) rfl (by simp) ?_ | refine call_of (w1) rfl (by simp) ?_ | refine call_of (p2) rfl (by simp) ?_ | refine call_of (p1) rfl (by simp) ?_ | refine call_of (p4) rfl (by simp) ?_ | refine call_of (p3) rfl (by simp) ?_ | refine call_of (w2) rfl (by simp) ?_ | refine call_of (wf2) rfl (by simp) ?_ | refine call_of (wf1) rfl (by simp) ?_ | refine call_of (lr) rfl (by simp) ?_ | refine call_of (ll) rfl (by simp) ?_ | refine call_of (z1) rfl (by simp) ?_ | refine call_of (z2) rfl (by simp) ?_ | exact fp_one (by decide) | refine fp_and (by decide) ?_ | refine br_l (by omega) (by omega) ?_ | refine br_r (by omega) (by omega) ?_ | refine br_p (by omega) (by omega) ?_ | refine br_q (by omega) (by omega) ?_); try simp -dsimp)
  · have lf := s_likeP f1 a1 b1 c1 (mvI a1 b1 c1 x y l1 l1.length) f2 a2 b2 c2 l2 (by rw [mvI_len]; omega)
    have lz := s_likeP 0 0 0 0 [] 0 0 0 0 [] (by simp)
    rw [decide_eq_true ⟨rfl, ⟨rfl, rfl, rfl⟩, rfl⟩] at lz
    by_cases h0 : k = 0
    · subst h0
      obtain ⟨⟨e1, e2⟩, wm⟩ := hk rfl
      have lf : Sp Tryz.prog 15 [aP f1 a1 b1 c1 (mvI a1 b1 c1 x y l1 l1.length), aP f2 a2 b2 c2 l2] (vb true) [] := by
        rw [decide_eq_true ⟨e1.1, e1.2, e2⟩] at lf
        exact lf
      refine sp_of (m := no) mixed Tryz.func3 k3 ?_
      simp -dsimp [q]
      repeat ((first | refine call_of (wb) rfl (by simp) ?_ | refine call_of (w1) rfl (by simp) ?_ | refine call_of (p2) rfl (by simp) ?_ | refine call_of (p1) rfl (by simp) ?_ | refine call_of (p4) rfl (by simp) ?_ | refine call_of (p3) rfl (by simp) ?_ | refine call_of (w2) rfl (by simp) ?_ | refine call_of (wf2) rfl (by simp) ?_ | refine call_of (wf1) rfl (by simp) ?_ | refine call_of (lz) rfl (by simp) ?_ | refine call_of (lf) rfl (by simp) ?_ | refine call_of (wm) rfl (by simp) ?_ | exact fp_one (by decide) | refine fp_and (by decide) ?_ | refine br_l (by omega) (by omega) ?_ | refine br_r (by omega) (by omega) ?_ | refine br_p (by omega) (by omega) ?_ | refine br_q (by omega) (by omega) ?_); try simp -dsimp)
      simp [hj]
    · refine sp_of (m := no) mixed Tryz.func3 k3 ?_
      simp -dsimp [q]
      repeat ((first | refine call_of (wb) rfl (by simp) ?_ | refine call_of (w1) rfl (by simp) ?_ | refine call_of (p2) rfl (by simp) ?_ | refine call_of (p1) rfl (by simp) ?_ | refine call_of (p4) rfl (by simp) ?_ | refine call_of (p3) rfl (by simp) ?_ | refine call_of (w2) rfl (by simp) ?_ | refine call_of (wf2) rfl (by simp) ?_ | refine call_of (wf1) rfl (by simp) ?_ | refine call_of (lz) rfl (by simp) ?_ | exact fp_one (by decide) | refine fp_and (by decide) ?_ | refine br_l (by omega) (by omega) ?_ | refine br_r (by omega) (by omega) ?_ | refine br_p (by omega) (by omega) ?_ | refine br_q (by omega) (by omega) ?_); try simp -dsimp)
      simp [hj, h0]
end Go.Proofs.YtgkhakhkebjbpaaGreatEv
namespace Go.Proofs.YtgkhakhkebjbpaaGreatEv
open Go Go.ChangeShapes Go.WideShapes Go.RowKit Go.Deep

abbrev below (W : World) : Nat → Prop := fun b => b < W.heap.size
def OpC {α : Type} (P : Program) (t : TypeId) (encs : α → List V) (wf : α → Prop) : Prop :=
  ∀ (H : Type) (enc : TypeId × Value → H) (W : World) (spare : Nat → Bool) (held : Bool) (fuel : Nat) (cs : List Value) (x : DataW H × List MemPlace),
    DataW.trod enc P W 0 spare held fuel t cs = some x → ∃ a, RepL (below W) W (encs a) cs ∧ wf a
theorem opc_int {P : Program} {t : TypeId} {k : IntKind} (hu : P.underlying t = some (.int k)) : OpC P t (fun n => [V.int k n]) (fun n => (Lit.int k n).wf = true) := by
  intro H enc W spare held fuel cs x h
  obtain ⟨n, rfl, _, hw⟩ := DataW.trod_int hu h
  exact ⟨n, ⟨_, [], rfl, rfl, rfl, rfl⟩, hw⟩
theorem opc_bool {P : Program} {t : TypeId} (hu : P.underlying t = some .bool) : OpC P t (fun b => [V.bool b]) (fun _ => True) := by
  intro H enc W spare held fuel cs x h
  obtain ⟨n, rfl, _⟩ := DataW.trod_bool hu h
  exact ⟨n, ⟨_, [], rfl, rfl, rfl, rfl⟩, trivial⟩
theorem opc_string {P : Program} {t : TypeId} (hu : P.underlying t = some .string) : OpC P t (fun s => [V.str s]) (fun s => s.size ≤ maxLen) := by
  intro H enc W spare held fuel cs x h
  obtain ⟨n, rfl, _, hs⟩ := DataW.trod_string hu h
  exact ⟨n, ⟨_, [], rfl, rfl, rfl, rfl⟩, hs⟩
theorem list_of {α : Type} {n : Nat} {p : Nat → α → Prop} (h : ∀ i, i < n → ∃ x, p i x) : ∃ l : List α, l.length = n ∧ ∀ i (hi : i < l.length), p i l[i] := by
  induction n with
  | zero => exact ⟨[], rfl, fun i hi => absurd hi (Nat.not_lt_zero _)⟩
  | succ n ih =>
    obtain ⟨l, hl, hp⟩ := ih (fun i hi => h i (Nat.lt_succ_of_lt hi))
    obtain ⟨x, hx⟩ := h n (Nat.lt_succ_self n)
    refine ⟨l ++ [x], by simp [hl], fun i hi => ?_⟩
    by_cases e : i < l.length
    · rw [List.getElem_append_left e]; exact hp i e
    · have : i = n := by simp at hi; omega
      subst this
      rw [List.getElem_append_right (by omega)]
      simpa [hl] using hx
def mkE (k : Nat) (cs : List V) : V := if k = 0 then cs.headD default else .ag cs
theorem repAt_of {S : Nat → Prop} {w : World} {Ad : Option Addr} {e : Nat} : ∀ (xs : List V) (i : Nat), (∀ j x, xs[j]? = some x → ∃ b u, Ad = some b ∧ S b.block ∧ Rep S w x u ∧ u.cells.size = cz e ∧ x.isAg = (e != 0) ∧ ∀ (k : Nat) y, u.cells[k]? = some y → w.cell? (b.add ((i + j) * cz e + k)) = some y) → RepAt S w Ad e i xs
  | [], _, _ => trivial
  | x :: xs, i, h => by
    refine ⟨by simpa using h 0 x rfl, repAt_of xs (i + 1) (fun j y hy => ?_)⟩
    obtain ⟨b, u, h1, h2, h3, h4, h5, h6⟩ := h (j + 1) y (by simpa using hy)
    exact ⟨b, u, h1, h2, h3, h4, h5, fun k z hz => by rw [show i + 1 + j = i + (j + 1) by omega]; exact h6 k z hz⟩
theorem mkE_rep {S : Nat → Prop} {w : World} {k : Nat} {ds : List V} {cs : List Value} (h : RepL S w ds cs) (hl : cs.length = cz k) : ∃ u, Rep S w (mkE k ds) u ∧ u.cells.toList = cs ∧ (mkE k ds).isAg = (k != 0) := by
  unfold mkE
  by_cases hk : k = 0
  · subst hk
    rw [if_pos rfl]
    match ds, cs, h, hl with
    | [d], [c], ⟨u, us', h1, h2, h3, h4⟩, _ =>
      cases h1
      have := h3.cellsNe h2
      exact ⟨c, h3, by rw [this.2], h2⟩
    | [], [], _, hl => cases hl
    | _ :: _ :: _, [], h, _ => obtain ⟨_, _, h1, _⟩ := h; cases h1
    | [_], [], h, _ => obtain ⟨_, _, h1, _⟩ := h; cases h1
    | [_], _ :: _ :: _, _, hl => cases hl
    | [], _ :: _, h, _ => simp [RepL] at h
    | _ :: _ :: _, [_], h, _ => obtain ⟨_, _, h1, _, _, _, _, h2, _⟩ := h; cases h1; cases h2
    | _ :: _ :: _, _ :: _ :: _, _, hl => cases hl
  · rw [if_neg hk]
    exact ⟨.agg cs.toArray, ⟨cs, rfl, h⟩, by simp [Value.cells], by simp [V.isAg, hk]⟩
theorem opc_slice {α : Type} {P : Program} {t e : TypeId} {k : Nat} {encs : α → List V} {wf : α → Prop} (hu : P.underlying t = some (.slice e)) (hk : kindOf P e = some k) (h : OpC P e encs wf) :
    OpC P t (fun l : List α => [V.sl k (l.map fun a => mkE k (encs a))]) (fun l => l.length ≤ maxLen ∧ ∀ x ∈ l, wf x) := by
  intro H enc W spare held fuel cs x hx
  have hsz : P.cellsOf e = cz k := by
    obtain ⟨_, i, _, h1, h2, _⟩ := kindOf_spec hk
    simp [Program.cellsOf, h1, h2]
  rcases open_slice hu hx with ⟨rfl, _⟩ | ⟨a, len, cap, m, n, D, Pl, rfl, _, hl, hm, hmm, _, hel⟩
  · exact ⟨[], ⟨_, [], rfl, rfl, ⟨none, 0, rfl, Nat.le_refl _, Nat.zero_le _, trivial⟩, rfl⟩, Nat.zero_le _, fun x hx => absurd hx (by simp)⟩
  · have hle : len ≤ m := by rw [hmm]; split <;> omega
    obtain ⟨l, hlen, hp⟩ := list_of (p := fun i y => ∃ cs', W.cells? 0 (a.add (i * P.cellsOf e)) (P.cellsOf e) = some cs' ∧ RepL (below W) W (encs y) cs' ∧ wf y) (n := len) (fun i hi => by
      obtain ⟨cs', h1, h2⟩ := hel i (by omega)
      obtain ⟨y, hK, hw⟩ := h H enc W spare held n cs' _ h2
      exact ⟨y, cs', h1, hK, hw⟩)
    subst hlen
    refine ⟨l, ⟨_, [], rfl, rfl, ⟨some a, cap, by simp, by simpa using hl, hm, repAt_of _ 0 (fun j x hj => ?_)⟩, rfl⟩, Nat.le_trans hl hm, fun y hy => ?_⟩
    · simp only [List.getElem?_map, Option.map_eq_some_iff] at hj
      obtain ⟨y, hj, rfl⟩ := hj
      obtain ⟨hj', rfl⟩ := List.getElem?_eq_some_iff.1 hj
      obtain ⟨cs', h1, hK, _⟩ := hp j hj'
      obtain ⟨_, hcl, hcell⟩ := World.cells?_some h1
      rw [hsz] at hcl hcell
      obtain ⟨u, h2, h3, h4⟩ := mkE_rep hK hcl
      have hus : u.cells.size = cz k := by rw [← hcl, ← h3]; simp
      have cell : ∀ (i : Nat) y, u.cells[i]? = some y → W.cell? (a.add (j * cz k + i)) = some y := by
        intro i y hy
        have hi : i < cz k := by have := (Array.getElem?_eq_some_iff.1 hy).1; omega
        have := hcell i hi
        rw [Go.Deep.add_add] at this
        rw [this, ← h3]
        simpa using hy
      refine ⟨a, u, rfl, ?_, h2, hus, h4, fun i y hy => by simpa using cell i y hy⟩
      have h0 : 0 < u.cells.size := by rw [hus]; exact cz_pos k
      have := World.block_lt_of_cell? W _ (cell 0 _ (Array.getElem?_eq_getElem h0))
      rwa [add_block] at this
    · obtain ⟨j, hj, rfl⟩ := List.mem_iff_getElem.1 hy
      obtain ⟨_, _, _, hw⟩ := hp j hj
      exact hw
theorem RepL.append {S : Nat → Prop} {w : World} : ∀ {az bs : List V} {us vs : List Value}, RepL S w az us → RepL S w bs vs → RepL S w (az ++ bs) (us ++ vs)
  | [], _, us, _, h, k => by simp only [RepL] at h; subst h; exact k
  | a :: az, _, us, vs, ⟨u, us', h1, h2, h3, h4⟩, k => by subst h1; exact ⟨u, us' ++ vs, rfl, h2, h3, h4.append k⟩
/-- The fields of a struct, from a place on. -/
def OpF {α : Type} (P : Program) (fs : List Field) (off n : Nat) (encs : α → List V) (wf : α → Prop) : Prop :=
  ∀ (H : Type) (enc : TypeId × Value → H) (W : World) (spare : Nat → Bool) (held : Bool) (fuel : Nat) (cs : List Value), cs.length = off + n →
    (∀ f ∈ fs, ∃ y, DataW.trod enc P W 0 spare held fuel f.type ((cs.drop f.offset).take (P.cellsOf f.type)) = some y) → ∃ a, RepL (below W) W (encs a) (cs.drop off) ∧ wf a
theorem opf_one {α : Type} {P : Program} {f : Field} {off n : Nat} {encs : α → List V} {wf : α → Prop} (ho : f.offset = off) (hc : P.cellsOf f.type = n) (h : OpC P f.type encs wf) : OpF P [f] off n encs wf := by
  intro H enc W spare held fuel cs hl hf
  obtain ⟨y, hy⟩ := hf f (by simp)
  rw [ho, hc, List.take_of_length_le (by rw [List.length_drop]; omega)] at hy
  exact h H enc W spare held fuel _ _ hy
theorem opf_cons {α β : Type} {P : Program} {f : Field} {fs : List Field} {off n m : Nat} {encs : α → List V} {encs1 : β → List V} {wf : α → Prop} {wf1 : β → Prop} (ho : f.offset = off) (hc : P.cellsOf f.type = n) (h : OpC P f.type encs wf) (h1 : OpF P fs (off + n) m encs1 wf1) :
    OpF P (f :: fs) off (n + m) (fun a : α × β => encs a.1 ++ encs1 a.2) (fun a => wf a.1 ∧ wf1 a.2) := by
  intro H enc W spare held fuel cs hl hf
  obtain ⟨y, hy⟩ := hf f (by simp)
  rw [ho, hc] at hy
  obtain ⟨a, hK, hw⟩ := h H enc W spare held fuel _ _ hy
  obtain ⟨b, hK1, hw1⟩ := h1 H enc W spare held fuel cs (by omega) (fun g hg => hf g (by simp [hg]))
  refine ⟨(a, b), ?_, hw, hw1⟩
  have := hK.append hK1
  rwa [← List.drop_drop, List.take_append_drop] at this
theorem opc_struct {α : Type} {P : Program} {t : TypeId} {fs : Array Field} {n : Nat} {encs : α → List V} {wf : α → Prop} (hu : P.underlying t = some (.struct fs)) (hc : P.cellsOf t = n) (h : OpF P fs.toList 0 n encs wf) : OpC P t encs wf := by
  intro H enc W spare held fuel cs x hx
  obtain ⟨xs, m, _, _, hl, hlen, hf⟩ := DataW.trod_struct hu hx
  have := h H enc W spare held m cs (by omega) (fun f hf' => by
    obtain ⟨i, hi, rfl⟩ := List.mem_iff_getElem.1 hf'
    have h2 := hf i fs.toList[i] (by simp at hi ⊢)
    rw [List.getElem?_eq_getElem (by simp at hi; omega)] at h2
    exact ⟨_, h2⟩)
  simpa using this
theorem agg_of {P : Program} {W : World} {r : Reach} {base : Nat} {t : TypeId} {fs : Array Field} {v : Value} (hu : P.underlying t = some (.struct fs)) (hv : Value.okWide P W r base t v) : ∃ cs : Array Value, v = .agg cs := by
  obtain ⟨cs, rfl, _⟩ := okWide_struct hu hv
  exact ⟨cs, rfl⟩
theorem cell_rows {w : World} {g : Nat} {v : Value} (h : w.cell? ⟨g, 0, none⟩ = some v) : ∃ cs t z, w.heap[g]? = some (.cells cs t z) ∧ cs[0]? = some v := by
  unfold World.cell? at h
  split at h
  · rename_i cs t z hh
    refine ⟨cs, t, z, hh, ?_⟩
    simpa using h
  · cases h
theorem rows_cell {w : World} {g : Nat} {v : Value} {cs : Array Value} {t : TypeId} {z : Nat × Nat} (h : w.heap[g]? = some (.cells cs t z)) (h0 : cs[0]? = some v) : w.cell? ⟨g, 0, none⟩ = some v := by
  unfold World.cell?
  simp only [h]
  simpa using h0
/-- A law's call comes back with true, and what was there is there. -/
theorem law_calls {P : Program} {f : Nat} {az : List A} (h : Sp P f az (.v (.bool true)) []) (W : World) (hT : Tbl W (fun _ => False) (below W)) (us : List Value) (hus : ARs (fun _ => none) (fun _ => (0, 0)) (below W) W az us) :
    Calls P f us.toArray W fun e w' => e = .returned (.bool true) ∧ Below W.heap.size W w' := by
  have R0 : Rl W (fun _ => False) (below W) (fun i => ([] : List Ck)[i]?) (fun _ => (0, 0)) (below W) W :=
    ⟨hT, rfl, rfl, rfl, Nat.le_refl _, fun _ _ _ => rfl, fun _ h => h, fun _ h => .inl h, fun _ h => h, fun i => trivial, fun i c hc => (by cases hc), fun i j c d hc => (by cases hc)⟩
  refine (h.2 (below W) W us (fun _ => False) (fun _ => (0, 0)) R0 hus).mono ?_
  rintro e w' ⟨u, S', μ', rfl, R, _, hu⟩
  have : u = .bool true := hu
  exact ⟨by rw [this], R.os, R.tape, R.output, R.size, fun k hk => R.keep k hk (fun h => h)⟩
theorem ar_agg {S : Nat → Prop} {w : World} {ds : List V} {cs : Array Value} (h : RepL S w ds cs.toList) : AR (fun _ => none) (fun _ => (0, 0)) S w (.v (.ag ds)) (.agg cs) := ⟨cs.toList, by simp, h⟩
theorem ar_one {S : Nat → Prop} {w : World} {d : V} {v : Value} (h : RepL S w [d] [v]) : AR (fun _ => none) (fun _ => (0, 0)) S w (.v d) v := by
  obtain ⟨u, us', h1, h2, h3, h4⟩ := h
  cases h1
  exact h3
end Go.Proofs.YtgkhakhkebjbpaaGreatEv
