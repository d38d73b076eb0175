/- What the code computes, and what it means: part 4 of the proof of FnJournals. No condition of its own. -/
import Derived.Handed
import Derived.Shelf.Vars
import Derived.Stop.LaidErr
import Derived.Lib.LaidTab
import Derived.Test.YtcnhcilpaplpcaaGreatDoorCFnJournals3
namespace Go.Proofs.YtcnhcilpaplpcaaGreatDoorEv
open Go Go.Proofs
set_option maxRecDepth 10000
@[simp] theorem gs_nil : gs [] = [] := rfl
@[simp] theorem gs_len (l : List G6) : (gs l).length = l.length := by simp [gs]
@[simp] theorem gs_get (l : List G6) (n : Nat) (K : V → Prop) : fA ((gs l)[n]?) K = ∀ g, l[n]? = some g → K (.ag [.int .i64 g.1.1, .int .i64 g.1.2.1, .int .i64 g.1.2.2.1, .int .i64 g.1.2.2.2, .int .i64 g.2.1, .int .i64 g.2.2]) := by unfold gs; exact fA_map
@[simp] theorem gs_app (l : List G6) (a b c d x y : Int) : gs l ++ [.ag [.int .i64 a, .int .i64 b, .int .i64 c, .int .i64 d, .int .i64 x, .int .i64 y]] = gs (l ++ [((a, b, c, d), x, y)]) := by simp [gs, vg]
@[simp] theorem gs_set (l : List G6) (n : Nat) (a b c d x y : Int) : (gs l).set n (.ag [.int .i64 a, .int .i64 b, .int .i64 c, .int .i64 d, .int .i64 x, .int .i64 y]) = gs (l.set n ((a, b, c, d), x, y)) := by simp [gs, vg, List.map_set]
@[simp] theorem gs_flat (l : List G6) : (∀ x, x ∈ gs l → x.flat = true) ↔ True := by
  simp only [iff_true]
  intro x hx
  obtain ⟨y, _, rfl⟩ := List.mem_map.1 hx
  rfl
theorem vg_inj (g h : G6) (e : vg g = vg h) : g = h := by
  obtain ⟨⟨a, b, c, d⟩, x, y⟩ := g
  obtain ⟨⟨a', b', c', d'⟩, x', y'⟩ := h
  simp only [vg, V.ag.injEq, List.cons.injEq, V.int.injEq, true_and, and_true] at e
  obtain ⟨rfl, rfl, rfl, rfl, rfl, rfl⟩ := e
  rfl
@[simp] theorem gs_inj (a b : List G6) : gs a = gs b ↔ a = b := by
  constructor
  · exact fun h => (List.map_inj_right (fun x y e => vg_inj x y e)).1 h
  · rintro rfl; rfl
abbrev vgs (l : List G6) : V := .sl 6 (gs l)
def gE (S : List G6) : List (V × V) := S.map fun y => (vg y, V.bool true)
@[simp] theorem gE_nil : gE [] = [] := rfl
@[simp] theorem gE_get (S : List G6) (a b c d x y : Int) : lkA (.bool false) false (mget (.ag [.int .i64 a, .int .i64 b, .int .i64 c, .int .i64 d, .int .i64 x, .int .i64 y]) (gE S)) = .v (.bool (decide (((a, b, c, d), x, y) ∈ S))) := by
  have := mget_enc vg vg_inj S ((a, b, c, d), x, y)
  rw [show V.ag [.int .i64 a, .int .i64 b, .int .i64 c, .int .i64 d, .int .i64 x, .int .i64 y] = vg ((a, b, c, d), x, y) from rfl, gE, this]
  by_cases h : ((a, b, c, d), x, y) ∈ S <;> simp [h, lkA]
@[simp] theorem gE_put (S : List G6) (a b c d x y : Int) : mput (.ag [.int .i64 a, .int .i64 b, .int .i64 c, .int .i64 d, .int .i64 x, .int .i64 y]) (.bool true) (gE S) = gE (if ((a, b, c, d), x, y) ∈ S then S else S ++ [((a, b, c, d), x, y)]) := by
  have := mput_enc vg vg_inj S ((a, b, c, d), x, y)
  rw [show V.ag [.int .i64 a, .int .i64 b, .int .i64 c, .int .i64 d, .int .i64 x, .int .i64 y] = vg ((a, b, c, d), x, y) from rfl, gE, this, gE]
  by_cases h : ((a, b, c, d), x, y) ∈ S <;> simp [h]
@[simp] theorem gE_keyed (S : List G6) (a b c d x y : Int) : keyed 6 [1, 1, 1, 1, 1, 1] (.ag [.int .i64 a, .int .i64 b, .int .i64 c, .int .i64 d, .int .i64 x, .int .i64 y]) (gE S) ↔ True := by
  simp only [keyed, iff_true]
  refine ⟨rfl, rfl, fun p hp => ?_⟩
  obtain ⟨v, _, rfl⟩ := List.mem_map.1 hp
  exact ⟨rfl, rfl⟩
/-! the order -/
def lexLt : List Int → List Int → Bool
  | x :: xs, y :: ys => if x = y then lexLt xs ys else decide (x < y)
  | _, _ => false
theorem lexLt_irr : ∀ xs, lexLt xs xs = false
  | [] => rfl
  | x :: xs => by simp [lexLt, lexLt_irr xs]
theorem lexLt_trans : ∀ {xs ys zs : List Int}, xs.length = ys.length → ys.length = zs.length → lexLt xs ys = true → lexLt ys zs = true → lexLt xs zs = true
  | [], _, _, _, _, h, _ => by simp [lexLt] at h
  | x :: xs, [], _, h, _, _, _ => by simp at h
  | x :: xs, y :: ys, [], _, h, _, _ => by simp at h
  | x :: xs, y :: ys, z :: zs, h1, h2, h3, h4 => by
    simp only [lexLt] at h3 h4 ⊢
    split at h3 <;> split at h4 <;> split
    · exact lexLt_trans (by simpa using h1) (by simpa using h2) h3 h4
    · exfalso; omega
    · exfalso; rename_i e1 e2 e3; simp at h4; omega
    · simp at h4 ⊢; omega
    · exfalso; rename_i e1 e2 e3; simp at h3; omega
    · simp at h3 ⊢; omega
    · simp at h3 h4; omega
    · simp at h3 h4 ⊢; omega
theorem lexLt_at : ∀ {xs ys : List Int} {i : Nat} {x y : Int}, xs.take i = ys.take i → xs[i]? = some x → ys[i]? = some y → x ≠ y → lexLt xs ys = decide (x < y) ∧ xs ≠ ys
  | [], _, _, _, _, _, h, _, _ => by simp at h
  | _ :: _, [], _, _, _, _, _, h, _ => by simp at h
  | a :: xs, b :: ys, 0, x, y, _, h1, h2, hn => by
    simp only [List.getElem?_cons_zero, Option.some.injEq] at h1 h2
    subst h1 h2
    simp [lexLt, hn]
  | a :: xs, b :: ys, i + 1, x, y, h, h1, h2, hn => by
    simp only [List.take_succ_cons, List.cons.injEq] at h
    obtain ⟨rfl, h⟩ := h
    have := lexLt_at h (by simpa using h1) (by simpa using h2) hn
    simp [lexLt, this.1, this.2]
theorem lexLt_app : ∀ {xs ys us vs : List Int}, xs.length = ys.length → lexLt (xs ++ us) (ys ++ vs) = if xs = ys then lexLt us vs else lexLt xs ys
  | [], [], _, _, _ => by simp
  | [], _ :: _, _, _, h => by simp at h
  | _ :: _, [], _, _, h => by simp at h
  | x :: xs, y :: ys, us, vs, h => by
    have := lexLt_app (us := us) (vs := vs) (show xs.length = ys.length by simpa using h)
    simp only [List.cons_append, lexLt]
    by_cases e : x = y
    · subst e
      simp only [if_true, this, List.cons.injEq, true_and]
    · simp [e]
theorem s_cmpN (xs ys : List Int) (hl : xs.length = ys.length) (hx : xs.length ≤ 1048576) : Sp Tryz.prog 144 [.v (vis xs), .v (vis ys)] (vi (if xs = ys then 0 else if lexLt xs ys = true then -1 else 1)) [] := by
  refine sp_of (m := no) mixed Tryz.func144 k144 ?_
  simp -dsimp [q]
  refine awp_it (true :: true :: false :: false :: false :: false :: false :: true :: true :: []) (fun i : Nat => [(8, vi i)]) (fun i => []) (fun i => i ≤ xs.length ∧ xs.take i = ys.take i) (fun i => xs.length - i) 0 ?_
  intro s0 e
  simp -dsimp at e
  subst e
  refine ⟨?_, ?_⟩
  · simp
  rintro i ⟨hi, ht⟩
  simp -dsimp
  refine ⟨fun h1 => ⟨h1, fun x hx' => ⟨by omega, fun y hy' => ⟨fun hn => ?_, fun e => ?_⟩⟩⟩, fun h1 => ?_⟩
  · have hl2 := lexLt_at ht hx' hy' hn
    simp -dsimp [hx', hy', hl2]
    exact ⟨by omega, by omega⟩
  · subst e
    refine ⟨i + 1, by rw [w64 (by omega) (by omega)]; simp, ⟨by omega, ?_⟩, by omega⟩
    rw [List.take_add_one, List.take_add_one, ht, hx', hy']
  · rw [List.take_of_length_le h1, List.take_of_length_le (by omega)] at ht
    exact fun hn => absurd ht hn
theorem s_lessL (xs ys : List Int) (hl : xs.length = ys.length) (hx : xs.length ≤ 1048576) : Sp Tryz.prog 169 [.v (vis xs), .v (vis ys)] (vb (lexLt xs ys)) [] := by
  refine sp_of (m := no) mixed Tryz.func169 k169 ?_
  simp -dsimp [q]
  refine awp_it (true :: true :: false :: false :: false :: true :: []) (fun i : Nat => [(5, vi i)]) (fun i => []) (fun i => i ≤ xs.length ∧ xs.take i = ys.take i) (fun i => xs.length - i) 0 ?_
  intro s0 e
  simp -dsimp at e
  subst e
  refine ⟨?_, ?_⟩
  · simp
  rintro i ⟨hi, ht⟩
  simp -dsimp
  refine ⟨fun h1 => ⟨fun h2 => ⟨h1, fun x hx' => ⟨h2, fun y hy' => ⟨fun hn => ?_, fun e => ?_⟩⟩⟩, fun h2 => ?_⟩, fun h1 => ?_⟩
  · refine ⟨h1, fun x2 hx2 => ⟨h2, fun y2 hy2 => ?_⟩⟩
    rw [hx'] at hx2
    rw [hy'] at hy2
    cases hx2
    cases hy2
    exact (lexLt_at ht hx' hy' hn).1.symm
  · subst e
    refine ⟨i + 1, by rw [w64 (by omega) (by omega)]; simp, ⟨by omega, ?_⟩, by omega⟩
    rw [List.take_add_one, List.take_add_one, ht, hx', hy']
  · omega
  · rw [List.take_of_length_le h1, List.take_of_length_le (by omega)] at ht
    rw [ht, lexLt_irr]
    simp
def m4 (m : M4) : List Int := [m.1, m.2.1, m.2.2.1, m.2.2.2]
def t2 (v : Int × Int) : List Int := [v.1, v.2]
def ltG (g h : G6) : Bool := if g.1 = h.1 then lexLt (t2 g.2) (t2 h.2) else lexLt (m4 g.1) (m4 h.1)
theorem m4_inj (m n : M4) : m4 m = m4 n ↔ m = n := by
  constructor
  · intro h
    simp only [m4, List.cons.injEq, and_true] at h
    exact Prod.ext h.1 (Prod.ext h.2.1 (Prod.ext h.2.2.1 h.2.2.2))
  · rintro rfl; rfl
theorem ltG_lex (g h : G6) : ltG g h = lexLt (m4 g.1 ++ t2 g.2) (m4 h.1 ++ t2 h.2) := by
  have e : (m4 g.1).length = (m4 h.1).length := rfl
  rw [lexLt_app e]
  clear e
  unfold ltG
  by_cases e : g.1 = h.1
  · rw [if_pos e, if_pos (by rw [e])]
  · rw [if_neg e, if_neg (fun k => e ((m4_inj _ _).1 k))]
theorem ltG_irr (g : G6) : ltG g g = false := by rw [ltG_lex, lexLt_irr]
theorem ltG_trans {g h k : G6} (h1 : ltG g h = true) (h2 : ltG h k = true) : ltG g k = true := by
  rw [ltG_lex] at *
  exact lexLt_trans (ys := m4 h.1 ++ t2 h.2) rfl rfl h1 h2
theorem s_cmpM (m n : M4) : Sp Tryz.prog 112 [aM4 m, aM4 n] (vi (if m = n then 0 else if lexLt (m4 m) (m4 n) = true then -1 else 1)) [] := by
  refine sp_of (m := no) mixed Tryz.func112 k112 ?_
  have w := s_cmpN (m4 m) (m4 n) rfl (by simp [m4])
  simp only [m4_inj] at w
  simp -dsimp [q]
  refine call_of ((w : Sp Tryz.prog _ [.v (.sl 0 [.int .i64 m.1, .int .i64 m.2.1, .int .i64 m.2.2.1, .int .i64 m.2.2.2]), .v (.sl 0 [.int .i64 n.1, .int .i64 n.2.1, .int .i64 n.2.2.1, .int .i64 n.2.2.2])] _ _)) rfl (by simp) ?_
  try simp -dsimp
  try (first | exact fp_one (by decide) | refine fp_and (by decide) ?_)
theorem t2_inj (m n : Int × Int) : t2 m = t2 n ↔ m = n := by
  constructor
  · intro h
    simp only [t2, List.cons.injEq, and_true] at h
    exact Prod.ext h.1 h.2
  · rintro rfl; rfl
theorem s_cmpV (m n : Int × Int) : Sp Tryz.prog 113 [aV m.1 m.2, aV n.1 n.2] (vi (if m = n then 0 else if lexLt (t2 m) (t2 n) = true then -1 else 1)) [] := by
  refine sp_of (m := no) mixed Tryz.func113 k113 ?_
  have w := s_cmpN (t2 m) (t2 n) rfl (by simp [t2])
  simp only [t2_inj] at w
  simp -dsimp [q]
  refine call_of ((w : Sp Tryz.prog _ [.v (.sl 0 [.int .i64 m.1, .int .i64 m.2]), .v (.sl 0 [.int .i64 n.1, .int .i64 n.2])] _ _)) rfl (by simp) ?_
  try simp -dsimp
  try (first | exact fp_one (by decide) | refine fp_and (by decide) ?_)
theorem s_cmpG (g h : G6) : ∃ k, Sp Tryz.prog 86 [aG6 g, aG6 h] (vi k) [] ∧ (0 ≤ k ↔ ltG g h = false) := by
  have w1 := s_cmpM g.1 h.1
  have w2 := s_cmpV g.2 h.2
  by_cases e : g.1 = h.1
  · rw [if_pos e] at w1
    refine ⟨if g.2 = h.2 then 0 else if lexLt (t2 g.2) (t2 h.2) = true then -1 else 1, ?_, ?_⟩
    · refine sp_of (m := no) mixed Tryz.func86 k86 ?_
      simp -dsimp [q]
      refine call_of (w1) rfl (by simp) ?_
      try simp -dsimp
      try (first | exact fp_one (by decide) | refine fp_and (by decide) ?_)
      refine call_of (w2) rfl (by simp) ?_
      try simp -dsimp
      try (first | exact fp_one (by decide) | refine fp_and (by decide) ?_)
    · unfold ltG
      rw [if_pos e]
      by_cases e2 : g.2 = h.2
      · rw [if_pos e2, e2, lexLt_irr]; simp
      · rw [if_neg e2]; split <;> simp_all
  · rw [if_neg e] at w1
    refine ⟨if lexLt (m4 g.1) (m4 h.1) = true then -1 else 1, ?_, ?_⟩
    · refine sp_of (m := no) mixed Tryz.func86 k86 ?_
      simp -dsimp [q]
      refine call_of (w1) rfl (by simp) ?_
      try simp -dsimp
      try (first | exact fp_one (by decide) | refine fp_and (by decide) ?_)
      split <;> simp
    · unfold ltG
      rw [if_neg e]
      split <;> simp_all
theorem s_sless (x y x' y' : Int) : Sp Tryz.prog 158 [aV x y, aV x' y'] (vb (lexLt (t2 (x, y)) (t2 (x', y')))) [] := by
  refine sp_of (m := no) mixed Tryz.func158 k158 ?_
  simp -dsimp [q]
  refine ⟨fun h => ⟨fun e => ?_, fun e => ?_⟩, fun h => ?_⟩
  · simp [lexLt, t2, e]
    by_cases e2 : y = y' <;> simp [e2]
  · simp [lexLt, t2, e]
    omega
  · simp [lexLt, t2]
    rw [if_neg (by omega)]
    simpa using h
theorem s_nums (m : M4) : Sp Tryz.prog 170 [aM4 m] (.v (.sl 0 [.int .i64 m.1, .int .i64 m.2.1, .int .i64 m.2.2.1, .int .i64 m.2.2.2])) [] := by
  refine sp_of (m := no) mixed Tryz.func170 k170 ?_
  simp -dsimp [q]
theorem s_lessM (m n : M4) : Sp Tryz.prog 157 [aM4 m, aM4 n] (vb (lexLt (m4 m) (m4 n))) [] := by
  refine sp_of (m := no) mixed Tryz.func157 k157 ?_
  have w := s_lessL (m4 m) (m4 n) rfl (by simp [m4])
  simp -dsimp [q]
  refine call_of (s_nums m) rfl (by simp) ?_
  try simp -dsimp
  try (first | exact fp_one (by decide) | refine fp_and (by decide) ?_)
  refine call_of (s_nums n) rfl (by simp) ?_
  try simp -dsimp
  try (first | exact fp_one (by decide) | refine fp_and (by decide) ?_)
  refine call_of ((w : Sp Tryz.prog _ [.v (.sl 0 [.int .i64 m.1, .int .i64 m.2.1, .int .i64 m.2.2.1, .int .i64 m.2.2.2]), .v (.sl 0 [.int .i64 n.1, .int .i64 n.2.1, .int .i64 n.2.2.1, .int .i64 n.2.2.2])] _ _)) rfl (by simp) ?_
  try simp -dsimp
  try (first | exact fp_one (by decide) | refine fp_and (by decide) ?_)
theorem s_lessG (g h : G6) : Sp Tryz.prog 132 [aG6 g, aG6 h] (vb (ltG g h)) [] := by
  refine sp_of (m := no) mixed Tryz.func132 k132 ?_
  have w1 := s_lessM g.1 h.1
  have w2 := s_sless g.2.1 g.2.2 h.2.1 h.2.2
  simp -dsimp [q]
  refine ⟨fun hn => ?_, fun e1 e2 e3 e4 => ?_⟩
  · have e : ltG g h = lexLt (m4 g.1) (m4 h.1) := by
      unfold ltG
      rw [if_neg (fun e => by rw [e] at hn; exact hn rfl rfl rfl rfl)]
    rw [← e] at w1
    refine call_of (w1) rfl (by simp) ?_
    try simp -dsimp
    try (first | exact fp_one (by decide) | refine fp_and (by decide) ?_)
  · have e : ltG g h = lexLt (t2 g.2) (t2 h.2) := by
      unfold ltG
      rw [if_pos (Prod.ext e1 (Prod.ext e2 (Prod.ext e3 e4)))]
    rw [← e] at w2
    refine call_of (w2) rfl (by simp) ?_
    try simp -dsimp
    try (first | exact fp_one (by decide) | refine fp_and (by decide) ?_)
/-! searching -/
def srt (l : List G6) : Prop := l.Pairwise fun g h => ltG g h = true
theorem srt_get {l : List G6} (h : srt l) {i j : Nat} {g k : G6} (hi : l[i]? = some g) (hj : l[j]? = some k) (hij : i < j) : ltG g k = true := by
  obtain ⟨hi', rfl⟩ := List.getElem?_eq_some_iff.1 hi
  obtain ⟨hj', rfl⟩ := List.getElem?_eq_some_iff.1 hj
  exact List.pairwise_iff_getElem.1 h i j hi' hj' hij
def plc (l : List G6) (m : G6) : Nat := l.findIdx fun x => !ltG x m
theorem plc_eq {l : List G6} {m : G6} {k : Nat} (hk : k ≤ l.length) (h1 : ∀ (j : Nat) x, j < k → l[j]? = some x → ltG x m = true) (h2 : ∀ (j : Nat) x, k ≤ j → l[j]? = some x → ltG x m = false) : plc l m = k := by
  unfold plc
  by_cases e : k < l.length
  · refine (List.findIdx_eq e).2 ⟨by simp [h2 k l[k] (Nat.le_refl _) (List.getElem?_eq_getElem e)], fun j hj => ?_⟩
    simp [h1 j l[j] hj (List.getElem?_eq_getElem (by omega))]
  · have : k = l.length := by omega
    subst this
    rw [List.findIdx_eq_length]
    intro x hx
    obtain ⟨j, hj⟩ := List.getElem?_of_mem hx
    simp [h1 j x (List.getElem?_eq_some_iff.1 hj).1 hj]
def plI (l : List G6) (m : G6) (lo hi : Nat) : Prop := lo ≤ hi ∧ hi ≤ l.length ∧ (∀ (j : Nat) x, j < lo → l[j]? = some x → ltG x m = true) ∧ ∀ (j : Nat) x, hi ≤ j → l[j]? = some x → ltG x m = false
theorem s_place (l : List G6) (m : G6) (hs : srt l) (hl : l.length ≤ 1048576) : Sp Tryz.prog 105 [.v (vgs l), aG6 m] (vi (plc l m)) [] := by
  refine sp_of (m := no) mixed Tryz.func105 k105 ?_
  simp -dsimp [q]
  refine awp_it (true :: false :: false :: true :: false :: true :: true :: []) (fun s : Nat × Nat => [(5, vi s.1), (6, vi s.2)]) (fun s => []) (fun s => plI l m s.1 s.2) (fun s => s.2 - s.1) (0, l.length) ?_
  intro s0 e
  simp -dsimp at e
  subst e
  refine ⟨?_, ?_⟩
  · refine ⟨by simp, by simp, by simp, fun j x hj => by simp at hj, fun j x hj hx => ?_⟩
    have := (List.getElem?_eq_some_iff.1 hx).1
    simp only at hj
    omega
  rintro ⟨lo, hi⟩ ⟨k1, k2, k3, k4⟩
  simp only at k1 k2 k3 k4
  simp -dsimp [-Prod.forall, -Prod.exists]
  refine ⟨fun h1 => ?_, fun h1 => ?_⟩
  · have e : IntKind.i64.wrap ((IntKind.i64.wrap ((lo : Int) + hi)).tdiv 2) = ((lo + hi) / 2 : Nat) := by
      rw [w64 (n := (lo : Int) + hi) (by omega) (by omega), Int.tdiv_eq_ediv_of_nonneg (by omega), w64 (by omega) (by omega)]
      omega
    rw [e]
    generalize hm : (lo + hi) / 2 = md
    have hm1 : lo ≤ md ∧ md < hi := by omega
    refine ⟨⟨by omega, by omega⟩, fun x hx => ?_⟩
    rw [Int.toNat_natCast] at hx
    refine call_of (s_lessG x m) rfl (by simp) ?_
    try simp -dsimp
    try (first | exact fp_one (by decide) | refine fp_and (by decide) ?_)
    refine ⟨fun hlt => ⟨md + 1, hi, ⟨by rw [w64 (by omega) (by omega)]; simp, rfl⟩, ⟨by omega, by omega, fun j y hj hy => ?_, k4⟩, by omega⟩, fun hlt => ⟨lo, md, ⟨rfl, rfl⟩, ⟨by omega, by omega, k3, fun j y hj hy => ?_⟩, by omega⟩⟩
    · by_cases e2 : j = md
      · subst e2
        rw [hx] at hy
        cases hy
        exact hlt
      · exact ltG_trans (srt_get hs hy hx (by omega)) hlt
    · by_cases e2 : j = md
      · subst e2
        rw [hx] at hy
        cases hy
        exact hlt
      · cases hq : ltG y m with
        | false => rfl
        | true =>
          rw [ltG_trans (srt_get hs hx hy (by omega)) hq] at hlt
          cases hlt
  · rw [plc_eq (k := lo) (by omega) k3 (fun j x hj hx => k4 j x (by omega) hx)]
theorem plc_has {l : List G6} {m : G6} (hs : srt l) : (plc l m < l.length ∧ l[plc l m]? = some m) ↔ m ∈ l := by
  constructor
  · exact fun h => List.mem_of_getElem? h.2
  · intro h
    obtain ⟨j, hj⟩ := List.getElem?_of_mem h
    have hjl := (List.getElem?_eq_some_iff.1 hj).1
    have : plc l m = j := plc_eq (by omega) (fun i x hi hx => srt_get hs hx hj hi) (fun i x hi hx => by
      by_cases e : i = j
      · subst e
        rw [hj] at hx
        cases hx
        exact ltG_irr m
      · cases hq : ltG x m with
        | false => rfl
        | true =>
          have := ltG_trans (srt_get hs hj hx (by omega)) hq
          rw [ltG_irr] at this
          cases this)
    rw [this]
    exact ⟨hjl, hj⟩
theorem s_shas (l : List G6) (m : G6) (hs : srt l) (hl : l.length ≤ 1048576) : Sp Tryz.prog 80 [.v (vgs l), aG6 m] (vb (decide (m ∈ l))) [] := by
  refine sp_of (m := no) mixed Tryz.func80 k80 ?_
  have hp := plc_has (m := m) hs
  simp -dsimp [q, -Prod.forall, -Prod.exists]
  refine call_of (s_place l m hs hl) rfl (by simp) ?_
  try simp -dsimp
  try (first | exact fp_one (by decide) | refine fp_and (by decide) ?_)
  refine ⟨fun h1 => ⟨h1, fun a b c d x y hx => ?_⟩, fun h1 hm => ?_⟩
  · rw [Bool.eq_iff_iff, cdec_true, decide_eq_true_iff, ← hp, hx]
    obtain ⟨⟨a', b', c', d'⟩, x', y'⟩ := m
    simp only [Option.some.injEq, Prod.mk.injEq]
    constructor
    · rintro ⟨rfl, rfl, rfl, rfl, rfl, rfl⟩; exact ⟨h1, ⟨rfl, rfl, rfl, rfl⟩, rfl, rfl⟩
    · rintro ⟨_, ⟨rfl, rfl, rfl, rfl⟩, rfl, rfl⟩; exact ⟨rfl, rfl, rfl, rfl, rfl, rfl⟩
  · have := (hp.2 hm).1
    omega
end Go.Proofs.YtcnhcilpaplpcaaGreatDoorEv
namespace Go.Proofs.YtcnhcilpaplpcaaGreatDoorEv
open Go Go.Proofs
set_option maxRecDepth 10000
theorem is_ne (l : List Int) (h : l ≠ []) : is l ≠ [] := by simpa [is] using h
def maskL (l : List Int) (ink : Int) : List Int := l.map fun x => if x = ink then 1 else 0
theorem maskL_len (l : List Int) (ink : Int) : (maskL l ink).length = l.length := by simp [maskL]
theorem maskL_take {l : List Int} {ink z : Int} {n : Nat} (h : l[n]? = some z) : (maskL l ink).take (n + 1) = (maskL l ink).take n ++ [if z = ink then 1 else 0] := by
  rw [List.take_add_one]
  simp [maskL, h]
abbrev ovI (p m : List Int) (ink : Int) (n : Nat) : List Int := setN (fun k => decide (m.getD k 0 = 1)) (fun k => k) (fun _ => ink) p n
abbrev ovS (a b c u v : Int) (p m : List Int) (ink : Int) (n : Nat) : List Int := setN (fun k => decide (m.getD k 0 = 1)) (mv a b c u v) (fun _ => ink) p n
end Go.Proofs.YtcnhcilpaplpcaaGreatDoorEv
namespace Go.Proofs.YtcnhcilpaplpcaaGreatDoorEv
open Go Go.Proofs
set_option maxRecDepth 10000
theorem lf_one {a : Int} (ha : 0 < a) : lstep (0, 0, 0) (a, 0) = (a, 0, 0) ∧ lstepS (0, 0, 0) (a, 0) = (a, 0, 0) := by
  have h : (a.natAbs : Int) = a := by omega
  simp [lstep, lstepS, eu, h]
theorem eu_two {a b c : Int} (hc : 0 < c) : eu c.natAbs (0, 0) (b, c) = ((b, c), (0, 0)) := by
  have h := eu_step (h := (0, 0)) (v := (b, c)) (show c ≠ 0 by omega)
  simp only at h
  rw [h]
  simp [eu]
theorem lf_two {a b c : Int} (ha : 0 < a) (hc : 0 < c) : lstep (a, 0, 0) (b, c) = (a, b, c) ∧ lstepS (a, 0, 0) (b, c) = (a, b % a, c) := by
  have h : (a.natAbs : Int) = a := by omega
  simp only [lstep, lstepS, eu_two (a := a) (b := b) hc, Int.gcd_zero_right, h, if_pos ha, and_self]
theorem lf_basis {a b c : Int} (ha : 0 < a) (hc : 0 < c) : lfold [(a, 0), (b, c)] = (a, b, c) ∧ lfoldS [(a, 0), (b, c)] = (a, b % a, c) := by
  simp only [lfold, lfoldS, List.foldl_cons, List.foldl_nil, lf_one ha, lf_two ha hc, and_self]
theorem take2 {α : Type} (x y : α) (P : List α → Prop) (h0 : P []) (h1 : P [x]) (h2 : P [x, y]) : ∀ k, P (([x, y] : List α).take k)
  | 0 => h0
  | 1 => h1
  | k + 2 => by simpa using h2
theorem ls_basis {a b c : Int} (ha : 1 ≤ a ∧ a ≤ 64) (hb : 0 ≤ b ∧ b < a) (hc : 1 ≤ c ∧ c ≤ 64) : lsmall [(a, 0), (b, c)] ∧ lsmallS [(a, 0), (b, c)] := by
  have hv : ∀ v ∈ ([(a, 0), (b, c)] : List (Int × Int)), smallV 1000000 v := by
    intro v hv
    simp only [List.mem_cons, List.not_mem_nil, or_false] at hv
    rcases hv with rfl | rfl <;> exact ⟨by simp only; omega, by simp only; omega⟩
  have h1 := lf_one (a := a) (by omega)
  have h2 := lf_basis (a := a) (b := b) (c := c) (by omega) (by omega)
  have h3 : b % a = b := Int.emod_eq_of_lt hb.1 hb.2
  refine ⟨⟨hv, take2 _ _ (fun l => smallV 1000000 (lfold l).2 ∧ (lfold l).1.natAbs ≤ 1000000) ?_ ?_ ?_⟩, hv, take2 _ _ (fun l => smallV 1000000 (lfoldS l).2 ∧ (lfoldS l).1.natAbs ≤ 1000000) ?_ ?_ ?_⟩
  · simp [lfold, smallV]
  · simp only [lfold, List.foldl_cons, List.foldl_nil, h1.1, smallV]; omega
  · rw [h2.1]; simp only [smallV]; omega
  · simp [lfoldS, smallV]
  · simp only [lfoldS, List.foldl_cons, List.foldl_nil, h1.2, smallV]; omega
  · rw [h2.2]; simp only [smallV]; omega
abbrev mvI (a b c u v : Int) (l : List Int) (n : Nat) : List Int := (List.range n).map fun j => l.getD (mv a b c (-u) (-v) j) 0
theorem mvI_take {a b c u v : Int} {l : List Int} {n i : Nat} (hi : i < n) : (mvI a b c u v l n).take (i + 1) = (mvI a b c u v l n).take i ++ [l.getD (mv a b c (-u) (-v) i) 0] := by
  rw [List.take_add_one]
  simp [mvI, List.getElem?_range hi]
theorem mvI_len {a b c u v : Int} {l : List Int} {n : Nat} : (mvI a b c u v l n).length = n := by simp [mvI]
theorem mvS_eq {a b c u v : Int} {l : List Int} (ha : 0 < a) (hc : 0 < c) (hl : (l.length : Int) = a * c) : setN (fun _ => true) (mv a b c u v) (fun k => l.getD k 0) (List.replicate l.length 0) l.length = mvI a b c u v l l.length := by
  apply List.ext_getElem?
  intro j
  by_cases hj : j < l.length
  · have h1 : mv a b c (-u) (-v) j < l.length := by have := mv_lt (b := b) (u := -u) (v := -v) ha hc j; omega
    rw [setN_get (p := fun _ => true) (i := mv a b c (-u) (-v) j) (m := l.length) (by simpa using hj) h1 (fun k hk => mv_iff ha hc (by omega) (by omega)) l.length (Nat.le_refl _)]
    simp [h1, hj, mvI, List.getElem?_range hj]
  · rw [List.getElem?_eq_none (by rw [setN_len]; simp; omega), List.getElem?_eq_none (by rw [mvI_len]; omega)]
theorem cdec_eq (p : Prop) [Decidable p] : cdec p = decide p := by
  by_cases h : p
  · rw [decide_eq_true h, cdec_true.2 h]
  · rw [decide_eq_false h, cdec_false.2 h]
/-! the search -/
def fR : Option (Int × Int) → Int × Int × Int
  | some t => (t.1, t.2, 0)
  | none => (0, 0, 4)
def fF (a b c : Int) (l l' : List Int) : Option (Int × Int) := (cellsL c.toNat a.toNat).find? fun t => decide (mvI a b c t.1 t.2 l l.length = l')
theorem find_hit {α : Type} {l : List α} {p : α → Bool} {i : Nat} {z : α} (hz : l[i]? = some z) (hp : p z = true) (hn : ∀ x ∈ l.take i, p x = false) : l.find? p = some z := by
  obtain ⟨hi, rfl⟩ := List.getElem?_eq_some_iff.1 hz
  refine List.find?_eq_some_iff_getElem.2 ⟨hp, i, hi, rfl, fun j hj => ?_⟩
  simp [hn l[j] (List.mem_take_iff_getElem.2 ⟨j, by omega, rfl⟩)]
theorem find_miss {α : Type} {l : List α} {p : α → Bool} {i : Nat} (hi : l.length ≤ i) (hn : ∀ x ∈ l.take i, p x = false) : l.find? p = none := by
  rw [List.take_of_length_le hi] at hn
  exact List.find?_eq_none.2 (fun x hx => by simp [hn x hx])
theorem mem_take_succ {α : Type} {l : List α} {i : Nat} {z x : α} (hz : l[i]? = some z) (hx : x ∈ l.take (i + 1)) : x ∈ l.take i ∨ x = z := by
  rw [List.take_add_one, hz] at hx
  simpa using hx
/-! what is not to be searched -/
end Go.Proofs.YtcnhcilpaplpcaaGreatDoorEv
namespace Go.Proofs.YtcnhcilpaplpcaaGreatDoorEv
open Go Go.Proofs
set_option maxRecDepth 10000
set_option maxHeartbeats 2000000
theorem s_reduceAny (a b c x y : Int) (ha : 1 ≤ a ∧ a ≤ 64) (hc : 1 ≤ c ∧ c ≤ 64) : ∃ X, ((0 ≤ X ∧ X < a) ∧ (inC a c (x, y) → X = x)) ∧ Sp Tryz.prog 106 [aL a b c, aV x y] (aV X (y % c)) [] := by
  refine ⟨(IntKind.i64.wrap (x - IntKind.i64.wrap (IntKind.i64.wrap ((IntKind.i64.wrap (y - y % c)).tdiv c) * b))) % a, ⟨⟨Int.emod_nonneg _ (by omega), Int.emod_lt_of_pos _ (by omega)⟩, fun h => ?_⟩, ?_⟩
  · obtain ⟨h1, h2⟩ := h
    simp only at h1 h2
    rw [Int.emod_eq_of_lt h2.1 h2.2, Int.sub_self, w64 (n := 0) (by omega) (by omega), Int.zero_tdiv, w64 (n := 0) (by omega) (by omega), Int.zero_mul, w64 (n := 0) (by omega) (by omega), Int.sub_zero, w64 (by omega) (by omega), Int.emod_eq_of_lt h1.1 h1.2]
  refine sp_of (m := no) mixed Tryz.func106 k106 ?_
  simp -dsimp [q]
  refine call_of (s_mod _ _ (by omega)) rfl (by simp) ?_
  try simp -dsimp
  try (first | exact fp_one (by decide) | refine fp_and (by decide) ?_)
  refine ⟨by omega, ?_⟩
  refine call_of (s_mod _ _ (by omega)) rfl (by simp) ?_
  try simp -dsimp
  try (first | exact fp_one (by decide) | refine fp_and (by decide) ?_)
def mulM (m n : M4) : M4 := (m.1 * n.1 + m.2.1 * n.2.2.1, m.1 * n.2.1 + m.2.1 * n.2.2.2, m.2.2.1 * n.1 + m.2.2.2 * n.2.2.1, m.2.2.1 * n.2.1 + m.2.2.2 * n.2.2.2)
def oneM (m : M4) : Prop := (m.1.natAbs ≤ 1 ∧ m.2.1.natAbs ≤ 1) ∧ m.2.2.1.natAbs ≤ 1 ∧ m.2.2.2.natAbs ≤ 1
theorem s_mmul (m n : M4) (hm : oneM m) (hn : oneM n) : Sp Tryz.prog 107 [aM4 m, aM4 n] (aM4 (mulM m n)) [] := by
  refine sp_of (m := no) mixed Tryz.func107 k107 ?_
  obtain ⟨⟨m1, m2⟩, m3, m4⟩ := hm
  obtain ⟨⟨n1, n2⟩, n3, n4⟩ := hn
  have h1 := mul_bd m1 n1
  have h2 := mul_bd m2 n3
  have h3 := mul_bd m1 n2
  have h4 := mul_bd m2 n4
  have h5 := mul_bd m3 n1
  have h6 := mul_bd m4 n3
  have h7 := mul_bd m3 n2
  have h8 := mul_bd m4 n4
  simp -dsimp [q]
  rw [w64 (n := m.1 * n.1) (by omega) (by omega), w64 (n := m.2.1 * n.2.2.1) (by omega) (by omega), w64 (n := m.1 * n.2.1) (by omega) (by omega), w64 (n := m.2.1 * n.2.2.2) (by omega) (by omega),
    w64 (n := m.2.2.1 * n.1) (by omega) (by omega), w64 (n := m.2.2.2 * n.2.2.1) (by omega) (by omega), w64 (n := m.2.2.1 * n.2.1) (by omega) (by omega), w64 (n := m.2.2.2 * n.2.2.2) (by omega) (by omega)]
  refine ⟨w64 (by omega) (by omega), w64 (by omega) (by omega), w64 (by omega) (by omega), w64 (by omega) (by omega)⟩
theorem s_smmul (m n : M4) (hm : oneM m) (hn : oneM n) : Sp Tryz.prog 102 [aM4 m, aM4 n] (aM4 (mulM m n)) [] := by
  refine sp_of (m := no) mixed Tryz.func102 k102 ?_
  obtain ⟨⟨m1, m2⟩, m3, m4⟩ := hm
  obtain ⟨⟨n1, n2⟩, n3, n4⟩ := hn
  have h1 := mul_bd m1 n1
  have h2 := mul_bd m2 n3
  have h3 := mul_bd m1 n2
  have h4 := mul_bd m2 n4
  have h5 := mul_bd m3 n1
  have h6 := mul_bd m4 n3
  have h7 := mul_bd m3 n2
  have h8 := mul_bd m4 n4
  simp -dsimp [q]
  rw [w64 (n := m.1 * n.1) (by omega) (by omega), w64 (n := m.2.1 * n.2.2.1) (by omega) (by omega), w64 (n := m.1 * n.2.1) (by omega) (by omega), w64 (n := m.2.1 * n.2.2.2) (by omega) (by omega),
    w64 (n := m.2.2.1 * n.1) (by omega) (by omega), w64 (n := m.2.2.2 * n.2.2.1) (by omega) (by omega), w64 (n := m.2.2.1 * n.2.1) (by omega) (by omega), w64 (n := m.2.2.2 * n.2.2.2) (by omega) (by omega)]
  refine ⟨w64 (by omega) (by omega), w64 (by omega) (by omega), w64 (by omega) (by omega), w64 (by omega) (by omega)⟩
def mulG (g h : G6) : G6 := (mulM g.1 h.1, g.1.1 * h.2.1 + g.1.2.1 * h.2.2 + g.2.1, g.1.2.2.1 * h.2.1 + g.1.2.2.2 * h.2.2 + g.2.2)
def redG (a b c : Int) (g : G6) : G6 := (g.1, redX a b c g.2.1 g.2.2, g.2.2 % c)
def memG (a c : Int) (g : G6) : Prop := oneM g.1 ∧ inC a c g.2
theorem s_gmul (g h : G6) (hg : oneM g.1 ∧ g.2.1.natAbs ≤ 1000 ∧ g.2.2.natAbs ≤ 1000) (hh : oneM h.1 ∧ h.2.1.natAbs ≤ 1000 ∧ h.2.2.natAbs ≤ 1000) : Sp Tryz.prog 84 [aG6 g, aG6 h] (aG6 (mulG g h)) [] := by
  refine sp_of (m := no) mixed Tryz.func84 k84 ?_
  have wm := s_mmul g.1 h.1 hg.1 hh.1
  obtain ⟨⟨⟨m1, m2⟩, m3, m4⟩, m5, m6⟩ := hg
  obtain ⟨_, n5, n6⟩ := hh
  have h1 := mul_bd m1 n5
  have h2 := mul_bd m2 n6
  have h3 := mul_bd m3 n5
  have h4 := mul_bd m4 n6
  simp -dsimp [q]
  refine call_of (wm) rfl (by simp) ?_
  try simp -dsimp
  try (first | exact fp_one (by decide) | refine fp_and (by decide) ?_)
  refine call_of (s_apply _ _ _ _ _ _ ⟨⟨by omega, by omega⟩, by omega, by omega⟩ ⟨by omega, by omega⟩) rfl (by simp) ?_
  try simp -dsimp
  try (first | exact fp_one (by decide) | refine fp_and (by decide) ?_)
  refine call_of (s_add _ _ _ _ (by omega) (by omega) (by omega) (by omega)) rfl (by simp) ?_
  try simp -dsimp
  try (first | exact fp_one (by decide) | refine fp_and (by decide) ?_)
  exact ⟨rfl, rfl, rfl, rfl, rfl, rfl⟩
theorem s_sgmul (g h : G6) (hg : oneM g.1 ∧ g.2.1.natAbs ≤ 1000 ∧ g.2.2.natAbs ≤ 1000) (hh : oneM h.1 ∧ h.2.1.natAbs ≤ 1000 ∧ h.2.2.natAbs ≤ 1000) : Sp Tryz.prog 79 [aG6 g, aG6 h] (aG6 (mulG g h)) [] := by
  refine sp_of (m := no) mixed Tryz.func79 k79 ?_
  have wm := s_smmul g.1 h.1 hg.1 hh.1
  obtain ⟨⟨⟨m1, m2⟩, m3, m4⟩, m5, m6⟩ := hg
  obtain ⟨_, n5, n6⟩ := hh
  have h1 := mul_bd m1 n5
  have h2 := mul_bd m2 n6
  have h3 := mul_bd m3 n5
  have h4 := mul_bd m4 n6
  simp -dsimp [q]
  refine call_of (wm) rfl (by simp) ?_
  try simp -dsimp
  try (first | exact fp_one (by decide) | refine fp_and (by decide) ?_)
  refine call_of (s_sapply _ _ _ _ _ _ ⟨⟨by omega, by omega⟩, by omega, by omega⟩ ⟨by omega, by omega⟩) rfl (by simp) ?_
  try simp -dsimp
  try (first | exact fp_one (by decide) | refine fp_and (by decide) ?_)
  refine call_of (s_sadd _ _ _ _ (by omega) (by omega) (by omega) (by omega)) rfl (by simp) ?_
  try simp -dsimp
  try (first | exact fp_one (by decide) | refine fp_and (by decide) ?_)
  exact ⟨rfl, rfl, rfl, rfl, rfl, rfl⟩
theorem s_gred (a b c : Int) (g : G6) (ha : 1 ≤ a ∧ a ≤ 64) (hb : 0 ≤ b ∧ b < a) (hc : 1 ≤ c ∧ c ≤ 64) (hx : -1000000000 ≤ g.2.1 ∧ g.2.1 ≤ 1000000000) (hy : -1000000000 ≤ g.2.2 ∧ g.2.2 ≤ 1000000000) : Sp Tryz.prog 83 [aL a b c, aG6 g] (aG6 (redG a b c g)) [] := by
  refine sp_of (m := no) mixed Tryz.func83 k83 ?_
  simp -dsimp [q]
  refine call_of (s_reduce a b c _ _ ha hb hc hx hy) rfl (by simp) ?_
  try simp -dsimp
  try (first | exact fp_one (by decide) | refine fp_and (by decide) ?_)
  exact ⟨rfl, rfl, rfl, rfl, rfl, rfl⟩
theorem s_sgred (a b c : Int) (g : G6) (ha : 1 ≤ a ∧ a ≤ 64) (hb : 0 ≤ b ∧ b < a) (hc : 1 ≤ c ∧ c ≤ 64) (hx : -1000000000 ≤ g.2.1 ∧ g.2.1 ≤ 1000000000) (hy : -1000000000 ≤ g.2.2 ∧ g.2.2 ≤ 1000000000) : Sp Tryz.prog 78 [aL a b c, aG6 g] (aG6 (redG a b c g)) [] := by
  refine sp_of (m := no) mixed Tryz.func78 k78 ?_
  simp -dsimp [q]
  refine call_of (s_sreduce a b c _ _ ha hb hc hx hy) rfl (by simp) ?_
  try simp -dsimp
  try (first | exact fp_one (by decide) | refine fp_and (by decide) ?_)
  exact ⟨rfl, rfl, rfl, rfl, rfl, rfl⟩
abbrev unG : G6 := ((1, 0, 0, 1), 0, 0)
theorem s_sun : Sp Tryz.prog 77 [] (aG6 unG) [] := by
  refine sp_of (m := no) mixed Tryz.func77 k77 ?_
  simp -dsimp [q]
  refine call_of (s_sunit) rfl (by simp) ?_
  try simp -dsimp
  try (first | exact fp_one (by decide) | refine fp_and (by decide) ?_)
/-! is it a group? -/
def elG (f a b c : Int) (g : G6) : Bool := pmOk f g.1 && keepL a b c g.1 && decide (0 ≤ g.2.1 ∧ g.2.1 < a) && decide (0 ≤ g.2.2 ∧ g.2.2 < c)
theorem elG_spec {f a b c : Int} (hf : 0 ≤ f ∧ f ≤ 1) {g : G6} (h : elG f a b c g = true) : oneM g.1 ∧ inC a c g.2 := by
  simp only [elG, Bool.and_eq_true, decide_eq_true_eq] at h
  obtain ⟨h1, h2, _⟩ := pm_facts hf h.1.1.1
  exact ⟨⟨⟨h1.1, h1.2⟩, h2.1, h2.2⟩, h.1.2, h.2⟩
def fst (f a b c : Int) (l : List G6) (i : Nat) : Prop := (∀ g ∈ l.take i, elG f a b c g = true) ∧ srt (l.take i)
theorem fst_succ {f a b c : Int} {l : List G6} {i : Nat} {g : G6} (hg : l[i]? = some g) : fst f a b c l (i + 1) ↔ (fst f a b c l i ∧ elG f a b c g = true ∧ ∀ p, 0 < i → l[i - 1]? = some p → ltG p g = true) := by
  unfold fst srt
  have e : l.take (i + 1) = l.take i ++ [g] := by rw [List.take_add_one, hg]; rfl
  rw [e, List.pairwise_append]
  constructor
  · rintro ⟨h1, h2, _, h3⟩
    refine ⟨⟨fun x hx => h1 x (by simp [hx]), h2⟩, h1 g (by simp), fun p hi hp => h3 p ?_ g (by simp)⟩
    exact List.mem_of_getElem? (i := i - 1) (by rw [List.getElem?_take_of_lt (by omega)]; exact hp)
  · rintro ⟨⟨h1, h2⟩, h3, h4⟩
    refine ⟨fun x hx => ?_, h2, by simp, fun x hx y hy => ?_⟩
    · rcases List.mem_append.1 hx with hx | hx
      · exact h1 x hx
      · simp only [List.mem_singleton] at hx; rw [hx]; exact h3
    · simp only [List.mem_singleton] at hy
      subst hy
      obtain ⟨j, hj⟩ := List.getElem?_of_mem hx
      have hji : j < i := by
        have := (List.getElem?_eq_some_iff.1 hj).1
        simp at this; omega
      have hil := (List.getElem?_eq_some_iff.1 hg).1
      obtain ⟨p, hp⟩ : ∃ p, l[i - 1]? = some p := ⟨_, List.getElem?_eq_getElem (show i - 1 < l.length by omega)⟩
      have h5 := h4 _ (by omega) hp
      by_cases ej : j = i - 1
      · subst ej
        rw [List.getElem?_take_of_lt (by omega), hp] at hj
        cases hj
        exact h5
      · exact ltG_trans (srt_get h2 hj (by rw [List.getElem?_take_of_lt (show i - 1 < i by omega)]; exact hp) (by omega)) h5
def prd (a b c : Int) (l : List G6) (i : Nat) : Prop := ∀ g ∈ l.take i, ∀ h ∈ l, redG a b c (mulG g h) ∈ l
def prd1 (a b c : Int) (l : List G6) (g : G6) (j : Nat) : Prop := ∀ h ∈ l.take j, redG a b c (mulG g h) ∈ l
def grp (f a b c : Int) (l : List G6) : Prop := fst f a b c l l.length ∧ unG ∈ l ∧ prd a b c l l.length
theorem fst_mono {f a b c : Int} {l : List G6} {i j : Nat} (h : i ≤ j) (k : fst f a b c l j) : fst f a b c l i := by
  have e : l.take i = (l.take j).take i := by rw [List.take_take, Nat.min_eq_left h]
  unfold fst srt at *
  rw [e]
  exact ⟨fun g hg => k.1 g (List.mem_of_mem_take hg), k.2.sublist (List.take_sublist _ _)⟩
theorem cdec_t {p : Prop} (h : p) : cdec p = true := cdec_true.2 h
theorem cdec_f {p : Prop} (h : ¬ p) : cdec p = false := cdec_false.2 h
theorem fst_new {f a b c : Int} {l : List G6} {i : Nat} {g : G6} (hg : l[i]? = some g) (h : fst f a b c l (i + 1)) : g ∉ l.take i := by
  intro hm
  obtain ⟨j, hj⟩ := List.getElem?_of_mem hm
  have hji : j < i := by
    have := (List.getElem?_eq_some_iff.1 hj).1
    simp at this; omega
  have := srt_get h.2 (i := j) (j := i) (g := g) (k := g) (by rw [List.getElem?_take_of_lt (by omega)] at hj ⊢; exact hj) (by rw [List.getElem?_take_of_lt (by omega)]; exact hg) hji
  rw [ltG_irr] at this
  cases this
end Go.Proofs.YtcnhcilpaplpcaaGreatDoorEv
namespace Go.Proofs.YtcnhcilpaplpcaaGreatDoorEv
open Go Go.Proofs
set_option maxRecDepth 10000
set_option maxHeartbeats 2000000
theorem pm_count (f : Int) (hf : 0 ≤ f ∧ f ≤ 1) : (pmL f 81).length ≤ 12 := by
  rcases (by omega : f = 0 ∨ f = 1) with rfl | rfl
  · decide +kernel
  · decide +kernel
theorem flat_len {α β : Type} (l : List α) (m : List β) : (l.flatMap fun x => m.map fun y => (x, y)).length = l.length * m.length := by
  induction l with
  | nil => simp
  | cons x l ih => simp [ih, Nat.succ_mul, Nat.add_comm]
theorem fst_len {f a b c : Int} {l : List G6} (hf : 0 ≤ f ∧ f ≤ 1) (ha : 1 ≤ a) (hc : 1 ≤ c) (hac : a * c ≤ 64) (h : fst f a b c l l.length) : l.length ≤ 768 := by
  obtain ⟨h1, h2⟩ := h
  rw [List.take_length] at h1 h2
  have hn : l.Nodup := h2.imp fun {x y} hxy e => by rw [e, ltG_irr] at hxy; cases hxy
  have := pigeon l ((pmL f 81).flatMap fun x => (cl a c).map fun y => (x, y)) hn (fun g hg => by
    have hg' := h1 g hg
    have h3 := (elG_spec hf hg').2
    simp only [elG, Bool.and_eq_true] at hg'
    refine List.mem_flatMap.2 ⟨g.1, (pmL_mem hf _ _ _ _).2 hg'.1.1.1, List.mem_map.2 ⟨g.2, List.mem_of_getElem? (cl_ix ha hc h3), rfl⟩⟩)
  rw [flat_len] at this
  have h4 := pm_count f hf
  have h5 : (cl a c).length ≤ 64 := by
    unfold cl
    rw [cellsL_len]
    have : ((a.toNat * c.toNat : Nat) : Int) = a * c := by rw [Int.natCast_mul, Int.toNat_of_nonneg (by omega), Int.toNat_of_nonneg (by omega)]
    omega
  have := Nat.mul_le_mul h4 h5
  omega
theorem elG_suit {f a b c : Int} (hf : 0 ≤ f ∧ f ≤ 1) (ha : 1 ≤ a ∧ a ≤ 64) (hc : 1 ≤ c ∧ c ≤ 64) {g : G6} : elG f a b c g = true ↔ (suitG f a b c g = true ∧ redG a b c g = g) := by
  constructor
  · intro h
    obtain ⟨_, h1, h2⟩ := elG_spec hf h
    simp only [elG, Bool.and_eq_true] at h
    refine ⟨?_, ?_⟩
    · simp only [suitG, suit, Bool.and_eq_true]
      exact ⟨h.1.1, okV_spec.2 (by omega)⟩
    · unfold redG redX
      rw [Int.ediv_eq_zero_of_lt h2.1 h2.2, Int.emod_eq_of_lt h2.1 h2.2, Int.zero_mul, Int.sub_zero, Int.emod_eq_of_lt h1.1 h1.2]
  · rintro ⟨h1, h2⟩
    simp only [suitG, suit, Bool.and_eq_true] at h1
    have h3 := red_lt (a := a) (b := b) (c := c) (x := g.2.1) (y := g.2.2) ha.1 hc.1
    have e1 : redX a b c g.2.1 g.2.2 = g.2.1 := congrArg (fun g : G6 => g.2.1) h2
    have e2 : g.2.2 % c = g.2.2 := congrArg (fun g : G6 => g.2.2) h2
    rw [e1, e2] at h3
    simp only [elG, Bool.and_eq_true, decide_eq_true_eq]
    exact ⟨⟨h1.1, h3.1⟩, h3.2⟩
end Go.Proofs.YtcnhcilpaplpcaaGreatDoorEv
namespace Go.Proofs.YtcnhcilpaplpcaaGreatDoorEv
open Go Go.Proofs
set_option maxRecDepth 10000
/-! lists of vectors -/
def okS (l : List (Int × Int)) : Bool := decide (l.length = 9) && l.all fun v => okV v.1 v.2
theorem all_not_any {α : Type} (l : List α) (p : α → Bool) : (!(l.any fun v => !p v)) = l.all p := by
  induction l with
  | nil => rfl
  | cons x l ih => simp only [List.any_cons, List.all_cons, Bool.not_or, Bool.not_not, ih]
/-! the prints -/
theorem okP_mask {f a b c : Int} {l : List Int} (ink : Int) (h : okP f a b c l = true) : okP f a b c (maskL l ink) = true := by
  rw [okP_spec] at h ⊢
  refine ⟨h.1, h.2.1, by rw [maskL_len]; exact h.2.2.1, fun n hn => ?_⟩
  obtain ⟨x, _, rfl⟩ := List.mem_map.1 hn
  split <;> omega
theorem ovS_eq {a b c u v : Int} {p m : List Int} {ink : Int} (ha : 0 < a) (hc : 0 < c) (hp : (p.length : Int) = a * c) (hm : m.length = p.length) : ovS a b c u v p m ink p.length = ovI p (mvI a b c u v m m.length) ink p.length := by
  apply List.ext_getElem?
  intro j
  by_cases hj : j < p.length
  · have h1 : mv a b c (-u) (-v) j < p.length := by have := mv_lt (b := b) (u := -u) (v := -v) ha hc j; omega
    rw [setN_get (i := mv a b c (-u) (-v) j) (m := p.length) hj h1 (fun k hk => mv_iff ha hc (by omega) (by omega)) p.length (Nat.le_refl _)]
    rw [setN_get (i := j) (m := p.length) hj hj (fun k hk => Iff.rfl) p.length (Nat.le_refl _)]
    simp [h1, hj, hm, mvI, List.getElem?_range hj]
  · rw [List.getElem?_eq_none (by rw [setN_len]; omega), List.getElem?_eq_none (by rw [setN_len]; omega)]
def prL (a b c : Int) (l : List Int) (sh : List (Int × Int)) : Nat → List Int
  | 0 => List.replicate l.length 0
  | k + 1 => ovI (prL a b c l sh k) (mvI a b c (sh.getD k (0, 0)).1 (sh.getD k (0, 0)).2 (maskL l (k + 1)) l.length) (k + 1) l.length
theorem prL_len {a b c : Int} {l : List Int} {sh : List (Int × Int)} : ∀ k, (prL a b c l sh k).length = l.length
  | 0 => by simp [prL]
  | k + 1 => by rw [prL, setN_len, prL_len k]
theorem okS_get {sh : List (Int × Int)} (h : okS sh = true) {k : Nat} {x y : Int} (hk : sh[k]? = some (x, y)) : x.natAbs ≤ 1000 ∧ y.natAbs ≤ 1000 := by
  simp only [okS, Bool.and_eq_true, List.all_eq_true] at h
  have := okV_spec.1 (h.2 _ (List.mem_of_getElem? hk))
  simp only at this
  omega
/-! all of it -/
abbrev zP : A := .ag [vi 0, vi 0, vi 0, vi 0, .nil 0]
def gapL (p r : List Int) : Nat → Int
  | 0 => 0
  | n + 1 => gapL p r n + if r.getD n 0 = 0 ∧ p.getD n 0 ≠ 0 then 1 else 0
theorem gapL_bd (p r : List Int) : ∀ n, 0 ≤ gapL p r n ∧ gapL p r n ≤ n
  | 0 => by simp [gapL]
  | n + 1 => by have := gapL_bd p r n; simp only [gapL]; split <;> omega
end Go.Proofs.YtcnhcilpaplpcaaGreatDoorEv
namespace Go.Proofs.YtcnhcilpaplpcaaGreatDoorEv
open Go Go.Proofs
set_option maxRecDepth 10000
set_option maxHeartbeats 1000000
@[simp] theorem gs_rep (n : Nat) (a b c d x y : Int) : List.replicate n (V.ag [.int .i64 a, .int .i64 b, .int .i64 c, .int .i64 d, .int .i64 x, .int .i64 y]) = gs (List.replicate n ((a, b, c, d), x, y)) := by simp [gs, vg]
/-! codes -/
def cellB (a c : Int) (v : Int × Int) : Bool := decide (0 ≤ v.1 ∧ v.1 ≤ a - 1) && decide (0 ≤ v.2 ∧ v.2 ≤ c - 1)
theorem s_isCell (a b c x y : Int) (ha : 1 ≤ a ∧ a ≤ 64) (hc : 1 ≤ c ∧ c ≤ 64) : Sp Tryz.prog 33 [aL a b c, aV x y] (vb (cellB a c (x, y))) [] := by
  refine sp_of (m := no) mixed Tryz.func33 k33 ?_
  have w1 := s_within x 0 (a - 1)
  have w2 := s_within y 0 (c - 1)
  unfold cellB
  simp only
  generalize decide (0 ≤ x ∧ x ≤ a - 1) = b1 at *
  generalize decide (0 ≤ y ∧ y ≤ c - 1) = b2 at *
  simp -dsimp [q]
  rw [w64 (by omega) (by omega)]
  refine call_of (w1) rfl (by simp) ?_
  try simp -dsimp
  try (first | exact fp_one (by decide) | refine fp_and (by decide) ?_)
  cases b1
  · simp -dsimp
  simp -dsimp
  rw [w64 (by omega) (by omega)]
  refine call_of (w2) rfl (by simp) ?_
  try simp -dsimp
  try (first | exact fp_one (by decide) | refine fp_and (by decide) ?_)
theorem s_sisCell (a b c x y : Int) : ∃ T, Sp Tryz.prog 39 [aL a b c, aV x y] (vb T) [] ∧ (okL a b c = true → T = cellB a c (x, y)) := by
  refine ⟨decide (0 ≤ x ∧ x ≤ IntKind.i64.wrap (a - 1)) && decide (0 ≤ y ∧ y ≤ IntKind.i64.wrap (c - 1)), ?_, fun h => ?_⟩
  · refine sp_of (m := no) mixed Tryz.func39 k39 ?_
    have w1 := s_in x 0 (IntKind.i64.wrap (a - 1))
    have w2 := s_in y 0 (IntKind.i64.wrap (c - 1))
    generalize decide (0 ≤ x ∧ x ≤ IntKind.i64.wrap (a - 1)) = b1 at *
    generalize decide (0 ≤ y ∧ y ≤ IntKind.i64.wrap (c - 1)) = b2 at *
    simp -dsimp [q]
    refine call_of (w1) rfl (by simp) ?_
    try simp -dsimp
    try (first | exact fp_one (by decide) | refine fp_and (by decide) ?_)
    cases b1
    · simp -dsimp
    simp -dsimp
    refine call_of (w2) rfl (by simp) ?_
    try simp -dsimp
    try (first | exact fp_one (by decide) | refine fp_and (by decide) ?_)
  · obtain ⟨ha, hc, _, _⟩ := okL_spec.1 h
    rw [w64 (by omega) (by omega), w64 (by omega) (by omega)]
    rfl
end Go.Proofs.YtcnhcilpaplpcaaGreatDoorEv
namespace Go.Proofs.YtcnhcilpaplpcaaGreatDoorEv
open Go Go.Proofs
set_option maxRecDepth 10000
set_option maxHeartbeats 1000000
abbrev K3 := (Int × Int) × Int
def vk (k : K3) : V := .ag [.int .i64 k.1.1, .int .i64 k.1.2, .int .i64 k.2]
def ks (l : List K3) : List V := l.map vk
abbrev aK (k : K3) : A := .v (.ag [.int .i64 k.1.1, .int .i64 k.1.2, .int .i64 k.2])
@[simp] theorem ks_nil : ks [] = [] := rfl
@[simp] theorem ks_len (l : List K3) : (ks l).length = l.length := by simp [ks]
@[simp] theorem ks_get (l : List K3) (n : Nat) (K : V → Prop) : fA ((ks l)[n]?) K = ∀ k, l[n]? = some k → K (.ag [.int .i64 k.1.1, .int .i64 k.1.2, .int .i64 k.2]) := by unfold ks; exact fA_map
@[simp] theorem ks_app (l : List K3) (x y c : Int) : ks l ++ [.ag [.int .i64 x, .int .i64 y, .int .i64 c]] = ks (l ++ [((x, y), c)]) := by simp [ks, vk]
@[simp] theorem ks_set (l : List K3) (n : Nat) (x y c : Int) : (ks l).set n (.ag [.int .i64 x, .int .i64 y, .int .i64 c]) = ks (l.set n ((x, y), c)) := by simp [ks, vk, List.map_set]
@[simp] theorem ks_rep (n : Nat) (x y c : Int) : List.replicate n (V.ag [.int .i64 x, .int .i64 y, .int .i64 c]) = ks (List.replicate n ((x, y), c)) := by simp [ks, vk]
@[simp] theorem ks_flat (l : List K3) : (∀ x, x ∈ ks l → x.flat = true) ↔ True := by
  simp only [iff_true]
  intro x hx
  obtain ⟨y, _, rfl⟩ := List.mem_map.1 hx
  rfl
theorem vk_inj (g h : K3) (e : vk g = vk h) : g = h := by
  obtain ⟨⟨x, y⟩, c⟩ := g
  obtain ⟨⟨x', y'⟩, c'⟩ := h
  simp only [vk, V.ag.injEq, List.cons.injEq, V.int.injEq, true_and, and_true] at e
  obtain ⟨rfl, rfl, rfl⟩ := e
  rfl
@[simp] theorem ks_inj (a b : List K3) : ks a = ks b ↔ a = b := by
  constructor
  · exact fun h => (List.map_inj_right (fun x y e => vk_inj x y e)).1 h
  · rintro rfl; rfl
abbrev vks (l : List K3) : V := .sl 3 (ks l)
theorem s_szK (l : List K3) (n : Int) (h : l.length ≤ maxLen) (hn : 0 ≤ n ∧ n ≤ 1048576) : Sp Tryz.prog 6 [.v (vks l), vi n] (vi (if n < l.length then -1 else n - l.length)) [] := by
  refine sp_of (m := no) mixed Tryz.func6 k6 ?_
  rw [mLen] at h
  simp -dsimp [q]
  rw [w64 (by omega) (by omega)]
  constructor
  · intro h1 h2; omega
  · intro h1; rw [if_neg (by omega)]
theorem s_toK1 (k : K3) : Sp Tryz.prog 24 [aK k] (aK k) [] := by
  refine sp_of (m := no) mixed Tryz.func24 k24 ?_
  simp -dsimp [q]
  refine call_of (s_toV k.1.1 k.1.2) rfl (by simp) ?_
  try simp -dsimp
  try (first | exact fp_one (by decide) | refine fp_and (by decide) ?_)
theorem s_toK (l : List K3) (h : l.length ≤ 1048576) : Sp Tryz.prog 8 [.v (vks l)] (.sli 0) [.row 3 54 (ks l)] := by
  refine sp_of (m := no) mixed Tryz.func8 k8 ?_
  simp -dsimp [q]
  refine ⟨⟨by omega, by omega⟩, ?_⟩
  refine awp_it (true :: false :: false :: true :: true :: []) (fun i : Nat => [(4, vi i)]) (fun i => [(0, .row 3 54 (ks (l.take i ++ List.replicate (l.length - i) ((0, 0), 0))))]) (fun i => i ≤ l.length) (fun i => l.length - i) 0 ?_
  intro s0 e
  simp -dsimp at e
  subst e
  refine ⟨?_, ?_⟩
  · simp
  intro i hi
  simp -dsimp [-Prod.forall, -Prod.exists]
  refine ⟨fun h1 => ⟨h1, fun g ha => ?_⟩, fun h1 => ?_⟩
  · refine call_of (s_toK1 g) rfl (by simp) ?_
    try simp -dsimp
    try (first | exact fp_one (by decide) | refine fp_and (by decide) ?_)
    refine ⟨by omega, by omega, i + 1, ⟨by rw [w64 (by omega) (by omega)]; simp, ?_⟩, by omega, by omega⟩
    exact fill_set ha
  · have : i = l.length := by omega
    subst this
    simp
theorem s_eqK1 (g h : K3) : Sp Tryz.prog 27 [aK g, aK h] (vb (decide (g = h))) [] := by
  have w2 := s_eqV g.1.1 g.1.2 h.1.1 h.1.2
  obtain ⟨⟨x, y⟩, c⟩ := g
  obtain ⟨⟨x', y'⟩, c'⟩ := h
  have e : decide (((x, y), c) = ((x', y'), c')) = (decide (x = x' ∧ y = y') && decide (c = c')) := by
    rw [Bool.eq_iff_iff, Bool.and_eq_true, decide_eq_true_iff, decide_eq_true_iff, decide_eq_true_iff]
    simp
  rw [e]
  simp only at w2
  generalize decide (x = x' ∧ y = y') = b2 at *
  generalize hb : decide (c = c') = b1 at *
  refine sp_of (m := no) mixed Tryz.func27 k27 ?_
  simp -dsimp [q]
  refine call_of (w2) rfl (by simp) ?_
  try simp -dsimp
  try (first | exact fp_one (by decide) | refine fp_and (by decide) ?_)
  cases b2
  · simp -dsimp
  cases b1
  · have := of_decide_eq_false hb
    simp -dsimp [this]
  · have := of_decide_eq_true hb
    simp -dsimp [this]
theorem s_eqK (xs ys : List K3) (hx : xs.length ≤ 1048576) : Sp Tryz.prog 10 [.v (vks xs), .v (vks ys)] (vb (decide (xs = ys))) [] := by
  refine sp_of (m := no) mixed Tryz.func10 k10 ?_
  simp -dsimp [q]
  refine ⟨fun h e => h (by rw [e]), fun hl => ?_⟩
  refine awp_it (true :: true :: false :: false :: false :: true :: []) (fun i : Nat => [(5, vi i)]) (fun i => []) (fun i => i ≤ xs.length ∧ xs.take i = ys.take i) (fun i => xs.length - i) 0 ?_
  intro s0 e
  simp -dsimp at e
  subst e
  refine ⟨?_, ?_⟩
  · simp
  intro i hi
  simp -dsimp [-Prod.forall, -Prod.exists]
  obtain ⟨hi, ht⟩ := hi
  refine ⟨fun h1 => ⟨h1, fun g ha => ⟨by omega, fun h hb => ?_⟩⟩, fun h1 => ?_⟩
  · have w := s_eqK1 g h
    by_cases e : g = h
    · subst e
      rw [decide_eq_true rfl] at w
      refine call_of (w) rfl (by simp) ?_
      try simp -dsimp
      try (first | exact fp_one (by decide) | refine fp_and (by decide) ?_)
      refine ⟨i + 1, by rw [w64 (by omega) (by omega)]; simp, ⟨by omega, ?_⟩, by omega⟩
      rw [List.take_add_one, List.take_add_one, ht, ha, hb]
    · rw [decide_eq_false e] at w
      refine call_of (w) rfl (by simp) ?_
      try simp -dsimp
      try (first | exact fp_one (by decide) | refine fp_and (by decide) ?_)
      rintro rfl
      rw [ha] at hb
      cases hb
      exact e rfl
  · have h2 : i = xs.length := by omega
    subst h2
    rw [List.take_length, List.take_of_length_le (by omega)] at ht
    exact ht
/-! strokes for a lattice -/
def okK (a c : Int) (k : K3) : Bool := cellB a c k.1 && decide (0 ≤ k.2 ∧ k.2 ≤ 9)
def okKs (a c : Int) (l : List K3) : Bool := decide (l.length ≤ 100) && l.all (okK a c)
theorem s_isCol (n : Int) : Sp Tryz.prog 55 [vi n] (vb (decide (0 ≤ n ∧ n ≤ 9))) [] := by
  refine sp_of (m := no) mixed Tryz.func55 k55 ?_
  simp -dsimp [q]
  refine call_of (s_within n 0 9) rfl (by simp) ?_
  try simp -dsimp
  try (first | exact fp_one (by decide) | refine fp_and (by decide) ?_)
theorem s_str1 (a b c : Int) (k : K3) (ha : 1 ≤ a ∧ a ≤ 64) (hc : 1 ≤ c ∧ c ≤ 64) : Sp Tryz.prog 66 [aK k, .fq [.int .i64 a, .int .i64 b, .int .i64 c]] (vb (!okK a c k)) [] := by
  have w1 := s_isCell a b c k.1.1 k.1.2 ha hc
  have w2 := s_isCol k.2
  have e : okK a c k = (cellB a c (k.1.1, k.1.2) && decide (0 ≤ k.2 ∧ k.2 ≤ 9)) := rfl
  rw [e]
  generalize cellB a c (k.1.1, k.1.2) = b1 at *
  generalize decide (0 ≤ k.2 ∧ k.2 ≤ 9) = b2 at *
  refine sp_of (m := no) mixed Tryz.func66 k66 ?_
  simp -dsimp [q]
  refine call_of (w1) rfl (by simp) ?_
  try simp -dsimp
  try (first | exact fp_one (by decide) | refine fp_and (by decide) ?_)
  cases b1
  · simp -dsimp
  simp -dsimp
  refine call_of (w2) rfl (by simp) ?_
  try simp -dsimp
  try (first | exact fp_one (by decide) | refine fp_and (by decide) ?_)
theorem s_fiK (l : List K3) (f : Nat) (cs : List A) (p : K3 → Bool) (h : l.length ≤ 1048576) (hc : cs.all A.shut = true) (hf : ∀ v ∈ l, Sp Tryz.prog f (aK v :: cs) (vb (p v)) []) : Sp Tryz.prog 87 [.v (vks l), .fn f cs] (vi (if l.any p = true then l.findIdx p else -1)) [] := by
  refine sp_of (m := no) mixed Tryz.func87 k87 ?_
  simp -dsimp [q, -Prod.forall, -Prod.exists]
  refine awp_it (true :: true :: false :: false :: false :: false :: false :: true :: true :: []) (fun i : Nat => [(8, vi i)]) (fun i => []) (fun i => i ≤ l.length ∧ ∀ x ∈ l.take i, p x = false) (fun i => l.length - i) 0 ?_
  intro s0 e
  simp -dsimp [hc] at e
  subst e
  refine ⟨?_, ?_⟩
  · simp [hc]
  rintro i ⟨hi, hi2⟩
  simp -dsimp [hc, -Prod.forall, -Prod.exists]
  refine ⟨fun h1 => ⟨h1, fun x ha => call_of (rd := []) (hf x (List.mem_of_getElem? ha)) (by simp [toArgs_shut hc]) (by simp) ?_⟩, fun h1 => ?_⟩
  · simp -dsimp [hc, -Prod.forall, -Prod.exists]
    obtain ⟨_, hal⟩ := List.getElem?_eq_some_iff.1 ha
    refine ⟨fun hp => ?_, fun hp => ⟨i + 1, by rw [w64 (by omega) (by omega)]; simp, ⟨by omega, fun x' hx => ?_⟩, by omega⟩⟩
    · rw [if_pos ⟨x, List.mem_of_getElem? ha, hp⟩, (List.findIdx_eq h1).2 ⟨by rw [hal]; exact hp, fun j hj => hi2 _ (List.mem_iff_getElem.2 ⟨j, by simp; omega, by simp⟩)⟩]
    · rw [List.take_add_one, ha] at hx
      rcases List.mem_append.1 hx with hx | hx
      · exact hi2 _ hx
      · simp only [Option.toList_some, List.mem_singleton] at hx; rw [hx]; exact hp
  · rw [List.take_of_length_le h1] at hi2
    exact hi2
theorem s_hasK (l : List K3) (f : Nat) (cs : List A) (p : K3 → Bool) (h : l.length ≤ 1048576) (hc : cs.all A.shut = true) (hf : ∀ v ∈ l, Sp Tryz.prog f (aK v :: cs) (vb (p v)) []) : Sp Tryz.prog 65 [.v (vks l), .fn f cs] (vb (l.any p)) [] := by
  refine sp_of (m := no) mixed Tryz.func65 k65 ?_
  simp -dsimp [q]
  refine call_of (rd := []) (s_fiK l f cs p h hc hf) (by simp [hc]) (by simp) ?_
  simp -dsimp
  by_cases hp : l.any p = true
  · rw [if_pos hp, hp]
    simp
  · rw [if_neg (by simpa using hp)]
    simpa using hp
theorem s_areK (a b c : Int) (l : List K3) (h : l.length ≤ 1048576) (ha : 1 ≤ a ∧ a ≤ 64) (hc : 1 ≤ c ∧ c ≤ 64) : Sp Tryz.prog 45 [aL a b c, .v (vks l)] (vb (okKs a c l)) [] := by
  have w1 := s_hasK l 66 [.fq [.int .i64 a, .int .i64 b, .int .i64 c]] (fun v => !okK a c v) h rfl (fun v _ => s_str1 a b c v ha hc)
  have e : (l.any fun v => !okK a c v) = !(l.all (okK a c)) := by rw [← all_not_any l (okK a c), Bool.not_not]
  rw [e] at w1
  unfold okKs
  generalize l.all (okK a c) = b1 at *
  refine sp_of (m := no) mixed Tryz.func45 k45 ?_
  simp -dsimp [q]
  refine ⟨fun hl => ?_, fun hl => ?_⟩
  · refine call_of (w1) rfl (by simp) ?_
    try simp -dsimp
    try (first | exact fp_one (by decide) | refine fp_and (by decide) ?_)
    simp [show l.length ≤ 100 by omega]
  · simp [show ¬ l.length ≤ 100 by omega]
theorem s_sareK (a b c : Int) (l : List K3) (h : l.length ≤ 1048576) (hk : okL a b c = true) : Sp Tryz.prog 22 [aL a b c, .v (vks l)] (vb (okKs a c l)) [] := by
  refine sp_of (m := no) mixed Tryz.func22 k22 ?_
  simp -dsimp [q]
  refine awp_it (false :: true :: true :: false :: false :: true :: []) (fun i : Nat => [(5, vi i)]) (fun i => []) (fun i => i ≤ l.length ∧ (l.take i).all (okK a c) = true) (fun i => l.length - i) 0 ?_
  intro s0 e
  simp -dsimp at e
  subst e
  refine ⟨?_, ?_⟩
  · simp
  rintro i ⟨hi, hi2⟩
  simp -dsimp [-Prod.forall, -Prod.exists]
  refine ⟨fun h1 => ⟨h1, fun k ha => ?_⟩, fun h1 => ?_⟩
  · obtain ⟨T1, w1, t1⟩ := s_sisCell a b c k.1.1 k.1.2
    have e : okK a c k = (T1 && decide (0 ≤ k.2 ∧ k.2 ≤ 9)) := by rw [t1 hk]; rfl
    have bad : okK a c k = false → okKs a c l = false := fun hb => by
      unfold okKs
      rw [Bool.and_eq_false_iff]
      refine .inr (Bool.eq_false_iff.2 fun hall => ?_)
      rw [List.all_eq_true.1 hall k (List.mem_of_getElem? ha)] at hb
      cases hb
    have w2 := s_in k.2 0 9
    refine call_of (w1) rfl (by simp) ?_
    try simp -dsimp
    try (first | exact fp_one (by decide) | refine fp_and (by decide) ?_)
    rw [e] at bad
    have next : (T1 && decide (0 ≤ k.2 ∧ k.2 ≤ 9)) = true → (l.take (i + 1)).all (okK a c) = true := fun hg => by
      rw [List.take_add_one, ha, List.all_append, hi2]
      simpa [e] using hg
    generalize decide (0 ≤ k.2 ∧ k.2 ≤ 9) = b2 at *
    cases T1
    · simp -dsimp [bad rfl]
    simp -dsimp [-Prod.forall, -Prod.exists]
    refine ⟨h1, fun x y z ha' => ?_⟩
    rw [ha] at ha'
    cases ha'
    refine call_of (w2) rfl (by simp) ?_
    try simp -dsimp
    try (first | exact fp_one (by decide) | refine fp_and (by decide) ?_)
    cases b2
    · simp -dsimp [bad rfl]
    simp -dsimp
    exact ⟨i + 1, by rw [w64 (by omega) (by omega)]; simp, ⟨by omega, fun x y z hm => List.all_eq_true.1 (next rfl) _ hm⟩, by omega⟩
  · rw [List.take_of_length_le (by omega)] at hi2
    unfold okKs
    rw [hi2]
    simp
    omega
end Go.Proofs.YtcnhcilpaplpcaaGreatDoorEv
namespace Go.Proofs.YtcnhcilpaplpcaaGreatDoorEv
open Go Go.Proofs
set_option maxRecDepth 10000
set_option maxHeartbeats 2000000
def ckn (k : K3) (i : Nat) : Nat := (17 * k.1.1.toNat + 29 * k.1.2.toNat + 7 * k.2.toNat + 13 * i) % 997
def lnx (k : K3) (i : Nat) : List UInt8 := vtx k.1.1 k.1.2 ++ [32] ++ Lib.decDigits k.2.toNat ++ [32] ++ Lib.decDigits (ckn k i)
def smK (k : K3) : Prop := (0 ≤ k.1.1 ∧ k.1.1 ≤ 7) ∧ (0 ≤ k.1.2 ∧ k.1.2 ≤ 7) ∧ (0 ≤ k.2 ∧ k.2 ≤ 9)
theorem smK_of {n : Int} (hn : 1 ≤ n ∧ n ≤ 4) {k : K3} (h : okK (2 * n) (2 * n) k = true) : smK k := by
  unfold okK cellB at h
  simp only [Bool.and_eq_true, decide_eq_true_eq] at h
  unfold smK
  omega
theorem okV_sm {k : K3} (h : smK k) : okV k.1.1 k.1.2 = true := by
  unfold smK at h
  exact okV_spec.2 (by omega)
theorem ckn_lt (k : K3) (i : Nat) : ckn k i < 997 := Nat.mod_lt _ (by decide)
theorem vtx_len {x y : Int} (hx : 0 ≤ x ∧ x ≤ 7) (hy : 0 ≤ y ∧ y ≤ 7) : (vtx x y).length ≤ 17 := by
  unfold vtx
  rw [itoa_nn hx.1, itoa_nn hy.1]
  have := dec_len x.toNat
  have := dec_len y.toNat
  simp only [List.length_append, List.length_singleton]
  omega
theorem lnx_len {k : K3} (h : smK k) (i : Nat) : (lnx k i).length ≤ 2000 := by
  unfold lnx
  have h1 := vtx_len h.1 h.2.1
  have h2 := dec_len k.2.toNat
  have h3 := dec_len (ckn k i)
  have h4 := ckn_lt k i
  have := h.2.2
  simp only [List.length_append, List.length_singleton]
  omega
theorem ck_eq {k : K3} (h : smK k) {i : Nat} (hi : i < 1000) : IntKind.i64.wrap (IntKind.i64.wrap (IntKind.i64.wrap (IntKind.i64.wrap (17 * k.1.1) + IntKind.i64.wrap (29 * k.1.2)) + IntKind.i64.wrap (7 * k.2)) + IntKind.i64.wrap (13 * (i : Int))) = ((17 * k.1.1.toNat + 29 * k.1.2.toNat + 7 * k.2.toNat + 13 * i : Nat) : Int) := by
  obtain ⟨h1, h2, h3⟩ := h
  rw [w64 (n := 17 * k.1.1) (by omega) (by omega), w64 (n := 29 * k.1.2) (by omega) (by omega), w64 (n := 7 * k.2) (by omega) (by omega), w64 (n := 13 * (i : Int)) (by omega) (by omega), w64 (n := 17 * k.1.1 + 29 * k.1.2) (by omega) (by omega), w64 (n := 17 * k.1.1 + 29 * k.1.2 + 7 * k.2) (by omega) (by omega), w64 (by omega) (by omega)]
  omega
theorem ck_mod (k : K3) (i : Nat) : (((17 * k.1.1.toNat + 29 * k.1.2.toNat + 7 * k.2.toNat + 13 * i : Nat) : Int)).tmod 997 = (ckn k i : Int) := by
  rw [Int.tmod_eq_emod_of_nonneg (by omega)]
  rfl
theorem bst32 (l : List UInt8) : bst l ++ (⟨#[32]⟩ : ByteArray) = bst (l ++ [32]) := bst_app l [32]
theorem bst10 (l : List UInt8) : bst l ++ (⟨#[10]⟩ : ByteArray) = bst (l ++ [10]) := bst_app l [10]
theorem s_line (k : K3) (i : Nat) (h : smK k) (hi : i < 1000) : Sp Tryz.prog 26 [aK k, vi i] (aT (bst (lnx k i))) [] := by
  have w1 := s_vt k.1.1 k.1.2 (okV_sm h)
  have w2 := s_text k.2 (by have := h.2.2; omega) (by have := h.2.2; omega)
  have w3 := s_text (ckn k i : Int) (by omega) (by have := ckn_lt k i; omega)
  rw [itoa_nn h.2.2.1] at w2
  rw [itoa_nn (by omega), Int.toNat_natCast] at w3
  have e1 := ck_eq h hi
  have e2 := ck_mod k i
  have l1 := vtx_len h.1 h.2.1
  have l2 := dec_len k.2.toNat
  have l3 := dec_len (ckn k i)
  have l4 := ckn_lt k i
  have l5 := h.2.2
  have l6 : (⟨#[32]⟩ : ByteArray).size = 1 := rfl
  unfold lnx
  generalize vtx k.1.1 k.1.2 = v1 at *
  generalize Lib.decDigits k.2.toNat = v2 at *
  generalize Lib.decDigits (ckn k i) = v3 at *
  refine sp_of (m := no) mixed Tryz.func26 k26 ?_
  simp -dsimp [q]
  rw [e1, e2]
  refine call_of (w1) rfl (by simp) ?_
  try simp -dsimp
  try (first | exact fp_one (by decide) | refine fp_and (by decide) ?_)
  rw [bst32]
  refine ⟨by show v1.length + 1 ≤ _; omega, ?_⟩
  refine call_of (w2) rfl (by simp) ?_
  try simp -dsimp
  try (first | exact fp_one (by decide) | refine fp_and (by decide) ?_)
  rw [bst32]
  simp -dsimp
  refine ⟨by omega, by omega, ?_⟩
  refine call_of (w3) rfl (by simp) ?_
  try simp -dsimp
  try (first | exact fp_one (by decide) | refine fp_and (by decide) ?_)
  try simp
  try omega
theorem s_sline (k : K3) (i : Nat) (h : smK k) (hi : i < 1000) : Sp Tryz.prog 23 [aK k, vi i] (aT (bst (lnx k i))) [] := by
  have w1 := s_svt k.1.1 k.1.2 (okV_sm h)
  have w2 := s_sdec k.2.toNat (by have := h.2.2; omega)
  have w3 := s_sdec (ckn k i) (by have := ckn_lt k i; omega)
  rw [show ((k.2.toNat : Nat) : Int) = k.2 by have := h.2.2; omega] at w2
  have e1 := ck_eq h hi
  have e2 := ck_mod k i
  have l1 := vtx_len h.1 h.2.1
  have l2 := dec_len k.2.toNat
  have l3 := dec_len (ckn k i)
  have l4 := ckn_lt k i
  have l5 := h.2.2
  have l6 : (⟨#[32]⟩ : ByteArray).size = 1 := rfl
  unfold lnx
  generalize vtx k.1.1 k.1.2 = v1 at *
  generalize Lib.decDigits k.2.toNat = v2 at *
  generalize Lib.decDigits (ckn k i) = v3 at *
  refine sp_of (m := no) mixed Tryz.func23 k23 ?_
  simp -dsimp [q]
  rw [e1, e2]
  refine call_of (w1) rfl (by simp) ?_
  try simp -dsimp
  try (first | exact fp_one (by decide) | refine fp_and (by decide) ?_)
  rw [bst32]
  refine ⟨by show v1.length + 1 ≤ _; omega, ?_⟩
  refine call_of (w2) rfl (by simp) ?_
  try simp -dsimp
  try (first | exact fp_one (by decide) | refine fp_and (by decide) ?_)
  rw [bst32]
  simp -dsimp
  refine ⟨by omega, by omega, ?_⟩
  refine call_of (w3) rfl (by simp) ?_
  try simp -dsimp
  try (first | exact fp_one (by decide) | refine fp_and (by decide) ?_)
  try simp
  try omega
end Go.Proofs.YtcnhcilpaplpcaaGreatDoorEv
namespace Go.Proofs.YtcnhcilpaplpcaaGreatDoorEv
open Go Go.Proofs
set_option maxRecDepth 10000
set_option maxHeartbeats 2000000
def ckG (k : K3) (i : Nat) : Int := (17 * k.1.1 + 29 * k.1.2 + 7 * k.2 + 13 * i).tmod 997
def lnG (k : K3) (i : Nat) : List UInt8 := vtx k.1.1 k.1.2 ++ [32] ++ Lib.itoa k.2 ++ [32] ++ Lib.itoa (ckG k i)
theorem ckG_lt (k : K3) (i : Nat) : -997 < ckG k i ∧ ckG k i < 997 := by
  unfold ckG
  have h1 := Int.tmod_lt_of_pos (17 * k.1.1 + 29 * k.1.2 + 7 * k.2 + 13 * (i : Int)) (show (0 : Int) < 997 by decide)
  have h2 := Int.lt_tmod_of_pos (17 * k.1.1 + 29 * k.1.2 + 7 * k.2 + 13 * (i : Int)) (show (0 : Int) < 997 by decide)
  omega
theorem lnG_sm {k : K3} (h : smK k) (i : Nat) : lnG k i = lnx k i := by
  unfold lnG lnx
  have e : ckG k i = (ckn k i : Int) := by
    rw [← ck_mod]
    unfold ckG
    obtain ⟨h1, h2, h3⟩ := h
    congr 1
    omega
  rw [e, itoa_nn h.2.2.1, itoa_nn (by omega), Int.toNat_natCast]
theorem s_lineG (k : K3) (i : Nat) (hv : okV k.1.1 k.1.2 = true) (hc : 0 ≤ k.2 ∧ k.2 ≤ 9) (hi : i < 1000) : Sp Tryz.prog 26 [aK k, vi i] (aT (bst (lnG k i))) [] := by
  have hb := okV_spec.1 hv
  have hg := ckG_lt k i
  have w1 := s_vt k.1.1 k.1.2 hv
  have w2 := s_text k.2 (by omega) (by omega)
  have w3 := s_text (ckG k i) (by omega) (by omega)
  have e1 : IntKind.i64.wrap (IntKind.i64.wrap (IntKind.i64.wrap (IntKind.i64.wrap (17 * k.1.1) + IntKind.i64.wrap (29 * k.1.2)) + IntKind.i64.wrap (7 * k.2)) + IntKind.i64.wrap (13 * (i : Int))) = 17 * k.1.1 + 29 * k.1.2 + 7 * k.2 + 13 * i := by
    rw [w64 (n := 17 * k.1.1) (by omega) (by omega), w64 (n := 29 * k.1.2) (by omega) (by omega), w64 (n := 7 * k.2) (by omega) (by omega), w64 (n := 13 * (i : Int)) (by omega) (by omega), w64 (n := 17 * k.1.1 + 29 * k.1.2) (by omega) (by omega), w64 (n := 17 * k.1.1 + 29 * k.1.2 + 7 * k.2) (by omega) (by omega), w64 (by omega) (by omega)]
  have e2 : (17 * k.1.1 + 29 * k.1.2 + 7 * k.2 + 13 * (i : Int)).tmod 997 = ckG k i := rfl
  have l0 := itoa_len (n := k.1.1) (by omega)
  have l1 := itoa_len (n := k.1.2) (by omega)
  have l2 := itoa_len (n := k.2) (by omega)
  have l3 := itoa_len (n := ckG k i) (by omega)
  have lv : (vtx k.1.1 k.1.2).length ≤ 3000000 := by
    unfold vtx
    simp only [List.length_append, List.length_singleton]
    omega
  have l6 : (⟨#[32]⟩ : ByteArray).size = 1 := rfl
  unfold lnG
  clear l0 l1 hb hg
  generalize vtx k.1.1 k.1.2 = v1 at *
  generalize Lib.itoa k.2 = v2 at *
  generalize ckG k i = g at *
  generalize Lib.itoa g = v3 at *
  refine sp_of (m := no) mixed Tryz.func26 k26 ?_
  simp -dsimp [q]
  rw [e1, e2]
  refine call_of (w1) rfl (by simp) ?_
  try simp -dsimp
  try (first | exact fp_one (by decide) | refine fp_and (by decide) ?_)
  rw [bst32]
  refine ⟨by show v1.length + 1 ≤ _; omega, ?_⟩
  refine call_of (w2) rfl (by simp) ?_
  try simp -dsimp
  try (first | exact fp_one (by decide) | refine fp_and (by decide) ?_)
  rw [bst32]
  simp -dsimp
  refine ⟨by omega, by omega, ?_⟩
  refine call_of (w3) rfl (by simp) ?_
  try simp -dsimp
  try (first | exact fp_one (by decide) | refine fp_and (by decide) ?_)
  try simp
  try omega
end Go.Proofs.YtcnhcilpaplpcaaGreatDoorEv
namespace Go.Proofs.YtcnhcilpaplpcaaGreatDoorEv
open Go Go.Proofs
set_option maxRecDepth 10000
set_option maxHeartbeats 2000000
theorem vtx_spl (x y : Int) : spl 44 (vtx x y) = [Lib.itoa x, Lib.itoa y] := by
  unfold vtx
  rw [show Lib.itoa x ++ [44] ++ Lib.itoa y = Lib.itoa x ++ 44 :: Lib.itoa y by simp, spl_hit _ _ (itoa_free x 44 (by decide)), spl_none _ (itoa_free y 44 (by decide))]
theorem vtx_free (x y : Int) (b : UInt8) (h : b.toNat < 44) : b ∉ vtx x y := by
  unfold vtx
  have h1 := itoa_free x b (by omega)
  have h2 := itoa_free y b (by omega)
  have h3 : b ≠ 44 := fun e => by rw [e] at h; exact absurd h (by decide)
  simp [h1, h2, h3]
theorem lnG_spl (k : K3) (i : Nat) : spl 32 (lnG k i) = [vtx k.1.1 k.1.2, Lib.itoa k.2, Lib.itoa (ckG k i)] := by
  unfold lnG
  rw [show vtx k.1.1 k.1.2 ++ [32] ++ Lib.itoa k.2 ++ [32] ++ Lib.itoa (ckG k i) = vtx k.1.1 k.1.2 ++ 32 :: (Lib.itoa k.2 ++ 32 :: Lib.itoa (ckG k i)) by simp, spl_hit _ _ (vtx_free _ _ 32 (by decide)), spl_hit _ _ (itoa_free _ 32 (by decide)), spl_none _ (itoa_free _ 32 (by decide))]
theorem lnG_free (k : K3) (i : Nat) : (10 : UInt8) ∉ lnG k i := by
  unfold lnG
  have h1 := vtx_free k.1.1 k.1.2 10 (by decide)
  have h2 := itoa_free k.2 10 (by decide)
  have h3 := itoa_free (ckG k i) 10 (by decide)
  simp [h1, h2, h3]
theorem num_itoa (n : Int) (h : n.natAbs ≤ 1000000) : numV (Lib.itoa n) = n ∧ numOk (Lib.itoa n) = true := by
  have hp := parse_itoa n (by omega) (by omega)
  unfold numV numOk
  rw [hp]
  simp
theorem rvI_vtx {x y : Int} (h : okV x y = true) : rvI (spl 44 (vtx x y)) = some (x, y) := by
  obtain ⟨h1, h2⟩ := okV_spec.1 h
  obtain ⟨a1, a2⟩ := num_itoa x (by omega)
  obtain ⟨b1, b2⟩ := num_itoa y (by omega)
  rw [vtx_spl]
  simp [rvI, a1, a2, b1, b2, h]
theorem rvI_ok {L : List (List UInt8)} {v : Int × Int} (h : rvI L = some v) : okV v.1 v.2 = true := by
  unfold rvI at h
  split at h
  · split at h
    · rename_i hc
      cases h
      simp only [Bool.and_eq_true] at hc
      exact hc.2
    · cases h
  · cases h
def rd1 (l : List UInt8) (i : Nat) : Option K3 := match spl 32 l with
  | [a, b, _] => match rvI (spl 44 a) with
    | some v => if (numOk b && decide (0 ≤ numV b ∧ numV b ≤ 9) && decide (lnG (v, numV b) i = l)) = true then some (v, numV b) else none
    | none => none
  | _ => none
theorem rd1_three {l a b c : List UInt8} (i : Nat) (h : spl 32 l = [a, b, c]) : rd1 l i = match rvI (spl 44 a) with
    | some v => if (numOk b && decide (0 ≤ numV b ∧ numV b ≤ 9) && decide (lnG (v, numV b) i = l)) = true then some (v, numV b) else none
    | none => none := by
  unfold rd1
  rw [h]
theorem rd1_len {l : List UInt8} (i : Nat) (h : (spl 32 l).length ≠ 3) : rd1 l i = none := by
  unfold rd1
  split
  · rename_i e
    rw [e] at h
    simp at h
  · rfl
theorem three {α : Type} {L : List α} (h : L.length = 3) : ∃ a b c, L = [a, b, c] := by
  match L, h with
  | [a, b, c], _ => exact ⟨a, b, c, rfl⟩
theorem s_rs (l : List UInt8) (i : Nat) (h : l.length ≤ 1048576) (hi : i < 1000) : ∃ (k : K3) (ok : Bool), Sp Tryz.prog 32 [aT (bst l), vi i] (.tu [aK k, vb ok]) [] ∧ rd1 l i = if ok = true then some k else none := by
  have w1 : Sp Tryz.prog 52 [aT (bst l), aT ⟨#[32]⟩] (.sli 0) [.row 0 9 (sts ((spl 32 l).map bst))] := s_split l 32 (by omega)
  have hl : ∀ p ∈ spl 32 l, p.length ≤ 1048576 := fun p hp => Nat.le_trans (spl_mem 32 hp) h
  by_cases h3 : (spl 32 l).length = 3
  case neg =>
    refine ⟨((0, 0), 0), false, ?_, rd1_len i h3⟩
    generalize spl 32 l = L at *
    refine sp_of (m := no) mixed Tryz.func32 k32 ?_
    simp -dsimp [q]
    refine call_of (w1) rfl (by simp) ?_
    try simp -dsimp
    try (first | exact fp_one (by decide) | refine fp_and (by decide) ?_)
    try (intro h9; omega)
  obtain ⟨a, b, c, hL⟩ := three h3
  rw [rd1_three i hL]
  rw [hL] at w1 hl
  have w2 := s_rv a (hl a (by simp))
  have w3 : Sp Tryz.prog 54 [aT (bst b)] (.tu [vi (numV b), vb (numOk b)]) [] := s_number b (by have := hl b (by simp); omega)
  have w4 := s_isCol (numV b)
  have hrv : ∀ v, rvI (spl 44 a) = some v → okV v.1 v.2 = true := fun v hv => rvI_ok hv
  clear hL hl h3
  generalize numV b = cb at *
  generalize numOk b = ob at *
  cases hv : rvI (spl 44 a) with
  | none =>
    rw [hv] at w2
    simp only [rvA] at w2
    refine ⟨((0, 0), cb), false, ?_, rfl⟩
    clear hv hrv
    refine sp_of (m := no) mixed Tryz.func32 k32 ?_
    simp -dsimp [q]
    refine call_of (w1) rfl (by simp) ?_
    try simp -dsimp
    try (first | exact fp_one (by decide) | refine fp_and (by decide) ?_)
    refine call_of (w2) rfl (by simp) ?_
    try simp -dsimp
    try (first | exact fp_one (by decide) | refine fp_and (by decide) ?_)
    refine call_of (w3) rfl (by simp) ?_
    try simp -dsimp
    try (first | exact fp_one (by decide) | refine fp_and (by decide) ?_)
  | some v =>
    rw [hv] at w2
    simp only [rvA] at w2
    have hok := hrv v hv
    clear hv hrv
    cases ob with
    | false =>
      refine ⟨(v, cb), false, ?_, rfl⟩
      refine sp_of (m := no) mixed Tryz.func32 k32 ?_
      simp -dsimp [q]
      refine call_of (w1) rfl (by simp) ?_
      try simp -dsimp
      try (first | exact fp_one (by decide) | refine fp_and (by decide) ?_)
      refine call_of (w2) rfl (by simp) ?_
      try simp -dsimp
      try (first | exact fp_one (by decide) | refine fp_and (by decide) ?_)
      refine call_of (w3) rfl (by simp) ?_
      try simp -dsimp
      try (first | exact fp_one (by decide) | refine fp_and (by decide) ?_)
    | true =>
      by_cases hc : 0 ≤ cb ∧ cb ≤ 9
      case neg =>
        refine ⟨(v, cb), false, ?_, by simp [hc]⟩
        rw [decide_eq_false hc] at w4
        refine sp_of (m := no) mixed Tryz.func32 k32 ?_
        simp -dsimp [q]
        refine call_of (w1) rfl (by simp) ?_
        try simp -dsimp
        try (first | exact fp_one (by decide) | refine fp_and (by decide) ?_)
        refine call_of (w2) rfl (by simp) ?_
        try simp -dsimp
        try (first | exact fp_one (by decide) | refine fp_and (by decide) ?_)
        refine call_of (w3) rfl (by simp) ?_
        try simp -dsimp
        try (first | exact fp_one (by decide) | refine fp_and (by decide) ?_)
        refine call_of (w4) rfl (by simp) ?_
        try simp -dsimp
        try (first | exact fp_one (by decide) | refine fp_and (by decide) ?_)
      have w5 := s_lineG (v, cb) i hok hc hi
      refine ⟨(v, cb), decide (lnG (v, cb) i = l), ?_, by simp [hc]⟩
      rw [decide_eq_true hc] at w4
      have e : bst (lnG (v, cb) i) = bst l ↔ lnG (v, cb) i = l := by simp [bst]
      generalize lnG (v, cb) i = L at *
      rw [show decide (L = l) = decide (bst L = bst l) from decide_eq_decide.2 e.symm]
      refine sp_of (m := no) mixed Tryz.func32 k32 ?_
      simp -dsimp [q]
      refine call_of (w1) rfl (by simp) ?_
      try simp -dsimp
      try (first | exact fp_one (by decide) | refine fp_and (by decide) ?_)
      refine call_of (w2) rfl (by simp) ?_
      try simp -dsimp
      try (first | exact fp_one (by decide) | refine fp_and (by decide) ?_)
      refine call_of (w3) rfl (by simp) ?_
      try simp -dsimp
      try (first | exact fp_one (by decide) | refine fp_and (by decide) ?_)
      refine call_of (w4) rfl (by simp) ?_
      try simp -dsimp
      try (first | exact fp_one (by decide) | refine fp_and (by decide) ?_)
      refine call_of (w5) rfl (by simp) ?_
      try simp -dsimp
      try (first | exact fp_one (by decide) | refine fp_and (by decide) ?_)
end Go.Proofs.YtcnhcilpaplpcaaGreatDoorEv
namespace Go.Proofs.YtcnhcilpaplpcaaGreatDoorEv
open Go Go.Proofs
set_option maxRecDepth 10000
set_option maxHeartbeats 2000000
theorem rd1_iff (l : List UInt8) (i : Nat) (k : K3) : rd1 l i = some k ↔ okV k.1.1 k.1.2 = true ∧ (0 ≤ k.2 ∧ k.2 ≤ 9) ∧ lnG k i = l := by
  constructor
  · intro h
    by_cases h3 : (spl 32 l).length = 3
    case neg => rw [rd1_len i h3] at h; cases h
    obtain ⟨a, b, c, hL⟩ := three h3
    rw [rd1_three i hL] at h
    cases hv : rvI (spl 44 a) with
    | none => rw [hv] at h; cases h
    | some v =>
      rw [hv] at h
      simp only at h
      split at h
      · rename_i hc
        cases h
        simp only [Bool.and_eq_true, decide_eq_true_eq] at hc
        exact ⟨rvI_ok hv, hc.1.2, hc.2⟩
      · cases h
  · rintro ⟨h1, h2, h3⟩
    have hs := lnG_spl k i
    rw [h3] at hs
    obtain ⟨a1, a2⟩ := num_itoa k.2 (by omega)
    rw [rd1_three i hs, rvI_vtx h1]
    simp only [a1, a2]
    rw [decide_eq_true h2, decide_eq_true h3]
    rfl
def accK (a c : Int) (i : Nat) (l : List UInt8) : Option K3 := match rd1 l i with
  | some k => if okK a c k = true then some k else none
  | none => none
theorem accK_iff (a c : Int) (l : List UInt8) (i : Nat) (k : K3) : accK a c i l = some k ↔ okV k.1.1 k.1.2 = true ∧ okK a c k = true ∧ lnG k i = l := by
  unfold accK
  cases h : rd1 l i with
  | none =>
    constructor
    · intro h; cases h
    · rintro ⟨h1, h2, h3⟩
      have := (rd1_iff l i k).2 ⟨h1, ?_, h3⟩
      · rw [h] at this; cases this
      · unfold okK at h2
        simp only [Bool.and_eq_true, decide_eq_true_eq] at h2
        exact h2.2
  | some k' =>
    obtain ⟨h1, h2, h3⟩ := (rd1_iff l i k').1 h
    simp only
    constructor
    · intro hk
      split at hk
      · cases hk
        rename_i hc
        exact ⟨h1, hc, h3⟩
      · cases hk
    · rintro ⟨g1, g2, g3⟩
      have hg : 0 ≤ k.2 ∧ k.2 ≤ 9 := by
        unfold okK at g2
        simp only [Bool.and_eq_true, decide_eq_true_eq] at g2
        exact g2.2
      have := (rd1_iff l i k).2 ⟨g1, hg, g3⟩
      rw [h] at this
      cases this
      rw [if_pos g2]
def recL (a c : Int) : Nat → List (List UInt8) → List K3
  | i, l :: m :: L => if i < 100 then (match accK a c i l with
    | some k => k :: recL a c (i + 1) (m :: L)
    | none => []) else []
  | _, _ => []
theorem recL_one (a c : Int) (i : Nat) (l : List UInt8) : recL a c i [l] = [] := rfl
theorem recL_far (a c : Int) {i : Nat} (h : 100 ≤ i) (L : List (List UInt8)) : recL a c i L = [] := by
  unfold recL
  split
  · rw [if_neg (by omega)]
  · rfl
theorem recL_yes {a c : Int} {i : Nat} {l : List UInt8} {k : K3} {L : List (List UInt8)} (h : i < 100) (hk : accK a c i l = some k) (hL : 1 ≤ L.length) : recL a c i (l :: L) = k :: recL a c (i + 1) L := by
  cases L with
  | nil => simp at hL
  | cons m L => rw [recL, if_pos h, hk]
theorem recL_no {a c : Int} {i : Nat} {l : List UInt8} {L : List (List UInt8)} (hk : accK a c i l = none) : recL a c i (l :: L) = [] := by
  cases L with
  | nil => rfl
  | cons m L =>
    unfold recL
    split
    · rw [hk]
    · rfl
theorem recL_len (a c : Int) : ∀ (L : List (List UInt8)) (i : Nat), (recL a c i L).length ≤ 100 - i
  | [], i => by simp [recL]
  | [l], i => by simp [recL]
  | l :: m :: L, i => by
    unfold recL
    have ih := recL_len a c (m :: L) (i + 1)
    split
    · split
      · simp; omega
      · simp
    · simp
def rdS (a c : Int) (i : Nat) (l : List UInt8) : Option K3 := match spl 32 l with
  | [u, b, _] => match rvL (spl 44 u) with
    | some v => if (dgOk b && okKs a c [(v, (dgV b : Int))] && decide (lnx (v, (dgV b : Int)) i = l)) = true then some (v, (dgV b : Int)) else none
    | none => none
  | _ => none
theorem rdS_three {a c : Int} {l u b w : List UInt8} (i : Nat) (h : spl 32 l = [u, b, w]) : rdS a c i l = match rvL (spl 44 u) with
    | some v => if (dgOk b && okKs a c [(v, (dgV b : Int))] && decide (lnx (v, (dgV b : Int)) i = l)) = true then some (v, (dgV b : Int)) else none
    | none => none := by
  unfold rdS
  rw [h]
theorem rdS_len {a c : Int} {l : List UInt8} (i : Nat) (h : (spl 32 l).length ≠ 3) : rdS a c i l = none := by
  unfold rdS
  split
  · rename_i e
    rw [e] at h
    simp at h
  · rfl
theorem okKs_one (a c : Int) (k : K3) : okKs a c [k] = okK a c k := by
  simp [okKs]
theorem dg_dec {u : Nat} (h : u < 1000000) : dgV (Lib.decDigits u) = u ∧ dgOk (Lib.decDigits u) = true := by
  have h1 := dec_len10 6 u (by have : (10 : Nat) ^ (6 + 1) = 10000000 := by decide
                               omega)
  have h2 : (Lib.decDigits u).all isDg = true := by
    rw [List.all_eq_true]
    intro b hb
    unfold isDg
    exact decide_eq_true (dec_digit u b hb)
  have h3 : 1 ≤ (Lib.decDigits u).length := by
    have := dec_ne u
    cases h : Lib.decDigits u with
    | nil => exact absurd h this
    | cons x y => simp
  have h4 : dgIn (Lib.decDigits u) = true := by
    unfold dgIn
    rw [h2, decide_eq_true (by omega)]
    rfl
  unfold dgV dgOk
  rw [h4, dval_dec]
  simp
theorem sg_dec {u : Nat} (h : u < 1000000) : sgV (Lib.decDigits u) = u ∧ sgOk (Lib.decDigits u) = true := by
  have hn : (Lib.decDigits u)[0]? ≠ some 45 := by
    intro e
    have := dec_digit u _ (List.mem_of_getElem? e)
    exact absurd this (by decide)
  obtain ⟨h1, h2⟩ := dg_dec h
  unfold sgV sgOk
  rw [if_neg hn, if_neg hn, h1, h2]
  exact ⟨rfl, rfl⟩
theorem rvL_vtx {x y : Int} (hx : 0 ≤ x ∧ x ≤ 7) (hy : 0 ≤ y ∧ y ≤ 7) (h : okV x y = true) : rvL (spl 44 (vtx x y)) = some (x, y) := by
  obtain ⟨a1, a2⟩ := sg_dec (u := x.toNat) (by omega)
  obtain ⟨b1, b2⟩ := sg_dec (u := y.toNat) (by omega)
  rw [vtx_spl, itoa_nn hx.1, itoa_nn hy.1]
  have e1 : ((x.toNat : Nat) : Int) = x := by omega
  have e2 : ((y.toNat : Nat) : Int) = y := by omega
  simp [rvL, a1, a2, b1, b2, e1, e2, h]
theorem rdS_eq {n : Int} (hn : 1 ≤ n ∧ n ≤ 4) (l : List UInt8) (i : Nat) : rdS (2 * n) (2 * n) i l = accK (2 * n) (2 * n) i l := by
  have hiff : ∀ k, rdS (2 * n) (2 * n) i l = some k ↔ accK (2 * n) (2 * n) i l = some k := by
    intro k
    rw [accK_iff]
    constructor
    · intro h
      by_cases h3 : (spl 32 l).length = 3
      case neg => rw [rdS_len i h3] at h; cases h
      obtain ⟨u, b, w, hL⟩ := three h3
      rw [rdS_three i hL] at h
      cases hv : rvL (spl 44 u) with
      | none => rw [hv] at h; cases h
      | some v =>
        rw [hv] at h
        simp only at h
        split at h
        · rename_i hc
          cases h
          simp only [Bool.and_eq_true, decide_eq_true_eq, okKs_one] at hc
          have hs := smK_of hn hc.1.2
          exact ⟨okV_sm hs, hc.1.2, by rw [lnG_sm hs]; exact hc.2⟩
        · cases h
    · rintro ⟨h1, h2, h3⟩
      have hs := smK_of hn h2
      have hsp := lnG_spl k i
      rw [h3] at hsp
      rw [lnG_sm hs] at h3
      obtain ⟨hx, hy, hc⟩ := id hs
      obtain ⟨d1, d2⟩ := dg_dec (u := k.2.toNat) (by omega)
      have e2 : ((k.2.toNat : Nat) : Int) = k.2 := by omega
      rw [rdS_three i hsp, rvL_vtx hx hy h1]
      rw [itoa_nn hc.1]
      simp only [d1, d2, e2, okKs_one]
      rw [h2, decide_eq_true h3]
      rfl
  cases h : accK (2 * n) (2 * n) i l with
  | some k => exact (hiff k).2 h
  | none =>
    cases h2 : rdS (2 * n) (2 * n) i l with
    | none => rfl
    | some k => rw [(hiff k).1 h2] at h; cases h
end Go.Proofs.YtcnhcilpaplpcaaGreatDoorEv
namespace Go.Proofs.YtcnhcilpaplpcaaGreatDoorEv
open Go Go.Proofs
set_option maxRecDepth 10000
set_option maxHeartbeats 1000000
def bStr (l : List UInt8) : ByteArray := ⟨l.toArray⟩
def stdOf (s : ByteArray) (n : Int) : Option (Int × List G6) :=
  if s = ⟨#[112, 49]⟩ then some (0, []) else
  if s = ⟨#[112, 50]⟩ then some (0, [((-1, 0, 0, -1), 0, 0)]) else
  if s = ⟨#[112, 109]⟩ then some (0, [((1, 0, 0, -1), 0, 0)]) else
  if s = ⟨#[112, 103]⟩ then some (0, [((1, 0, 0, -1), n, 0)]) else
  if s = ⟨#[99, 109]⟩ then some (0, [((0, 1, 1, 0), 0, 0)]) else
  if s = ⟨#[112, 109, 109]⟩ then some (0, [((1, 0, 0, -1), 0, 0), ((-1, 0, 0, -1), 0, 0)]) else
  if s = ⟨#[112, 109, 103]⟩ then some (0, [((1, 0, 0, -1), n, 0), ((-1, 0, 0, -1), 0, 0)]) else
  if s = ⟨#[112, 103, 103]⟩ then some (0, [((1, 0, 0, -1), n, n), ((-1, 0, 0, -1), 0, 0)]) else
  if s = ⟨#[99, 109, 109]⟩ then some (0, [((0, 1, 1, 0), 0, 0), ((-1, 0, 0, -1), 0, 0)]) else
  if s = ⟨#[112, 52]⟩ then some (0, [((0, -1, 1, 0), 0, 0)]) else
  if s = ⟨#[112, 52, 109]⟩ then some (0, [((0, -1, 1, 0), 0, 0), ((1, 0, 0, -1), 0, 0)]) else
  if s = ⟨#[112, 52, 103]⟩ then some (0, [((0, -1, 1, 0), 0, 0), ((1, 0, 0, -1), n, n)]) else
  if s = ⟨#[112, 51]⟩ then some (1, [((-1, -1, 1, 0), 0, 0)]) else
  if s = ⟨#[112, 51, 109, 49]⟩ then some (1, [((-1, -1, 1, 0), 0, 0), ((0, 1, 1, 0), 0, 0)]) else
  if s = ⟨#[112, 51, 49, 109]⟩ then some (1, [((-1, -1, 1, 0), 0, 0), ((1, 1, 0, -1), 0, 0)]) else
  if s = ⟨#[112, 54]⟩ then some (1, [((0, -1, 1, 1), 0, 0)]) else
  if s = ⟨#[112, 54, 109]⟩ then some (1, [((0, -1, 1, 1), 0, 0), ((0, 1, 1, 0), 0, 0)]) else none
def cloS (n : Int) (L S : List G6) : List G6 := L.foldl (fun S m => S.foldl (fun S' g => if redG (2 * n) 0 (2 * n) (mulG m g) ∈ S' then S' else S' ++ [redG (2 * n) 0 (2 * n) (mulG m g)]) S) S
def clo (n : Int) (L : List G6) : Nat → List G6
  | 0 => [unG]
  | k + 1 => cloS n L (clo n L k)
def small1 (n : Int) (g : G6) : Bool := decide (g.1.1.natAbs ≤ 1 ∧ g.1.2.1.natAbs ≤ 1 ∧ g.1.2.2.1.natAbs ≤ 1 ∧ g.1.2.2.2.natAbs ≤ 1 ∧ 0 ≤ g.2.1 ∧ g.2.1 < 2 * n ∧ 0 ≤ g.2.2 ∧ g.2.2 < 2 * n)
/-- A small set that holds the group. -/
structure Clo (n : Int) (L S : List G6) : Prop where
  len : S.length ≤ 12
  len2 : L.length ≤ 2
  un : unG ∈ S
  sm : ∀ g ∈ S, memG (2 * n) (2 * n) g
  sl : ∀ g ∈ L, memG (2 * n) (2 * n) g
  st : ∀ m ∈ L, ∀ g ∈ S, redG (2 * n) 0 (2 * n) (mulG m g) ∈ S
def chkC (n : Int) (L S : List G6) : Bool := decide (S.length ≤ 12) && decide (L.length ≤ 2) && decide (unG ∈ S) && S.all (small1 n) && L.all (small1 n) && L.all fun m => S.all fun g => decide (redG (2 * n) 0 (2 * n) (mulG m g) ∈ S)
theorem small1_spec {n : Int} {g : G6} (h : small1 n g = true) : memG (2 * n) (2 * n) g := by
  simp only [small1, decide_eq_true_eq] at h
  exact ⟨⟨⟨h.1, h.2.1⟩, h.2.2.1, h.2.2.2.1⟩, ⟨h.2.2.2.2.1, h.2.2.2.2.2.1⟩, h.2.2.2.2.2.2.1, h.2.2.2.2.2.2.2⟩
theorem chkC_spec {n : Int} {L S : List G6} (h : chkC n L S = true) : Clo n L S := by
  simp only [chkC, Bool.and_eq_true, decide_eq_true_eq, List.all_eq_true] at h
  obtain ⟨⟨⟨⟨⟨h1, h2⟩, h3⟩, h4⟩, h5⟩, h6⟩ := h
  exact ⟨h1, h2, h3, fun g hg => small1_spec (h4 g hg), fun g hg => small1_spec (h5 g hg), h6⟩
def stdLs (n : Int) : List (List G6) := [[], [((-1, 0, 0, -1), 0, 0)], [((1, 0, 0, -1), 0, 0)], [((1, 0, 0, -1), n, 0)], [((0, 1, 1, 0), 0, 0)],
  [((1, 0, 0, -1), 0, 0), ((-1, 0, 0, -1), 0, 0)], [((1, 0, 0, -1), n, 0), ((-1, 0, 0, -1), 0, 0)], [((1, 0, 0, -1), n, n), ((-1, 0, 0, -1), 0, 0)], [((0, 1, 1, 0), 0, 0), ((-1, 0, 0, -1), 0, 0)],
  [((0, -1, 1, 0), 0, 0)], [((0, -1, 1, 0), 0, 0), ((1, 0, 0, -1), 0, 0)], [((0, -1, 1, 0), 0, 0), ((1, 0, 0, -1), n, n)], [((-1, -1, 1, 0), 0, 0)],
  [((-1, -1, 1, 0), 0, 0), ((0, 1, 1, 0), 0, 0)], [((-1, -1, 1, 0), 0, 0), ((1, 1, 0, -1), 0, 0)], [((0, -1, 1, 1), 0, 0)], [((0, -1, 1, 1), 0, 0), ((0, 1, 1, 0), 0, 0)]]
theorem std_mem {s : ByteArray} {n f : Int} {L : List G6} (h : stdOf s n = some (f, L)) : L ∈ stdLs n := by
  have key : ∀ (p : Prop) [Decidable p] (f' : Int) (L' : List G6) (r : Option (Int × List G6)), (if p then some (f', L') else r) = some (f, L) → L' ∈ stdLs n → (r = some (f, L) → L ∈ stdLs n) → L ∈ stdLs n := by
    intro p _ f' L' r h h1 h2
    by_cases hp : p
    · rw [if_pos hp] at h
      cases h
      exact h1
    · rw [if_neg hp] at h
      exact h2 h
  unfold stdOf at h
  revert h
  iterate 17 refine fun h => key _ _ _ _ h (by simp [stdLs]) ?_
  intro h
  cases h
theorem chk1 : (stdLs 1).all (fun L => chkC 1 L (clo 1 L 6)) = true := by decide +kernel
theorem chk2 : (stdLs 2).all (fun L => chkC 2 L (clo 2 L 6)) = true := by decide +kernel
theorem chk3 : (stdLs 3).all (fun L => chkC 3 L (clo 3 L 6)) = true := by decide +kernel
theorem chk4 : (stdLs 4).all (fun L => chkC 4 L (clo 4 L 6)) = true := by decide +kernel
theorem std_clo {s : ByteArray} {n f : Int} {L : List G6} (h : stdOf s n = some (f, L)) (hn : 1 ≤ n ∧ n ≤ 4) : ∃ S, Clo n L S := by
  have hm := std_mem h
  have : n = 1 ∨ n = 2 ∨ n = 3 ∨ n = 4 := by omega
  rcases this with rfl | rfl | rfl | rfl
  · exact ⟨_, chkC_spec (List.all_eq_true.1 chk1 _ hm)⟩
  · exact ⟨_, chkC_spec (List.all_eq_true.1 chk2 _ hm)⟩
  · exact ⟨_, chkC_spec (List.all_eq_true.1 chk3 _ hm)⟩
  · exact ⟨_, chkC_spec (List.all_eq_true.1 chk4 _ hm)⟩
end Go.Proofs.YtcnhcilpaplpcaaGreatDoorEv
namespace Go.Proofs.YtcnhcilpaplpcaaGreatDoorEv
open Go Go.Proofs
set_option maxRecDepth 10000
set_option maxHeartbeats 1000000
@[simp] theorem gs_take (l : List G6) (n : Nat) : (gs l).take n = gs (l.take n) := by simp [gs, List.map_take]
@[simp] theorem gs_drop (l : List G6) (n : Nat) : (gs l).drop n = gs (l.drop n) := by simp [gs, List.map_drop]
theorem gs_app2 (l k : List G6) : gs l ++ gs k = gs (l ++ k) := by simp [gs]
/-! putting into order -/
theorem lexLt_tri : ∀ {xs ys : List Int}, xs.length = ys.length → xs = ys ∨ lexLt xs ys = true ∨ lexLt ys xs = true
  | [], [], _ => .inl rfl
  | x :: xs, y :: ys, h => by
    rcases lexLt_tri (xs := xs) (ys := ys) (by simpa using h) with e | e | e
    · subst e
      rcases Int.lt_trichotomy x y with e | e | e
      · exact .inr (.inl (by simp [lexLt, e, show x ≠ y by omega]))
      · subst e; exact .inl rfl
      · exact .inr (.inr (by simp [lexLt, e, show y ≠ x by omega]))
    · rcases Int.lt_trichotomy x y with f | f | f
      · exact .inr (.inl (by simp [lexLt, f, show x ≠ y by omega]))
      · subst f; exact .inr (.inl (by simp [lexLt, e]))
      · exact .inr (.inr (by simp [lexLt, f, show y ≠ x by omega]))
    · rcases Int.lt_trichotomy x y with f | f | f
      · exact .inr (.inl (by simp [lexLt, f, show x ≠ y by omega]))
      · subst f; exact .inr (.inr (by simp [lexLt, e]))
      · exact .inr (.inr (by simp [lexLt, f, show y ≠ x by omega]))
theorem ltG_tri (g h : G6) : g = h ∨ ltG g h = true ∨ ltG h g = true := by
  rw [ltG_lex, ltG_lex]
  rcases lexLt_tri (xs := m4 g.1 ++ t2 g.2) (ys := m4 h.1 ++ t2 h.2) rfl with e | e | e
  · refine .inl ?_
    obtain ⟨⟨a, b, c, d⟩, x, y⟩ := g
    obtain ⟨⟨a', b', c', d'⟩, x', y'⟩ := h
    simpa [m4, t2, and_assoc] using e
  · exact .inr (.inl e)
  · exact .inr (.inr e)
def insG (l : List G6) (m : G6) : List G6 := l.take (plc l m) ++ m :: l.drop (plc l m)
theorem insG_mem {l : List G6} {m x : G6} : x ∈ insG l m ↔ x = m ∨ x ∈ l := by
  unfold insG
  conv => rhs; rw [← List.take_append_drop (plc l m) l]
  simp only [List.mem_append, List.mem_cons]
  constructor
  · rintro (h | h | h) <;> simp [h]
  · rintro (h | h | h) <;> simp [h]
theorem insG_len (l : List G6) (m : G6) : (insG l m).length = l.length + 1 := by
  unfold insG
  have := congrArg List.length (List.take_append_drop (plc l m) l)
  simp only [List.length_append, List.length_cons] at *
  omega
theorem plc_bef {l : List G6} {m x : G6} (h : x ∈ l.take (plc l m)) : ltG x m = true := by
  obtain ⟨j, hj, rfl⟩ := List.mem_take_iff_getElem.1 h
  have := List.not_of_lt_findIdx (p := fun x => !ltG x m) (xs := l) (i := j) (by unfold plc at hj; omega)
  simpa using this
theorem plc_aft {l : List G6} {m x : G6} (hs : srt l) (hm : m ∉ l) (h : x ∈ l.drop (plc l m)) : ltG m x = true := by
  obtain ⟨j, hj, rfl⟩ := List.mem_iff_getElem.1 h
  rw [List.getElem_drop] at h ⊢
  rw [List.length_drop] at hj
  have hlt : plc l m < l.length := by omega
  have h0 : ltG l[plc l m] m = false := by
    have := List.findIdx_getElem (p := fun x => !ltG x m) (xs := l) (w := hlt)
    rw [Bool.not_eq_true'] at this
    exact this
  have h1 : ltG m l[plc l m] = true := by
    rcases ltG_tri m l[plc l m] with e | e | e
    · exact absurd (e ▸ List.getElem_mem hlt) hm
    · exact e
    · rw [h0] at e; cases e
  rcases Nat.eq_zero_or_pos j with e | e
  · subst e; exact h1
  · exact ltG_trans h1 (srt_get hs (i := plc l m) (j := plc l m + j) (List.getElem?_eq_getElem hlt) (List.getElem?_eq_getElem (by omega)) (by omega))
theorem insG_srt {l : List G6} {m : G6} (hs : srt l) (hm : m ∉ l) : srt (insG l m) := by
  unfold srt insG
  have h0 : srt (l.take (plc l m) ++ l.drop (plc l m)) := by rw [List.take_append_drop]; exact hs
  unfold srt at h0
  rw [List.pairwise_append] at h0 ⊢
  refine ⟨h0.1, List.pairwise_cons.2 ⟨fun x hx => plc_aft hs hm hx, h0.2.1⟩, fun x hx y hy => ?_⟩
  rcases List.mem_cons.1 hy with e | e
  · rw [e]; exact plc_bef hx
  · exact h0.2.2 x hx y e
def srtL (Q : List G6) : List G6 := Q.foldl insG []
theorem srtL_app (Q : List G6) (m : G6) : srtL (Q ++ [m]) = insG (srtL Q) m := by simp [srtL, List.foldl_append]
theorem foldl_ins_mem (Q s : List G6) (x : G6) : x ∈ Q.foldl insG s ↔ x ∈ Q ∨ x ∈ s := by
  induction Q generalizing s with
  | nil => simp
  | cons m Q ih =>
    rw [List.foldl_cons, ih, insG_mem, List.mem_cons]
    constructor
    · rintro (h | h | h) <;> simp [h]
    · rintro ((h | h) | h) <;> simp [h]
theorem srtL_mem {Q : List G6} {x : G6} : x ∈ srtL Q ↔ x ∈ Q := by simp [srtL, foldl_ins_mem]
theorem foldl_ins_len (Q s : List G6) : (Q.foldl insG s).length = Q.length + s.length := by
  induction Q generalizing s with
  | nil => simp
  | cons m Q ih => rw [List.foldl_cons, ih, insG_len, List.length_cons]; omega
theorem srtL_len (Q : List G6) : (srtL Q).length = Q.length := by simp [srtL, foldl_ins_len]
theorem foldl_ins_srt (Q s : List G6) (hs : srt s) (hn : Q.Nodup) (hd : ∀ x ∈ Q, x ∉ s) : srt (Q.foldl insG s) := by
  induction Q generalizing s with
  | nil => exact hs
  | cons m Q ih =>
    rw [List.nodup_cons] at hn
    refine ih _ (insG_srt hs (hd m (by simp))) hn.2 fun x hx h => ?_
    rcases insG_mem.1 h with e | e
    · exact hn.1 (e ▸ hx)
    · exact hd x (by simp [hx]) e
theorem srtL_srt {Q : List G6} (hn : Q.Nodup) : srt (srtL Q) := foldl_ins_srt Q [] (by simp [srt]) hn (by simp)
/-! closing -/
def addG (n : Int) (g : G6) (O : List G6) (m : G6) : List G6 := if redG (2 * n) 0 (2 * n) (mulG m g) ∈ O then O else O ++ [redG (2 * n) 0 (2 * n) (mulG m g)]
def bfs (n : Int) (L : List G6) : Nat → Nat → List G6 → List G6
  | 0, _, O => O
  | f + 1, k, O => match O[k]? with
    | none => O
    | some g => bfs n L f (k + 1) (L.foldl (addG n g) O)
def grpL (n : Int) (L : List G6) : List G6 := bfs n L 13 0 [unG]
theorem bfs_end (n : Int) (L : List G6) (f k : Nat) (O : List G6) (h : O.length ≤ k) : bfs n L f k O = O := by
  cases f with
  | zero => rfl
  | succ f => rw [bfs, List.getElem?_eq_none h]
theorem bfs_step (n : Int) (L : List G6) (f k : Nat) (O : List G6) (g : G6) (h : O[k]? = some g) : bfs n L (f + 1) k O = bfs n L f (k + 1) (L.foldl (addG n g) O) := by rw [bfs, h]
structure Gd (S O : List G6) : Prop where
  nd : O.Nodup
  sub : ∀ x ∈ O, x ∈ S
  un : unG ∈ O
theorem Gd.len {n : Int} {L S O : List G6} (c : Clo n L S) (h : Gd S O) : O.length ≤ 12 := Nat.le_trans (pigeon O S h.nd h.sub) c.len
theorem Gd.add {n : Int} {L S O : List G6} (c : Clo n L S) (h : Gd S O) {m g : G6} (hm : m ∈ L) (hg : g ∈ S) : Gd S (addG n g O m) := by
  unfold addG
  split
  · exact h
  case isFalse hn =>
    refine ⟨?_, fun x hx => ?_, by simp [h.un]⟩
    · rw [List.nodup_append]
      refine ⟨h.nd, by simp, fun a ha b hb => ?_⟩
      rw [List.mem_singleton] at hb
      rintro rfl
      exact hn (hb ▸ ha)
    · rcases List.mem_append.1 hx with e | e
      · exact h.sub x e
      · rw [List.mem_singleton.1 e]; exact c.st m hm g hg
theorem Gd.one {n : Int} {L S : List G6} (c : Clo n L S) : Gd S [unG] := ⟨by simp, fun x hx => by rw [List.mem_singleton.1 hx]; exact c.un, by simp⟩
theorem addG_get {n : Int} {g m : G6} {O : List G6} {k : Nat} {x : G6} (h : O[k]? = some x) : (addG n g O m)[k]? = some x := by
  unfold addG
  split
  · exact h
  · rw [List.getElem?_append_left (List.getElem?_eq_some_iff.1 h).1, h]
/-! sorting by exchanges -/
def sw (l : List G6) (j : Nat) (a b : G6) : List G6 := (l.set (j + 1) a).set j b
def innr : Nat → List G6 → List G6
  | 0, l => l
  | j + 1, l => match l[j + 1]?, l[j]? with
    | some b, some a => if ltG b a = true then innr j (sw l j a b) else l
    | _, _ => l
def outr : Nat → List G6 → List G6
  | 0, l => l
  | 1, l => l
  | i + 2, l => innr (i + 1) (outr (i + 1) l)
theorem sw_len (l : List G6) (j : Nat) (a b : G6) : (sw l j a b).length = l.length := by simp [sw]
theorem innr_len (j : Nat) (l : List G6) : (innr j l).length = l.length := by
  induction j generalizing l with
  | zero => rfl
  | succ j ih =>
    rw [innr]
    split
    · split
      · rw [ih, sw_len]
      · rfl
    · rfl
theorem outr_len (i : Nat) (l : List G6) : (outr i l).length = l.length := by
  fun_induction outr i l with
  | case1 => rfl
  | case2 => rfl
  | case3 l i ih => rw [innr_len, ih]
theorem innr_step {j : Nat} {l : List G6} {a b : G6} (hb : l[j + 1]? = some b) (ha : l[j]? = some a) : innr (j + 1) l = if ltG b a = true then innr j (sw l j a b) else l := by rw [innr, hb, ha]
end Go.Proofs.YtcnhcilpaplpcaaGreatDoorEv
namespace Go.Proofs.YtcnhcilpaplpcaaGreatDoorEv
open Go Go.Proofs
set_option maxRecDepth 10000
set_option maxHeartbeats 2000000
def StdR (f : Nat) (s : ByteArray) (n : Int) (o : Option (Int × List G6)) : Prop := match o with
  | none => Sp Tryz.prog f [.v (.str s), vi n] (.tu [vi 0, .nil 6, vb false]) []
  | some (k, []) => Sp Tryz.prog f [.v (.str s), vi n] (.tu [vi k, .nil 6, vb true]) []
  | some (k, x :: L) => Sp Tryz.prog f [.v (.str s), vi n] (.tu [vi k, .sli 0, vb true]) [.row 6 116 (gs (x :: L))]
theorem std_p1 (n : Int) : StdR 63 ⟨#[112, 49]⟩ n (stdOf ⟨#[112, 49]⟩ n) := by
  have e : stdOf ⟨#[112, 49]⟩ n = some (0, []) := by simp [stdOf]
  rw [e]
  unfold StdR
  simp only
  refine sp_of (m := no) mixed Tryz.func63 k63 ?_
  simp -dsimp [q, gs, vg]
  all_goals decide
theorem std_p2 (n : Int) : StdR 63 ⟨#[112, 50]⟩ n (stdOf ⟨#[112, 50]⟩ n) := by
  have e : stdOf ⟨#[112, 50]⟩ n = some (0, [((-1, 0, 0, -1), 0, 0)]) := by simp [stdOf]
  rw [e]
  unfold StdR
  simp only
  refine sp_of (m := no) mixed Tryz.func63 k63 ?_
  simp -dsimp [q, gs, vg]
  all_goals decide
theorem std_pm (n : Int) : StdR 63 ⟨#[112, 109]⟩ n (stdOf ⟨#[112, 109]⟩ n) := by
  have e : stdOf ⟨#[112, 109]⟩ n = some (0, [((1, 0, 0, -1), 0, 0)]) := by simp [stdOf]
  rw [e]
  unfold StdR
  simp only
  refine sp_of (m := no) mixed Tryz.func63 k63 ?_
  simp -dsimp [q, gs, vg]
  all_goals decide
theorem std_pg (n : Int) : StdR 63 ⟨#[112, 103]⟩ n (stdOf ⟨#[112, 103]⟩ n) := by
  have e : stdOf ⟨#[112, 103]⟩ n = some (0, [((1, 0, 0, -1), n, 0)]) := by simp [stdOf]
  rw [e]
  unfold StdR
  simp only
  refine sp_of (m := no) mixed Tryz.func63 k63 ?_
  simp -dsimp [q, gs, vg]
  all_goals decide
theorem std_cm (n : Int) : StdR 63 ⟨#[99, 109]⟩ n (stdOf ⟨#[99, 109]⟩ n) := by
  have e : stdOf ⟨#[99, 109]⟩ n = some (0, [((0, 1, 1, 0), 0, 0)]) := by simp [stdOf]
  rw [e]
  unfold StdR
  simp only
  refine sp_of (m := no) mixed Tryz.func63 k63 ?_
  simp -dsimp [q, gs, vg]
  all_goals decide
theorem std_pmm (n : Int) : StdR 63 ⟨#[112, 109, 109]⟩ n (stdOf ⟨#[112, 109, 109]⟩ n) := by
  have e : stdOf ⟨#[112, 109, 109]⟩ n = some (0, [((1, 0, 0, -1), 0, 0), ((-1, 0, 0, -1), 0, 0)]) := by simp [stdOf]
  rw [e]
  unfold StdR
  simp only
  refine sp_of (m := no) mixed Tryz.func63 k63 ?_
  simp -dsimp [q, gs, vg]
  all_goals decide
theorem std_pmg (n : Int) : StdR 63 ⟨#[112, 109, 103]⟩ n (stdOf ⟨#[112, 109, 103]⟩ n) := by
  have e : stdOf ⟨#[112, 109, 103]⟩ n = some (0, [((1, 0, 0, -1), n, 0), ((-1, 0, 0, -1), 0, 0)]) := by simp [stdOf]
  rw [e]
  unfold StdR
  simp only
  refine sp_of (m := no) mixed Tryz.func63 k63 ?_
  simp -dsimp [q, gs, vg]
  all_goals decide
theorem std_pgg (n : Int) : StdR 63 ⟨#[112, 103, 103]⟩ n (stdOf ⟨#[112, 103, 103]⟩ n) := by
  have e : stdOf ⟨#[112, 103, 103]⟩ n = some (0, [((1, 0, 0, -1), n, n), ((-1, 0, 0, -1), 0, 0)]) := by simp [stdOf]
  rw [e]
  unfold StdR
  simp only
  refine sp_of (m := no) mixed Tryz.func63 k63 ?_
  simp -dsimp [q, gs, vg]
  all_goals decide
theorem std_cmm (n : Int) : StdR 63 ⟨#[99, 109, 109]⟩ n (stdOf ⟨#[99, 109, 109]⟩ n) := by
  have e : stdOf ⟨#[99, 109, 109]⟩ n = some (0, [((0, 1, 1, 0), 0, 0), ((-1, 0, 0, -1), 0, 0)]) := by simp [stdOf]
  rw [e]
  unfold StdR
  simp only
  refine sp_of (m := no) mixed Tryz.func63 k63 ?_
  simp -dsimp [q, gs, vg]
  all_goals decide
theorem std_p4 (n : Int) : StdR 63 ⟨#[112, 52]⟩ n (stdOf ⟨#[112, 52]⟩ n) := by
  have e : stdOf ⟨#[112, 52]⟩ n = some (0, [((0, -1, 1, 0), 0, 0)]) := by simp [stdOf]
  rw [e]
  unfold StdR
  simp only
  refine sp_of (m := no) mixed Tryz.func63 k63 ?_
  simp -dsimp [q, gs, vg]
  all_goals decide
theorem std_p4m (n : Int) : StdR 63 ⟨#[112, 52, 109]⟩ n (stdOf ⟨#[112, 52, 109]⟩ n) := by
  have e : stdOf ⟨#[112, 52, 109]⟩ n = some (0, [((0, -1, 1, 0), 0, 0), ((1, 0, 0, -1), 0, 0)]) := by simp [stdOf]
  rw [e]
  unfold StdR
  simp only
  refine sp_of (m := no) mixed Tryz.func63 k63 ?_
  simp -dsimp [q, gs, vg]
  all_goals decide
theorem std_p4g (n : Int) : StdR 63 ⟨#[112, 52, 103]⟩ n (stdOf ⟨#[112, 52, 103]⟩ n) := by
  have e : stdOf ⟨#[112, 52, 103]⟩ n = some (0, [((0, -1, 1, 0), 0, 0), ((1, 0, 0, -1), n, n)]) := by simp [stdOf]
  rw [e]
  unfold StdR
  simp only
  refine sp_of (m := no) mixed Tryz.func63 k63 ?_
  simp -dsimp [q, gs, vg]
  all_goals decide
theorem std_p3 (n : Int) : StdR 63 ⟨#[112, 51]⟩ n (stdOf ⟨#[112, 51]⟩ n) := by
  have e : stdOf ⟨#[112, 51]⟩ n = some (1, [((-1, -1, 1, 0), 0, 0)]) := by simp [stdOf]
  rw [e]
  unfold StdR
  simp only
  refine sp_of (m := no) mixed Tryz.func63 k63 ?_
  simp -dsimp [q, gs, vg]
  all_goals decide
theorem std_p3m1 (n : Int) : StdR 63 ⟨#[112, 51, 109, 49]⟩ n (stdOf ⟨#[112, 51, 109, 49]⟩ n) := by
  have e : stdOf ⟨#[112, 51, 109, 49]⟩ n = some (1, [((-1, -1, 1, 0), 0, 0), ((0, 1, 1, 0), 0, 0)]) := by simp [stdOf]
  rw [e]
  unfold StdR
  simp only
  refine sp_of (m := no) mixed Tryz.func63 k63 ?_
  simp -dsimp [q, gs, vg]
  all_goals decide
theorem std_p31m (n : Int) : StdR 63 ⟨#[112, 51, 49, 109]⟩ n (stdOf ⟨#[112, 51, 49, 109]⟩ n) := by
  have e : stdOf ⟨#[112, 51, 49, 109]⟩ n = some (1, [((-1, -1, 1, 0), 0, 0), ((1, 1, 0, -1), 0, 0)]) := by simp [stdOf]
  rw [e]
  unfold StdR
  simp only
  refine sp_of (m := no) mixed Tryz.func63 k63 ?_
  simp -dsimp [q, gs, vg]
  all_goals decide
theorem std_p6 (n : Int) : StdR 63 ⟨#[112, 54]⟩ n (stdOf ⟨#[112, 54]⟩ n) := by
  have e : stdOf ⟨#[112, 54]⟩ n = some (1, [((0, -1, 1, 1), 0, 0)]) := by simp [stdOf]
  rw [e]
  unfold StdR
  simp only
  refine sp_of (m := no) mixed Tryz.func63 k63 ?_
  simp -dsimp [q, gs, vg]
  all_goals decide
theorem std_p6m (n : Int) : StdR 63 ⟨#[112, 54, 109]⟩ n (stdOf ⟨#[112, 54, 109]⟩ n) := by
  have e : stdOf ⟨#[112, 54, 109]⟩ n = some (1, [((0, -1, 1, 1), 0, 0), ((0, 1, 1, 0), 0, 0)]) := by simp [stdOf]
  rw [e]
  unfold StdR
  simp only
  refine sp_of (m := no) mixed Tryz.func63 k63 ?_
  simp -dsimp [q, gs, vg]
  all_goals decide
theorem std_no (s : ByteArray) (n : Int) (h0 : ¬ s = ⟨#[112, 49]⟩) (h1 : ¬ s = ⟨#[112, 50]⟩) (h2 : ¬ s = ⟨#[112, 109]⟩) (h3 : ¬ s = ⟨#[112, 103]⟩) (h4 : ¬ s = ⟨#[99, 109]⟩) (h5 : ¬ s = ⟨#[112, 109, 109]⟩) (h6 : ¬ s = ⟨#[112, 109, 103]⟩) (h7 : ¬ s = ⟨#[112, 103, 103]⟩) (h8 : ¬ s = ⟨#[99, 109, 109]⟩) (h9 : ¬ s = ⟨#[112, 52]⟩) (h10 : ¬ s = ⟨#[112, 52, 109]⟩) (h11 : ¬ s = ⟨#[112, 52, 103]⟩) (h12 : ¬ s = ⟨#[112, 51]⟩) (h13 : ¬ s = ⟨#[112, 51, 109, 49]⟩) (h14 : ¬ s = ⟨#[112, 51, 49, 109]⟩) (h15 : ¬ s = ⟨#[112, 54]⟩) (h16 : ¬ s = ⟨#[112, 54, 109]⟩) : StdR 63 s n (stdOf s n) := by
  have e : stdOf s n = none := by simp [stdOf, h0, h1, h2, h3, h4, h5, h6, h7, h8, h9, h10, h11, h12, h13, h14, h15, h16]
  rw [e]
  unfold StdR
  simp only
  refine sp_of (m := no) mixed Tryz.func63 k63 ?_
  simp -dsimp [q, h0, h1, h2, h3, h4, h5, h6, h7, h8, h9, h10, h11, h12, h13, h14, h15, h16]
  all_goals decide
theorem s_std (s : ByteArray) (n : Int) : StdR 63 s n (stdOf s n) := by
  by_cases h0 : s = ⟨#[112, 49]⟩
  · rw [h0]; exact std_p1 n
  by_cases h1 : s = ⟨#[112, 50]⟩
  · rw [h1]; exact std_p2 n
  by_cases h2 : s = ⟨#[112, 109]⟩
  · rw [h2]; exact std_pm n
  by_cases h3 : s = ⟨#[112, 103]⟩
  · rw [h3]; exact std_pg n
  by_cases h4 : s = ⟨#[99, 109]⟩
  · rw [h4]; exact std_cm n
  by_cases h5 : s = ⟨#[112, 109, 109]⟩
  · rw [h5]; exact std_pmm n
  by_cases h6 : s = ⟨#[112, 109, 103]⟩
  · rw [h6]; exact std_pmg n
  by_cases h7 : s = ⟨#[112, 103, 103]⟩
  · rw [h7]; exact std_pgg n
  by_cases h8 : s = ⟨#[99, 109, 109]⟩
  · rw [h8]; exact std_cmm n
  by_cases h9 : s = ⟨#[112, 52]⟩
  · rw [h9]; exact std_p4 n
  by_cases h10 : s = ⟨#[112, 52, 109]⟩
  · rw [h10]; exact std_p4m n
  by_cases h11 : s = ⟨#[112, 52, 103]⟩
  · rw [h11]; exact std_p4g n
  by_cases h12 : s = ⟨#[112, 51]⟩
  · rw [h12]; exact std_p3 n
  by_cases h13 : s = ⟨#[112, 51, 109, 49]⟩
  · rw [h13]; exact std_p3m1 n
  by_cases h14 : s = ⟨#[112, 51, 49, 109]⟩
  · rw [h14]; exact std_p31m n
  by_cases h15 : s = ⟨#[112, 54]⟩
  · rw [h15]; exact std_p6 n
  by_cases h16 : s = ⟨#[112, 54, 109]⟩
  · rw [h16]; exact std_p6m n
  exact std_no s n h0 h1 h2 h3 h4 h5 h6 h7 h8 h9 h10 h11 h12 h13 h14 h15 h16
end Go.Proofs.YtcnhcilpaplpcaaGreatDoorEv
namespace Go.Proofs.YtcnhcilpaplpcaaGreatDoorEv
open Go Go.Proofs
set_option maxRecDepth 10000
set_option maxHeartbeats 2000000
theorem sstd_p1 (n : Int) : StdR 60 ⟨#[112, 49]⟩ n (stdOf ⟨#[112, 49]⟩ n) := by
  have e : stdOf ⟨#[112, 49]⟩ n = some (0, []) := by simp [stdOf]
  rw [e]
  unfold StdR
  simp only
  refine sp_of (m := no) mixed Tryz.func60 k60 ?_
  simp -dsimp [q, gs, vg]
  all_goals decide
theorem sstd_p2 (n : Int) : StdR 60 ⟨#[112, 50]⟩ n (stdOf ⟨#[112, 50]⟩ n) := by
  have e : stdOf ⟨#[112, 50]⟩ n = some (0, [((-1, 0, 0, -1), 0, 0)]) := by simp [stdOf]
  rw [e]
  unfold StdR
  simp only
  refine sp_of (m := no) mixed Tryz.func60 k60 ?_
  simp -dsimp [q, gs, vg]
  all_goals decide
theorem sstd_pm (n : Int) : StdR 60 ⟨#[112, 109]⟩ n (stdOf ⟨#[112, 109]⟩ n) := by
  have e : stdOf ⟨#[112, 109]⟩ n = some (0, [((1, 0, 0, -1), 0, 0)]) := by simp [stdOf]
  rw [e]
  unfold StdR
  simp only
  refine sp_of (m := no) mixed Tryz.func60 k60 ?_
  simp -dsimp [q, gs, vg]
  all_goals decide
theorem sstd_pg (n : Int) : StdR 60 ⟨#[112, 103]⟩ n (stdOf ⟨#[112, 103]⟩ n) := by
  have e : stdOf ⟨#[112, 103]⟩ n = some (0, [((1, 0, 0, -1), n, 0)]) := by simp [stdOf]
  rw [e]
  unfold StdR
  simp only
  refine sp_of (m := no) mixed Tryz.func60 k60 ?_
  simp -dsimp [q, gs, vg]
  all_goals decide
theorem sstd_cm (n : Int) : StdR 60 ⟨#[99, 109]⟩ n (stdOf ⟨#[99, 109]⟩ n) := by
  have e : stdOf ⟨#[99, 109]⟩ n = some (0, [((0, 1, 1, 0), 0, 0)]) := by simp [stdOf]
  rw [e]
  unfold StdR
  simp only
  refine sp_of (m := no) mixed Tryz.func60 k60 ?_
  simp -dsimp [q, gs, vg]
  all_goals decide
theorem sstd_pmm (n : Int) : StdR 60 ⟨#[112, 109, 109]⟩ n (stdOf ⟨#[112, 109, 109]⟩ n) := by
  have e : stdOf ⟨#[112, 109, 109]⟩ n = some (0, [((1, 0, 0, -1), 0, 0), ((-1, 0, 0, -1), 0, 0)]) := by simp [stdOf]
  rw [e]
  unfold StdR
  simp only
  refine sp_of (m := no) mixed Tryz.func60 k60 ?_
  simp -dsimp [q, gs, vg]
  all_goals decide
theorem sstd_pmg (n : Int) : StdR 60 ⟨#[112, 109, 103]⟩ n (stdOf ⟨#[112, 109, 103]⟩ n) := by
  have e : stdOf ⟨#[112, 109, 103]⟩ n = some (0, [((1, 0, 0, -1), n, 0), ((-1, 0, 0, -1), 0, 0)]) := by simp [stdOf]
  rw [e]
  unfold StdR
  simp only
  refine sp_of (m := no) mixed Tryz.func60 k60 ?_
  simp -dsimp [q, gs, vg]
  all_goals decide
theorem sstd_pgg (n : Int) : StdR 60 ⟨#[112, 103, 103]⟩ n (stdOf ⟨#[112, 103, 103]⟩ n) := by
  have e : stdOf ⟨#[112, 103, 103]⟩ n = some (0, [((1, 0, 0, -1), n, n), ((-1, 0, 0, -1), 0, 0)]) := by simp [stdOf]
  rw [e]
  unfold StdR
  simp only
  refine sp_of (m := no) mixed Tryz.func60 k60 ?_
  simp -dsimp [q, gs, vg]
  all_goals decide
theorem sstd_cmm (n : Int) : StdR 60 ⟨#[99, 109, 109]⟩ n (stdOf ⟨#[99, 109, 109]⟩ n) := by
  have e : stdOf ⟨#[99, 109, 109]⟩ n = some (0, [((0, 1, 1, 0), 0, 0), ((-1, 0, 0, -1), 0, 0)]) := by simp [stdOf]
  rw [e]
  unfold StdR
  simp only
  refine sp_of (m := no) mixed Tryz.func60 k60 ?_
  simp -dsimp [q, gs, vg]
  all_goals decide
theorem sstd_p4 (n : Int) : StdR 60 ⟨#[112, 52]⟩ n (stdOf ⟨#[112, 52]⟩ n) := by
  have e : stdOf ⟨#[112, 52]⟩ n = some (0, [((0, -1, 1, 0), 0, 0)]) := by simp [stdOf]
  rw [e]
  unfold StdR
  simp only
  refine sp_of (m := no) mixed Tryz.func60 k60 ?_
  simp -dsimp [q, gs, vg]
  all_goals decide
theorem sstd_p4m (n : Int) : StdR 60 ⟨#[112, 52, 109]⟩ n (stdOf ⟨#[112, 52, 109]⟩ n) := by
  have e : stdOf ⟨#[112, 52, 109]⟩ n = some (0, [((0, -1, 1, 0), 0, 0), ((1, 0, 0, -1), 0, 0)]) := by simp [stdOf]
  rw [e]
  unfold StdR
  simp only
  refine sp_of (m := no) mixed Tryz.func60 k60 ?_
  simp -dsimp [q, gs, vg]
  all_goals decide
theorem sstd_p4g (n : Int) : StdR 60 ⟨#[112, 52, 103]⟩ n (stdOf ⟨#[112, 52, 103]⟩ n) := by
  have e : stdOf ⟨#[112, 52, 103]⟩ n = some (0, [((0, -1, 1, 0), 0, 0), ((1, 0, 0, -1), n, n)]) := by simp [stdOf]
  rw [e]
  unfold StdR
  simp only
  refine sp_of (m := no) mixed Tryz.func60 k60 ?_
  simp -dsimp [q, gs, vg]
  all_goals decide
theorem sstd_p3 (n : Int) : StdR 60 ⟨#[112, 51]⟩ n (stdOf ⟨#[112, 51]⟩ n) := by
  have e : stdOf ⟨#[112, 51]⟩ n = some (1, [((-1, -1, 1, 0), 0, 0)]) := by simp [stdOf]
  rw [e]
  unfold StdR
  simp only
  refine sp_of (m := no) mixed Tryz.func60 k60 ?_
  simp -dsimp [q, gs, vg]
  all_goals decide
theorem sstd_p3m1 (n : Int) : StdR 60 ⟨#[112, 51, 109, 49]⟩ n (stdOf ⟨#[112, 51, 109, 49]⟩ n) := by
  have e : stdOf ⟨#[112, 51, 109, 49]⟩ n = some (1, [((-1, -1, 1, 0), 0, 0), ((0, 1, 1, 0), 0, 0)]) := by simp [stdOf]
  rw [e]
  unfold StdR
  simp only
  refine sp_of (m := no) mixed Tryz.func60 k60 ?_
  simp -dsimp [q, gs, vg]
  all_goals decide
theorem sstd_p31m (n : Int) : StdR 60 ⟨#[112, 51, 49, 109]⟩ n (stdOf ⟨#[112, 51, 49, 109]⟩ n) := by
  have e : stdOf ⟨#[112, 51, 49, 109]⟩ n = some (1, [((-1, -1, 1, 0), 0, 0), ((1, 1, 0, -1), 0, 0)]) := by simp [stdOf]
  rw [e]
  unfold StdR
  simp only
  refine sp_of (m := no) mixed Tryz.func60 k60 ?_
  simp -dsimp [q, gs, vg]
  all_goals decide
theorem sstd_p6 (n : Int) : StdR 60 ⟨#[112, 54]⟩ n (stdOf ⟨#[112, 54]⟩ n) := by
  have e : stdOf ⟨#[112, 54]⟩ n = some (1, [((0, -1, 1, 1), 0, 0)]) := by simp [stdOf]
  rw [e]
  unfold StdR
  simp only
  refine sp_of (m := no) mixed Tryz.func60 k60 ?_
  simp -dsimp [q, gs, vg]
  all_goals decide
theorem sstd_p6m (n : Int) : StdR 60 ⟨#[112, 54, 109]⟩ n (stdOf ⟨#[112, 54, 109]⟩ n) := by
  have e : stdOf ⟨#[112, 54, 109]⟩ n = some (1, [((0, -1, 1, 1), 0, 0), ((0, 1, 1, 0), 0, 0)]) := by simp [stdOf]
  rw [e]
  unfold StdR
  simp only
  refine sp_of (m := no) mixed Tryz.func60 k60 ?_
  simp -dsimp [q, gs, vg]
  all_goals decide
theorem sstd_no (s : ByteArray) (n : Int) (h0 : ¬ s = ⟨#[112, 49]⟩) (h1 : ¬ s = ⟨#[112, 50]⟩) (h2 : ¬ s = ⟨#[112, 109]⟩) (h3 : ¬ s = ⟨#[112, 103]⟩) (h4 : ¬ s = ⟨#[99, 109]⟩) (h5 : ¬ s = ⟨#[112, 109, 109]⟩) (h6 : ¬ s = ⟨#[112, 109, 103]⟩) (h7 : ¬ s = ⟨#[112, 103, 103]⟩) (h8 : ¬ s = ⟨#[99, 109, 109]⟩) (h9 : ¬ s = ⟨#[112, 52]⟩) (h10 : ¬ s = ⟨#[112, 52, 109]⟩) (h11 : ¬ s = ⟨#[112, 52, 103]⟩) (h12 : ¬ s = ⟨#[112, 51]⟩) (h13 : ¬ s = ⟨#[112, 51, 109, 49]⟩) (h14 : ¬ s = ⟨#[112, 51, 49, 109]⟩) (h15 : ¬ s = ⟨#[112, 54]⟩) (h16 : ¬ s = ⟨#[112, 54, 109]⟩) : StdR 60 s n (stdOf s n) := by
  have e : stdOf s n = none := by simp [stdOf, h0, h1, h2, h3, h4, h5, h6, h7, h8, h9, h10, h11, h12, h13, h14, h15, h16]
  rw [e]
  unfold StdR
  simp only
  refine sp_of (m := no) mixed Tryz.func60 k60 ?_
  simp -dsimp [q, h0, h1, h2, h3, h4, h5, h6, h7, h8, h9, h10, h11, h12, h13, h14, h15, h16]
  all_goals decide
theorem s_sstd (s : ByteArray) (n : Int) : StdR 60 s n (stdOf s n) := by
  by_cases h0 : s = ⟨#[112, 49]⟩
  · rw [h0]; exact sstd_p1 n
  by_cases h1 : s = ⟨#[112, 50]⟩
  · rw [h1]; exact sstd_p2 n
  by_cases h2 : s = ⟨#[112, 109]⟩
  · rw [h2]; exact sstd_pm n
  by_cases h3 : s = ⟨#[112, 103]⟩
  · rw [h3]; exact sstd_pg n
  by_cases h4 : s = ⟨#[99, 109]⟩
  · rw [h4]; exact sstd_cm n
  by_cases h5 : s = ⟨#[112, 109, 109]⟩
  · rw [h5]; exact sstd_pmm n
  by_cases h6 : s = ⟨#[112, 109, 103]⟩
  · rw [h6]; exact sstd_pmg n
  by_cases h7 : s = ⟨#[112, 103, 103]⟩
  · rw [h7]; exact sstd_pgg n
  by_cases h8 : s = ⟨#[99, 109, 109]⟩
  · rw [h8]; exact sstd_cmm n
  by_cases h9 : s = ⟨#[112, 52]⟩
  · rw [h9]; exact sstd_p4 n
  by_cases h10 : s = ⟨#[112, 52, 109]⟩
  · rw [h10]; exact sstd_p4m n
  by_cases h11 : s = ⟨#[112, 52, 103]⟩
  · rw [h11]; exact sstd_p4g n
  by_cases h12 : s = ⟨#[112, 51]⟩
  · rw [h12]; exact sstd_p3 n
  by_cases h13 : s = ⟨#[112, 51, 109, 49]⟩
  · rw [h13]; exact sstd_p3m1 n
  by_cases h14 : s = ⟨#[112, 51, 49, 109]⟩
  · rw [h14]; exact sstd_p31m n
  by_cases h15 : s = ⟨#[112, 54]⟩
  · rw [h15]; exact sstd_p6 n
  by_cases h16 : s = ⟨#[112, 54, 109]⟩
  · rw [h16]; exact sstd_p6m n
  exact sstd_no s n h0 h1 h2 h3 h4 h5 h6 h7 h8 h9 h10 h11 h12 h13 h14 h15 h16
end Go.Proofs.YtcnhcilpaplpcaaGreatDoorEv
namespace Go.Proofs.YtcnhcilpaplpcaaGreatDoorEv
open Go Go.Proofs
set_option maxRecDepth 10000
set_option maxHeartbeats 2000000
theorem fA_of {α : Type} {o : Option α} {K : α → Prop} {y : α} (h : o = some y) (k : K y) : fA o K := by rw [h, fA_some]; exact k
def len8 (x : Nat) : Int := ([0, 1, 2, 2, 3, 3, 3, 3, 4, 4, 4, 4, 4] : List Int).getD x 0
theorem s_len64 (x : Nat) (h : x ≤ 12) : Sp Tryz.prog 143 [.v (.int .u64 x)] (vi (len8 x)) [] := by
  have hx : x = 0 ∨ x = 1 ∨ x = 2 ∨ x = 3 ∨ x = 4 ∨ x = 5 ∨ x = 6 ∨ x = 7 ∨ x = 8 ∨ x = 9 ∨ x = 10 ∨ x = 11 ∨ x = 12 := by omega
  refine sp_of (m := no) mixed Tryz.func143 k143 ?_
  rcases hx with rfl | rfl | rfl | rfl | rfl | rfl | rfl | rfl | rfl | rfl | rfl | rfl | rfl
  all_goals
    simp -dsimp [q, len8]
    refine ⟨⟨by decide, by decide⟩, ?_⟩
    first
      | refine fA_of (y := 0) (by decide) ?_
      | refine fA_of (y := 1) (by decide) ?_
      | refine fA_of (y := 2) (by decide) ?_
      | refine fA_of (y := 3) (by decide) ?_
      | refine fA_of (y := 4) (by decide) ?_
    rw [hd_app]
    simp -dsimp [q]
    try decide
theorem s_len (x : Nat) (h : x ≤ 12) : Sp Tryz.prog 111 [.v (.int .u64 x)] (vi (len8 x)) [] := by
  refine sp_of (m := no) mixed Tryz.func111 k111 ?_
  simp -dsimp [q]
  refine call_of (s_len64 x h) rfl (by simp) ?_
  try simp -dsimp
  try (first | exact fp_one (by decide) | refine fp_and (by decide) ?_)
theorem s_insS (l : List G6) (t : Nat) (h : l.length ≤ 12) : SpG Tryz.prog 134 [.sli 0, vi 0, vi l.length, .fn 86 []] [.row 6 t (gs l)] (.tu []) [.row 6 t (gs (outr l.length l))] := by
  refine sg_of (m := no) mixed Tryz.func134 k134 ?_
  simp -dsimp [q]
  refine awp_it (true :: true :: true :: true :: false :: false :: false :: false :: true :: []) (fun s : Nat × List G6 => [(8, vi s.1)]) (fun s => [(0, .row 6 t (gs s.2))]) (fun s => s.2.length = l.length ∧ 1 ≤ s.1 ∧ (s.1 ≤ l.length ∨ s.1 = 1) ∧ outr s.1 l = s.2) (fun s => l.length - s.1) (1, l) ?_
  intro s0 e
  simp -dsimp at e
  subst e
  refine ⟨?_, ?_⟩
  · simp [outr]
    decide
  rintro ⟨i, r⟩ ⟨h1, h2, h3, h4⟩
  simp only at h1 h2 h3 h4
  by_cases hi : i < l.length
  case neg =>
    have e : outr l.length l = r := by
      rcases h3 with h3 | h3
      · rw [← h4, show i = l.length by omega]
      · subst h3
        rw [← h4]
        have : l.length = 0 ∨ l.length = 1 := by omega
        rcases this with e | e <;> rw [e] <;> rfl
    simp -dsimp [show ¬ ((i : Int) < l.length) by omega, e]
  simp -dsimp [show ((i : Int) < l.length) by omega]
  refine awp_it (true :: true :: true :: true :: false :: false :: false :: false :: true :: true :: []) (fun s : Nat × List G6 => [(9, vi s.1)]) (fun s => [(0, .row 6 t (gs s.2))]) (fun s => s.2.length = l.length ∧ s.1 ≤ i ∧ innr s.1 s.2 = innr i r) (fun s => s.1) (i, r) ?_
  intro s0 e
  simp -dsimp at e
  subst e
  refine ⟨?_, ?_⟩
  · simp [h1]
  rintro ⟨j, r'⟩ ⟨k1, k2, k3⟩
  simp only at k1 k2 k3
  have nx : ∀ r', innr i r = r' → outr (i + 1) l = r' := fun r' e => by
    obtain ⟨i', rfl⟩ : ∃ i', i = i' + 1 := ⟨i - 1, by omega⟩
    rw [outr, h4, e]
  by_cases hj : 0 < j
  case neg =>
    obtain rfl : j = 0 := by omega
    have e := nx r' k3.symm
    simp -dsimp [-Prod.forall, -Prod.exists]
    exact ⟨(i + 1, r'), ⟨by rw [w64 (by omega) (by omega)]; simp, rfl⟩, ⟨k1, by simp, .inl (by simp only; omega), e⟩, by simp only; omega⟩
  obtain ⟨j, rfl⟩ : ∃ j', j = j' + 1 := ⟨j - 1, by omega⟩
  have e1 : IntKind.i64.wrap (j : Int) = j := w64 (by omega) (by omega)
  simp -dsimp [e1, -Prod.forall, -Prod.exists]
  refine ⟨⟨by omega, by omega⟩, by omega, fun b hb => ⟨by omega, fun a ha => ?_⟩⟩
  obtain ⟨k, wk, hk⟩ := s_cmpG b a
  have st := innr_step hb ha
  have hb' : (gs r')[j + 1]? = some (vg b) := by simp [gs, hb]
  have ha' : (gs r')[j]? = some (vg a) := by simp [gs, ha]
  refine call_of (wk) rfl (by simp) ?_
  try simp -dsimp
  try (first | exact fp_one (by decide) | refine fp_and (by decide) ?_)
  refine ⟨fun hk0 => ?_, fun hk0 => ?_⟩
  · have hlt : ltG b a = true := by
      cases e : ltG b a with
      | true => rfl
      | false => have := hk.2 e; omega
    rw [if_pos hlt] at st
    clear hb' ha' wk
    rw [e1, Int.toNat_natCast]
    refine ⟨⟨by omega, by omega⟩, by omega, fun x1 x2 x3 x4 x5 x6 hx => ?_⟩
    rw [ha] at hx
    cases hx
    refine ⟨⟨by omega, by omega⟩, by omega, fun y1 y2 y3 y4 y5 y6 hy => ?_⟩
    rw [hb] at hy
    cases hy
    exact ⟨⟨by omega, by omega⟩, by omega, ⟨by omega, by omega⟩, by omega, by decide, j, _, ⟨rfl, rfl⟩, ⟨by simp [k1], by omega, by rw [← k3, st]; rfl⟩, by omega⟩
  · have hlt : ltG b a = false := hk.1 (by omega)
    rw [if_neg (by rw [hlt]; simp)] at st
    have e := nx r' (by rw [← k3, st])
    exact ⟨i + 1, r', ⟨by rw [w64 (by omega) (by omega)]; simp, rfl⟩, ⟨k1, by omega, .inl (by omega), e⟩, by omega⟩
theorem s_pdq (l : List G6) (t : Nat) (lim : Int) (h : l.length ≤ 12) : SpG Tryz.prog 110 [.sli 0, vi 0, vi l.length, vi lim, .fn 86 []] [.row 6 t (gs l)] (.tu []) [.row 6 t (gs (outr l.length l))] := by
  refine sg_of (m := fun f => f == 134) mixed Tryz.func110 k110 ?_
  simp -dsimp [q]
  refine awp_it (true :: true :: true :: true :: true :: false :: false :: false :: false :: false :: true :: true :: []) (fun i : Nat => []) (fun i => []) (fun i => i = 0) (fun i => 0) 0 ?_
  intro s0 e
  simp -dsimp at e
  subst e
  refine ⟨?_, ?_⟩
  · simp
  rintro i rfl
  have e1 : IntKind.i64.wrap (l.length : Int) = l.length := w64 (by omega) (by omega)
  simp -dsimp [e1, show (l.length : Int) ≤ 12 by omega]
  refine callM_of rfl (s_insS l t h) (by simp) ?_
  try simp -dsimp
  try (first | exact fp_one (by decide) | refine fp_and (by decide) ?_)
theorem s_sort (l : List G6) (t : Nat) (h : l.length ≤ 12) : SpG Tryz.prog 85 [.sli 0, .fn 86 []] [.row 6 t (gs l)] (.tu []) [.row 6 t (gs (outr l.length l))] := by
  refine sg_of (m := fun f => f == 110) mixed Tryz.func85 k85 ?_
  have e1 : IntKind.u64.wrap (l.length : Int) = l.length := by
    have : l.length = 0 ∨ l.length = 1 ∨ l.length = 2 ∨ l.length = 3 ∨ l.length = 4 ∨ l.length = 5 ∨ l.length = 6 ∨ l.length = 7 ∨ l.length = 8 ∨ l.length = 9 ∨ l.length = 10 ∨ l.length = 11 ∨ l.length = 12 := by omega
    rcases this with e | e | e | e | e | e | e | e | e | e | e | e | e <;> rw [e] <;> rfl
  simp -dsimp [q, e1]
  refine call_of (s_len l.length h) rfl (by simp) ?_
  try simp -dsimp
  try (first | exact fp_one (by decide) | refine fp_and (by decide) ?_)
  refine callM_of rfl (s_pdq l t (len8 l.length) h) (by simp) ?_
  try simp -dsimp
  try (first | exact fp_one (by decide) | refine fp_and (by decide) ?_)
/-! closing, as the program does it -/
theorem s_close (n : Int) (L S : List G6) (hn : 1 ≤ n ∧ n ≤ 4) (c : Clo n L S) : Sp Tryz.prog 64 [aL (2 * n) 0 (2 * n), .v (vgs L)] (.sli 0) [.row 6 116 (gs (outr (grpL n L).length (grpL n L)))] := by
  refine sp_of (m := fun f => f == 85) mixed Tryz.func64 k64 ?_
  simp -dsimp [q]
  refine call_of (s_unit) rfl (by simp) ?_
  try simp -dsimp
  try (first | exact fp_one (by decide) | refine fp_and (by decide) ?_)
  refine ⟨(gE_keyed [] 1 0 0 1 0 0).2 trivial, ?_⟩
  have hmem : ∀ g, memG (2 * n) (2 * n) g → oneM g.1 ∧ g.2.1.natAbs ≤ 1000 ∧ g.2.2.natAbs ≤ 1000 := fun g ⟨g1, g2, g3⟩ => ⟨g1, by omega, by omega⟩
  have hlen := c.len2
  refine awp_it (false :: true :: true :: false :: false :: true :: true :: true :: []) (fun s : Nat × List G6 => [(7, vi s.1)]) (fun s => [(1, .row 6 116 (gs s.2)), (2, .map [] (gE s.2))]) (fun s => Gd S s.2 ∧ s.1 ≤ s.2.length ∧ bfs n L (13 - s.1) s.1 s.2 = grpL n L) (fun s => 13 - s.1) (0, [unG]) ?_
  intro s0 e
  simp -dsimp at e
  subst e
  refine ⟨?_, ?_⟩
  · exact ⟨by simp [gs, gE, vg, mput], Gd.one c, by simp, rfl⟩
  rintro ⟨k, O⟩ ⟨h1, h2, h3⟩
  simp only at h1 h2 h3
  have hO := h1.len c
  by_cases hk : k < O.length
  case neg =>
    have e : O = grpL n L := by rw [← h3, bfs_end _ _ _ _ _ (by omega)]
    simp -dsimp [show ¬ ((k : Int) < O.length) by omega, -Prod.forall, -Prod.exists]
    rw [e] at hO ⊢
    refine callM_of rfl (s_sort (grpL n L) 116 hO) (by simp) ?_
    try simp -dsimp
    try (first | exact fp_one (by decide) | refine fp_and (by decide) ?_)
  obtain ⟨g, hg⟩ : ∃ g, O[k]? = some g := ⟨_, List.getElem?_eq_getElem hk⟩
  have hgS := h1.sub g (List.mem_of_getElem? hg)
  rw [show 13 - k = (12 - k) + 1 by omega, bfs_step n L _ k O g hg] at h3
  simp -dsimp [show ((k : Int) < O.length) by omega, -Prod.forall, -Prod.exists]
  refine awp_it (false :: true :: true :: false :: false :: true :: true :: true :: false :: false :: false :: false :: false :: false :: false :: false :: false :: false :: false :: false :: false :: false :: false :: false :: false :: true :: true :: true :: []) (fun s : Nat × List G6 => [(27, vi s.1)]) (fun s => [(1, .row 6 116 (gs s.2)), (2, .map [] (gE s.2))]) (fun s => Gd S s.2 ∧ s.2[k]? = some g ∧ s.1 ≤ L.length ∧ (L.drop s.1).foldl (addG n g) s.2 = L.foldl (addG n g) O) (fun s => L.length - s.1) (0, O) ?_
  intro s0 e
  simp -dsimp at e
  subst e
  refine ⟨?_, ?_⟩
  · exact ⟨by simp, h1, hg, by simp, rfl⟩
  rintro ⟨i, O'⟩ ⟨k1, k2, k3, k4⟩
  simp only at k1 k2 k3 k4
  have hO' := k1.len c
  by_cases hi : i < L.length
  case neg =>
    rw [List.drop_of_length_le (by omega), List.foldl_nil] at k4
    simp -dsimp [show ¬ ((i : Int) < L.length) by omega, -Prod.forall, -Prod.exists]
    have hkl := (List.getElem?_eq_some_iff.1 k2).1
    exact ⟨(k + 1, O'), ⟨by rw [w64 (by omega) (by omega)]; simp, rfl, rfl⟩, ⟨k1, by simp only; omega, by simp only; rw [k4, ← h3, show 13 - (k + 1) = 12 - k by omega]⟩, by simp only; omega⟩
  obtain ⟨m, hm⟩ : ∃ m, L[i]? = some m := ⟨_, List.getElem?_eq_getElem hi⟩
  have hmL := List.mem_of_getElem? hm
  have ga := k1.add c hmL hgS
  have mg := hmem m (c.sl m hmL)
  have kg := hmem g (c.sm g hgS)
  have kd : (L.drop (i + 1)).foldl (addG n g) (addG n g O' m) = L.foldl (addG n g) O := by
    rw [← k4]
    conv => rhs; rw [List.drop_eq_getElem_cons hi, List.foldl_cons]
    rw [(List.getElem?_eq_some_iff.1 hm).2]
  simp -dsimp [show ((i : Int) < L.length) by omega, -Prod.forall, -Prod.exists]
  refine fun m' hm' => ?_
  rw [hm] at hm'
  cases hm'
  have hkl := (List.getElem?_eq_some_iff.1 k2).1
  refine ⟨hkl, fun g' hg' => ?_⟩
  rw [k2] at hg'
  cases hg'
  refine call_of (s_gmul m g mg kg) rfl (by simp) ?_
  try simp -dsimp
  try (first | exact fp_one (by decide) | refine fp_and (by decide) ?_)
  have q1 := mul_bd mg.1.1.1 kg.2.1
  have q2 := mul_bd mg.1.1.2 kg.2.2
  have q3 := mul_bd mg.1.2.1 kg.2.1
  have q4 := mul_bd mg.1.2.2 kg.2.2
  obtain ⟨_, mg2, mg3⟩ := mg
  refine call_of (s_gred (2 * n) 0 (2 * n) (mulG m g) (by omega) (by omega) (by omega) (by simp only [mulG]; omega) (by simp only [mulG]; omega)) rfl (by simp) ?_
  try simp -dsimp
  try (first | exact fp_one (by decide) | refine fp_and (by decide) ?_)
  have ad : addG n g O' m = if redG (2 * n) 0 (2 * n) (mulG m g) ∈ O' then O' else O' ++ [redG (2 * n) 0 (2 * n) (mulG m g)] := rfl
  have gk := addG_get (n := n) (g := g) (m := m) k2
  generalize redG (2 * n) 0 (2 * n) (mulG m g) = p at *
  obtain ⟨⟨p1, p2, p3, p4⟩, p5, p6⟩ := p
  simp only
  refine ⟨fun hno => ⟨⟨by omega, by omega⟩, i + 1, _, ⟨by rw [w64 (by omega) (by omega)]; simp, rfl, by rw [if_neg hno]⟩, ?_, by omega⟩, fun hyes => ⟨i + 1, _, ⟨by rw [w64 (by omega) (by omega)]; simp, rfl, rfl⟩, ?_, by omega⟩⟩
  · rw [if_neg hno] at ad
    rw [← ad]
    exact ⟨ga, gk, by omega, kd⟩
  · rw [if_pos hyes] at ad
    rw [ad] at ga gk kd
    exact ⟨ga, gk, by omega, kd⟩
end Go.Proofs.YtcnhcilpaplpcaaGreatDoorEv
namespace Go.Proofs.YtcnhcilpaplpcaaGreatDoorEv
open Go Go.Proofs
set_option maxRecDepth 10000
set_option maxHeartbeats 2000000
theorem s_sins (l : List G6) (m : G6) (hs : srt l) (hl : l.length ≤ 1000) (hm : m ∉ l) : Sp Tryz.prog 81 [.v (vgs l), aG6 m] (.sli 0) [.row 6 116 (gs (insG l m))] := by
  refine sp_of (m := no) mixed Tryz.func81 k81 ?_
  have hp := plc_has (m := m) hs
  have hpl : plc l m ≤ l.length := List.findIdx_le_length
  have e0 : gs (insG l m) = gs (List.take (plc l m) l ++ [((m.1.1, m.1.2.1, m.1.2.2.1, m.1.2.2.2), m.2.1, m.2.2)]) ++ gs (List.take (l.length - plc l m) (List.drop (plc l m) l)) := by
    rw [gs_app2, show List.take (l.length - plc l m) (List.drop (plc l m) l) = List.drop (plc l m) l from List.take_of_length_le (by simp)]
    simp [insG]
  simp -dsimp [q, -Prod.forall, -Prod.exists]
  refine call_of (s_place l m hs (by omega)) rfl (by simp) ?_
  try simp -dsimp
  try (first | exact fp_one (by decide) | refine fp_and (by decide) ?_)
  refine ⟨fun hlt => ⟨hlt, fun a1 a2 a3 a4 a5 a6 hx => ⟨?_, fun _ => ⟨by omega, ⟨by omega, by omega⟩, ⟨by omega, by omega⟩, by omega, ⟨by omega, by omega⟩, by decide, e0⟩⟩⟩, fun hge => ⟨by omega, ⟨by omega, by omega⟩, ⟨by omega, by omega⟩, by omega, ⟨by omega, by omega⟩, by decide, e0⟩⟩
  rintro rfl rfl rfl rfl rfl rfl
  exact hm (hp.1 ⟨hlt, hx⟩)
theorem s_sclose (n : Int) (L S : List G6) (hn : 1 ≤ n ∧ n ≤ 4) (c : Clo n L S) : Sp Tryz.prog 61 [aL (2 * n) 0 (2 * n), .v (vgs L)] (.sli 0) [.row 6 116 (gs (srtL (grpL n L)))] := by
  refine sp_of (m := no) mixed Tryz.func61 k61 ?_
  simp -dsimp [q]
  refine call_of (s_sun) rfl (by simp) ?_
  try simp -dsimp
  try (first | exact fp_one (by decide) | refine fp_and (by decide) ?_)
  refine call_of (s_sun) rfl (by simp) ?_
  try simp -dsimp
  try (first | exact fp_one (by decide) | refine fp_and (by decide) ?_)
  have hmem : ∀ g, memG (2 * n) (2 * n) g → oneM g.1 ∧ g.2.1.natAbs ≤ 1000 ∧ g.2.2.natAbs ≤ 1000 := fun g ⟨g1, g2, g3⟩ => ⟨g1, by omega, by omega⟩
  have hlen := c.len2
  refine awp_it (false :: true :: true :: false :: false :: true :: true :: true :: []) (fun s : Nat × List G6 => [(7, vi s.1)]) (fun s => [(1, .row 6 116 (gs (srtL s.2))), (2, .row 6 116 (gs s.2))]) (fun s => Gd S s.2 ∧ s.1 ≤ s.2.length ∧ bfs n L (13 - s.1) s.1 s.2 = grpL n L) (fun s => 13 - s.1) (0, [unG]) ?_
  intro s0 e
  simp -dsimp at e
  subst e
  refine ⟨?_, ?_⟩
  · exact ⟨by simp [gs, vg, srtL, insG, plc], Gd.one c, by simp, rfl⟩
  rintro ⟨k, O⟩ ⟨h1, h2, h3⟩
  simp only at h1 h2 h3
  have hO := h1.len c
  by_cases hk : k < O.length
  case neg =>
    have e : O = grpL n L := by rw [← h3, bfs_end _ _ _ _ _ (by omega)]
    have hk2 : ¬ ((k : Int) < (grpL n L).length) := by rw [← e]; omega
    simp -dsimp [hk2, -Prod.forall, -Prod.exists, e]
  obtain ⟨g, hg⟩ : ∃ g, O[k]? = some g := ⟨_, List.getElem?_eq_getElem hk⟩
  have hgS := h1.sub g (List.mem_of_getElem? hg)
  rw [show 13 - k = (12 - k) + 1 by omega, bfs_step n L _ k O g hg] at h3
  simp -dsimp [show ((k : Int) < O.length) by omega, -Prod.forall, -Prod.exists]
  refine awp_it (false :: true :: true :: false :: false :: true :: true :: true :: true :: []) (fun s : Nat × List G6 => [(8, vi s.1)]) (fun s => [(1, .row 6 116 (gs (srtL s.2))), (2, .row 6 116 (gs s.2))]) (fun s => Gd S s.2 ∧ s.2[k]? = some g ∧ s.1 ≤ L.length ∧ (L.drop s.1).foldl (addG n g) s.2 = L.foldl (addG n g) O) (fun s => L.length - s.1) (0, O) ?_
  intro s0 e
  simp -dsimp at e
  subst e
  refine ⟨?_, ?_⟩
  · exact ⟨by simp, h1, hg, by simp, rfl⟩
  rintro ⟨i, O'⟩ ⟨k1, k2, k3, k4⟩
  simp only at k1 k2 k3 k4
  have hO' := k1.len c
  by_cases hi : i < L.length
  case neg =>
    rw [List.drop_of_length_le (by omega), List.foldl_nil] at k4
    simp -dsimp [show ¬ ((i : Int) < L.length) by omega, -Prod.forall, -Prod.exists]
    have hkl := (List.getElem?_eq_some_iff.1 k2).1
    exact ⟨(k + 1, O'), ⟨by rw [w64 (by omega) (by omega)]; simp, rfl, rfl⟩, ⟨k1, by simp only; omega, by simp only; rw [k4, ← h3, show 13 - (k + 1) = 12 - k by omega]⟩, by simp only; omega⟩
  obtain ⟨m, hm⟩ : ∃ m, L[i]? = some m := ⟨_, List.getElem?_eq_getElem hi⟩
  have hmL := List.mem_of_getElem? hm
  have ga := k1.add c hmL hgS
  have mg := hmem m (c.sl m hmL)
  have kg := hmem g (c.sm g hgS)
  have kd : (L.drop (i + 1)).foldl (addG n g) (addG n g O' m) = L.foldl (addG n g) O := by
    rw [← k4]
    conv => rhs; rw [List.drop_eq_getElem_cons hi, List.foldl_cons]
    rw [(List.getElem?_eq_some_iff.1 hm).2]
  have hkl := (List.getElem?_eq_some_iff.1 k2).1
  simp -dsimp [show ((i : Int) < L.length) by omega, -Prod.forall, -Prod.exists]
  refine fun m' hm' => ?_
  rw [hm] at hm'
  cases hm'
  refine ⟨hkl, fun g' hg' => ?_⟩
  rw [k2] at hg'
  cases hg'
  refine call_of (s_sgmul m g mg kg) rfl (by simp) ?_
  try simp -dsimp
  try (first | exact fp_one (by decide) | refine fp_and (by decide) ?_)
  have q1 := mul_bd mg.1.1.1 kg.2.1
  have q2 := mul_bd mg.1.1.2 kg.2.2
  have q3 := mul_bd mg.1.2.1 kg.2.1
  have q4 := mul_bd mg.1.2.2 kg.2.2
  obtain ⟨_, mg2, mg3⟩ := mg
  refine call_of (s_sgred (2 * n) 0 (2 * n) (mulG m g) (by omega) (by omega) (by omega) (by simp only [mulG]; omega) (by simp only [mulG]; omega)) rfl (by simp) ?_
  try simp -dsimp
  try (first | exact fp_one (by decide) | refine fp_and (by decide) ?_)
  have ad : addG n g O' m = if redG (2 * n) 0 (2 * n) (mulG m g) ∈ O' then O' else O' ++ [redG (2 * n) 0 (2 * n) (mulG m g)] := rfl
  have gk := addG_get (n := n) (g := g) (m := m) k2
  generalize redG (2 * n) 0 (2 * n) (mulG m g) = p at *
  have hsr := srtL_srt k1.nd
  have hsl := srtL_len O'
  have hsm := srtL_mem (Q := O') (x := p)
  have hsa := srtL_app O' p
  refine call_of (s_shas (srtL O') p hsr (by omega)) rfl (by simp) ?_
  try simp -dsimp
  try (first | exact fp_one (by decide) | refine fp_and (by decide) ?_)
  refine ⟨fun hno => ?_, fun hyes => ⟨i + 1, O', ⟨by rw [w64 (by omega) (by omega)]; simp, rfl, rfl⟩, ?_, by omega⟩⟩
  · rw [if_neg (fun hin => hno (hsm.2 hin))] at ad
    rw [ad] at ga gk kd
    refine call_of (s_sins (srtL O') p hsr (by omega) hno) rfl (by simp) ?_
    try simp -dsimp
    try (first | exact fp_one (by decide) | refine fp_and (by decide) ?_)
    exact ⟨⟨by omega, by omega⟩, i + 1, O' ++ [p], ⟨by rw [w64 (by omega) (by omega)]; simp, hsa.symm, rfl⟩, ⟨ga, gk, by omega, kd⟩, by omega⟩
  · rw [if_pos (hsm.1 hyes)] at ad
    rw [ad] at ga gk kd
    exact ⟨ga, gk, by omega, kd⟩
end Go.Proofs.YtcnhcilpaplpcaaGreatDoorEv
namespace Go.Proofs.YtcnhcilpaplpcaaGreatDoorEv
open Go Go.Proofs
set_option maxRecDepth 10000
set_option maxHeartbeats 2000000
theorem s_SG_no (s : ByteArray) (n : Int) (h : stdOf s n = none) : Sp Tryz.prog 44 [.v (.str s), vi n] (.tu [vi 0, aL 0 0 0, .nil 6, vi 4]) [] := by
  refine sp_of (m := no) mixed Tryz.func44 k44 ?_
  have w := s_std s n
  rw [h] at w
  unfold StdR at w
  simp only at w
  simp -dsimp [q]
  refine call_of (w) rfl (by simp) ?_
  try simp -dsimp
  try (first | exact fp_one (by decide) | refine fp_and (by decide) ?_)
theorem s_SG_far (s : ByteArray) (n f : Int) (L : List G6) (h : stdOf s n = some (f, L)) (hn : ¬ (1 ≤ n ∧ n ≤ 4)) : Sp Tryz.prog 44 [.v (.str s), vi n] (.tu [vi 0, aL 0 0 0, .nil 6, vi 2]) [] := by
  refine sp_of (m := no) mixed Tryz.func44 k44 ?_
  have w := s_std s n
  have w2 := s_within n 1 4
  rw [decide_eq_false hn] at w2
  rw [h] at w
  unfold StdR at w
  simp -dsimp [q]
  cases L with
  | nil =>
    simp only at w
    refine call_of (w) rfl (by simp) ?_
    try simp -dsimp
    try (first | exact fp_one (by decide) | refine fp_and (by decide) ?_)
    refine call_of (w2) rfl (by simp) ?_
    try simp -dsimp
    try (first | exact fp_one (by decide) | refine fp_and (by decide) ?_)
  | cons x L =>
    simp only at w
    refine call_of (w) rfl (by simp) ?_
    try simp -dsimp
    try (first | exact fp_one (by decide) | refine fp_and (by decide) ?_)
    refine call_of (w2) rfl (by simp) ?_
    try simp -dsimp
    try (first | exact fp_one (by decide) | refine fp_and (by decide) ?_)
theorem s_SG (s : ByteArray) (n f : Int) (L S : List G6) (h : stdOf s n = some (f, L)) (hn : 1 ≤ n ∧ n ≤ 4) (c : Clo n L S) : Sp Tryz.prog 44 [.v (.str s), vi n] (.tu [vi f, aL (2 * n) 0 (2 * n), .sli 0, vi 0]) [.row 6 116 (gs (outr (grpL n L).length (grpL n L)))] := by
  refine sp_of (m := no) mixed Tryz.func44 k44 ?_
  have w := s_std s n
  have w2 := s_within n 1 4
  have w3 := s_close n L S hn c
  have e2 : IntKind.i64.wrap (2 * n) = 2 * n := w64 (by omega) (by omega)
  rw [decide_eq_true hn] at w2
  rw [h] at w
  unfold StdR at w
  generalize outr (grpL n L).length (grpL n L) = G at *
  simp -dsimp [q]
  cases L with
  | nil =>
    simp only at w
    refine call_of (w) rfl (by simp) ?_
    try simp -dsimp
    try (first | exact fp_one (by decide) | refine fp_and (by decide) ?_)
    refine call_of (w2) rfl (by simp) ?_
    try simp -dsimp
    try (first | exact fp_one (by decide) | refine fp_and (by decide) ?_)
    rw [e2]
    refine call_of (w3) rfl (by simp) ?_
    try simp -dsimp
    try (first | exact fp_one (by decide) | refine fp_and (by decide) ?_)
    try decide
  | cons x L =>
    simp only at w
    refine call_of (w) rfl (by simp) ?_
    try simp -dsimp
    try (first | exact fp_one (by decide) | refine fp_and (by decide) ?_)
    refine call_of (w2) rfl (by simp) ?_
    try simp -dsimp
    try (first | exact fp_one (by decide) | refine fp_and (by decide) ?_)
    rw [e2]
    refine call_of (w3) rfl (by simp) ?_
    try simp -dsimp
    try (first | exact fp_one (by decide) | refine fp_and (by decide) ?_)
    try decide
theorem s_sSG_no (s : ByteArray) (n : Int) (h : stdOf s n = none) : Sp Tryz.prog 38 [.v (.str s), vi n] (.tu [vi 0, aL 0 0 0, .nil 6, vi 4]) [] := by
  refine sp_of (m := no) mixed Tryz.func38 k38 ?_
  have w := s_sstd s n
  rw [h] at w
  unfold StdR at w
  simp only at w
  simp -dsimp [q]
  refine call_of (w) rfl (by simp) ?_
  try simp -dsimp
  try (first | exact fp_one (by decide) | refine fp_and (by decide) ?_)
theorem s_sSG_far (s : ByteArray) (n f : Int) (L : List G6) (h : stdOf s n = some (f, L)) (hn : ¬ (1 ≤ n ∧ n ≤ 4)) : Sp Tryz.prog 38 [.v (.str s), vi n] (.tu [vi 0, aL 0 0 0, .nil 6, vi 2]) [] := by
  refine sp_of (m := no) mixed Tryz.func38 k38 ?_
  have w := s_sstd s n
  have w2 := s_in n 1 4
  rw [decide_eq_false hn] at w2
  rw [h] at w
  unfold StdR at w
  simp -dsimp [q]
  cases L with
  | nil =>
    simp only at w
    refine call_of (w) rfl (by simp) ?_
    try simp -dsimp
    try (first | exact fp_one (by decide) | refine fp_and (by decide) ?_)
    refine call_of (w2) rfl (by simp) ?_
    try simp -dsimp
    try (first | exact fp_one (by decide) | refine fp_and (by decide) ?_)
  | cons x L =>
    simp only at w
    refine call_of (w) rfl (by simp) ?_
    try simp -dsimp
    try (first | exact fp_one (by decide) | refine fp_and (by decide) ?_)
    refine call_of (w2) rfl (by simp) ?_
    try simp -dsimp
    try (first | exact fp_one (by decide) | refine fp_and (by decide) ?_)
theorem s_sSG (s : ByteArray) (n f : Int) (L S : List G6) (h : stdOf s n = some (f, L)) (hn : 1 ≤ n ∧ n ≤ 4) (c : Clo n L S) : Sp Tryz.prog 38 [.v (.str s), vi n] (.tu [vi f, aL (2 * n) 0 (2 * n), .sli 0, vi 0]) [.row 6 116 (gs (srtL (grpL n L)))] := by
  refine sp_of (m := no) mixed Tryz.func38 k38 ?_
  have w := s_sstd s n
  have w2 := s_in n 1 4
  have w3 := s_sclose n L S hn c
  have e2 : IntKind.i64.wrap (2 * n) = 2 * n := w64 (by omega) (by omega)
  rw [decide_eq_true hn] at w2
  rw [h] at w
  unfold StdR at w
  generalize srtL (grpL n L) = G at *
  simp -dsimp [q]
  cases L with
  | nil =>
    simp only at w
    refine call_of (w) rfl (by simp) ?_
    try simp -dsimp
    try (first | exact fp_one (by decide) | refine fp_and (by decide) ?_)
    refine call_of (w2) rfl (by simp) ?_
    try simp -dsimp
    try (first | exact fp_one (by decide) | refine fp_and (by decide) ?_)
    rw [e2]
    refine call_of (w3) rfl (by simp) ?_
    try simp -dsimp
    try (first | exact fp_one (by decide) | refine fp_and (by decide) ?_)
    try decide
  | cons x L =>
    simp only at w
    refine call_of (w) rfl (by simp) ?_
    try simp -dsimp
    try (first | exact fp_one (by decide) | refine fp_and (by decide) ?_)
    refine call_of (w2) rfl (by simp) ?_
    try simp -dsimp
    try (first | exact fp_one (by decide) | refine fp_and (by decide) ?_)
    rw [e2]
    refine call_of (w3) rfl (by simp) ?_
    try simp -dsimp
    try (first | exact fp_one (by decide) | refine fp_and (by decide) ?_)
    try decide
def cvOk (s : ByteArray) (n : Int) (l : List K3) : Option (Int × List G6) := match stdOf s n with
  | none => none
  | some (f, L) => if 1 ≤ n ∧ n ≤ 4 then some (f, L) else none
theorem s_canvas_no (s : ByteArray) (n : Int) (l : List K3) (k : Int) (hk : k ≠ 0) (w : Sp Tryz.prog 44 [.v (.str s), vi n] (.tu [vi 0, aL 0 0 0, .nil 6, vi k]) []) : Sp Tryz.prog 25 [.v (.str s), vi n, .v (.sl 0 [vks l])] (.tu [vi 0, aL 0 0 0, .nil 6, vi k]) [] := by
  refine sp_of (m := no) mixed Tryz.func25 k25 ?_
  simp -dsimp [q]
  refine call_of (w) rfl (by simp) ?_
  try simp -dsimp
  try (first | exact fp_one (by decide) | refine fp_and (by decide) ?_)
  simp -dsimp [hk]
theorem s_canvas (s : ByteArray) (n f : Int) (l : List K3) (G : List G6) (hn : 1 ≤ n ∧ n ≤ 4) (hl : l.length ≤ 1048576) (w : Sp Tryz.prog 44 [.v (.str s), vi n] (.tu [vi f, aL (2 * n) 0 (2 * n), .sli 0, vi 0]) [.row 6 116 (gs G)]) (hk : okKs (2 * n) (2 * n) l = true) : Sp Tryz.prog 25 [.v (.str s), vi n, .v (.sl 0 [vks l])] (.tu [vi f, aL (2 * n) 0 (2 * n), .sli 0, vi 0]) [.row 6 116 (gs G)] := by
  refine sp_of (m := no) mixed Tryz.func25 k25 ?_
  have w1 := s_areK (2 * n) 0 (2 * n) l hl (by omega) (by omega)
  rw [hk] at w1
  simp -dsimp [q]
  refine call_of (w) rfl (by simp) ?_
  try simp -dsimp
  try (first | exact fp_one (by decide) | refine fp_and (by decide) ?_)
  refine awp_it (false :: false :: false :: false :: false :: false :: false :: true :: false :: false :: true :: true :: true :: false :: false :: false :: false :: false :: false :: false :: false :: false :: false :: false :: false :: false :: false :: false :: true :: true :: true :: []) (fun i : Nat => [(30, vi i)]) (fun i => []) (fun i => i ≤ 1) (fun i => 1 - i) 0 ?_
  intro s0 e
  simp -dsimp at e
  subst e
  refine ⟨?_, ?_⟩
  · simp
  intro i hi
  have : i = 0 ∨ i = 1 := by omega
  rcases this with rfl | rfl
  · simp -dsimp
    refine call_of (w1) rfl (by simp) ?_
    try simp -dsimp
    try (first | exact fp_one (by decide) | refine fp_and (by decide) ?_)
    exact ⟨1, by decide, by decide, by decide⟩
  · simp -dsimp
    decide
theorem s_canvas_far (s : ByteArray) (n f : Int) (l : List K3) (G : List G6) (hn : 1 ≤ n ∧ n ≤ 4) (hl : l.length ≤ 1048576) (w : Sp Tryz.prog 44 [.v (.str s), vi n] (.tu [vi f, aL (2 * n) 0 (2 * n), .sli 0, vi 0]) [.row 6 116 (gs G)]) (hk : okKs (2 * n) (2 * n) l = false) : Sp Tryz.prog 25 [.v (.str s), vi n, .v (.sl 0 [vks l])] (.tu [vi 0, aL 0 0 0, .nil 6, vi 2]) [] := by
  refine sp_of (m := no) mixed Tryz.func25 k25 ?_
  have w1 := s_areK (2 * n) 0 (2 * n) l hl (by omega) (by omega)
  rw [hk] at w1
  simp -dsimp [q]
  refine call_of (w) rfl (by simp) ?_
  try simp -dsimp
  try (first | exact fp_one (by decide) | refine fp_and (by decide) ?_)
  refine awp_it (false :: false :: false :: false :: false :: false :: false :: true :: false :: false :: true :: true :: true :: false :: false :: false :: false :: false :: false :: false :: false :: false :: false :: false :: false :: false :: false :: false :: true :: true :: true :: []) (fun i : Nat => [(30, vi i)]) (fun i => []) (fun i => i = 0) (fun i => 1 - i) 0 ?_
  intro s0 e
  simp -dsimp at e
  subst e
  refine ⟨?_, ?_⟩
  · simp
  rintro i rfl
  simp -dsimp
  refine call_of (w1) rfl (by simp) ?_
  try simp -dsimp
  try (first | exact fp_one (by decide) | refine fp_and (by decide) ?_)
theorem ok2n {n : Int} (hn : 1 ≤ n ∧ n ≤ 4) : okL (2 * n) 0 (2 * n) = true := by
  have : n = 1 ∨ n = 2 ∨ n = 3 ∨ n = 4 := by omega
  rcases this with rfl | rfl | rfl | rfl <;> decide
end Go.Proofs.YtcnhcilpaplpcaaGreatDoorEv
namespace Go.Proofs.YtcnhcilpaplpcaaGreatDoorEv
open Go Go.Proofs
set_option maxRecDepth 10000
set_option maxHeartbeats 2000000
theorem s_canvas0_no (s : ByteArray) (n : Int) (k : Int) (hk : k ≠ 0) (w : Sp Tryz.prog 44 [.v (.str s), vi n] (.tu [vi 0, aL 0 0 0, .nil 6, vi k]) []) : Sp Tryz.prog 25 [.v (.str s), vi n, .v (.sl 0 [])] (.tu [vi 0, aL 0 0 0, .nil 6, vi k]) [] := by
  refine sp_of (m := no) mixed Tryz.func25 k25 ?_
  simp -dsimp [q]
  refine call_of (w) rfl (by simp) ?_
  try simp -dsimp
  try (first | exact fp_one (by decide) | refine fp_and (by decide) ?_)
  simp -dsimp [hk]
theorem s_canvas0 (s : ByteArray) (n f : Int) (G : List G6) (hn : 1 ≤ n ∧ n ≤ 4) (w : Sp Tryz.prog 44 [.v (.str s), vi n] (.tu [vi f, aL (2 * n) 0 (2 * n), .sli 0, vi 0]) [.row 6 116 (gs G)]) : Sp Tryz.prog 25 [.v (.str s), vi n, .v (.sl 0 [])] (.tu [vi f, aL (2 * n) 0 (2 * n), .sli 0, vi 0]) [.row 6 116 (gs G)] := by
  refine sp_of (m := no) mixed Tryz.func25 k25 ?_
  simp -dsimp [q]
  refine call_of (w) rfl (by simp) ?_
  try simp -dsimp
  try (first | exact fp_one (by decide) | refine fp_and (by decide) ?_)
  refine awp_it (false :: false :: false :: false :: false :: false :: false :: true :: false :: false :: true :: true :: true :: false :: false :: false :: false :: false :: false :: false :: false :: false :: false :: false :: false :: false :: false :: false :: true :: true :: true :: []) (fun i : Nat => [(30, vi i)]) (fun i => []) (fun i => i = 0) (fun i => 0) 0 ?_
  intro s0 e
  simp -dsimp at e
  subst e
  refine ⟨?_, ?_⟩
  · simp
  rintro i rfl
  simp -dsimp
  try decide
theorem s_rec_no (s : ByteArray) (n : Int) (t : List UInt8) (k : Int) (hk : k ≠ 0) (w : Sp Tryz.prog 44 [.v (.str s), vi n] (.tu [vi 0, aL 0 0 0, .nil 6, vi k]) []) : Sp Tryz.prog 12 [.v (.str s), vi n, aT (bst t)] (.tu [.nil 3, vi k]) [] := by
  have w1 := s_canvas0_no s n k hk w
  refine sp_of (m := no) mixed Tryz.func12 k12 ?_
  simp -dsimp [q]
  refine call_of (w1) rfl (by simp) ?_
  try simp -dsimp
  try (first | exact fp_one (by decide) | refine fp_and (by decide) ?_)
  simp -dsimp [hk]
theorem s_rec_long (s : ByteArray) (n f : Int) (G : List G6) (t : List UInt8) (hn : 1 ≤ n ∧ n ≤ 4) (ht : 4000 < t.length) (w : Sp Tryz.prog 44 [.v (.str s), vi n] (.tu [vi f, aL (2 * n) 0 (2 * n), .sli 0, vi 0]) [.row 6 116 (gs G)]) : Sp Tryz.prog 12 [.v (.str s), vi n, aT (bst t)] (.tu [.nil 3, vi 3]) [] := by
  have w1 := s_canvas0 s n f G hn w
  refine sp_of (m := no) mixed Tryz.func12 k12 ?_
  simp -dsimp [q]
  refine call_of (w1) rfl (by simp) ?_
  try simp -dsimp
  try (first | exact fp_one (by decide) | refine fp_and (by decide) ?_)
  try simp -dsimp [ht]
  try omega
theorem s_rec (s : ByteArray) (n f : Int) (G : List G6) (t : List UInt8) (hn : 1 ≤ n ∧ n ≤ 4) (ht : t.length ≤ 4000) (w : Sp Tryz.prog 44 [.v (.str s), vi n] (.tu [vi f, aL (2 * n) 0 (2 * n), .sli 0, vi 0]) [.row 6 116 (gs G)]) : Sp Tryz.prog 12 [.v (.str s), vi n, aT (bst t)] (.tu [.sli 0, vi 0]) [.row 3 54 (ks (recL (2 * n) (2 * n) 0 (spl 10 t)))] := by
  have w1 := s_canvas0 s n f G hn w
  have hL := recL_len (2 * n) (2 * n) (spl 10 t) 0
  generalize hL0 : recL (2 * n) (2 * n) 0 (spl 10 t) = L0 at *
  refine sp_of (m := no) mixed Tryz.func12 k12 ?_
  simp -dsimp [q]
  refine call_of (w1) rfl (by simp) ?_
  try simp -dsimp
  try (first | exact fp_one (by decide) | refine fp_and (by decide) ?_)
  refine ⟨by omega, fun _ => ?_⟩
  refine awp_it (false :: false :: true :: false :: false :: false :: false :: false :: false :: true :: false :: false :: true :: []) (fun x : List K3 × List UInt8 => [(2, aT (bst x.2))]) (fun x => [(1, .row 3 54 (ks x.1))]) (fun x => x.1.length ≤ 100 ∧ x.2.length ≤ 4000 ∧ L0 = x.1 ++ recL (2 * n) (2 * n) x.1.length (spl 10 x.2)) (fun x => 100 - x.1.length) ([], t) ?_
  intro s0 e
  simp -dsimp at e
  subst e
  refine ⟨?_, ?_⟩
  · simp [hL0]
    exact ht
  rintro ⟨out, u⟩ ⟨h1, h2, h3⟩
  simp only at h1 h2 h3
  simp -dsimp [-Prod.forall, -Prod.exists]
  refine ⟨fun h4 => ?_, fun h4 => ?_⟩
  case refine_2 =>
    rw [recL_far (2 * n) (2 * n) (by omega), List.append_nil] at h3
    rw [h3]
  have wc := s_cut u 10 (by omega)
  have hcut := cut_spl 10 u
  rcases hcut with ⟨p, e1, e2⟩ | ⟨p, r, e1, e2, e3⟩
  · rw [e2] at wc
    rw [e1, recL_one, List.append_nil] at h3
    have hp : p.length ≤ u.length := by
      have := spl_mem 10 (l := u) (p := p) (by rw [e1]; simp)
      exact this
    obtain ⟨k, ok, wr, _⟩ := s_rs p out.length (by omega) (by omega)
    refine call_of (wc) rfl (by simp) ?_
    try simp -dsimp
    try (first | exact fp_one (by decide) | refine fp_and (by decide) ?_)
    refine call_of (wr) rfl (by simp) ?_
    try simp -dsimp
    try (first | exact fp_one (by decide) | refine fp_and (by decide) ?_)
    rw [h3]
  · rw [e2] at wc
    rw [e1] at h3
    have hp : p.length ≤ u.length := by
      have := spl_mem 10 (l := u) (p := p) (by rw [e1]; simp)
      exact this
    obtain ⟨k, ok, wr, hr⟩ := s_rs p out.length (by omega) (by omega)
    have hpos := spl_pos 10 r
    refine call_of (wc) rfl (by simp) ?_
    try simp -dsimp
    try (first | exact fp_one (by decide) | refine fp_and (by decide) ?_)
    refine call_of (wr) rfl (by simp) ?_
    try simp -dsimp
    try (first | exact fp_one (by decide) | refine fp_and (by decide) ?_)
    have hacc : ok = false → accK (2 * n) (2 * n) out.length p = none := fun ho => by
      unfold accK
      rw [hr, ho]
      rfl
    refine ⟨fun ho => ?_, fun ho => by rw [h3, recL_no (hacc ho), List.append_nil]⟩
    have wi := s_isCell (2 * n) 0 (2 * n) k.1.1 k.1.2 (by omega) (by omega)
    rw [ho, if_pos rfl] at hr
    obtain ⟨_, hcol, _⟩ := (rd1_iff p out.length k).1 hr
    have hok2 : okK (2 * n) (2 * n) k = cellB (2 * n) (2 * n) (k.1.1, k.1.2) := by
      unfold okK
      rw [decide_eq_true hcol, Bool.and_true]
    have hacc2 : accK (2 * n) (2 * n) out.length p = if cellB (2 * n) (2 * n) (k.1.1, k.1.2) = true then some k else none := by
      unfold accK
      rw [hr, ← hok2]
    generalize cellB (2 * n) (2 * n) (k.1.1, k.1.2) = cb at *
    refine call_of (wi) rfl (by simp) ?_
    try simp -dsimp
    try (first | exact fp_one (by decide) | refine fp_and (by decide) ?_)
    refine ⟨fun hc => by rw [h3, recL_no (by rw [hacc2, hc]; rfl), List.append_nil], fun hc => ?_⟩
    rw [hc, if_pos rfl] at hacc2
    by_cases h5 : out.length < 100
    case neg => omega
    rw [recL_yes h5 hacc2 (by omega)] at h3
    have e0 : (((k.1.1, k.1.2), k.2) : K3) = k := rfl
    rw [e0]
    refine ⟨⟨by omega, by omega⟩, out ++ [k], r, ⟨rfl, rfl⟩, ⟨by simp; omega, by omega, ?_⟩, by simp; omega⟩
    rw [h3]
    simp
end Go.Proofs.YtcnhcilpaplpcaaGreatDoorEv
namespace Go.Proofs.YtcnhcilpaplpcaaGreatDoorEv
open Go Go.Proofs
set_option maxRecDepth 10000
set_option maxHeartbeats 2000000
def jn (l : List K3) : Nat → List UInt8
  | 0 => []
  | n + 1 => jn l n ++ (match l[n]? with | some k => lnx k n ++ [10] | none => [])
theorem jn_len {l : List K3} (h : ∀ k ∈ l, smK k) : ∀ n, (jn l n).length ≤ 2001 * n
  | 0 => by simp [jn]
  | n + 1 => by
    have ih := jn_len h n
    unfold jn
    cases hn : l[n]? with
    | none => simp; omega
    | some k =>
      have := lnx_len (h k (List.mem_of_getElem? hn)) n
      simp only [List.length_append, List.length_singleton]
      omega
theorem jn_succ {l : List K3} {n : Nat} {k : K3} (h : l[n]? = some k) : jn l (n + 1) = jn l n ++ (lnx k n ++ [10]) := by
  rw [jn, h]
theorem okKs_spec {a c : Int} {l : List K3} (h : okKs a c l = true) : l.length ≤ 100 ∧ ∀ k ∈ l, okK a c k = true := by
  unfold okKs at h
  simp only [Bool.and_eq_true, decide_eq_true_eq, List.all_eq_true] at h
  exact h
theorem s_jn_no (s : ByteArray) (n : Int) (l : List K3) (k : Int) (hk : k ≠ 0) (w : Sp Tryz.prog 25 [.v (.str s), vi n, .v (.sl 0 [vks l])] (.tu [vi 0, aL 0 0 0, .nil 6, vi k]) []) : Sp Tryz.prog 9 [.v (.str s), vi n, .v (vks l)] (.tu [aT ⟨#[]⟩, vi k]) [] := by
  refine sp_of (m := no) mixed Tryz.func9 k9 ?_
  simp -dsimp [q]
  refine call_of (w) rfl (by simp) ?_
  try simp -dsimp
  try (first | exact fp_one (by decide) | refine fp_and (by decide) ?_)
  simp -dsimp [hk]
theorem s_jn (s : ByteArray) (n f : Int) (l : List K3) (G : List G6) (hn : 1 ≤ n ∧ n ≤ 4) (hk : okKs (2 * n) (2 * n) l = true) (w : Sp Tryz.prog 25 [.v (.str s), vi n, .v (.sl 0 [vks l])] (.tu [vi f, aL (2 * n) 0 (2 * n), .sli 0, vi 0]) [.row 6 116 (gs G)]) : Sp Tryz.prog 9 [.v (.str s), vi n, .v (vks l)] (.tu [aT (bst (jn l l.length)), vi 0]) [] := by
  obtain ⟨h1, h2⟩ := okKs_spec hk
  have hs : ∀ k ∈ l, smK k := fun k hm => smK_of hn (h2 k hm)
  refine sp_of (m := no) mixed Tryz.func9 k9 ?_
  simp -dsimp [q]
  refine call_of (w) rfl (by simp) ?_
  try simp -dsimp
  try (first | exact fp_one (by decide) | refine fp_and (by decide) ?_)
  refine awp_it (false :: false :: false :: false :: false :: false :: false :: false :: false :: false :: false :: false :: true :: false :: false :: false :: false :: false :: false :: false :: false :: false :: false :: false :: false :: false :: false :: false :: true :: true :: true :: []) (fun i : Nat => [(12, aT (bst (jn l i))), (30, vi i)]) (fun i => []) (fun i => i ≤ l.length) (fun i => l.length - i) 0 ?_
  intro s0 e
  simp -dsimp at e
  subst e
  refine ⟨?_, ?_⟩
  · simp -dsimp
    rfl
  intro i hi
  simp -dsimp [-Prod.forall, -Prod.exists]
  refine ⟨fun h3 => ⟨h3, fun k ha => ?_⟩, fun h3 => ?_⟩
  · have hm := hs k (List.mem_of_getElem? ha)
    have w2 := s_line k i hm (by omega)
    have l1 := lnx_len hm i
    have l2 := jn_len hs i
    have e := jn_succ ha
    have l6 : (⟨#[10]⟩ : ByteArray).size = 1 := rfl
    generalize lnx k i = v at *
    refine call_of (w2) rfl (by simp) ?_
    try simp -dsimp
    try (first | exact fp_one (by decide) | refine fp_and (by decide) ?_)
    rw [bst10]
    simp only [bst_size, bst_app, List.length_append, List.length_singleton]
    refine ⟨by omega, by omega, i + 1, ⟨?_, ?_⟩, by omega, by omega⟩
    · rw [e]
    · rw [w64 (by omega) (by omega)]; simp
  · have : i = l.length := by omega
    subst this
    try rfl
def bsR (l : List UInt8) : List V := l.map fun b => .int .u8 b.toNat
@[simp] theorem bsR_nil : bsR [] = [] := rfl
@[simp] theorem bsR_len (l : List UInt8) : (bsR l).length = l.length := by simp [bsR]
theorem unBs_bsR : ∀ l : List UInt8, unBs (bsR l) = some l
  | [] => rfl
  | b :: l => by
    have hb := UInt8.toNat_lt b
    have ih := unBs_bsR l
    simp only [bsR, List.map_cons, unBs] at ih ⊢
    rw [if_pos (by omega), ih]
    simp
@[simp] theorem bsR_app (l m : List UInt8) : bsR l ++ bsV (bst m) = bsR (l ++ m) := by
  simp [bsR, bsV, bst]
theorem s_sjn_no (s : ByteArray) (n : Int) (l : List K3) (k : Int) (hk : k ≠ 0) (w : Sp Tryz.prog 38 [.v (.str s), vi n] (.tu [vi 0, aL 0 0 0, .nil 6, vi k]) []) : Sp Tryz.prog 7 [.v (.str s), vi n, .v (vks l)] (.tu [aT ⟨#[]⟩, vi k]) [] := by
  have wc : Sp Tryz.prog 21 [.v (.str s), vi n] (.tu [vi 0, aL 0 0 0, .nil 6, vi k]) [] := by
    refine sp_of (m := no) mixed Tryz.func21 k21 ?_
    simp -dsimp [q]
    refine call_of (w) rfl (by simp) ?_
    try simp -dsimp
    try (first | exact fp_one (by decide) | refine fp_and (by decide) ?_)
  refine sp_of (m := no) mixed Tryz.func7 k7 ?_
  simp -dsimp [q]
  refine call_of (wc) rfl (by simp) ?_
  try simp -dsimp
  try (first | exact fp_one (by decide) | refine fp_and (by decide) ?_)
  simp -dsimp [hk]
theorem s_sjn_far (s : ByteArray) (n f : Int) (l : List K3) (G : List G6) (hn : 1 ≤ n ∧ n ≤ 4) (hl : l.length ≤ 1048576) (hk : okKs (2 * n) (2 * n) l = false) (w : Sp Tryz.prog 38 [.v (.str s), vi n] (.tu [vi f, aL (2 * n) 0 (2 * n), .sli 0, vi 0]) [.row 6 116 (gs G)]) : Sp Tryz.prog 7 [.v (.str s), vi n, .v (vks l)] (.tu [aT ⟨#[]⟩, vi 2]) [] := by
  have wc : Sp Tryz.prog 21 [.v (.str s), vi n] (.tu [vi f, aL (2 * n) 0 (2 * n), .sli 0, vi 0]) [.row 6 116 (gs G)] := by
    refine sp_of (m := no) mixed Tryz.func21 k21 ?_
    simp -dsimp [q]
    refine call_of (w) rfl (by simp) ?_
    try simp -dsimp
    try (first | exact fp_one (by decide) | refine fp_and (by decide) ?_)
  have w2 := s_sareK (2 * n) 0 (2 * n) l hl (ok2n hn)
  rw [hk] at w2
  refine sp_of (m := no) mixed Tryz.func7 k7 ?_
  simp -dsimp [q]
  refine call_of (wc) rfl (by simp) ?_
  try simp -dsimp
  try (first | exact fp_one (by decide) | refine fp_and (by decide) ?_)
  refine call_of (w2) rfl (by simp) ?_
  try simp -dsimp
  try (first | exact fp_one (by decide) | refine fp_and (by decide) ?_)
theorem s_sjn (s : ByteArray) (n f : Int) (l : List K3) (G : List G6) (hn : 1 ≤ n ∧ n ≤ 4) (hk : okKs (2 * n) (2 * n) l = true) (w : Sp Tryz.prog 38 [.v (.str s), vi n] (.tu [vi f, aL (2 * n) 0 (2 * n), .sli 0, vi 0]) [.row 6 116 (gs G)]) : Sp Tryz.prog 7 [.v (.str s), vi n, .v (vks l)] (.tu [aT (bst (jn l l.length)), vi 0]) [] := by
  obtain ⟨h1, h2⟩ := okKs_spec hk
  have hs : ∀ k ∈ l, smK k := fun k hm => smK_of hn (h2 k hm)
  have wc : Sp Tryz.prog 21 [.v (.str s), vi n] (.tu [vi f, aL (2 * n) 0 (2 * n), .sli 0, vi 0]) [.row 6 116 (gs G)] := by
    refine sp_of (m := no) mixed Tryz.func21 k21 ?_
    simp -dsimp [q]
    refine call_of (w) rfl (by simp) ?_
    try simp -dsimp
    try (first | exact fp_one (by decide) | refine fp_and (by decide) ?_)
  have w2 := s_sareK (2 * n) 0 (2 * n) l (by omega) (ok2n hn)
  rw [hk] at w2
  refine sp_of (m := no) mixed Tryz.func7 k7 ?_
  simp -dsimp [q]
  refine call_of (wc) rfl (by simp) ?_
  try simp -dsimp
  try (first | exact fp_one (by decide) | refine fp_and (by decide) ?_)
  refine call_of (w2) rfl (by simp) ?_
  try simp -dsimp
  try (first | exact fp_one (by decide) | refine fp_and (by decide) ?_)
  refine awp_it (false :: false :: true :: false :: false :: false :: false :: false :: false :: false :: false :: false :: true :: true :: []) (fun i : Nat => [(13, vi i)]) (fun i => [(0, .row 0 5 (bsR (jn l i)))]) (fun i => i ≤ l.length) (fun i => l.length - i) 0 ?_
  intro s0 e
  simp -dsimp at e
  subst e
  refine ⟨?_, ?_⟩
  · simp -dsimp [jn]
  intro i hi
  simp -dsimp [-Prod.forall, -Prod.exists]
  refine ⟨fun h3 => ⟨h3, fun k ha => ?_⟩, fun h3 => ?_⟩
  · have hm := hs k (List.mem_of_getElem? ha)
    have w2 := s_sline k i hm (by omega)
    have l1 := lnx_len hm i
    have l2 := jn_len hs i
    have e := jn_succ ha
    have l6 : (⟨#[10]⟩ : ByteArray).size = 1 := rfl
    generalize lnx k i = v at *
    refine call_of (w2) rfl (by simp) ?_
    try simp -dsimp
    try (first | exact fp_one (by decide) | refine fp_and (by decide) ?_)
    rw [bst10]
    simp only [bst_size, bst_app, bsR_len, bsR_app, List.length_append, List.length_singleton]
    refine ⟨by omega, by omega, i + 1, ⟨?_, ?_⟩, by omega, by omega⟩
    · rw [w64 (by omega) (by omega)]; simp
    · rw [e]
  · have : i = l.length := by omega
    subst this
    simp -dsimp [unBs_bsR]
    try rfl
theorem jn_both (s : ByteArray) (n : Int) (l : List K3) (hl : l.length ≤ 1048576) : ∃ (T : ByteArray) (k : Int), T.size ≤ 1000000 ∧ Sp Tryz.prog 7 [.v (.str s), vi n, .v (vks l)] (.tu [aT T, vi k]) [] ∧ Sp Tryz.prog 9 [.v (.str s), vi n, .v (vks l)] (.tu [aT T, vi k]) [] := by
  cases h : stdOf s n with
  | none => exact ⟨⟨#[]⟩, 4, by decide, s_sjn_no s n l 4 (by decide) (s_sSG_no s n h), s_jn_no s n l 4 (by decide) (s_canvas_no s n l 4 (by decide) (s_SG_no s n h))⟩
  | some p =>
    obtain ⟨f, L⟩ := p
    by_cases hn : 1 ≤ n ∧ n ≤ 4
    case neg => exact ⟨⟨#[]⟩, 2, by decide, s_sjn_no s n l 2 (by decide) (s_sSG_far s n f L h hn), s_jn_no s n l 2 (by decide) (s_canvas_no s n l 2 (by decide) (s_SG_far s n f L h hn))⟩
    obtain ⟨S, c⟩ := std_clo h hn
    have w := s_SG s n f L S h hn c
    have ws := s_sSG s n f L S h hn c
    cases hk : okKs (2 * n) (2 * n) l with
    | true =>
      refine ⟨bst (jn l l.length), 0, ?_, s_sjn s n f l _ hn hk ws, s_jn s n f l _ hn hk (s_canvas s n f l _ hn hl w hk)⟩
      obtain ⟨h1, h2⟩ := okKs_spec hk
      have := jn_len (fun k hm => smK_of hn (h2 k hm)) l.length
      rw [bst_size]
      omega
    | false => exact ⟨⟨#[]⟩, 2, by decide, s_sjn_far s n f l _ hn hl hk ws, s_jn_no s n l 2 (by decide) (s_canvas_far s n f l _ hn hl w hk)⟩
end Go.Proofs.YtcnhcilpaplpcaaGreatDoorEv
namespace Go.Proofs.YtcnhcilpaplpcaaGreatDoorEv
open Go Go.Proofs
set_option maxRecDepth 10000
set_option maxHeartbeats 2000000
theorem s_srec_no (s : ByteArray) (n : Int) (t : List UInt8) (k : Int) (hk : k ≠ 0) (w : Sp Tryz.prog 38 [.v (.str s), vi n] (.tu [vi 0, aL 0 0 0, .nil 6, vi k]) []) : Sp Tryz.prog 11 [.v (.str s), vi n, aT (bst t)] (.tu [.nil 3, vi k]) [] := by
  have wc : Sp Tryz.prog 21 [.v (.str s), vi n] (.tu [vi 0, aL 0 0 0, .nil 6, vi k]) [] := by
    refine sp_of (m := no) mixed Tryz.func21 k21 ?_
    simp -dsimp [q]
    refine call_of (w) rfl (by simp) ?_
    try simp -dsimp
    try (first | exact fp_one (by decide) | refine fp_and (by decide) ?_)
  refine sp_of (m := no) mixed Tryz.func11 k11 ?_
  simp -dsimp [q]
  refine call_of (wc) rfl (by simp) ?_
  try simp -dsimp
  try (first | exact fp_one (by decide) | refine fp_and (by decide) ?_)
  simp -dsimp [hk]
theorem s_srec_long (s : ByteArray) (n f : Int) (G : List G6) (t : List UInt8) (ht : 4000 < t.length) (w : Sp Tryz.prog 38 [.v (.str s), vi n] (.tu [vi f, aL (2 * n) 0 (2 * n), .sli 0, vi 0]) [.row 6 116 (gs G)]) : Sp Tryz.prog 11 [.v (.str s), vi n, aT (bst t)] (.tu [.nil 3, vi 3]) [] := by
  have wc : Sp Tryz.prog 21 [.v (.str s), vi n] (.tu [vi f, aL (2 * n) 0 (2 * n), .sli 0, vi 0]) [.row 6 116 (gs G)] := by
    refine sp_of (m := no) mixed Tryz.func21 k21 ?_
    simp -dsimp [q]
    refine call_of (w) rfl (by simp) ?_
    try simp -dsimp
    try (first | exact fp_one (by decide) | refine fp_and (by decide) ?_)
  refine sp_of (m := no) mixed Tryz.func11 k11 ?_
  simp -dsimp [q]
  refine call_of (wc) rfl (by simp) ?_
  try simp -dsimp
  try (first | exact fp_one (by decide) | refine fp_and (by decide) ?_)
  try simp -dsimp [ht]
  try omega
theorem s_srec (s : ByteArray) (n f : Int) (G : List G6) (t : List UInt8) (hn : 1 ≤ n ∧ n ≤ 4) (ht : t.length ≤ 4000) (w : Sp Tryz.prog 38 [.v (.str s), vi n] (.tu [vi f, aL (2 * n) 0 (2 * n), .sli 0, vi 0]) [.row 6 116 (gs G)]) : Sp Tryz.prog 11 [.v (.str s), vi n, aT (bst t)] (.tu [.sli 0, vi 0]) [.row 3 54 (ks (recL (2 * n) (2 * n) 0 (spl 10 t)))] := by
  have wc : Sp Tryz.prog 21 [.v (.str s), vi n] (.tu [vi f, aL (2 * n) 0 (2 * n), .sli 0, vi 0]) [.row 6 116 (gs G)] := by
    refine sp_of (m := no) mixed Tryz.func21 k21 ?_
    simp -dsimp [q]
    refine call_of (w) rfl (by simp) ?_
    try simp -dsimp
    try (first | exact fp_one (by decide) | refine fp_and (by decide) ?_)
  have hL := recL_len (2 * n) (2 * n) (spl 10 t) 0
  have wsp : Sp Tryz.prog 28 [aT (bst t), .v (.int .u8 10)] (.sli 0) [.row 0 9 (sts ((spl 10 t).map bst))] := s_spl t 10 (by omega)
  have hlen := spl_len 10 t
  have hmem : ∀ p ∈ spl 10 t, p.length ≤ 4000 := fun p hp => Nat.le_trans (spl_mem 10 hp) ht
  generalize hL0 : recL (2 * n) (2 * n) 0 (spl 10 t) = L0 at *
  generalize spl 10 t = L at *
  refine sp_of (m := no) mixed Tryz.func11 k11 ?_
  simp -dsimp [q]
  refine call_of (wc) rfl (by simp) ?_
  try simp -dsimp
  try (first | exact fp_one (by decide) | refine fp_and (by decide) ?_)
  refine ⟨by omega, fun _ => ?_⟩
  refine call_of (wsp) rfl (by simp) ?_
  try simp -dsimp
  try (first | exact fp_one (by decide) | refine fp_and (by decide) ?_)
  refine awp_it (false :: false :: false :: false :: false :: false :: false :: false :: false :: true :: false :: false :: true :: true :: true :: []) (fun x : List K3 => [(14, vi x.length)]) (fun x => [(2, .row 3 54 (ks x))]) (fun x => x.length ≤ 100 ∧ L0 = x ++ recL (2 * n) (2 * n) x.length (L.drop x.length)) (fun x => 100 - x.length) [] ?_
  intro s0 e
  simp -dsimp at e
  subst e
  refine ⟨?_, ?_⟩
  · simp [hL0]
  rintro out ⟨h1, h3⟩
  simp -dsimp [-Prod.forall, -Prod.exists]
  have wrap1 : IntKind.i64.wrap ((out.length : Int) + 1) = (out.length : Int) + 1 := w64 (by omega) (by omega)
  have done : (L.length ≤ out.length + 1 ∨ 100 ≤ out.length) → L0 = out := fun h => by
    rcases h with h | h
    · rw [h3]
      have hdl : (L.drop out.length).length ≤ 1 := by rw [List.length_drop]; omega
      match hd : L.drop out.length, hdl with
      | [], _ => simp [recL]
      | [l], _ => simp [recL]
    · rw [recL_far _ _ h, List.append_nil] at h3
      exact h3
  rw [wrap1]
  refine ⟨fun h4 => ⟨fun h5 => ⟨by omega, fun p hp => ?_⟩, fun h5 => done (.inr (by omega))⟩, fun h4 => done (.inl (by omega))⟩
  have hd : L.drop out.length = p :: L.drop (out.length + 1) := by
    obtain ⟨hi, e⟩ := List.getElem?_eq_some_iff.1 hp
    rw [List.drop_eq_getElem_cons hi, e]
  have hpl := hmem p (List.mem_of_getElem? hp)
  have hacc := rdS_eq hn p out.length
  have hno : accK (2 * n) (2 * n) out.length p = none → L0 = out := fun h => by
    rw [h3, hd, recL_no h, List.append_nil]
  have hyes : ∀ k, accK (2 * n) (2 * n) out.length p = some k → L0 = (out ++ [k]) ++ recL (2 * n) (2 * n) (out.length + 1) (L.drop (out.length + 1)) := fun k h => by
    rw [h3, hd, recL_yes (by omega) h (by rw [List.length_drop]; omega)]
    simp
  have w3 : Sp Tryz.prog 28 [aT (bst p), .v (.int .u8 32)] (.sli 0) [.row 0 9 (sts ((spl 32 p).map bst))] := s_spl p 32 (by omega)
  have hwm : ∀ x ∈ spl 32 p, x.length ≤ 4000 := fun x hx => Nat.le_trans (spl_mem 32 hx) hpl
  by_cases hw3 : (spl 32 p).length = 3
  case neg =>
    rw [rdS_len _ hw3] at hacc
    have hno := hno hacc.symm
    have hw3' : ¬ ((spl 32 p).length : Int) = 3 := by omega
    generalize spl 32 p = W at *
    refine call_of (w3) rfl (by simp) ?_
    try simp -dsimp
    try (first | exact fp_one (by decide) | refine fp_and (by decide) ?_)
    first | (intro h9; omega) | exact ⟨fun _ => hno, fun h9 => by omega⟩ | (intro h9; exact hno)
  obtain ⟨u, b, w', hW⟩ := three hw3
  rw [rdS_three _ hW] at hacc
  rw [hW] at w3 hwm
  have wv := s_srv u (by have := hwm u (by simp); omega)
  have wd := s_dg b (by have := hwm b (by simp); omega)
  clear hW hw3
  generalize dgV b = db at *
  generalize dgOk b = ob at *
  cases hv : rvL (spl 44 u) with
  | none =>
    rw [hv] at wv hacc
    have hno := hno hacc.symm
    simp only [rvA] at wv
    refine call_of (w3) rfl (by simp) ?_
    try simp -dsimp
    try (first | exact fp_one (by decide) | refine fp_and (by decide) ?_)
    refine call_of (wv) rfl (by simp) ?_
    try simp -dsimp
    try (first | exact fp_one (by decide) | refine fp_and (by decide) ?_)
    refine call_of (wd) rfl (by simp) ?_
    try simp -dsimp
    try (first | exact fp_one (by decide) | refine fp_and (by decide) ?_)
    exact hno
  | some v =>
    rw [hv] at wv hacc
    simp only [rvA] at wv hacc
    have wk := s_sareK (2 * n) 0 (2 * n) [(v, (db : Int))] (by simp) (ok2n hn)
    cases ob with
    | false =>
      have hno := hno hacc.symm
      refine call_of (w3) rfl (by simp) ?_
      try simp -dsimp
      try (first | exact fp_one (by decide) | refine fp_and (by decide) ?_)
      refine call_of (wv) rfl (by simp) ?_
      try simp -dsimp
      try (first | exact fp_one (by decide) | refine fp_and (by decide) ?_)
      refine call_of (wd) rfl (by simp) ?_
      try simp -dsimp
      try (first | exact fp_one (by decide) | refine fp_and (by decide) ?_)
      exact hno
    | true =>
      cases hk : okKs (2 * n) (2 * n) [(v, (db : Int))] with
      | false =>
        rw [hk] at wk hacc
        have hno := hno hacc.symm
        refine call_of (w3) rfl (by simp) ?_
        try simp -dsimp
        try (first | exact fp_one (by decide) | refine fp_and (by decide) ?_)
        refine call_of (wv) rfl (by simp) ?_
        try simp -dsimp
        try (first | exact fp_one (by decide) | refine fp_and (by decide) ?_)
        refine call_of (wd) rfl (by simp) ?_
        try simp -dsimp
        try (first | exact fp_one (by decide) | refine fp_and (by decide) ?_)
        refine call_of (wk) rfl (by simp) ?_
        try simp -dsimp
        try (first | exact fp_one (by decide) | refine fp_and (by decide) ?_)
        exact hno
      | true =>
        rw [hk] at wk hacc
        have hsm := smK_of hn (by rw [← okKs_one]; exact hk)
        have wl := s_sline (v, (db : Int)) out.length hsm (by omega)
        have e : bst (lnx (v, (db : Int)) out.length) = bst p ↔ lnx (v, (db : Int)) out.length = p := by simp [bst]
        simp only [Bool.and_true, Bool.true_and, decide_eq_true_eq] at hacc
        generalize lnx (v, (db : Int)) out.length = X at *
        refine call_of (w3) rfl (by simp) ?_
        try simp -dsimp
        try (first | exact fp_one (by decide) | refine fp_and (by decide) ?_)
        refine call_of (wv) rfl (by simp) ?_
        try simp -dsimp
        try (first | exact fp_one (by decide) | refine fp_and (by decide) ?_)
        refine call_of (wd) rfl (by simp) ?_
        try simp -dsimp
        try (first | exact fp_one (by decide) | refine fp_and (by decide) ?_)
        refine call_of (wk) rfl (by simp) ?_
        try simp -dsimp
        try (first | exact fp_one (by decide) | refine fp_and (by decide) ?_)
        refine call_of (wl) rfl (by simp) ?_
        try simp -dsimp
        try (first | exact fp_one (by decide) | refine fp_and (by decide) ?_)
        refine ⟨by omega, fun p' hp' => ?_⟩
        rw [hp] at hp'
        cases hp'
        refine fp_and (by decide) ⟨fun hx => hno ?_, fun hx => ⟨by omega, out ++ [(v, (db : Int))], ⟨?_, rfl⟩, ⟨by simp; omega, ?_⟩, by simp; omega⟩⟩
        · rw [← hacc, if_neg (fun e0 => hx (e.2 e0))]
        · simp
          exact wrap1
        · rw [if_pos (e.1 hx)] at hacc
          simp only [List.length_append, List.length_singleton]
          exact hyes _ hacc.symm
theorem rec_both (s : ByteArray) (n : Int) (t : List UInt8) (ht : t.length ≤ 1048576) : ∃ (l : List K3) (r : A) (h : List Ck) (k : Int), l.length ≤ 100 ∧ (r = .tu [.nil 3, vi k] ∧ h = [] ∧ k ≠ 0 ∧ l = [] ∨ r = .tu [.sli 0, vi k] ∧ h = [.row 3 54 (ks l)] ∧ k = 0) ∧ Sp Tryz.prog 11 [.v (.str s), vi n, aT (bst t)] r h ∧ Sp Tryz.prog 12 [.v (.str s), vi n, aT (bst t)] r h := by
  cases h : stdOf s n with
  | none => exact ⟨[], _, _, 4, by simp, .inl ⟨rfl, rfl, by decide, rfl⟩, s_srec_no s n t 4 (by decide) (s_sSG_no s n h), s_rec_no s n t 4 (by decide) (s_SG_no s n h)⟩
  | some p =>
    obtain ⟨f, L⟩ := p
    by_cases hn : 1 ≤ n ∧ n ≤ 4
    case neg => exact ⟨[], _, _, 2, by simp, .inl ⟨rfl, rfl, by decide, rfl⟩, s_srec_no s n t 2 (by decide) (s_sSG_far s n f L h hn), s_rec_no s n t 2 (by decide) (s_SG_far s n f L h hn)⟩
    obtain ⟨S, c⟩ := std_clo h hn
    have w := s_SG s n f L S h hn c
    have ws := s_sSG s n f L S h hn c
    by_cases hl : t.length ≤ 4000
    · exact ⟨_, _, _, 0, by have := recL_len (2 * n) (2 * n) (spl 10 t) 0; omega, .inr ⟨rfl, rfl, rfl⟩, s_srec s n f _ t hn hl ws, s_rec s n f _ t hn hl w⟩
    · exact ⟨[], _, _, 3, by simp, .inl ⟨rfl, rfl, by decide, rfl⟩, s_srec_long s n f _ t (by omega) ws, s_rec_long s n f _ t hn (by omega) w⟩
end Go.Proofs.YtcnhcilpaplpcaaGreatDoorEv
namespace Go.Proofs.YtcnhcilpaplpcaaGreatDoorEv
open Go Go.Proofs
set_option maxRecDepth 10000
set_option maxHeartbeats 2000000
def u8s (l : List Int) : List V := l.map fun y => .int .u8 y
@[simp] theorem u8s_len (l : List Int) : (u8s l).length = l.length := by simp [u8s]
@[simp] theorem u8s_get (l : List Int) (n : Nat) (K : V → Prop) : fA ((u8s l)[n]?) K = ∀ a, l[n]? = some a → K (.int .u8 a) := by unfold u8s; exact fA_map
abbrev cdV (l : List Int) : V := .sl 0 (u8s l)
def okC (l : List Int) : Prop := l.length ≤ 4096 ∧ ∀ y ∈ l, 0 ≤ y ∧ y < 256
abbrev Sr := Nat × Int
abbrev srC (code : List Int) (s : Sr) : Ck := .box [.v (cdV code), vi s.1, vi s.2]
def okSr (s : Sr) : Prop := s.1 ≤ 4096 ∧ 0 ≤ s.2 ∧ s.2 < 2147483647
theorem tmod_in {x m : Int} (h : 0 ≤ x) (hm : 0 < m) : 0 ≤ x.tmod m ∧ x.tmod m < m := ⟨Int.tmod_nonneg m h, Int.tmod_lt_of_pos x hm⟩
theorem s_from (code : List Int) (hc : okC code) : ∃ s, okSr s ∧ SpG Tryz.prog 35 [.v (cdV code)] [] (.ptr 0 0) [srC code s] := by
  obtain ⟨h1, h2⟩ := hc
  let f : Nat → Int := fun n => Nat.rec 93001 (fun i s => (s * 73 + (code[i]?).getD 0).tmod 2147483647) n
  have f0 : f 0 = 93001 := rfl
  have fs : ∀ i y, code[i]? = some y → f (i + 1) = (f i * 73 + y).tmod 2147483647 := fun i y hy => by
    show (f i * 73 + (code[i]?).getD 0).tmod 2147483647 = _
    rw [hy]
    rfl
  have fr : ∀ i, i ≤ code.length → 0 ≤ f i ∧ f i < 2147483647 := by
    intro i
    induction i with
    | zero => intro _; rw [f0]; decide
    | succ i ih =>
      intro hi
      have hy : code[i]? = some (code[i]'(by omega)) := List.getElem?_eq_getElem (by omega)
      rw [fs i _ hy]
      have := ih (by omega)
      have := h2 _ (List.mem_of_getElem? hy)
      exact tmod_in (by omega) (by decide)
  clear_value f
  refine ⟨(0, f (min code.length 64)), ⟨by simp, fr _ (by omega)⟩, ?_⟩
  refine sg_of (m := no) mixed Tryz.func35 k35 ?_
  simp -dsimp [q]
  refine awp_it (true :: false :: false :: true :: true :: []) (fun i : Nat => [(4, vi i)]) (fun i => [(0, .box [.v (cdV code), vi 0, vi (f i)])]) (fun i => i ≤ code.length ∧ i ≤ 64) (fun i => code.length - i) 0 ?_
  intro s0 e
  simp -dsimp at e
  subst e
  refine ⟨?_, ?_⟩
  · simp [f0]
  rintro i ⟨hi, hi2⟩
  have hfr := fr i hi
  simp -dsimp
  refine ⟨fun h3 => ⟨fun h4 => ⟨h3, fun a ha => ?_⟩, fun h4 => ?_⟩, fun h3 => ?_⟩
  · have hya := h2 a (List.mem_of_getElem? ha)
    refine ⟨by decide, i + 1, ⟨by rw [w64 (by omega) (by omega)]; simp, ?_⟩, ⟨by omega, by omega⟩, by omega⟩
    rw [w64 (n := f i * 73) (by omega) (by omega), w64 (n := a) (by omega) (by omega), w64 (by omega) (by omega), fs i a ha]
  · rw [show min code.length 64 = i by omega]
  · rw [show min code.length 64 = i by omega]
theorem s_next (code : List Int) (hc : okC code) (s : Sr) (hs : okSr s) (n : Int) (hn : n ≤ 9223372036854775807) : ∃ v s', okSr s' ∧ (n ≤ 1 → v = 0) ∧ (1 < n → 0 ≤ v ∧ v < n) ∧ SpG Tryz.prog 36 [.ptr 0 0, vi n] [srC code s] (vi v) [srC code s'] := by
  obtain ⟨h1, h2⟩ := hc
  obtain ⟨s1, s2, s3⟩ := hs
  by_cases hn1 : n ≤ 1
  · refine ⟨0, s, ⟨s1, s2, s3⟩, fun _ => rfl, fun h => by omega, ?_⟩
    refine sg_of (m := no) mixed Tryz.func36 k36 ?_
    simp -dsimp [q, hn1]
  have e1 : IntKind.i64.wrap (IntKind.i64.wrap (s.2 * 48271) + 67) = s.2 * 48271 + 67 := by rw [w64 (n := s.2 * 48271) (by omega) (by omega), w64 (by omega) (by omega)]
  have hm := tmod_in (x := s.2 * 48271 + 67) (m := 2147483647) (by omega) (by decide)
  generalize hg : (s.2 * 48271 + 67).tmod 2147483647 = g at *
  have hd : 0 ≤ g.tdiv 37 ∧ g.tdiv 37 < 2147483647 := by
    rw [Int.tdiv_eq_ediv_of_nonneg hm.1]
    omega
  have e2 : IntKind.i64.wrap (g.tdiv 37) = g.tdiv 37 := w64 (by omega) (by omega)
  generalize hx : g.tdiv 37 = x at *
  by_cases ha : s.1 < code.length
  case neg =>
    refine ⟨x.tmod n, (s.1, g), ⟨s1, hm⟩, fun h => absurd h hn1, fun h => tmod_in hd.1 (by omega), ?_⟩
    refine sg_of (m := no) mixed Tryz.func36 k36 ?_
    have n0 : ¬ n = 0 := by omega
    have a2 : code.length ≤ s.1 := by omega
    simp -dsimp [q, hn1, e1, hg, hx, e2, ha, n0, a2]
  obtain ⟨y, hy⟩ : ∃ y, code[s.1]? = some y := ⟨_, List.getElem?_eq_getElem ha⟩
  have hyb := h2 y (List.mem_of_getElem? hy)
  refine ⟨(if n ≤ 256 ∧ ((s.1 : Int) + 1).tmod 2 = 0 then y else x + y).tmod n, (s.1 + 1, g), ⟨by simp only; omega, hm⟩, fun h => absurd h hn1, fun h => tmod_in (by split <;> omega) (by omega), ?_⟩
  refine sg_of (m := no) mixed Tryz.func36 k36 ?_
  have n0 : ¬ n = 0 := by omega
  have a2 : ¬ code.length ≤ s.1 := by omega
  have e3 : IntKind.i64.wrap ((s.1 : Int) + 1) = (s.1 : Int) + 1 := w64 (by omega) (by omega)
  have e4 : IntKind.i64.wrap (IntKind.i64.wrap x + IntKind.i64.wrap y) = x + y := by rw [w64 (n := x) (by omega) (by omega), w64 (n := y) (by omega) (by omega), w64 (by omega) (by omega)]
  have e5 : IntKind.i64.wrap ((s.1 : Int) + 1 - 1) = s.1 := by rw [w64 (by omega) (by omega)]; omega
  have e6 : IntKind.i64.wrap y = y := w64 (by omega) (by omega)
  have hg3 : (u8s code)[s.1]? = some (.int .u8 y) := by simp [u8s, hy]
  have hg2 : (u8s code)[((s.1 : Nat) : Int).toNat]? = some (.int .u8 y) := by rw [Int.toNat_natCast]; exact hg3
  simp -dsimp [q, hn1, e1, hg, hx, e2, ha, n0, a2, ↓hg2, ↓hg3, e3, e4, e5, e6]
  have e7 : IntKind.i64.wrap (x + y) = x + y := w64 (by omega) (by omega)
  rw [e7]
  refine ⟨fun h3 => ⟨fun h4 => ?_, fun h4 => ?_⟩, fun h3 => ?_⟩
  · have e8 : IntKind.i64.wrap (s.1 : Int) = s.1 := w64 (by omega) (by omega)
    rw [e8, if_pos ⟨h3, h4⟩]
    refine ⟨⟨by omega, by omega⟩, fun a ha' => ?_⟩
    rw [Int.toNat_natCast, hy] at ha'
    cases ha'
    rw [e6]
  · rw [if_neg (fun e => h4 e.2)]
  · rw [if_neg (fun e => by omega)]
open Classical in
noncomputable def nx (code : List Int) (s : Sr) (n : Int) : Int × Sr :=
  if h : okC code ∧ okSr s ∧ n ≤ 9223372036854775807 then ((s_next code h.1 s h.2.1 n h.2.2).choose, (s_next code h.1 s h.2.1 n h.2.2).choose_spec.choose) else (0, s)
theorem nx_spec {code : List Int} (hc : okC code) {s : Sr} (hs : okSr s) {n : Int} (hn : n ≤ 9223372036854775807) : okSr (nx code s n).2 ∧ (n ≤ 1 → (nx code s n).1 = 0) ∧ (1 < n → 0 ≤ (nx code s n).1 ∧ (nx code s n).1 < n) ∧ SpG Tryz.prog 36 [.ptr 0 0, vi n] [srC code s] (vi (nx code s n).1) [srC code (nx code s n).2] := by
  unfold nx
  rw [dif_pos ⟨hc, hs, hn⟩]
  exact (s_next code hc s hs n hn).choose_spec.choose_spec
theorem nx_ok {code : List Int} (hc : okC code) {s : Sr} (hs : okSr s) {n : Int} (hn : n ≤ 9223372036854775807) : okSr (nx code s n).2 := (nx_spec hc hs hn).1
theorem nx_lt {code : List Int} (hc : okC code) {s : Sr} (hs : okSr s) {n : Int} (hn : 1 ≤ n ∧ n ≤ 9223372036854775807) : 0 ≤ (nx code s n).1 ∧ (nx code s n).1 < n := by
  obtain ⟨_, h1, h2, _⟩ := nx_spec hc hs hn.2
  by_cases h : n ≤ 1
  · rw [h1 h]; omega
  · exact h2 (by omega)
theorem nx_nn {code : List Int} (hc : okC code) {s : Sr} (hs : okSr s) {n : Int} (hn : n ≤ 9223372036854775807) : 0 ≤ (nx code s n).1 := by
  obtain ⟨_, h1, h2, _⟩ := nx_spec hc hs hn
  by_cases h : n ≤ 1
  · rw [h1 h]; omega
  · exact (h2 (by omega)).1
theorem s_nx {code : List Int} (hc : okC code) {s : Sr} (hs : okSr s) {n : Int} (hn : n ≤ 9223372036854775807) : SpG Tryz.prog 36 [.ptr 0 0, vi n] [srC code s] (vi (nx code s n).1) [srC code (nx code s n).2] := (nx_spec hc hs hn).2.2.2
theorem s_pick (code : List Int) (hc : okC code) (s : Sr) (hs : okSr s) (l : List Int) (hl : 1 ≤ l.length ∧ l.length ≤ 1000) (t : Nat) : ∃ v s', okSr s' ∧ v ∈ l ∧ SpG Tryz.prog 58 [.ptr 0 0, .sli 1] [srC code s, .row 0 t (is l)] (vi v) [srC code s', .row 0 t (is l)] := by
  obtain ⟨i, s', hs', h0, h1, w⟩ := s_next code hc s hs l.length (by omega)
  have hi : 0 ≤ i ∧ i < l.length := by
    by_cases h : (l.length : Int) ≤ 1
    · rw [h0 h]; omega
    · exact h1 (by omega)
  obtain ⟨v, hv⟩ : ∃ v, l[i.toNat]? = some v := ⟨_, List.getElem?_eq_getElem (by omega)⟩
  refine ⟨v, s', hs', List.mem_of_getElem? hv, ?_⟩
  refine sg_of (m := fun f => f == 36) mixed Tryz.func58 k58 ?_
  simp -dsimp [q]
  refine callM_of rfl (w) (by simp) ?_
  try simp -dsimp
  try (first | exact fp_one (by decide) | refine fp_and (by decide) ?_)
  refine ⟨hi, by omega, fun a ha => ⟨rfl, by decide, ?_⟩⟩
  rw [hv] at ha
  cases ha
  rfl
end Go.Proofs.YtcnhcilpaplpcaaGreatDoorEv
namespace Go.Proofs.YtcnhcilpaplpcaaGreatDoorEv
open Go Go.Proofs
set_option maxRecDepth 10000
set_option maxHeartbeats 2000000
abbrev dcC (code : List Int) (s : Sr) : Ck := .box [.v (cdV code), vi s.1, .v (.int .u64 s.2)]
theorem s_roll (code : List Int) (hc : okC code) (n : Int) : ∃ s : Sr, s.1 ≤ 4096 ∧ SpG Tryz.prog 19 [.v (cdV code), .v (.int .u64 n)] [] (.ptr 0 0) [dcC code s] := by
  obtain ⟨h1, h2⟩ := hc
  let f : Nat → Int := fun k => Nat.rec (IntKind.u64.wrap (IntKind.u64.wrap (n * 9311) + IntKind.u64.wrap code.length)) (fun i s => IntKind.u64.wrap (IntKind.u64.wrap (IntKind.u64.wrap (s * 1099511628211) + IntKind.u64.wrap ((code[i]?).getD 0)) + 5)) k
  have f0 : f 0 = IntKind.u64.wrap (IntKind.u64.wrap (n * 9311) + IntKind.u64.wrap code.length) := rfl
  have fs : ∀ i y, code[i]? = some y → f (i + 1) = IntKind.u64.wrap (IntKind.u64.wrap (IntKind.u64.wrap (f i * 1099511628211) + IntKind.u64.wrap y) + 5) := fun i y hy => by
    show IntKind.u64.wrap (IntKind.u64.wrap (IntKind.u64.wrap (f i * 1099511628211) + IntKind.u64.wrap ((code[i]?).getD 0)) + 5) = _
    rw [hy]
    rfl
  clear_value f
  refine ⟨(0, f code.length), by simp, ?_⟩
  refine sg_of (m := no) mixed Tryz.func19 k19 ?_
  simp -dsimp [q]
  refine awp_it (true :: false :: false :: false :: false :: true :: true :: []) (fun i : Nat => [(6, vi i)]) (fun i => [(0, .box [.v (cdV code), vi 0, .v (.int .u64 (f i))])]) (fun i => i ≤ code.length) (fun i => code.length - i) 0 ?_
  intro s0 e
  simp -dsimp at e
  subst e
  refine ⟨?_, ?_⟩
  · simp [f0]
  rintro i hi
  simp -dsimp
  refine ⟨fun h3 => ⟨h3, fun a ha => ⟨by decide, i + 1, ⟨by rw [w64 (by omega) (by omega)]; simp, ?_⟩, by omega, by omega⟩⟩, fun h3 => ?_⟩
  · rw [fs i a ha]
  · rw [show code.length = i by omega]
theorem and24 (a : Nat) : 0 ≤ IntKind.i64.wrap (IntKind.u64.wrap ((a &&& 16777215 % 2 ^ IntKind.u64.bits : Nat) : Int)) ∧ IntKind.i64.wrap (IntKind.u64.wrap ((a &&& 16777215 % 2 ^ IntKind.u64.bits : Nat) : Int)) ≤ 16777215 := by
  have h : (a &&& 16777215 % 2 ^ IntKind.u64.bits) ≤ 16777215 := Nat.le_trans Nat.and_le_right (by decide)
  generalize (a &&& 16777215 % 2 ^ IntKind.u64.bits) = x at *
  have e : IntKind.u64.wrap (x : Int) = x := Int.emod_eq_of_lt (by omega) (by show (x : Int) < 18446744073709551616; omega)
  rw [e, w64 (by omega) (by omega)]
  omega
theorem s_below (code : List Int) (hc : okC code) (s : Sr) (hs : s.1 ≤ 4096) (n : Int) (hn : 1 ≤ n ∧ n ≤ 9223372036854775807) : ∃ v s', s'.1 ≤ 4096 ∧ (0 ≤ v ∧ v < n) ∧ SpG Tryz.prog 20 [.ptr 0 0, vi n] [dcC code s] (vi v) [dcC code s'] := by
  obtain ⟨h1, h2⟩ := hc
  generalize hg : IntKind.u64.wrap (IntKind.u64.wrap (s.2 * 6364136223846793005) + 1442695040888963407) = g at *
  have hx := and24 (g.fdiv (2 ^ min 33 IntKind.u64.bits) % 2 ^ IntKind.u64.bits).toNat
  generalize hxx : IntKind.i64.wrap (IntKind.u64.wrap (((g.fdiv (2 ^ min 33 IntKind.u64.bits) % 2 ^ IntKind.u64.bits).toNat &&& 16777215 % 2 ^ IntKind.u64.bits : Nat) : Int)) = x at *
  have n0 : ¬ n = 0 := by omega
  by_cases ha : s.1 < code.length
  case neg =>
    have a2 : code.length ≤ s.1 := by omega
    refine ⟨x.tmod n, (s.1, g), hs, tmod_in hx.1 (by omega), ?_⟩
    refine sg_of (m := no) mixed Tryz.func20 k20 ?_
    simp -dsimp [q, hg, ha, a2, n0, hxx]
    try rw [hxx]
  obtain ⟨y, hy⟩ : ∃ y, code[s.1]? = some y := ⟨_, List.getElem?_eq_getElem ha⟩
  have hyb := h2 y (List.mem_of_getElem? hy)
  have a2 : ¬ code.length ≤ s.1 := by omega
  have hg3 : (u8s code)[s.1]? = some (.int .u8 y) := by simp [u8s, hy]
  have hg2 : (u8s code)[((s.1 : Nat) : Int).toNat]? = some (.int .u8 y) := by rw [Int.toNat_natCast]; exact hg3
  have e3 : IntKind.i64.wrap ((s.1 : Int) + 1) = (s.1 : Int) + 1 := w64 (by omega) (by omega)
  have e6 : IntKind.i64.wrap y = y := w64 (by omega) (by omega)
  have e7 : IntKind.i64.wrap (x + y) = x + y := w64 (by omega) (by omega)
  refine ⟨(x + y).tmod n, (s.1 + 1, g), by simp only; omega, tmod_in (by omega) (by omega), ?_⟩
  refine sg_of (m := no) mixed Tryz.func20 k20 ?_
  simp -dsimp [q, hg, ha, a2, n0, hxx, ↓hg2, ↓hg3, e3, e6, e7]
  try rw [hxx, e7]
end Go.Proofs.YtcnhcilpaplpcaaGreatDoorEv
namespace Go.Proofs.YtcnhcilpaplpcaaGreatDoorEv
open Go Go.Proofs
set_option maxRecDepth 10000
set_option maxHeartbeats 2000000
theorem sts_getA (l : List ByteArray) (n : Nat) (K : V → Prop) : fA ((sts l)[n]?) K = ∀ s, l[n]? = some s → K (.str s) := by unfold sts; exact fA_map
def gnm : List ByteArray := [⟨#[112, 49]⟩, ⟨#[112, 50]⟩, ⟨#[112, 109]⟩, ⟨#[112, 103]⟩, ⟨#[99, 109]⟩, ⟨#[112, 109, 109]⟩, ⟨#[112, 109, 103]⟩, ⟨#[112, 103, 103]⟩, ⟨#[99, 109, 109]⟩, ⟨#[112, 52]⟩, ⟨#[112, 52, 109]⟩, ⟨#[112, 52, 103]⟩, ⟨#[112, 51]⟩, ⟨#[112, 51, 109, 49]⟩, ⟨#[112, 51, 49, 109]⟩, ⟨#[112, 54]⟩, ⟨#[112, 54, 109]⟩]
theorem gnm_len : gnm.length = 17 := rfl
theorem s_gnames : Sp Tryz.prog 75 [] (.sli 0) [.row 0 9 (sts gnm)] := by
  refine sp_of (m := no) mixed Tryz.func75 k75 ?_
  simp -dsimp [q, sts]
  try rfl
theorem s_l12D (code : List Int) (hc : okC code) (s : Sr) (hs : okSr s) : ∃ (v : ByteArray) (s' : Sr), okSr s' ∧ SpG Tryz.prog 57 [.ptr 0 0] [srC code s] (.v (.str v)) [srC code s'] := by
  have w1 := s_nx hc hs (n := 24) (by decide)
  have o1 := nx_ok hc hs (n := 24) (by decide)
  generalize nx code s 24 = x1 at *
  obtain ⟨v1, s1⟩ := x1
  simp only at w1 o1
  by_cases hv : v1 = 0
  · have w2 := s_nx hc o1 (n := 4) (by decide)
    have o2 := nx_ok hc o1 (n := 4) (by decide)
    have l2 := nx_lt hc o1 (n := 4) (by decide)
    generalize nx code s1 4 = x2 at *
    obtain ⟨v2, s2⟩ := x2
    simp only at w2 o2 l2
    obtain ⟨x, hx⟩ : ∃ x, ([⟨#[]⟩, ⟨#[112, 53]⟩, ⟨#[80, 52]⟩, ⟨#[112, 52, 32]⟩] : List ByteArray)[v2.toNat]? = some x := ⟨_, List.getElem?_eq_getElem (by simp; omega)⟩
    refine ⟨x, s2, o2, ?_⟩
    refine sg_of (m := fun f => f == 36) mixed Tryz.func57 k57 ?_
    simp -dsimp [q]
    refine callM_of rfl (w1) (by simp) ?_
    try simp -dsimp
    try (first | exact fp_one (by decide) | refine fp_and (by decide) ?_)
    refine ⟨fun _ => ?_, fun h => absurd hv h⟩
    refine callM_of rfl (w2) (by simp) ?_
    try simp -dsimp
    try (first | exact fp_one (by decide) | refine fp_and (by decide) ?_)
    refine ⟨l2, by omega, fun y hy => ?_⟩
    have h3 := congrArg (Option.map V.str) hx
    rw [← List.getElem?_map] at h3
    obtain rfl := Option.some.inj (hy.symm.trans h3)
    simp -dsimp
    try rfl
  · have w2 := s_nx hc o1 (n := 17) (by decide)
    have o2 := nx_ok hc o1 (n := 17) (by decide)
    have l2 := nx_lt hc o1 (n := 17) (by decide)
    generalize nx code s1 17 = x2 at *
    obtain ⟨v2, s2⟩ := x2
    simp only at w2 o2 l2
    obtain ⟨x, hx⟩ : ∃ x, gnm[v2.toNat]? = some x := ⟨_, List.getElem?_eq_getElem (by rw [gnm_len]; omega)⟩
    refine ⟨x, s2, o2, ?_⟩
    have w3 := s_gnames
    have hl := gnm_len
    generalize gnm = L at *
    refine sg_of (m := fun f => f == 36) mixed Tryz.func57 k57 ?_
    simp -dsimp [q]
    refine callM_of rfl (w1) (by simp) ?_
    try simp -dsimp
    try (first | exact fp_one (by decide) | refine fp_and (by decide) ?_)
    refine ⟨fun h => absurd h hv, fun _ => ?_⟩
    refine call_of (w3) rfl (by simp) ?_
    try simp -dsimp
    try (first | exact fp_one (by decide) | refine fp_and (by decide) ?_)
    refine callM_of rfl (w2) (by simp) ?_
    try simp -dsimp
    try (first | exact fp_one (by decide) | refine fp_and (by decide) ?_)
    rw [sts_getA]
    refine ⟨⟨l2.1, by omega⟩, by omega, fun y hy => ?_⟩
    rw [hx] at hy
    cases hy
    simp -dsimp
    try rfl
theorem s_cellD (code : List Int) (hc : okC code) (s : Sr) (hs : okSr s) (a b c : Int) (ha : a ≤ 1000000) (hcc : c ≤ 1000000) : ∃ (x y : Int) (s' : Sr), okSr s' ∧ SpG Tryz.prog 76 [.ptr 0 0, aL a b c] [srC code s] (aV x y) [srC code s'] := by
  have w1 := s_nx hc hs (n := 24) (by decide)
  have o1 := nx_ok hc hs (n := 24) (by decide)
  generalize nx code s 24 = x1 at *
  obtain ⟨v1, s1⟩ := x1
  simp only at w1 o1
  by_cases hv : v1 = 0
  · obtain ⟨x, s2, o2, _, w2⟩ := s_pick code hc s1 o1 [-1, a, 0] (by simp) 2
    obtain ⟨y, s3, o3, _, w3⟩ := s_pick code hc s2 o2 [0, c] (by simp) 2
    refine ⟨x, y, s3, o3, ?_⟩
    refine sg_of (m := fun f => f == 36 || f == 58) mixed Tryz.func76 k76 ?_
    simp -dsimp [q]
    refine callM_of rfl (w1) (by simp) ?_
    try simp -dsimp
    try (first | exact fp_one (by decide) | refine fp_and (by decide) ?_)
    refine ⟨fun _ => ?_, fun h => absurd hv h⟩
    refine callM_of rfl ((w2 : SpG Tryz.prog _ [.ptr 0 0, .sli 1] [srC code s1, .row 0 2 [.int .i64 (-1), .int .i64 a, .int .i64 0]] (vi x) [srC code s2, .row 0 2 (is [-1, a, 0])])) (by simp) ?_
    try simp -dsimp
    try (first | exact fp_one (by decide) | refine fp_and (by decide) ?_)
    refine callM_of rfl ((w3 : SpG Tryz.prog _ [.ptr 0 0, .sli 1] [srC code s2, .row 0 2 [.int .i64 0, .int .i64 c]] (vi y) [srC code s3, .row 0 2 (is [0, c])])) (by simp) ?_
    try simp -dsimp
    try (first | exact fp_one (by decide) | refine fp_and (by decide) ?_)
  · have w2 := s_nx hc o1 (n := a) (by omega)
    have o2 := nx_ok hc o1 (n := a) (by omega)
    generalize nx code s1 a = x2 at *
    obtain ⟨x, s2⟩ := x2
    have w3 := s_nx hc o2 (n := c) (by omega)
    have o3 := nx_ok hc o2 (n := c) (by omega)
    simp only at w2 w3 o3
    generalize nx code s2 c = x3 at *
    obtain ⟨y, s3⟩ := x3
    simp only at w3 o3
    refine ⟨x, y, s3, o3, ?_⟩
    refine sg_of (m := fun f => f == 36 || f == 58) mixed Tryz.func76 k76 ?_
    simp -dsimp [q]
    refine callM_of rfl (w1) (by simp) ?_
    try simp -dsimp
    try (first | exact fp_one (by decide) | refine fp_and (by decide) ?_)
    refine ⟨fun h => absurd h hv, fun _ => ?_⟩
    refine callM_of rfl (w2) (by simp) ?_
    try simp -dsimp
    try (first | exact fp_one (by decide) | refine fp_and (by decide) ?_)
    refine callM_of rfl (w3) (by simp) ?_
    try simp -dsimp
    try (first | exact fp_one (by decide) | refine fp_and (by decide) ?_)
noncomputable def dst (code : List Int) (a c : Int) : Nat → List K3 → Sr → List K3 × Sr
  | 0, l, s => (l, s)
  | k + 1, l, s => dst code a c k (l ++ [(((nx code s a).1, (nx code (nx code s a).2 c).1), (nx code (nx code (nx code s a).2 c).2 4).1)]) (nx code (nx code (nx code s a).2 c).2 4).2
theorem dst_ok {code : List Int} (hc : okC code) {a c : Int} (ha : a ≤ 1000000) (hcc : c ≤ 1000000) : ∀ (k : Nat) (l : List K3) (s : Sr), okSr s → okSr (dst code a c k l s).2 ∧ (dst code a c k l s).1.length = l.length + k
  | 0, l, s, h => ⟨h, rfl⟩
  | k + 1, l, s, h => by
    have o1 := nx_ok hc h (n := a) (by omega)
    have o2 := nx_ok hc o1 (n := c) (by omega)
    have o3 := nx_ok hc o2 (n := 4) (by omega)
    have := dst_ok hc ha hcc k (l ++ [(((nx code s a).1, (nx code (nx code s a).2 c).1), (nx code (nx code (nx code s a).2 c).2 4).1)]) _ o3
    refine ⟨this.1, ?_⟩
    show (dst code a c k _ _).1.length = _
    rw [this.2]
    simp
    omega
theorem s_strD (code : List Int) (hc : okC code) (s : Sr) (hs : okSr s) (a b c : Int) (ha : a ≤ 1000000) (hcc : c ≤ 1000000) : ∃ (l : List K3) (s' : Sr), okSr s' ∧ l.length ≤ 101 ∧ SpG Tryz.prog 59 [.ptr 0 0, aL a b c] [srC code s] (.sli 1) [srC code s', .row 3 54 (ks l)] := by
  have w1 := s_nx hc hs (n := 8) (by decide)
  have o1 := nx_ok hc hs (n := 8) (by decide)
  have l1 := nx_lt hc hs (n := 8) (by decide)
  generalize nx code s 8 = x1 at *
  obtain ⟨v1, s1⟩ := x1
  simp only at w1 o1 l1
  obtain ⟨p2, p3⟩ := dst_ok hc ha hcc v1.toNat [] s1 o1
  have hfin : ∀ (T : List K3 × Sr), dst code a c v1.toNat [] s1 = T → okSr T.2 ∧ T.1.length ≤ 7 := fun T h => by
    rw [← h]
    exact ⟨p2, by rw [p3]; simp; omega⟩
  generalize hT : dst code a c v1.toNat [] s1 = T at *
  obtain ⟨l2, s2⟩ := T
  obtain ⟨o2, len2⟩ := hfin _ rfl
  simp only at o2 len2
  clear hfin p2 p3
  have w3 := s_nx hc o2 (n := 40) (by decide)
  have o3 := nx_ok hc o2 (n := 40) (by decide)
  generalize nx code s2 40 = x3 at *
  obtain ⟨v3, s3⟩ := x3
  simp only at w3 o3
  have e0 : ((v1.toNat : Nat) : Int) = v1 := by omega
  by_cases h0 : v3 = 0
  · obtain ⟨x, y, s4, o4, w4⟩ := s_cellD code hc s3 o3 a b c ha hcc
    obtain ⟨v, s5, o5, _, w5⟩ := s_pick code hc s4 o4 [-1, 9, 10] (by simp) 2
    refine ⟨l2 ++ [((x, y), v)], s5, o5, by simp; omega, ?_⟩
    refine sg_of (m := fun f => f == 36 || f == 58 || f == 76) mixed Tryz.func59 k59 ?_
    simp -dsimp [q]
    refine callM_of rfl (w1) (by simp) ?_
    try simp -dsimp
    try (first | exact fp_one (by decide) | refine fp_and (by decide) ?_)
    refine awp_it (true :: false :: false :: true :: false :: true :: true :: []) (fun x : Nat × List K3 × Sr => [(6, vi x.1)]) (fun x => [(0, srC code x.2.2), (2, .row 3 54 (ks x.2.1))]) (fun x => x.1 ≤ 7 ∧ x.1 + x.2.1.length ≤ 7 ∧ okSr x.2.2 ∧ dst code a c x.1 x.2.1 x.2.2 = (l2, s2)) (fun x => x.1) (v1.toNat, [], s1) ?_
    intro s0 e
    simp -dsimp at e
    subst e
    refine ⟨?_, ?_⟩
    · simp -dsimp [e0, o1, hT]
      omega
    rintro ⟨k, l, t⟩ ⟨g1, g2, g3, g4⟩
    simp only at g1 g2 g3 g4
    simp -dsimp [-Prod.forall, -Prod.exists]
    refine ⟨fun hk => ?_, fun hk => ?_⟩
    · obtain ⟨k', rfl⟩ : ∃ k', k = k' + 1 := ⟨k - 1, by omega⟩
      rw [dst] at g4
      have wa := s_nx hc g3 (n := a) (by omega)
      have oa := nx_ok hc g3 (n := a) (by omega)
      generalize nx code t a = xa at *
      obtain ⟨va, ta⟩ := xa
      simp only at wa oa g4
      have wb := s_nx hc oa (n := c) (by omega)
      have ob := nx_ok hc oa (n := c) (by omega)
      generalize nx code ta c = xb at *
      obtain ⟨vb', tb⟩ := xb
      simp only at wb ob g4
      have wd := s_nx hc ob (n := 4) (by decide)
      have od := nx_ok hc ob (n := 4) (by decide)
      generalize nx code tb 4 = xd at *
      obtain ⟨vd, td⟩ := xd
      simp only at wd od g4
      refine callM_of rfl (wa) (by simp) ?_
      try simp -dsimp
      try (first | exact fp_one (by decide) | refine fp_and (by decide) ?_)
      refine callM_of rfl (wb) (by simp) ?_
      try simp -dsimp
      try (first | exact fp_one (by decide) | refine fp_and (by decide) ?_)
      refine callM_of rfl (wd) (by simp) ?_
      try simp -dsimp
      try (first | exact fp_one (by decide) | refine fp_and (by decide) ?_)
      refine ⟨⟨by omega, by omega⟩, by decide, k', _, td.1, td.2, ⟨w64 (by omega) (by omega), ⟨rfl, rfl⟩, rfl⟩, ⟨by omega, by simp; omega, od, g4⟩, by omega⟩
    · obtain rfl : k = 0 := by omega
      rw [dst] at g4
      cases g4
      refine callM_of rfl (w3) (by simp) ?_
      try simp -dsimp
      try (first | exact fp_one (by decide) | refine fp_and (by decide) ?_)
      refine ⟨fun _ => ?_, fun h => absurd h0 h⟩
      refine callM_of rfl (w4) (by simp) ?_
      try simp -dsimp
      try (first | exact fp_one (by decide) | refine fp_and (by decide) ?_)
      refine callM_of rfl ((w5 : SpG Tryz.prog _ [.ptr 0 0, .sli 1] [srC code s4, .row 0 2 [.int .i64 (-1), .int .i64 9, .int .i64 10]] (vi v) [srC code s5, .row 0 2 (is [-1, 9, 10])])) (by simp) ?_
      try simp -dsimp
      try (first | exact fp_one (by decide) | refine fp_and (by decide) ?_)
      exact ⟨by omega, by omega⟩
  by_cases h1 : v3 = 1
  · have w4 := s_nx hc o3 (n := 2) (by decide)
    have o4 := nx_ok hc o3 (n := 2) (by decide)
    have l4 := nx_lt hc o3 (n := 2) (by decide)
    generalize nx code s3 2 = x4 at *
    obtain ⟨v4, s4⟩ := x4
    simp only at w4 o4 l4
    refine ⟨List.replicate (100 + v4).toNat ((0, 0), 0), s4, o4, by simp; omega, ?_⟩
    refine sg_of (m := fun f => f == 36 || f == 58 || f == 76) mixed Tryz.func59 k59 ?_
    simp -dsimp [q]
    refine callM_of rfl (w1) (by simp) ?_
    try simp -dsimp
    try (first | exact fp_one (by decide) | refine fp_and (by decide) ?_)
    refine awp_it (true :: false :: false :: true :: false :: true :: true :: []) (fun x : Nat × List K3 × Sr => [(6, vi x.1)]) (fun x => [(0, srC code x.2.2), (2, .row 3 54 (ks x.2.1))]) (fun x => x.1 ≤ 7 ∧ x.1 + x.2.1.length ≤ 7 ∧ okSr x.2.2 ∧ dst code a c x.1 x.2.1 x.2.2 = (l2, s2)) (fun x => x.1) (v1.toNat, [], s1) ?_
    intro s0 e
    simp -dsimp at e
    subst e
    refine ⟨?_, ?_⟩
    · simp -dsimp [e0, o1, hT]
      omega
    rintro ⟨k, l, t⟩ ⟨g1, g2, g3, g4⟩
    simp only at g1 g2 g3 g4
    simp -dsimp [-Prod.forall, -Prod.exists]
    refine ⟨fun hk => ?_, fun hk => ?_⟩
    · obtain ⟨k', rfl⟩ : ∃ k', k = k' + 1 := ⟨k - 1, by omega⟩
      rw [dst] at g4
      have wa := s_nx hc g3 (n := a) (by omega)
      have oa := nx_ok hc g3 (n := a) (by omega)
      generalize nx code t a = xa at *
      obtain ⟨va, ta⟩ := xa
      simp only at wa oa g4
      have wb := s_nx hc oa (n := c) (by omega)
      have ob := nx_ok hc oa (n := c) (by omega)
      generalize nx code ta c = xb at *
      obtain ⟨vb', tb⟩ := xb
      simp only at wb ob g4
      have wd := s_nx hc ob (n := 4) (by decide)
      have od := nx_ok hc ob (n := 4) (by decide)
      generalize nx code tb 4 = xd at *
      obtain ⟨vd, td⟩ := xd
      simp only at wd od g4
      refine callM_of rfl (wa) (by simp) ?_
      try simp -dsimp
      try (first | exact fp_one (by decide) | refine fp_and (by decide) ?_)
      refine callM_of rfl (wb) (by simp) ?_
      try simp -dsimp
      try (first | exact fp_one (by decide) | refine fp_and (by decide) ?_)
      refine callM_of rfl (wd) (by simp) ?_
      try simp -dsimp
      try (first | exact fp_one (by decide) | refine fp_and (by decide) ?_)
      refine ⟨⟨by omega, by omega⟩, by decide, k', _, td.1, td.2, ⟨w64 (by omega) (by omega), ⟨rfl, rfl⟩, rfl⟩, ⟨by omega, by simp; omega, od, g4⟩, by omega⟩
    · obtain rfl : k = 0 := by omega
      rw [dst] at g4
      cases g4
      refine callM_of rfl (w3) (by simp) ?_
      try simp -dsimp
      try (first | exact fp_one (by decide) | refine fp_and (by decide) ?_)
      refine ⟨fun h => absurd h h0, fun _ => ⟨fun _ => ?_, fun h => absurd h1 h⟩⟩
      refine callM_of rfl (w4) (by simp) ?_
      try simp -dsimp
      try (first | exact fp_one (by decide) | refine fp_and (by decide) ?_)
      rw [w64 (by omega) (by omega)]
      exact ⟨⟨by omega, by omega, by omega⟩, rfl⟩
  refine ⟨l2, s3, o3, by omega, ?_⟩
  refine sg_of (m := fun f => f == 36 || f == 58 || f == 76) mixed Tryz.func59 k59 ?_
  simp -dsimp [q]
  refine callM_of rfl (w1) (by simp) ?_
  try simp -dsimp
  try (first | exact fp_one (by decide) | refine fp_and (by decide) ?_)
  refine awp_it (true :: false :: false :: true :: false :: true :: true :: []) (fun x : Nat × List K3 × Sr => [(6, vi x.1)]) (fun x => [(0, srC code x.2.2), (2, .row 3 54 (ks x.2.1))]) (fun x => x.1 ≤ 7 ∧ x.1 + x.2.1.length ≤ 7 ∧ okSr x.2.2 ∧ dst code a c x.1 x.2.1 x.2.2 = (l2, s2)) (fun x => x.1) (v1.toNat, [], s1) ?_
  intro s0 e
  simp -dsimp at e
  subst e
  refine ⟨?_, ?_⟩
  · simp -dsimp [e0, o1, hT]
    omega
  rintro ⟨k, l, t⟩ ⟨g1, g2, g3, g4⟩
  simp only at g1 g2 g3 g4
  simp -dsimp [-Prod.forall, -Prod.exists]
  refine ⟨fun hk => ?_, fun hk => ?_⟩
  · obtain ⟨k', rfl⟩ : ∃ k', k = k' + 1 := ⟨k - 1, by omega⟩
    rw [dst] at g4
    have wa := s_nx hc g3 (n := a) (by omega)
    have oa := nx_ok hc g3 (n := a) (by omega)
    generalize nx code t a = xa at *
    obtain ⟨va, ta⟩ := xa
    simp only at wa oa g4
    have wb := s_nx hc oa (n := c) (by omega)
    have ob := nx_ok hc oa (n := c) (by omega)
    generalize nx code ta c = xb at *
    obtain ⟨vb', tb⟩ := xb
    simp only at wb ob g4
    have wd := s_nx hc ob (n := 4) (by decide)
    have od := nx_ok hc ob (n := 4) (by decide)
    generalize nx code tb 4 = xd at *
    obtain ⟨vd, td⟩ := xd
    simp only at wd od g4
    refine callM_of rfl (wa) (by simp) ?_
    try simp -dsimp
    try (first | exact fp_one (by decide) | refine fp_and (by decide) ?_)
    refine callM_of rfl (wb) (by simp) ?_
    try simp -dsimp
    try (first | exact fp_one (by decide) | refine fp_and (by decide) ?_)
    refine callM_of rfl (wd) (by simp) ?_
    try simp -dsimp
    try (first | exact fp_one (by decide) | refine fp_and (by decide) ?_)
    refine ⟨⟨by omega, by omega⟩, by decide, k', _, td.1, td.2, ⟨w64 (by omega) (by omega), ⟨rfl, rfl⟩, rfl⟩, ⟨by omega, by simp; omega, od, g4⟩, by omega⟩
  · obtain rfl : k = 0 := by omega
    rw [dst] at g4
    cases g4
    refine callM_of rfl (w3) (by simp) ?_
    try simp -dsimp
    try (first | exact fp_one (by decide) | refine fp_and (by decide) ?_)
    exact ⟨fun h => absurd h h0, fun _ h => absurd h h1⟩
theorem s_27D (code : List Int) (hc : okC code) (s : Sr) (hs : okSr s) : ∃ (v : ByteArray) (n : Int) (l : List K3) (s' : Sr), okSr s' ∧ l.length ≤ 101 ∧ SpG Tryz.prog 34 [.ptr 0 0] [srC code s] (.tu [.v (.str v), vi n, .sli 1]) [srC code s', .row 3 54 (ks l)] := by
  obtain ⟨v, s1, o1, w1⟩ := s_l12D code hc s hs
  have w2 := s_nx hc o1 (n := 2) (by decide)
  have o2 := nx_ok hc o1 (n := 2) (by decide)
  have l2 := nx_lt hc o1 (n := 2) (by decide)
  generalize nx code s1 2 = x2 at *
  obtain ⟨v2, s2⟩ := x2
  simp only at w2 o2 l2
  have w3 := s_nx hc o2 (n := 24) (by decide)
  have o3 := nx_ok hc o2 (n := 24) (by decide)
  generalize nx code s2 24 = x3 at *
  obtain ⟨v3, s3⟩ := x3
  simp only at w3 o3
  by_cases h0 : v3 = 0
  · obtain ⟨n, s4, o4, hn, w4⟩ := s_pick code hc s3 o3 [0, 4, 5] (by simp) 2
    have hn2 : 0 ≤ n ∧ n ≤ 5 := by simp at hn; omega
    have e1 : IntKind.i64.wrap (2 * (if 1 < n then n else 1)) = 2 * (if 1 < n then n else 1) := w64 (by split <;> omega) (by split <;> omega)
    obtain ⟨l, s5, o5, hl, w5⟩ := s_strD code hc s4 o4 (2 * (if 1 < n then n else 1)) 0 (2 * (if 1 < n then n else 1)) (by split <;> omega) (by split <;> omega)
    refine ⟨v, n, l, s5, o5, hl, ?_⟩
    refine sg_of (m := fun f => f == 36 || f == 58 || f == 57 || f == 59) mixed Tryz.func34 k34 ?_
    simp -dsimp [q]
    refine callM_of rfl (w1) (by simp) ?_
    try simp -dsimp
    try (first | exact fp_one (by decide) | refine fp_and (by decide) ?_)
    refine callM_of rfl (w2) (by simp) ?_
    try simp -dsimp
    try (first | exact fp_one (by decide) | refine fp_and (by decide) ?_)
    refine callM_of rfl (w3) (by simp) ?_
    try simp -dsimp
    try (first | exact fp_one (by decide) | refine fp_and (by decide) ?_)
    refine ⟨fun _ => ?_, fun h => absurd h0 h⟩
    refine callM_of rfl ((w4 : SpG Tryz.prog _ [.ptr 0 0, .sli 1] [srC code s3, .row 0 2 [.int .i64 0, .int .i64 4, .int .i64 5]] (vi n) [srC code s4, .row 0 2 (is [0, 4, 5])])) (by simp) ?_
    try simp -dsimp
    try (first | exact fp_one (by decide) | refine fp_and (by decide) ?_)
    rw [e1]
    refine callM_of rfl (w5) (by simp) ?_
    try simp -dsimp
    try (first | exact fp_one (by decide) | refine fp_and (by decide) ?_)
  · have e1 : IntKind.i64.wrap (1 + v2) = 1 + v2 := w64 (by omega) (by omega)
    have e2 : IntKind.i64.wrap (2 * (if 1 < 1 + v2 then 1 + v2 else 1)) = 2 * (if 1 < 1 + v2 then 1 + v2 else 1) := w64 (by split <;> omega) (by split <;> omega)
    obtain ⟨l, s5, o5, hl, w5⟩ := s_strD code hc s3 o3 (2 * (if 1 < 1 + v2 then 1 + v2 else 1)) 0 (2 * (if 1 < 1 + v2 then 1 + v2 else 1)) (by split <;> omega) (by split <;> omega)
    refine ⟨v, 1 + v2, l, s5, o5, hl, ?_⟩
    refine sg_of (m := fun f => f == 36 || f == 58 || f == 57 || f == 59) mixed Tryz.func34 k34 ?_
    simp -dsimp [q]
    refine callM_of rfl (w1) (by simp) ?_
    try simp -dsimp
    try (first | exact fp_one (by decide) | refine fp_and (by decide) ?_)
    refine callM_of rfl (w2) (by simp) ?_
    try simp -dsimp
    try (first | exact fp_one (by decide) | refine fp_and (by decide) ?_)
    refine callM_of rfl (w3) (by simp) ?_
    try simp -dsimp
    try (first | exact fp_one (by decide) | refine fp_and (by decide) ?_)
    refine ⟨fun h => absurd h h0, fun _ => ?_⟩
    rw [e1, e2]
    refine callM_of rfl (w5) (by simp) ?_
    try simp -dsimp
    try (first | exact fp_one (by decide) | refine fp_and (by decide) ?_)
end Go.Proofs.YtcnhcilpaplpcaaGreatDoorEv
namespace Go.Proofs.YtcnhcilpaplpcaaGreatDoorEv
open Go Go.Proofs
set_option maxRecDepth 10000
set_option maxHeartbeats 2000000
theorem s_damage (code : List Int) (hc : okC code) (s : Sr) (hs : okSr s) (t : ByteArray) (ht : t.size ≤ 1000000000) : ∃ (u : ByteArray) (s' : Sr), okSr s' ∧ u.size ≤ t.size + 1 ∧ SpG Tryz.prog 37 [.ptr 0 0, aT t] [srC code s] (aT u) [srC code s'] := by
  have w1 := s_nx hc hs (n := (t.size : Int) + 1) (by omega)
  have o1 := nx_ok hc hs (n := (t.size : Int) + 1) (by omega)
  have l1 := nx_lt hc hs (n := (t.size : Int) + 1) (by omega)
  generalize nx code s ((t.size : Int) + 1) = x1 at *
  obtain ⟨k, s1⟩ := x1
  simp only at w1 o1 l1
  have w2 := s_nx hc o1 (n := 8) (by decide)
  have o2 := nx_ok hc o1 (n := 8) (by decide)
  generalize nx code s1 8 = x2 at *
  obtain ⟨v2, s2⟩ := x2
  simp only at w2 o2
  have e1 : IntKind.i64.wrap ((t.size : Int) + 1) = (t.size : Int) + 1 := w64 (by omega) (by omega)
  by_cases h0 : v2 = 0
  · refine ⟨t.extract 0 k.toNat, s2, o2, by rw [ByteArray.size_extract]; omega, ?_⟩
    refine sg_of (m := fun f => f == 36) mixed Tryz.func37 k37 ?_
    simp -dsimp [q, e1]
    refine callM_of rfl (w1) (by simp) ?_
    try simp -dsimp
    try (first | exact fp_one (by decide) | refine fp_and (by decide) ?_)
    refine callM_of rfl (w2) (by simp) ?_
    try simp -dsimp
    try (first | exact fp_one (by decide) | refine fp_and (by decide) ?_)
    refine ⟨fun _ => ?_, fun h => absurd h0 h⟩
    try exact ⟨by omega, by omega⟩
  by_cases h1 : v2 = 1
  · have w3 := s_nx hc o2 (n := 8) (by decide)
    have o3 := nx_ok hc o2 (n := 8) (by decide)
    have l3 := nx_lt hc o2 (n := 8) (by decide)
    generalize nx code s2 8 = x3 at *
    obtain ⟨v3, s3⟩ := x3
    simp only at w3 o3 l3
    obtain ⟨x, hx⟩ : ∃ x, ([⟨#[48]⟩, ⟨#[49]⟩, ⟨#[32]⟩, ⟨#[45]⟩, ⟨#[44]⟩, ⟨#[59]⟩, ⟨#[10]⟩, ⟨#[97]⟩] : List ByteArray)[v3.toNat]? = some x := ⟨_, List.getElem?_eq_getElem (by simp; omega)⟩
    have hxs : x.size = 1 := by
      have hm := List.mem_of_getElem? hx
      simp only [List.mem_cons, List.not_mem_nil, or_false] at hm
      rcases hm with rfl | rfl | rfl | rfl | rfl | rfl | rfl | rfl <;> rfl
    refine ⟨t.extract 0 k.toNat ++ x ++ t.extract k.toNat t.size, s3, o3, by simp only [ByteArray.size_append, ByteArray.size_extract]; omega, ?_⟩
    refine sg_of (m := fun f => f == 36) mixed Tryz.func37 k37 ?_
    simp -dsimp [q, e1]
    refine callM_of rfl (w1) (by simp) ?_
    try simp -dsimp
    try (first | exact fp_one (by decide) | refine fp_and (by decide) ?_)
    refine callM_of rfl (w2) (by simp) ?_
    try simp -dsimp
    try (first | exact fp_one (by decide) | refine fp_and (by decide) ?_)
    refine ⟨fun h => absurd h h0, fun _ => ⟨fun _ => ?_, fun h => absurd h1 h⟩⟩
    refine ⟨⟨by omega, by omega⟩, ?_⟩
    refine callM_of rfl (w3) (by simp) ?_
    try simp -dsimp
    try (first | exact fp_one (by decide) | refine fp_and (by decide) ?_)
    refine ⟨l3, by omega, fun y hy => ?_⟩
    have h3 := congrArg (Option.map V.str) hx
    rw [← List.getElem?_map] at h3
    obtain rfl := Option.some.inj (hy.symm.trans h3)
    simp -dsimp
    exact ⟨by omega, ⟨by omega, by omega⟩, by omega, by decide⟩
  by_cases h2 : v2 = 2 ∧ k < t.size
  · have e2 : IntKind.i64.wrap (k + 1) = k + 1 := w64 (by omega) (by omega)
    refine ⟨t.extract 0 k.toNat ++ t.extract (k + 1).toNat t.size, s2, o2, by simp only [ByteArray.size_append, ByteArray.size_extract]; omega, ?_⟩
    refine sg_of (m := fun f => f == 36) mixed Tryz.func37 k37 ?_
    simp -dsimp [q, e1, e2]
    refine callM_of rfl (w1) (by simp) ?_
    try simp -dsimp
    try (first | exact fp_one (by decide) | refine fp_and (by decide) ?_)
    refine callM_of rfl (w2) (by simp) ?_
    try simp -dsimp
    try (first | exact fp_one (by decide) | refine fp_and (by decide) ?_)
    refine ⟨fun h => absurd h h0, fun _ => ⟨fun h => absurd h h1, fun _ => ?_⟩⟩
    rw [e2]
    refine ⟨fun _ => ⟨fun _ => ⟨⟨by omega, by omega⟩, ⟨by omega, by omega⟩, by omega, rfl⟩, fun h => by omega⟩, fun h => absurd h2.1 h⟩
  · refine ⟨t, s2, o2, by omega, ?_⟩
    refine sg_of (m := fun f => f == 36) mixed Tryz.func37 k37 ?_
    simp -dsimp [q, e1]
    refine callM_of rfl (w1) (by simp) ?_
    try simp -dsimp
    try (first | exact fp_one (by decide) | refine fp_and (by decide) ?_)
    refine callM_of rfl (w2) (by simp) ?_
    try simp -dsimp
    try (first | exact fp_one (by decide) | refine fp_and (by decide) ?_)
    refine ⟨fun h => absurd h h0, fun _ => ⟨fun h => absurd h h1, fun _ => ?_⟩⟩
    exact fun ha hb => absurd ⟨ha, hb⟩ h2
theorem s_drawJ (code : List Int) (hc : okC code) : ∃ (v : ByteArray) (n : Int) (l : List K3), l.length ≤ 101 ∧ Sp Tryz.prog 16 [.v (cdV code)] (.tu [.v (.str v), vi n, .sli 0]) [.row 3 54 (ks l)] := by
  obtain ⟨s, o, w⟩ := s_from code hc
  obtain ⟨v, n, l, s1, o1, hl, w1⟩ := s_27D code hc s o
  refine ⟨v, n, l, hl, ?_⟩
  refine sp_of (m := fun f => f == 35 || f == 34) mixed Tryz.func16 k16 ?_
  simp -dsimp [q]
  refine callM_of rfl (w) (by simp) ?_
  try simp -dsimp
  try (first | exact fp_one (by decide) | refine fp_and (by decide) ?_)
  refine callM_of rfl (w1) (by simp) ?_
  try simp -dsimp
  try (first | exact fp_one (by decide) | refine fp_and (by decide) ?_)
theorem s_drawR (code : List Int) (hc : okC code) : ∃ (v : ByteArray) (n : Int) (t : ByteArray), t.size ≤ 1000001 ∧ Sp Tryz.prog 17 [.v (cdV code)] (.tu [.v (.str v), vi n, aT t]) [] := by
  obtain ⟨s, o, w⟩ := s_from code hc
  obtain ⟨v, n, l, s1, o1, hl, w1⟩ := s_27D code hc s o
  obtain ⟨T, k, hT, wj, _⟩ := jn_both v n l (by omega)
  have w2 := s_nx hc o1 (n := 3) (by decide)
  have o2 := nx_ok hc o1 (n := 3) (by decide)
  generalize nx code s1 3 = x2 at *
  obtain ⟨v2, s2⟩ := x2
  simp only at w2 o2
  by_cases h0 : v2 = 0
  · obtain ⟨u, s3, o3, hu, w3⟩ := s_damage code hc s2 o2 T (by omega)
    refine ⟨v, n, u, by omega, ?_⟩
    refine sp_of (m := fun f => f == 35 || f == 34 || f == 36 || f == 37) mixed Tryz.func17 k17 ?_
    simp -dsimp [q]
    refine callM_of rfl (w) (by simp) ?_
    try simp -dsimp
    try (first | exact fp_one (by decide) | refine fp_and (by decide) ?_)
    refine callM_of rfl (w1) (by simp) ?_
    try simp -dsimp
    try (first | exact fp_one (by decide) | refine fp_and (by decide) ?_)
    refine call_of (wj) rfl (by simp) ?_
    try simp -dsimp
    try (first | exact fp_one (by decide) | refine fp_and (by decide) ?_)
    refine callM_of rfl (w2) (by simp) ?_
    try simp -dsimp
    try (first | exact fp_one (by decide) | refine fp_and (by decide) ?_)
    refine ⟨fun _ => ?_, fun h => absurd h0 h⟩
    refine callM_of rfl (w3) (by simp) ?_
    try simp -dsimp
    try (first | exact fp_one (by decide) | refine fp_and (by decide) ?_)
  have w3 := s_nx hc o2 (n := 50) (by decide)
  have o3 := nx_ok hc o2 (n := 50) (by decide)
  generalize nx code s2 50 = x3 at *
  obtain ⟨v3, s3⟩ := x3
  simp only at w3 o3
  by_cases h1 : v3 = 0
  · have w4 := s_nx hc o3 (n := 2) (by decide)
    have l4 := nx_lt hc o3 (n := 2) (by decide)
    generalize nx code s3 2 = x4 at *
    obtain ⟨v4, s4⟩ := x4
    simp only at w4 l4
    have e1 : IntKind.i64.wrap (4000 + v4) = 4000 + v4 := w64 (by omega) (by omega)
    refine ⟨v, n, bst (List.replicate (4000 + v4).toNat 0), by simp; omega, ?_⟩
    refine sp_of (m := fun f => f == 35 || f == 34 || f == 36 || f == 37) mixed Tryz.func17 k17 ?_
    simp -dsimp [q]
    refine callM_of rfl (w) (by simp) ?_
    try simp -dsimp
    try (first | exact fp_one (by decide) | refine fp_and (by decide) ?_)
    refine callM_of rfl (w1) (by simp) ?_
    try simp -dsimp
    try (first | exact fp_one (by decide) | refine fp_and (by decide) ?_)
    refine call_of (wj) rfl (by simp) ?_
    try simp -dsimp
    try (first | exact fp_one (by decide) | refine fp_and (by decide) ?_)
    refine callM_of rfl (w2) (by simp) ?_
    try simp -dsimp
    try (first | exact fp_one (by decide) | refine fp_and (by decide) ?_)
    refine ⟨fun h => absurd h h0, fun _ => ?_⟩
    refine callM_of rfl (w3) (by simp) ?_
    try simp -dsimp
    try (first | exact fp_one (by decide) | refine fp_and (by decide) ?_)
    refine ⟨fun _ => ?_, fun h => absurd h1 h⟩
    refine callM_of rfl (w4) (by simp) ?_
    try simp -dsimp
    try (first | exact fp_one (by decide) | refine fp_and (by decide) ?_)
    rw [e1]
    refine ⟨⟨by omega, by omega⟩, ?_⟩
    rw [show List.replicate (4000 + v4).toNat (V.int IntKind.u8 0) = bsR (List.replicate (4000 + v4).toNat 0) by simp [bsR], unBs_bsR]
    simp -dsimp
    exact ⟨by decide, by simp [bst]⟩
  · refine ⟨v, n, T, by omega, ?_⟩
    refine sp_of (m := fun f => f == 35 || f == 34 || f == 36 || f == 37) mixed Tryz.func17 k17 ?_
    simp -dsimp [q]
    refine callM_of rfl (w) (by simp) ?_
    try simp -dsimp
    try (first | exact fp_one (by decide) | refine fp_and (by decide) ?_)
    refine callM_of rfl (w1) (by simp) ?_
    try simp -dsimp
    try (first | exact fp_one (by decide) | refine fp_and (by decide) ?_)
    refine call_of (wj) rfl (by simp) ?_
    try simp -dsimp
    try (first | exact fp_one (by decide) | refine fp_and (by decide) ?_)
    refine callM_of rfl (w2) (by simp) ?_
    try simp -dsimp
    try (first | exact fp_one (by decide) | refine fp_and (by decide) ?_)
    refine ⟨fun h => absurd h h0, fun _ => ?_⟩
    refine callM_of rfl (w3) (by simp) ?_
    try simp -dsimp
    try (first | exact fp_one (by decide) | refine fp_and (by decide) ?_)
    exact fun h => absurd h h1
end Go.Proofs.YtcnhcilpaplpcaaGreatDoorEv
namespace Go.Proofs.YtcnhcilpaplpcaaGreatDoorEv
open Go Go.Proofs
set_option maxRecDepth 10000
set_option maxHeartbeats 2000000
def jnF : Nat → List K3 → List UInt8
  | _, [] => []
  | i, k :: l => lnx k i ++ 10 :: jnF (i + 1) l
theorem jnF_snoc (x : K3) : ∀ (i : Nat) (l : List K3), jnF i (l ++ [x]) = jnF i l ++ (lnx x (i + l.length) ++ [10])
  | i, [] => by simp [jnF]
  | i, k :: l => by
    simp only [List.cons_append, jnF]
    rw [jnF_snoc x (i + 1) l, show i + (k :: l).length = i + 1 + l.length by simp; omega]
    simp
theorem jn_take (l : List K3) : ∀ n, n ≤ l.length → jn l n = jnF 0 (l.take n)
  | 0, _ => by simp [jn, jnF]
  | n + 1, h => by
    have hk : l[n]? = some (l[n]'(by omega)) := List.getElem?_eq_getElem (by omega)
    rw [jn_succ hk, jn_take l n (by omega), List.take_add_one, hk]
    simp only [Option.toList_some]
    rw [jnF_snoc, List.length_take, Nat.min_eq_left (by omega), Nat.zero_add]
theorem jn_all (l : List K3) : jn l l.length = jnF 0 l := by
  rw [jn_take l l.length (Nat.le_refl _), List.take_length]
def nls (t : List UInt8) : Nat := t.countP (fun b => decide (b = 10))
theorem nls_none {t : List UInt8} (h : (10 : UInt8) ∉ t) : nls t = 0 := by
  unfold nls
  rw [List.countP_eq_zero]
  intro b hb
  simp only [decide_eq_true_eq]
  rintro rfl
  exact h hb
theorem nls_app (a b : List UInt8) : nls (a ++ b) = nls a + nls b := by simp [nls]
theorem nls_cons (b : List UInt8) : nls (10 :: b) = nls b + 1 := by simp [nls]
theorem lnx_free {k : K3} (h : smK k) (i : Nat) : (10 : UInt8) ∉ lnx k i := by
  rw [← lnG_sm h]
  exact lnG_free k i
theorem rec_cut {n : Int} (hn : 1 ≤ n ∧ n ≤ 4) : ∀ (l : List K3) (i cut : Nat), (∀ k ∈ l, okK (2 * n) (2 * n) k = true) → i + l.length ≤ 100 → recL (2 * n) (2 * n) i (spl 10 ((jnF i l).take cut)) = l.take (nls ((jnF i l).take cut))
  | [], i, cut, _, _ => by simp [jnF, spl, recL, nls]
  | k :: l, i, cut, h, hi => by
    have hk := h k (by simp)
    have hs := smK_of hn hk
    have hf := lnx_free hs i
    unfold jnF
    by_cases hc : cut ≤ (lnx k i).length
    · rw [List.take_append_of_le_length hc]
      have hf2 : (10 : UInt8) ∉ (lnx k i).take cut := fun hm => hf (List.mem_of_mem_take hm)
      rw [spl_none 10 hf2, recL_one, nls_none hf2, List.take_zero]
    · have e : (lnx k i ++ 10 :: jnF (i + 1) l).take cut = lnx k i ++ 10 :: (jnF (i + 1) l).take (cut - (lnx k i).length - 1) := by
        rw [List.take_append, List.take_of_length_le (by omega)]
        obtain ⟨m, hm⟩ : ∃ m, cut - (lnx k i).length = m + 1 := ⟨cut - (lnx k i).length - 1, by omega⟩
        rw [hm, List.take_succ_cons]
        simp
      rw [e, spl_hit 10 _ hf]
      have ih := rec_cut hn l (i + 1) (cut - (lnx k i).length - 1) (fun x hx => h x (List.mem_cons_of_mem _ hx)) (by simp at hi; omega)
      have hacc : accK (2 * n) (2 * n) i (lnx k i) = some k := (accK_iff _ _ _ _ _).2 ⟨okV_sm hs, hk, lnG_sm hs i⟩
      rw [recL_yes (by simp at hi; omega) hacc (spl_pos _ _), ih, nls_app, nls_none hf, nls_cons, Nat.zero_add, List.take_succ_cons]
theorem dec_sm {u : Nat} (h : u < 1000) : (Lib.decDigits u).length ≤ 3 := dec_len10 2 u (by simpa using h)
theorem lnx_len2 {k : K3} (h : smK k) (i : Nat) : (lnx k i).length ≤ 15 := by
  obtain ⟨h1, h2, h3⟩ := h
  have a1 := dec_sm (u := k.1.1.toNat) (by omega)
  have a2 := dec_sm (u := k.1.2.toNat) (by omega)
  have a3 := dec_sm (u := k.2.toNat) (by omega)
  have a4 := dec_sm (u := ckn k i) (by have := ckn_lt k i; omega)
  unfold lnx vtx
  rw [itoa_nn h1.1, itoa_nn h2.1]
  simp only [List.length_append, List.length_singleton]
  omega
theorem jnF_len : ∀ (l : List K3) (i : Nat), (∀ k ∈ l, smK k) → (jnF i l).length ≤ 16 * l.length
  | [], _, _ => by simp [jnF]
  | k :: l, i, h => by
    have := lnx_len2 (h k (by simp)) i
    have := jnF_len l (i + 1) (fun x hx => h x (List.mem_cons_of_mem _ hx))
    simp only [jnF, List.length_append, List.length_cons]
    omega
theorem nls_all : ∀ (l : List K3) (i : Nat), (∀ k ∈ l, smK k) → nls (jnF i l) = l.length
  | [], _, _ => rfl
  | k :: l, i, h => by
    rw [jnF, nls_app, nls_none (lnx_free (h k (by simp)) i), nls_cons, nls_all l (i + 1) (fun x hx => h x (List.mem_cons_of_mem _ hx))]
    simp
    try omega
theorem s_like (xs ys : List K3) (hx : xs.length ≤ 1048576) : Sp Tryz.prog 18 [.v (vks xs), .v (vks ys)] (vb (decide (xs = ys))) [] := by
  refine sp_of (m := no) mixed Tryz.func18 k18 ?_
  simp -dsimp [q]
  refine ⟨fun h e => h (by rw [e]), fun hl => ?_⟩
  refine awp_it (true :: true :: false :: false :: false :: true :: []) (fun i : Nat => [(5, vi i)]) (fun i => []) (fun i => i ≤ xs.length ∧ xs.take i = ys.take i) (fun i => xs.length - i) 0 ?_
  intro s0 e
  simp -dsimp at e
  subst e
  refine ⟨?_, ?_⟩
  · simp
  intro i hi
  simp -dsimp [-Prod.forall, -Prod.exists]
  obtain ⟨hi, ht⟩ := hi
  refine ⟨fun h1 => ⟨h1, fun k hk => ⟨by omega, fun k' hk' => ⟨fun hne e => ?_, fun e1 e2 e3 => ⟨i + 1, by rw [w64 (by omega) (by omega)]; simp, ⟨by omega, ?_⟩, by omega⟩⟩⟩⟩, fun h1 => ?_⟩
  · rw [e] at hk
    rw [hk] at hk'
    cases hk'
    exact hne rfl rfl rfl
  · obtain rfl : k = k' := Prod.ext (Prod.ext e1 e2) e3
    rw [List.take_add_one, List.take_add_one, ht, hk, hk']
  · have h2 : i = xs.length := by omega
    subst h2
    rw [List.take_length, List.take_of_length_le (by omega)] at ht
    try exact ht
end Go.Proofs.YtcnhcilpaplpcaaGreatDoorEv
namespace Go.Proofs.YtcnhcilpaplpcaaGreatDoorEv
open Go Go.Proofs
set_option maxRecDepth 10000
set_option maxHeartbeats 2000000
theorem s_big (l : List Int) : Sp Tryz.prog 15 [.v (cdV l)] (vb (decide ((4096 : Int) < l.length))) [] := by
  refine sp_of (m := no) mixed Tryz.func15 k15 ?_
  simp -dsimp [q]
theorem jn_full (s : ByteArray) (n : Int) (l : List K3) (hl : l.length ≤ 1048576) : ∃ (T : ByteArray) (k : Int), T.size ≤ 1000000 ∧ Sp Tryz.prog 7 [.v (.str s), vi n, .v (vks l)] (.tu [aT T, vi k]) [] ∧ Sp Tryz.prog 9 [.v (.str s), vi n, .v (vks l)] (.tu [aT T, vi k]) [] ∧ (k ≠ 0 ∨ (k = 0 ∧ (1 ≤ n ∧ n ≤ 4) ∧ l.length ≤ 100 ∧ (∀ x ∈ l, okK (2 * n) (2 * n) x = true) ∧ T = bst (jnF 0 l) ∧ ∀ t : List UInt8, t.length ≤ 4000 → Sp Tryz.prog 12 [.v (.str s), vi n, aT (bst t)] (.tu [.sli 0, vi 0]) [.row 3 54 (ks (recL (2 * n) (2 * n) 0 (spl 10 t)))])) := by
  cases h : stdOf s n with
  | none => exact ⟨⟨#[]⟩, 4, by decide, s_sjn_no s n l 4 (by decide) (s_sSG_no s n h), s_jn_no s n l 4 (by decide) (s_canvas_no s n l 4 (by decide) (s_SG_no s n h)), .inl (by decide)⟩
  | some p =>
    obtain ⟨f, L⟩ := p
    by_cases hn : 1 ≤ n ∧ n ≤ 4
    case neg => exact ⟨⟨#[]⟩, 2, by decide, s_sjn_no s n l 2 (by decide) (s_sSG_far s n f L h hn), s_jn_no s n l 2 (by decide) (s_canvas_no s n l 2 (by decide) (s_SG_far s n f L h hn)), .inl (by decide)⟩
    obtain ⟨S, c⟩ := std_clo h hn
    have w := s_SG s n f L S h hn c
    have ws := s_sSG s n f L S h hn c
    cases hk : okKs (2 * n) (2 * n) l with
    | true =>
      obtain ⟨h1, h2⟩ := okKs_spec hk
      refine ⟨bst (jn l l.length), 0, ?_, s_sjn s n f l _ hn hk ws, s_jn s n f l _ hn hk (s_canvas s n f l _ hn hl w hk), .inr ⟨rfl, hn, h1, h2, by rw [jn_all], fun t ht => s_rec s n f _ t hn ht w⟩⟩
      have := jn_len (fun k hm => smK_of hn (h2 k hm)) l.length
      rw [bst_size]
      omega
    | false => exact ⟨⟨#[]⟩, 2, by decide, s_sjn_far s n f l _ hn hl hk ws, s_jn_no s n l 2 (by decide) (s_canvas_far s n f l _ hn hl w hk), .inl (by decide)⟩
theorem u8_wf {y : Int} (h : (Lit.int .u8 y).wf = true) : 0 ≤ y ∧ y < 256 := by
  have h2 : (Lit.int .u8 y).wf = (decide (0 ≤ y) && decide (y ≤ 255)) := rfl
  rw [h2, Bool.and_eq_true, decide_eq_true_eq, decide_eq_true_eq] at h
  omega
theorem ks_take (l : List K3) (n : Nat) : (ks l).take n = ks (l.take n) := by simp [ks, List.map_take]
theorem nls_succ {J : List UInt8} {i : Nat} {b : UInt8} (h : J[i]? = some b) : nls (J.take (i + 1)) = nls (J.take i) + if b.toNat = 10 then 1 else 0 := by
  rw [List.take_add_one, h, nls_app]
  simp only [Option.toList_some, nls, List.countP_cons, List.countP_nil, decide_eq_true_eq]
  have : b = 10 ↔ b.toNat = 10 := ⟨fun e => by rw [e]; rfl, fun e => UInt8.toNat_inj.1 (by rw [e]; rfl)⟩
  simp only [this, Nat.zero_add]
theorem law_FnJournals (a0 : List (Int)) (wf0 : (a0.length ≤ maxLen ∧ ∀ y ∈ a0, (Lit.int .u8 y).wf = true)) : Sp Tryz.prog 5 [.v (.sl 0 (a0.map fun y => .int .u8 y))] (.v (.bool true)) [] := by
  have hw := wf0.2
  clear wf0
  generalize a0 = code at *
  show Sp Tryz.prog 5 [.v (cdV code)] (vb true) []
  have wb := s_big code
  by_cases hb : (4096 : Int) < code.length
  · rw [decide_eq_true hb] at wb
    refine sp_of (m := no) mixed Tryz.func5 k5 ?_
    simp -dsimp [q]
    refine call_of (wb) rfl (by simp) ?_
    try simp -dsimp
    try (first | exact fp_one (by decide) | refine fp_and (by decide) ?_)
  rw [decide_eq_false hb] at wb
  have hc : okC code := ⟨by omega, fun y hy => u8_wf (hw y hy)⟩
  obtain ⟨v, n, l, hl, w1⟩ := s_drawJ code hc
  obtain ⟨v', n', t, ht, w2⟩ := s_drawR code hc
  obtain ⟨T, k, hT, wj1, wj2, hk⟩ := jn_full v n l (by omega)
  obtain ⟨t, rfl⟩ : ∃ u, t = bst u := ⟨t.data.toList, by simp [bst]⟩
  rw [bst_size] at ht
  obtain ⟨l', r, h, k', hl', hr, ws, wi⟩ := rec_both v' n' t (by omega)
  have w1' := s_like l' l' (by omega)
  rcases hk with hk | ⟨rfl, hn, hl1, hk, rfl, wr⟩
  · rcases hr with ⟨rfl, rfl, hk', rfl⟩ | ⟨rfl, rfl, rfl⟩
    · refine sp_of (m := fun f => f == 19 || f == 20) mixed Tryz.func5 k5 ?_
      simp -dsimp [q]
      repeat ((first | refine call_of (wb) rfl (by simp) ?_ | refine call_of (w1) rfl (by simp) ?_ | refine call_of (w2) rfl (by simp) ?_ | refine call_of (wj1) rfl (by simp) ?_ | refine call_of (wj2) rfl (by simp) ?_ | refine call_of (ws) rfl (by simp) ?_ | refine call_of (wi) rfl (by simp) ?_ | refine call_of (s_like [] [] (by simp)) rfl (by simp) ?_ | exact fp_one (by decide) | refine fp_and (by decide) ?_ | refine br_l (by omega) (by omega) ?_ | refine br_r (by omega) (by omega) ?_ | refine br_p (by omega) (by omega) ?_ | refine br_q (by omega) (by omega) ?_); try simp -dsimp)
      all_goals (try simp -dsimp [hk])
    · refine sp_of (m := fun f => f == 19 || f == 20) mixed Tryz.func5 k5 ?_
      simp -dsimp [q]
      repeat ((first | refine call_of (wb) rfl (by simp) ?_ | refine call_of (w1) rfl (by simp) ?_ | refine call_of (w2) rfl (by simp) ?_ | refine call_of (wj1) rfl (by simp) ?_ | refine call_of (wj2) rfl (by simp) ?_ | refine call_of (ws) rfl (by simp) ?_ | refine call_of (wi) rfl (by simp) ?_ | refine call_of (w1') rfl (by simp) ?_ | exact fp_one (by decide) | refine fp_and (by decide) ?_ | refine br_l (by omega) (by omega) ?_ | refine br_r (by omega) (by omega) ?_ | refine br_p (by omega) (by omega) ?_ | refine br_q (by omega) (by omega) ?_); try simp -dsimp)
      all_goals (try simp -dsimp [hk])
  have hs : ∀ x ∈ l, smK x := fun x hx => smK_of hn (hk x hx)
  have hjl := jnF_len l 0 hs
  obtain ⟨d, hd, wd⟩ := s_roll code hc 2701
  obtain ⟨cut, d2, _, hcut, wbl⟩ := s_below code hc d hd ((jnF 0 l).length + 1) (by omega)
  have wall := wr (jnF 0 l) (by omega)
  have e1 := rec_cut hn l 0 (jnF 0 l).length hk (by omega)
  rw [List.take_length, nls_all l 0 hs, List.take_length] at e1
  rw [e1] at wall
  have wsome := wr ((jnF 0 l).take cut.toNat) (by rw [List.length_take]; omega)
  rw [rec_cut hn l 0 cut.toNat hk (by omega)] at wsome
  have wla := s_like l l (by omega)
  have wls := s_like (l.take (nls ((jnF 0 l).take cut.toNat))) (l.take (nls ((jnF 0 l).take cut.toNat))) (by rw [List.length_take]; omega)
  have hnl : nls ((jnF 0 l).take cut.toNat) ≤ l.length := by
    have := nls_all l 0 hs
    have h2 := nls_app ((jnF 0 l).take cut.toNat) ((jnF 0 l).drop cut.toNat)
    rw [List.take_append_drop] at h2
    omega
  rw [decide_eq_true rfl] at wla wls
  have hJ : nls (jnF 0 l) = l.length := nls_all l 0 hs
  have e2 : IntKind.i64.wrap (((jnF 0 l).length : Int) + 1) = ((jnF 0 l).length : Int) + 1 := w64 (by omega) (by omega)
  clear e1 hs wr
  generalize jnF 0 l = J at *
  rcases hr with ⟨rfl, rfl, hk', rfl⟩ | ⟨rfl, rfl, rfl⟩
  · refine sp_of (m := fun f => f == 19 || f == 20) mixed Tryz.func5 k5 ?_
    simp -dsimp [q]
    repeat ((first | refine call_of (wb) rfl (by simp) ?_ | refine call_of (w1) rfl (by simp) ?_ | refine call_of (w2) rfl (by simp) ?_ | refine call_of (wj1) rfl (by simp) ?_ | refine call_of (wj2) rfl (by simp) ?_ | refine call_of (ws) rfl (by simp) ?_ | refine call_of (wi) rfl (by simp) ?_ | refine call_of (s_like [] [] (by simp)) rfl (by simp) ?_ | refine callM_of rfl (wd) (by simp) ?_ | exact fp_one (by decide) | refine fp_and (by decide) ?_ | refine br_l (by omega) (by omega) ?_ | refine br_r (by omega) (by omega) ?_ | refine br_p (by omega) (by omega) ?_ | refine br_q (by omega) (by omega) ?_); try simp -dsimp)
    rw [e2]
    refine callM_of rfl (wbl) (by simp) ?_
    try simp -dsimp
    try (first | exact fp_one (by decide) | refine fp_and (by decide) ?_)
    refine awp_it (false :: false :: false :: true :: true :: true :: true :: false :: false :: false :: false :: false :: false :: false :: false :: false :: false :: true :: true :: true :: []) (fun i : Nat => [(18, vi (nls (J.take i))), (19, vi i)]) (fun i => []) (fun i => i ≤ cut) (fun i => cut.toNat - i) 0 ?_
    intro s0 e
    simp -dsimp at e
    subst e
    refine ⟨?_, ?_⟩
    · simp [nls]
      omega
    intro i hi
    simp -dsimp
    refine ⟨fun h1 => ⟨by omega, fun b hb => ?_⟩, fun h1 => ?_⟩
    · have hb' : J[i]? = some b := by simpa [bst] using hb
      have hsucc := nls_succ hb'
      have hle : nls (J.take i) ≤ 1600 := Nat.le_trans List.countP_le_length (by rw [List.length_take]; omega)
      refine ⟨fun h2 => ⟨i + 1, ⟨?_, by rw [w64 (by omega) (by omega)]; simp⟩, by omega, by omega⟩, fun h2 => ⟨i + 1, ⟨?_, by rw [w64 (by omega) (by omega)]; simp⟩, by omega, by omega⟩⟩
      · rw [hsucc, if_pos (by omega), w64 (by omega) (by omega)]
        simp
      · rw [hsucc, if_neg (by omega)]
        simp
    · obtain rfl : i = cut.toNat := by omega
      refine call_of (wall) rfl (by simp) ?_
      try simp -dsimp
      try (first | exact fp_one (by decide) | refine fp_and (by decide) ?_)
      refine ⟨⟨by omega, by omega⟩, ?_⟩
      rw [bst_ext, List.drop_zero]
      refine call_of (wsome) rfl (by simp) ?_
      try simp -dsimp
      try (first | exact fp_one (by decide) | refine fp_and (by decide) ?_)
      refine call_of (wla) rfl (by simp) ?_
      try simp -dsimp
      try (first | exact fp_one (by decide) | refine fp_and (by decide) ?_)
      refine ⟨hnl, call_of (rd := [2, 0]) wls (by simp [toArgs, toArg, toArg1, hnl, ks_take]) (by simp) ?_⟩
      simp -dsimp
  · refine sp_of (m := fun f => f == 19 || f == 20) mixed Tryz.func5 k5 ?_
    simp -dsimp [q]
    repeat ((first | refine call_of (wb) rfl (by simp) ?_ | refine call_of (w1) rfl (by simp) ?_ | refine call_of (w2) rfl (by simp) ?_ | refine call_of (wj1) rfl (by simp) ?_ | refine call_of (wj2) rfl (by simp) ?_ | refine call_of (ws) rfl (by simp) ?_ | refine call_of (wi) rfl (by simp) ?_ | refine call_of (w1') rfl (by simp) ?_ | refine callM_of rfl (wd) (by simp) ?_ | exact fp_one (by decide) | refine fp_and (by decide) ?_ | refine br_l (by omega) (by omega) ?_ | refine br_r (by omega) (by omega) ?_ | refine br_p (by omega) (by omega) ?_ | refine br_q (by omega) (by omega) ?_); try simp -dsimp)
    rw [e2]
    refine callM_of rfl (wbl) (by simp) ?_
    try simp -dsimp
    try (first | exact fp_one (by decide) | refine fp_and (by decide) ?_)
    refine awp_it (false :: false :: false :: true :: true :: true :: true :: false :: false :: false :: false :: false :: false :: false :: false :: false :: false :: true :: true :: true :: []) (fun i : Nat => [(18, vi (nls (J.take i))), (19, vi i)]) (fun i => []) (fun i => i ≤ cut) (fun i => cut.toNat - i) 0 ?_
    intro s0 e
    simp -dsimp at e
    subst e
    refine ⟨?_, ?_⟩
    · simp [nls]
      omega
    intro i hi
    simp -dsimp
    refine ⟨fun h1 => ⟨by omega, fun b hb => ?_⟩, fun h1 => ?_⟩
    · have hb' : J[i]? = some b := by simpa [bst] using hb
      have hsucc := nls_succ hb'
      have hle : nls (J.take i) ≤ 1600 := Nat.le_trans List.countP_le_length (by rw [List.length_take]; omega)
      refine ⟨fun h2 => ⟨i + 1, ⟨?_, by rw [w64 (by omega) (by omega)]; simp⟩, by omega, by omega⟩, fun h2 => ⟨i + 1, ⟨?_, by rw [w64 (by omega) (by omega)]; simp⟩, by omega, by omega⟩⟩
      · rw [hsucc, if_pos (by omega), w64 (by omega) (by omega)]
        simp
      · rw [hsucc, if_neg (by omega)]
        simp
    · obtain rfl : i = cut.toNat := by omega
      refine call_of (wall) rfl (by simp) ?_
      try simp -dsimp
      try (first | exact fp_one (by decide) | refine fp_and (by decide) ?_)
      refine ⟨⟨by omega, by omega⟩, ?_⟩
      rw [bst_ext, List.drop_zero]
      refine call_of (wsome) rfl (by simp) ?_
      try simp -dsimp
      try (first | exact fp_one (by decide) | refine fp_and (by decide) ?_)
      refine call_of (wla) rfl (by simp) ?_
      try simp -dsimp
      try (first | exact fp_one (by decide) | refine fp_and (by decide) ?_)
      refine ⟨hnl, call_of (rd := [2, 0]) wls (by simp [toArgs, toArg, toArg1, hnl, ks_take]) (by simp) ?_⟩
      simp -dsimp
end Go.Proofs.YtcnhcilpaplpcaaGreatDoorEv
namespace Go.Proofs.YtcnhcilpaplpcaaGreatDoorEv
open Go Go.ChangeShapes Go.WideShapes Go.RowKit
theorem returnsInHanded_both {H : Type} {enc : TypeId × Value → H} {a : Assume} {C : Checked} {os : Os} {f : FuncId} {fn : Func} {s : ChangeSpec} {conds : List PathCond} {apart fresh handsOn again : Bool} {X : World → Array Value → Prop}
    (hX : ∀ (w w' : World) (args : Array Value), w.heap = w'.heap → X w args → X w' args)
    (own : ownKnob C.prog.godebug = none) (started : os.Started) (noInit : C.prog.inits.idxOf? f = none) (hfn : C.prog.funcs[f]? = some fn)
    (witness : ∃ (w : World) (tape : Tape) (i : Input), w.os = os ∧ (w.forCall tape i).Shaped C.prog ∧ i.vars = [] ∧ Input.okWide C.prog (w.forCall tape i) .any w.heap.size f i ∧
      ((s.pre enc C.prog fn conds apart (w.forCall tape i).memory i.args ∧ X (w.forCall tape i).memory i.args) ∧ sizedMet enc C.prog fn (OpenSpec.ofChange s) apart (w.forCall tape i).memory i.args) ∧ a.holds C.prog (lone (Frame.enter C.prog f i.args .normal) [] (w.forCall tape i)))
    (contract : ∀ (W : World) (base : Nat) (args : Array Value) (ds gs : List (DataW H)) (before : List MemPlace),
      (∀ (j : Nat) t v, fn.params[j]? = some t → args[j]? = some v → Value.okWide C.prog W .any base t v) →
      DataW.Whole enc C.prog fn.params.toList s.vars apart W args.toList ds gs before →
      conds.all (PathCond.test C.prog ⟨fn.params.toList, ds, s.plain.varTypes C.prog, gs⟩) = true →
      (DataW.weightsEach C.prog (fn.params.toList ++ s.plain.varTypes C.prog) (ds ++ gs)).all (· ≤ reachBytes) = true → X W args → W.ShapedOpen C.prog →
      a.holds C.prog (lone (Frame.enter C.prog f args .normal) [] W) →
      Calls C.prog f args W fun e W' => ∃ v, e = .returned v ∧ s.post enc C.prog fn apart fresh handsOn again W args v W') :
    ReturnsInHanded a C os f .any (fun w args => (s.pre enc C.prog fn conds apart w args ∧ X w args) ∧ sizedMet enc C.prog fn (OpenSpec.ofChange s) apart w args) (s.post enc C.prog fn apart fresh handsOn again) := by
  refine returnsInHanded_of_calls own started noInit witness ?_
  intro w tape i _ hsh _ hok hpre hholds
  obtain ⟨_, _, _, fn', hfn', _, _, _, _, hval⟩ := hok
  have e : fn' = fn := Option.some.inj (hfn'.symm.trans hfn)
  subst e
  obtain ⟨⟨⟨ds, gs, before, hw, hc⟩, hx⟩, hz⟩ := hpre
  have hw' := DataW.Whole.of_heap (w' := w.forCall tape i) (by rfl) hw
  refine (contract (w.forCall tape i) w.heap.size i.args ds gs before hval hw' hc (hz.weights hw) (hX _ _ _ (by rfl) hx) hsh hholds).mono fun e W' ⟨v, he, hp⟩ => ?_
  subst he
  exact ChangeSpec.post_blind hp
theorem tb_var {P : Program} {W : World} {n : String} {g : Nat} {cs : Array Value} (hg : P.globalNamed n = some g) (h : W.var? P n = some cs) : below W g ∧ ¬ False ∧ ∃ cs' t z, W.heap[g]? = some (.cells cs' t z) ∧ cs' = cs := by
  unfold World.var? at h
  rw [hg] at h
  simp only [Option.bind_some] at h
  split at h
  · rename_i cs' t z hh
    exact ⟨(Array.getElem?_eq_some_iff.1 hh).1, fun h => h, cs', t, z, hh, Option.some.inj h⟩
  · cases h
theorem tb_int {W : World} {g : Nat} {k : IntKind} (h : ∃ m, W.cell? ⟨g, 0, none⟩ = some (.int k m)) : below W g ∧ ¬ False ∧ ∃ cs t z, W.heap[g]? = some (.cells cs t z) ∧ ∃ m, cs[0]? = some (.int k m) := by
  obtain ⟨m, h⟩ := h
  obtain ⟨cs, t, z, hh, h0⟩ := cell_rows h
  exact ⟨(Array.getElem?_eq_some_iff.1 hh).1, fun h => h, cs, t, z, hh, m, h0⟩
theorem tb_err {P : Program} {W : World} {n : String} {g : Nat} {tp : TypeId} {p : Value} (hg : P.globalNamed n = some g) (h : W.var? P n = some #[.iface tp p]) : below W g ∧ ¬ False ∧ ∃ cs t z, W.heap[g]? = some (.cells cs t z) ∧ ∃ t p, cs[0]? = some (.iface t p) := by
  obtain ⟨h1, h2, cs, t, z, hh, rfl⟩ := tb_var hg h
  exact ⟨h1, h2, _, t, z, hh, tp, p, rfl⟩
end Go.Proofs.YtcnhcilpaplpcaaGreatDoorEv
