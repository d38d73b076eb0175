/- What the code computes, and what it means: part 2 of the proof of FnExactPrintShifted. No condition of its own. -/
import Derived.Test.YtihkjljafjhniaaProg
import Derived.Test.YtihkjljafjhniaaCXPrintShifted1
namespace Go.Proofs.YtihkjljafjhniaaEv
open Go

section
variable {P : Program} {m : Nat → Bool} {s : St} {a : Act} {w : World} {w0 : World} {O0 S0 : Nat → Prop} {D0 : Nat → Option Ck} {μ0 : Nat → Nat × Nat}

def Ex.go : Ex → Exit
  | .nrm => .normal
  | .exit id => .exit id
  | .ret => .ret
def Post (w0 : World) (O0 S0 : Nat → Prop) (D0 : Nat → Option Ck) (μ0 : Nat → Nat × Nat) (Q : Ex → St → Prop) : Exit → Act → World → Prop := fun e a w => ∃ x s, x.go = e ∧ Q x s ∧ Ok w0 O0 S0 D0 μ0 s a w

theorem Ok.drew (h : Ok w0 O0 S0 D0 μ0 s a w) : Ok w0 O0 S0 D0 μ0 s a w.drew := by
  obtain ⟨μ, S, R, T0, h1, h2, h3⟩ := h
  exact ⟨μ, S, R.drew, T0.trans (Tr.heapEq (w := w) (w' := w.drew) rfl), h1, fun i => AR.tr (Tr.heapEq (w := w) (w' := w.drew) rfl) _ _ (h2 i), h3⟩

/-- One operation, carried out in state s. -/
def Stp (P : Program) (ops : Array Oper) (o : Oper) (s s' : St) (rd wr : List Nat) : Prop :=
  ∃ r h', s' = St.set ⟨s.t, h'⟩ o.dst r ∧
    ((Snd P o s r rd wr h' ∧ (o.guard = none ∨ ∃ j b d, o.guard = some (j, b) ∧ (ops[j]?).bind (·.dst) = some d ∧ s.t.getD d .un = .v (.bool b))) ∨
     (r = .ud ∧ rd = [] ∧ wr = [] ∧ h' = s.h ∧ ∃ j b d, o.guard = some (j, b) ∧ (ops[j]?).bind (·.dst) = some d ∧ (s.t.getD d .un = .v (.bool !b) ∨ s.t.getD d .un = .ud)))
theorem set_self {l : List A} {d : Nat} {x : A} (h : l.getD d .un = x) (hx : x ≠ .un) : l.set d x = l := by
  apply List.ext_getElem?
  intro i
  rw [List.getElem?_set]
  split
  · rename_i hd
    subst hd
    split
    · rename_i hl
      rw [List.getD_eq_getElem?_getD, List.getElem?_eq_getElem hl] at h
      simp only [Option.getD_some] at h
      rw [List.getElem?_eq_getElem hl, h]
    · rename_i hl
      rw [List.getElem?_eq_none (by omega)]
  · rfl
theorem aops_chain {ops : Array Oper} : ∀ (l : List Oper) (os : List AO) (s : St) (f : FP) (K : St → FP → Prop), cAOs P ops l = some os → aops P m os s f K →
    ∃ (ss : Nat → St) (fp : Nat → List Nat × List Nat), ss 0 = s ∧ (∀ i o, l[i]? = some o → Stp P ops o (ss i) (ss (i + 1)) (fp i).1 (fp i).2) ∧ K (ss l.length) (f ++ (List.range l.length).map fp)
  | [], os, s, f, K, hc, h => by
    simp only [cAOs, Option.some.injEq] at hc
    subst hc
    exact ⟨fun _ => s, fun _ => ([], []), rfl, fun i o h => by simp at h, by show K s (f ++ []); rw [List.append_nil]; exact h⟩
  | o :: l, os, s, f, K, hc, h => by
    simp only [cAOs] at hc
    split at hc
    · rename_i x xs h1 h2
      cases hc
      obtain ⟨hx, hd, hg⟩ := cAO_spec h1
      have cons : ∀ s' rd wr, Stp P ops o s s' rd wr → aops P m xs s' (f ++ [(rd, wr)]) K →
          ∃ (ss : Nat → St) (fp : Nat → List Nat × List Nat), ss 0 = s ∧ (∀ i o', (o :: l)[i]? = some o' → Stp P ops o' (ss i) (ss (i + 1)) (fp i).1 (fp i).2) ∧ K (ss (o :: l).length) (f ++ (List.range (o :: l).length).map fp) := by
        intro s' rd wr hs hr
        obtain ⟨ss, fp, e1, e2, e3⟩ := aops_chain l xs s' _ K h2 hr
        refine ⟨fun i => match i with | 0 => s | i + 1 => ss i, fun i => match i with | 0 => (rd, wr) | i + 1 => fp i, rfl, fun i o' ho => ?_, ?_⟩
        · cases i with
          | zero => simp at ho; subst ho; simpa [e1] using hs
          | succ i => simp at ho; exact e2 i o' ho
        · simp only [List.length_cons, List.range_succ_eq_map, List.map_cons, List.map_map]
          rw [List.append_assoc] at e3
          simpa [Function.comp_def] using e3
      simp only [aops, aAO] at h
      rcases hg with ⟨hg1, hg2⟩ | ⟨j, b, d, hg1, hg3, hg2⟩
      · rw [hg2] at h
        obtain ⟨r, rd, wr, h', hk, hs⟩ := aop_sound hx h
        exact cons _ rd wr ⟨r, h', by rw [hd], .inl ⟨hs, .inl hg1⟩⟩ hk
      · rw [hg2] at h
        simp only at h
        split at h
        · rename_i t ht
          have ht' : s.t.getD d .un = .v (.bool t) := ht
          have hself : s.t.set d (.v (.bool t)) = s.t := set_self ht' (by simp)
          by_cases htb : t = b
          · subst htb
            have h3 := h.1 rfl
            simp only [St.setX] at h3
            rw [hself] at h3
            obtain ⟨r, rd, wr, h', hk, hs⟩ := aop_sound hx h3
            exact cons _ rd wr ⟨r, h', by rw [hd], .inl ⟨hs, .inr ⟨j, t, d, hg1, hg3, ht'⟩⟩⟩ hk
          · have htb' : t = !b := by cases t <;> cases b <;> simp_all
            have h3 := h.2 htb'
            rw [← htb', hself] at h3
            exact cons _ [] [] ⟨.ud, s.h, by rw [hd], .inr ⟨rfl, rfl, rfl, rfl, j, b, d, hg1, hg3, .inl (by rw [ht', htb'])⟩⟩ h3
        · rename_i ht
          exact cons _ [] [] ⟨.ud, s.h, by rw [hd], .inr ⟨rfl, rfl, rfl, rfl, j, b, d, hg1, hg3, .inr ht⟩⟩ h
        · exact h.elim
    · cases hc

/-! ### what a set of operations leaves -/
def tmpX (ops : Array Oper) (ss : Nat → St) (b : Nat → Bool) : Nat → Nat → A
  | 0, t => (ss 0).t.getD t .un
  | k + 1, t => if b k = true ∧ (ops[k]?).bind (·.dst) = some t then (ss (k + 1)).t.getD t .un else tmpX ops ss b k t
def ckX (ss : Nat → St) (fp : Nat → List Nat × List Nat) (b : Nat → Bool) : Nat → Nat → Option Ck
  | 0, i => (ss 0).D i
  | k + 1, i => if b k = true ∧ i ∈ (fp k).2 then (ss (k + 1)).D i else ckX ss fp b k i

theorem Stp.keep_t {ops : Array Oper} {o : Oper} {s s' : St} {rd wr : List Nat} (h : Stp P ops o s s' rd wr) {t : Nat} (ht : o.dst ≠ some t) : s'.t.getD t .un = s.t.getD t .un := by
  obtain ⟨r, h', rfl, _⟩ := h
  rw [St.set_getD]
  split
  · rename_i d hd
    rw [if_neg (fun e => ht (by rw [hd, e.1]))]
  · rfl
theorem Stp.keep_D {ops : Array Oper} {o : Oper} {s s' : St} {rd wr : List Nat} (h : Stp P ops o s s' rd wr) {i : Nat} (hi : i ∉ wr) : s'.D i = s.D i := by
  obtain ⟨r, h', rfl, h⟩ := h
  unfold St.D
  rw [St.set_h]
  rcases h with ⟨hs, _⟩ | ⟨_, _, _, rfl, _⟩
  · exact hs.2.1 i hi
  · rfl
theorem Stp.len {ops : Array Oper} {o : Oper} {s s' : St} {rd wr : List Nat} (h : Stp P ops o s s' rd wr) : s'.t.length = s.t.length := by
  obtain ⟨r, h', rfl, _⟩ := h
  rw [St.set_len]

section chain
variable {ops : Array Oper} {ss : Nat → St} {fp : Nat → List Nat × List Nat} (hst : ∀ i o, ops[i]? = some o → Stp P ops o (ss i) (ss (i + 1)) (fp i).1 (fp i).2)
include hst
/-- If those that fill t before i have come up and no other has, t holds what it holds ahead of i. -/
theorem tmpX_at {b : Nat → Bool} {t i : Nat} (hi : i ≤ ops.size) (hlt : ∀ k, k < i → (ops[k]?).bind (·.dst) = some t → b k = true) : tmpX ops ss b i t = (ss i).t.getD t .un := by
  induction i with
  | zero => rfl
  | succ i ih =>
    have ho : ops[i]? = some ops[i] := Array.getElem?_eq_getElem (by omega)
    simp only [tmpX]
    by_cases h1 : (ops[i]?).bind (·.dst) = some t
    · rw [if_pos ⟨hlt i (by omega) h1, h1⟩]
    · rw [if_neg (fun e => h1 e.2), ih (by omega) (fun k hk => hlt k (by omega))]
      refine ((hst i _ ho).keep_t (fun e => h1 ?_)).symm
      rw [ho]
      exact e
omit hst in
theorem tmpX_le {b : Nat → Bool} {t i n : Nat} (hin : i ≤ n) (hge : ∀ k, i ≤ k → k < n → (ops[k]?).bind (·.dst) = some t → b k = false) : tmpX ops ss b n t = tmpX ops ss b i t := by
  obtain ⟨m, rfl⟩ : ∃ m, n = i + m := ⟨n - i, by omega⟩
  induction m with
  | zero => rfl
  | succ m ih =>
    rw [show i + (m + 1) = (i + m) + 1 by omega]
    simp only [tmpX]
    rw [if_neg (fun e => by rw [hge (i + m) (by omega) (by omega) e.2] at e; exact absurd e.1 (by simp))]
    exact ih (by omega) (fun k h1 h2 => hge k h1 (by omega))
theorem ckX_at {b : Nat → Bool} {q i : Nat} (hi : i ≤ ops.size) (hlt : ∀ k, k < i → q ∈ (fp k).2 → b k = true) : ckX ss fp b i q = (ss i).D q := by
  induction i with
  | zero => rfl
  | succ i ih =>
    have ho : ops[i]? = some ops[i] := Array.getElem?_eq_getElem (by omega)
    simp only [ckX]
    by_cases h1 : q ∈ (fp i).2
    · rw [if_pos ⟨hlt i (by omega) h1, h1⟩]
    · rw [if_neg (fun e => h1 e.2), ih (by omega) (fun k hk => hlt k (by omega))]
      exact ((hst i _ ho).keep_D h1).symm
omit hst in
theorem ckX_le {b : Nat → Bool} {q i n : Nat} (hin : i ≤ n) (hge : ∀ k, i ≤ k → k < n → q ∈ (fp k).2 → b k = false) : ckX ss fp b n q = ckX ss fp b i q := by
  obtain ⟨m, rfl⟩ : ∃ m, n = i + m := ⟨n - i, by omega⟩
  induction m with
  | zero => rfl
  | succ m ih =>
    rw [show i + (m + 1) = (i + m) + 1 by omega]
    simp only [ckX]
    rw [if_neg (fun e => by rw [hge (i + m) (by omega) (by omega) e.2] at e; exact absurd e.1 (by simp))]
    exact ih (by omega) (fun k h1 h2 => hge k h1 (by omega))
theorem len_at {i : Nat} (hi : i ≤ ops.size) : (ss i).t.length = (ss 0).t.length := by
  induction i with
  | zero => rfl
  | succ i ih =>
    have ho : ops[i]? = some ops[i] := Array.getElem?_eq_getElem (by omega)
    rw [(hst i _ ho).len, ih (by omega)]
end chain
theorem tmpX_congr {ops : Array Oper} {ss : Nat → St} {b b' : Nat → Bool} {t n : Nat} (h : ∀ k, k < n → (ops[k]?).bind (·.dst) = some t → b k = b' k) : tmpX ops ss b n t = tmpX ops ss b' n t := by
  induction n with
  | zero => rfl
  | succ n ih =>
    simp only [tmpX]
    rw [ih (fun k hk => h k (by omega))]
    by_cases h1 : (ops[n]?).bind (·.dst) = some t
    · rw [h n (by omega) h1]
    · rw [if_neg (fun e => h1 e.2), if_neg (fun e => h1 e.2)]
theorem ckX_congr {ss : Nat → St} {fp : Nat → List Nat × List Nat} {b b' : Nat → Bool} {q n : Nat} (h : ∀ k, k < n → q ∈ (fp k).2 → b k = b' k) : ckX ss fp b n q = ckX ss fp b' n q := by
  induction n with
  | zero => rfl
  | succ n ih =>
    simp only [ckX]
    rw [ih (fun k hk => h k (by omega))]
    by_cases h1 : q ∈ (fp n).2
    · rw [h n (by omega) h1]
    · rw [if_neg (fun e => h1 e.2), if_neg (fun e => h1 e.2)]

/-- Operation k, in the order of i. -/
structure Ord (ops : Array Oper) (tb : List Nat) (fp : Nat → List Nat × List Nat) : Prop where
  lt : ∀ d o, ops[d]? = some o → ∀ e ∈ o.after, Region.binds .any e = true → e.on < d
  bit : ∀ d o j, ops[d]? = some o → j < d → (tb.getD d 0).testBit j = true → ∃ e ∈ o.after, Region.binds .any e = true ∧ (e.on = j ∨ j < e.on ∧ (tb.getD e.on 0).testBit j = true)
  tmp : ∀ d o k q, ops[d]? = some o → ops[k]? = some q → k < d → (tb.getD d 0).testBit k = true ∨ (∀ t, q.dst = some t → t ∉ looks ops o) ∧ (∀ t, o.dst = some t → t ∉ looks ops q)
  mem : ∀ d k, d < ops.size → k < d → (tb.getD d 0).testBit k = true ∨ (∀ x ∈ (fp k).2, x ∉ (fp d).1 ∧ x ∉ (fp d).2) ∧ (∀ x ∈ (fp d).2, x ∉ (fp k).1)
theorem ord_of {ops : Array Oper} {tb : List Nat} {fp : Nat → List Nat × List Nat} (h1 : regOk ops tb = true) (h2 : fpOk tb ((List.range ops.size).map fp) = true) : Ord ops tb fp := by
  have row : ∀ d o, ops[d]? = some o → _ := fun d o ho => by
    have hd : d < ops.size := (Array.getElem?_eq_some_iff.1 ho).1
    have := List.all_eq_true.1 h1 d (List.mem_range.2 hd)
    rw [ho] at this
    simp only [Bool.and_eq_true] at this
    exact this
  refine ⟨fun d o ho e he hb => ?_, fun d o j ho hj hb => ?_, fun d o k q ho hq hk => ?_, fun d k hd hk => ?_⟩
  · have := List.all_eq_true.1 (row d o ho).1.1 e (Array.mem_toList_iff.2 he)
    simpa [hb] using this
  · have := List.all_eq_true.1 (row d o ho).1.2 j (List.mem_range.2 hj)
    rw [hb] at this
    simp only [Bool.not_true, Bool.false_or, List.any_eq_true, Bool.and_eq_true, Bool.or_eq_true, beq_iff_eq, decide_eq_true_eq] at this
    obtain ⟨e, he, h3, h4⟩ := this
    exact ⟨e, Array.mem_toList_iff.1 he, h3, h4⟩
  · have := List.all_eq_true.1 (row d o ho).2 k (List.mem_range.2 hk)
    rw [hq] at this
    simp only [Bool.or_eq_true, Bool.and_eq_true] at this
    rcases this with h | ⟨h3, h4⟩
    · exact .inl h
    · refine .inr ⟨fun t ht => ?_, fun t ht => ?_⟩
      · rw [ht] at h3; simpa using h3
      · rw [ht] at h4; simpa using h4
  · have := List.all_eq_true.1 (List.all_eq_true.1 h2 d (by simpa using hd)) k (List.mem_range.2 hk)
    have hk' : k < ops.size := by omega
    simp only [List.getElem?_map, List.getElem?_range hk', List.getElem?_range hd, Option.map_some, Bool.or_eq_true, Bool.and_eq_true, List.all_eq_true, Bool.not_eq_true', List.contains_eq_mem, decide_eq_false_iff_not] at this
    rcases this with h | ⟨h3, h4⟩
    · exact .inl h
    · exact .inr ⟨h3, h4⟩

def InX (w0 : World) (O0 S0 : Nat → Prop) (D0 : Nat → Option Ck) (μ0 : Nat → Nat × Nat) (ops : Array Oper) (ss : Nat → St) (fp : Nat → List Nat × List Nat) (b : Nat → Bool) (a : Act) (w : World) : Prop :=
  ∃ μ S, Rl w0 O0 S0 (ckX ss fp b ops.size) μ S w ∧ Tr D0 μ0 S0 w0 (ckX ss fp b ops.size) μ S w ∧ a.tmps.size = (ss 0).t.length ∧ (∀ t, AR (ckX ss fp b ops.size) μ S w (tmpX ops ss b ops.size t) (a.tmps.getD t undef)) ∧ a.defers = []
def upB (b : Nat → Bool) (i : Nat) : Nat → Bool := fun j => if j = i then true else b j
theorem reg_step {ops : Array Oper} {tb : List Nat} {ss : Nat → St} {fp : Nat → List Nat × List Nat} (hst : ∀ i o, ops[i]? = some o → Stp P ops o (ss i) (ss (i + 1)) (fp i).1 (fp i).2) (hO : Ord ops tb fp)
    {Q : Exit → Act → World → Prop} {K : Act → World → Prop} {b : Nat → Bool} {i : Nat} {o : Oper} (ho : ops[i]? = some o) (hb : b i = false) (hpre : ∀ k, k < i → (tb.getD i 0).testBit k = true → b k = true)
    (hsuc : ∀ k, i < k → k < ops.size → (tb.getD k 0).testBit i = true → b k = false) (hI : InX w0 O0 S0 D0 μ0 ops ss fp b a w) (hK : ∀ a' w', InX w0 O0 S0 D0 μ0 ops ss fp (upB b i) a' w' → K a' w') : wpOp P ops Q i K a w := by
  have hin : i < ops.size := (Array.getElem?_eq_some_iff.1 ho).1
  obtain ⟨μ, S, R, T0, hsz, hA, hdf⟩ := hI
  -- who fills what i looks at
  have fills : ∀ t, t ∈ looks ops o → ∀ k, (k < i → (ops[k]?).bind (·.dst) = some t → b k = true) ∧ (i < k → k < ops.size → (ops[k]?).bind (·.dst) = some t → b k = false) := by
    intro t ht k
    refine ⟨fun hk hd => ?_, fun hk hkn hd => ?_⟩
    · obtain ⟨q, hq, hqd⟩ := Option.bind_eq_some_iff.1 hd
      rcases hO.tmp i o k q ho hq hk with h | ⟨h, _⟩
      · exact hpre k hk h
      · exact absurd ht (h t hqd)
    · obtain ⟨q, hq, hqd⟩ := Option.bind_eq_some_iff.1 hd
      rcases hO.tmp k q i o hq ho hk with h | ⟨_, h⟩
      · exact hsuc k hk hkn h
      · exact absurd ht (h t hqd)
  have tmpAt : ∀ t, t ∈ looks ops o → tmpX ops ss b ops.size t = (ss i).t.getD t .un := by
    intro t ht
    rw [tmpX_le (i := i) (by omega) (fun k h1 h2 h3 => ?_), tmpX_at hst (by omega) (fun k hk hd => (fills t ht k).1 hk hd)]
    by_cases hk : k = i
    · rw [hk]; exact hb
    · exact (fills t ht k).2 (by omega) h2 h3
  have owns : ∀ q, (q ∈ (fp i).1 ∨ q ∈ (fp i).2) → ∀ k, (k < i → q ∈ (fp k).2 → b k = true) ∧ (i < k → k < ops.size → q ∈ (fp k).2 → b k = false) := by
    intro q hq k
    refine ⟨fun hk hm => ?_, fun hk hkn hm => ?_⟩
    · rcases hO.mem i k hin hk with h | ⟨h, _⟩
      · exact hpre k hk h
      · rcases hq with hq | hq
        · exact absurd hq (h q hm).1
        · exact absurd hq (h q hm).2
    · rcases hO.mem k i hkn hk with h | ⟨h, h'⟩
      · exact hsuc k hk hkn h
      · rcases hq with hq | hq
        · exact absurd hq (h' q hm)
        · exact absurd hm (h q hq).2
  have ckAt : ∀ q, (q ∈ (fp i).1 ∨ q ∈ (fp i).2) → ckX ss fp b ops.size q = (ss i).h[q]? := by
    intro q hq
    rw [ckX_le (i := i) (by omega) (fun k h1 h2 h3 => ?_), ckX_at hst (by omega) (fun k hk hd => (owns q hq k).1 hk hd)]
    · rfl
    · by_cases hk : k = i
      · rw [hk]; exact hb
      · exact (owns q hq k).2 (by omega) h2 h3
  have up_same : upB b i i = true := by simp [upB]
  have up_ne : ∀ k, k ≠ i → upB b i k = b k := fun k hk => by simp [upB, hk]
  have ckUp : ∀ q, ckX ss fp (upB b i) ops.size q = if q ∈ (fp i).2 then (ss (i + 1)).D q else ckX ss fp b ops.size q := by
    intro q
    split
    · rename_i hq
      rw [ckX_le (i := i + 1) (by omega) (fun k h1 h2 h3 => by rw [up_ne k (by omega)]; exact (owns q (.inr hq) k).2 (by omega) h2 h3)]
      simp only [ckX]
      rw [if_pos ⟨up_same, hq⟩]
    · rename_i hq
      exact ckX_congr (fun k _ hm => up_ne k (fun e => hq (e ▸ hm)))
  have tmpUp : ∀ t, tmpX ops ss (upB b i) ops.size t = if o.dst = some t then (ss (i + 1)).t.getD t .un else tmpX ops ss b ops.size t := by
    intro t
    split
    · rename_i hd
      have ht : t ∈ looks ops o := by simp [looks, hd]
      rw [tmpX_le (i := i + 1) (by omega) (fun k h1 h2 h3 => by rw [up_ne k (by omega)]; exact (fills t ht k).2 (by omega) h2 h3)]
      simp only [tmpX]
      rw [if_pos ⟨up_same, by rw [ho]; exact hd⟩]
    · rename_i hd
      exact tmpX_congr (fun k _ hm => up_ne k (fun e => hd (by rw [e, ho] at hm; exact hm)))
  have hlen := len_at hst (i := i) (by omega)
  obtain ⟨r, h', hss, hcase⟩ := hst i o ho
  -- what is left behind it
  have after : ∀ w' u D' μ' S', Rl w0 O0 S0 D' μ' S' w' → (∀ q, D' q = if q ∈ (fp i).2 then h'[q]? else ckX ss fp b ops.size q) → Tr (ckX ss fp b ops.size) μ S w D' μ' S' w' → AR D' μ' S' w' r u → InX w0 O0 S0 D0 μ0 ops ss fp (upB b i) (a.put o.dst u) w' := by
    intro w' u D' μ' S' R' hD' T hu
    have hDD : D' = ckX ss fp (upB b i) ops.size := by
      funext q
      rw [hD' q, ckUp q]
      split
      · rw [hss]; unfold St.D; rw [St.set_h]
      · rfl
    subst hDD
    refine ⟨μ', S', R', T0.trans T, by rw [put_size]; exact hsz, fun t => ?_, by rw [put_defers]; exact hdf⟩
    rw [tmpUp t]
    split
    · rename_i hd
      rw [hss, hd, put_getD, St.set_getD]
      by_cases hlt : t < (ss i).t.length
      · have hlt2 : t < a.tmps.size := by rw [hsz, ← hlen]; exact hlt
        simp only [hlt, hlt2, and_self, if_true]
        exact hu
      · simp only [hlt, and_false, if_false]
        have : ((ss i).t.getD t .un) = .un := by rw [List.getD_eq_getElem?_getD, List.getElem?_eq_none (by omega)]; rfl
        rw [this]
        trivial
    · rename_i hd
      rw [put_getD]
      have := AR.tr T _ _ (hA t)
      split
      · rename_i d hdd
        rw [if_neg (fun e => hd (by rw [hdd, e.1]))]
        exact this
      · exact this
  have guardVal : ∀ j c d, o.guard = some (j, c) → (ops[j]?).bind (·.dst) = some d → AR (ckX ss fp b ops.size) μ S w ((ss i).t.getD d .un) (a.tmps.getD d undef) := by
    intro j c d hg hd
    rw [← tmpAt d (by simp [looks, hg, hd])]
    exact hA d
  unfold wpOp
  rw [ho]
  simp only
  rcases hcase with ⟨hs, hg⟩ | ⟨rfl, hr, hw, rfl, j, c, d, hg, hd, hv⟩
  · have hwant : Region.wanted o (yielded ops a.tmps) = true := by
      rcases hg with hg | ⟨j, c, d, hg, hd, hv⟩
      · simp [Region.wanted, hg]
      · have h5 := guardVal j c d hg hd
        rw [hv] at h5
        have hy := yielded_of hd a
        rw [h5.boolv] at hy
        simp [Region.wanted, hg, hy]
    rw [if_pos hwant]
    refine .inl (hs.2.2 w0 O0 S0 _ μ S w a R (fun q hq => ckAt q hq) (fun x hx t ht => ?_) K Q (fun w' u D' μ' S' R' hD' T hu => hK _ _ (after w' u D' μ' S' R' hD' T hu)))
    rw [← tmpAt t (by
      subst ht
      simp only [looks, List.mem_append, List.mem_filterMap]
      exact .inl (.inr ⟨.tmp t, Array.mem_toList_iff.2 hx, rfl⟩))]
    exact hA t
  · have hwant : ¬ (Region.wanted o (yielded ops a.tmps) = true) := by
      have h5 := guardVal j c d hg hd
      rcases hv with hv | hv
      · rw [hv] at h5
        have hy := yielded_of hd a
        rw [h5.boolv] at hy
        simp only [Region.wanted, hg, hy]
        cases c <;> simp
      · rw [hv] at h5
        have h6 : a.tmps.getD d undef = undef := h5
        have hy := yielded_of hd a
        rw [h6] at hy
        simp [Region.wanted, hg, hy, undef]
    rw [if_neg hwant]
    refine hK _ _ (after w undef _ μ S R (fun q => ?_) Tr.refl rfl)
    rw [hw]
    simp

theorem filter_less {p : Nat → Bool} {i : Nat} : ∀ {l : List Nat}, l.Nodup → i ∈ l → p i = true → (l.filter fun k => p k && k != i).length + 1 = (l.filter p).length
  | [], _, hi, _ => by cases hi
  | x :: r, hn, hi, hp => by
    rw [List.nodup_cons] at hn
    rcases List.mem_cons.1 hi with rfl | hi
    · have h1 : (r.filter fun k => p k && k != i) = r.filter p := by
        refine List.filter_congr (fun k hk => ?_)
        have : k ≠ i := fun e => hn.1 (by rw [← e]; exact hk)
        simp [this]
      rw [List.filter_cons, List.filter_cons]
      simp [hp, h1]
    · have hxi : x ≠ i := fun e => hn.1 (e ▸ hi)
      have h1 := filter_less hn.2 hi hp
      rw [List.filter_cons, List.filter_cons]
      cases hbx : p x
      · simpa using h1
      · simp [hxi]
        simpa using h1
theorem reg_any {ops : Array Oper} {tb : List Nat} {ss : Nat → St} {fp : Nat → List Nat × List Nat} (hst : ∀ i o, ops[i]? = some o → Stp P ops o (ss i) (ss (i + 1)) (fp i).1 (fp i).2) (hO : Ord ops tb fp)
    {Q : Exit → Act → World → Prop} (hend : ∀ b a w, (∀ k, k < ops.size → b k = true) → InX w0 O0 S0 D0 μ0 ops ss fp b a w → Q .normal a w) :
    ∀ (fuel : Nat) (listed : Array Bool) (a : Act) (w : World), listed.size = ops.size → ((List.range ops.size).filter fun k => !listed.getD k true).length = fuel →
      (∀ d o, ops[d]? = some o → listed.getD d false = true → ∀ e ∈ o.after, Region.binds .any e = true → listed.getD e.on false = true) →
      InX w0 O0 S0 D0 μ0 ops ss fp (fun k => listed.getD k false) a w → wpAny P .any ops Q fuel listed a w := by
  have gd : ∀ (listed : Array Bool) k, listed.size = ops.size → k < ops.size → listed.getD k true = listed.getD k false := by
    intro listed k h1 h2
    simp [Array.getD_eq_getD_getElem?, h1, h2]
  have all_of : ∀ (listed : Array Bool), listed.size = ops.size → Region.ready .any ops listed = [] → ∀ k, k < ops.size → listed.getD k false = true := by
    intro listed hl hr k
    induction k using Nat.strongRecOn with
    | _ k ih =>
      intro hk
      cases hv : listed.getD k false with
      | true => rfl
      | false =>
        exfalso
        have ho : ops[k]? = some ops[k] := Array.getElem?_eq_getElem hk
        have : k ∈ Region.ready .any ops listed := mem_ready.2 ⟨by rw [gd listed k hl hk]; exact hv, ops[k], ho, fun e he hb => ih e.on (hO.lt k _ ho e he hb) (by have := hO.lt k _ ho e he hb; omega)⟩
        rw [hr] at this
        cases this
  intro fuel
  induction fuel with
  | zero =>
    intro listed a w hl hf hc hI
    have hall : ∀ k, k < ops.size → listed.getD k false = true := by
      intro k hk
      have h0 := List.eq_nil_of_length_eq_zero hf
      have := List.filter_eq_nil_iff.1 h0 k (List.mem_range.2 hk)
      rw [gd listed k hl hk] at this
      simpa using this
    refine ⟨?_, hend _ a w hall hI⟩
    cases hr : Region.ready .any ops listed with
    | nil => rfl
    | cons i r =>
      have : i ∈ Region.ready .any ops listed := by rw [hr]; simp
      obtain ⟨h1, o, ho, _⟩ := mem_ready.1 this
      have hi : i < ops.size := (Array.getElem?_eq_some_iff.1 ho).1
      rw [gd listed i hl hi, hall i hi] at h1
      cases h1
  | succ fuel ih =>
    intro listed a w hl hf hc hI
    refine ⟨fun hr => hend _ a w (all_of listed hl hr) hI, fun i hi => ?_⟩
    obtain ⟨h1, o, ho, hall⟩ := mem_ready.1 hi
    have hin : i < ops.size := (Array.getElem?_eq_some_iff.1 ho).1
    have hbi : listed.getD i false = false := by rw [← gd listed i hl hin]; exact h1
    -- all that waits stands in order
    have closed : ∀ d, d < ops.size → listed.getD d false = true → ∀ j, j < d → (tb.getD d 0).testBit j = true → listed.getD j false = true := by
      intro d
      induction d using Nat.strongRecOn with
      | _ d ihd =>
        intro hd hld j hj hbit
        have hod : ops[d]? = some ops[d] := Array.getElem?_eq_getElem hd
        obtain ⟨e, he, hb, h2⟩ := hO.bit d _ j hod hj hbit
        have h3 := hc d _ hod hld e he hb
        have h4 := hO.lt d _ hod e he hb
        rcases h2 with h2 | ⟨h5, h2⟩
        · rw [← h2]; exact h3
        · exact ihd e.on h4 (by omega) h3 j h5 h2
    have hpre : ∀ k, k < i → (tb.getD i 0).testBit k = true → listed.getD k false = true := by
      intro k hk hbit
      obtain ⟨e, he, hb, h2⟩ := hO.bit i o k ho hk hbit
      have h3 := hall e he hb
      have h4 := hO.lt i o ho e he hb
      rcases h2 with h2 | ⟨h5, h2⟩
      · rw [← h2]; exact h3
      · exact closed e.on (by omega) h3 k h5 h2
    refine reg_step hst hO ho hbi hpre (fun k hk hkn hbit => ?_) hI (fun a' w' hI' => ih (listed.setIfInBounds i true) a' w' (by simpa using hl) ?_ ?_ ?_)
    · cases hv : listed.getD k false with
      | false => rfl
      | true => rw [closed k hkn hv i hk hbit] at hbi; cases hbi
    · have hcnt := filter_less (l := List.range ops.size) (p := fun k => !listed.getD k true) (i := i) List.nodup_range (List.mem_range.2 hin) (by simp [h1])
      have : (List.range ops.size).filter (fun k => !(listed.setIfInBounds i true).getD k true) = (List.range ops.size).filter (fun k => (!listed.getD k true) && k != i) := by
        refine List.filter_congr (fun k hk => ?_)
        by_cases hki : k = i
        · subst hki
          simp [hl, hin]
        · rw [getD_set_ne true (Ne.symm hki)]
          simp [hki]
      rw [this]
      omega
    · intro d q hq hd e he hb
      by_cases hdi : i = d
      · subst hdi
        rw [ho] at hq
        cases hq
        exact getD_set_true (hall e he hb)
      · rw [getD_set_ne false hdi] at hd
        exact getD_set_true (hc d q hq hd e he hb)
    · have : (fun k => (listed.setIfInBounds i true).getD k false) = upB (fun k => listed.getD k false) i := by
        funext k
        by_cases hki : k = i
        · subst hki
          simp [upB, hl, hin]
        · rw [getD_set_ne false (Ne.symm hki)]
          simp [upB, hki]
      rw [this]
      exact hI'

theorem reg_sound {k0 id : Nat} {ops : Array Oper} {os : List AO} {Q : Ex → St → Prop} (hm : P.follows .mixedOrders = true) (hreg : regOk ops (Region.before ops).toList = true) (hc : cAOs P ops ops.toList = some os) (h : awp P m k0 (.reg (Region.before ops).toList os) Q s) (hok : Ok w0 O0 S0 D0 μ0 s a w) :
    (Code.region id ops true).wp P (Post w0 O0 S0 D0 μ0 Q) a w := by
  simp only [awp] at h
  obtain ⟨ss, fp, e1, hst, hfp, hQ⟩ := aops_chain ops.toList os s [] _ hc h
  have hst' : ∀ i o, ops[i]? = some o → Stp P ops o (ss i) (ss (i + 1)) (fp i).1 (fp i).2 := fun i o ho => hst i o (by simpa using ho)
  simp only [List.nil_append, Array.length_toList] at hfp hQ
  have hO := ord_of hreg hfp
  refine wp_region_any hm ?_
  have hok' := hok.drew
  have hall : (List.range ops.size).filter (fun k => !(Array.replicate ops.size false).getD k true) = List.range ops.size := List.filter_eq_self.2 (fun k hk => by simp [List.mem_range.1 hk])
  refine reg_any (w0 := w0) (O0 := O0) (S0 := S0) (D0 := D0) (μ0 := μ0) (ss := ss) (fp := fp) hst' hO (fun b a' w' hall hI => ?_) ops.size _ a _ (by simp) (by rw [hall]; simp) (fun d o ho hd => ?_) ?_
  · obtain ⟨μ, S, R, T0, h1, h2, h3⟩ := hI
    have hD : ckX ss fp b ops.size = (ss ops.size).D := by
      funext q
      exact ckX_at hst' (Nat.le_refl _) (fun k hk _ => hall k hk)
    have hT : ∀ t, tmpX ops ss b ops.size t = (ss ops.size).t.getD t .un := fun t => tmpX_at hst' (Nat.le_refl _) (fun k hk _ => hall k hk)
    refine ⟨.nrm, ss ops.size, rfl, hQ, μ, S, by rw [← hD]; exact R, by rw [← hD]; exact T0, by rw [h1, len_at hst' (Nat.le_refl _)], fun t => ?_, h3⟩
    rw [← hD, ← hT t]
    exact h2 t
  · rw [Array.getD_eq_getD_getElem?, Array.getElem?_replicate] at hd
    split at hd <;> cases hd
  · obtain ⟨μ, S, R, T0, h1, h2, h3⟩ := hok'
    have hb : (fun k => (Array.replicate ops.size false).getD k false) = fun _ => false := by
      funext k
      rw [Array.getD_eq_getD_getElem?, Array.getElem?_replicate]
      split <;> rfl
    rw [hb]
    have hD : ckX ss fp (fun _ => false) ops.size = s.D := by
      funext q
      rw [ckX_le (i := 0) (Nat.zero_le _) (fun _ _ _ _ => rfl), ← e1]
      rfl
    have hT : ∀ t, tmpX ops ss (fun _ => false) ops.size t = s.t.getD t .un := fun t => by
      rw [tmpX_le (i := 0) (Nat.zero_le _) (fun _ _ _ _ => rfl), ← e1]
      rfl
    refine ⟨μ, S, by rw [hD]; exact R, by rw [hD]; exact T0, by rw [e1]; exact h1, fun t => ?_, h3⟩
    rw [hD, hT t]
    exact h2 t

end
end Go.Proofs.YtihkjljafjhniaaEv
namespace Go.Proofs.YtihkjljafjhniaaEv
open Go

section
variable {P : Program} {s : St} {a : Act} {w : World} {w0 : World} {O0 S0 : Nat → Prop} {D0 D D' : Nat → Option Ck} {μ0 μ : Nat → Nat × Nat} {S : Nat → Prop} {L : List Nat}

def vD (D : Nat → Option Ck) (L : List Nat) : Nat → Option Ck := fun j => (L[j]?).map fun i => ((D i).getD .gone).rn L
def vM (μ : Nat → Nat × Nat) (L : List Nat) : Nat → Nat × Nat := fun j => μ (L.getD j 0)
theorem vM_at {i j : Nat} (h : posL i L = some j) : vM μ L j = μ i := by
  simp [vM, List.getD_eq_getElem?_getD, posL_spec h]
theorem vD_at {i j : Nat} {c : Ck} (h : posL i L = some j) (hc : D i = some c) : vD D L j = some (c.rn L) := by
  simp [vD, posL_spec h, hc]
mutual
theorem AR.view : ∀ (b : A) (u : Value), AR D μ S w b u → AR (vD D L) (vM μ L) S w (b.rn L) u
  | .sli i, u, h => by
    simp only [A.rn]
    split
    · rename_i j hj
      unfold AR at h ⊢
      refine ⟨h.1, ?_⟩
      cases hd : D i with
      | none => rw [hd] at h; exact h.2.elim
      | some c =>
        rw [hd] at h
        rw [vD_at hj hd, vM_at hj]
        cases c <;> first | exact h.2 | exact h.2.elim
    · trivial
  | .ptr i o, u, h => by
    simp only [A.rn]
    split
    · rename_i j hj
      obtain ⟨⟨c, hc⟩, h2⟩ := h
      exact ⟨⟨_, vD_at hj hc⟩, by rw [vM_at hj]; exact h2⟩
    · trivial
  | .ep i e k o, u, h => by
    simp only [A.rn]
    split
    · rename_i j hj
      obtain ⟨⟨c, hc⟩, h2⟩ := h
      exact ⟨⟨_, vD_at hj hc⟩, by rw [vM_at hj]; exact h2⟩
    · trivial
  | .vw i e lo n, u, h => by
    simp only [A.rn]
    split
    · rename_i j hj
      obtain ⟨a, h1, ⟨c, hc⟩, h2⟩ := h
      exact ⟨a, by rw [vM_at hj]; exact h1, ⟨_, vD_at hj hc⟩, by rw [vM_at hj]; exact h2⟩
    · trivial
  | .mp i, u, h => by
    simp only [A.rn]
    split
    · rename_i j hj
      obtain ⟨h1, c, hc⟩ := h
      exact ⟨by rw [vM_at hj]; exact h1, _, vD_at hj hc⟩
    · trivial
  | .ag cs, u, h => by
    obtain ⟨us, h1, h2, h3⟩ := h
    exact ⟨us, h1, ARs.view cs us h2, h3⟩
  | .tu cs, u, h => by
    obtain ⟨us, h1, h2⟩ := h
    exact ⟨us, h1, ARs.view cs us h2⟩
  | .fn f cs, u, h => by
    simp only [A.rn]
    split
    · rename_i hs
      obtain ⟨us, h1, h2⟩ := h
      exact ⟨us, h1, ARs.shut (fun _ h => h) hs h2⟩
    · trivial
  | .un, _, h | .ud, _, h | .v _, _, h | .nil _, _, h | .fp _ _, _, h | .fq _, _, h => h
theorem ARs.view : ∀ (bs : List A) (us : List Value), ARs D μ S w bs us → ARs (vD D L) (vM μ L) S w (rns L bs) us
  | [], us, h => h
  | b :: bs, us, ⟨u, us', h1, h2, h3⟩ => ⟨u, us', h1, AR.view b u h2, ARs.view bs us' h3⟩
end
theorem vD_some {j : Nat} {c : Ck} (h : vD D L j = some c) (hl : c.live = true) : ∃ i d, L[j]? = some i ∧ D i = some d ∧ d.live = true ∧ c = d.rn L ∧ vM μ L j = μ i := by
  simp only [vD, Option.map_eq_some_iff] at h
  obtain ⟨i, h1, rfl⟩ := h
  cases hd : D i with
  | none => rw [hd] at hl; cases hl
  | some d =>
    rw [hd] at hl
    refine ⟨i, d, h1, hd, ?_, rfl, by simp [vM, List.getD_eq_getElem?_getD, h1]⟩
    cases d <;> first | exact hl | rfl
theorem Rl.view (R : Rl w0 O0 S0 D μ S w) (hn : L.Nodup) : Rl w0 O0 S0 (vD D L) (vM μ L) S w := by
  refine ⟨R.os, R.tape, R.output, R.size, R.keep, R.sub, R.new, R.lt, fun j => ?_, fun j c hc hl => ?_, fun i j c d hc hd hcl hdl he => ?_⟩
  · cases hj : L[j]? with
    | none => unfold CR; simp [vD, hj]
    | some i =>
      have hm : vM μ L j = μ i := by simp [vM, List.getD_eq_getElem?_getD, hj]
      have hp := posL_get hn hj
      have h1 := R.ck i
      cases hd : D i with
      | none => unfold CR; simp [vD, hj, hd, Ck.rn]
      | some c =>
        unfold CR at h1 ⊢
        rw [vD_at hp hd, hm]
        rw [hd] at h1
        cases c <;> first | exact h1 | skip
        obtain ⟨cur, t, g1, g2, g3⟩ := h1
        exact ⟨cur, t, g1, ARs.view _ _ g2, g3⟩
  · obtain ⟨i, d, h1, h2, h3, _, h5⟩ := vD_some (μ := μ) hc hl
    rw [h5]
    exact R.own i d h2 h3
  · obtain ⟨i', c', h1, h2, h3, _, h5⟩ := vD_some (μ := μ) hc hcl
    obtain ⟨j', d', k1, k2, k3, _, k5⟩ := vD_some (μ := μ) hd hdl
    rw [h5, k5] at he
    have := R.inj i' j' c' d' h2 k2 h3 k3 he
    subst this
    have e1 := posL_get hn h1
    have e2 := posL_get hn k1
    rw [e1] at e2
    cases e2; rfl
theorem Tr.view (T : Tr D0 μ0 S0 w0 D μ S w) (hn : L.Nodup) (hk : ∀ i c, D0 i = some c → L[i]? = some i) : Tr D0 μ0 S0 w0 (vD D L) (vM μ L) S w := by
  refine ⟨T.sub, T.heap, fun i u hu => ?_, fun i c hc => ?_⟩
  · cases hd : D0 i with
    | none => unfold AR at hu; rw [hd] at hu; exact hu.2.elim
    | some c =>
      have hp := posL_get hn (hk i c hd)
      have := AR.view (L := L) _ _ (T.sli i u hu)
      simp only [A.rn, hp] at this
      exact this
  · have hp := posL_get hn (hk i c hc)
    obtain ⟨h1, c', h2⟩ := T.ptr i c hc
    exact ⟨by rw [vM_at hp]; exact h1, _, vD_at hp h2⟩

theorem addI_ok {i : Nat} {L : List Nat} (hn : L.Nodup) : (addI i L).Nodup ∧ ∃ M, addI i L = L ++ M := by
  unfold addI
  split
  · exact ⟨hn, [], by simp⟩
  · rename_i h
    refine ⟨?_, _, rfl⟩
    rw [List.nodup_append]
    refine ⟨hn, by simp, fun a ha b hb => ?_⟩
    simp only [List.mem_singleton] at hb
    subst hb
    exact fun e => h (by simpa using e ▸ ha)
theorem ok_trans {L L1 L2 : List Nat} (h1 : ∃ M, L1 = L ++ M) (h2 : ∃ M, L2 = L1 ++ M) : ∃ M, L2 = L ++ M := by
  obtain ⟨M, rfl⟩ := h1
  obtain ⟨M', rfl⟩ := h2
  exact ⟨M ++ M', by simp⟩
mutual
theorem idsA_ok : ∀ (b : A) {L : List Nat}, L.Nodup → (idsA b L).Nodup ∧ ∃ M, idsA b L = L ++ M
  | .sli i, _, hn | .ptr i _, _, hn | .ep i _ _ _, _, hn => addI_ok hn
  | .ag cs, _, hn | .tu cs, _, hn => idsAs_ok cs hn
  | .vw i _ _ _, _, hn | .mp i, _, hn => addI_ok hn
  | .un, _, hn | .ud, _, hn | .v _, _, hn | .nil _, _, hn | .fp _ _, _, hn | .fq _, _, hn | .fn _ _, _, hn => ⟨hn, [], by simp [idsA]⟩
theorem idsAs_ok : ∀ (bs : List A) {L : List Nat}, L.Nodup → (idsAs bs L).Nodup ∧ ∃ M, idsAs bs L = L ++ M
  | [], _, hn => ⟨hn, [], by simp [idsAs]⟩
  | b :: bs, _, hn => by
    obtain ⟨h1, h2⟩ := idsA_ok b hn
    obtain ⟨h3, h4⟩ := idsAs_ok bs h1
    exact ⟨h3, ok_trans h2 h4⟩
end
theorem idsT_ok : ∀ (ks : List Bool) (t : List A) {L : List Nat}, L.Nodup → (idsT ks t L).Nodup ∧ ∃ M, idsT ks t L = L ++ M
  | _, [], _, hn => ⟨by simpa [idsT] using hn, [], by simp [idsT]⟩
  | [], _ :: _, _, hn => ⟨by simpa [idsT] using hn, [], by simp [idsT]⟩
  | k :: ks, b :: t, L, hn => by
    simp only [idsT]
    cases k
    · exact idsT_ok ks t hn
    · obtain ⟨h1, h2⟩ := idsA_ok b hn
      obtain ⟨h3, h4⟩ := idsT_ok ks t h1
      exact ⟨h3, ok_trans h2 h4⟩
theorem idsH_ok {h : List Ck} : ∀ (l : List Nat) {L : List Nat}, L.Nodup → (idsH h l L).Nodup ∧ ∃ M, idsH h l L = L ++ M
  | [], _, hn => ⟨hn, [], by simp [idsH]⟩
  | i :: l, L, hn => by
    simp only [idsH]
    split
    · obtain ⟨h1, h2⟩ := idsAs_ok _ hn
      obtain ⟨h3, h4⟩ := idsH_ok (h := h) l h1
      exact ⟨h3, ok_trans h2 h4⟩
    · exact idsH_ok l hn
theorem upTo_ok : ∀ (n : Nat), (upTo n).length = n ∧ (upTo n).Nodup ∧ ∀ i, i < n → (upTo n)[i]? = some i
  | 0 => by simp [upTo]
  | n + 1 => by
    obtain ⟨h1, h2, h3⟩ := upTo_ok n
    have hlt : ∀ i ∈ upTo n, i < n := fun i hi => by
      obtain ⟨j, hj⟩ := List.getElem?_of_mem hi
      have hjn : j < n := by have := (List.getElem?_eq_some_iff.1 hj).1; omega
      rw [h3 j hjn] at hj
      cases hj; exact hjn
    refine ⟨by simp [upTo, h1], ?_, fun i hi => ?_⟩
    · simp only [upTo]
      rw [List.nodup_append]
      refine ⟨h2, by simp, fun a ha b hb => ?_⟩
      simp only [List.mem_singleton] at hb
      subst hb
      have := hlt a ha
      omega
    · simp only [upTo]
      by_cases hin : i < n
      · rw [List.getElem?_append_left (by omega)]; exact h3 i hin
      · rw [List.getElem?_append_right (by omega), h1, show i - n = 0 by omega]
        simp; omega
theorem cmpT_get : ∀ (ks : List Bool) (t : List A) (k : Nat), (cmpT L ks t)[k]? = (t[k]?).map fun a => if ks.getD k false = true then a.rn L else .un
  | _, [], k => by simp [cmpT]
  | [], b :: t, 0 => by simp [cmpT]
  | [], b :: t, k + 1 => by
    simp only [cmpT, List.getElem?_cons_succ]
    rw [cmpT_get [] t k]
    simp
  | b' :: ks, b :: t, 0 => by cases b' <;> simp [cmpT, rnB]
  | b' :: ks, b :: t, k + 1 => by
    simp only [cmpT, List.getElem?_cons_succ]
    rw [cmpT_get ks t k]
    simp
theorem cmpT_len : ∀ (ks : List Bool) (t : List A), (cmpT L ks t).length = t.length
  | _, [] => by simp [cmpT]
  | [], b :: t => by simp [cmpT, cmpT_len [] t]
  | b' :: ks, b :: t => by simp [cmpT, cmpT_len ks t]

theorem Ok.cmp {k0 : Nat} (h0 : ∀ i c, D0 i = some c → i < k0) (ks : List Bool) (h : Ok w0 O0 S0 D0 μ0 s a w) : Ok w0 O0 S0 D0 μ0 (s.cmp k0 ks) a w := by
  obtain ⟨μ, S, R, T, h1, h2, h3⟩ := h
  obtain ⟨u1, u2, u3⟩ := upTo_ok k0
  obtain ⟨g1, M1, e1⟩ := idsT_ok ks s.t u2
  obtain ⟨g2, M2, e2⟩ := idsH_ok (h := s.h) (idsT ks s.t (upTo k0)) g1
  obtain ⟨g3, M3, e3⟩ := idsH_ok (h := s.h) (idsH2 s.h (idsT ks s.t (upTo k0))) g2
  unfold St.cmp
  generalize hL : idsH2 s.h (idsH2 s.h (idsT ks s.t (upTo k0))) = L
  have hn : L.Nodup := by rw [← hL]; exact g3
  have hk : ∀ i c, D0 i = some c → L[i]? = some i := fun i c hc => by
    have hi := h0 i c hc
    have : L = upTo k0 ++ (M1 ++ M2 ++ M3) := by
      rw [← hL, show idsH2 s.h (idsH2 s.h (idsT ks s.t (upTo k0))) = idsH2 s.h (idsT ks s.t (upTo k0)) ++ M3 from e3, show idsH2 s.h (idsT ks s.t (upTo k0)) = idsT ks s.t (upTo k0) ++ M2 from e2, e1]
      simp
    rw [this, List.getElem?_append_left (by omega)]
    exact u3 i hi
  have hD : (cmpL ks s L).D = vD s.D L := by
    funext j
    simp only [St.D, cmpL, vD, List.getElem?_map]
    cases L[j]? <;> simp [List.getD_eq_getElem?_getD]
  refine ⟨vM μ L, S, by rw [hD]; exact R.view hn, by rw [hD]; exact T.view hn hk, ?_, fun i => ?_, h3⟩
  · simp [cmpL, cmpT_len, h1]
  · rw [hD]
    have := h2 i
    simp only [cmpL, List.getD_eq_getElem?_getD, cmpT_get] at this ⊢
    cases hi : s.t[i]? with
    | none => simp only [hi, Option.map_none, Option.getD_none]; trivial
    | some b =>
      simp only [hi, Option.map_some, Option.getD_some] at this ⊢
      split
      · exact AR.view _ _ this
      · trivial
end
end Go.Proofs.YtihkjljafjhniaaEv
namespace Go.Proofs.YtihkjljafjhniaaEv
open Go

section
variable {P : Program} {m : Nat → Bool} {s : St} {a : Act} {w : World} {w0 : World} {O0 S0 : Nat → Prop} {D0 : Nat → Option Ck} {μ0 : Nat → Nat × Nat}

theorem wp_loopN {c : Code} {Q : Exit → Act → World → Prop} (J : Nat → Act → World → Prop) {n : Nat} (h₀ : J n a w) (round : ∀ n a w, J n a w → c.wp P (Exit.then (fun a' w' => ∃ m, m < n ∧ J m a' w') Q) a w) : (Code.loop c).wp P Q a w := by
  intro b k cs
  have key : ∀ n a w, J n a w → ∃ e a' w', Q e a' w' ∧ Arrives P (lone (b.at a (.code c :: .inLoop c :: k)) cs w) b k cs e a' w' := by
    intro n
    induction n using Nat.strongRecOn with
    | _ n ih =>
      intro a w hI
      obtain ⟨e, a₁, w₁, hq, harr⟩ := round n a w hI b (.inLoop c :: k) cs
      cases e with
      | normal =>
        obtain ⟨m, hlt, hI₁⟩ := hq
        obtain ⟨e₂, a₂, w₂, hq₂, harr₂⟩ := ih m hlt a₁ w₁ hI₁
        exact ⟨e₂, a₂, w₂, hq₂, .of_steps (Steps.trans harr (.one step_inLoop)) harr₂⟩
      | exit id => exact ⟨_, a₁, w₁, hq, .pass (x := .inLoop c) rfl (fun _ _ => .inl (by simp)) harr⟩
      | goto l => exact ⟨_, a₁, w₁, hq, .pass (x := .inLoop c) rfl (fun _ _ => .inl (by simp)) harr⟩
      | ret => exact ⟨_, a₁, w₁, hq, .pass (x := .inLoop c) rfl (fun _ _ => .inl (by simp)) harr⟩
      | panic ch => exact ⟨_, a₁, w₁, hq, .pass (x := .inLoop c) rfl (fun _ _ => .inl (by simp)) harr⟩
      | outgrown => exact ⟨_, a₁, w₁, hq, .pass (x := .inLoop c) rfl (fun _ _ => .inl (by simp)) harr⟩
  obtain ⟨e, a', w', hq, harr⟩ := key n a w h₀
  exact ⟨e, a', w', hq, .of_steps (.one step_loop) harr⟩
theorem awp_sound {k0 : Nat} (hk0 : ∀ i c, D0 i = some c → i < k0) (hm : P.follows .mixedOrders = true) : ∀ (c : Code) (ac : AC) (s : St) (a : Act) (w : World) (Q : Ex → St → Prop), cC P c = some ac → awp P m k0 ac Q s → Ok w0 O0 S0 D0 μ0 s a w → c.wp P (Post w0 O0 S0 D0 μ0 Q) a w := by
  intro c
  induction c with
  | skip => intro ac s a w Q hc h hok; simp only [cC, Option.some.injEq] at hc; subst hc; exact wp_skip ⟨.nrm, s, rfl, h, hok⟩
  | region id ops draw =>
    intro ac s a w Q hc h hok
    simp only [cC] at hc
    split at hc
    · rename_i os h1
      cases draw with
      | true =>
        simp only [if_true] at hc
        split at hc
        · rename_i hreg; cases hc; exact reg_sound hm hreg h1 h hok
        · cases hc; exact h.elim
      | false =>
        simp only [Bool.false_eq_true, if_false] at hc
        cases hc
        refine wp_region ?_
        rw [List.range_eq_range']
        have := aops_seq (Q := Post w0 O0 S0 D0 μ0 Q) ops.toList os 0 s [] a w _ h1 (fun j => by simp) h hok (fun s' f' a' w' hK h4 => ⟨.nrm, s', rfl, hK, h4⟩)
        simpa using this
    · cases hc; exact h.elim
  | seq x y ihx ihy =>
    intro ac s a w Q hc h hok
    simp only [cC] at hc
    split at hc
    · rename_i ax ay h1 h2
      cases hc
      refine wp_seq (wp_mono (ihx ax s a w _ h1 h hok) ?_)
      rintro e a' w' ⟨x', s', rfl, hq, hok'⟩
      cases x' with
      | nrm => exact ihy ay s' a' w' Q h2 hq hok'
      | exit id => exact ⟨.exit id, s', rfl, hq, hok'⟩
      | ret => exact ⟨.ret, s', rfl, hq, hok'⟩
    · cases hc
  | cond c x y ihx ihy =>
    intro ac s a w Q hc h hok
    simp only [cC] at hc
    split at hc
    · rename_i c' ax ay h0 h1 h2
      cases hc
      simp only [awp] at h
      split at h
      · rename_i t ht
        have hval : a.eval c = .bool t := by
          obtain ⟨μ, S, _, _, _, h5, _⟩ := hok
          have : AR s.D μ S w (s.x c') (a.eval c) := cX_ar (xs := #[c]) h0 (fun x _ i _ => h5 i) (by simp)
          rw [ht] at this
          exact this
        have tell : ∀ b, t = b → Ok w0 O0 S0 D0 μ0 (s.setX c' (.v (.bool b))) a w := by
          rintro b rfl
          cases c' with
          | c _ => exact hok
          | t i =>
            refine hok.tell i _ (fun μ S h5 => ?_)
            rw [show s.t.getD i .un = .v (.bool t) from ht] at h5
            exact h5
        refine wp_cond_split hval (fun hb => ?_) (fun hb => ?_)
        · exact ihx ax _ a w Q h1 (h.1 hb) (tell true hb)
        · exact ihy ay _ a w Q h2 (h.2 hb) (tell false hb)
      · exact h.elim
    · cases hc
  | block id b ih =>
    intro ac s a w Q hc h hok
    simp only [cC, Option.map_eq_some_iff] at hc
    obtain ⟨ab, h1, rfl⟩ := hc
    refine wp_block (wp_mono (ih ab s a w _ h1 h hok) ?_)
    rintro e a' w' ⟨x', s', rfl, hq, hok'⟩
    cases x' with
    | nrm => exact ⟨.nrm, s', rfl, hq, hok'⟩
    | exit i =>
      simp only [Ex.go, Exit.inBlock]
      simp only at hq
      split
      · rename_i hi
        rw [if_pos hi] at hq
        exact ⟨.nrm, s', rfl, hq, hok'⟩
      · rename_i hi
        rw [if_neg hi] at hq
        exact ⟨.exit i, s', rfl, hq, hok'⟩
    | ret => exact ⟨.ret, s', rfl, hq, hok'⟩
  | loop b ih =>
    intro ac s a w Q hc h hok
    simp only [cC, Option.map_eq_some_iff] at hc
    obtain ⟨ab, h1, rfl⟩ := hc
    obtain ⟨I, ks, ⟨n0, hn0⟩, hround⟩ := h
    refine wp_loopN (fun n a w => ∃ s, I n s ∧ Ok w0 O0 S0 D0 μ0 s a w) (n := n0) ⟨s.cmp k0 ks, hn0, hok.cmp hk0 ks⟩ (fun n a w hJ => ?_)
    obtain ⟨s', hI, hok'⟩ := hJ
    refine wp_mono (ih ab s' a w _ h1 (hround _ s' hI) hok') ?_
    rintro e a' w' ⟨x', s'', rfl, hq, hok''⟩
    cases x' with
    | nrm =>
      obtain ⟨k, hk, hIk⟩ := hq
      exact ⟨k, hk, s''.cmp k0 ks, hIk, hok''.cmp hk0 ks⟩
    | exit i => exact ⟨.exit i, s'', rfl, hq, hok''⟩
    | ret => exact ⟨.ret, s'', rfl, hq, hok''⟩
  | exit id => intro ac s a w Q hc h hok; simp only [cC, Option.some.injEq] at hc; subst hc; exact wp_exit ⟨.exit id, s, rfl, h, hok⟩
  | ret => intro ac s a w Q hc h hok; simp only [cC, Option.some.injEq] at hc; subst hc; exact wp_ret ⟨.ret, s, rfl, h, hok⟩
  | _ => intro ac s a w Q hc h; simp only [cC, Option.some.injEq] at hc; subst hc; exact h.elim

/-! ### a call of a function -/
variable {D : Nat → Option Ck} {μ : Nat → Nat × Nat} {S : Nat → Prop}
theorem run_res {rs : ResultVar} {q : Nat × Option Nat} {b : A} (hq : cRs P [rs] = some [q]) (hb : resA s q = some b) (R : Rl w0 O0 S0 s.D μ S w) (hA : ∀ i, AR s.D μ S w (s.t.getD i .un) (a.tmps.getD i undef)) :
    ∃ u, (match rs with | .tmp t => (Pure.pure (a.tmps.getD t undef) : Sem Value) | .cell q t => do loadVar t (← asAddr (a.tmps.getD q undef))).run P w = .ok u w ∧ AR s.D μ S w b u := by
  cases rs with
  | tmp t =>
    simp only [cRs, Option.map_some, Option.some.injEq, List.cons.injEq, and_true] at hq
    subst hq
    simp only [resA, Option.some.injEq] at hb
    subst hb
    exact ⟨_, rfl, hA t⟩
  | cell q' t =>
    simp only [cRs] at hq
    split at hq
    · rename_i k l hk hl
      simp only [Option.some.injEq] at hl
      subst hl
      simp only [Option.some.injEq, List.cons.injEq, and_true] at hq
      subst hq
      simp only [resA] at hb
      have h1 := hA q'
      split at hb
      · rename_i c off hx
        rw [hx] at h1
        split at hb
        · rename_i cs hc
          have h2 := R.ck c
          unfold CR at h2
          rw [show s.D c = some (.box cs) from hc] at h2
          obtain ⟨cur, t', g1, g2, g3⟩ := h2
          split at hb
          · rename_i hk0
            subst hk0
            obtain ⟨u, g4, g5⟩ := g2.get hb
            have hl : off < cur.toList.length := (List.getElem?_eq_some_iff.1 g4).1
            obtain ⟨v, g6, g7⟩ := (load_part (off := off) hk (row_cells g1) (by rw [show cz 0 = 1 from rfl]; omega)).2 rfl
            rw [g4] at g6
            cases g6
            refine ⟨u, ?_, g5⟩
            simp only [Instr.loadAt, Instr.sureAddr] at g7
            simpa [h1.2, asAddr] using g7
          · rename_i hk0
            split at hb
            · rename_i hl
              cases hb
              have g6 := (load_part (off := off) hk (row_cells g1) (by rw [g2.length, show cz k = k by simp [cz, hk0]]; omega)).1 hk0
              refine ⟨_, ?_, g2.part g3⟩
              simp only [Instr.loadAt, Instr.sureAddr] at g6
              simpa [h1.2, asAddr] using g6
            · cases hb
        · cases hb
      · cases hb
    · cases hq

def resRun (tmps : Array Value) : ResultVar → Sem Value
  | .tmp t => Pure.pure (tmps.getD t undef)
  | .cell q t => do loadVar t (← asAddr (tmps.getD q undef))
theorem run_ress (R : Rl w0 O0 S0 s.D μ S w) (hA : ∀ i, AR s.D μ S w (s.t.getD i .un) (a.tmps.getD i undef)) : ∀ {l : List ResultVar} {qs : List (Nat × Option Nat)} {az : List A}, cRs P l = some qs → resAs s qs = some az →
    ∃ us, (l.mapM (resRun a.tmps)).run P w = .ok us w ∧ ARs s.D μ S w az us
  | [], qs, az, h1, h2 => by
    simp only [cRs, Option.some.injEq] at h1
    subst h1
    simp only [resAs, Option.some.injEq] at h2
    subst h2
    exact ⟨[], rfl, rfl⟩
  | r :: l, qs, az, h1, h2 => by
    have split1 : ∃ q qs', qs = q :: qs' ∧ cRs P [r] = some [q] ∧ cRs P l = some qs' := by
      cases r with
      | tmp t =>
        simp only [cRs, Option.map_eq_some_iff] at h1
        obtain ⟨qs', h3, rfl⟩ := h1
        exact ⟨_, qs', rfl, rfl, h3⟩
      | cell q' t =>
        simp only [cRs] at h1
        split at h1
        · rename_i k l' h3 h4
          cases h1
          exact ⟨_, l', rfl, by simp [cRs, h3], h4⟩
        · cases h1
    obtain ⟨q, qs', rfl, h3, h4⟩ := split1
    simp only [resAs] at h2
    split at h2
    · rename_i b bs h5 h6
      cases h2
      obtain ⟨u, h7, h8⟩ := run_res h3 h5 R hA
      obtain ⟨us, h9, h10⟩ := run_ress R hA h4 h6
      have h7' : (resRun a.tmps r).run P w = .ok u w := by cases r <;> exact h7
      exact ⟨u :: us, by simp [List.mapM_cons, h7', h9], u, us, rfl, h8, h10⟩
    · cases h2

/-- What nobody writes any more when the call comes back. -/
def left (S : Nat → Prop) (D : Nat → Option Ck) (μ : Nat → Nat × Nat) (sel : List Nat) : Nat → Prop := fun b => S b ∨ ∃ i c, D i = some c ∧ c.live = true ∧ sel.contains i = false ∧ b = (μ i).1
mutual
theorem retV_ar (R : Rl w0 O0 S0 s.D μ S w) {sel : List Nat} : ∀ (b : A) (x : V) (u : Value), retV s.h sel b = some x → AR s.D μ S w b u → Rep (left S s.D μ sel) w x u
  | .v x, y, u, h, k => by
    simp only [retV, Option.some.injEq] at h
    subst h
    exact Rep.mono (fun _ hb => .inl hb) (fun _ _ => rfl) _ _ k
  | .nil e, y, u, h, k => by
    simp only [retV, Option.some.injEq] at h
    subst h
    exact ⟨none, 0, k, Nat.le_refl _, Nat.zero_le _, trivial⟩
  | .sli i, y, u, h, k => by
    simp only [retV] at h
    split at h
    · cases h
    · rename_i ho
      split at h
      · rename_i e t xs hi
        cases h
        have h1 := k.sli_row hi
        have h2 := R.ck i
        unfold CR at h2
        rw [show s.D i = some (.row e t xs) from hi] at h2
        obtain ⟨cur, us, g1, g2, g3, g4, g5, g6⟩ := h2
        refine ⟨_, _, h1, g3, g4, RepR.toAt (.inr ⟨i, _, hi, rfl, by simpa using ho, rfl⟩) 0 (RepR.mono (fun _ hb => .inl hb) (fun _ _ => rfl) _ _ _ g5) (fun j z hz => ?_)⟩
        simp only [Nat.zero_mul, Nat.zero_add]
        exact row_cells g1 j z (by rw [← g6] at hz; exact take_get hz)
      · rename_i e xs hi
        cases h
        exact Rep.mono (fun _ hb => .inl hb) (fun _ _ => rfl) _ _ (k.sli_fz hi)
      · cases h
  | .ag cs, y, u, h, k => by
    simp only [retV, Option.map_eq_some_iff] at h
    obtain ⟨xs, h1, rfl⟩ := h
    obtain ⟨us, rfl, h2, h3⟩ := k
    exact ⟨us, rfl, retVs_ar R cs xs us h1 h2 h3⟩
  | .un, _, _, h, _ | .ud, _, _, h, _ | .ptr _ _, _, _, h, _ | .ep _ _ _ _, _, _, h, _ | .vw _ _ _ _, _, _, h, _ | .mp _, _, _, h, _ | .fp _ _, _, _, h, _ | .fq _, _, _, h, _ | .tu _, _, _, h, _ | .fn _ _, _, _, h, _ => by simp [retV] at h
theorem retVs_ar (R : Rl w0 O0 S0 s.D μ S w) {sel : List Nat} : ∀ (bs : List A) (xs : List V) (us : List Value), retVs s.h sel bs = some xs → ARs s.D μ S w bs us → (∀ z ∈ us, z.oneCell' = true) → RepL (left S s.D μ sel) w xs us
  | [], xs, us, h, k, _ => by simp only [retVs, Option.some.injEq] at h; subst h; exact k
  | b :: bs, xs, us, h, ⟨u, us', h1, h2, h3⟩, hz => by
    simp only [retVs] at h
    split at h
    · rename_i x ys h4 h5
      cases h
      subst h1
      have h6 := retV_ar R b x u h4 h2
      exact ⟨u, us', rfl, h6.notAg (hz u List.mem_cons_self), h6, retVs_ar R bs ys us' h5 h3 (fun z hz' => hz z (List.mem_cons_of_mem _ hz'))⟩
    · cases h
end
/-- The chunks that are handed over. -/
def selD (h : List Ck) (sel : List Nat) : Nat → Option Ck := fun j => (sel.map fun i => h.getD i .gone)[j]?
def selM (μ : Nat → Nat × Nat) (sel : List Nat) : Nat → Nat × Nat := fun j => μ (sel.getD j 0)
mutual
theorem okR_ar (R : Rl w0 O0 S0 s.D μ S w) {sel : List Nat} (hm : (sel.map fun i => s.h.getD i .gone).all Ck.okM = true) : ∀ (b r : A) (u : Value), okR s.h sel b r → AR s.D μ S w b u → AR (selD s.h sel) (selM μ sel) (left S s.D μ sel) w r u
  | .nil e, .nil e', u, h, k => k
  | .sli i, .sli j, u, h, k => by
    have h1 : sel[j]? = some i := h
    have e2 : sel.getD j 0 = i := by simp [h1]
    have e1 : selD s.h sel j = some (s.h.getD i .gone) := by simp [selD, h1]
    have hok := List.all_eq_true.1 hm _ (List.mem_of_getElem? e1)
    unfold AR at k ⊢
    refine ⟨k.1, ?_⟩
    replace k := k.2
    rw [e1]
    simp only [selM, e2]
    cases hi : s.h[i]? with
    | none => rw [show s.D i = none from hi] at k; exact k.elim
    | some c =>
      have e3 : s.h.getD i .gone = c := by simp [hi]
      rw [e3] at hok ⊢
      rw [show s.D i = some c from hi] at k
      cases c <;> first | (cases hok; done) | exact k
  | .ag az, .ag rs, u, h, ⟨us, h1, h2, h3⟩ => ⟨us, h1, okRs_ar R hm az rs us h h2, h3⟩
  | a, .v x, u, h, k => by
    have : retV s.h sel a = some x := by cases a <;> exact h
    exact retV_ar R a x u this k
  | .un, .un, _, h, _ | .un, .ud, _, h, _ | .un, .nil _, _, h, _ | .un, .sli _, _, h, _ | .un, .ptr _ _, _, h, _ | .un, .ep _ _ _ _, _, h, _ | .un, .vw _ _ _ _, _, h, _ | .un, .mp _, _, h, _ | .un, .fp _ _, _, h, _ | .un, .fq _, _, h, _ | .un, .ag _, _, h, _ | .un, .tu _, _, h, _ | .un, .fn _ _, _, h, _ => by cases h
  | .ud, .un, _, h, _ | .ud, .ud, _, h, _ | .ud, .nil _, _, h, _ | .ud, .sli _, _, h, _ | .ud, .ptr _ _, _, h, _ | .ud, .ep _ _ _ _, _, h, _ | .ud, .vw _ _ _ _, _, h, _ | .ud, .mp _, _, h, _ | .ud, .fp _ _, _, h, _ | .ud, .fq _, _, h, _ | .ud, .ag _, _, h, _ | .ud, .tu _, _, h, _ | .ud, .fn _ _, _, h, _ => by cases h
  | .v _, .un, _, h, _ | .v _, .ud, _, h, _ | .v _, .nil _, _, h, _ | .v _, .sli _, _, h, _ | .v _, .ptr _ _, _, h, _ | .v _, .ep _ _ _ _, _, h, _ | .v _, .vw _ _ _ _, _, h, _ | .v _, .mp _, _, h, _ | .v _, .fp _ _, _, h, _ | .v _, .fq _, _, h, _ | .v _, .ag _, _, h, _ | .v _, .tu _, _, h, _ | .v _, .fn _ _, _, h, _ => by cases h
  | .nil _, .un, _, h, _ | .nil _, .ud, _, h, _ | .nil _, .sli _, _, h, _ | .nil _, .ptr _ _, _, h, _ | .nil _, .ep _ _ _ _, _, h, _ | .nil _, .vw _ _ _ _, _, h, _ | .nil _, .mp _, _, h, _ | .nil _, .fp _ _, _, h, _ | .nil _, .fq _, _, h, _ | .nil _, .ag _, _, h, _ | .nil _, .tu _, _, h, _ | .nil _, .fn _ _, _, h, _ => by cases h
  | .sli _, .un, _, h, _ | .sli _, .ud, _, h, _ | .sli _, .nil _, _, h, _ | .sli _, .ptr _ _, _, h, _ | .sli _, .ep _ _ _ _, _, h, _ | .sli _, .vw _ _ _ _, _, h, _ | .sli _, .mp _, _, h, _ | .sli _, .fp _ _, _, h, _ | .sli _, .fq _, _, h, _ | .sli _, .ag _, _, h, _ | .sli _, .tu _, _, h, _ | .sli _, .fn _ _, _, h, _ => by cases h
  | .ptr _ _, .un, _, h, _ | .ptr _ _, .ud, _, h, _ | .ptr _ _, .nil _, _, h, _ | .ptr _ _, .sli _, _, h, _ | .ptr _ _, .ptr _ _, _, h, _ | .ptr _ _, .ep _ _ _ _, _, h, _ | .ptr _ _, .vw _ _ _ _, _, h, _ | .ptr _ _, .mp _, _, h, _ | .ptr _ _, .fp _ _, _, h, _ | .ptr _ _, .fq _, _, h, _ | .ptr _ _, .ag _, _, h, _ | .ptr _ _, .tu _, _, h, _ | .ptr _ _, .fn _ _, _, h, _ => by cases h
  | .ep _ _ _ _, .un, _, h, _ | .ep _ _ _ _, .ud, _, h, _ | .ep _ _ _ _, .nil _, _, h, _ | .ep _ _ _ _, .sli _, _, h, _ | .ep _ _ _ _, .ptr _ _, _, h, _ | .ep _ _ _ _, .ep _ _ _ _, _, h, _ | .ep _ _ _ _, .vw _ _ _ _, _, h, _ | .ep _ _ _ _, .mp _, _, h, _ | .ep _ _ _ _, .fp _ _, _, h, _ | .ep _ _ _ _, .fq _, _, h, _ | .ep _ _ _ _, .ag _, _, h, _ | .ep _ _ _ _, .tu _, _, h, _ | .ep _ _ _ _, .fn _ _, _, h, _ => by cases h
  | .vw _ _ _ _, .un, _, h, _ | .vw _ _ _ _, .ud, _, h, _ | .vw _ _ _ _, .nil _, _, h, _ | .vw _ _ _ _, .sli _, _, h, _ | .vw _ _ _ _, .ptr _ _, _, h, _ | .vw _ _ _ _, .ep _ _ _ _, _, h, _ | .vw _ _ _ _, .vw _ _ _ _, _, h, _ | .vw _ _ _ _, .mp _, _, h, _ | .vw _ _ _ _, .fp _ _, _, h, _ | .vw _ _ _ _, .fq _, _, h, _ | .vw _ _ _ _, .ag _, _, h, _ | .vw _ _ _ _, .tu _, _, h, _ | .vw _ _ _ _, .fn _ _, _, h, _ => by cases h
  | .mp _, .un, _, h, _ | .mp _, .ud, _, h, _ | .mp _, .nil _, _, h, _ | .mp _, .sli _, _, h, _ | .mp _, .ptr _ _, _, h, _ | .mp _, .ep _ _ _ _, _, h, _ | .mp _, .vw _ _ _ _, _, h, _ | .mp _, .mp _, _, h, _ | .mp _, .fp _ _, _, h, _ | .mp _, .fq _, _, h, _ | .mp _, .ag _, _, h, _ | .mp _, .tu _, _, h, _ | .mp _, .fn _ _, _, h, _ => by cases h
  | .fp _ _, .un, _, h, _ | .fp _ _, .ud, _, h, _ | .fp _ _, .nil _, _, h, _ | .fp _ _, .sli _, _, h, _ | .fp _ _, .ptr _ _, _, h, _ | .fp _ _, .ep _ _ _ _, _, h, _ | .fp _ _, .vw _ _ _ _, _, h, _ | .fp _ _, .mp _, _, h, _ | .fp _ _, .fp _ _, _, h, _ | .fp _ _, .fq _, _, h, _ | .fp _ _, .ag _, _, h, _ | .fp _ _, .tu _, _, h, _ | .fp _ _, .fn _ _, _, h, _ => by cases h
  | .fq _, .un, _, h, _ | .fq _, .ud, _, h, _ | .fq _, .nil _, _, h, _ | .fq _, .sli _, _, h, _ | .fq _, .ptr _ _, _, h, _ | .fq _, .ep _ _ _ _, _, h, _ | .fq _, .vw _ _ _ _, _, h, _ | .fq _, .mp _, _, h, _ | .fq _, .fp _ _, _, h, _ | .fq _, .fq _, _, h, _ | .fq _, .ag _, _, h, _ | .fq _, .tu _, _, h, _ | .fq _, .fn _ _, _, h, _ => by cases h
  | .ag _, .un, _, h, _ | .ag _, .ud, _, h, _ | .ag _, .nil _, _, h, _ | .ag _, .sli _, _, h, _ | .ag _, .ptr _ _, _, h, _ | .ag _, .ep _ _ _ _, _, h, _ | .ag _, .vw _ _ _ _, _, h, _ | .ag _, .mp _, _, h, _ | .ag _, .fp _ _, _, h, _ | .ag _, .fq _, _, h, _ | .ag _, .tu _, _, h, _ | .ag _, .fn _ _, _, h, _ => by cases h
  | .tu _, .un, _, h, _ | .tu _, .ud, _, h, _ | .tu _, .nil _, _, h, _ | .tu _, .sli _, _, h, _ | .tu _, .ptr _ _, _, h, _ | .tu _, .ep _ _ _ _, _, h, _ | .tu _, .vw _ _ _ _, _, h, _ | .tu _, .mp _, _, h, _ | .tu _, .fp _ _, _, h, _ | .tu _, .fq _, _, h, _ | .tu _, .ag _, _, h, _ | .tu _, .tu _, _, h, _ | .tu _, .fn _ _, _, h, _ => by cases h
  | .fn _ _, .un, _, h, _ | .fn _ _, .ud, _, h, _ | .fn _ _, .nil _, _, h, _ | .fn _ _, .sli _, _, h, _ | .fn _ _, .ptr _ _, _, h, _ | .fn _ _, .ep _ _ _ _, _, h, _ | .fn _ _, .vw _ _ _ _, _, h, _ | .fn _ _, .mp _, _, h, _ | .fn _ _, .fp _ _, _, h, _ | .fn _ _, .fq _, _, h, _ | .fn _ _, .ag _, _, h, _ | .fn _ _, .tu _, _, h, _ | .fn _ _, .fn _ _, _, h, _ => by cases h
theorem okRs_ar (R : Rl w0 O0 S0 s.D μ S w) {sel : List Nat} (hm : (sel.map fun i => s.h.getD i .gone).all Ck.okM = true) : ∀ (bs rs : List A) (us : List Value), okRs s.h sel bs rs → ARs s.D μ S w bs us → ARs (selD s.h sel) (selM μ sel) (left S s.D μ sel) w rs us
  | [], [], _, _, k => k
  | b :: bs, r :: rs, _, h, ⟨u, us', h1, h2, h3⟩ => ⟨u, us', h1, okR_ar R hm b r u h.1 h2, okRs_ar R hm bs rs us' h.2 h3⟩
  | [], _ :: _, _, h, _ => by cases h
  | _ :: _, [], _, h, _ => by cases h
end
theorem Rl.sel (R : Rl w0 O0 S0 s.D μ S w) {sel : List Nat} (hn : sel.Nodup) (hm : (sel.map fun i => s.h.getD i .gone).all Ck.okM = true) : Rl w0 O0 S0 (selD s.h sel) (selM μ sel) (left S s.D μ sel) w := by
  have get : ∀ j c, selD s.h sel j = some c → c.live = true → ∃ i, sel[j]? = some i ∧ s.D i = some c ∧ selM μ sel j = μ i := by
    intro j c hj hl
    simp only [selD, List.getElem?_map, Option.map_eq_some_iff] at hj
    obtain ⟨i, hi, hc⟩ := hj
    refine ⟨i, hi, ?_, by simp [selM, hi]⟩
    cases hh : s.h[i]? with
    | none => simp [hh] at hc; subst hc; cases hl
    | some c' => simp [hh] at hc; subst hc; exact hh
  refine ⟨R.os, R.tape, R.output, R.size, R.keep, fun b hb => .inl (R.sub b hb), fun b hb => ?_, fun b hb => ?_, fun j => ?_, fun j c hc hl => ?_, fun j k c d hc hd hl hl' he => ?_⟩
  · rcases hb with hb | ⟨i, c, hc, hl, _, rfl⟩
    · exact R.new b hb
    · exact .inr ((R.own i c hc hl).2.2)
  · rcases hb with hb | ⟨i, c, hc, hl, _, rfl⟩
    · exact R.lt b hb
    · exact R.live_lt hc hl
  · cases hj : selD s.h sel j with
    | none => unfold CR; rw [hj]; trivial
    | some c =>
      have hok := List.all_eq_true.1 hm c (List.mem_of_getElem? hj)
      by_cases hl : c.live = true
      · obtain ⟨i, hi, h1, h2⟩ := get j c hj hl
        have h3 := okM_cr (D' := selD s.h sel) (μ' := selM μ sel) hok h1 hj h2 (R.ck i)
        exact h3.tr (D := selD s.h sel) (μ := selM μ sel) ⟨fun _ hb => .inl hb, fun _ _ => rfl, fun q u hu => by
          unfold AR at hu ⊢
          refine ⟨hu.1, ?_⟩
          replace hu := hu.2
          split at hu
          · exact hu
          · exact Rep.mono (fun _ hb => .inl hb) (fun _ _ => rfl) _ _ hu
          · trivial
          · exact hu.elim, fun q c h => ⟨rfl, c, h⟩⟩ rfl rfl (fun _ _ _ => rfl)
      · unfold CR
        rw [hj]
        cases c <;> first | trivial | (exact absurd rfl hl) | (cases hok)
  · obtain ⟨i, hi, h1, h2⟩ := get j c hc hl
    rw [h2]
    obtain ⟨q1, q2, q3⟩ := R.own i c h1 hl
    refine ⟨?_, q2, q3⟩
    rintro (hb | ⟨i', c', hc', hl', hne, he⟩)
    · exact q1 hb
    · have := R.inj i i' c c' h1 hc' hl hl' he
      subst this
      have := List.mem_of_getElem? hi
      simp at hne
      exact hne this
  · obtain ⟨i, hi, h1, h2⟩ := get j c hc hl
    obtain ⟨i', hi', h1', h2'⟩ := get k d hd hl'
    rw [h2, h2'] at he
    have := R.inj i i' c d h1 h1' hl hl' he
    subst this
    have e1 := posL_get hn hi
    rw [posL_get hn hi'] at e1
    exact (Option.some.inj e1).symm
theorem getD_args {az : List A} {us : List Value} (h : ARs D μ S w az us) (n m i : Nat) : AR D μ S w ((az ++ List.replicate n A.ud).getD i A.un) ((us.toArray ++ Array.replicate m undef).getD i undef) := by
  have hl := h.length
  simp only [List.getD_eq_getElem?_getD, Array.getD_eq_getD_getElem?]
  by_cases hi : i < az.length
  · obtain ⟨u, h1, h2⟩ := h.get (List.getElem?_eq_getElem hi)
    rw [List.getElem?_append_left hi, List.getElem?_eq_getElem hi, Array.getElem?_append_left (by simpa [hl] using hi)]
    simp only [List.getElem?_toArray, h1, Option.getD_some]
    exact h2
  · rw [List.getElem?_append_right (by omega), Array.getElem?_append_right (by simp [hl]; omega)]
    have : ((Array.replicate m undef)[i - us.toArray.size]?).getD undef = undef := by
      rw [Array.getElem?_replicate]
      split <;> rfl
    rw [this]
    rw [List.getElem?_replicate]
    split
    · rfl
    · trivial
theorem spg_of {f : Nat} {fn : Func} {af : AF} {az : List A} {hin : List Ck} {r : A} {hs : List Ck} (hm : P.follows .mixedOrders = true) (hf : P.funcs[f]? = some fn) (hc : cF P fn = some af) (h : awpF P m af az hin r hs) : SpG P f az hin r hs := by
  unfold cF at hc
  split at hc
  · rename_i c hb
    split at hc
    · rename_i ac qs h1 h2
      split at hc
      · cases hc
      · rename_i hname
        cases hc
        refine ⟨⟨fn, hf, by simp [hb], hname⟩, fun S w us O μ R0 hus => ?_⟩
        have hlen := hus.length
        have hok : Ok w O S (fun i => hin[i]?) μ ⟨az ++ List.replicate (fn.ntmps - az.length) .ud, hin⟩ { tmps := us.toArray ++ Array.replicate (fn.ntmps - us.toArray.size) undef, defers := [] } w :=
          ⟨μ, S, R0, Tr.refl, by simp [hlen], fun i => getD_args hus _ _ i, rfl⟩
        refine calls_of_wp hf hb (wp_mono (awp_sound (k0 := hin.length) (fun i c hc => (List.getElem?_eq_some_iff.1 hc).1) hm c ac _ _ w _ h1 h hok) ?_)
        rintro e a' w' ⟨x, s', rfl, hq, hok'⟩
        have fin : retOk s' hin.length qs r hs → a'.defers = [] ∧ ∃ v, (results fn a'.tmps).run P w' = .ok v w' ∧ ∃ u S' μ', Ending.returned v = .returned u ∧ Rl w O S (fun i => hs[i]?) μ' S' w' ∧ Tr (fun i => hin[i]?) μ S w (fun i => hs[i]?) μ' S' w' ∧ AR (fun i => hs[i]?) μ' S' w' r u := by
          rintro ⟨bs, h3, h4, hnd, hokM, hrr, h5⟩
          obtain ⟨μ1, S', R, T0, _, hA, hd⟩ := hok'
          refine ⟨hd, ?_⟩
          obtain ⟨vs, h6, h7⟩ := run_ress R hA h2 h3
          have hres : (results fn a'.tmps).run P w' = .ok (if h : vs.length = 1 then vs[0] else .tuple vs.toArray) w' := by
            have hg : results fn a'.tmps = (fn.results.mapM (resRun a'.tmps) >>= fun vs => Pure.pure (if h : vs.size = 1 then vs[0] else .tuple vs)) := by
              unfold results
              congr 1
            rw [hg, Array.mapM_eq_mapM_toList]
            simp only [Sem.run_bind, Sem.run_map, h6, Result.andThen_ok, Sem.run_pure]
            simp
          rw [h4] at hokM
          generalize hsel : List.range hin.length ++ newIdss hin.length bs (unR qs.length r) = sel at h4 hnd hokM h5
          have hDD : selD s'.h sel = fun i => hs[i]? := by funext j; rw [h4]; rfl
          have R' := R.sel hnd hokM
          have h8 := okRs_ar R hokM _ _ _ h5 h7
          rw [hDD] at R' h8
          have T' : Tr (fun i => hin[i]?) μ S w (fun i => hs[i]?) (selM μ1 sel) (left S' s'.D μ1 sel) w' := by
            have at_k : ∀ (k : Nat) (c : Ck), hin[k]? = some c → sel[k]? = some k ∧ ∃ c', s'.h[k]? = some c' := by
              intro k c hk
              have hlt : k < hin.length := (List.getElem?_eq_some_iff.1 hk).1
              refine ⟨?_, (T0.ptr k c hk).2⟩
              rw [← hsel, List.getElem?_append_left (by simpa using hlt), List.getElem?_range hlt]
            refine ⟨fun b hb => .inl (T0.sub b hb), T0.heap, fun k u hu => ?_, fun k c hk => ?_⟩
            · cases hk : hin[k]? with
              | none => unfold AR at hu; simp only [hk] at hu; exact hu.2.elim
              | some c =>
                obtain ⟨e1, c', e2⟩ := at_k k c hk
                have := okR_ar R hokM (.sli k) (.sli k) u (show sel[k]? = some k from e1) (T0.sli k u hu)
                rw [hDD] at this
                exact this
            · obtain ⟨e1, c', e2⟩ := at_k k c hk
              refine ⟨by simp only [selM, List.getD_eq_getElem?_getD, e1, Option.getD_some]; exact (T0.ptr k c hk).1, c', ?_⟩
              rw [h4]
              simp [e1, e2]
          refine ⟨_, hres, _, _, _, rfl, R', T', ?_⟩
          have hl := h8.length
          have hl2 := h7.length
          have hql : bs.length = qs.length := by
            have : ∀ (qs : List (Nat × Option Nat)) (bs : List A), resAs s' qs = some bs → bs.length = qs.length := by
              intro qs
              induction qs with
              | nil => intro bs h; simp only [resAs, Option.some.injEq] at h; subst h; rfl
              | cons q qs ih =>
                intro bs h
                simp only [resAs] at h
                split at h
                · rename_i b bs' h9 h10; cases h; simp [ih _ h10]
                · cases h
            exact this _ _ h3
          by_cases hone : qs.length = 1
          · have e1 : unR qs.length r = [r] := by simp [unR, hone]
            rw [e1] at h8
            obtain ⟨u, us', e2, h9, h10⟩ := h8
            simp only [ARs] at h10
            subst h10
            subst e2
            exact h9
          · rcases hrr with hrr | hrr
            · exact absurd hrr hone
            · rw [hrr]
              rw [dif_neg (by omega)]
              exact ⟨vs, rfl, h8⟩
        cases x with
        | nrm => exact fin hq
        | exit i => exact hq.elim
        | ret => exact fin hq
    · cases hc
  · cases hc
end
end Go.Proofs.YtihkjljafjhniaaEv
namespace Go.Proofs.YtihkjljafjhniaaEv
open Go

universe u v
/-- Not to be looked into, until it is applied. -/
structure Tag {α : Sort u} (a : α) : Type
def hd {α : Sort u} (a : α) (_ : Tag a) : α := a
theorem hd_app {α : Sort u} {β : Sort v} {K : α → β} {t : Tag K} {x : α} : hd K t x = K x := Eq.trans rfl rfl

section
variable {P : Program} {m : Nat → Bool} {k0 : Nat} {Q : Ex → St → Prop} {s : St}
/-! what comes after: told by names, so that it is not looked into before its turn -/
def seqQ (P : Program) (m : Nat → Bool) (k0 : Nat) (b : AC) (Q : Ex → St → Prop) : Ex → St → Prop := fun e s' => match e with | .nrm => awp P m k0 b Q s' | e => Q e s'
def blkQ (i : Nat) (Q : Ex → St → Prop) : Ex → St → Prop := fun e s' => match e with | .exit j => if j = i then Q .nrm s' else Q e s' | e => Q e s'
def endQ (n : Nat) (rs : List (Nat × Option Nat)) (r : A) (hs : List Ck) : Ex → St → Prop := fun e s => match e with | .exit _ => False | _ => retOk s n rs r hs
def opsK (Q : Ex → St → Prop) : St → FP → Prop := fun s' _ => Q .nrm s'
def regK (tb : List Nat) (Q : Ex → St → Prop) : St → FP → Prop := fun s' f => fpOk tb f = true ∧ Q .nrm s'
def oneK (P : Program) (m : Nat → Bool) (os : List AO) (f : FP) (K : St → FP → Prop) : St → List Nat → List Nat → Prop := fun s' rd wr => aops P m os s' (f ++ [(rd, wr)]) K
def putK (t : List A) (d : Option Nat) (K : St → List Nat → List Nat → Prop) : KT := fun r rd wr h => K (St.set ⟨t, h⟩ d r) rd wr
theorem seqQ_nrm {b : AC} : seqQ P m k0 b Q .nrm s = awp P m k0 b Q s := Eq.trans rfl rfl
theorem seqQ_exit {b : AC} {i : Nat} : seqQ P m k0 b Q (.exit i) s = Q (.exit i) s := Eq.trans rfl rfl
theorem seqQ_ret {b : AC} : seqQ P m k0 b Q .ret s = Q .ret s := Eq.trans rfl rfl
theorem blkQ_nrm {i : Nat} : blkQ i Q .nrm s = Q .nrm s := Eq.trans rfl rfl
theorem blkQ_exit {i j : Nat} : blkQ i Q (.exit j) s = if j = i then Q .nrm s else Q (.exit j) s := Eq.trans rfl rfl
theorem blkQ_ret {i : Nat} : blkQ i Q .ret s = Q .ret s := Eq.trans rfl rfl
section
variable {n : Nat} {rs : List (Nat × Option Nat)} {r : A} {hs : List Ck}
theorem endQ_nrm : endQ n rs r hs .nrm s = retOk s n rs r hs := Eq.trans rfl rfl
theorem endQ_exit {i : Nat} : endQ n rs r hs (.exit i) s = False := Eq.trans rfl rfl
theorem endQ_ret : endQ n rs r hs .ret s = retOk s n rs r hs := Eq.trans rfl rfl
end
theorem opsK_app {f : FP} : opsK Q s f = Q .nrm s := Eq.trans rfl rfl
theorem regK_app {tb : List Nat} {f : FP} : regK tb Q s f = (fpOk tb f = true ∧ Q .nrm s) := Eq.trans rfl rfl
theorem oneK_app {os : List AO} {f : FP} {K : St → FP → Prop} {rd wr : List Nat} : oneK P m os f K s rd wr = aops P m os s (f ++ [(rd, wr)]) K := Eq.trans rfl rfl
theorem putK_app {t : List A} {d : Option Nat} {K : St → List Nat → List Nat → Prop} {r : A} {rd wr : List Nat} {h : List Ck} : putK t d K r rd wr h = K (St.set ⟨t, h⟩ d r) rd wr := Eq.trans rfl rfl
theorem awp_skip : awp P m k0 .skip Q s = Q .nrm s := Eq.trans rfl rfl
theorem awp_ops {os : List AO} : awp P m k0 (.ops os) Q s = aops P m os s [] (opsK Q) := Eq.trans rfl rfl
theorem awp_reg {tb : List Nat} {os : List AO} : awp P m k0 (.reg tb os) Q s = aops P m os s [] (regK tb Q) := Eq.trans rfl rfl
theorem awp_seq {a b : AC} : awp P m k0 (.seq a b) Q s = awp P m k0 a (seqQ P m k0 b Q) s := Eq.trans rfl rfl
theorem awp_block {i : Nat} {b : AC} : awp P m k0 (.block i b) Q s = awp P m k0 b (blkQ i Q) s := Eq.trans rfl rfl
theorem awp_exit {i : Nat} : awp P m k0 (.exit i) Q s = Q (.exit i) s := Eq.trans rfl rfl
theorem awp_ret : awp P m k0 .ret Q s = Q .ret s := Eq.trans rfl rfl
theorem awp_bad : awp P m k0 .bad Q s = False := Eq.trans rfl rfl
def condQ (P : Program) (m : Nat → Bool) (k0 : Nat) (t : Bool) (c : X) (a b : AC) (Q : Ex → St → Prop) (s : St) : Prop := (t = true → awp P m k0 a Q (s.setX c (.v (.bool true)))) ∧ (t = false → awp P m k0 b Q (s.setX c (.v (.bool false))))
theorem condQ_t {c : X} {a b : AC} : condQ P m k0 true c a b Q s = awp P m k0 a Q (s.setX c (.v (.bool true))) := by simp [condQ]
theorem condQ_f {c : X} {a b : AC} : condQ P m k0 false c a b Q s = awp P m k0 b Q (s.setX c (.v (.bool false))) := by simp [condQ]
theorem condQ_any {t : Bool} {c : X} {a b : AC} : condQ P m k0 t c a b Q s = ((t = true → awp P m k0 a Q (s.setX c (.v (.bool true)))) ∧ (t = false → awp P m k0 b Q (s.setX c (.v (.bool false))))) := Eq.trans rfl rfl
theorem awp_cond {c : X} {a b : AC} : awp P m k0 (.cond c a b) Q s = match s.x c with
    | .v (.bool t) => condQ P m k0 t c a b Q s
    | _ => False := Eq.trans rfl rfl
theorem aops_nil {K : St → FP → Prop} {f : FP} : aops P m [] s f K = K s f := Eq.trans rfl rfl
theorem aops_cons {o : AO} {os : List AO} {f : FP} {K : St → FP → Prop} : aops P m (o :: os) s f K = aAO P m s (oneK P m os f K) o := Eq.trans rfl rfl
theorem aAO_none {K : St → List Nat → List Nat → Prop} {d : Option Nat} {o : O} : aAO P m s K ⟨d, none, o⟩ = aop P m s (putK s.t d K) o := Eq.trans rfl rfl
def gdK (P : Program) (m : Nat → Bool) (t b : Bool) (g : Nat) (d : Option Nat) (o : O) (K : St → List Nat → List Nat → Prop) (s : St) : Prop := (t = b → aop P m (s.setX (.t g) (.v (.bool b))) (putK (s.t.set g (.v (.bool b))) d K) o) ∧ (t = !b → K (St.set ⟨s.t.set g (.v (.bool !b)), s.h⟩ d .ud) [] [])
section
variable {K : St → List Nat → List Nat → Prop} {d : Option Nat} {o : O} {g : Nat} {b t : Bool}
theorem gdK_tt : gdK P m true true g d o K s = aop P m (s.setX (.t g) (.v (.bool true))) (putK (s.t.set g (.v (.bool true))) d K) o := by simp [gdK]
theorem gdK_ff : gdK P m false false g d o K s = aop P m (s.setX (.t g) (.v (.bool false))) (putK (s.t.set g (.v (.bool false))) d K) o := by simp [gdK]
theorem gdK_tf : gdK P m true false g d o K s = K (St.set ⟨s.t.set g (.v (.bool true)), s.h⟩ d .ud) [] [] := by simp [gdK]
theorem gdK_ft : gdK P m false true g d o K s = K (St.set ⟨s.t.set g (.v (.bool false)), s.h⟩ d .ud) [] [] := by simp [gdK]
theorem gdK_any : gdK P m t b g d o K s = ((t = b → aop P m (s.setX (.t g) (.v (.bool b))) (putK (s.t.set g (.v (.bool b))) d K) o) ∧ (t = !b → K (St.set ⟨s.t.set g (.v (.bool !b)), s.h⟩ d .ud) [] [])) := Eq.trans rfl rfl
theorem aAO_some : aAO P m s K ⟨d, some (g, b), o⟩ = match s.x (.t g) with
    | .v (.bool t) => gdK P m t b g d o K s
    | .ud => K (s.set d .ud) [] []
    | _ => False := Eq.trans rfl rfl
end
def pickK (t : Bool) (K : KT) (a b : A) (h : List Ck) : Prop := (t = true → K a [] [] h) ∧ (t = false → K b [] [] h)
theorem pickK_t {K : KT} {a b : A} {h : List Ck} : pickK true K a b h = K a [] [] h := by simp [pickK]
theorem pickK_f {K : KT} {a b : A} {h : List Ck} : pickK false K a b h = K b [] [] h := by simp [pickK]
theorem pickK_any {t : Bool} {K : KT} {a b : A} {h : List Ck} : pickK t K a b h = ((t = true → K a [] [] h) ∧ (t = false → K b [] [] h)) := Eq.trans rfl rfl
theorem fA_none {α : Type} {K : α → Prop} : fA none K = True := by simp [fA]
theorem fA_some {α : Type} {a : α} {K : α → Prop} : fA (some a) K = K a := by simp [fA]
theorem fA_map {α β : Type} {g : α → β} {l : List α} {n : Nat} {K : β → Prop} : fA ((l.map g)[n]?) K = ∀ a, l[n]? = some a → K (g a) := by
  apply propext
  simp [fA]
theorem fA_omap {α β : Type} {g : α → β} {o : Option α} {K : β → Prop} : fA (o.map g) K = ∀ a, o = some a → K (g a) := by
  apply propext
  simp [fA]
section
variable {K : KT} {x y i : X} {e k : Nat}
theorem aop_mv : aop P m s K (.mv x) = K (s.x x) [] [] s.h := Eq.trans rfl rfl
theorem aop_pick {c a b : X} : aop P m s K (.pick c a b) = match s.x c with
    | .v (.bool t) => pickK t K (s.x a) (s.x b) s.h
    | _ => False := Eq.trans rfl rfl
theorem aop_bin {op : BinOp} : aop P m s K (.bin op x y) = oK (binF op (s.x x) (s.x y)) (hd (fun r => K (.v r) [] [] s.h) ⟨⟩) := Eq.trans rfl rfl
theorem aop_eq {ne : Bool} {n : Nat} {ts : List Nat} : aop P m s K (.eq ne n ts x y) = match s.x x, s.x y with
    | .v a, .v b => oK (eqT ts a.cs b.cs) (hd (fun p => a.isAg = (n != 0) ∧ b.isAg = (n != 0) ∧ K (.v (.bool (cdec p != ne))) [] [] s.h) ⟨⟩)
    | _, _ => False := Eq.trans rfl rfl
theorem aop_eqn {ne : Bool} : aop P m s K (.eqn ne x) = match s.x x with
    | .nil _ => K (.v (.bool (true != ne))) [] [] s.h
    | .v (.sl _ xs) => xs ≠ [] ∧ K (.v (.bool (false != ne))) [] [] s.h
    | .sli i => match s.h[i]? with
      | some (.row ..) => K (.v (.bool (false != ne))) [i] [] s.h
      | some (.fz _ xs) => xs ≠ [] ∧ K (.v (.bool (false != ne))) [i] [] s.h
      | _ => False
    | _ => False := Eq.trans rfl rfl
theorem aop_un {op : UnOp} : aop P m s K (.un op x) = oK (unF op (s.x x)) (hd (fun r => K (.v r) [] [] s.h) ⟨⟩) := Eq.trans rfl rfl
theorem aop_conv {k : IntKind} : aop P m s K (.conv k x) = match s.x x with
    | .v (.int _ n) => K (.v (.int k (k.wrap n))) [] [] s.h
    | _ => False := Eq.trans rfl rfl
theorem aop_fld {off : Nat} : aop P m s K (.fld x off k) = oK (fldF (s.x x) off k) (hd (fun r => K r [] [] s.h) ⟨⟩) := Eq.trans rfl rfl
theorem aop_fa {off : Nat} : aop P m s K (.fa x off) = match s.x x with
    | .ptr i o => K (.ptr i (o + off)) [] [] s.h
    | .ep i e n o => K (.ep i e n (o + off)) [] [] s.h
    | .fq cs => K (.fq (cs.drop off)) [] [] s.h
    | .fp _ (.ag cs) => K (.fq (cs.drop off)) [] [] s.h
    | _ => False := Eq.trans rfl rfl
theorem aop_ia : aop P m s K (.ia x i e) = match s.x i with
    | .v (.int _ n) => match s.x x with
      | .v (.sl e' xs) => e' = e ∧ (0 ≤ n ∧ n < xs.length) ∧ fA (xs[n.toNat]?) (hd (fun y => K (.fp e y) [] [] s.h) ⟨⟩)
      | .sli c => match s.h[c]? with
        | some (.fz e' xs) => e' = e ∧ (0 ≤ n ∧ n < xs.length) ∧ fA (xs[n.toNat]?) (hd (fun y => K (.fp e y) [c] [] s.h) ⟨⟩)
        | some (.row e' _ xs) => e' = e ∧ (0 ≤ n ∧ n < xs.length) ∧ K (.ep c e n 0) [c] [] s.h
        | _ => False
      | _ => False
    | _ => False := Eq.trans rfl rfl
theorem aop_si : aop P m s K (.si x i) = match s.x x, s.x i with
    | .v (.str b), .v (.int _ n) => (0 ≤ n ∧ n < b.size) ∧ fA (b[n.toNat]?) (hd (fun y : UInt8 => K (.v (.int .u8 y.toNat)) [] [] s.h) ⟨⟩)
    | _, _ => False := Eq.trans rfl rfl
theorem aop_ld : aop P m s K (.ld x k) = match s.x x with
    | .fp e y => e = k ∧ K (.v y) [] [] s.h
    | .fq cs => if k = 0 then oK cs[0]? (hd (fun y => K (.v y) [] [] s.h) ⟨⟩) else k ≤ cs.length ∧ K (.v (.ag (cs.take k))) [] [] s.h
    | .ptr c off => match s.h[c]? with
      | some (.box cs) => if k = 0 then oK cs[off]? (hd (fun y => K y [c] [] s.h) ⟨⟩) else off + k ≤ cs.length ∧ K (mkAg ((cs.drop off).take k)) [c] [] s.h
      | some (.fb cs) => if k = 0 then oK cs[off]? (hd (fun y => K (.v y) [c] [] s.h) ⟨⟩) else off + k ≤ cs.length ∧ K (.v (.ag ((cs.drop off).take k))) [c] [] s.h
      | _ => False
    | .ep c e n off => match s.h[c]? with
      | some (.row e' _ xs) => e' = e ∧ n.toNat < xs.length ∧ fA (xs[n.toNat]?) (hd (fun y =>
          if k = e ∧ off = 0 then K (.v y) [c] [] s.h else match y with
          | .ag cs => if k = 0 then oK cs[off]? (hd (fun z => K (.v z) [c] [] s.h) ⟨⟩) else off + k ≤ cs.length ∧ K (.v (.ag ((cs.drop off).take k))) [c] [] s.h
          | _ => False) ⟨⟩)
      | _ => False
    | _ => False := Eq.trans rfl rfl
theorem aop_st : aop P m s K (.st x y k) = match s.x x with
    | .ptr c off => match s.h[c]? with
      | some (.box cs) => oK (s.x y).cells? (hd (fun ys => ys.length = cz k ∧ off + cz k ≤ cs.length ∧ K .ud [c] [c] (s.h.set c (.box (put cs off ys)))) ⟨⟩)
      | _ => False
    | .ep c e n off => match s.h[c]? with
      | some (.row e' t xs) => if k = e ∧ off = 0 then oK (toV s.h (s.x y)) (hd (fun z => e' = e ∧ n.toNat < xs.length ∧ shape e z ∧ K .ud [c] [c] (s.h.set c (.row e t (xs.set n.toNat z)))) ⟨⟩)
        else oK (toV s.h (s.x y)) (hd (fun z => e' = e ∧ n.toNat < xs.length ∧ z.cs.length = cz k ∧ fA (xs[n.toNat]?) (hd (fun x => off + cz k ≤ x.cs.length ∧ x.isAg = true ∧ K .ud [c] [c] (s.h.set c (.row e t (xs.set n.toNat (.ag (put x.cs off z.cs)))))) ⟨⟩)) ⟨⟩)
      | _ => False
    | _ => False := Eq.trans rfl rfl
theorem aop_bld {zs : List A} {ps : List (Nat × Nat × X)} : aop P m s K (.bld zs ps) = oK (fillA zs (ps.map fun p => (p.1, p.2.1, s.x p.2.2))) (hd (fun cs => K (mkAg cs) [] [] s.h) ⟨⟩) := Eq.trans rfl rfl
theorem aop_bsl {t : Nat} {ps : List X} : aop P m s K (.bsl e t ps) = oK (toVs s.h (ps.map s.x)) (hd (fun zs => (∀ z ∈ zs, shape e z) ∧ K (.sli s.h.length) [] [s.h.length] (s.h ++ [.row e t zs])) ⟨⟩) := Eq.trans rfl rfl
theorem aop_box : aop P m s K (.box x) = oK (s.x x).cells? (hd (fun cs => K (.ptr s.h.length 0) [] [s.h.length] (s.h ++ [.box cs])) ⟨⟩) := Eq.trans rfl rfl
theorem aop_al {zs : List A} : aop P m s K (.al zs) = K (.ptr s.h.length 0) [] [s.h.length] (s.h ++ [.box zs]) := Eq.trans rfl rfl
theorem aop_mk {t b : Nat} {z : V} {n c : X} : aop P m s K (.mk e t b z n c) = match s.x n, s.x c with
    | .v (.int _ l), .v (.int _ c') => (0 ≤ l ∧ l ≤ c' ∧ b * c' ≤ 140737488355328 ∧ c' ≤ 140737488355328) ∧ K (.sli s.h.length) [] [s.h.length] (s.h ++ [.row e t (List.replicate l.toNat z)])
    | _, _ => False := Eq.trans rfl rfl
theorem aop_ssub {lo hi : Option X} : aop P m s K (.ssub x lo hi) = match s.x x with
    | .v (.str b) => oK (optI s 0 lo) (hd (fun l => oK (optI s b.size hi) (hd (fun h => (0 ≤ l ∧ l ≤ h ∧ h ≤ b.size) ∧ K (.v (.str (b.extract l.toNat h.toNat))) [] [] s.h) ⟨⟩)) ⟨⟩)
    | _ => False := Eq.trans rfl rfl
theorem aop_sub {lo hi : Option X} : aop P m s K (.sub e x lo hi) = match s.x x with
    | .v (.sl e' xs) => e' = e ∧ oK (optI s 0 lo) (hd (fun l => oK (optI s xs.length hi) (hd (fun h => (0 ≤ l ∧ l ≤ h ∧ h ≤ xs.length) ∧ K (.v (.sl e ((xs.drop l.toNat).take (h.toNat - l.toNat)))) [] [] s.h) ⟨⟩)) ⟨⟩)
    | .sli c => match s.h[c]? with
      | some (.fz e' xs) => e' = e ∧ oK (optI s 0 lo) (hd (fun l => oK (optI s xs.length hi) (hd (fun h => (0 ≤ l ∧ l ≤ h ∧ h ≤ xs.length) ∧ K (.v (.sl e ((xs.drop l.toNat).take (h.toNat - l.toNat)))) [c] [] s.h) ⟨⟩)) ⟨⟩)
      | _ => False
    | _ => False := Eq.trans rfl rfl
theorem aop_ext {j : Nat} : aop P m s K (.ext x j) = match s.x x with
    | .tu vs => oK vs[j]? (hd (fun a => K a [] [] s.h) ⟨⟩)
    | _ => False := Eq.trans rfl rfl
theorem aop_call {f : Nat} {xs : List X} : aop P m s K (.call f xs) = if m f = true then callM P s K f (xs.map s.x) else callS P s K f (xs.map s.x) := Eq.trans rfl rfl
theorem aop_callv {xs : List X} : aop P m s K (.callv x xs) = match s.x x with
    | .fn f cs => callS P s K f (xs.map s.x ++ cs)
    | _ => False := Eq.trans rfl rfl
theorem aop_slen : aop P m s K (.len true x) = match s.x x with
    | .v (.str b) => K (.v (.int .i64 b.size)) [] [] s.h
    | _ => False := Eq.trans rfl rfl
theorem aop_len : aop P m s K (.len false x) = oK (rowOf s.h (s.x x)) (hd (fun (_, xs, rd) => K (.v (.int .i64 xs.length)) rd [] s.h) ⟨⟩) := Eq.trans rfl rfl
theorem aop_app {t b : Nat} : aop P m s K (.app e t b x y) = oK (rowOf s.h (s.x y)) (hd (fun (e0, ys, rd) => e0 = e ∧ match s.x x with
    | .nil _ => (ys ≠ [] ∧ ys.length * b ≤ 140737488355328 ∧ ys.length ≤ 140737488355328) ∧ K (.sli s.h.length) rd [s.h.length] (s.h ++ [.row e t ys])
    | .sli c => match s.h[c]? with
      | some (.row e' t' xs) => e' = e ∧ t' = t ∧ c ∉ rd ∧ ((xs.length + ys.length) * b ≤ 140737488355328 ∧ xs.length + ys.length ≤ 140737488355328) ∧
          K (.sli s.h.length) (c :: rd) [c, s.h.length] (s.h.set c .gone ++ [.row e t (xs ++ ys)])
      | _ => False
    | _ => False) ⟨⟩) := Eq.trans rfl rfl
theorem aop_mm {g : Bool} : aop P m s K (.mm g x y) = match s.x x, s.x y with
    | .v (.int k a), .v (.int _ b) => K (.v (.int k (if g = true then (if b > a then b else a) else (if b < a then b else a)))) [] [] s.h
    | _, _ => False := Eq.trans rfl rfl
theorem aop_nck : aop P m s K (.nck x) = match s.x x with
    | .ptr i o => K (.ptr i o) [] [] s.h
    | .ep i e n o => K (.ep i e n o) [] [] s.h
    | .fq cs => K (.fq cs) [] [] s.h
    | .fp e y => K (.fp e y) [] [] s.h
    | _ => False := Eq.trans rfl rfl
theorem aop_bad : aop P m s K .bad = False := Eq.trans rfl rfl
theorem aop_mkf {f : Nat} {xs : List X} : aop P m s K (.mkf f xs) = oK (frzH s.h (capJ s.h (xs.map s.x)) 0 s.h) (hd (fun h' => oK (capAs h' (xs.map s.x)) (hd (fun cs => K (.fn f cs) [] (capJ s.h (xs.map s.x)) h') ⟨⟩)) ⟨⟩) := Eq.trans rfl rfl
end
def forQ {α : Type} (k0 : Nat) (ks : List Bool) (F : α → St) (p : α → Prop) (v : α → Nat) (x : α) (Q : Ex → St → Prop) : Ex → St → Prop := fun e s' => match e with | .nrm => ∃ y, s'.cmp k0 ks = F y ∧ p y ∧ v y < v x | e => Q e s'
section
variable {α : Type} {ks : List Bool} {F : α → St} {p : α → Prop} {v : α → Nat} {x : α}
theorem forQ_nrm : forQ k0 ks F p v x Q .nrm s = ∃ y, s.cmp k0 ks = F y ∧ p y ∧ v y < v x := Eq.trans rfl rfl
theorem forQ_exit {i : Nat} : forQ k0 ks F p v x Q (.exit i) s = Q (.exit i) s := Eq.trans rfl rfl
theorem forQ_ret : forQ k0 ks F p v x Q .ret s = Q .ret s := Eq.trans rfl rfl
end
/-- A loop, by what its slots and chunks are at its head: told by an x of which p holds, v of it falls; the slots ks are read again. -/
theorem awp_for {α : Type} {b : AC} {s : St} (ks : List Bool) (F : α → St) (p : α → Prop) (v : α → Nat) (x0 : α) (h0 : s.cmp k0 ks = F x0 ∧ p x0)
    (h : ∀ x, p x → awp P m k0 b (forQ k0 ks F p v x Q) (F x)) : awp P m k0 (.loop b) Q s := by
  refine ⟨fun n s => ∃ x, s = F x ∧ p x ∧ v x = n, ks, ⟨_, x0, h0.1, h0.2, rfl⟩, ?_⟩
  rintro n s ⟨x, rfl, hp, rfl⟩
  have e : (fun (e : Ex) (s' : St) => match e with | .nrm => ∃ j, j < v x ∧ ∃ x, s'.cmp k0 ks = F x ∧ p x ∧ v x = j | e => Q e s') = forQ k0 ks F p v x Q := by
    funext e s'
    cases e <;> simp only [forQ]
    apply propext
    constructor
    · rintro ⟨j, h1, y, h2, h3, rfl⟩; exact ⟨y, h2, h3, h1⟩
    · rintro ⟨y, h2, h3, h4⟩; exact ⟨_, h4, y, h2, h3, rfl⟩
  have := h x hp
  rw [← e] at this
  exact this
def updT : List A → List (Nat × A) → List A
  | t, [] => t
  | t, (i, a) :: r => updT (t.set i a) r
def updH : List Ck → List (Nat × Ck) → List Ck
  | h, [] => h
  | h, (i, c) :: r => updH (if i < h.length then h.set i c else h ++ [c]) r
/-- A state with some slots and chunks told anew. -/
def St.upd (s : St) (ms : List (Nat × A)) (cs : List (Nat × Ck)) : St := ⟨updT s.t ms, updH s.h cs⟩
/-- A loop, by the slots (ms) and the chunks (cs) that it changes. -/
theorem awp_it {α : Type} {b : AC} {s : St} (ks : List Bool) (ms : α → List (Nat × A)) (cs : α → List (Nat × Ck)) (p : α → Prop) (v : α → Nat) (x0 : α)
    (h : ∀ s0, s.cmp k0 ks = s0 → (s0 = s0.upd (ms x0) (cs x0) ∧ p x0) ∧ ∀ x, p x → awp P m k0 b (forQ k0 ks (fun x => s0.upd (ms x) (cs x)) p v x Q) (s0.upd (ms x) (cs x))) : awp P m k0 (.loop b) Q s :=
  awp_for ks (fun x => (s.cmp k0 ks).upd (ms x) (cs x)) p v x0 (h _ rfl).1 (h _ rfl).2
theorem sp_of {f : Nat} {fn : Func} {np nt : Nat} {rs : List (Nat × Option Nat)} {body : AC} {az : List A} {r : A} {hs : List Ck} (hm : P.follows .mixedOrders = true) (hf : P.funcs[f]? = some fn) (hc : cF P fn = some ⟨np, nt, rs, body⟩) (h : awp P m 0 body (endQ 0 rs r hs) ⟨az ++ List.replicate (nt - az.length) .ud, []⟩) : Sp P f az r hs := spg_of hm hf hc h
theorem sg_of {f : Nat} {fn : Func} {np nt : Nat} {rs : List (Nat × Option Nat)} {body : AC} {az : List A} {hin : List Ck} {r : A} {hs : List Ck} (hm : P.follows .mixedOrders = true) (hf : P.funcs[f]? = some fn) (hc : cF P fn = some ⟨np, nt, rs, body⟩) (h : awp P m hin.length body (endQ hin.length rs r hs) ⟨az ++ List.replicate (nt - az.length) .ud, hin⟩) : SpG P f az hin r hs := spg_of hm hf hc h
/-- A call, by its contract. -/
theorem call_of {K : KT} {f : Nat} {az bs : List A} {rd : List Nat} {r : A} {hs : List Ck} (h : Sp P f bs r hs) (h1 : toArgs s.h az = some (bs, rd)) (h2 : (r.res = true ∧ ∀ c ∈ hs, c.isRow = true) ∧ (rd = [] ∨ r.flats = true ∧ ∀ c ∈ hs, c.flat))
    (h3 : K (r.shift s.h.length) rd ((List.range hs.length).map (s.h.length + ·)) (s.h ++ hs)) : callS P s K f az := ⟨(bs, rd), h1, r, hs, h, h2.1, h2.2, h3⟩
theorem callM_of {K : KT} {f : Nat} {az bs : List A} {L : List Nat} {r : A} {hs : List Ck} (h1 : toMs s.h az [] = some (bs, L)) (h : SpG P f bs (L.map fun i => s.h.getD i .gone) r hs) (h2 : hs.all Ck.okM = true ∧ r.isM = true ∧ L.length ≤ hs.length)
    (h3 : K (r.ren L s.h.length) L (L ++ (List.range (hs.length - L.length)).map (s.h.length + ·)) (putCks s.h L hs ++ hs.drop L.length)) : callM P s K f az := ⟨(bs, L), h1, r, hs, h, h2, h3⟩
theorem fp_one {tb : List Nat} {f : FP} (h : fpOk tb f = true) : fpOk tb f = true := h
theorem fp_and {tb : List Nat} {f : FP} {p : Prop} (h : fpOk tb f = true) (k : p) : fpOk tb f = true ∧ p := ⟨h, k⟩
theorem br_l {a b p q : Prop} (h : a) (n : ¬ b) (k : p) : (a → p) ∧ (b → q) := ⟨fun _ => k, fun e => absurd e n⟩
theorem br_r {a b p q : Prop} (n : ¬ a) (h : b) (k : q) : (a → p) ∧ (b → q) := ⟨fun e => absurd e n, fun _ => k⟩
theorem br_p {a p q : Prop} (h : a) (n : q) (k : p) : (a → p) ∧ q := ⟨fun _ => k, n⟩
theorem br_q {b p q : Prop} (n : p) (h : b) (k : q) : p ∧ (b → q) := ⟨n, fun _ => k⟩
theorem and_of {p q : Prop} (h : p) (k : p → q) : p ∧ q := ⟨h, k h⟩
end
/-- Nothing is written. -/
def noWr : FP → Bool
  | [] => true
  | (_, w) :: f => w.isEmpty && noWr f
theorem noWr_get : ∀ {f : FP} {i : Nat} {r w : List Nat}, noWr f = true → f[i]? = some (r, w) → w = []
  | [], _, _, _, _, h => by simp at h
  | (r0, w0) :: f, 0, r, w, hn, h => by
    simp only [noWr, Bool.and_eq_true, List.isEmpty_iff] at hn
    simp at h
    exact h.2 ▸ hn.1
  | (r0, w0) :: f, i + 1, r, w, hn, h => by
    simp only [noWr, Bool.and_eq_true] at hn
    exact noWr_get (i := i) hn.2 (by simpa using h)
theorem fpOk_pure {tb : List Nat} {f : FP} (h : noWr f = true) : fpOk tb f = true := by
  unfold fpOk
  simp only [List.all_eq_true, List.mem_range]
  intro j _ i _
  cases hi : f[i]? with
  | none => simp
  | some p => cases hj : f[j]? with
    | none => simp
    | some q =>
      obtain ⟨r1, w1⟩ := p
      obtain ⟨r2, w2⟩ := q
      have e1 := noWr_get h hi
      have e2 := noWr_get h hj
      subst e1 e2
      simp
theorem w64 {n : Int} (h1 : -9223372036854775808 ≤ n) (h2 : n ≤ 9223372036854775807) : IntKind.i64.wrap n = n := by rw [IntKind.wrap_i64]; omega
attribute [simp low] condQ_any gdK_any pickK_any
attribute [simp] condQ_t condQ_f gdK_tt gdK_ff gdK_tf gdK_ft pickK_t pickK_f hd_app seqQ_nrm seqQ_exit seqQ_ret blkQ_nrm blkQ_exit blkQ_ret endQ_nrm endQ_exit endQ_ret opsK_app regK_app oneK_app putK_app forQ_nrm forQ_exit forQ_ret awp_skip awp_ops awp_reg awp_seq awp_block awp_exit awp_ret awp_bad awp_cond aops_nil aops_cons aAO_none aAO_some aop_mv aop_pick aop_bin aop_eq aop_eqn aop_un aop_conv aop_fld aop_fa aop_ia aop_si aop_ld aop_st aop_bld aop_bsl aop_box aop_al aop_mk aop_ssub aop_sub aop_ext aop_call aop_callv aop_slen aop_len aop_app aop_mm aop_nck aop_bad aop_mkf fA_none fA_some fA_map fA_omap St.x St.set St.setX binF binI binS unF optI fldF fillA put rowOf toV toVs A.cells? mkAg allV shape V.isAg V.nc cz
  eqT eq1 V.cs oK_some oK_none oK_ite oK_ite' retOk resAs resA retV retVs okR okRs newIds newIdss unR fpOk_pure noWr toArg1 toLs toArg toArgs A.res ress A.flats flatss V.flat flats Ck.isRow Ck.flat A.shift shifts A.shut
  A.rn rns Ck.rn addI idsA idsAs idB rnB idsT idsH idsH2 upTo cmpT cmpL St.cmp updT updH St.upd
  sliIds capJ toF toFs frzC frzH capA capAs
  toM toMs posL Ck.okM A.isM isMs renI A.ren rens putCks
end Go.Proofs.YtihkjljafjhniaaEv
namespace Go.Proofs.YtihkjljafjhniaaEv
open Go Go.Proofs
def q (d : Nat) (o : O) : AO := ⟨some d, none, o⟩
def c2 : AF := ⟨0,1,[],(.ops [q 0 (.call 1 [])])⟩
theorem k2 : cF Try.prog Try.f2 = some c2 := by kernel_rfl
def c3 : AF := ⟨2,59,[(4,none)],(.seq (.ops [q 2 (.box (.t 0)),q 3 (.box (.t 1)),q 4 (.mv (.c (.v (.bool false))))]) (.seq (.ops [q 5 (.mv (.c (.v (.int .i64 1048576))))]) (.seq (.ops [q 12 (.ld (.t 2) 5),q 13 (.mv (.t 5)),q 14 (.call 14 [(.t 12),(.t 13)]),q 5 (.mv (.t 14))]) (.seq (.seq (.ops [q 15 (.mv (.t 5)),q 16 (.bin .lss (.t 15) (.c (.v (.int .i64 0))))]) (.cond (.t 16) (.seq (.ops [q 4 (.mv (.c (.v (.bool true))))]) .ret) .skip)) (.seq (.ops [q 17 (.ld (.t 3) 5),q 18 (.mv (.t 5)),q 19 (.call 14 [(.t 17),(.t 18)]),q 5 (.mv (.t 19))]) (.seq (.seq (.ops [q 20 (.mv (.t 5)),q 21 (.bin .lss (.t 20) (.c (.v (.int .i64 0))))]) (.cond (.t 21) (.seq (.ops [q 4 (.mv (.c (.v (.bool true))))]) .ret) .skip)) (.seq (.reg [0,1,0,7,15,31,63,63,0,383,1023] [q 23 (.ld (.t 2) 5),q 24 (.call 16 [(.t 23)]),q 25 (.ld (.t 3) 5),q 26 (.call 16 [(.t 25)]),q 27 (.call 15 [(.t 24),(.t 26)]),q 22 (.mv (.t 27)),q 28 (.ext (.t 22) 0),q 29 (.ext (.t 22) 1),q 6 (.al [(.v (.int .i64 0)),(.v (.int .i64 0))]),⟨none,none,.st (.t 6) (.t 28) 2⟩,q 7 (.mv (.t 29))]) (.seq (.ops [q 30 (.ld (.t 2) 5),q 31 (.call 16 [(.t 30)]),q 8 (.al [(.v (.int .i64 0)),(.v (.int .i64 0)),(.v (.int .i64 0)),(.v (.int .i64 0)),(.nil 0)]),⟨none,none,.st (.t 8) (.t 31) 5⟩]) (.seq (.ops [q 32 (.ld (.t 3) 5),q 33 (.call 16 [(.t 32)]),q 9 (.al [(.v (.int .i64 0)),(.v (.int .i64 0)),(.v (.int .i64 0)),(.v (.int .i64 0)),(.nil 0)]),⟨none,none,.st (.t 9) (.t 33) 5⟩]) (.seq (.ops [q 35 (.ld (.t 8) 5),q 36 (.ld (.t 9) 5),q 37 (.call 17 [(.t 35),(.t 36)]),q 34 (.mv (.t 37)),q 38 (.ext (.t 34) 0),q 39 (.ext (.t 34) 1),q 10 (.al [(.v (.int .i64 0)),(.v (.int .i64 0))]),⟨none,none,.st (.t 10) (.t 38) 2⟩,q 11 (.mv (.t 39))]) (.seq (.seq (.ops [q 40 (.ld (.t 10) 2),q 41 (.ld (.t 6) 2),q 42 (.call 18 [(.t 40),(.t 41)]),q 43 (.un .not (.t 42)),q 44 (.mv (.t 43)),⟨(some 45),(some (44,false)),.mv (.t 11)⟩,⟨(some 46),(some (44,false)),.mv (.t 7)⟩,⟨(some 47),(some (44,false)),.bin .neq (.t 45) (.t 46)⟩,q 48 (.pick (.t 44) (.c (.v (.bool true))) (.t 47))]) (.cond (.t 48) (.seq (.ops [q 4 (.mv (.c (.v (.bool false))))]) .ret) .skip)) (.seq (.seq (.reg [0,0,2,7,15] [q 49 (.ld (.t 8) 5),q 50 (.ld (.t 2) 5),q 51 (.call 16 [(.t 50)]),q 52 (.call 19 [(.t 49),(.t 51)]),q 53 (.un .not (.t 52))]) (.cond (.t 53) (.seq (.ops [q 4 (.mv (.c (.v (.bool false))))]) .ret) .skip)) (.seq (.seq (.reg [0,0,2,7,15] [q 54 (.ld (.t 9) 5),q 55 (.ld (.t 3) 5),q 56 (.call 16 [(.t 55)]),q 57 (.call 19 [(.t 54),(.t 56)]),q 58 (.un .not (.t 57))]) (.cond (.t 58) (.seq (.ops [q 4 (.mv (.c (.v (.bool false))))]) .ret) .skip)) (.seq (.ops [q 4 (.mv (.c (.v (.bool true))))]) .ret))))))))))))))⟩
theorem k3 : cF Try.prog Try.f3 = some c3 := by kernel_rfl
def c4 : AF := ⟨2,58,[(4,none)],(.seq (.ops [q 2 (.box (.t 0)),q 4 (.mv (.c (.v (.bool false))))]) (.seq (.ops [q 5 (.mv (.c (.v (.int .i64 1048576))))]) (.seq (.ops [q 12 (.ld (.t 2) 5),q 13 (.mv (.t 5)),q 14 (.call 14 [(.t 12),(.t 13)]),q 5 (.mv (.t 14))]) (.seq (.seq (.ops [q 15 (.mv (.t 5)),q 16 (.bin .lss (.t 15) (.c (.v (.int .i64 0))))]) (.cond (.t 16) (.seq (.ops [q 4 (.mv (.c (.v (.bool true))))]) .ret) .skip)) (.seq (.ops [q 17 (.mv (.t 1)),q 18 (.mv (.t 5)),q 19 (.call 20 [(.t 17),(.t 18)]),q 5 (.mv (.t 19))]) (.seq (.seq (.ops [q 20 (.mv (.t 5)),q 21 (.bin .lss (.t 20) (.c (.v (.int .i64 0))))]) (.cond (.t 21) (.seq (.ops [q 4 (.mv (.c (.v (.bool true))))]) .ret) .skip)) (.seq (.ops [q 23 (.ld (.t 2) 5),q 24 (.call 16 [(.t 23)]),q 25 (.mv (.t 1)),q 26 (.call 22 [(.t 25)]),q 27 (.call 21 [(.t 24),(.t 26)]),q 22 (.mv (.t 27)),q 28 (.ext (.t 22) 0),q 29 (.ext (.t 22) 1),q 6 (.mv (.t 28)),q 7 (.mv (.t 29))]) (.seq (.ops [q 30 (.ld (.t 2) 5),q 31 (.call 16 [(.t 30)]),q 8 (.al [(.v (.int .i64 0)),(.v (.int .i64 0)),(.v (.int .i64 0)),(.v (.int .i64 0)),(.nil 0)]),⟨none,none,.st (.t 8) (.t 31) 5⟩]) (.seq (.ops [q 32 (.mv (.t 1)),q 33 (.call 22 [(.t 32)]),q 9 (.mv (.t 33))]) (.seq (.ops [q 35 (.ld (.t 8) 5),q 36 (.mv (.t 9)),q 37 (.call 23 [(.t 35),(.t 36)]),q 34 (.mv (.t 37)),q 38 (.ext (.t 34) 0),q 39 (.ext (.t 34) 1),q 10 (.mv (.t 38)),q 11 (.mv (.t 39))]) (.seq (.seq (.ops [q 40 (.mv (.t 10)),q 41 (.mv (.t 6)),q 42 (.bin .neq (.t 40) (.t 41)),q 43 (.mv (.t 42)),⟨(some 44),(some (43,false)),.mv (.t 11)⟩,⟨(some 45),(some (43,false)),.mv (.t 7)⟩,⟨(some 46),(some (43,false)),.bin .neq (.t 44) (.t 45)⟩,q 47 (.pick (.t 43) (.c (.v (.bool true))) (.t 46))]) (.cond (.t 47) (.seq (.ops [q 4 (.mv (.c (.v (.bool false))))]) .ret) .skip)) (.seq (.seq (.reg [0,0,2,7,15] [q 48 (.ld (.t 8) 5),q 49 (.ld (.t 2) 5),q 50 (.call 16 [(.t 49)]),q 51 (.call 19 [(.t 48),(.t 50)]),q 52 (.un .not (.t 51))]) (.cond (.t 52) (.seq (.ops [q 4 (.mv (.c (.v (.bool false))))]) .ret) .skip)) (.seq (.seq (.ops [q 53 (.mv (.t 9)),q 54 (.mv (.t 1)),q 55 (.call 22 [(.t 54)]),q 56 (.call 24 [(.t 53),(.t 55)]),q 57 (.un .not (.t 56))]) (.cond (.t 57) (.seq (.ops [q 4 (.mv (.c (.v (.bool false))))]) .ret) .skip)) (.seq (.ops [q 4 (.mv (.c (.v (.bool true))))]) .ret))))))))))))))⟩
theorem k4 : cF Try.prog Try.f4 = some c4 := by kernel_rfl
def c5 : AF := ⟨2,119,[(4,none)],(.seq (.ops [q 2 (.box (.t 0)),q 4 (.mv (.c (.v (.bool false))))]) (.seq (.ops [q 5 (.mv (.c (.v (.int .i64 1048576))))]) (.seq (.ops [q 17 (.ld (.t 2) 5),q 18 (.mv (.t 5)),q 19 (.call 14 [(.t 17),(.t 18)]),q 5 (.mv (.t 19))]) (.seq (.seq (.ops [q 20 (.mv (.t 5)),q 21 (.bin .lss (.t 20) (.c (.v (.int .i64 0))))]) (.cond (.t 21) (.seq (.ops [q 4 (.mv (.c (.v (.bool true))))]) .ret) .skip)) (.seq (.ops [q 22 (.mv (.t 1)),q 23 (.mv (.t 5)),q 24 (.call 20 [(.t 22),(.t 23)]),q 5 (.mv (.t 24))]) (.seq (.seq (.ops [q 25 (.mv (.t 5)),q 26 (.bin .lss (.t 25) (.c (.v (.int .i64 0))))]) (.cond (.t 26) (.seq (.ops [q 4 (.mv (.c (.v (.bool true))))]) .ret) .skip)) (.seq (.ops [q 28 (.ld (.t 2) 5),q 29 (.call 16 [(.t 28)]),q 30 (.mv (.t 1)),q 31 (.call 22 [(.t 30)]),q 32 (.call 25 [(.t 29),(.t 31)]),q 27 (.mv (.t 32)),q 33 (.ext (.t 27) 0),q 34 (.ext (.t 27) 1),q 6 (.al [(.v (.int .i64 0)),(.v (.int .i64 0)),(.v (.int .i64 0)),(.v (.int .i64 0)),(.nil 0)]),⟨none,none,.st (.t 6) (.t 33) 5⟩,q 7 (.mv (.t 34))]) (.seq (.ops [q 35 (.ld (.t 2) 5),q 36 (.call 16 [(.t 35)]),q 8 (.al [(.v (.int .i64 0)),(.v (.int .i64 0)),(.v (.int .i64 0)),(.v (.int .i64 0)),(.nil 0)]),⟨none,none,.st (.t 8) (.t 36) 5⟩]) (.seq (.ops [q 37 (.mv (.t 1)),q 38 (.call 22 [(.t 37)]),q 9 (.mv (.t 38))]) (.seq (.ops [q 40 (.ld (.t 8) 5),q 41 (.mv (.t 9)),q 42 (.call 26 [(.t 40),(.t 41)]),q 39 (.mv (.t 42)),q 43 (.ext (.t 39) 0),q 44 (.ext (.t 39) 1),q 10 (.al [(.v (.int .i64 0)),(.v (.int .i64 0)),(.v (.int .i64 0)),(.v (.int .i64 0)),(.nil 0)]),⟨none,none,.st (.t 10) (.t 43) 5⟩,q 11 (.mv (.t 44))]) (.seq (.seq (.ops [q 45 (.ld (.t 10) 5),q 46 (.ld (.t 6) 5),q 47 (.call 19 [(.t 45),(.t 46)]),q 48 (.un .not (.t 47)),q 49 (.mv (.t 48)),⟨(some 50),(some (49,false)),.mv (.t 11)⟩,⟨(some 51),(some (49,false)),.mv (.t 7)⟩,⟨(some 52),(some (49,false)),.bin .neq (.t 50) (.t 51)⟩,q 53 (.pick (.t 49) (.c (.v (.bool true))) (.t 52))]) (.cond (.t 53) (.seq (.ops [q 4 (.mv (.c (.v (.bool false))))]) .ret) .skip)) (.seq (.seq (.reg [0,0,2,7,15] [q 54 (.ld (.t 8) 5),q 55 (.ld (.t 2) 5),q 56 (.call 16 [(.t 55)]),q 57 (.call 19 [(.t 54),(.t 56)]),q 58 (.un .not (.t 57))]) (.cond (.t 58) (.seq (.ops [q 4 (.mv (.c (.v (.bool false))))]) .ret) .skip)) (.seq (.seq (.ops [q 59 (.mv (.t 9)),q 60 (.mv (.t 1)),q 61 (.call 22 [(.t 60)]),q 62 (.call 24 [(.t 59),(.t 61)]),q 63 (.un .not (.t 62))]) (.cond (.t 63) (.seq (.ops [q 4 (.mv (.c (.v (.bool false))))]) .ret) .skip)) (.seq (.ops [q 12 (.mv (.c (.v (.int .i64 1))))]) (.seq (.ops [q 64 (.ld (.t 8) 5),q 65 (.mv (.t 12)),q 66 (.call 27 [(.t 64),(.t 65)]),q 12 (.mv (.t 66))]) (.seq (.ops [q 67 (.mv (.t 9)),q 68 (.mv (.t 12)),q 69 (.call 28 [(.t 67),(.t 68)]),q 12 (.mv (.t 69))]) (.seq (.seq (.ops [q 70 (.mv (.t 12)),q 71 (.bin .lss (.t 70) (.c (.v (.int .i64 0)))),q 72 (.mv (.t 71)),⟨(some 73),(some (72,false)),.ld (.t 10) 5⟩,⟨(some 74),(some (72,false)),.ld (.t 6) 5⟩,⟨(some 75),(some (72,false)),.call 19 [(.t 73),(.t 74)]⟩,⟨(some 76),(some (72,false)),.un .not (.t 75)⟩,q 77 (.pick (.t 72) (.c (.v (.bool true))) (.t 76)),q 78 (.mv (.t 77)),⟨(some 79),(some (78,false)),.mv (.t 11)⟩,⟨(some 80),(some (78,false)),.mv (.t 7)⟩,⟨(some 81),(some (78,false)),.bin .neq (.t 79) (.t 80)⟩,q 82 (.pick (.t 78) (.c (.v (.bool true))) (.t 81))]) (.cond (.t 82) (.seq (.ops [q 4 (.mv (.c (.v (.bool false))))]) .ret) .skip)) (.seq (.ops [q 13 (.mv (.c (.v (.int .i64 1))))]) (.seq (.ops [q 83 (.ld (.t 10) 5),q 84 (.mv (.t 13)),q 85 (.call 27 [(.t 83),(.t 84)]),q 13 (.mv (.t 85))]) (.seq (.ops [q 14 (.mv (.c (.v (.int .i64 1))))]) (.seq (.ops [q 86 (.ld (.t 10) 5),q 87 (.mv (.t 14)),q 88 (.call 29 [(.t 86),(.t 87)]),q 14 (.mv (.t 88))]) (.seq (.seq (.ops [q 89 (.mv (.t 14)),q 90 (.bin .lss (.t 89) (.c (.v (.int .i64 0))))]) (.cond (.t 90) (.seq (.ops [q 4 (.mv (.c (.v (.bool false))))]) .ret) .skip)) (.seq (.seq (.ops [q 91 (.mv (.t 14)),q 92 (.mv (.t 13)),q 93 (.bin .neq (.t 91) (.t 92))]) (.cond (.t 93) (.seq (.ops [q 4 (.mv (.c (.v (.bool false))))]) .ret) .skip)) (.seq (.ops [q 95 (.ld (.t 2) 5),q 96 (.call 16 [(.t 95)]),q 97 (.mv (.t 1)),q 98 (.call 22 [(.t 97)]),q 99 (.call 26 [(.t 96),(.t 98)]),q 94 (.mv (.t 99)),q 100 (.ext (.t 94) 0),q 101 (.ext (.t 94) 1),q 15 (.al [(.v (.int .i64 0)),(.v (.int .i64 0)),(.v (.int .i64 0)),(.v (.int .i64 0)),(.nil 0)]),⟨none,none,.st (.t 15) (.t 100) 5⟩,q 16 (.mv (.t 101))]) (.seq (.seq (.ops [q 102 (.ld (.t 15) 5),q 103 (.ld (.t 6) 5),q 104 (.call 19 [(.t 102),(.t 103)]),q 105 (.un .not (.t 104)),q 106 (.mv (.t 105)),⟨(some 107),(some (106,false)),.mv (.t 16)⟩,⟨(some 108),(some (106,false)),.mv (.t 7)⟩,⟨(some 109),(some (106,false)),.bin .neq (.t 107) (.t 108)⟩,q 110 (.pick (.t 106) (.c (.v (.bool true))) (.t 109))]) (.cond (.t 110) (.seq (.ops [q 4 (.mv (.c (.v (.bool false))))]) .ret) .skip)) (.seq (.ops [q 14 (.mv (.c (.v (.int .i64 1))))]) (.seq (.ops [q 111 (.ld (.t 10) 5),q 112 (.mv (.t 14)),q 113 (.call 29 [(.t 111),(.t 112)]),q 14 (.mv (.t 113))]) (.seq (.seq (.ops [q 114 (.mv (.t 14)),q 115 (.bin .lss (.t 114) (.c (.v (.int .i64 0))))]) (.cond (.t 115) (.seq (.ops [q 4 (.mv (.c (.v (.bool false))))]) .ret) .skip)) (.seq (.seq (.ops [q 116 (.mv (.t 14)),q 117 (.mv (.t 13)),q 118 (.bin .neq (.t 116) (.t 117))]) (.cond (.t 118) (.seq (.ops [q 4 (.mv (.c (.v (.bool false))))]) .ret) .skip)) (.seq (.ops [q 4 (.mv (.c (.v (.bool true))))]) .ret))))))))))))))))))))))))))))))⟩
theorem k5 : cF Try.prog Try.f5 = some c5 := by kernel_rfl
def c6 : AF := ⟨1,50,[(2,none)],(.seq (.ops [q 1 (.box (.t 0)),q 2 (.mv (.c (.v (.bool false))))]) (.seq (.ops [q 3 (.mv (.c (.v (.int .i64 1048576))))]) (.seq (.ops [q 11 (.ld (.t 1) 5),q 12 (.mv (.t 3)),q 13 (.call 14 [(.t 11),(.t 12)]),q 3 (.mv (.t 13))]) (.seq (.seq (.ops [q 14 (.mv (.t 3)),q 15 (.bin .lss (.t 14) (.c (.v (.int .i64 0))))]) (.cond (.t 15) (.seq (.ops [q 2 (.mv (.c (.v (.bool true))))]) .ret) .skip)) (.seq (.ops [q 17 (.ld (.t 1) 5),q 18 (.call 16 [(.t 17)]),q 19 (.call 30 [(.t 18)]),q 16 (.mv (.t 19)),q 20 (.ext (.t 16) 0),q 21 (.ext (.t 16) 1),q 22 (.ext (.t 16) 2),q 4 (.al [(.v (.int .i64 0)),(.v (.int .i64 0))]),⟨none,none,.st (.t 4) (.t 20) 2⟩,q 5 (.mv (.t 21)),q 6 (.mv (.t 22))]) (.seq (.ops [q 23 (.ld (.t 1) 5),q 24 (.call 16 [(.t 23)]),q 7 (.al [(.v (.int .i64 0)),(.v (.int .i64 0)),(.v (.int .i64 0)),(.v (.int .i64 0)),(.nil 0)]),⟨none,none,.st (.t 7) (.t 24) 5⟩]) (.seq (.ops [q 26 (.ld (.t 7) 5),q 27 (.call 31 [(.t 26)]),q 25 (.mv (.t 27)),q 28 (.ext (.t 25) 0),q 29 (.ext (.t 25) 1),q 30 (.ext (.t 25) 2),q 8 (.al [(.v (.int .i64 0)),(.v (.int .i64 0))]),⟨none,none,.st (.t 8) (.t 28) 2⟩,q 9 (.mv (.t 29)),q 10 (.mv (.t 30))]) (.seq (.seq (.ops [q 31 (.ld (.t 8) 2),q 32 (.ld (.t 4) 2),q 33 (.call 18 [(.t 31),(.t 32)]),q 34 (.un .not (.t 33)),q 35 (.mv (.t 34)),⟨(some 36),(some (35,false)),.mv (.t 9)⟩,⟨(some 37),(some (35,false)),.mv (.t 5)⟩,⟨(some 38),(some (35,false)),.bin .neq (.t 36) (.t 37)⟩,q 39 (.pick (.t 35) (.c (.v (.bool true))) (.t 38)),q 40 (.mv (.t 39)),⟨(some 41),(some (40,false)),.mv (.t 10)⟩,⟨(some 42),(some (40,false)),.mv (.t 6)⟩,⟨(some 43),(some (40,false)),.bin .neq (.t 41) (.t 42)⟩,q 44 (.pick (.t 40) (.c (.v (.bool true))) (.t 43))]) (.cond (.t 44) (.seq (.ops [q 2 (.mv (.c (.v (.bool false))))]) .ret) .skip)) (.seq (.seq (.reg [0,0,2,7,15] [q 45 (.ld (.t 7) 5),q 46 (.ld (.t 1) 5),q 47 (.call 16 [(.t 46)]),q 48 (.call 19 [(.t 45),(.t 47)]),q 49 (.un .not (.t 48))]) (.cond (.t 49) (.seq (.ops [q 2 (.mv (.c (.v (.bool false))))]) .ret) .skip)) (.seq (.ops [q 2 (.mv (.c (.v (.bool true))))]) .ret))))))))))⟩
theorem k6 : cF Try.prog Try.f6 = some c6 := by kernel_rfl
def c14 : AF := ⟨2,12,[(4,none)],(.seq (.ops [q 2 (.box (.t 0)),q 4 (.mv (.c (.v (.int .i64 0))))]) (.seq (.ops [q 5 (.fa (.t 2) 4),q 6 (.ld (.t 5) 0),q 7 (.mv (.t 1)),q 8 (.call 70 [(.t 6),(.t 7)]),q 1 (.mv (.t 8))]) (.seq (.seq (.ops [q 9 (.mv (.t 1)),q 10 (.bin .lss (.t 9) (.c (.v (.int .i64 0))))]) (.cond (.t 10) (.seq (.ops [q 4 (.mv (.c (.v (.int .i64 (-1)))))]) .ret) .skip)) (.seq (.ops [q 11 (.mv (.t 1)),q 4 (.mv (.t 11))]) .ret))))⟩
theorem k14 : cF Try.prog Try.f14 = some c14 := by kernel_rfl
def c15 : AF := ⟨2,56,[(4,(some 2)),(5,none)],(.seq (.ops [q 2 (.box (.t 0)),q 3 (.box (.t 1)),q 4 (.al [(.v (.int .i64 0)),(.v (.int .i64 0))]),q 5 (.mv (.c (.v (.int .i64 0))))]) (.seq (.block 0 (.seq (.ops [q 9 (.ld (.t 2) 5),q 10 (.call 71 [(.t 9)]),q 11 (.un .not (.t 10)),q 12 (.mv (.t 11)),⟨(some 13),(some (12,false)),.ld (.t 3) 5⟩,⟨(some 14),(some (12,false)),.call 71 [(.t 13)]⟩,⟨(some 15),(some (12,false)),.un .not (.t 14)⟩,q 16 (.pick (.t 12) (.c (.v (.bool true))) (.t 15)),q 8 (.mv (.t 16))]) (.cond (.t 8) (.seq (.ops [q 17 (.bld [(.v (.int .i64 0)),(.v (.int .i64 0))] []),⟨none,none,.st (.t 4) (.t 17) 2⟩,q 5 (.mv (.c (.v (.int .i64 1))))]) .ret) (.seq (.ops [q 19 (.fa (.t 2) 0),q 20 (.ld (.t 19) 0),q 21 (.fa (.t 3) 0),q 22 (.ld (.t 21) 0),q 23 (.bin .neq (.t 20) (.t 22)),q 24 (.mv (.t 23)),⟨(some 25),(some (24,false)),.fa (.t 2) 1⟩,⟨(some 26),(some (24,false)),.ld (.t 25) 3⟩,⟨(some 27),(some (24,false)),.fa (.t 3) 1⟩,⟨(some 28),(some (24,false)),.ld (.t 27) 3⟩,⟨(some 29),(some (24,false)),.eq true 3 [1,1,1] (.t 26) (.t 28)⟩,q 30 (.pick (.t 24) (.c (.v (.bool true))) (.t 29)),q 18 (.mv (.t 30))]) (.cond (.t 18) (.seq (.ops [q 31 (.bld [(.v (.int .i64 0)),(.v (.int .i64 0))] []),⟨none,none,.st (.t 4) (.t 31) 2⟩,q 5 (.mv (.c (.v (.int .i64 2))))]) .ret) .skip))))) (.seq (.ops [q 32 (.fa (.t 2) 1),q 33 (.ld (.t 32) 3),q 34 (.call 72 [(.t 33)]),q 6 (.mv (.t 34))]) (.seq (.seq (.ops [q 7 (.mv (.c (.v (.int .i64 0))))]) (.block 1 (.loop (.seq (.seq (.ops [q 35 (.mv (.t 7)),q 36 (.mv (.t 6)),q 37 (.len false (.t 36)),q 38 (.bin .lss (.t 35) (.t 37))]) (.cond (.t 38) .skip (.exit 1))) (.seq (.block 2 (.seq (.reg [0,0,0,0,12,28,62,127,0,511] [q 41 (.ld (.t 2) 5),q 42 (.call 75 []),q 43 (.mv (.t 6)),q 44 (.mv (.t 7)),q 45 (.ia (.t 43) (.t 44) 2),q 46 (.ld (.t 45) 2),q 47 (.bld [(.v (.int .i64 0)),(.v (.int .i64 0)),(.v (.int .i64 0)),(.v (.int .i64 0)),(.v (.int .i64 0)),(.v (.int .i64 0))] [(0,4,(.t 42)),(4,2,(.t 46))]),q 48 (.call 74 [(.t 41),(.t 47)]),q 49 (.ld (.t 3) 5),q 50 (.call 73 [(.t 48),(.t 49)])]) (.cond (.t 50) (.seq (.ops [q 51 (.mv (.t 6)),q 52 (.mv (.t 7)),q 53 (.ia (.t 51) (.t 52) 2),q 54 (.ld (.t 53) 2),⟨none,none,.st (.t 4) (.t 54) 2⟩,q 5 (.mv (.c (.v (.int .i64 0))))]) .ret) .skip))) (.ops [q 39 (.mv (.t 7)),q 40 (.bin .add (.t 39) (.c (.v (.int .i64 1)))),q 7 (.mv (.t 40))])))))) (.seq (.ops [q 55 (.bld [(.v (.int .i64 0)),(.v (.int .i64 0))] []),⟨none,none,.st (.t 4) (.t 55) 2⟩,q 5 (.mv (.c (.v (.int .i64 4))))]) .ret)))))⟩
theorem k15 : cF Try.prog Try.f15 = some c15 := by kernel_rfl
def c16 : AF := ⟨1,16,[(2,(some 5))],(.seq (.ops [q 1 (.box (.t 0)),q 2 (.al [(.v (.int .i64 0)),(.v (.int .i64 0)),(.v (.int .i64 0)),(.v (.int .i64 0)),(.nil 0)])]) (.seq (.ops [q 3 (.al [(.v (.int .i64 0)),(.v (.int .i64 0)),(.v (.int .i64 0)),(.v (.int .i64 0)),(.nil 0)])]) (.seq (.ops [q 4 (.fa (.t 1) 0),q 5 (.ld (.t 4) 0),q 6 (.fa (.t 3) 0),⟨none,none,.st (.t 6) (.t 5) 0⟩]) (.seq (.ops [q 7 (.fa (.t 1) 1),q 8 (.ld (.t 7) 3),q 9 (.call 33 [(.t 8)]),q 10 (.fa (.t 3) 1),⟨none,none,.st (.t 10) (.t 9) 3⟩]) (.seq (.ops [q 11 (.fa (.t 1) 4),q 12 (.ld (.t 11) 0),q 13 (.call 76 [(.t 12)]),q 14 (.fa (.t 3) 4),⟨none,none,.st (.t 14) (.t 13) 0⟩]) (.seq (.ops [q 15 (.ld (.t 3) 5),⟨none,none,.st (.t 2) (.t 15) 5⟩]) .ret))))))⟩
theorem k16 : cF Try.prog Try.f16 = some c16 := by kernel_rfl
def c17 : AF := ⟨2,42,[(4,(some 2)),(5,none)],(.seq (.ops [q 2 (.box (.t 0)),q 3 (.box (.t 1)),q 4 (.al [(.v (.int .i64 0)),(.v (.int .i64 0))]),q 5 (.mv (.c (.v (.int .i64 0))))]) (.seq (.seq (.ops [q 8 (.ld (.t 2) 5),q 9 (.call 77 [(.t 8)]),q 10 (.un .not (.t 9)),q 11 (.mv (.t 10)),⟨(some 12),(some (11,false)),.ld (.t 3) 5⟩,⟨(some 13),(some (11,false)),.call 77 [(.t 12)]⟩,⟨(some 14),(some (11,false)),.un .not (.t 13)⟩,q 15 (.pick (.t 11) (.c (.v (.bool true))) (.t 14))]) (.cond (.t 15) (.seq (.ops [q 16 (.bld [(.v (.int .i64 0)),(.v (.int .i64 0))] []),⟨none,none,.st (.t 4) (.t 16) 2⟩,q 5 (.mv (.c (.v (.int .i64 1))))]) .ret) .skip)) (.seq (.seq (.ops [q 17 (.ld (.t 2) 5),q 18 (.ld (.t 3) 5),q 19 (.call 78 [(.t 17),(.t 18)]),q 20 (.un .not (.t 19))]) (.cond (.t 20) (.seq (.ops [q 21 (.bld [(.v (.int .i64 0)),(.v (.int .i64 0))] []),⟨none,none,.st (.t 4) (.t 21) 2⟩,q 5 (.mv (.c (.v (.int .i64 2))))]) .ret) .skip)) (.seq (.seq (.ops [q 22 (.fa (.t 2) 1),q 23 (.ld (.t 22) 3),q 24 (.call 79 [(.t 23)]),q 25 (.len false (.t 24)),q 26 (.mv (.c (.v (.int .i64 0))))]) (.block 0 (.loop (.seq (.ops [q 27 (.bin .lss (.t 26) (.t 25))]) (.seq (.cond (.t 27) .skip (.exit 0)) (.seq (.block 1 (.seq (.ops [q 28 (.ia (.t 24) (.t 26) 2),q 29 (.ld (.t 28) 2),q 7 (.al [(.v (.int .i64 0)),(.v (.int .i64 0))]),⟨none,none,.st (.t 7) (.t 29) 2⟩]) (.seq (.reg [0,0,0,6,15,31,0,64,255] [q 30 (.ld (.t 2) 5),q 31 (.call 82 []),q 32 (.ld (.t 7) 2),q 33 (.bld [(.v (.int .i64 0)),(.v (.int .i64 0)),(.v (.int .i64 0)),(.v (.int .i64 0)),(.v (.int .i64 0)),(.v (.int .i64 0))] [(0,4,(.t 31)),(4,2,(.t 32))]),q 34 (.call 81 [(.t 30),(.t 33)]),q 35 (.fld (.t 34) 4 0),q 36 (.fa (.t 3) 4),q 37 (.ld (.t 36) 0),q 38 (.call 80 [(.t 35),(.t 37)])]) (.cond (.t 38) (.seq (.ops [q 39 (.ld (.t 7) 2),⟨none,none,.st (.t 4) (.t 39) 2⟩,q 5 (.mv (.c (.v (.int .i64 0))))]) .ret) .skip)))) (.ops [q 40 (.bin .add (.t 26) (.c (.v (.int .i64 1)))),q 26 (.mv (.t 40))]))))))) (.seq (.ops [q 41 (.bld [(.v (.int .i64 0)),(.v (.int .i64 0))] []),⟨none,none,.st (.t 4) (.t 41) 2⟩,q 5 (.mv (.c (.v (.int .i64 4))))]) .ret)))))⟩
theorem k17 : cF Try.prog Try.f17 = some c17 := by kernel_rfl
def c18 : AF := ⟨2,15,[(4,none)],(.seq (.ops [q 2 (.box (.t 0)),q 3 (.box (.t 1)),q 4 (.mv (.c (.v (.bool false))))]) (.seq (.seq (.ops [q 5 (.fa (.t 2) 0),q 6 (.ld (.t 5) 0),q 7 (.fa (.t 3) 0),q 8 (.ld (.t 7) 0),q 9 (.bin .neq (.t 6) (.t 8))]) (.cond (.t 9) (.seq (.ops [q 4 (.mv (.c (.v (.bool false))))]) .ret) .skip)) (.seq (.seq (.ops [q 10 (.fa (.t 2) 1),q 11 (.ld (.t 10) 0),q 12 (.fa (.t 3) 1),q 13 (.ld (.t 12) 0),q 14 (.bin .neq (.t 11) (.t 13))]) (.cond (.t 14) (.seq (.ops [q 4 (.mv (.c (.v (.bool false))))]) .ret) .skip)) (.seq (.ops [q 4 (.mv (.c (.v (.bool true))))]) .ret))))⟩
theorem k18 : cF Try.prog Try.f18 = some c18 := by kernel_rfl
def c19 : AF := ⟨2,22,[(4,none)],(.seq (.ops [q 2 (.box (.t 0)),q 3 (.box (.t 1)),q 4 (.mv (.c (.v (.bool false))))]) (.seq (.seq (.ops [q 5 (.fa (.t 2) 0),q 6 (.ld (.t 5) 0),q 7 (.fa (.t 3) 0),q 8 (.ld (.t 7) 0),q 9 (.bin .neq (.t 6) (.t 8))]) (.cond (.t 9) (.seq (.ops [q 4 (.mv (.c (.v (.bool false))))]) .ret) .skip)) (.seq (.seq (.ops [q 10 (.fa (.t 2) 1),q 11 (.ld (.t 10) 3),q 12 (.fa (.t 3) 1),q 13 (.ld (.t 12) 3),q 14 (.call 83 [(.t 11),(.t 13)]),q 15 (.un .not (.t 14))]) (.cond (.t 15) (.seq (.ops [q 4 (.mv (.c (.v (.bool false))))]) .ret) .skip)) (.seq (.seq (.ops [q 16 (.fa (.t 2) 4),q 17 (.ld (.t 16) 0),q 18 (.fa (.t 3) 4),q 19 (.ld (.t 18) 0),q 20 (.call 84 [(.t 17),(.t 19)]),q 21 (.un .not (.t 20))]) (.cond (.t 21) (.seq (.ops [q 4 (.mv (.c (.v (.bool false))))]) .ret) .skip)) (.seq (.ops [q 4 (.mv (.c (.v (.bool true))))]) .ret)))))⟩
theorem k19 : cF Try.prog Try.f19 = some c19 := by kernel_rfl
def c20 : AF := ⟨2,12,[(4,none)],(.seq (.ops [q 4 (.mv (.c (.v (.int .i64 0))))]) (.seq (.ops [q 5 (.mv (.t 1)),q 6 (.mv (.t 0)),q 7 (.len false (.t 6)),q 8 (.bin .sub (.t 5) (.t 7)),q 1 (.mv (.t 8))]) (.seq (.seq (.ops [q 9 (.mv (.t 1)),q 10 (.bin .lss (.t 9) (.c (.v (.int .i64 0))))]) (.cond (.t 10) (.seq (.ops [q 4 (.mv (.c (.v (.int .i64 (-1)))))]) .ret) .skip)) (.seq (.ops [q 11 (.mv (.t 1)),q 4 (.mv (.t 11))]) .ret))))⟩
theorem k20 : cF Try.prog Try.f20 = some c20 := by kernel_rfl
def c21 : AF := ⟨2,44,[(4,none),(5,none)],(.seq (.ops [q 2 (.box (.t 0)),q 4 (.mv (.c (.v (.int .i64 0)))),q 5 (.mv (.c (.v (.int .i64 0))))]) (.seq (.reg [0,0,2,7,15] [q 10 (.ld (.t 2) 5),q 11 (.mv (.t 1)),q 12 (.call 86 [(.t 11)]),q 13 (.call 85 [(.t 10),(.t 12)]),q 6 (.mv (.t 13))]) (.seq (.seq (.ops [q 14 (.mv (.t 6)),q 15 (.bin .neq (.t 14) (.c (.v (.int .i64 0))))]) (.cond (.t 15) (.seq (.ops [q 16 (.mv (.t 6)),q 4 (.mv (.c (.v (.int .i64 0)))),q 5 (.mv (.t 16))]) .ret) .skip)) (.seq (.ops [q 17 (.ld (.t 2) 5),q 18 (.mv (.t 1)),q 19 (.call 87 [(.t 17),(.t 18)]),q 7 (.al [(.v (.int .i64 0)),(.v (.int .i64 0)),(.v (.int .i64 0)),(.v (.int .i64 0)),(.nil 0)]),⟨none,none,.st (.t 7) (.t 19) 5⟩]) (.seq (.ops [q 8 (.mv (.c (.v (.int .i64 0))))]) (.seq (.seq (.ops [q 9 (.mv (.c (.v (.int .i64 0))))]) (.block 0 (.loop (.seq (.seq (.ops [q 20 (.mv (.t 9)),q 21 (.fa (.t 2) 4),q 22 (.ld (.t 21) 0),q 23 (.len false (.t 22)),q 24 (.bin .lss (.t 20) (.t 23))]) (.cond (.t 24) .skip (.exit 0))) (.seq (.block 1 (.seq (.ops [q 27 (.fa (.t 2) 4),q 28 (.ld (.t 27) 0),q 29 (.mv (.t 9)),q 30 (.ia (.t 28) (.t 29) 0),q 31 (.ld (.t 30) 0),q 32 (.bin .gtr (.t 31) (.c (.v (.int .i64 0)))),q 33 (.mv (.t 32)),⟨(some 34),(some (33,true)),.fa (.t 7) 4⟩,⟨(some 35),(some (33,true)),.ld (.t 34) 0⟩,⟨(some 36),(some (33,true)),.mv (.t 9)⟩,⟨(some 37),(some (33,true)),.ia (.t 35) (.t 36) 0⟩,⟨(some 38),(some (33,true)),.ld (.t 37) 0⟩,⟨(some 39),(some (33,true)),.bin .eql (.t 38) (.c (.v (.int .i64 0)))⟩,q 40 (.pick (.t 33) (.t 39) (.c (.v (.bool false))))]) (.cond (.t 40) (.ops [q 41 (.mv (.t 8)),q 42 (.bin .add (.t 41) (.c (.v (.int .i64 1)))),q 8 (.mv (.t 42))]) .skip))) (.ops [q 25 (.mv (.t 9)),q 26 (.bin .add (.t 25) (.c (.v (.int .i64 1)))),q 9 (.mv (.t 26))])))))) (.seq (.ops [q 43 (.mv (.t 8)),q 4 (.mv (.t 43)),q 5 (.mv (.c (.v (.int .i64 0))))]) .ret)))))))⟩
theorem k21 : cF Try.prog Try.f21 = some c21 := by kernel_rfl
def c22 : AF := ⟨1,23,[(2,none)],(.seq (.ops [q 2 (.mv (.c (.nil 2)))]) (.seq (.ops [q 5 (.mv (.t 0)),q 6 (.len false (.t 5)),q 7 (.mk 2 29 16 (.ag [(.int .i64 0),(.int .i64 0)]) (.t 6) (.t 6)),q 3 (.mv (.t 7))]) (.seq (.seq (.ops [q 4 (.mv (.c (.v (.int .i64 0))))]) (.block 0 (.loop (.seq (.seq (.ops [q 8 (.mv (.t 4)),q 9 (.mv (.t 0)),q 10 (.len false (.t 9)),q 11 (.bin .lss (.t 8) (.t 10))]) (.cond (.t 11) .skip (.exit 0))) (.seq (.block 1 (.ops [q 14 (.mv (.t 3)),q 15 (.mv (.t 4)),q 16 (.mv (.t 0)),q 17 (.mv (.t 4)),q 18 (.ia (.t 16) (.t 17) 2),q 19 (.ld (.t 18) 2),q 20 (.call 41 [(.t 19)]),q 21 (.ia (.t 14) (.t 15) 2),⟨none,none,.st (.t 21) (.t 20) 2⟩])) (.ops [q 12 (.mv (.t 4)),q 13 (.bin .add (.t 12) (.c (.v (.int .i64 1)))),q 4 (.mv (.t 13))])))))) (.seq (.ops [q 22 (.mv (.t 3)),q 2 (.mv (.t 22))]) .ret))))⟩
theorem k22 : cF Try.prog Try.f22 = some c22 := by kernel_rfl
def c23 : AF := ⟨2,40,[(4,none),(5,none)],(.seq (.ops [q 2 (.box (.t 0)),q 4 (.mv (.c (.v (.int .i64 0)))),q 5 (.mv (.c (.v (.int .i64 0))))]) (.seq (.ops [q 12 (.ld (.t 2) 5),q 13 (.mv (.t 1)),q 14 (.call 26 [(.t 12),(.t 13)]),q 11 (.mv (.t 14)),q 15 (.ext (.t 11) 0),q 16 (.ext (.t 11) 1),q 6 (.al [(.v (.int .i64 0)),(.v (.int .i64 0)),(.v (.int .i64 0)),(.v (.int .i64 0)),(.nil 0)]),⟨none,none,.st (.t 6) (.t 15) 5⟩,q 7 (.mv (.t 16))]) (.seq (.ops [q 8 (.mv (.c (.v (.int .i64 0))))]) (.seq (.seq (.ops [q 17 (.fa (.t 6) 4),q 18 (.ld (.t 17) 0),q 19 (.len false (.t 18)),q 20 (.mv (.c (.v (.int .i64 0))))]) (.block 0 (.loop (.seq (.ops [q 21 (.bin .lss (.t 20) (.t 19))]) (.seq (.cond (.t 21) .skip (.exit 0)) (.seq (.block 1 (.seq (.ops [q 22 (.mv (.t 20)),q 23 (.ia (.t 18) (.t 20) 0),q 24 (.ld (.t 23) 0),q 9 (.mv (.t 22)),q 10 (.mv (.t 24))]) (.seq (.ops [q 25 (.mv (.t 10)),q 26 (.bin .eql (.t 25) (.c (.v (.int .i64 0)))),q 27 (.mv (.t 26)),⟨(some 28),(some (27,true)),.fa (.t 2) 4⟩,⟨(some 29),(some (27,true)),.ld (.t 28) 0⟩,⟨(some 30),(some (27,true)),.mv (.t 9)⟩,⟨(some 31),(some (27,true)),.ia (.t 29) (.t 30) 0⟩,⟨(some 32),(some (27,true)),.ld (.t 31) 0⟩,⟨(some 33),(some (27,true)),.bin .neq (.t 32) (.c (.v (.int .i64 0)))⟩,q 34 (.pick (.t 27) (.t 33) (.c (.v (.bool false))))]) (.cond (.t 34) (.ops [q 35 (.mv (.t 8)),q 36 (.bin .add (.t 35) (.c (.v (.int .i64 1)))),q 8 (.mv (.t 36))]) .skip)))) (.ops [q 37 (.bin .add (.t 20) (.c (.v (.int .i64 1)))),q 20 (.mv (.t 37))]))))))) (.seq (.ops [q 38 (.mv (.t 8)),q 39 (.mv (.t 7)),q 4 (.mv (.t 38)),q 5 (.mv (.t 39))]) .ret)))))⟩
theorem k23 : cF Try.prog Try.f23 = some c23 := by kernel_rfl
def c24 : AF := ⟨2,27,[(4,none)],(.seq (.ops [q 4 (.mv (.c (.v (.bool false))))]) (.seq (.seq (.ops [q 6 (.mv (.t 0)),q 7 (.len false (.t 6)),q 8 (.mv (.t 1)),q 9 (.len false (.t 8)),q 10 (.bin .neq (.t 7) (.t 9))]) (.cond (.t 10) (.seq (.ops [q 4 (.mv (.c (.v (.bool false))))]) .ret) .skip)) (.seq (.seq (.ops [q 5 (.mv (.c (.v (.int .i64 0))))]) (.block 0 (.loop (.seq (.seq (.ops [q 11 (.mv (.t 5)),q 12 (.mv (.t 0)),q 13 (.len false (.t 12)),q 14 (.bin .lss (.t 11) (.t 13))]) (.cond (.t 14) .skip (.exit 0))) (.seq (.block 1 (.seq (.reg [0,0,3,7,0,0,48,112,255,511] [q 17 (.mv (.t 0)),q 18 (.mv (.t 5)),q 19 (.ia (.t 17) (.t 18) 2),q 20 (.ld (.t 19) 2),q 21 (.mv (.t 1)),q 22 (.mv (.t 5)),q 23 (.ia (.t 21) (.t 22) 2),q 24 (.ld (.t 23) 2),q 25 (.call 18 [(.t 20),(.t 24)]),q 26 (.un .not (.t 25))]) (.cond (.t 26) (.seq (.ops [q 4 (.mv (.c (.v (.bool false))))]) .ret) .skip))) (.ops [q 15 (.mv (.t 5)),q 16 (.bin .add (.t 15) (.c (.v (.int .i64 1)))),q 5 (.mv (.t 16))])))))) (.seq (.ops [q 4 (.mv (.c (.v (.bool true))))]) .ret))))⟩
theorem k24 : cF Try.prog Try.f24 = some c24 := by kernel_rfl
def c25 : AF := ⟨2,18,[(4,(some 5)),(5,none)],(.seq (.ops [q 2 (.box (.t 0)),q 4 (.al [(.v (.int .i64 0)),(.v (.int .i64 0)),(.v (.int .i64 0)),(.v (.int .i64 0)),(.nil 0)]),q 5 (.mv (.c (.v (.int .i64 0))))]) (.seq (.reg [0,0,2,7,15] [q 7 (.ld (.t 2) 5),q 8 (.mv (.t 1)),q 9 (.call 86 [(.t 8)]),q 10 (.call 85 [(.t 7),(.t 9)]),q 6 (.mv (.t 10))]) (.seq (.seq (.ops [q 11 (.mv (.t 6)),q 12 (.bin .neq (.t 11) (.c (.v (.int .i64 0))))]) (.cond (.t 12) (.seq (.ops [q 13 (.bld [(.v (.int .i64 0)),(.v (.int .i64 0)),(.v (.int .i64 0)),(.v (.int .i64 0)),(.nil 0)] []),q 14 (.mv (.t 6)),⟨none,none,.st (.t 4) (.t 13) 5⟩,q 5 (.mv (.t 14))]) .ret) .skip)) (.seq (.ops [q 15 (.ld (.t 2) 5),q 16 (.mv (.t 1)),q 17 (.call 87 [(.t 15),(.t 16)]),⟨none,none,.st (.t 4) (.t 17) 5⟩,q 5 (.mv (.c (.v (.int .i64 0))))]) .ret))))⟩
theorem k25 : cF Try.prog Try.f25 = some c25 := by kernel_rfl
def c26 : AF := ⟨2,17,[(4,(some 5)),(5,none)],(.seq (.ops [q 2 (.box (.t 0)),q 4 (.al [(.v (.int .i64 0)),(.v (.int .i64 0)),(.v (.int .i64 0)),(.v (.int .i64 0)),(.nil 0)]),q 5 (.mv (.c (.v (.int .i64 0))))]) (.seq (.seq (.ops [q 6 (.ld (.t 2) 5),q 7 (.call 77 [(.t 6)]),q 8 (.un .not (.t 7))]) (.cond (.t 8) (.seq (.ops [q 9 (.bld [(.v (.int .i64 0)),(.v (.int .i64 0)),(.v (.int .i64 0)),(.v (.int .i64 0)),(.nil 0)] []),⟨none,none,.st (.t 4) (.t 9) 5⟩,q 5 (.mv (.c (.v (.int .i64 1))))]) .ret) .skip)) (.seq (.seq (.ops [q 10 (.mv (.t 1)),q 11 (.call 88 [(.t 10)]),q 12 (.un .not (.t 11))]) (.cond (.t 12) (.seq (.ops [q 13 (.bld [(.v (.int .i64 0)),(.v (.int .i64 0)),(.v (.int .i64 0)),(.v (.int .i64 0)),(.nil 0)] []),⟨none,none,.st (.t 4) (.t 13) 5⟩,q 5 (.mv (.c (.v (.int .i64 2))))]) .ret) .skip)) (.seq (.ops [q 14 (.ld (.t 2) 5),q 15 (.mv (.t 1)),q 16 (.call 89 [(.t 14),(.t 15)]),⟨none,none,.st (.t 4) (.t 16) 5⟩,q 5 (.mv (.c (.v (.int .i64 0))))]) .ret))))⟩
theorem k26 : cF Try.prog Try.f26 = some c26 := by kernel_rfl
def c27 : AF := ⟨2,10,[(4,none)],(.seq (.ops [q 2 (.box (.t 0)),q 4 (.mv (.c (.v (.int .i64 0))))]) (.seq (.ops [q 5 (.fa (.t 2) 4),q 6 (.ld (.t 5) 0),q 7 (.mv (.t 1)),q 8 (.call 90 [(.t 6),(.t 7)]),q 1 (.mv (.t 8))]) (.seq (.ops [q 9 (.mv (.t 1)),q 4 (.mv (.t 9))]) .ret)))⟩
theorem k27 : cF Try.prog Try.f27 = some c27 := by kernel_rfl
def c28 : AF := ⟨2,27,[(4,none)],(.seq (.ops [q 4 (.mv (.c (.v (.int .i64 0))))]) (.seq (.seq (.ops [q 5 (.mv (.c (.v (.int .i64 0))))]) (.block 0 (.loop (.seq (.seq (.ops [q 6 (.mv (.t 5)),q 7 (.mv (.t 0)),q 8 (.len false (.t 7)),q 9 (.bin .lss (.t 6) (.t 8))]) (.cond (.t 9) .skip (.exit 0))) (.seq (.block 1 (.seq (.ops [q 12 (.mv (.t 0)),q 13 (.mv (.t 5)),q 14 (.mv (.t 1)),q 15 (.ia (.t 12) (.t 13) 2),q 16 (.fa (.t 15) 0),⟨none,none,.st (.t 16) (.t 14) 0⟩]) (.seq (.ops [q 17 (.mv (.t 1)),q 18 (.bin .add (.t 17) (.c (.v (.int .i64 1)))),q 1 (.mv (.t 18))]) (.seq (.ops [q 19 (.mv (.t 0)),q 20 (.mv (.t 5)),q 21 (.mv (.t 1)),q 22 (.ia (.t 19) (.t 20) 2),q 23 (.fa (.t 22) 1),⟨none,none,.st (.t 23) (.t 21) 0⟩]) (.ops [q 24 (.mv (.t 1)),q 25 (.bin .add (.t 24) (.c (.v (.int .i64 1)))),q 1 (.mv (.t 25))]))))) (.ops [q 10 (.mv (.t 5)),q 11 (.bin .add (.t 10) (.c (.v (.int .i64 1)))),q 5 (.mv (.t 11))])))))) (.seq (.ops [q 26 (.mv (.t 1)),q 4 (.mv (.t 26))]) .ret)))⟩
theorem k28 : cF Try.prog Try.f28 = some c28 := by kernel_rfl
def c29 : AF := ⟨2,12,[(4,none)],(.seq (.ops [q 2 (.box (.t 0)),q 4 (.mv (.c (.v (.int .i64 0))))]) (.seq (.ops [q 5 (.fa (.t 2) 4),q 6 (.ld (.t 5) 0),q 7 (.mv (.t 1)),q 8 (.call 91 [(.t 6),(.t 7)]),q 1 (.mv (.t 8))]) (.seq (.seq (.ops [q 9 (.mv (.t 1)),q 10 (.bin .lss (.t 9) (.c (.v (.int .i64 0))))]) (.cond (.t 10) (.seq (.ops [q 4 (.mv (.c (.v (.int .i64 (-1)))))]) .ret) .skip)) (.seq (.ops [q 11 (.mv (.t 1)),q 4 (.mv (.t 11))]) .ret))))⟩
theorem k29 : cF Try.prog Try.f29 = some c29 := by kernel_rfl
def c33 : AF := ⟨1,14,[(2,(some 3))],(.seq (.ops [q 1 (.box (.t 0)),q 2 (.al [(.v (.int .i64 0)),(.v (.int .i64 0)),(.v (.int .i64 0))])]) (.seq (.ops [q 3 (.al [(.v (.int .i64 0)),(.v (.int .i64 0)),(.v (.int .i64 0))])]) (.seq (.ops [q 4 (.fa (.t 1) 0),q 5 (.ld (.t 4) 0),q 6 (.fa (.t 3) 0),⟨none,none,.st (.t 6) (.t 5) 0⟩]) (.seq (.ops [q 7 (.fa (.t 1) 1),q 8 (.ld (.t 7) 0),q 9 (.fa (.t 3) 1),⟨none,none,.st (.t 9) (.t 8) 0⟩]) (.seq (.ops [q 10 (.fa (.t 1) 2),q 11 (.ld (.t 10) 0),q 12 (.fa (.t 3) 2),⟨none,none,.st (.t 12) (.t 11) 0⟩]) (.seq (.ops [q 13 (.ld (.t 3) 3),⟨none,none,.st (.t 2) (.t 13) 3⟩]) .ret))))))⟩
theorem k33 : cF Try.prog Try.f33 = some c33 := by kernel_rfl
def c41 : AF := ⟨1,11,[(2,(some 2))],(.seq (.ops [q 1 (.box (.t 0)),q 2 (.al [(.v (.int .i64 0)),(.v (.int .i64 0))])]) (.seq (.ops [q 3 (.al [(.v (.int .i64 0)),(.v (.int .i64 0))])]) (.seq (.ops [q 4 (.fa (.t 1) 0),q 5 (.ld (.t 4) 0),q 6 (.fa (.t 3) 0),⟨none,none,.st (.t 6) (.t 5) 0⟩]) (.seq (.ops [q 7 (.fa (.t 1) 1),q 8 (.ld (.t 7) 0),q 9 (.fa (.t 3) 1),⟨none,none,.st (.t 9) (.t 8) 0⟩]) (.seq (.ops [q 10 (.ld (.t 3) 2),⟨none,none,.st (.t 2) (.t 10) 2⟩]) .ret)))))⟩
theorem k41 : cF Try.prog Try.f41 = some c41 := by kernel_rfl
def c70 : AF := ⟨2,12,[(4,none)],(.seq (.ops [q 4 (.mv (.c (.v (.int .i64 0))))]) (.seq (.ops [q 5 (.mv (.t 1)),q 6 (.mv (.t 0)),q 7 (.len false (.t 6)),q 8 (.bin .sub (.t 5) (.t 7)),q 1 (.mv (.t 8))]) (.seq (.seq (.ops [q 9 (.mv (.t 1)),q 10 (.bin .lss (.t 9) (.c (.v (.int .i64 0))))]) (.cond (.t 10) (.seq (.ops [q 4 (.mv (.c (.v (.int .i64 (-1)))))]) .ret) .skip)) (.seq (.ops [q 11 (.mv (.t 1)),q 4 (.mv (.t 11))]) .ret))))⟩
theorem k70 : cF Try.prog Try.f70 = some c70 := by kernel_rfl
def c71 : AF := ⟨1,27,[(2,none)],(.seq (.ops [q 1 (.box (.t 0)),q 2 (.mv (.c (.v (.bool false))))]) (.seq (.ops [q 3 (.fa (.t 1) 0),q 4 (.ld (.t 3) 0),q 5 (.fa (.t 1) 1),q 6 (.ld (.t 5) 3),q 7 (.call 142 [(.t 4),(.t 6)]),q 8 (.bin .eql (.t 7) (.c (.v (.int .i64 0)))),q 9 (.mv (.t 8)),⟨(some 10),(some (9,true)),.fa (.t 1) 4⟩,⟨(some 11),(some (9,true)),.ld (.t 10) 0⟩,⟨(some 12),(some (9,true)),.len false (.t 11)⟩,⟨(some 13),(some (9,true)),.fa (.t 1) 1⟩,⟨(some 14),(some (9,true)),.fa (.t 13) 0⟩,⟨(some 15),(some (9,true)),.ld (.t 14) 0⟩,⟨(some 16),(some (9,true)),.fa (.t 1) 1⟩,⟨(some 17),(some (9,true)),.fa (.t 16) 2⟩,⟨(some 18),(some (9,true)),.ld (.t 17) 0⟩,⟨(some 19),(some (9,true)),.bin .mul (.t 15) (.t 18)⟩,⟨(some 20),(some (9,true)),.bin .eql (.t 12) (.t 19)⟩,q 21 (.pick (.t 9) (.t 20) (.c (.v (.bool false)))),q 22 (.mv (.t 21)),⟨(some 23),(some (22,true)),.fa (.t 1) 4⟩,⟨(some 24),(some (22,true)),.ld (.t 23) 0⟩,⟨(some 25),(some (22,true)),.call 133 [(.t 24),(.c (.v (.int .i64 64))),(.c (.v (.int .i64 0))),(.c (.v (.int .i64 9)))]⟩,q 26 (.pick (.t 22) (.t 25) (.c (.v (.bool false)))),q 2 (.mv (.t 26))]) .ret))⟩
theorem k71 : cF Try.prog Try.f71 = some c71 := by kernel_rfl
def c72 : AF := ⟨1,26,[(2,none)],(.seq (.ops [q 1 (.box (.t 0)),q 2 (.mv (.c (.nil 2)))]) (.seq (.ops [q 6 (.bsl 2 29 []),q 3 (.mv (.t 6))]) (.seq (.seq (.ops [q 4 (.mv (.c (.v (.int .i64 0))))]) (.block 0 (.loop (.seq (.seq (.ops [q 7 (.mv (.t 4)),q 8 (.fa (.t 1) 0),q 9 (.ld (.t 8) 0),q 10 (.bin .lss (.t 7) (.t 9))]) (.cond (.t 10) .skip (.exit 0))) (.seq (.block 1 (.seq (.ops [q 5 (.mv (.c (.v (.int .i64 0))))]) (.block 2 (.loop (.seq (.seq (.ops [q 13 (.mv (.t 5)),q 14 (.fa (.t 1) 2),q 15 (.ld (.t 14) 0),q 16 (.bin .lss (.t 13) (.t 15))]) (.cond (.t 16) .skip (.exit 2))) (.seq (.block 3 (.ops [q 19 (.mv (.t 3)),q 20 (.mv (.t 4)),q 21 (.mv (.t 5)),q 22 (.bld [(.v (.int .i64 0)),(.v (.int .i64 0))] [(0,1,(.t 20)),(1,1,(.t 21))]),q 23 (.bsl 2 29 [(.t 22)]),q 24 (.app 2 29 16 (.t 19) (.t 23)),q 3 (.mv (.t 24))])) (.ops [q 17 (.mv (.t 5)),q 18 (.bin .add (.t 17) (.c (.v (.int .i64 1)))),q 5 (.mv (.t 18))]))))))) (.ops [q 11 (.mv (.t 4)),q 12 (.bin .add (.t 11) (.c (.v (.int .i64 1)))),q 4 (.mv (.t 12))])))))) (.seq (.ops [q 25 (.mv (.t 3)),q 2 (.mv (.t 25))]) .ret))))⟩
theorem k72 : cF Try.prog Try.f72 = some c72 := by kernel_rfl
def c73 : AF := ⟨2,24,[(4,none)],(.seq (.ops [q 2 (.box (.t 0)),q 3 (.box (.t 1)),q 4 (.mv (.c (.v (.bool false))))]) (.seq (.ops [q 5 (.fa (.t 2) 0),q 6 (.ld (.t 5) 0),q 7 (.fa (.t 3) 0),q 8 (.ld (.t 7) 0),q 9 (.bin .eql (.t 6) (.t 8)),q 10 (.mv (.t 9)),⟨(some 11),(some (10,true)),.fa (.t 2) 1⟩,⟨(some 12),(some (10,true)),.ld (.t 11) 3⟩,⟨(some 13),(some (10,true)),.fa (.t 3) 1⟩,⟨(some 14),(some (10,true)),.ld (.t 13) 3⟩,⟨(some 15),(some (10,true)),.eq false 3 [1,1,1] (.t 12) (.t 14)⟩,q 16 (.pick (.t 10) (.t 15) (.c (.v (.bool false)))),q 17 (.mv (.t 16)),⟨(some 18),(some (17,true)),.fa (.t 2) 4⟩,⟨(some 19),(some (17,true)),.ld (.t 18) 0⟩,⟨(some 20),(some (17,true)),.fa (.t 3) 4⟩,⟨(some 21),(some (17,true)),.ld (.t 20) 0⟩,⟨(some 22),(some (17,true)),.call 143 [(.t 19),(.t 21)]⟩,q 23 (.pick (.t 17) (.t 22) (.c (.v (.bool false)))),q 4 (.mv (.t 23))]) .ret))⟩
theorem k73 : cF Try.prog Try.f73 = some c73 := by kernel_rfl
def c74 : AF := ⟨2,47,[(4,(some 5))],(.seq (.ops [q 2 (.box (.t 0)),q 3 (.box (.t 1)),q 4 (.al [(.v (.int .i64 0)),(.v (.int .i64 0)),(.v (.int .i64 0)),(.v (.int .i64 0)),(.nil 0)])]) (.seq (.ops [q 9 (.fa (.t 3) 0),q 10 (.ld (.t 9) 4),q 11 (.fa (.t 2) 1),q 12 (.ld (.t 11) 3),q 13 (.call 144 [(.t 10),(.t 12)]),q 5 (.al [(.v (.int .i64 0)),(.v (.int .i64 0)),(.v (.int .i64 0))]),⟨none,none,.st (.t 5) (.t 13) 3⟩]) (.seq (.ops [q 14 (.fa (.t 2) 1),q 15 (.ld (.t 14) 3),q 16 (.call 72 [(.t 15)]),q 6 (.mv (.t 16))]) (.seq (.reg [0,1,0,0,8,24,63,0,255] [q 17 (.fa (.t 2) 0),q 18 (.ld (.t 17) 0),q 19 (.ld (.t 5) 3),q 20 (.mv (.t 6)),q 21 (.len false (.t 20)),q 22 (.mk 0 2 8 (.int .i64 0) (.t 21) (.t 21)),q 23 (.bld [(.v (.int .i64 0)),(.v (.int .i64 0)),(.v (.int .i64 0)),(.v (.int .i64 0)),(.nil 0)] [(0,1,(.t 18)),(1,3,(.t 19)),(4,1,(.t 22))]),q 7 (.al [(.v (.int .i64 0)),(.v (.int .i64 0)),(.v (.int .i64 0)),(.v (.int .i64 0)),(.nil 0)]),⟨none,none,.st (.t 7) (.t 23) 5⟩]) (.seq (.seq (.ops [q 8 (.mv (.c (.v (.int .i64 0))))]) (.block 0 (.loop (.seq (.seq (.ops [q 24 (.mv (.t 8)),q 25 (.mv (.t 6)),q 26 (.len false (.t 25)),q 27 (.bin .lss (.t 24) (.t 26))]) (.cond (.t 27) .skip (.exit 0))) (.seq (.block 1 (.reg [0,1,0,0,0,0,48,112,248,508,0,1024,0,7168,15360,32767,65535] [q 30 (.fa (.t 7) 4),q 31 (.ld (.t 30) 0),q 32 (.ld (.t 5) 3),q 33 (.ld (.t 3) 6),q 34 (.mv (.t 6)),q 35 (.mv (.t 8)),q 36 (.ia (.t 34) (.t 35) 2),q 37 (.ld (.t 36) 2),q 38 (.call 146 [(.t 33),(.t 37)]),q 39 (.call 145 [(.t 32),(.t 38)]),q 40 (.fa (.t 2) 4),q 41 (.ld (.t 40) 0),q 42 (.mv (.t 8)),q 43 (.ia (.t 41) (.t 42) 0),q 44 (.ld (.t 43) 0),q 45 (.ia (.t 31) (.t 39) 0),⟨none,none,.st (.t 45) (.t 44) 0⟩])) (.ops [q 28 (.mv (.t 8)),q 29 (.bin .add (.t 28) (.c (.v (.int .i64 1)))),q 8 (.mv (.t 29))])))))) (.seq (.ops [q 46 (.ld (.t 7) 5),⟨none,none,.st (.t 4) (.t 46) 5⟩]) .ret))))))⟩
theorem k74 : cF Try.prog Try.f74 = some c74 := by kernel_rfl
def c75 : AF := ⟨0,2,[(0,(some 4))],(.seq (.ops [q 0 (.al [(.v (.int .i64 0)),(.v (.int .i64 0)),(.v (.int .i64 0)),(.v (.int .i64 0))])]) (.seq (.ops [q 1 (.bld [(.v (.int .i64 0)),(.v (.int .i64 0)),(.v (.int .i64 0)),(.v (.int .i64 0))] [(0,1,(.c (.v (.int .i64 1)))),(3,1,(.c (.v (.int .i64 1))))]),⟨none,none,.st (.t 0) (.t 1) 4⟩]) .ret))⟩
theorem k75 : cF Try.prog Try.f75 = some c75 := by kernel_rfl
def c76 : AF := ⟨1,22,[(2,none)],(.seq (.ops [q 2 (.mv (.c (.nil 0)))]) (.seq (.ops [q 5 (.mv (.t 0)),q 6 (.len false (.t 5)),q 7 (.mk 0 2 8 (.int .i64 0) (.t 6) (.t 6)),q 3 (.mv (.t 7))]) (.seq (.seq (.ops [q 4 (.mv (.c (.v (.int .i64 0))))]) (.block 0 (.loop (.seq (.seq (.ops [q 8 (.mv (.t 4)),q 9 (.mv (.t 0)),q 10 (.len false (.t 9)),q 11 (.bin .lss (.t 8) (.t 10))]) (.cond (.t 11) .skip (.exit 0))) (.seq (.block 1 (.ops [q 14 (.mv (.t 3)),q 15 (.mv (.t 4)),q 16 (.mv (.t 0)),q 17 (.mv (.t 4)),q 18 (.ia (.t 16) (.t 17) 0),q 19 (.ld (.t 18) 0),q 20 (.ia (.t 14) (.t 15) 0),⟨none,none,.st (.t 20) (.t 19) 0⟩])) (.ops [q 12 (.mv (.t 4)),q 13 (.bin .add (.t 12) (.c (.v (.int .i64 1)))),q 4 (.mv (.t 13))])))))) (.seq (.ops [q 21 (.mv (.t 3)),q 2 (.mv (.t 21))]) .ret))))⟩
theorem k76 : cF Try.prog Try.f76 = some c76 := by kernel_rfl
def c77 : AF := ⟨1,25,[(2,none)],(.seq (.ops [q 1 (.box (.t 0)),q 2 (.mv (.c (.v (.bool false))))]) (.seq (.reg [0,1,3,7,15,31,63,127,255,511,1023,2047,511,4607,12799,32767,65535,131071,262143,524287,1048575,2097151,4194303] [q 3 (.fa (.t 1) 0),q 4 (.ld (.t 3) 0),q 5 (.call 147 [(.t 4)]),q 6 (.mv (.t 5)),⟨(some 7),(some (6,true)),.fa (.t 1) 1⟩,⟨(some 8),(some (6,true)),.ld (.t 7) 3⟩,⟨(some 9),(some (6,true)),.call 148 [(.t 8)]⟩,q 10 (.pick (.t 6) (.t 9) (.c (.v (.bool false)))),q 11 (.mv (.t 10)),⟨(some 12),(some (11,true)),.fa (.t 1) 4⟩,⟨(some 13),(some (11,true)),.ld (.t 12) 0⟩,⟨(some 14),(some (11,true)),.len false (.t 13)⟩,⟨(some 15),(some (11,true)),.fa (.t 1) 1⟩,⟨(some 16),(some (11,true)),.ld (.t 15) 3⟩,⟨(some 17),(some (11,true)),.call 140 [(.t 16)]⟩,⟨(some 18),(some (11,true)),.bin .eql (.t 14) (.t 17)⟩,q 19 (.pick (.t 11) (.t 18) (.c (.v (.bool false)))),q 20 (.mv (.t 19)),⟨(some 21),(some (20,true)),.fa (.t 1) 4⟩,⟨(some 22),(some (20,true)),.ld (.t 21) 0⟩,⟨(some 23),(some (20,true)),.call 131 [(.t 22),(.c (.v (.int .i64 0))),(.c (.v (.int .i64 9)))]⟩,q 24 (.pick (.t 20) (.t 23) (.c (.v (.bool false)))),q 2 (.mv (.t 24))]) .ret))⟩
theorem k77 : cF Try.prog Try.f77 = some c77 := by kernel_rfl
def c78 : AF := ⟨2,17,[(4,none)],(.seq (.ops [q 2 (.box (.t 0)),q 3 (.box (.t 1)),q 4 (.mv (.c (.v (.bool false))))]) (.seq (.ops [q 5 (.fa (.t 2) 0),q 6 (.ld (.t 5) 0),q 7 (.fa (.t 3) 0),q 8 (.ld (.t 7) 0),q 9 (.bin .eql (.t 6) (.t 8)),q 10 (.mv (.t 9)),⟨(some 11),(some (10,true)),.fa (.t 2) 1⟩,⟨(some 12),(some (10,true)),.ld (.t 11) 3⟩,⟨(some 13),(some (10,true)),.fa (.t 3) 1⟩,⟨(some 14),(some (10,true)),.ld (.t 13) 3⟩,⟨(some 15),(some (10,true)),.eq false 3 [1,1,1] (.t 12) (.t 14)⟩,q 16 (.pick (.t 10) (.t 15) (.c (.v (.bool false)))),q 4 (.mv (.t 16))]) .ret))⟩
theorem k78 : cF Try.prog Try.f78 = some c78 := by kernel_rfl
def c79 : AF := ⟨1,26,[(2,none)],(.seq (.ops [q 1 (.box (.t 0)),q 2 (.mv (.c (.nil 2)))]) (.seq (.ops [q 6 (.bsl 2 29 []),q 3 (.mv (.t 6))]) (.seq (.seq (.ops [q 7 (.fa (.t 1) 0),q 8 (.ld (.t 7) 0),q 9 (.mv (.c (.v (.int .i64 0))))]) (.block 0 (.loop (.seq (.ops [q 10 (.bin .lss (.t 9) (.t 8))]) (.seq (.cond (.t 10) .skip (.exit 0)) (.seq (.block 1 (.seq (.ops [q 11 (.mv (.t 9)),q 4 (.mv (.t 11))]) (.seq (.ops [q 12 (.fa (.t 1) 2),q 13 (.ld (.t 12) 0),q 14 (.mv (.c (.v (.int .i64 0))))]) (.block 2 (.loop (.seq (.ops [q 15 (.bin .lss (.t 14) (.t 13))]) (.seq (.cond (.t 15) .skip (.exit 2)) (.seq (.block 3 (.seq (.ops [q 16 (.mv (.t 14)),q 5 (.mv (.t 16))]) (.ops [q 17 (.mv (.t 3)),q 18 (.mv (.t 4)),q 19 (.mv (.t 5)),q 20 (.bld [(.v (.int .i64 0)),(.v (.int .i64 0))] [(0,1,(.t 18)),(1,1,(.t 19))]),q 21 (.bsl 2 29 [(.t 20)]),q 22 (.app 2 29 16 (.t 17) (.t 21)),q 3 (.mv (.t 22))]))) (.ops [q 23 (.bin .add (.t 14) (.c (.v (.int .i64 1)))),q 14 (.mv (.t 23))]))))))))) (.ops [q 24 (.bin .add (.t 9) (.c (.v (.int .i64 1)))),q 9 (.mv (.t 24))]))))))) (.seq (.ops [q 25 (.mv (.t 3)),q 2 (.mv (.t 25))]) .ret))))⟩
theorem k79 : cF Try.prog Try.f79 = some c79 := by kernel_rfl
def c80 : AF := ⟨2,26,[(4,none)],(.seq (.ops [q 4 (.mv (.c (.v (.bool false))))]) (.seq (.seq (.ops [q 6 (.mv (.t 0)),q 7 (.len false (.t 6)),q 8 (.mv (.t 1)),q 9 (.len false (.t 8)),q 10 (.bin .neq (.t 7) (.t 9))]) (.cond (.t 10) (.seq (.ops [q 4 (.mv (.c (.v (.bool false))))]) .ret) .skip)) (.seq (.seq (.ops [q 11 (.mv (.t 0)),q 12 (.len false (.t 11)),q 13 (.mv (.c (.v (.int .i64 0))))]) (.block 0 (.loop (.seq (.ops [q 14 (.bin .lss (.t 13) (.t 12))]) (.seq (.cond (.t 14) .skip (.exit 0)) (.seq (.block 1 (.seq (.ops [q 15 (.mv (.t 13)),q 5 (.mv (.t 15))]) (.seq (.reg [0,0,3,7,0,0,48,112,255] [q 16 (.mv (.t 0)),q 17 (.mv (.t 5)),q 18 (.ia (.t 16) (.t 17) 0),q 19 (.ld (.t 18) 0),q 20 (.mv (.t 1)),q 21 (.mv (.t 5)),q 22 (.ia (.t 20) (.t 21) 0),q 23 (.ld (.t 22) 0),q 24 (.bin .neq (.t 19) (.t 23))]) (.cond (.t 24) (.seq (.ops [q 4 (.mv (.c (.v (.bool false))))]) .ret) .skip)))) (.ops [q 25 (.bin .add (.t 13) (.c (.v (.int .i64 1)))),q 13 (.mv (.t 25))]))))))) (.seq (.ops [q 4 (.mv (.c (.v (.bool true))))]) .ret))))⟩
theorem k80 : cF Try.prog Try.f80 = some c80 := by kernel_rfl
def c81 : AF := ⟨2,52,[(4,(some 5))],(.seq (.ops [q 2 (.box (.t 0)),q 3 (.box (.t 1)),q 4 (.al [(.v (.int .i64 0)),(.v (.int .i64 0)),(.v (.int .i64 0)),(.v (.int .i64 0)),(.nil 0)])]) (.seq (.ops [q 12 (.fa (.t 2) 1),q 13 (.ld (.t 12) 3),q 14 (.call 149 [(.t 13)]),q 11 (.mv (.t 14)),q 15 (.ext (.t 11) 0),q 16 (.ext (.t 11) 1),q 5 (.al [(.v (.int .i64 0)),(.v (.int .i64 0))]),q 6 (.al [(.v (.int .i64 0)),(.v (.int .i64 0))]),⟨none,none,.st (.t 5) (.t 15) 2⟩,⟨none,none,.st (.t 6) (.t 16) 2⟩]) (.seq (.reg [0,1,0,4,0,28,0,64,0,508,1020,2044,4095,0,12284,0,0,131071,262143] [q 17 (.fa (.t 2) 0),q 18 (.ld (.t 17) 0),q 19 (.fa (.t 3) 0),q 20 (.ld (.t 19) 4),q 21 (.ld (.t 5) 2),q 22 (.call 151 [(.t 20),(.t 21)]),q 23 (.fa (.t 3) 0),q 24 (.ld (.t 23) 4),q 25 (.ld (.t 6) 2),q 26 (.call 151 [(.t 24),(.t 25)]),q 27 (.bsl 2 29 [(.t 22),(.t 26)]),q 28 (.call 150 [(.t 27)]),q 29 (.bld [(.v (.int .i64 0)),(.v (.int .i64 0)),(.v (.int .i64 0)),(.v (.int .i64 0)),(.nil 0)] [(0,1,(.t 18)),(1,3,(.t 28))]),q 30 (.ld (.t 3) 6),q 31 (.call 152 [(.t 30)]),q 7 (.al [(.v (.int .i64 0)),(.v (.int .i64 0)),(.v (.int .i64 0)),(.v (.int .i64 0)),(.nil 0)]),q 8 (.al [(.v (.int .i64 0)),(.v (.int .i64 0)),(.v (.int .i64 0)),(.v (.int .i64 0)),(.v (.int .i64 0)),(.v (.int .i64 0))]),⟨none,none,.st (.t 7) (.t 29) 5⟩,⟨none,none,.st (.t 8) (.t 31) 6⟩]) (.seq (.seq (.ops [q 32 (.fa (.t 7) 1),q 33 (.ld (.t 32) 3),q 34 (.call 79 [(.t 33)]),q 35 (.len false (.t 34)),q 36 (.mv (.c (.v (.int .i64 0))))]) (.block 0 (.loop (.seq (.ops [q 37 (.bin .lss (.t 36) (.t 35))]) (.seq (.cond (.t 37) .skip (.exit 0)) (.seq (.block 1 (.seq (.ops [q 38 (.ia (.t 34) (.t 36) 2),q 39 (.ld (.t 38) 2),q 10 (.al [(.v (.int .i64 0)),(.v (.int .i64 0))]),⟨none,none,.st (.t 10) (.t 39) 2⟩]) (.reg [0,1,0,0,0,24,60,124,255,511,1023] [q 40 (.fa (.t 7) 4),q 41 (.ld (.t 40) 0),q 42 (.ld (.t 2) 5),q 43 (.ld (.t 8) 6),q 44 (.ld (.t 10) 2),q 45 (.call 153 [(.t 43),(.t 44)]),q 46 (.call 136 [(.t 42),(.t 45)]),q 47 (.bsl 0 2 [(.t 46)]),q 48 (.app 0 2 8 (.t 41) (.t 47)),q 49 (.fa (.t 7) 4),⟨none,none,.st (.t 49) (.t 48) 0⟩]))) (.ops [q 50 (.bin .add (.t 36) (.c (.v (.int .i64 1)))),q 36 (.mv (.t 50))]))))))) (.seq (.ops [q 51 (.ld (.t 7) 5),⟨none,none,.st (.t 4) (.t 51) 5⟩]) .ret)))))⟩
theorem k81 : cF Try.prog Try.f81 = some c81 := by kernel_rfl
def c82 : AF := ⟨0,2,[(0,(some 4))],(.seq (.ops [q 0 (.al [(.v (.int .i64 0)),(.v (.int .i64 0)),(.v (.int .i64 0)),(.v (.int .i64 0))])]) (.seq (.ops [q 1 (.bld [(.v (.int .i64 0)),(.v (.int .i64 0)),(.v (.int .i64 0)),(.v (.int .i64 0))] [(0,1,(.c (.v (.int .i64 1)))),(1,1,(.c (.v (.int .i64 0)))),(2,1,(.c (.v (.int .i64 0)))),(3,1,(.c (.v (.int .i64 1))))]),⟨none,none,.st (.t 0) (.t 1) 4⟩]) .ret))⟩
theorem k82 : cF Try.prog Try.f82 = some c82 := by kernel_rfl
def c83 : AF := ⟨2,20,[(4,none)],(.seq (.ops [q 2 (.box (.t 0)),q 3 (.box (.t 1)),q 4 (.mv (.c (.v (.bool false))))]) (.seq (.seq (.ops [q 5 (.fa (.t 2) 0),q 6 (.ld (.t 5) 0),q 7 (.fa (.t 3) 0),q 8 (.ld (.t 7) 0),q 9 (.bin .neq (.t 6) (.t 8))]) (.cond (.t 9) (.seq (.ops [q 4 (.mv (.c (.v (.bool false))))]) .ret) .skip)) (.seq (.seq (.ops [q 10 (.fa (.t 2) 1),q 11 (.ld (.t 10) 0),q 12 (.fa (.t 3) 1),q 13 (.ld (.t 12) 0),q 14 (.bin .neq (.t 11) (.t 13))]) (.cond (.t 14) (.seq (.ops [q 4 (.mv (.c (.v (.bool false))))]) .ret) .skip)) (.seq (.seq (.ops [q 15 (.fa (.t 2) 2),q 16 (.ld (.t 15) 0),q 17 (.fa (.t 3) 2),q 18 (.ld (.t 17) 0),q 19 (.bin .neq (.t 16) (.t 18))]) (.cond (.t 19) (.seq (.ops [q 4 (.mv (.c (.v (.bool false))))]) .ret) .skip)) (.seq (.ops [q 4 (.mv (.c (.v (.bool true))))]) .ret)))))⟩
theorem k83 : cF Try.prog Try.f83 = some c83 := by kernel_rfl
def c84 : AF := ⟨2,26,[(4,none)],(.seq (.ops [q 4 (.mv (.c (.v (.bool false))))]) (.seq (.seq (.ops [q 6 (.mv (.t 0)),q 7 (.len false (.t 6)),q 8 (.mv (.t 1)),q 9 (.len false (.t 8)),q 10 (.bin .neq (.t 7) (.t 9))]) (.cond (.t 10) (.seq (.ops [q 4 (.mv (.c (.v (.bool false))))]) .ret) .skip)) (.seq (.seq (.ops [q 5 (.mv (.c (.v (.int .i64 0))))]) (.block 0 (.loop (.seq (.seq (.ops [q 11 (.mv (.t 5)),q 12 (.mv (.t 0)),q 13 (.len false (.t 12)),q 14 (.bin .lss (.t 11) (.t 13))]) (.cond (.t 14) .skip (.exit 0))) (.seq (.block 1 (.seq (.reg [0,0,3,7,0,0,48,112,255] [q 17 (.mv (.t 0)),q 18 (.mv (.t 5)),q 19 (.ia (.t 17) (.t 18) 0),q 20 (.ld (.t 19) 0),q 21 (.mv (.t 1)),q 22 (.mv (.t 5)),q 23 (.ia (.t 21) (.t 22) 0),q 24 (.ld (.t 23) 0),q 25 (.bin .neq (.t 20) (.t 24))]) (.cond (.t 25) (.seq (.ops [q 4 (.mv (.c (.v (.bool false))))]) .ret) .skip))) (.ops [q 15 (.mv (.t 5)),q 16 (.bin .add (.t 15) (.c (.v (.int .i64 1)))),q 5 (.mv (.t 16))])))))) (.seq (.ops [q 4 (.mv (.c (.v (.bool true))))]) .ret))))⟩
theorem k84 : cF Try.prog Try.f84 = some c84 := by kernel_rfl
def c85 : AF := ⟨2,12,[(4,none)],(.seq (.ops [q 2 (.box (.t 0)),q 4 (.mv (.c (.v (.int .i64 0))))]) (.seq (.block 0 (.seq (.ops [q 6 (.ld (.t 2) 5),q 7 (.call 71 [(.t 6)]),q 8 (.un .not (.t 7)),q 5 (.mv (.t 8))]) (.cond (.t 5) (.seq (.ops [q 4 (.mv (.c (.v (.int .i64 1))))]) .ret) (.seq (.ops [q 10 (.mv (.t 1)),q 11 (.un .not (.t 10)),q 9 (.mv (.t 11))]) (.cond (.t 9) (.seq (.ops [q 4 (.mv (.c (.v (.int .i64 2))))]) .ret) .skip))))) (.seq (.ops [q 4 (.mv (.c (.v (.int .i64 0))))]) .ret)))⟩
theorem k85 : cF Try.prog Try.f85 = some c85 := by kernel_rfl
def c86 : AF := ⟨1,19,[(2,none)],(.seq (.ops [q 2 (.mv (.c (.v (.bool false))))]) (.seq (.seq (.ops [q 3 (.mv (.c (.v (.int .i64 0))))]) (.block 0 (.loop (.seq (.seq (.ops [q 4 (.mv (.t 3)),q 5 (.mv (.t 0)),q 6 (.len false (.t 5)),q 7 (.bin .lss (.t 4) (.t 6))]) (.cond (.t 7) .skip (.exit 0))) (.seq (.block 1 (.seq (.ops [q 10 (.mv (.t 0)),q 11 (.mv (.t 3)),q 12 (.ia (.t 10) (.t 11) 2),q 13 (.ld (.t 12) 2),q 14 (.call 154 [(.t 13)]),q 15 (.un .not (.t 14))]) (.cond (.t 15) (.seq (.ops [q 2 (.mv (.c (.v (.bool false))))]) .ret) .skip))) (.ops [q 8 (.mv (.t 3)),q 9 (.bin .add (.t 8) (.c (.v (.int .i64 1)))),q 3 (.mv (.t 9))])))))) (.seq (.ops [q 16 (.mv (.t 0)),q 17 (.len false (.t 16)),q 18 (.bin .eql (.t 17) (.c (.v (.int .i64 9)))),q 2 (.mv (.t 18))]) .ret)))⟩
theorem k86 : cF Try.prog Try.f86 = some c86 := by kernel_rfl
def c87 : AF := ⟨2,32,[(4,(some 5))],(.seq (.ops [q 2 (.box (.t 0)),q 4 (.al [(.v (.int .i64 0)),(.v (.int .i64 0)),(.v (.int .i64 0)),(.v (.int .i64 0)),(.nil 0)])]) (.seq (.reg [0,1,0,4,0,16,48,112,255,0,1023] [q 7 (.fa (.t 2) 0),q 8 (.ld (.t 7) 0),q 9 (.fa (.t 2) 1),q 10 (.ld (.t 9) 3),q 11 (.fa (.t 2) 4),q 12 (.ld (.t 11) 0),q 13 (.len false (.t 12)),q 14 (.mk 0 2 8 (.int .i64 0) (.t 13) (.t 13)),q 15 (.bld [(.v (.int .i64 0)),(.v (.int .i64 0)),(.v (.int .i64 0)),(.v (.int .i64 0)),(.nil 0)] [(0,1,(.t 8)),(1,3,(.t 10)),(4,1,(.t 14))]),q 5 (.al [(.v (.int .i64 0)),(.v (.int .i64 0)),(.v (.int .i64 0)),(.v (.int .i64 0)),(.nil 0)]),⟨none,none,.st (.t 5) (.t 15) 5⟩]) (.seq (.seq (.ops [q 6 (.mv (.c (.v (.int .i64 1))))]) (.block 0 (.loop (.seq (.seq (.ops [q 16 (.mv (.t 6)),q 17 (.bin .leq (.t 16) (.c (.v (.int .i64 9))))]) (.cond (.t 17) .skip (.exit 0))) (.seq (.block 1 (.reg [0,0,0,6,0,0,0,64,224,480,1023,2047] [q 20 (.ld (.t 5) 5),q 21 (.ld (.t 2) 5),q 22 (.mv (.t 6)),q 23 (.call 129 [(.t 21),(.t 22)]),q 24 (.mv (.t 6)),q 25 (.mv (.t 1)),q 26 (.mv (.t 6)),q 27 (.bin .sub (.t 26) (.c (.v (.int .i64 1)))),q 28 (.ia (.t 25) (.t 27) 2),q 29 (.ld (.t 28) 2),q 30 (.call 134 [(.t 20),(.t 23),(.t 24),(.t 29)]),⟨none,none,.st (.t 5) (.t 30) 5⟩])) (.ops [q 18 (.mv (.t 6)),q 19 (.bin .add (.t 18) (.c (.v (.int .i64 1)))),q 6 (.mv (.t 19))])))))) (.seq (.ops [q 31 (.ld (.t 5) 5),⟨none,none,.st (.t 4) (.t 31) 5⟩]) .ret))))⟩
theorem k87 : cF Try.prog Try.f87 = some c87 := by kernel_rfl
def c88 : AF := ⟨1,11,[(2,none)],(.seq (.ops [q 2 (.mv (.c (.v (.bool false))))]) (.seq (.ops [q 3 (.mv (.t 0)),q 4 (.len false (.t 3)),q 5 (.bin .eql (.t 4) (.c (.v (.int .i64 9)))),q 6 (.mv (.t 5)),⟨(some 7),(some (6,true)),.mv (.t 0)⟩,⟨(some 8),(some (6,true)),.call 155 [(.t 7),(.c (.fn 156 []))]⟩,⟨(some 9),(some (6,true)),.un .not (.t 8)⟩,q 10 (.pick (.t 6) (.t 9) (.c (.v (.bool false)))),q 2 (.mv (.t 10))]) .ret))⟩
theorem k88 : cF Try.prog Try.f88 = some c88 := by kernel_rfl
def c89 : AF := ⟨2,35,[(4,(some 5))],(.seq (.ops [q 2 (.box (.t 0)),q 4 (.al [(.v (.int .i64 0)),(.v (.int .i64 0)),(.v (.int .i64 0)),(.v (.int .i64 0)),(.nil 0)])]) (.seq (.ops [q 9 (.fa (.t 2) 0),q 10 (.ld (.t 9) 0),q 11 (.fa (.t 2) 1),q 12 (.ld (.t 11) 3),q 13 (.call 158 [(.t 10),(.t 12),(.c (.nil 2)),(.c (.v (.int .i64 0)))]),q 5 (.al [(.v (.int .i64 0)),(.v (.int .i64 0)),(.v (.int .i64 0)),(.v (.int .i64 0)),(.nil 0)]),⟨none,none,.st (.t 5) (.t 13) 5⟩]) (.seq (.seq (.ops [q 14 (.mv (.t 1)),q 15 (.len false (.t 14)),q 16 (.mv (.c (.v (.int .i64 0))))]) (.block 0 (.loop (.seq (.ops [q 17 (.bin .lss (.t 16) (.t 15))]) (.seq (.cond (.t 17) .skip (.exit 0)) (.seq (.block 1 (.seq (.ops [q 18 (.mv (.t 16)),q 19 (.ia (.t 14) (.t 16) 2),q 20 (.ld (.t 19) 2),q 7 (.al [(.v (.int .i64 0)),(.v (.int .i64 0))]),q 6 (.mv (.t 18)),⟨none,none,.st (.t 7) (.t 20) 2⟩]) (.seq (.ops [q 21 (.mv (.t 6)),q 22 (.bin .add (.t 21) (.c (.v (.int .i64 1)))),q 8 (.mv (.t 22))]) (.reg [0,0,0,6,14,0,62,126,0,511,1023] [q 23 (.ld (.t 5) 5),q 24 (.ld (.t 2) 5),q 25 (.mv (.t 8)),q 26 (.call 127 [(.t 24),(.t 25)]),q 27 (.call 82 []),q 28 (.ld (.t 7) 2),q 29 (.bld [(.v (.int .i64 0)),(.v (.int .i64 0)),(.v (.int .i64 0)),(.v (.int .i64 0)),(.v (.int .i64 0)),(.v (.int .i64 0))] [(0,4,(.t 27)),(4,2,(.t 28))]),q 30 (.call 81 [(.t 26),(.t 29)]),q 31 (.mv (.t 8)),q 32 (.call 132 [(.t 23),(.t 30),(.t 31)]),⟨none,none,.st (.t 5) (.t 32) 5⟩])))) (.ops [q 33 (.bin .add (.t 16) (.c (.v (.int .i64 1)))),q 16 (.mv (.t 33))]))))))) (.seq (.ops [q 34 (.ld (.t 5) 5),⟨none,none,.st (.t 4) (.t 34) 5⟩]) .ret))))⟩
theorem k89 : cF Try.prog Try.f89 = some c89 := by kernel_rfl
def c90 : AF := ⟨2,19,[(4,none)],(.seq (.ops [q 4 (.mv (.c (.v (.int .i64 0))))]) (.seq (.seq (.ops [q 5 (.mv (.c (.v (.int .i64 0))))]) (.block 0 (.loop (.seq (.seq (.ops [q 6 (.mv (.t 5)),q 7 (.mv (.t 0)),q 8 (.len false (.t 7)),q 9 (.bin .lss (.t 6) (.t 8))]) (.cond (.t 9) .skip (.exit 0))) (.seq (.block 1 (.seq (.ops [q 12 (.mv (.t 0)),q 13 (.mv (.t 5)),q 14 (.mv (.t 1)),q 15 (.ia (.t 12) (.t 13) 0),⟨none,none,.st (.t 15) (.t 14) 0⟩]) (.ops [q 16 (.mv (.t 1)),q 17 (.bin .add (.t 16) (.c (.v (.int .i64 1)))),q 1 (.mv (.t 17))]))) (.ops [q 10 (.mv (.t 5)),q 11 (.bin .add (.t 10) (.c (.v (.int .i64 1)))),q 5 (.mv (.t 11))])))))) (.seq (.ops [q 18 (.mv (.t 1)),q 4 (.mv (.t 18))]) .ret)))⟩
theorem k90 : cF Try.prog Try.f90 = some c90 := by kernel_rfl
def c91 : AF := ⟨2,21,[(4,none)],(.seq (.ops [q 4 (.mv (.c (.v (.int .i64 0))))]) (.seq (.seq (.ops [q 5 (.mv (.c (.v (.int .i64 0))))]) (.block 0 (.loop (.seq (.seq (.ops [q 6 (.mv (.t 5)),q 7 (.mv (.t 0)),q 8 (.len false (.t 7)),q 9 (.bin .lss (.t 6) (.t 8))]) (.cond (.t 9) .skip (.exit 0))) (.seq (.block 1 (.seq (.seq (.ops [q 12 (.mv (.t 0)),q 13 (.mv (.t 5)),q 14 (.ia (.t 12) (.t 13) 0),q 15 (.ld (.t 14) 0),q 16 (.mv (.t 1)),q 17 (.bin .neq (.t 15) (.t 16))]) (.cond (.t 17) (.seq (.ops [q 4 (.mv (.c (.v (.int .i64 (-1)))))]) .ret) .skip)) (.ops [q 18 (.mv (.t 1)),q 19 (.bin .add (.t 18) (.c (.v (.int .i64 1)))),q 1 (.mv (.t 19))]))) (.ops [q 10 (.mv (.t 5)),q 11 (.bin .add (.t 10) (.c (.v (.int .i64 1)))),q 5 (.mv (.t 11))])))))) (.seq (.ops [q 20 (.mv (.t 1)),q 4 (.mv (.t 20))]) .ret)))⟩
theorem k91 : cF Try.prog Try.f91 = some c91 := by kernel_rfl
def c127 : AF := ⟨2,32,[(4,(some 5))],(.seq (.ops [q 2 (.box (.t 0)),q 4 (.al [(.v (.int .i64 0)),(.v (.int .i64 0)),(.v (.int .i64 0)),(.v (.int .i64 0)),(.nil 0)])]) (.seq (.ops [q 9 (.fa (.t 2) 0),q 10 (.ld (.t 9) 0),q 11 (.fa (.t 2) 1),q 12 (.ld (.t 11) 3),q 13 (.bld [(.v (.int .i64 0)),(.v (.int .i64 0)),(.v (.int .i64 0)),(.v (.int .i64 0)),(.nil 0)] [(0,1,(.t 10)),(1,3,(.t 12))]),q 5 (.al [(.v (.int .i64 0)),(.v (.int .i64 0)),(.v (.int .i64 0)),(.v (.int .i64 0)),(.nil 0)]),⟨none,none,.st (.t 5) (.t 13) 5⟩]) (.seq (.seq (.ops [q 14 (.fa (.t 2) 4),q 15 (.ld (.t 14) 0),q 16 (.len false (.t 15)),q 17 (.mv (.c (.v (.int .i64 0))))]) (.block 0 (.loop (.seq (.ops [q 18 (.bin .lss (.t 17) (.t 16))]) (.seq (.cond (.t 18) .skip (.exit 0)) (.seq (.block 1 (.seq (.ops [q 19 (.ia (.t 15) (.t 17) 0),q 20 (.ld (.t 19) 0),q 7 (.mv (.t 20))]) (.seq (.ops [q 8 (.mv (.c (.v (.int .i64 0))))]) (.seq (.seq (.ops [q 21 (.mv (.t 7)),q 22 (.mv (.t 1)),q 23 (.bin .eql (.t 21) (.t 22))]) (.cond (.t 23) (.ops [q 8 (.mv (.c (.v (.int .i64 1))))]) .skip)) (.ops [q 24 (.fa (.t 5) 4),q 25 (.ld (.t 24) 0),q 26 (.mv (.t 8)),q 27 (.bsl 0 2 [(.t 26)]),q 28 (.app 0 2 8 (.t 25) (.t 27)),q 29 (.fa (.t 5) 4),⟨none,none,.st (.t 29) (.t 28) 0⟩]))))) (.ops [q 30 (.bin .add (.t 17) (.c (.v (.int .i64 1)))),q 17 (.mv (.t 30))]))))))) (.seq (.ops [q 31 (.ld (.t 5) 5),⟨none,none,.st (.t 4) (.t 31) 5⟩]) .ret))))⟩
theorem k127 : cF Try.prog Try.f127 = some c127 := by kernel_rfl
def c128 : AF := ⟨3,15,[(6,none)],(.seq (.ops [q 6 (.mv (.c (.v (.bool false))))]) (.seq (.ops [q 7 (.mv (.t 0)),q 8 (.mv (.t 1)),q 9 (.bin .geq (.t 7) (.t 8)),q 10 (.mv (.t 9)),⟨(some 11),(some (10,true)),.mv (.t 0)⟩,⟨(some 12),(some (10,true)),.mv (.t 2)⟩,⟨(some 13),(some (10,true)),.bin .leq (.t 11) (.t 12)⟩,q 14 (.pick (.t 10) (.t 13) (.c (.v (.bool false)))),q 6 (.mv (.t 14))]) .ret))⟩
theorem k128 : cF Try.prog Try.f128 = some c128 := by kernel_rfl
def c129 : AF := ⟨2,35,[(4,(some 5))],(.seq (.ops [q 2 (.box (.t 0)),q 4 (.al [(.v (.int .i64 0)),(.v (.int .i64 0)),(.v (.int .i64 0)),(.v (.int .i64 0)),(.nil 0)])]) (.seq (.ops [q 8 (.fa (.t 2) 0),q 9 (.ld (.t 8) 0),q 10 (.fa (.t 2) 1),q 11 (.ld (.t 10) 3),q 12 (.bsl 0 2 []),q 13 (.bld [(.v (.int .i64 0)),(.v (.int .i64 0)),(.v (.int .i64 0)),(.v (.int .i64 0)),(.nil 0)] [(0,1,(.t 9)),(1,3,(.t 11)),(4,1,(.t 12))]),q 5 (.al [(.v (.int .i64 0)),(.v (.int .i64 0)),(.v (.int .i64 0)),(.v (.int .i64 0)),(.nil 0)]),⟨none,none,.st (.t 5) (.t 13) 5⟩]) (.seq (.seq (.ops [q 6 (.mv (.c (.v (.int .i64 0))))]) (.block 0 (.loop (.seq (.seq (.ops [q 14 (.mv (.t 6)),q 15 (.fa (.t 2) 4),q 16 (.ld (.t 15) 0),q 17 (.len false (.t 16)),q 18 (.bin .lss (.t 14) (.t 17))]) (.cond (.t 18) .skip (.exit 0))) (.seq (.block 1 (.seq (.ops [q 7 (.mv (.c (.v (.int .i64 0))))]) (.seq (.seq (.ops [q 21 (.fa (.t 2) 4),q 22 (.ld (.t 21) 0),q 23 (.mv (.t 6)),q 24 (.ia (.t 22) (.t 23) 0),q 25 (.ld (.t 24) 0),q 26 (.mv (.t 1)),q 27 (.bin .eql (.t 25) (.t 26))]) (.cond (.t 27) (.ops [q 7 (.mv (.c (.v (.int .i64 1))))]) .skip)) (.ops [q 28 (.fa (.t 5) 4),q 29 (.ld (.t 28) 0),q 30 (.mv (.t 7)),q 31 (.bsl 0 2 [(.t 30)]),q 32 (.app 0 2 8 (.t 29) (.t 31)),q 33 (.fa (.t 5) 4),⟨none,none,.st (.t 33) (.t 32) 0⟩])))) (.ops [q 19 (.mv (.t 6)),q 20 (.bin .add (.t 19) (.c (.v (.int .i64 1)))),q 6 (.mv (.t 20))])))))) (.seq (.ops [q 34 (.ld (.t 5) 5),⟨none,none,.st (.t 4) (.t 34) 5⟩]) .ret))))⟩
theorem k129 : cF Try.prog Try.f129 = some c129 := by kernel_rfl
def c131 : AF := ⟨3,11,[(6,none)],(.seq (.ops [q 4 (.box (.t 1)),q 5 (.box (.t 2)),q 6 (.mv (.c (.v (.bool false))))]) (.seq (.ops [q 7 (.mv (.t 0)),q 8 (.mkf 188 [(.t 4),(.t 5)]),q 9 (.call 187 [(.t 7),(.t 8)]),q 10 (.un .not (.t 9)),q 6 (.mv (.t 10))]) .ret))⟩
theorem k131 : cF Try.prog Try.f131 = some c131 := by kernel_rfl
def c132 : AF := ⟨3,35,[(6,(some 5))],(.seq (.ops [q 3 (.box (.t 0)),q 4 (.box (.t 1)),q 6 (.al [(.v (.int .i64 0)),(.v (.int .i64 0)),(.v (.int .i64 0)),(.v (.int .i64 0)),(.nil 0)])]) (.seq (.reg [0,1,0,4,0,16,48,127,0,511] [q 10 (.fa (.t 3) 0),q 11 (.ld (.t 10) 0),q 12 (.fa (.t 3) 1),q 13 (.ld (.t 12) 3),q 14 (.fa (.t 3) 4),q 15 (.ld (.t 14) 0),q 16 (.call 189 [(.t 15)]),q 17 (.bld [(.v (.int .i64 0)),(.v (.int .i64 0)),(.v (.int .i64 0)),(.v (.int .i64 0)),(.nil 0)] [(0,1,(.t 11)),(1,3,(.t 13)),(4,1,(.t 16))]),q 7 (.al [(.v (.int .i64 0)),(.v (.int .i64 0)),(.v (.int .i64 0)),(.v (.int .i64 0)),(.nil 0)]),⟨none,none,.st (.t 7) (.t 17) 5⟩]) (.seq (.seq (.ops [q 18 (.fa (.t 4) 4),q 19 (.ld (.t 18) 0),q 20 (.len false (.t 19)),q 21 (.mv (.c (.v (.int .i64 0))))]) (.block 0 (.loop (.seq (.ops [q 22 (.bin .lss (.t 21) (.t 20))]) (.seq (.cond (.t 22) .skip (.exit 0)) (.seq (.block 1 (.seq (.ops [q 23 (.mv (.t 21)),q 24 (.ia (.t 19) (.t 21) 0),q 25 (.ld (.t 24) 0),q 8 (.mv (.t 23)),q 9 (.mv (.t 25))]) (.seq (.ops [q 26 (.mv (.t 9)),q 27 (.bin .eql (.t 26) (.c (.v (.int .i64 1))))]) (.cond (.t 27) (.ops [q 28 (.fa (.t 7) 4),q 29 (.ld (.t 28) 0),q 30 (.mv (.t 8)),q 31 (.mv (.t 2)),q 32 (.ia (.t 29) (.t 30) 0),⟨none,none,.st (.t 32) (.t 31) 0⟩]) .skip)))) (.ops [q 33 (.bin .add (.t 21) (.c (.v (.int .i64 1)))),q 21 (.mv (.t 33))]))))))) (.seq (.ops [q 34 (.ld (.t 7) 5),⟨none,none,.st (.t 6) (.t 34) 5⟩]) .ret))))⟩
theorem k132 : cF Try.prog Try.f132 = some c132 := by kernel_rfl
def c133 : AF := ⟨4,28,[(8,none)],(.seq (.ops [q 8 (.mv (.c (.v (.bool false))))]) (.seq (.seq (.ops [q 9 (.mv (.c (.v (.int .i64 0))))]) (.block 0 (.loop (.seq (.seq (.ops [q 10 (.mv (.t 9)),q 11 (.mv (.t 0)),q 12 (.len false (.t 11)),q 13 (.bin .lss (.t 10) (.t 12))]) (.cond (.t 13) .skip (.exit 0))) (.seq (.block 1 (.seq (.ops [q 16 (.mv (.t 0)),q 17 (.mv (.t 9)),q 18 (.ia (.t 16) (.t 17) 0),q 19 (.ld (.t 18) 0),q 20 (.mv (.t 2)),q 21 (.mv (.t 3)),q 22 (.call 128 [(.t 19),(.t 20),(.t 21)]),q 23 (.un .not (.t 22))]) (.cond (.t 23) (.seq (.ops [q 8 (.mv (.c (.v (.bool false))))]) .ret) .skip))) (.ops [q 14 (.mv (.t 9)),q 15 (.bin .add (.t 14) (.c (.v (.int .i64 1)))),q 9 (.mv (.t 15))])))))) (.seq (.ops [q 24 (.mv (.t 0)),q 25 (.len false (.t 24)),q 26 (.mv (.t 1)),q 27 (.bin .leq (.t 25) (.t 26)),q 8 (.mv (.t 27))]) .ret)))⟩
theorem k133 : cF Try.prog Try.f133 = some c133 := by kernel_rfl
def c134 : AF := ⟨4,49,[(8,(some 5))],(.seq (.ops [q 4 (.box (.t 0)),q 5 (.box (.t 1)),q 7 (.box (.t 3)),q 8 (.al [(.v (.int .i64 0)),(.v (.int .i64 0)),(.v (.int .i64 0)),(.v (.int .i64 0)),(.nil 0)])]) (.seq (.ops [q 12 (.fa (.t 4) 1),q 13 (.ld (.t 12) 3),q 14 (.call 72 [(.t 13)]),q 9 (.mv (.t 14))]) (.seq (.reg [0,1,0,4,0,16,48,127,0,511] [q 15 (.fa (.t 4) 0),q 16 (.ld (.t 15) 0),q 17 (.fa (.t 4) 1),q 18 (.ld (.t 17) 3),q 19 (.fa (.t 4) 4),q 20 (.ld (.t 19) 0),q 21 (.call 138 [(.t 20)]),q 22 (.bld [(.v (.int .i64 0)),(.v (.int .i64 0)),(.v (.int .i64 0)),(.v (.int .i64 0)),(.nil 0)] [(0,1,(.t 16)),(1,3,(.t 18)),(4,1,(.t 21))]),q 10 (.al [(.v (.int .i64 0)),(.v (.int .i64 0)),(.v (.int .i64 0)),(.v (.int .i64 0)),(.nil 0)]),⟨none,none,.st (.t 10) (.t 22) 5⟩]) (.seq (.seq (.ops [q 11 (.mv (.c (.v (.int .i64 0))))]) (.block 0 (.loop (.seq (.seq (.ops [q 23 (.mv (.t 11)),q 24 (.mv (.t 9)),q 25 (.len false (.t 24)),q 26 (.bin .lss (.t 23) (.t 25))]) (.cond (.t 26) .skip (.exit 0))) (.seq (.block 1 (.seq (.ops [q 29 (.fa (.t 5) 4),q 30 (.ld (.t 29) 0),q 31 (.mv (.t 11)),q 32 (.ia (.t 30) (.t 31) 0),q 33 (.ld (.t 32) 0),q 34 (.bin .eql (.t 33) (.c (.v (.int .i64 1))))]) (.cond (.t 34) (.reg [0,1,0,4,0,0,48,112,0,496,1020,0,4095,8191] [q 35 (.fa (.t 10) 4),q 36 (.ld (.t 35) 0),q 37 (.fa (.t 4) 1),q 38 (.ld (.t 37) 3),q 39 (.mv (.t 9)),q 40 (.mv (.t 11)),q 41 (.ia (.t 39) (.t 40) 2),q 42 (.ld (.t 41) 2),q 43 (.ld (.t 7) 2),q 44 (.call 190 [(.t 42),(.t 43)]),q 45 (.call 145 [(.t 38),(.t 44)]),q 46 (.mv (.t 2)),q 47 (.ia (.t 36) (.t 45) 0),⟨none,none,.st (.t 47) (.t 46) 0⟩]) .skip))) (.ops [q 27 (.mv (.t 11)),q 28 (.bin .add (.t 27) (.c (.v (.int .i64 1)))),q 11 (.mv (.t 28))])))))) (.seq (.ops [q 48 (.ld (.t 10) 5),⟨none,none,.st (.t 8) (.t 48) 5⟩]) .ret)))))⟩
theorem k134 : cF Try.prog Try.f134 = some c134 := by kernel_rfl
def c136 : AF := ⟨2,16,[(4,none)],(.seq (.ops [q 2 (.box (.t 0)),q 3 (.box (.t 1)),q 4 (.mv (.c (.v (.int .i64 0))))]) (.seq (.reg [0,1,0,4,0,16,0,112,252,511,1023,2047] [q 5 (.fa (.t 2) 4),q 6 (.ld (.t 5) 0),q 7 (.fa (.t 2) 1),q 8 (.ld (.t 7) 3),q 9 (.fa (.t 2) 1),q 10 (.ld (.t 9) 3),q 11 (.ld (.t 3) 2),q 12 (.call 170 [(.t 10),(.t 11)]),q 13 (.call 192 [(.t 8),(.t 12)]),q 14 (.ia (.t 6) (.t 13) 0),q 15 (.ld (.t 14) 0),q 4 (.mv (.t 15))]) .ret))⟩
theorem k136 : cF Try.prog Try.f136 = some c136 := by kernel_rfl
def c138 : AF := ⟨1,6,[(2,none)],(.seq (.ops [q 2 (.mv (.c (.nil 0)))]) (.seq (.ops [q 3 (.bsl 0 2 []),q 4 (.mv (.t 0)),q 5 (.app 0 2 8 (.t 3) (.t 4)),q 2 (.mv (.t 5))]) .ret))⟩
theorem k138 : cF Try.prog Try.f138 = some c138 := by kernel_rfl
def c140 : AF := ⟨1,8,[(2,none)],(.seq (.ops [q 1 (.box (.t 0)),q 2 (.mv (.c (.v (.int .i64 0))))]) (.seq (.ops [q 3 (.fa (.t 1) 0),q 4 (.ld (.t 3) 0),q 5 (.fa (.t 1) 2),q 6 (.ld (.t 5) 0),q 7 (.bin .mul (.t 4) (.t 6)),q 2 (.mv (.t 7))]) .ret))⟩
theorem k140 : cF Try.prog Try.f140 = some c140 := by kernel_rfl
def c142 : AF := ⟨2,13,[(4,none)],(.seq (.ops [q 3 (.box (.t 1)),q 4 (.mv (.c (.v (.int .i64 0))))]) (.seq (.seq (.ops [q 5 (.mv (.t 0)),q 6 (.call 193 [(.t 5)]),q 7 (.un .not (.t 6)),q 8 (.mv (.t 7)),⟨(some 9),(some (8,false)),.ld (.t 3) 3⟩,⟨(some 10),(some (8,false)),.call 194 [(.t 9)]⟩,⟨(some 11),(some (8,false)),.un .not (.t 10)⟩,q 12 (.pick (.t 8) (.c (.v (.bool true))) (.t 11))]) (.cond (.t 12) (.seq (.ops [q 4 (.mv (.c (.v (.int .i64 1))))]) .ret) .skip)) (.seq (.ops [q 4 (.mv (.c (.v (.int .i64 0))))]) .ret)))⟩
theorem k142 : cF Try.prog Try.f142 = some c142 := by kernel_rfl
def c143 : AF := ⟨2,26,[(4,none)],(.seq (.ops [q 4 (.mv (.c (.v (.bool false))))]) (.seq (.seq (.ops [q 6 (.mv (.t 0)),q 7 (.len false (.t 6)),q 8 (.mv (.t 1)),q 9 (.len false (.t 8)),q 10 (.bin .neq (.t 7) (.t 9))]) (.cond (.t 10) (.seq (.ops [q 4 (.mv (.c (.v (.bool false))))]) .ret) .skip)) (.seq (.seq (.ops [q 5 (.mv (.c (.v (.int .i64 0))))]) (.block 0 (.loop (.seq (.seq (.ops [q 11 (.mv (.t 5)),q 12 (.mv (.t 0)),q 13 (.len false (.t 12)),q 14 (.bin .lss (.t 11) (.t 13))]) (.cond (.t 14) .skip (.exit 0))) (.seq (.block 1 (.seq (.reg [0,0,3,7,0,0,48,112,255] [q 17 (.mv (.t 0)),q 18 (.mv (.t 5)),q 19 (.ia (.t 17) (.t 18) 0),q 20 (.ld (.t 19) 0),q 21 (.mv (.t 1)),q 22 (.mv (.t 5)),q 23 (.ia (.t 21) (.t 22) 0),q 24 (.ld (.t 23) 0),q 25 (.bin .neq (.t 20) (.t 24))]) (.cond (.t 25) (.seq (.ops [q 4 (.mv (.c (.v (.bool false))))]) .ret) .skip))) (.ops [q 15 (.mv (.t 5)),q 16 (.bin .add (.t 15) (.c (.v (.int .i64 1)))),q 5 (.mv (.t 16))])))))) (.seq (.ops [q 4 (.mv (.c (.v (.bool true))))]) .ret))))⟩
theorem k143 : cF Try.prog Try.f143 = some c143 := by kernel_rfl
def c144 : AF := ⟨2,20,[(4,(some 3))],(.seq (.ops [q 2 (.box (.t 0)),q 3 (.box (.t 1)),q 4 (.al [(.v (.int .i64 0)),(.v (.int .i64 0)),(.v (.int .i64 0))])]) (.seq (.ops [q 6 (.ld (.t 3) 3),q 7 (.call 195 [(.t 6)]),q 5 (.mv (.t 7))]) (.seq (.reg [0,0,2,6,15,0,0,64,192,511,1023,2047,4095] [q 8 (.ld (.t 2) 4),q 9 (.mv (.t 5)),q 10 (.ia (.t 9) (.c (.v (.int .i64 0))) 2),q 11 (.ld (.t 10) 2),q 12 (.call 197 [(.t 8),(.t 11)]),q 13 (.ld (.t 2) 4),q 14 (.mv (.t 5)),q 15 (.ia (.t 14) (.c (.v (.int .i64 1))) 2),q 16 (.ld (.t 15) 2),q 17 (.call 197 [(.t 13),(.t 16)]),q 18 (.bsl 2 29 [(.t 12),(.t 17)]),q 19 (.call 196 [(.t 18)]),⟨none,none,.st (.t 4) (.t 19) 3⟩]) .ret)))⟩
theorem k144 : cF Try.prog Try.f144 = some c144 := by kernel_rfl
def c145 : AF := ⟨2,16,[(4,none)],(.seq (.ops [q 2 (.box (.t 0)),q 3 (.box (.t 1)),q 4 (.mv (.c (.v (.int .i64 0))))]) (.seq (.ops [q 5 (.ld (.t 2) 3),q 6 (.ld (.t 3) 2),q 7 (.call 168 [(.t 5),(.t 6)]),⟨none,none,.st (.t 3) (.t 7) 2⟩]) (.seq (.ops [q 8 (.fa (.t 3) 0),q 9 (.ld (.t 8) 0),q 10 (.fa (.t 2) 2),q 11 (.ld (.t 10) 0),q 12 (.bin .mul (.t 9) (.t 11)),q 13 (.fa (.t 3) 1),q 14 (.ld (.t 13) 0),q 15 (.bin .add (.t 12) (.t 14)),q 4 (.mv (.t 15))]) .ret)))⟩
theorem k145 : cF Try.prog Try.f145 = some c145 := by kernel_rfl
def c146 : AF := ⟨2,12,[(4,(some 2))],(.seq (.ops [q 2 (.box (.t 0)),q 3 (.box (.t 1)),q 4 (.al [(.v (.int .i64 0)),(.v (.int .i64 0))])]) (.seq (.reg [0,1,0,7,0,16,63,127] [q 5 (.fa (.t 2) 0),q 6 (.ld (.t 5) 4),q 7 (.ld (.t 3) 2),q 8 (.call 197 [(.t 6),(.t 7)]),q 9 (.fa (.t 2) 4),q 10 (.ld (.t 9) 2),q 11 (.call 190 [(.t 8),(.t 10)]),⟨none,none,.st (.t 4) (.t 11) 2⟩]) .ret))⟩
theorem k146 : cF Try.prog Try.f146 = some c146 := by kernel_rfl
def c147 : AF := ⟨1,5,[(2,none)],(.seq (.ops [q 2 (.mv (.c (.v (.bool false))))]) (.seq (.ops [q 3 (.mv (.t 0)),q 4 (.call 186 [(.t 3),(.c (.v (.int .i64 0))),(.c (.v (.int .i64 1)))]),q 2 (.mv (.t 4))]) .ret))⟩
theorem k147 : cF Try.prog Try.f147 = some c147 := by kernel_rfl
def c148 : AF := ⟨1,24,[(2,none)],(.seq (.ops [q 1 (.box (.t 0)),q 2 (.mv (.c (.v (.bool false))))]) (.seq (.ops [q 3 (.fa (.t 1) 0),q 4 (.ld (.t 3) 0),q 5 (.call 186 [(.t 4),(.c (.v (.int .i64 1))),(.c (.v (.int .i64 64)))]),q 6 (.mv (.t 5)),⟨(some 7),(some (6,true)),.fa (.t 1) 2⟩,⟨(some 8),(some (6,true)),.ld (.t 7) 0⟩,⟨(some 9),(some (6,true)),.call 186 [(.t 8),(.c (.v (.int .i64 1))),(.c (.v (.int .i64 64)))]⟩,q 10 (.pick (.t 6) (.t 9) (.c (.v (.bool false)))),q 11 (.mv (.t 10)),⟨(some 12),(some (11,true)),.fa (.t 1) 1⟩,⟨(some 13),(some (11,true)),.ld (.t 12) 0⟩,⟨(some 14),(some (11,true)),.fa (.t 1) 0⟩,⟨(some 15),(some (11,true)),.ld (.t 14) 0⟩,⟨(some 16),(some (11,true)),.bin .sub (.t 15) (.c (.v (.int .i64 1)))⟩,⟨(some 17),(some (11,true)),.call 186 [(.t 13),(.c (.v (.int .i64 0))),(.t 16)]⟩,q 18 (.pick (.t 11) (.t 17) (.c (.v (.bool false)))),q 19 (.mv (.t 18)),⟨(some 20),(some (19,true)),.ld (.t 1) 3⟩,⟨(some 21),(some (19,true)),.call 140 [(.t 20)]⟩,⟨(some 22),(some (19,true)),.bin .leq (.t 21) (.c (.v (.int .i64 64)))⟩,q 23 (.pick (.t 19) (.t 22) (.c (.v (.bool false)))),q 2 (.mv (.t 23))]) .ret))⟩
theorem k148 : cF Try.prog Try.f148 = some c148 := by kernel_rfl
def c149 : AF := ⟨1,12,[(2,(some 2)),(3,(some 2))],(.seq (.ops [q 1 (.box (.t 0)),q 2 (.al [(.v (.int .i64 0)),(.v (.int .i64 0))]),q 3 (.al [(.v (.int .i64 0)),(.v (.int .i64 0))])]) (.seq (.reg [0,1,3,0,8,0,32,120,7,511] [q 4 (.fa (.t 1) 0),q 5 (.ld (.t 4) 0),q 6 (.bld [(.v (.int .i64 0)),(.v (.int .i64 0))] [(0,1,(.t 5)),(1,1,(.c (.v (.int .i64 0))))]),q 7 (.fa (.t 1) 1),q 8 (.ld (.t 7) 0),q 9 (.fa (.t 1) 2),q 10 (.ld (.t 9) 0),q 11 (.bld [(.v (.int .i64 0)),(.v (.int .i64 0))] [(0,1,(.t 8)),(1,1,(.t 10))]),⟨none,none,.st (.t 2) (.t 6) 2⟩,⟨none,none,.st (.t 3) (.t 11) 2⟩]) .ret))⟩
theorem k149 : cF Try.prog Try.f149 = some c149 := by kernel_rfl
def c150 : AF := ⟨1,48,[(2,(some 3))],(.seq (.ops [q 2 (.al [(.v (.int .i64 0)),(.v (.int .i64 0)),(.v (.int .i64 0))])]) (.seq (.ops [q 8 (.bld [(.v (.int .i64 0)),(.v (.int .i64 0))] []),q 4 (.al [(.v (.int .i64 0)),(.v (.int .i64 0))]),q 3 (.mv (.c (.v (.int .i64 0)))),⟨none,none,.st (.t 4) (.t 8) 2⟩]) (.seq (.seq (.ops [q 9 (.mv (.t 0)),q 10 (.len false (.t 9)),q 11 (.mv (.c (.v (.int .i64 0))))]) (.block 0 (.loop (.seq (.ops [q 12 (.bin .lss (.t 11) (.t 10))]) (.seq (.cond (.t 12) .skip (.exit 0)) (.seq (.block 1 (.seq (.ops [q 13 (.ia (.t 9) (.t 11) 2),q 14 (.ld (.t 13) 2),q 6 (.al [(.v (.int .i64 0)),(.v (.int .i64 0))]),⟨none,none,.st (.t 6) (.t 14) 2⟩]) (.seq (.block 2 (.loop (.seq (.seq (.ops [q 15 (.fa (.t 6) 1),q 16 (.ld (.t 15) 0),q 17 (.bin .neq (.t 16) (.c (.v (.int .i64 0))))]) (.cond (.t 17) .skip (.exit 2))) (.block 3 (.seq (.ops [q 18 (.fa (.t 4) 1),q 19 (.ld (.t 18) 0),q 20 (.fa (.t 6) 1),q 21 (.ld (.t 20) 0),q 22 (.bin .quo (.t 19) (.t 21)),q 7 (.mv (.t 22))]) (.reg [0,0,0,0,8,28,62,127,255] [q 23 (.ld (.t 6) 2),q 24 (.ld (.t 4) 2),q 25 (.ld (.t 6) 2),q 26 (.mv (.t 7)),q 27 (.un .neg (.t 26)),q 28 (.call 198 [(.t 25),(.t 27)]),q 29 (.call 191 [(.t 24),(.t 28)]),⟨none,none,.st (.t 4) (.t 23) 2⟩,⟨none,none,.st (.t 6) (.t 29) 2⟩])))))) (.ops [q 30 (.mv (.t 3)),q 31 (.fa (.t 6) 0),q 32 (.ld (.t 31) 0),q 33 (.call 199 [(.t 30),(.t 32)]),q 3 (.mv (.t 33))])))) (.ops [q 34 (.bin .add (.t 11) (.c (.v (.int .i64 1)))),q 11 (.mv (.t 34))]))))))) (.seq (.seq (.ops [q 35 (.fa (.t 4) 1),q 36 (.ld (.t 35) 0),q 37 (.bin .lss (.t 36) (.c (.v (.int .i64 0))))]) (.cond (.t 37) (.ops [q 38 (.ld (.t 4) 2),q 39 (.call 198 [(.t 38),(.c (.v (.int .i64 (-1))))]),⟨none,none,.st (.t 4) (.t 39) 2⟩]) .skip)) (.seq (.reg [0,0,2,0,14,0,32,127,255] [q 40 (.mv (.t 3)),q 41 (.fa (.t 4) 0),q 42 (.ld (.t 41) 0),q 43 (.mv (.t 3)),q 44 (.call 200 [(.t 42),(.t 43)]),q 45 (.fa (.t 4) 1),q 46 (.ld (.t 45) 0),q 47 (.bld [(.v (.int .i64 0)),(.v (.int .i64 0)),(.v (.int .i64 0))] [(0,1,(.t 40)),(1,1,(.t 44)),(2,1,(.t 46))]),⟨none,none,.st (.t 2) (.t 47) 3⟩]) .ret)))))⟩
theorem k150 : cF Try.prog Try.f150 = some c150 := by kernel_rfl
def c151 : AF := ⟨2,28,[(4,(some 2))],(.seq (.ops [q 2 (.box (.t 0)),q 3 (.box (.t 1)),q 4 (.al [(.v (.int .i64 0)),(.v (.int .i64 0))])]) (.seq (.ops [q 5 (.fa (.t 2) 0),q 6 (.ld (.t 5) 0),q 7 (.fa (.t 3) 0),q 8 (.ld (.t 7) 0),q 9 (.bin .mul (.t 6) (.t 8)),q 10 (.fa (.t 2) 1),q 11 (.ld (.t 10) 0),q 12 (.fa (.t 3) 1),q 13 (.ld (.t 12) 0),q 14 (.bin .mul (.t 11) (.t 13)),q 15 (.bin .add (.t 9) (.t 14)),q 16 (.fa (.t 2) 2),q 17 (.ld (.t 16) 0),q 18 (.fa (.t 3) 0),q 19 (.ld (.t 18) 0),q 20 (.bin .mul (.t 17) (.t 19)),q 21 (.fa (.t 2) 3),q 22 (.ld (.t 21) 0),q 23 (.fa (.t 3) 1),q 24 (.ld (.t 23) 0),q 25 (.bin .mul (.t 22) (.t 24)),q 26 (.bin .add (.t 20) (.t 25)),q 27 (.bld [(.v (.int .i64 0)),(.v (.int .i64 0))] [(0,1,(.t 15)),(1,1,(.t 26))]),⟨none,none,.st (.t 4) (.t 27) 2⟩]) .ret))⟩
theorem k151 : cF Try.prog Try.f151 = some c151 := by kernel_rfl
def c152 : AF := ⟨1,14,[(2,(some 6))],(.seq (.ops [q 1 (.box (.t 0)),q 2 (.al [(.v (.int .i64 0)),(.v (.int .i64 0)),(.v (.int .i64 0)),(.v (.int .i64 0)),(.v (.int .i64 0)),(.v (.int .i64 0))])]) (.seq (.ops [q 4 (.fa (.t 1) 0),q 5 (.ld (.t 4) 4),q 6 (.call 201 [(.t 5)]),q 3 (.al [(.v (.int .i64 0)),(.v (.int .i64 0)),(.v (.int .i64 0)),(.v (.int .i64 0))]),⟨none,none,.st (.t 3) (.t 6) 4⟩]) (.seq (.reg [0,0,0,4,14,30,63,127] [q 7 (.ld (.t 3) 4),q 8 (.ld (.t 3) 4),q 9 (.fa (.t 1) 4),q 10 (.ld (.t 9) 2),q 11 (.call 151 [(.t 8),(.t 10)]),q 12 (.call 198 [(.t 11),(.c (.v (.int .i64 (-1))))]),q 13 (.bld [(.v (.int .i64 0)),(.v (.int .i64 0)),(.v (.int .i64 0)),(.v (.int .i64 0)),(.v (.int .i64 0)),(.v (.int .i64 0))] [(0,4,(.t 7)),(4,2,(.t 12))]),⟨none,none,.st (.t 2) (.t 13) 6⟩]) .ret)))⟩
theorem k152 : cF Try.prog Try.f152 = some c152 := by kernel_rfl
def c153 : AF := ⟨2,12,[(4,(some 2))],(.seq (.ops [q 2 (.box (.t 0)),q 3 (.box (.t 1)),q 4 (.al [(.v (.int .i64 0)),(.v (.int .i64 0))])]) (.seq (.reg [0,1,0,7,0,16,63,127] [q 5 (.fa (.t 2) 0),q 6 (.ld (.t 5) 4),q 7 (.ld (.t 3) 2),q 8 (.call 151 [(.t 6),(.t 7)]),q 9 (.fa (.t 2) 4),q 10 (.ld (.t 9) 2),q 11 (.call 191 [(.t 8),(.t 10)]),⟨none,none,.st (.t 4) (.t 11) 2⟩]) .ret))⟩
theorem k153 : cF Try.prog Try.f153 = some c153 := by kernel_rfl
def c154 : AF := ⟨1,11,[(2,none)],(.seq (.ops [q 1 (.box (.t 0)),q 2 (.mv (.c (.v (.bool false))))]) (.seq (.ops [q 3 (.fa (.t 1) 0),q 4 (.ld (.t 3) 0),q 5 (.call 128 [(.t 4),(.c (.v (.int .i64 (-1000)))),(.c (.v (.int .i64 1000)))]),q 6 (.mv (.t 5)),⟨(some 7),(some (6,true)),.fa (.t 1) 1⟩,⟨(some 8),(some (6,true)),.ld (.t 7) 0⟩,⟨(some 9),(some (6,true)),.call 128 [(.t 8),(.c (.v (.int .i64 (-1000)))),(.c (.v (.int .i64 1000)))]⟩,q 10 (.pick (.t 6) (.t 9) (.c (.v (.bool false)))),q 2 (.mv (.t 10))]) .ret))⟩
theorem k154 : cF Try.prog Try.f154 = some c154 := by kernel_rfl
def c155 : AF := ⟨2,9,[(4,none)],(.seq (.ops [q 4 (.mv (.c (.v (.bool false))))]) (.seq (.ops [q 5 (.mv (.t 0)),q 6 (.mv (.t 1)),q 7 (.call 202 [(.t 5),(.t 6)]),q 8 (.bin .geq (.t 7) (.c (.v (.int .i64 0)))),q 4 (.mv (.t 8))]) .ret))⟩
theorem k155 : cF Try.prog Try.f155 = some c155 := by kernel_rfl
def c156 : AF := ⟨1,6,[(2,none)],(.seq (.ops [q 1 (.box (.t 0)),q 2 (.mv (.c (.v (.bool false))))]) (.seq (.ops [q 3 (.ld (.t 1) 2),q 4 (.call 157 [(.t 3)]),q 5 (.un .not (.t 4)),q 2 (.mv (.t 5))]) .ret))⟩
theorem k156 : cF Try.prog Try.f156 = some c156 := by kernel_rfl
def c157 : AF := ⟨1,11,[(2,none)],(.seq (.ops [q 1 (.box (.t 0)),q 2 (.mv (.c (.v (.bool false))))]) (.seq (.ops [q 3 (.fa (.t 1) 0),q 4 (.ld (.t 3) 0),q 5 (.call 203 [(.t 4)]),q 6 (.mv (.t 5)),⟨(some 7),(some (6,true)),.fa (.t 1) 1⟩,⟨(some 8),(some (6,true)),.ld (.t 7) 0⟩,⟨(some 9),(some (6,true)),.call 203 [(.t 8)]⟩,q 10 (.pick (.t 6) (.t 9) (.c (.v (.bool false)))),q 2 (.mv (.t 10))]) .ret))⟩
theorem k157 : cF Try.prog Try.f157 = some c157 := by kernel_rfl
def c158 : AF := ⟨4,33,[(8,(some 5))],(.seq (.ops [q 5 (.box (.t 1)),q 8 (.al [(.v (.int .i64 0)),(.v (.int .i64 0)),(.v (.int .i64 0)),(.v (.int .i64 0)),(.nil 0)])]) (.seq (.reg [0,0,0,4,12,31,0,127] [q 12 (.mv (.t 0)),q 13 (.ld (.t 5) 3),q 14 (.ld (.t 5) 3),q 15 (.call 140 [(.t 14)]),q 16 (.mk 0 2 8 (.int .i64 0) (.t 15) (.t 15)),q 17 (.bld [(.v (.int .i64 0)),(.v (.int .i64 0)),(.v (.int .i64 0)),(.v (.int .i64 0)),(.nil 0)] [(0,1,(.t 12)),(1,3,(.t 13)),(4,1,(.t 16))]),q 9 (.al [(.v (.int .i64 0)),(.v (.int .i64 0)),(.v (.int .i64 0)),(.v (.int .i64 0)),(.nil 0)]),⟨none,none,.st (.t 9) (.t 17) 5⟩]) (.seq (.seq (.ops [q 18 (.mv (.t 2)),q 19 (.len false (.t 18)),q 20 (.mv (.c (.v (.int .i64 0))))]) (.block 0 (.loop (.seq (.ops [q 21 (.bin .lss (.t 20) (.t 19))]) (.seq (.cond (.t 21) .skip (.exit 0)) (.seq (.block 1 (.seq (.ops [q 22 (.ia (.t 18) (.t 20) 2),q 23 (.ld (.t 22) 2),q 11 (.al [(.v (.int .i64 0)),(.v (.int .i64 0))]),⟨none,none,.st (.t 11) (.t 23) 2⟩]) (.reg [0,1,0,0,12,0,63,127] [q 24 (.fa (.t 9) 4),q 25 (.ld (.t 24) 0),q 26 (.ld (.t 5) 3),q 27 (.ld (.t 11) 2),q 28 (.call 192 [(.t 26),(.t 27)]),q 29 (.mv (.t 3)),q 30 (.ia (.t 25) (.t 28) 0),⟨none,none,.st (.t 30) (.t 29) 0⟩]))) (.ops [q 31 (.bin .add (.t 20) (.c (.v (.int .i64 1)))),q 20 (.mv (.t 31))]))))))) (.seq (.ops [q 32 (.ld (.t 9) 5),⟨none,none,.st (.t 8) (.t 32) 5⟩]) .ret))))⟩
theorem k158 : cF Try.prog Try.f158 = some c158 := by kernel_rfl
def c168 : AF := ⟨2,31,[(4,(some 2))],(.seq (.ops [q 2 (.box (.t 0)),q 3 (.box (.t 1)),q 4 (.al [(.v (.int .i64 0)),(.v (.int .i64 0))])]) (.seq (.ops [q 7 (.fa (.t 3) 1),q 8 (.ld (.t 7) 0),q 9 (.fa (.t 2) 2),q 10 (.ld (.t 9) 0),q 11 (.call 212 [(.t 8),(.t 10)]),q 5 (.mv (.t 11))]) (.seq (.ops [q 12 (.fa (.t 3) 1),q 13 (.ld (.t 12) 0),q 14 (.mv (.t 5)),q 15 (.bin .sub (.t 13) (.t 14)),q 16 (.fa (.t 2) 2),q 17 (.ld (.t 16) 0),q 18 (.bin .quo (.t 15) (.t 17)),q 6 (.mv (.t 18))]) (.seq (.ops [q 19 (.fa (.t 3) 0),q 20 (.ld (.t 19) 0),q 21 (.mv (.t 6)),q 22 (.fa (.t 2) 1),q 23 (.ld (.t 22) 0),q 24 (.bin .mul (.t 21) (.t 23)),q 25 (.bin .sub (.t 20) (.t 24)),q 26 (.fa (.t 2) 0),q 27 (.ld (.t 26) 0),q 28 (.call 212 [(.t 25),(.t 27)]),q 29 (.mv (.t 5)),q 30 (.bld [(.v (.int .i64 0)),(.v (.int .i64 0))] [(0,1,(.t 28)),(1,1,(.t 29))]),⟨none,none,.st (.t 4) (.t 30) 2⟩]) .ret))))⟩
theorem k168 : cF Try.prog Try.f168 = some c168 := by kernel_rfl
def c170 : AF := ⟨2,29,[(4,(some 2))],(.seq (.ops [q 2 (.box (.t 0)),q 3 (.box (.t 1)),q 4 (.al [(.v (.int .i64 0)),(.v (.int .i64 0))])]) (.seq (.ops [q 6 (.fa (.t 3) 1),q 7 (.ld (.t 6) 0),q 8 (.fa (.t 2) 2),q 9 (.ld (.t 8) 0),q 10 (.call 200 [(.t 7),(.t 9)]),q 5 (.mv (.t 10))]) (.seq (.reg [0,1,0,4,0,28,0,64,252,0,512,2044,4095,0,8192,32767,0,131071,262143] [q 11 (.fa (.t 3) 0),q 12 (.ld (.t 11) 0),q 13 (.fa (.t 3) 1),q 14 (.ld (.t 13) 0),q 15 (.mv (.t 5)),q 16 (.bin .sub (.t 14) (.t 15)),q 17 (.fa (.t 2) 2),q 18 (.ld (.t 17) 0),q 19 (.bin .quo (.t 16) (.t 18)),q 20 (.fa (.t 2) 1),q 21 (.ld (.t 20) 0),q 22 (.bin .mul (.t 19) (.t 21)),q 23 (.bin .sub (.t 12) (.t 22)),q 24 (.fa (.t 2) 0),q 25 (.ld (.t 24) 0),q 26 (.call 200 [(.t 23),(.t 25)]),q 27 (.mv (.t 5)),q 28 (.bld [(.v (.int .i64 0)),(.v (.int .i64 0))] [(0,1,(.t 26)),(1,1,(.t 27))]),⟨none,none,.st (.t 4) (.t 28) 2⟩]) .ret)))⟩
theorem k170 : cF Try.prog Try.f170 = some c170 := by kernel_rfl
def c186 : AF := ⟨3,15,[(6,none)],(.seq (.ops [q 6 (.mv (.c (.v (.bool false))))]) (.seq (.ops [q 7 (.mv (.t 0)),q 8 (.mv (.t 1)),q 9 (.bin .geq (.t 7) (.t 8)),q 10 (.mv (.t 9)),⟨(some 11),(some (10,true)),.mv (.t 0)⟩,⟨(some 12),(some (10,true)),.mv (.t 2)⟩,⟨(some 13),(some (10,true)),.bin .leq (.t 11) (.t 12)⟩,q 14 (.pick (.t 10) (.t 13) (.c (.v (.bool false)))),q 6 (.mv (.t 14))]) .ret))⟩
theorem k186 : cF Try.prog Try.f186 = some c186 := by kernel_rfl
def c187 : AF := ⟨2,9,[(4,none)],(.seq (.ops [q 4 (.mv (.c (.v (.bool false))))]) (.seq (.ops [q 5 (.mv (.t 0)),q 6 (.mv (.t 1)),q 7 (.call 230 [(.t 5),(.t 6)]),q 8 (.bin .geq (.t 7) (.c (.v (.int .i64 0)))),q 4 (.mv (.t 8))]) .ret))⟩
theorem k187 : cF Try.prog Try.f187 = some c187 := by kernel_rfl
def c188 : AF := ⟨1,10,[(4,none)],(.seq (.ops [q 4 (.mv (.c (.v (.bool false))))]) (.seq (.ops [q 5 (.mv (.t 0)),q 6 (.ld (.t 1) 0),q 7 (.ld (.t 2) 0),q 8 (.call 186 [(.t 5),(.t 6),(.t 7)]),q 9 (.un .not (.t 8)),q 4 (.mv (.t 9))]) .ret))⟩
theorem k188 : cF Try.prog Try.f188 = some c188 := by kernel_rfl
def c189 : AF := ⟨1,8,[(2,none)],(.seq (.ops [q 2 (.mv (.c (.nil 0)))]) (.seq (.seq (.ops [q 3 (.mv (.t 0)),q 4 (.eqn false (.t 3))]) (.cond (.t 4) (.seq (.ops [q 2 (.mv (.c (.nil 0)))]) .ret) .skip)) (.seq (.ops [q 5 (.bsl 0 2 []),q 6 (.mv (.t 0)),q 7 (.app 0 2 8 (.t 5) (.t 6)),q 2 (.mv (.t 7))]) .ret)))⟩
theorem k189 : cF Try.prog Try.f189 = some c189 := by kernel_rfl
def c190 : AF := ⟨2,16,[(4,(some 2))],(.seq (.ops [q 2 (.box (.t 0)),q 3 (.box (.t 1)),q 4 (.al [(.v (.int .i64 0)),(.v (.int .i64 0))])]) (.seq (.ops [q 5 (.fa (.t 2) 0),q 6 (.ld (.t 5) 0),q 7 (.fa (.t 3) 0),q 8 (.ld (.t 7) 0),q 9 (.bin .add (.t 6) (.t 8)),q 10 (.fa (.t 2) 1),q 11 (.ld (.t 10) 0),q 12 (.fa (.t 3) 1),q 13 (.ld (.t 12) 0),q 14 (.bin .add (.t 11) (.t 13)),q 15 (.bld [(.v (.int .i64 0)),(.v (.int .i64 0))] [(0,1,(.t 9)),(1,1,(.t 14))]),⟨none,none,.st (.t 4) (.t 15) 2⟩]) .ret))⟩
theorem k190 : cF Try.prog Try.f190 = some c190 := by kernel_rfl
def c191 : AF := ⟨2,16,[(4,(some 2))],(.seq (.ops [q 2 (.box (.t 0)),q 3 (.box (.t 1)),q 4 (.al [(.v (.int .i64 0)),(.v (.int .i64 0))])]) (.seq (.ops [q 5 (.fa (.t 2) 0),q 6 (.ld (.t 5) 0),q 7 (.fa (.t 3) 0),q 8 (.ld (.t 7) 0),q 9 (.bin .add (.t 6) (.t 8)),q 10 (.fa (.t 2) 1),q 11 (.ld (.t 10) 0),q 12 (.fa (.t 3) 1),q 13 (.ld (.t 12) 0),q 14 (.bin .add (.t 11) (.t 13)),q 15 (.bld [(.v (.int .i64 0)),(.v (.int .i64 0))] [(0,1,(.t 9)),(1,1,(.t 14))]),⟨none,none,.st (.t 4) (.t 15) 2⟩]) .ret))⟩
theorem k191 : cF Try.prog Try.f191 = some c191 := by kernel_rfl
def c192 : AF := ⟨2,13,[(4,none)],(.seq (.ops [q 2 (.box (.t 0)),q 3 (.box (.t 1)),q 4 (.mv (.c (.v (.int .i64 0))))]) (.seq (.ops [q 5 (.fa (.t 3) 0),q 6 (.ld (.t 5) 0),q 7 (.fa (.t 2) 2),q 8 (.ld (.t 7) 0),q 9 (.bin .mul (.t 6) (.t 8)),q 10 (.fa (.t 3) 1),q 11 (.ld (.t 10) 0),q 12 (.bin .add (.t 9) (.t 11)),q 4 (.mv (.t 12))]) .ret))⟩
theorem k192 : cF Try.prog Try.f192 = some c192 := by kernel_rfl
def c193 : AF := ⟨1,9,[(2,none)],(.seq (.ops [q 2 (.mv (.c (.v (.bool false))))]) (.seq (.ops [q 3 (.mv (.t 0)),q 4 (.bin .eql (.t 3) (.c (.v (.int .i64 0)))),q 5 (.mv (.t 4)),⟨(some 6),(some (5,false)),.mv (.t 0)⟩,⟨(some 7),(some (5,false)),.bin .eql (.t 6) (.c (.v (.int .i64 1)))⟩,q 8 (.pick (.t 5) (.c (.v (.bool true))) (.t 7)),q 2 (.mv (.t 8))]) .ret))⟩
theorem k193 : cF Try.prog Try.f193 = some c193 := by kernel_rfl
def c194 : AF := ⟨1,27,[(2,none)],(.seq (.ops [q 1 (.box (.t 0)),q 2 (.mv (.c (.v (.bool false))))]) (.seq (.ops [q 3 (.fa (.t 1) 0),q 4 (.ld (.t 3) 0),q 5 (.call 128 [(.t 4),(.c (.v (.int .i64 1))),(.c (.v (.int .i64 64)))]),q 6 (.mv (.t 5)),⟨(some 7),(some (6,true)),.fa (.t 1) 2⟩,⟨(some 8),(some (6,true)),.ld (.t 7) 0⟩,⟨(some 9),(some (6,true)),.call 128 [(.t 8),(.c (.v (.int .i64 1))),(.c (.v (.int .i64 64)))]⟩,q 10 (.pick (.t 6) (.t 9) (.c (.v (.bool false)))),q 11 (.mv (.t 10)),⟨(some 12),(some (11,true)),.fa (.t 1) 1⟩,⟨(some 13),(some (11,true)),.ld (.t 12) 0⟩,⟨(some 14),(some (11,true)),.fa (.t 1) 0⟩,⟨(some 15),(some (11,true)),.ld (.t 14) 0⟩,⟨(some 16),(some (11,true)),.bin .sub (.t 15) (.c (.v (.int .i64 1)))⟩,⟨(some 17),(some (11,true)),.call 128 [(.t 13),(.c (.v (.int .i64 0))),(.t 16)]⟩,q 18 (.pick (.t 11) (.t 17) (.c (.v (.bool false)))),q 19 (.mv (.t 18)),⟨(some 20),(some (19,true)),.fa (.t 1) 0⟩,⟨(some 21),(some (19,true)),.ld (.t 20) 0⟩,⟨(some 22),(some (19,true)),.fa (.t 1) 2⟩,⟨(some 23),(some (19,true)),.ld (.t 22) 0⟩,⟨(some 24),(some (19,true)),.bin .mul (.t 21) (.t 23)⟩,⟨(some 25),(some (19,true)),.bin .leq (.t 24) (.c (.v (.int .i64 64)))⟩,q 26 (.pick (.t 19) (.t 25) (.c (.v (.bool false)))),q 2 (.mv (.t 26))]) .ret))⟩
theorem k194 : cF Try.prog Try.f194 = some c194 := by kernel_rfl
def c195 : AF := ⟨1,12,[(2,none)],(.seq (.ops [q 1 (.box (.t 0)),q 2 (.mv (.c (.nil 2)))]) (.seq (.ops [q 3 (.fa (.t 1) 0),q 4 (.ld (.t 3) 0),q 5 (.bld [(.v (.int .i64 0)),(.v (.int .i64 0))] [(0,1,(.t 4))]),q 6 (.fa (.t 1) 1),q 7 (.ld (.t 6) 0),q 8 (.fa (.t 1) 2),q 9 (.ld (.t 8) 0),q 10 (.bld [(.v (.int .i64 0)),(.v (.int .i64 0))] [(0,1,(.t 7)),(1,1,(.t 9))]),q 11 (.bsl 2 29 [(.t 5),(.t 10)]),q 2 (.mv (.t 11))]) .ret))⟩
theorem k195 : cF Try.prog Try.f195 = some c195 := by kernel_rfl
def c196 : AF := ⟨1,74,[(2,(some 3))],(.seq (.ops [q 2 (.al [(.v (.int .i64 0)),(.v (.int .i64 0)),(.v (.int .i64 0))])]) (.seq (.ops [q 9 (.bld [(.v (.int .i64 0)),(.v (.int .i64 0))] []),q 3 (.al [(.v (.int .i64 0)),(.v (.int .i64 0))]),⟨none,none,.st (.t 3) (.t 9) 2⟩,q 4 (.mv (.c (.v (.int .i64 0))))]) (.seq (.seq (.ops [q 5 (.mv (.c (.v (.int .i64 0))))]) (.block 0 (.loop (.seq (.seq (.ops [q 10 (.mv (.t 5)),q 11 (.mv (.t 0)),q 12 (.len false (.t 11)),q 13 (.bin .lss (.t 10) (.t 12))]) (.cond (.t 13) .skip (.exit 0))) (.seq (.block 1 (.seq (.ops [q 16 (.mv (.t 0)),q 17 (.mv (.t 5)),q 18 (.ia (.t 16) (.t 17) 2),q 19 (.ld (.t 18) 2),q 6 (.al [(.v (.int .i64 0)),(.v (.int .i64 0))]),⟨none,none,.st (.t 6) (.t 19) 2⟩]) (.seq (.block 2 (.loop (.seq (.seq (.ops [q 20 (.fa (.t 6) 1),q 21 (.ld (.t 20) 0),q 22 (.bin .neq (.t 21) (.c (.v (.int .i64 0))))]) (.cond (.t 22) .skip (.exit 2))) (.block 3 (.seq (.ops [q 23 (.fa (.t 3) 1),q 24 (.ld (.t 23) 0),q 25 (.fa (.t 6) 1),q 26 (.ld (.t 25) 0),q 27 (.bin .quo (.t 24) (.t 26)),q 7 (.mv (.t 27))]) (.seq (.ops [q 28 (.fa (.t 3) 0),q 29 (.ld (.t 28) 0),q 30 (.mv (.t 7)),q 31 (.fa (.t 6) 0),q 32 (.ld (.t 31) 0),q 33 (.bin .mul (.t 30) (.t 32)),q 34 (.bin .sub (.t 29) (.t 33)),q 35 (.fa (.t 3) 1),q 36 (.ld (.t 35) 0),q 37 (.mv (.t 7)),q 38 (.fa (.t 6) 1),q 39 (.ld (.t 38) 0),q 40 (.bin .mul (.t 37) (.t 39)),q 41 (.bin .sub (.t 36) (.t 40)),q 42 (.bld [(.v (.int .i64 0)),(.v (.int .i64 0))] [(0,1,(.t 34)),(1,1,(.t 41))]),q 8 (.al [(.v (.int .i64 0)),(.v (.int .i64 0))]),⟨none,none,.st (.t 8) (.t 42) 2⟩]) (.seq (.ops [q 43 (.ld (.t 6) 2),⟨none,none,.st (.t 3) (.t 43) 2⟩]) (.ops [q 44 (.ld (.t 8) 2),⟨none,none,.st (.t 6) (.t 44) 2⟩])))))))) (.seq (.ops [q 45 (.mv (.t 4)),q 46 (.fa (.t 6) 0),q 47 (.ld (.t 46) 0),q 48 (.call 231 [(.t 45),(.t 47)]),q 4 (.mv (.t 48))]) (.seq (.ops [q 49 (.mv (.t 4)),q 50 (.bin .gtr (.t 49) (.c (.v (.int .i64 0))))]) (.cond (.t 50) (.ops [q 51 (.fa (.t 3) 0),q 52 (.ld (.t 51) 0),q 53 (.mv (.t 4)),q 54 (.call 212 [(.t 52),(.t 53)]),q 55 (.fa (.t 3) 0),⟨none,none,.st (.t 55) (.t 54) 0⟩]) .skip)))))) (.ops [q 14 (.mv (.t 5)),q 15 (.bin .add (.t 14) (.c (.v (.int .i64 1)))),q 5 (.mv (.t 15))])))))) (.seq (.seq (.ops [q 56 (.fa (.t 3) 1),q 57 (.ld (.t 56) 0),q 58 (.bin .lss (.t 57) (.c (.v (.int .i64 0))))]) (.cond (.t 58) (.ops [q 59 (.ld (.t 3) 2),q 60 (.call 232 [(.t 59),(.c (.v (.int .i64 (-1))))]),⟨none,none,.st (.t 3) (.t 60) 2⟩]) .skip)) (.seq (.seq (.ops [q 61 (.mv (.t 4)),q 62 (.bin .gtr (.t 61) (.c (.v (.int .i64 0))))]) (.cond (.t 62) (.ops [q 63 (.fa (.t 3) 0),q 64 (.ld (.t 63) 0),q 65 (.mv (.t 4)),q 66 (.call 212 [(.t 64),(.t 65)]),q 67 (.fa (.t 3) 0),⟨none,none,.st (.t 67) (.t 66) 0⟩]) .skip)) (.seq (.ops [q 68 (.mv (.t 4)),q 69 (.fa (.t 3) 0),q 70 (.ld (.t 69) 0),q 71 (.fa (.t 3) 1),q 72 (.ld (.t 71) 0),q 73 (.bld [(.v (.int .i64 0)),(.v (.int .i64 0)),(.v (.int .i64 0))] [(0,1,(.t 68)),(1,1,(.t 70)),(2,1,(.t 72))]),⟨none,none,.st (.t 2) (.t 73) 3⟩]) .ret))))))⟩
theorem k196 : cF Try.prog Try.f196 = some c196 := by kernel_rfl
def c197 : AF := ⟨2,28,[(4,(some 2))],(.seq (.ops [q 2 (.box (.t 0)),q 3 (.box (.t 1)),q 4 (.al [(.v (.int .i64 0)),(.v (.int .i64 0))])]) (.seq (.ops [q 5 (.fa (.t 2) 0),q 6 (.ld (.t 5) 0),q 7 (.fa (.t 3) 0),q 8 (.ld (.t 7) 0),q 9 (.bin .mul (.t 6) (.t 8)),q 10 (.fa (.t 2) 1),q 11 (.ld (.t 10) 0),q 12 (.fa (.t 3) 1),q 13 (.ld (.t 12) 0),q 14 (.bin .mul (.t 11) (.t 13)),q 15 (.bin .add (.t 9) (.t 14)),q 16 (.fa (.t 2) 2),q 17 (.ld (.t 16) 0),q 18 (.fa (.t 3) 0),q 19 (.ld (.t 18) 0),q 20 (.bin .mul (.t 17) (.t 19)),q 21 (.fa (.t 2) 3),q 22 (.ld (.t 21) 0),q 23 (.fa (.t 3) 1),q 24 (.ld (.t 23) 0),q 25 (.bin .mul (.t 22) (.t 24)),q 26 (.bin .add (.t 20) (.t 25)),q 27 (.bld [(.v (.int .i64 0)),(.v (.int .i64 0))] [(0,1,(.t 15)),(1,1,(.t 26))]),⟨none,none,.st (.t 4) (.t 27) 2⟩]) .ret))⟩
theorem k197 : cF Try.prog Try.f197 = some c197 := by kernel_rfl
def c198 : AF := ⟨2,14,[(4,(some 2))],(.seq (.ops [q 2 (.box (.t 0)),q 4 (.al [(.v (.int .i64 0)),(.v (.int .i64 0))])]) (.seq (.ops [q 5 (.mv (.t 1)),q 6 (.fa (.t 2) 0),q 7 (.ld (.t 6) 0),q 8 (.bin .mul (.t 5) (.t 7)),q 9 (.mv (.t 1)),q 10 (.fa (.t 2) 1),q 11 (.ld (.t 10) 0),q 12 (.bin .mul (.t 9) (.t 11)),q 13 (.bld [(.v (.int .i64 0)),(.v (.int .i64 0))] [(0,1,(.t 8)),(1,1,(.t 12))]),⟨none,none,.st (.t 4) (.t 13) 2⟩]) .ret))⟩
theorem k198 : cF Try.prog Try.f198 = some c198 := by kernel_rfl
def c199 : AF := ⟨2,15,[(4,none)],(.seq (.ops [q 4 (.mv (.c (.v (.int .i64 0))))]) (.seq (.block 0 (.loop (.seq (.seq (.ops [q 5 (.mv (.t 1)),q 6 (.bin .neq (.t 5) (.c (.v (.int .i64 0))))]) (.cond (.t 6) .skip (.exit 0))) (.block 1 (.reg [0,0,0,6,3,31] [q 7 (.mv (.t 1)),q 8 (.mv (.t 0)),q 9 (.mv (.t 1)),q 10 (.bin .rem (.t 8) (.t 9)),q 0 (.mv (.t 7)),q 1 (.mv (.t 10))]))))) (.seq (.ops [q 11 (.mv (.t 0)),q 12 (.mv (.t 0)),q 13 (.un .neg (.t 12)),q 14 (.mm true (.t 11) (.t 13)),q 4 (.mv (.t 14))]) .ret)))⟩
theorem k199 : cF Try.prog Try.f199 = some c199 := by kernel_rfl
def c200 : AF := ⟨2,12,[(4,none)],(.seq (.ops [q 4 (.mv (.c (.v (.int .i64 0))))]) (.seq (.ops [q 5 (.mv (.t 0)),q 6 (.mv (.t 1)),q 7 (.bin .rem (.t 5) (.t 6)),q 8 (.mv (.t 1)),q 9 (.bin .add (.t 7) (.t 8)),q 10 (.mv (.t 1)),q 11 (.bin .rem (.t 9) (.t 10)),q 4 (.mv (.t 11))]) .ret))⟩
theorem k200 : cF Try.prog Try.f200 = some c200 := by kernel_rfl
def c201 : AF := ⟨1,25,[(2,(some 4))],(.seq (.ops [q 1 (.box (.t 0)),q 2 (.al [(.v (.int .i64 0)),(.v (.int .i64 0)),(.v (.int .i64 0)),(.v (.int .i64 0))])]) (.seq (.ops [q 4 (.ld (.t 1) 4),q 5 (.call 233 [(.t 4)]),q 3 (.mv (.t 5))]) (.seq (.ops [q 6 (.mv (.t 3)),q 7 (.fa (.t 1) 3),q 8 (.ld (.t 7) 0),q 9 (.bin .mul (.t 6) (.t 8)),q 10 (.mv (.t 3)),q 11 (.un .neg (.t 10)),q 12 (.fa (.t 1) 1),q 13 (.ld (.t 12) 0),q 14 (.bin .mul (.t 11) (.t 13)),q 15 (.mv (.t 3)),q 16 (.un .neg (.t 15)),q 17 (.fa (.t 1) 2),q 18 (.ld (.t 17) 0),q 19 (.bin .mul (.t 16) (.t 18)),q 20 (.mv (.t 3)),q 21 (.fa (.t 1) 0),q 22 (.ld (.t 21) 0),q 23 (.bin .mul (.t 20) (.t 22)),q 24 (.bld [(.v (.int .i64 0)),(.v (.int .i64 0)),(.v (.int .i64 0)),(.v (.int .i64 0))] [(0,1,(.t 9)),(1,1,(.t 14)),(2,1,(.t 19)),(3,1,(.t 23))]),⟨none,none,.st (.t 2) (.t 24) 4⟩]) .ret)))⟩
theorem k201 : cF Try.prog Try.f201 = some c201 := by kernel_rfl
def c202 : AF := ⟨2,19,[(4,none)],(.seq (.ops [q 4 (.mv (.c (.v (.int .i64 0))))]) (.seq (.seq (.ops [q 6 (.mv (.t 0)),q 7 (.len false (.t 6)),q 8 (.mv (.c (.v (.int .i64 0))))]) (.block 0 (.loop (.seq (.ops [q 9 (.bin .lss (.t 8) (.t 7))]) (.seq (.cond (.t 9) .skip (.exit 0)) (.seq (.block 1 (.seq (.ops [q 10 (.mv (.t 8)),q 5 (.mv (.t 10))]) (.seq (.ops [q 11 (.mv (.t 1)),q 12 (.mv (.t 0)),q 13 (.mv (.t 5)),q 14 (.ia (.t 12) (.t 13) 2),q 15 (.ld (.t 14) 2),q 16 (.callv (.t 11) [(.t 15)])]) (.cond (.t 16) (.seq (.ops [q 17 (.mv (.t 5)),q 4 (.mv (.t 17))]) .ret) .skip)))) (.ops [q 18 (.bin .add (.t 8) (.c (.v (.int .i64 1)))),q 8 (.mv (.t 18))]))))))) (.seq (.ops [q 4 (.mv (.c (.v (.int .i64 (-1)))))]) .ret)))⟩
theorem k202 : cF Try.prog Try.f202 = some c202 := by kernel_rfl
def c203 : AF := ⟨1,5,[(2,none)],(.seq (.ops [q 2 (.mv (.c (.v (.bool false))))]) (.seq (.ops [q 3 (.mv (.t 0)),q 4 (.call 186 [(.t 3),(.c (.v (.int .i64 (-1000)))),(.c (.v (.int .i64 1000)))]),q 2 (.mv (.t 4))]) .ret))⟩
theorem k203 : cF Try.prog Try.f203 = some c203 := by kernel_rfl
def c204 : AF := ⟨2,13,[(4,none)],(.seq (.ops [q 2 (.box (.t 0)),q 3 (.box (.t 1)),q 4 (.mv (.c (.v (.int .i64 0))))]) (.seq (.reg [0,1,0,4,0,28,63,127,255] [q 5 (.fa (.t 2) 4),q 6 (.ld (.t 5) 0),q 7 (.fa (.t 2) 1),q 8 (.ld (.t 7) 3),q 9 (.ld (.t 3) 2),q 10 (.call 145 [(.t 8),(.t 9)]),q 11 (.ia (.t 6) (.t 10) 0),q 12 (.ld (.t 11) 0),q 4 (.mv (.t 12))]) .ret))⟩
theorem k204 : cF Try.prog Try.f204 = some c204 := by kernel_rfl
def c212 : AF := ⟨2,14,[(4,none)],(.seq (.ops [q 4 (.mv (.c (.v (.int .i64 0))))]) (.seq (.ops [q 5 (.mv (.t 0)),q 6 (.mv (.t 1)),q 7 (.bin .rem (.t 5) (.t 6)),q 0 (.mv (.t 7))]) (.seq (.seq (.ops [q 8 (.mv (.t 0)),q 9 (.bin .lss (.t 8) (.c (.v (.int .i64 0))))]) (.cond (.t 9) (.ops [q 10 (.mv (.t 0)),q 11 (.mv (.t 1)),q 12 (.bin .add (.t 10) (.t 11)),q 0 (.mv (.t 12))]) .skip)) (.seq (.ops [q 13 (.mv (.t 0)),q 4 (.mv (.t 13))]) .ret))))⟩
theorem k212 : cF Try.prog Try.f212 = some c212 := by kernel_rfl
def c230 : AF := ⟨2,19,[(4,none)],(.seq (.ops [q 4 (.mv (.c (.v (.int .i64 0))))]) (.seq (.seq (.ops [q 6 (.mv (.t 0)),q 7 (.len false (.t 6)),q 8 (.mv (.c (.v (.int .i64 0))))]) (.block 0 (.loop (.seq (.ops [q 9 (.bin .lss (.t 8) (.t 7))]) (.seq (.cond (.t 9) .skip (.exit 0)) (.seq (.block 1 (.seq (.ops [q 10 (.mv (.t 8)),q 5 (.mv (.t 10))]) (.seq (.ops [q 11 (.mv (.t 1)),q 12 (.mv (.t 0)),q 13 (.mv (.t 5)),q 14 (.ia (.t 12) (.t 13) 0),q 15 (.ld (.t 14) 0),q 16 (.callv (.t 11) [(.t 15)])]) (.cond (.t 16) (.seq (.ops [q 17 (.mv (.t 5)),q 4 (.mv (.t 17))]) .ret) .skip)))) (.ops [q 18 (.bin .add (.t 8) (.c (.v (.int .i64 1)))),q 8 (.mv (.t 18))]))))))) (.seq (.ops [q 4 (.mv (.c (.v (.int .i64 (-1)))))]) .ret)))⟩
theorem k230 : cF Try.prog Try.f230 = some c230 := by kernel_rfl
def c231 : AF := ⟨2,16,[(4,none)],(.seq (.ops [q 4 (.mv (.c (.v (.int .i64 0))))]) (.seq (.seq (.ops [q 5 (.mv (.t 1)),q 6 (.bin .eql (.t 5) (.c (.v (.int .i64 0))))]) (.cond (.t 6) (.seq (.ops [q 7 (.mv (.t 0)),q 8 (.mv (.t 0)),q 9 (.un .neg (.t 8)),q 10 (.mm true (.t 7) (.t 9)),q 4 (.mv (.t 10))]) .ret) .skip)) (.seq (.ops [q 11 (.mv (.t 1)),q 12 (.mv (.t 0)),q 13 (.mv (.t 1)),q 14 (.bin .rem (.t 12) (.t 13)),q 15 (.call 231 [(.t 11),(.t 14)]),q 4 (.mv (.t 15))]) .ret)))⟩
theorem k231 : cF Try.prog Try.f231 = some c231 := by kernel_rfl
def c232 : AF := ⟨2,14,[(4,(some 2))],(.seq (.ops [q 2 (.box (.t 0)),q 4 (.al [(.v (.int .i64 0)),(.v (.int .i64 0))])]) (.seq (.ops [q 5 (.mv (.t 1)),q 6 (.fa (.t 2) 0),q 7 (.ld (.t 6) 0),q 8 (.bin .mul (.t 5) (.t 7)),q 9 (.mv (.t 1)),q 10 (.fa (.t 2) 1),q 11 (.ld (.t 10) 0),q 12 (.bin .mul (.t 9) (.t 11)),q 13 (.bld [(.v (.int .i64 0)),(.v (.int .i64 0))] [(0,1,(.t 8)),(1,1,(.t 12))]),⟨none,none,.st (.t 4) (.t 13) 2⟩]) .ret))⟩
theorem k232 : cF Try.prog Try.f232 = some c232 := by kernel_rfl
def c233 : AF := ⟨1,14,[(2,none)],(.seq (.ops [q 1 (.box (.t 0)),q 2 (.mv (.c (.v (.int .i64 0))))]) (.seq (.ops [q 3 (.fa (.t 1) 0),q 4 (.ld (.t 3) 0),q 5 (.fa (.t 1) 3),q 6 (.ld (.t 5) 0),q 7 (.bin .mul (.t 4) (.t 6)),q 8 (.fa (.t 1) 1),q 9 (.ld (.t 8) 0),q 10 (.fa (.t 1) 2),q 11 (.ld (.t 10) 0),q 12 (.bin .mul (.t 9) (.t 11)),q 13 (.bin .sub (.t 7) (.t 12)),q 2 (.mv (.t 13))]) .ret))⟩
theorem k233 : cF Try.prog Try.f233 = some c233 := by kernel_rfl
end Go.Proofs.YtihkjljafjhniaaEv
namespace Go.Proofs.YtihkjljafjhniaaEv
open Go Go.Proofs
theorem mixed : Try.prog.follows .mixedOrders = true := by kernel_rfl
abbrev vi (n : Int) : A := .v (.int .i64 n)
abbrev vb (b : Bool) : A := .v (.bool b)
def is (l : List Int) : List V := l.map fun y => .int .i64 y
abbrev vis (l : List Int) : V := .sl 0 (is l)
abbrev no : Nat → Bool := fun _ => false
@[simp] theorem is_nil : is [] = [] := rfl
@[simp] theorem is_one (v : Int) : is [v] = [.int .i64 v] := rfl
@[simp] theorem is_set (l : List Int) (n : Nat) (v : Int) : (is l).set n (.int .i64 v) = is (l.set n v) := by simp [is, List.map_set]
@[simp] theorem is_len (l : List Int) : (is l).length = l.length := by simp [is]
@[simp] theorem is_get (l : List Int) (n : Nat) (K : V → Prop) : fA ((is l)[n]?) K = ∀ a, l[n]? = some a → K (.int .i64 a) := by unfold is; exact fA_map
@[simp] theorem is_rep (n : Nat) (k : Int) : List.replicate n (V.int .i64 k) = is (List.replicate n k) := by simp [is]
@[simp] theorem is_app (l : List Int) (v : Int) : is l ++ [.int .i64 v] = is (l ++ [v]) := by simp [is]
@[simp] theorem is_flat (l : List Int) : (∀ x, x ∈ is l → x.flat = true) ↔ True := by
  simp only [iff_true]
  intro x hx
  obtain ⟨y, _, rfl⟩ := List.mem_map.1 hx
  rfl
@[simp] theorem is_inj (a b : List Int) : is a = is b ↔ a = b := by
  constructor
  · intro h
    exact (List.map_inj_right (fun x y e => by cases e; rfl)).1 h
  · rintro rfl; rfl
theorem fill_set {α : Type} {l : List α} {i : Nat} {z a : α} (h : l[i]? = some a) : (l.take i ++ List.replicate (l.length - i) z).set i a = l.take (i + 1) ++ List.replicate (l.length - (i + 1)) z := by
  obtain ⟨h1, rfl⟩ := List.getElem?_eq_some_iff.1 h
  have e : (l.take i).length = i := by simp; omega
  have e2 : l.take (i + 1) = l.take i ++ [l[i]] := by rw [List.take_add_one, h]; rfl
  rw [show l.length - i = (l.length - (i + 1)) + 1 by omega, List.replicate_succ, List.set_append_right _ _ (by omega), e, Nat.sub_self, List.set_cons_zero, e2, List.append_assoc]
  rfl
theorem mLen : maxLen = 9223372036854775807 := by decide
set_option maxRecDepth 10000
theorem s_sz (l : List Int) (n : Int) (h : l.length ≤ maxLen) (hn : 0 ≤ n ∧ n ≤ 1048576) : Sp Try.prog 70 [.v (vis l), vi n] (vi (if n < l.length then -1 else n - l.length)) [] := by
  refine sp_of (m := no) mixed Try.func70 k70 ?_
  rw [mLen] at h
  simp -dsimp [q]
  rw [w64 (by omega) (by omega)]
  constructor
  · intro h1 h2; omega
  · intro h1; rw [if_neg (by omega)]
theorem s_to (l : List Int) (h : l.length ≤ 1048576) : Sp Try.prog 76 [.v (vis l)] (.sli 0) [.row 0 2 (is l)] := by
  refine sp_of (m := no) mixed Try.func76 k76 ?_
  simp -dsimp [q]
  refine ⟨by omega, ?_⟩
  refine awp_it (true :: false :: false :: true :: true :: []) (fun i : Nat => [(4, vi i)]) (fun i => [(0, .row 0 2 (is (l.take i ++ List.replicate (l.length - i) 0)))]) (fun i => i ≤ l.length) (fun i => l.length - i) 0 ?_
  intro s0 e
  simp -dsimp at e
  subst e
  refine ⟨?_, ?_⟩
  · simp
  intro i hi
  simp -dsimp
  refine ⟨fun h1 => ⟨h1, fun a ha => ⟨by omega, by omega, i + 1, ⟨by rw [w64 (by omega) (by omega)]; simp, ?_⟩, by omega, by omega⟩⟩, fun h1 => ?_⟩
  · exact fill_set ha
  · have : i = l.length := by omega
    subst this
    simp
theorem s_eq (xs ys : List Int) (hx : xs.length ≤ 1048576) : Sp Try.prog 84 [.v (vis xs), .v (vis ys)] (vb (decide (xs = ys))) [] := by
  refine sp_of (m := no) mixed Try.func84 k84 ?_
  simp -dsimp [q]
  refine ⟨fun h e => h (by rw [e]), fun hl => ?_⟩
  refine awp_it (true :: true :: false :: false :: false :: true :: []) (fun i : Nat => [(5, vi i)]) (fun i => []) (fun i => i ≤ xs.length ∧ xs.take i = ys.take i) (fun i => xs.length - i) 0 ?_
  intro s0 e
  simp -dsimp at e
  subst e
  refine ⟨?_, ?_⟩
  · simp
  intro i hi
  simp -dsimp
  obtain ⟨hi, ht⟩ := hi
  refine ⟨fun h1 => ⟨h1, fun a ha => ⟨by omega, fun b hb => ⟨fun hn e => ?_, fun e => ⟨i + 1, by rw [w64 (by omega) (by omega)]; simp, ⟨by omega, ?_⟩, by omega⟩⟩⟩⟩, fun h1 => ?_⟩
  · subst e
    rw [ha] at hb
    cases hb
    exact hn rfl
  · subst e
    rw [List.take_add_one, List.take_add_one, ht, ha, hb]
  · have h2 : i = xs.length := by omega
    subst h2
    rw [List.take_length, List.take_of_length_le (by omega)] at ht
    exact ht
theorem s_mark (xs : List Int) (k : Int) (hx : xs.length ≤ 1048576) (hk : 0 ≤ k ∧ k ≤ 1000000000) (t : Nat) : SpG Try.prog 90 [.sli 0, vi k] [.row 0 t (is xs)] (vi (k + xs.length)) [.row 0 t (is ((List.range xs.length).map fun i : Nat => k + i))] := by
  refine sg_of (m := no) mixed Try.func90 k90 ?_
  simp -dsimp [q]
  refine awp_it (true :: true :: false :: false :: false :: true :: []) (fun i : Nat => [(1, vi (k + i)), (5, vi i)]) (fun i => [(0, .row 0 t (is (((List.range i).map fun i : Nat => k + i) ++ xs.drop i)))]) (fun i => i ≤ xs.length) (fun i => xs.length - i) 0 ?_
  intro s0 e
  simp -dsimp at e
  subst e
  refine ⟨?_, ?_⟩
  · simp
  intro i hi
  simp -dsimp
  refine ⟨fun h1 => ⟨h1, by omega, i + 1, ⟨⟨by rw [w64 (by omega) (by omega)]; simp; omega, by rw [w64 (by omega) (by omega)]; simp⟩, ?_⟩, by omega, by omega⟩, fun h1 => ?_⟩
  · rw [List.range_succ, List.map_append, List.append_assoc]
    congr 1
    rw [List.drop_eq_getElem_cons (show i < xs.length by omega), List.set_cons_zero]
    rfl
  · have : i = xs.length := by omega
    subst this
    simp
theorem s_held (xs : List Int) (k : Int) (hx : xs.length ≤ 1048576) (hk : 0 ≤ k ∧ k ≤ 1000000000) (h : xs = (List.range xs.length).map fun i : Nat => k + i) (t : Nat) : SpG Try.prog 91 [.sli 0, vi k] [.row 0 t (is xs)] (vi (k + xs.length)) [.row 0 t (is xs)] := by
  refine sg_of (m := no) mixed Try.func91 k91 ?_
  simp -dsimp [q]
  refine awp_it (true :: true :: false :: false :: false :: true :: []) (fun i : Nat => [(1, vi (k + i)), (5, vi i)]) (fun i => []) (fun i => i ≤ xs.length) (fun i => xs.length - i) 0 ?_
  intro s0 e
  simp -dsimp at e
  subst e
  refine ⟨?_, ?_⟩
  · simp
  intro i hi
  simp -dsimp
  have hx : ∀ a : Int, xs[i]? = some a → a = k + i := fun a ha => by
    rw [h, List.getElem?_map] at ha
    have hi : i < xs.length := by
      have := (List.getElem?_eq_some_iff.1 (show (List.map (fun i : Nat => k + (i : Int)) (List.range xs.length))[i]? = some a by rw [List.getElem?_map]; exact ha)).1
      simpa using this
    rw [List.getElem?_range hi] at ha
    simpa using ha.symm
  refine ⟨fun h1 => ⟨h1, fun a ha => ⟨fun hn => absurd (hx a ha) hn, fun _ => ⟨i + 1, ⟨by rw [w64 (by omega) (by omega)]; simp; omega, by rw [w64 (by omega) (by omega)]; simp⟩, by omega, by omega⟩⟩⟩, fun h1 => ?_⟩
  have : i = xs.length := by omega
  subst this
  simp
end Go.Proofs.YtihkjljafjhniaaEv
namespace Go.Proofs.YtihkjljafjhniaaEv
open Go Go.Proofs
set_option maxRecDepth 10000
abbrev aV (x y : Int) : A := .v (.ag [.int .i64 x, .int .i64 y])
abbrev aL (a b c : Int) : A := .v (.ag [.int .i64 a, .int .i64 b, .int .i64 c])
abbrev aM (a b c d : Int) : A := .v (.ag [.int .i64 a, .int .i64 b, .int .i64 c, .int .i64 d])
abbrev aG (a b c d x y : Int) : A := .v (.ag [.int .i64 a, .int .i64 b, .int .i64 c, .int .i64 d, .int .i64 x, .int .i64 y])
def vv (v : Int × Int) : V := .ag [.int .i64 v.1, .int .i64 v.2]
def vs (l : List (Int × Int)) : List V := l.map vv
@[simp] theorem vs_nil : vs [] = [] := rfl
@[simp] theorem vs_len (l : List (Int × Int)) : (vs l).length = l.length := by simp [vs]
@[simp] theorem vs_get (l : List (Int × Int)) (n : Nat) (K : V → Prop) : fA ((vs l)[n]?) K = ∀ a, l[n]? = some a → K (.ag [.int .i64 a.1, .int .i64 a.2]) := by unfold vs; exact fA_map
@[simp] theorem vs_app (l : List (Int × Int)) (x y : Int) : vs l ++ [.ag [.int .i64 x, .int .i64 y]] = vs (l ++ [(x, y)]) := by simp [vs, vv]
@[simp] theorem vs_set (l : List (Int × Int)) (n : Nat) (x y : Int) : (vs l).set n (.ag [.int .i64 x, .int .i64 y]) = vs (l.set n (x, y)) := by simp [vs, vv, List.map_set]
@[simp] theorem vs_rep (n : Nat) (x y : Int) : List.replicate n (V.ag [.int .i64 x, .int .i64 y]) = vs (List.replicate n (x, y)) := by simp [vs, vv]
@[simp] theorem vs_inj (a b : List (Int × Int)) : vs a = vs b ↔ a = b := by
  constructor
  · intro h
    exact (List.map_inj_right (fun x y e => by cases x; cases y; simp only [vv, V.ag.injEq, List.cons.injEq, V.int.injEq] at e; simp_all)).1 h
  · rintro rfl; rfl
@[simp] theorem vs_flat (l : List (Int × Int)) : (∀ x, x ∈ vs l → x.flat = true) ↔ True := by
  simp only [iff_true]
  intro x hx
  obtain ⟨y, _, rfl⟩ := List.mem_map.1 hx
  rfl
theorem s_within (n a b : Int) : Sp Try.prog 186 [vi n, vi a, vi b] (vb (decide (a ≤ n ∧ n ≤ b))) [] := by
  refine sp_of (m := no) mixed Try.func186 k186 ?_
  simp -dsimp [q]
  constructor
  · intro h _; exact h
  · intro h1 h2; omega
theorem s_in (n a b : Int) : Sp Try.prog 128 [vi n, vi a, vi b] (vb (decide (a ≤ n ∧ n ≤ b))) [] := by
  refine sp_of (m := no) mixed Try.func128 k128 ?_
  simp -dsimp [q]
  constructor
  · intro h _; exact h
  · intro h1 h2; omega
theorem s_isCo (n : Int) : Sp Try.prog 203 [vi n] (vb (decide (-1000 ≤ n ∧ n ≤ 1000))) [] := by
  refine sp_of (m := no) mixed Try.func203 k203 ?_
  simp -dsimp [q]
  refine call_of (s_within _ _ _) rfl (by simp) ?_
  try simp -dsimp
  try (first | exact fp_one (by decide) | refine fp_and (by decide) ?_)
def okV (x y : Int) : Bool := decide (-1000 ≤ x ∧ x ≤ 1000) && decide (-1000 ≤ y ∧ y ≤ 1000)
theorem okV_spec {x y : Int} : okV x y = true ↔ (-1000 ≤ x ∧ x ≤ 1000) ∧ -1000 ≤ y ∧ y ≤ 1000 := by simp [okV]
theorem s_isVec (x y : Int) : Sp Try.prog 157 [aV x y] (vb (okV x y)) [] := by
  refine sp_of (m := no) mixed Try.func157 k157 ?_
  simp -dsimp [q]
  refine call_of (s_isCo _) rfl (by simp) ?_
  unfold okV
  generalize decide (-1000 ≤ x ∧ x ≤ 1000) = b
  cases b
  · simp -dsimp
  simp -dsimp
  refine call_of (s_isCo _) rfl (by simp) ?_
  try simp -dsimp
  try (first | exact fp_one (by decide) | refine fp_and (by decide) ?_)
theorem s_sisVec (x y : Int) : Sp Try.prog 154 [aV x y] (vb (okV x y)) [] := by
  refine sp_of (m := no) mixed Try.func154 k154 ?_
  simp -dsimp [q]
  refine call_of (s_in _ _ _) rfl (by simp) ?_
  unfold okV
  generalize decide (-1000 ≤ x ∧ x ≤ 1000) = b
  cases b
  · simp -dsimp
  simp -dsimp
  refine call_of (s_in _ _ _) rfl (by simp) ?_
  try simp -dsimp
  try (first | exact fp_one (by decide) | refine fp_and (by decide) ?_)
theorem s_add (x y u v : Int) (h1 : -4000000000000 ≤ x ∧ x ≤ 4000000000000) (h2 : -4000000000000 ≤ y ∧ y ≤ 4000000000000) (h3 : -4000000000000 ≤ u ∧ u ≤ 4000000000000) (h4 : -4000000000000 ≤ v ∧ v ≤ 4000000000000) : Sp Try.prog 191 [aV x y, aV u v] (aV (x + u) (y + v)) [] := by
  refine sp_of (m := no) mixed Try.func191 k191 ?_
  simp -dsimp [q]
  rw [w64 (by omega) (by omega), w64 (by omega) (by omega)]
  exact ⟨rfl, rfl⟩
theorem s_sadd (x y u v : Int) (h1 : -4000000000000 ≤ x ∧ x ≤ 4000000000000) (h2 : -4000000000000 ≤ y ∧ y ≤ 4000000000000) (h3 : -4000000000000 ≤ u ∧ u ≤ 4000000000000) (h4 : -4000000000000 ≤ v ∧ v ≤ 4000000000000) : Sp Try.prog 190 [aV x y, aV u v] (aV (x + u) (y + v)) [] := by
  refine sp_of (m := no) mixed Try.func190 k190 ?_
  simp -dsimp [q]
  rw [w64 (by omega) (by omega), w64 (by omega) (by omega)]
  exact ⟨rfl, rfl⟩
theorem tmod_lt {a b : Int} (hb : 0 < b) : -b < a.tmod b ∧ a.tmod b < b := by
  rw [Int.tmod_eq_emod]
  have h1 := Int.emod_nonneg a (show b ≠ 0 by omega)
  have h2 := Int.emod_lt_of_pos a hb
  have h3 : (b.natAbs : Int) = b := by omega
  split <;> omega
theorem mod_a {a b : Int} (hb : 0 < b) (h : a.tmod b < 0) : a.tmod b + b = a % b := by
  rw [Int.tmod_eq_emod] at h ⊢
  have h1 := Int.emod_nonneg a (show b ≠ 0 by omega)
  have h3 : (b.natAbs : Int) = b := by omega
  split at h <;> rename_i hc
  · omega
  · rw [if_neg hc]; omega
theorem mod_b {a b : Int} (hb : 0 < b) (h : 0 ≤ a.tmod b) : a.tmod b = a % b := by
  rw [Int.tmod_eq_emod] at h ⊢
  have h1 := Int.emod_lt_of_pos a hb
  have h3 : (b.natAbs : Int) = b := by omega
  split at h <;> rename_i hc
  · rw [if_pos hc]; omega
  · rw [if_neg hc]; omega
theorem s_mod (a b : Int) (hb : 0 < b ∧ b ≤ 1000000) : Sp Try.prog 200 [vi a, vi b] (vi (a % b)) [] := by
  refine sp_of (m := no) mixed Try.func200 k200 ?_
  simp -dsimp [q]
  have h1 := tmod_lt (a := a) hb.1
  refine ⟨by omega, ?_⟩
  rw [w64 (by omega) (by omega), mod_b hb.1 (Int.tmod_nonneg _ (by omega))]
  by_cases h : a.tmod b < 0
  · rw [mod_a hb.1 h, Int.emod_emod_of_dvd _ (Int.dvd_refl b)]
  · rw [mod_b hb.1 (by omega)]
    simp
theorem s_smod (a b : Int) (hb : 0 < b ∧ b ≤ 1000000) : Sp Try.prog 212 [vi a, vi b] (vi (a % b)) [] := by
  refine sp_of (m := no) mixed Try.func212 k212 ?_
  simp -dsimp [q]
  have h1 := tmod_lt (a := a) hb.1
  refine ⟨by omega, fun h => ?_, fun h => mod_b hb.1 h⟩
  rw [w64 (by omega) (by omega), mod_a hb.1 h]
/-! lattices -/
def okL (a b c : Int) : Bool := decide (1 ≤ a ∧ a ≤ 64) && decide (1 ≤ c ∧ c ≤ 64) && decide (0 ≤ b ∧ b ≤ a - 1) && decide (a * c ≤ 64)
theorem okL_spec {a b c : Int} : okL a b c = true ↔ (1 ≤ a ∧ a ≤ 64) ∧ (1 ≤ c ∧ c ≤ 64) ∧ (0 ≤ b ∧ b < a) ∧ a * c ≤ 64 := by
  simp [okL]; omega
theorem ac_pos {a c : Int} (ha : 1 ≤ a) (hc : 1 ≤ c) : 1 ≤ a * c := by
  have := Int.mul_le_mul ha hc (by omega) (by omega)
  omega
theorem ac_hi {a c : Int} (ha : 1 ≤ a ∧ a ≤ 64) (hc : 1 ≤ c ∧ c ≤ 64) : a * c ≤ 4096 := by
  have := Int.mul_le_mul ha.2 hc.2 (by omega) (by omega)
  omega
theorem s_index (a b c : Int) (ha : 1 ≤ a ∧ a ≤ 64) (hc : 1 ≤ c ∧ c ≤ 64) : Sp Try.prog 140 [aL a b c] (vi (a * c)) [] := by
  refine sp_of (m := no) mixed Try.func140 k140 ?_
  simp -dsimp [q]
  have h1 := ac_pos ha.1 hc.1
  have h2 := ac_hi ha hc
  rw [w64 (by omega) (by omega)]
theorem s_isL (a b c : Int) : Sp Try.prog 148 [aL a b c] (vb (okL a b c)) [] := by
  refine sp_of (m := no) mixed Try.func148 k148 ?_
  have w1 := s_within a 1 64
  have w2 := s_within c 1 64
  have w3 := s_within b 0 (a - 1)
  simp -dsimp [q]
  by_cases h1 : 1 ≤ a ∧ a ≤ 64
  case neg =>
    rw [decide_eq_false h1] at w1
    refine call_of (w1) rfl (by simp) ?_
    try simp -dsimp
    try (first | exact fp_one (by decide) | refine fp_and (by decide) ?_)
    simp [okL, h1]
  rw [decide_eq_true h1] at w1
  refine call_of (w1) rfl (by simp) ?_
  try simp -dsimp
  try (first | exact fp_one (by decide) | refine fp_and (by decide) ?_)
  by_cases h2 : 1 ≤ c ∧ c ≤ 64
  case neg =>
    rw [decide_eq_false h2] at w2
    refine call_of (w2) rfl (by simp) ?_
    try simp -dsimp
    try (first | exact fp_one (by decide) | refine fp_and (by decide) ?_)
    simp [okL, h2]
  rw [decide_eq_true h2] at w2
  refine call_of (w2) rfl (by simp) ?_
  try simp -dsimp
  try (first | exact fp_one (by decide) | refine fp_and (by decide) ?_)
  rw [w64 (by omega) (by omega)]
  by_cases h3 : 0 ≤ b ∧ b ≤ a - 1
  case neg =>
    rw [decide_eq_false h3] at w3
    refine call_of (w3) rfl (by simp) ?_
    try simp -dsimp
    try (first | exact fp_one (by decide) | refine fp_and (by decide) ?_)
    simp only [okL, decide_eq_false h3, Bool.and_false, Bool.false_and]
  rw [decide_eq_true h3] at w3
  refine call_of (w3) rfl (by simp) ?_
  try simp -dsimp
  try (first | exact fp_one (by decide) | refine fp_and (by decide) ?_)
  refine call_of (s_index a b c h1 h2) rfl (by simp) ?_
  try simp -dsimp
  try (first | exact fp_one (by decide) | refine fp_and (by decide) ?_)
  simp only [okL, decide_eq_true h1, decide_eq_true h2, decide_eq_true h3, Bool.true_and]
theorem s_sisL (a b c : Int) : Sp Try.prog 194 [aL a b c] (vb (okL a b c)) [] := by
  refine sp_of (m := no) mixed Try.func194 k194 ?_
  have w1 := s_in a 1 64
  have w2 := s_in c 1 64
  have w3 := s_in b 0 (a - 1)
  simp -dsimp [q]
  by_cases h1 : 1 ≤ a ∧ a ≤ 64
  case neg =>
    rw [decide_eq_false h1] at w1
    refine call_of (w1) rfl (by simp) ?_
    try simp -dsimp
    try (first | exact fp_one (by decide) | refine fp_and (by decide) ?_)
    simp [okL, h1]
  rw [decide_eq_true h1] at w1
  refine call_of (w1) rfl (by simp) ?_
  try simp -dsimp
  try (first | exact fp_one (by decide) | refine fp_and (by decide) ?_)
  by_cases h2 : 1 ≤ c ∧ c ≤ 64
  case neg =>
    rw [decide_eq_false h2] at w2
    refine call_of (w2) rfl (by simp) ?_
    try simp -dsimp
    try (first | exact fp_one (by decide) | refine fp_and (by decide) ?_)
    simp [okL, h2]
  rw [decide_eq_true h2] at w2
  refine call_of (w2) rfl (by simp) ?_
  try simp -dsimp
  try (first | exact fp_one (by decide) | refine fp_and (by decide) ?_)
  rw [w64 (by omega) (by omega)]
  by_cases h3 : 0 ≤ b ∧ b ≤ a - 1
  case neg =>
    rw [decide_eq_false h3] at w3
    refine call_of (w3) rfl (by simp) ?_
    try simp -dsimp
    try (first | exact fp_one (by decide) | refine fp_and (by decide) ?_)
    simp only [okL, decide_eq_false h3, Bool.and_false, Bool.false_and]
  rw [decide_eq_true h3] at w3
  refine call_of (w3) rfl (by simp) ?_
  try simp -dsimp
  try (first | exact fp_one (by decide) | refine fp_and (by decide) ?_)
  have h4 := ac_pos h1.1 h2.1
  have h5 := ac_hi h1 h2
  rw [w64 (by omega) (by omega)]
  simp only [okL, decide_eq_true h1, decide_eq_true h2, decide_eq_true h3, Bool.true_and]
end Go.Proofs.YtihkjljafjhniaaEv
namespace Go.Proofs.YtihkjljafjhniaaEv
open Go Go.Proofs
set_option maxRecDepth 10000
def rowL (x : Int) : Nat → List (Int × Int)
  | 0 => []
  | n + 1 => rowL x n ++ [(x, (n : Int))]
def cellsL (c : Nat) : Nat → List (Int × Int)
  | 0 => []
  | n + 1 => cellsL c n ++ rowL n c
theorem rowL_len (x : Int) : ∀ n, (rowL x n).length = n
  | 0 => rfl
  | n + 1 => by simp [rowL, rowL_len x n]
theorem cellsL_len (c : Nat) : ∀ n, (cellsL c n).length = n * c
  | 0 => by simp [cellsL]
  | n + 1 => by simp [cellsL, cellsL_len c n, rowL_len, Nat.succ_mul]
theorem nat_ac {a c : Int} (ha : 1 ≤ a ∧ a ≤ 64) (hc : 1 ≤ c ∧ c ≤ 64) {x : Nat} (hx : (x : Int) ≤ a) : x * c.toNat ≤ 4096 := by
  have := Nat.mul_le_mul (show x ≤ 64 by omega) (show c.toNat ≤ 64 by omega)
  omega
theorem s_cells (a b c : Int) (ha : 1 ≤ a ∧ a ≤ 64) (hc : 1 ≤ c ∧ c ≤ 64) : Sp Try.prog 79 [aL a b c] (.sli 0) [.row 2 29 (vs (cellsL c.toNat a.toNat))] := by
  refine sp_of (m := no) mixed Try.func79 k79 ?_
  simp -dsimp [q]
  refine awp_it (false :: true :: false :: true :: false :: false :: false :: false :: true :: true :: []) (fun x : Nat => [(9, vi x)]) (fun x => [(1, .row 2 29 (vs (cellsL c.toNat x)))]) (fun x => (x : Int) ≤ a) (fun x => a.toNat - x) 0 ?_
  intro s0 e
  simp -dsimp at e
  subst e
  refine ⟨?_, ?_⟩
  · simp [cellsL]; omega
  intro x hx
  simp -dsimp
  refine ⟨fun hxa => ?_, fun hxa => ?_⟩
  · refine awp_it (false :: true :: false :: true :: true :: false :: false :: false :: true :: true :: false :: false :: false :: true :: true :: []) (fun y : Nat => [(14, vi y)]) (fun y => [(1, .row 2 29 (vs (cellsL c.toNat x ++ rowL x y)))]) (fun y => (y : Int) ≤ c) (fun y => c.toNat - y) 0 ?_
    intro s0 e
    simp -dsimp at e
    subst e
    refine ⟨?_, ?_⟩
    · simp [rowL]; omega
    intro y hy
    simp -dsimp [cellsL_len, rowL_len]
    have h1 := nat_ac ha hc hx
    refine ⟨fun hyc => ⟨⟨by omega, by omega⟩, y + 1, ⟨by rw [w64 (by omega) (by omega)]; simp, ?_⟩, by omega, by omega⟩, fun hyc => ?_⟩
    · simp [rowL]
    · refine ⟨x + 1, ⟨by rw [w64 (by omega) (by omega)]; simp, ?_⟩, by omega, by omega⟩
      rw [cellsL, show y = c.toNat by omega]
  · rw [show a.toNat = x by omega]
theorem s_scells (a b c : Int) (ha : 1 ≤ a ∧ a ≤ 64) (hc : 1 ≤ c ∧ c ≤ 64) : Sp Try.prog 72 [aL a b c] (.sli 0) [.row 2 29 (vs (cellsL c.toNat a.toNat))] := by
  refine sp_of (m := no) mixed Try.func72 k72 ?_
  simp -dsimp [q]
  refine awp_it (false :: true :: false :: true :: true :: []) (fun x : Nat => [(4, vi x)]) (fun x => [(1, .row 2 29 (vs (cellsL c.toNat x)))]) (fun x => (x : Int) ≤ a) (fun x => a.toNat - x) 0 ?_
  intro s0 e
  simp -dsimp at e
  subst e
  refine ⟨?_, ?_⟩
  · simp [cellsL]; omega
  intro x hx
  simp -dsimp
  refine ⟨fun hxa => ?_, fun hxa => ?_⟩
  · refine awp_it (false :: true :: false :: true :: true :: true :: []) (fun y : Nat => [(5, vi y)]) (fun y => [(1, .row 2 29 (vs (cellsL c.toNat x ++ rowL x y)))]) (fun y => (y : Int) ≤ c) (fun y => c.toNat - y) 0 ?_
    intro s0 e
    simp -dsimp at e
    subst e
    refine ⟨?_, ?_⟩
    · simp [rowL]; omega
    intro y hy
    simp -dsimp [cellsL_len, rowL_len]
    have h1 := nat_ac ha hc hx
    refine ⟨fun hyc => ⟨⟨by omega, by omega⟩, y + 1, ⟨by rw [w64 (by omega) (by omega)]; simp, ?_⟩, by omega, by omega⟩, fun hyc => ?_⟩
    · simp [rowL]
    · refine ⟨x + 1, ⟨by rw [w64 (by omega) (by omega)]; simp, ?_⟩, by omega, by omega⟩
      rw [cellsL, show y = c.toNat by omega]
  · rw [show a.toNat = x by omega]
/-! reduced vectors -/
def redX (a b c x y : Int) : Int := (x - y / c * b) % a
def num (a b c x y : Int) : Int := redX a b c x y * c + y % c
theorem div_sub {y c : Int} (hc : 0 < c) : (y - y % c).tdiv c = y / c := by
  have h := Int.mul_ediv_add_emod y c
  rw [show y - y % c = y / c * c by rw [Int.mul_comm]; omega, Int.mul_tdiv_cancel _ (by omega)]
theorem kb_le {y b c : Int} (hy : -1000000000 ≤ y ∧ y ≤ 1000000000) (hb : 0 ≤ b ∧ b < 64) (hc : 1 ≤ c) : (-1000000000 ≤ y / c ∧ y / c ≤ 1000000000) ∧ -64000000000 ≤ y / c * b ∧ y / c * b ≤ 64000000000 := by
  have h1 : -1000000000 ≤ y / c := Int.le_ediv_of_mul_le (by omega) (by omega)
  have h2 : y / c ≤ 1000000000 := Int.ediv_le_of_le_mul (by omega) (by omega)
  have h3 := Int.mul_le_mul_of_nonneg_right h1 hb.1
  have h4 := Int.mul_le_mul_of_nonneg_right h2 hb.1
  refine ⟨⟨h1, h2⟩, by omega, by omega⟩
theorem s_reduce (a b c x y : Int) (ha : 1 ≤ a ∧ a ≤ 64) (hb : 0 ≤ b ∧ b < a) (hc : 1 ≤ c ∧ c ≤ 64) (hx : -1000000000 ≤ x ∧ x ≤ 1000000000) (hy : -1000000000 ≤ y ∧ y ≤ 1000000000) : Sp Try.prog 170 [aL a b c, aV x y] (aV (redX a b c x y) (y % c)) [] := by
  refine sp_of (m := no) mixed Try.func170 k170 ?_
  have h1 := Int.emod_nonneg y (show c ≠ 0 by omega)
  have h2 := Int.emod_lt_of_pos y (show 0 < c by omega)
  obtain ⟨h3, h4⟩ := kb_le (b := b) hy (by omega) hc.1
  have h5 := div_sub (y := y) (show 0 < c by omega)
  simp -dsimp [q]
  refine call_of (s_mod _ _ (by omega)) rfl (by simp) ?_
  try simp -dsimp
  try (first | exact fp_one (by decide) | refine fp_and (by decide) ?_)
  rw [w64 (n := y - y % c) (by omega) (by omega), h5, w64 (n := y / c) (by omega) (by omega), w64 (n := y / c * b) (by omega) (by omega), w64 (n := x - y / c * b) (by omega) (by omega)]
  refine ⟨by omega, ?_⟩
  refine call_of (s_mod _ _ (by omega)) rfl (by simp) ?_
  try simp -dsimp
  try (first | exact fp_one (by decide) | refine fp_and (by decide) ?_)
  rfl
theorem s_sreduce (a b c x y : Int) (ha : 1 ≤ a ∧ a ≤ 64) (hb : 0 ≤ b ∧ b < a) (hc : 1 ≤ c ∧ c ≤ 64) (hx : -1000000000 ≤ x ∧ x ≤ 1000000000) (hy : -1000000000 ≤ y ∧ y ≤ 1000000000) : Sp Try.prog 168 [aL a b c, aV x y] (aV (redX a b c x y) (y % c)) [] := by
  refine sp_of (m := no) mixed Try.func168 k168 ?_
  have h1 := Int.emod_nonneg y (show c ≠ 0 by omega)
  have h2 := Int.emod_lt_of_pos y (show 0 < c by omega)
  obtain ⟨h3, h4⟩ := kb_le (b := b) hy (by omega) hc.1
  have h5 := div_sub (y := y) (show 0 < c by omega)
  simp -dsimp [q]
  refine call_of (s_smod _ _ (by omega)) rfl (by simp) ?_
  try simp -dsimp
  try (first | exact fp_one (by decide) | refine fp_and (by decide) ?_)
  rw [w64 (n := y - y % c) (by omega) (by omega), h5, w64 (n := y / c) (by omega) (by omega), w64 (n := y / c * b) (by omega) (by omega), w64 (n := x - y / c * b) (by omega) (by omega)]
  refine ⟨by omega, ?_⟩
  refine call_of (s_smod _ _ (by omega)) rfl (by simp) ?_
  try simp -dsimp
  try (first | exact fp_one (by decide) | refine fp_and (by decide) ?_)
  rfl
theorem red_lt {a b c x y : Int} (ha : 1 ≤ a) (hc : 1 ≤ c) : (0 ≤ redX a b c x y ∧ redX a b c x y < a) ∧ 0 ≤ y % c ∧ y % c < c :=
  ⟨⟨Int.emod_nonneg _ (by omega), Int.emod_lt_of_pos _ (by omega)⟩, Int.emod_nonneg _ (by omega), Int.emod_lt_of_pos _ (by omega)⟩
theorem num_lt' {a c u v : Int} (hu : 0 ≤ u ∧ u < a) (hv : 0 ≤ v ∧ v < c) : (0 ≤ u * c ∧ u * c ≤ a * c) ∧ 0 ≤ u * c + v ∧ u * c + v < a * c := by
  have h1 := Int.mul_nonneg hu.1 (show 0 ≤ c by omega)
  have h2 : (u + 1) * c ≤ a * c := Int.mul_le_mul_of_nonneg_right (by omega) (by omega)
  rw [Int.add_mul] at h2
  omega
theorem s_number (a b c u v : Int) (hc : 1 ≤ c ∧ c ≤ 64) (hu : 0 ≤ u ∧ u < 64) (hv : 0 ≤ v ∧ v < c) : Sp Try.prog 192 [aL a b c, aV u v] (vi (u * c + v)) [] := by
  refine sp_of (m := no) mixed Try.func192 k192 ?_
  have h := num_lt' hu hv
  simp -dsimp [q]
  rw [w64 (n := u * c) (by omega) (by omega), w64 (by omega) (by omega)]
theorem s_snumber (a b c x y : Int) (ha : 1 ≤ a ∧ a ≤ 64) (hb : 0 ≤ b ∧ b < a) (hc : 1 ≤ c ∧ c ≤ 64) (hx : -1000000000 ≤ x ∧ x ≤ 1000000000) (hy : -1000000000 ≤ y ∧ y ≤ 1000000000) : Sp Try.prog 145 [aL a b c, aV x y] (vi (num a b c x y)) [] := by
  refine sp_of (m := no) mixed Try.func145 k145 ?_
  have h0 := red_lt (b := b) (x := x) (y := y) ha.1 hc.1
  have h := num_lt' h0.1 h0.2
  have h2 := ac_hi ha hc
  simp -dsimp [q]
  refine call_of (s_sreduce _ _ _ _ _ ha hb hc hx hy) rfl (by simp) ?_
  try simp -dsimp
  try (first | exact fp_one (by decide) | refine fp_and (by decide) ?_)
  rw [w64 (n := redX a b c x y * c) (by omega) (by omega), w64 (by omega) (by omega)]
  rfl
end Go.Proofs.YtihkjljafjhniaaEv
namespace Go.Proofs.YtihkjljafjhniaaEv
open Go Go.Proofs
set_option maxRecDepth 10000
theorem mul_bd {x y : Int} {a b : Nat} (hx : x.natAbs ≤ a) (hy : y.natAbs ≤ b) : (x * y).natAbs ≤ a * b := by
  rw [Int.natAbs_mul]; exact Nat.mul_le_mul hx hy
theorem s_basis (a b c : Int) : Sp Try.prog 149 [aL a b c] (.tu [aV a 0, aV b c]) [] := by
  refine sp_of (m := no) mixed Try.func149 k149 ?_
  simp -dsimp [q]
  decide
abbrev vvs (l : List (Int × Int)) : V := .sl 2 (vs l)
theorem s_sbasis (a b c : Int) : Sp Try.prog 195 [aL a b c] (.v (vvs [(a, 0), (b, c)])) [] := by
  refine sp_of (m := no) mixed Try.func195 k195 ?_
  simp -dsimp [q]
  rfl
theorem s_sbasis' (a b c : Int) : Sp Try.prog 195 [aL a b c] (.sli 0) [.row 2 29 (vs [(a, 0), (b, c)])] := by
  refine sp_of (m := no) mixed Try.func195 k195 ?_
  simp -dsimp [q]
  rfl
theorem s_unit : Sp Try.prog 82 [] (aM 1 0 0 1) [] := by
  refine sp_of (m := no) mixed Try.func82 k82 ?_
  simp -dsimp [q]
theorem s_sunit : Sp Try.prog 75 [] (aM 1 0 0 1) [] := by
  refine sp_of (m := no) mixed Try.func75 k75 ?_
  simp -dsimp [q]
section
variable (p q' r s x y : Int) (hm : (p.natAbs ≤ 1000 ∧ q'.natAbs ≤ 1000) ∧ r.natAbs ≤ 1000 ∧ s.natAbs ≤ 1000) (hv : x.natAbs ≤ 1000000 ∧ y.natAbs ≤ 1000000)
include hm hv
theorem s_apply : Sp Try.prog 151 [aM p q' r s, aV x y] (aV (p * x + q' * y) (r * x + s * y)) [] := by
  refine sp_of (m := no) mixed Try.func151 k151 ?_
  have h1 := mul_bd hm.1.1 hv.1
  have h2 := mul_bd hm.1.2 hv.2
  have h3 := mul_bd hm.2.1 hv.1
  have h4 := mul_bd hm.2.2 hv.2
  simp -dsimp [q]
  rw [w64 (n := p * x) (by omega) (by omega), w64 (n := q' * y) (by omega) (by omega), w64 (n := r * x) (by omega) (by omega), w64 (n := s * y) (by omega) (by omega), w64 (by omega) (by omega), w64 (by omega) (by omega)]
  exact ⟨rfl, rfl⟩
theorem s_sapply : Sp Try.prog 197 [aM p q' r s, aV x y] (aV (p * x + q' * y) (r * x + s * y)) [] := by
  refine sp_of (m := no) mixed Try.func197 k197 ?_
  have h1 := mul_bd hm.1.1 hv.1
  have h2 := mul_bd hm.1.2 hv.2
  have h3 := mul_bd hm.2.1 hv.1
  have h4 := mul_bd hm.2.2 hv.2
  simp -dsimp [q]
  rw [w64 (n := p * x) (by omega) (by omega), w64 (n := q' * y) (by omega) (by omega), w64 (n := r * x) (by omega) (by omega), w64 (n := s * y) (by omega) (by omega), w64 (by omega) (by omega), w64 (by omega) (by omega)]
  exact ⟨rfl, rfl⟩
end
theorem s_times (x y n : Int) (hx : x.natAbs ≤ 4000000000000) (hy : y.natAbs ≤ 4000000000000) (hn : n.natAbs ≤ 1000000) : Sp Try.prog 198 [aV x y, vi n] (aV (n * x) (n * y)) [] := by
  refine sp_of (m := no) mixed Try.func198 k198 ?_
  have h1 := mul_bd hn hx
  have h2 := mul_bd hn hy
  simp -dsimp [q]
  rw [w64 (by omega) (by omega), w64 (by omega) (by omega)]
  exact ⟨rfl, rfl⟩
theorem s_scale (x y n : Int) (hx : x.natAbs ≤ 4000000000000) (hy : y.natAbs ≤ 4000000000000) (hn : n.natAbs ≤ 1000000) : Sp Try.prog 232 [aV x y, vi n] (aV (n * x) (n * y)) [] := by
  refine sp_of (m := no) mixed Try.func232 k232 ?_
  have h1 := mul_bd hn hx
  have h2 := mul_bd hn hy
  simp -dsimp [q]
  rw [w64 (by omega) (by omega), w64 (by omega) (by omega)]
  exact ⟨rfl, rfl⟩
section
variable (p q' r s : Int) (hm : (p.natAbs ≤ 1000 ∧ q'.natAbs ≤ 1000) ∧ r.natAbs ≤ 1000 ∧ s.natAbs ≤ 1000)
include hm
theorem s_det : Sp Try.prog 233 [aM p q' r s] (vi (p * s - q' * r)) [] := by
  refine sp_of (m := no) mixed Try.func233 k233 ?_
  have h1 := mul_bd hm.1.1 hm.2.2
  have h2 := mul_bd hm.1.2 hm.2.1
  simp -dsimp [q]
  rw [w64 (n := p * s) (by omega) (by omega), w64 (n := q' * r) (by omega) (by omega), w64 (by omega) (by omega)]
end
/-- Shifts alone: the motion back. -/
theorem s_ginv1 (x y : Int) (hx : x.natAbs ≤ 1000000) (hy : y.natAbs ≤ 1000000) : Sp Try.prog 152 [aG 1 0 0 1 x y] (aG 1 0 0 1 (-x) (-y)) [] := by
  refine sp_of (m := no) mixed Try.func152 k152 ?_
  have hi : Sp Try.prog 201 [aM 1 0 0 1] (aM 1 0 0 1) [] := by
    refine sp_of (m := no) mixed Try.func201 k201 ?_
    simp -dsimp [q]
    refine call_of (s_det 1 0 0 1 (by decide)) rfl (by simp) ?_
    try simp -dsimp
    try (first | exact fp_one (by decide) | refine fp_and (by decide) ?_)
    decide
  simp -dsimp [q]
  refine call_of (hi) rfl (by simp) ?_
  try simp -dsimp
  try (first | exact fp_one (by decide) | refine fp_and (by decide) ?_)
  refine call_of (s_apply 1 0 0 1 x y (by decide) ⟨hx, hy⟩) rfl (by simp) ?_
  try simp -dsimp
  try (first | exact fp_one (by decide) | refine fp_and (by decide) ?_)
  refine call_of (s_times _ _ _ (by omega) (by omega) (by decide)) rfl (by simp) ?_
  try simp -dsimp
  try (first | exact fp_one (by decide) | refine fp_and (by decide) ?_)
theorem s_gapply (p q' r s t u x y : Int) (hm : (p.natAbs ≤ 1000 ∧ q'.natAbs ≤ 1000) ∧ r.natAbs ≤ 1000 ∧ s.natAbs ≤ 1000) (hv : x.natAbs ≤ 100000 ∧ y.natAbs ≤ 100000) (ht : t.natAbs ≤ 1000000 ∧ u.natAbs ≤ 1000000) : Sp Try.prog 153 [aG p q' r s t u, aV x y] (aV (p * x + q' * y + t) (r * x + s * y + u)) [] := by
  refine sp_of (m := no) mixed Try.func153 k153 ?_
  have h1 := mul_bd hm.1.1 hv.1
  have h2 := mul_bd hm.1.2 hv.2
  have h3 := mul_bd hm.2.1 hv.1
  have h4 := mul_bd hm.2.2 hv.2
  simp -dsimp [q]
  refine call_of (s_apply p q' r s x y hm ⟨by omega, by omega⟩) rfl (by simp) ?_
  try simp -dsimp
  try (first | exact fp_one (by decide) | refine fp_and (by decide) ?_)
  refine call_of (s_add _ _ _ _ (by omega) (by omega) (by omega) (by omega)) rfl (by simp) ?_
  try simp -dsimp
  try (first | exact fp_one (by decide) | refine fp_and (by decide) ?_)
theorem s_sgapply (p q' r s t u x y : Int) (hm : (p.natAbs ≤ 1000 ∧ q'.natAbs ≤ 1000) ∧ r.natAbs ≤ 1000 ∧ s.natAbs ≤ 1000) (hv : x.natAbs ≤ 100000 ∧ y.natAbs ≤ 100000) (ht : t.natAbs ≤ 1000000 ∧ u.natAbs ≤ 1000000) : Sp Try.prog 146 [aG p q' r s t u, aV x y] (aV (p * x + q' * y + t) (r * x + s * y + u)) [] := by
  refine sp_of (m := no) mixed Try.func146 k146 ?_
  have h1 := mul_bd hm.1.1 hv.1
  have h2 := mul_bd hm.1.2 hv.2
  have h3 := mul_bd hm.2.1 hv.1
  have h4 := mul_bd hm.2.2 hv.2
  simp -dsimp [q]
  refine call_of (s_sapply p q' r s x y hm ⟨by omega, by omega⟩) rfl (by simp) ?_
  try simp -dsimp
  try (first | exact fp_one (by decide) | refine fp_and (by decide) ?_)
  refine call_of (s_sadd _ _ _ _ (by omega) (by omega) (by omega) (by omega)) rfl (by simp) ?_
  try simp -dsimp
  try (first | exact fp_one (by decide) | refine fp_and (by decide) ?_)
/-! divisors -/
theorem gcd_step (a b : Int) : Int.gcd b (a.tmod b) = Int.gcd a b := by
  rw [Int.gcd_comm a b]
  have h := Int.tmod_add_mul_tdiv a b
  have : a.tmod b = a - a.tdiv b * b := by rw [Int.mul_comm]; omega
  rw [this, Int.gcd_sub_mul_right_right]
theorem tmod_abs (a : Int) {b : Int} (hb : b ≠ 0) : (a.tmod b).natAbs < b.natAbs := by
  rw [Int.natAbs_tmod]
  exact Nat.mod_lt _ (by omega)
theorem s_gcd (a b : Int) (ha : a.natAbs ≤ 1000000000000000) (hb : b.natAbs ≤ 1000000000000000) : Sp Try.prog 199 [vi a, vi b] (vi (Int.gcd a b)) [] := by
  refine sp_of (m := no) mixed Try.func199 k199 ?_
  simp -dsimp [q]
  refine awp_it (true :: true :: []) (fun s : Int × Int => [(0, vi s.1), (1, vi s.2)]) (fun _ => []) (fun s => Int.gcd s.1 s.2 = Int.gcd a b ∧ s.1.natAbs ≤ 1000000000000000 ∧ s.2.natAbs ≤ 1000000000000000) (fun s => s.2.natAbs) (a, b) ?_
  intro s0 e
  simp -dsimp at e
  subst e
  refine ⟨?_, ?_⟩
  · simp [ha, hb]
  rintro ⟨x, y⟩ ⟨h1, h2, h3⟩
  simp -dsimp
  refine ⟨fun hy => ⟨hy, y, x.tmod y, by simp, ⟨by rw [gcd_step]; exact h1, h3, ?_⟩, tmod_abs x hy⟩, fun hy => ?_⟩
  · have := tmod_abs x hy
    omega
  · subst hy
    simp only [Int.gcd_zero_right] at h1
    rw [← h1, w64 (by omega) (by omega)]
    split <;> omega
theorem s_sgcd : ∀ (n : Nat) (a b : Int), b.natAbs ≤ n → a.natAbs ≤ 1000000000000000 → b.natAbs ≤ 1000000000000000 → Sp Try.prog 231 [vi a, vi b] (vi (Int.gcd a b)) []
  | 0, a, b, hn, ha, hb => by
    have : b = 0 := by omega
    subst this
    refine sp_of (m := no) mixed Try.func231 k231 ?_
    simp -dsimp [q]
    rw [w64 (by omega) (by omega)]
    split <;> omega
  | n + 1, a, b, hn, ha, hb => by
    by_cases h0 : b = 0
    · exact s_sgcd n a b (by omega) ha hb
    have h1 := tmod_abs a h0
    have ih := s_sgcd n b (a.tmod b) (by omega) hb (by omega)
    rw [gcd_step] at ih
    refine sp_of (m := no) mixed Try.func231 k231 ?_
    simp -dsimp [q, h0]
    refine call_of (ih) rfl (by simp) ?_
    try simp -dsimp
    try (first | exact fp_one (by decide) | refine fp_and (by decide) ?_)
end Go.Proofs.YtihkjljafjhniaaEv
namespace Go.Proofs.YtihkjljafjhniaaEv
open Go Go.Proofs
set_option maxRecDepth 10000
def eu : Nat → Int × Int → Int × Int → (Int × Int) × (Int × Int)
  | 0, h, v => (h, v)
  | n + 1, h, v => if v.2 = 0 then (h, v) else eu n v (h.1 - h.2.tdiv v.2 * v.1, h.2.tmod v.2)
theorem eu_zero {n : Nat} {h v : Int × Int} (hv : v.2 = 0) : eu n h v = (h, v) := by
  cases n <;> simp [eu, hv]
theorem eu_fuel : ∀ (n m : Nat) (h v : Int × Int), v.2.natAbs ≤ n → v.2.natAbs ≤ m → eu n h v = eu m h v
  | 0, m, h, v, hn, _ => by rw [eu_zero (by omega), eu_zero (by omega)]
  | n + 1, 0, h, v, _, hm => by rw [eu_zero (by omega), eu_zero (by omega)]
  | n + 1, m + 1, h, v, hn, hm => by
    by_cases hv : v.2 = 0
    · rw [eu_zero hv, eu_zero hv]
    · have h1 := tmod_abs h.2 hv
      simp only [eu, if_neg hv]
      exact eu_fuel n m _ _ (by simp only; omega) (by simp only; omega)
theorem eu_step {h v : Int × Int} (hv : v.2 ≠ 0) : eu v.2.natAbs h v = eu (h.2.tmod v.2).natAbs v (h.1 - h.2.tdiv v.2 * v.1, h.2.tmod v.2) := by
  have h1 := tmod_abs h.2 hv
  obtain ⟨n, hn⟩ : ∃ n, v.2.natAbs = n + 1 := ⟨v.2.natAbs - 1, by omega⟩
  rw [hn]
  simp only [eu, if_neg hv]
  exact eu_fuel _ _ _ _ (by simp only; omega) (Nat.le_refl _)
/-- What bounds the numbers on the way. -/
def pot (h v : Int × Int) : Nat := h.1.natAbs * v.2.natAbs + v.1.natAbs * h.2.natAbs
theorem pot_step {h v : Int × Int} : pot v (h.1 - h.2.tdiv v.2 * v.1, h.2.tmod v.2) ≤ pot h v := by
  obtain ⟨a, b⟩ := h
  obtain ⟨c, d⟩ := v
  simp only [pot]
  have h1 : (a - b.tdiv d * c).natAbs ≤ a.natAbs + b.natAbs / d.natAbs * c.natAbs := by
    have := Int.natAbs_sub_le a (b.tdiv d * c)
    rw [Int.natAbs_mul, Int.natAbs_tdiv] at this
    exact this
  have h2 := Nat.mul_le_mul_right d.natAbs h1
  rw [Int.natAbs_tmod]
  have h3 := Nat.mod_add_div b.natAbs d.natAbs
  have h4 : c.natAbs * b.natAbs = c.natAbs * (b.natAbs % d.natAbs) + b.natAbs / d.natAbs * c.natAbs * d.natAbs := by
    rw [← Nat.mul_comm d.natAbs, ← Nat.mul_assoc, Nat.mul_comm _ c.natAbs, ← Nat.mul_add, h3]
  rw [Nat.add_mul] at h2
  generalize (a - b.tdiv d * c).natAbs * d.natAbs = X at *
  generalize a.natAbs * d.natAbs = Y at *
  generalize c.natAbs * (b.natAbs % d.natAbs) = Z at *
  generalize b.natAbs / d.natAbs * c.natAbs * d.natAbs = W at *
  omega
theorem eu_small {h v : Int × Int} {B : Nat} (hP : pot h v ≤ B) (hv : v.2 ≠ 0) : (h.2.tdiv v.2 * v.1).natAbs ≤ B ∧ (h.2.tdiv v.2).natAbs ≤ h.2.natAbs ∧ (h.2.tdiv v.2 * v.2).natAbs ≤ h.2.natAbs := by
  have hd : 0 < v.2.natAbs := by omega
  unfold pot at hP
  rw [Int.natAbs_mul, Int.natAbs_mul, Int.natAbs_tdiv]
  have h1 := Nat.div_mul_le_self h.2.natAbs v.2.natAbs
  have h2 := Nat.div_le_self h.2.natAbs v.2.natAbs
  refine ⟨?_, h2, h1⟩
  have h3 := Nat.mul_le_mul_right v.1.natAbs h2
  rw [Nat.mul_comm h.2.natAbs v.1.natAbs] at h3
  exact Nat.le_trans h3 (Nat.le_trans (Nat.le_add_left _ _) hP)
/-- A vector more. -/
def lstep (s : Int × Int × Int) (v : Int × Int) : Int × Int × Int := ((Int.gcd s.1 (eu v.2.natAbs s.2 v).2.1 : Int), (eu v.2.natAbs s.2 v).1)
def lfold (l : List (Int × Int)) : Int × Int × Int := l.foldl lstep (0, 0, 0)
def lfin (s : Int × Int × Int) : Int × Int × Int := (s.1, (if s.2.2 < 0 then -s.2.1 else s.2.1) % s.1, if s.2.2 < 0 then -s.2.2 else s.2.2)
theorem lfold_snoc (l : List (Int × Int)) (v : Int × Int) : lfold (l ++ [v]) = lstep (lfold l) v := by simp [lfold]
def smallV (n : Nat) (v : Int × Int) : Prop := v.1.natAbs ≤ n ∧ v.2.natAbs ≤ n
def lsmall (l : List (Int × Int)) : Prop := (∀ v ∈ l, smallV 1000000 v) ∧ ∀ k, smallV 1000000 (lfold (l.take k)).2 ∧ (lfold (l.take k)).1.natAbs ≤ 1000000
abbrev bV (v : Int × Int) : Ck := .box [.v (.int .i64 v.1), .v (.int .i64 v.2)]
theorem s_latticeOf (l : List (Int × Int)) (hl : l.length ≤ 1048576) (hs : lsmall l) (h0 : 0 < (lfold l).1) : Sp Try.prog 150 [.v (vvs l)] (aL (lfin (lfold l)).1 (lfin (lfold l)).2.1 (lfin (lfold l)).2.2) [] := by
  refine sp_of (m := no) mixed Try.func150 k150 ?_
  simp -dsimp [q]
  refine awp_it (false :: false :: true :: true :: true :: false :: false :: false :: false :: true :: true :: true :: []) (fun i : Nat => [(3, vi (lfold (l.take i)).1), (11, vi i)]) (fun i => [(1, bV (lfold (l.take i)).2)]) (fun i => i ≤ l.length) (fun i => l.length - i) 0 ?_
  intro s0 e
  simp -dsimp at e
  subst e
  refine ⟨?_, ?_⟩
  · simp [lfold]
  intro i hi
  simp -dsimp
  refine ⟨fun h1 => ⟨h1, fun vx vy hv => ?_⟩, fun h1 => ?_⟩
  · obtain ⟨hsv, hsl⟩ := hs
    obtain ⟨v, rfl, rfl⟩ : ∃ v : Int × Int, vx = v.1 ∧ vy = v.2 := ⟨(vx, vy), rfl, rfl⟩
    obtain ⟨b1, b2⟩ := hsv v (List.mem_of_getElem? hv)
    obtain ⟨⟨b3, b4⟩, b5⟩ := hsl i
    have hst : lfold (l.take (i + 1)) = lstep (lfold (l.take i)) v := by rw [List.take_add_one, hv]; exact lfold_snoc _ _
    obtain ⟨⟨b6, b7⟩, b8⟩ := hsl (i + 1)
    rw [hst] at b6 b7 b8
    have hst' := hst
    generalize lfold (l.take i) = s at *
    have hP : pot s.2 v ≤ 2000000000000 := by
      have h1 := Nat.mul_le_mul b3 b2
      have h2 := Nat.mul_le_mul b1 b4
      unfold pot
      omega
    refine awp_it (false :: false :: true :: true :: true :: false :: true :: false :: false :: true :: true :: true :: []) (fun _ : (Int × Int) × (Int × Int) => []) (fun t => [(1, bV t.1), (2, bV t.2)]) (fun t => eu t.2.2.natAbs t.1 t.2 = eu v.2.natAbs s.2 v ∧ pot t.1 t.2 ≤ 2000000000000 ∧ (t.1.1.natAbs ≤ 2000000000000 ∧ t.1.2.natAbs ≤ 1000000) ∧ t.2.1.natAbs ≤ 2000000000000 ∧ t.2.2.natAbs ≤ 1000000) (fun t => t.2.2.natAbs) (s.2, v) ?_
    intro s0 e
    simp -dsimp at e
    subst e
    refine ⟨?_, ?_⟩
    · simp
      omega
    rintro ⟨h, u⟩ ⟨c1, c2, ⟨c3, c4⟩, c5, c6⟩
    simp -dsimp
    refine ⟨fun hu => ?_, fun hu => ?_⟩
    · have e1 := eu_small c2 hu
      have e2 := pot_step (h := h) (v := u)
      have e3 := Int.tmod_add_mul_tdiv h.2 u.2
      have e4 := tmod_abs h.2 hu
      have e5 := eu_step (h := h) hu
      simp only at e1 c1 c2 c3 c4 c5 c6
      refine ⟨hu, ?_⟩
      rw [w64 (n := h.2.tdiv u.2) (by omega) (by omega), w64 (n := -h.2.tdiv u.2) (by omega) (by omega)]
      refine call_of (s_times _ _ _ (by omega) (by omega) (by omega)) rfl (by simp) ?_
      try simp -dsimp
      try (first | exact fp_one (by decide) | refine fp_and (by decide) ?_)
      rw [Int.neg_mul, Int.neg_mul]
      rw [Int.mul_comm] at e3
      refine call_of (s_add _ _ _ _ (by omega) (by omega) (by omega) (by omega)) rfl (by simp) ?_
      try simp -dsimp
      try (first | exact fp_one (by decide) | refine fp_and (by decide) ?_)
      refine ⟨u.1, u.2, h.1 - h.2.tdiv u.2 * u.1, h.2.tmod u.2, ⟨⟨rfl, rfl⟩, by omega, by omega⟩, ⟨by rw [← c1, e5], Nat.le_trans e2 c2, ⟨c5, c6⟩, ?_, by omega⟩, e4⟩
      have e6 : (h.1 - h.2.tdiv u.2 * u.1).natAbs * u.2.natAbs ≤ 2000000000000 := by
        have := Nat.le_trans e2 c2
        unfold pot at this
        exact Nat.le_trans (Nat.le_add_left _ _) this
      have e7 := Nat.le_mul_of_pos_right (h.1 - h.2.tdiv u.2 * u.1).natAbs (show 0 < u.2.natAbs by omega)
      omega
    · simp only at c1 c2 c3 c4 c5 c6
      rw [eu_zero hu] at c1
      refine call_of (s_gcd _ _ (by omega) (by omega)) rfl (by simp) ?_
      try simp -dsimp
      try (first | exact fp_one (by decide) | refine fp_and (by decide) ?_)
      have e8 : lstep s v = ((Int.gcd s.1 u.1 : Int), h) := by simp only [lstep, ← c1]
      rw [e8] at hst
      refine ⟨i + 1, ⟨⟨by rw [hst], by rw [w64 (by omega) (by omega)]; simp⟩, by rw [hst], by rw [hst]⟩, by omega, by omega⟩
  · have e := hs.2 l.length
    rw [List.take_length] at e
    rw [List.take_of_length_le h1]
    obtain ⟨⟨b1, b2⟩, b3⟩ := e
    generalize lfold l = s at *
    unfold lfin
    by_cases hn : s.2.2 < 0
    · rw [if_pos hn, if_pos hn]
      refine br_l hn (by omega) ?_
      refine call_of (s_times _ _ _ (by omega) (by omega) (by decide)) rfl (by simp) ?_
      try simp -dsimp
      try (first | exact fp_one (by decide) | refine fp_and (by decide) ?_)
      refine call_of (s_mod _ _ (by omega)) rfl (by simp) ?_
      try simp -dsimp
      try (first | exact fp_one (by decide) | refine fp_and (by decide) ?_)
    · rw [if_neg hn, if_neg hn]
      refine br_r hn (by omega) ?_
      refine call_of (s_mod _ _ (by omega)) rfl (by simp) ?_
      try simp -dsimp
      try (first | exact fp_one (by decide) | refine fp_and (by decide) ?_)
/-! the reference's -/
def lstepS (s : Int × Int × Int) (v : Int × Int) : Int × Int × Int :=
  ((Int.gcd s.1 (eu v.2.natAbs s.2 v).2.1 : Int), if (0 : Int) < Int.gcd s.1 (eu v.2.natAbs s.2 v).2.1 then (eu v.2.natAbs s.2 v).1.1 % (Int.gcd s.1 (eu v.2.natAbs s.2 v).2.1 : Int) else (eu v.2.natAbs s.2 v).1.1, (eu v.2.natAbs s.2 v).1.2)
def lfoldS (l : List (Int × Int)) : Int × Int × Int := l.foldl lstepS (0, 0, 0)
theorem lfoldS_snoc (l : List (Int × Int)) (v : Int × Int) : lfoldS (l ++ [v]) = lstepS (lfoldS l) v := by simp [lfoldS]
def lsmallS (l : List (Int × Int)) : Prop := (∀ v ∈ l, smallV 1000000 v) ∧ ∀ k, smallV 1000000 (lfoldS (l.take k)).2 ∧ (lfoldS (l.take k)).1.natAbs ≤ 1000000
theorem s_hermite (l : List (Int × Int)) (hl : l.length ≤ 1048576) (hs : lsmallS l) (h0 : 0 < (lfoldS l).1) : Sp Try.prog 196 [.v (vvs l)] (aL (lfin (lfoldS l)).1 (lfin (lfoldS l)).2.1 (lfin (lfoldS l)).2.2) [] := by
  refine sp_of (m := no) mixed Try.func196 k196 ?_
  simp -dsimp [q]
  refine awp_it (true :: false :: true :: true :: true :: true :: []) (fun i : Nat => [(4, vi (lfoldS (l.take i)).1), (5, vi i)]) (fun i => [(1, bV (lfoldS (l.take i)).2)]) (fun i => i ≤ l.length) (fun i => l.length - i) 0 ?_
  intro s0 e
  simp -dsimp at e
  subst e
  refine ⟨?_, ?_⟩
  · simp [lfoldS]
  intro i hi
  simp -dsimp
  refine ⟨fun h1 => ⟨h1, fun vx vy hv => ?_⟩, fun h1 => ?_⟩
  · obtain ⟨hsv, hsl⟩ := hs
    obtain ⟨v, rfl, rfl⟩ : ∃ v : Int × Int, vx = v.1 ∧ vy = v.2 := ⟨(vx, vy), rfl, rfl⟩
    obtain ⟨b1, b2⟩ := hsv v (List.mem_of_getElem? hv)
    obtain ⟨⟨b3, b4⟩, b5⟩ := hsl i
    have hst : lfoldS (l.take (i + 1)) = lstepS (lfoldS (l.take i)) v := by rw [List.take_add_one, hv]; exact lfoldS_snoc _ _
    obtain ⟨⟨b6, b7⟩, b8⟩ := hsl (i + 1)
    rw [hst] at b6 b7 b8
    generalize lfoldS (l.take i) = s at *
    have hP : pot s.2 v ≤ 2000000000000 := by
      have h1 := Nat.mul_le_mul b3 b2
      have h2 := Nat.mul_le_mul b1 b4
      unfold pot
      omega
    refine awp_it (true :: false :: true :: true :: true :: true :: true :: []) (fun _ : (Int × Int) × (Int × Int) => []) (fun t => [(1, bV t.1), (2, bV t.2)]) (fun t => eu t.2.2.natAbs t.1 t.2 = eu v.2.natAbs s.2 v ∧ pot t.1 t.2 ≤ 2000000000000 ∧ (t.1.1.natAbs ≤ 2000000000000 ∧ t.1.2.natAbs ≤ 1000000) ∧ t.2.1.natAbs ≤ 2000000000000 ∧ t.2.2.natAbs ≤ 1000000) (fun t => t.2.2.natAbs) (s.2, v) ?_
    intro s0 e
    simp -dsimp at e
    subst e
    refine ⟨?_, ?_⟩
    · simp
      omega
    rintro ⟨h, u⟩ ⟨c1, c2, ⟨c3, c4⟩, c5, c6⟩
    simp -dsimp
    refine ⟨fun hu => ?_, fun hu => ?_⟩
    · have e1 := eu_small c2 hu
      have e2 := pot_step (h := h) (v := u)
      have e3 := Int.tmod_add_mul_tdiv h.2 u.2
      have e4 := tmod_abs h.2 hu
      have e5 := eu_step (h := h) hu
      simp only at e1 c1 c2 c3 c4 c5 c6
      rw [Int.mul_comm] at e3
      have e6 : (h.1 - h.2.tdiv u.2 * u.1).natAbs * u.2.natAbs ≤ 2000000000000 := by
        have := Nat.le_trans e2 c2
        unfold pot at this
        exact Nat.le_trans (Nat.le_add_left _ _) this
      have e7 := Nat.le_mul_of_pos_right (h.1 - h.2.tdiv u.2 * u.1).natAbs (show 0 < u.2.natAbs by omega)
      rw [w64 (n := h.2.tdiv u.2) (by omega) (by omega), w64 (n := h.2.tdiv u.2 * u.1) (by omega) (by omega), w64 (n := h.2.tdiv u.2 * u.2) (by omega) (by omega)]
      refine ⟨hu, u.1, u.2, h.1 - h.2.tdiv u.2 * u.1, h.2.tmod u.2, ⟨⟨rfl, rfl⟩, ?_, ?_⟩, ⟨by rw [← c1, e5], Nat.le_trans e2 c2, ⟨c5, c6⟩, by omega, by omega⟩, e4⟩
      · rw [w64 (by omega) (by omega)]
      · rw [w64 (by omega) (by omega)]; omega
    · simp only at c1 c2 c3 c4 c5 c6
      rw [eu_zero hu] at c1
      have wg := s_sgcd _ s.1 u.1 (Nat.le_refl _) (by omega) (by omega)
      have e8 : lstepS s v = ((Int.gcd s.1 u.1 : Int), if (0 : Int) < Int.gcd s.1 u.1 then h.1 % (Int.gcd s.1 u.1 : Int) else h.1, h.2) := by simp only [lstepS, ← c1]
      generalize (Int.gcd s.1 u.1 : Int) = g at wg e8
      rw [e8] at hst b6 b7 b8
      simp only at b8
      refine call_of (wg) rfl (by simp) ?_
      try simp -dsimp
      try (first | exact fp_one (by decide) | refine fp_and (by decide) ?_)
      by_cases hg : 0 < g
      · rw [if_pos hg] at hst
        refine br_l hg (by omega) ?_
        refine call_of (s_smod _ _ (by omega)) rfl (by simp) ?_
        try simp -dsimp
        try (first | exact fp_one (by decide) | refine fp_and (by decide) ?_)
        refine ⟨i + 1, ⟨⟨by rw [hst], by rw [w64 (by omega) (by omega)]; simp⟩, by rw [hst], by rw [hst]⟩, by omega, by omega⟩
      · rw [if_neg hg] at hst
        refine br_r hg (by omega) ?_
        refine ⟨i + 1, ⟨⟨by rw [hst], by rw [w64 (by omega) (by omega)]; simp⟩, by rw [hst], by rw [hst]⟩, by omega, by omega⟩
  · have e := hs.2 l.length
    rw [List.take_length] at e
    rw [List.take_of_length_le h1]
    obtain ⟨⟨b1, b2⟩, b3⟩ := e
    generalize lfoldS l = s at *
    unfold lfin
    by_cases hn : s.2.2 < 0
    · rw [if_pos hn, if_pos hn]
      refine br_l hn (by omega) ?_
      refine call_of (s_scale _ _ _ (by omega) (by omega) (by decide)) rfl (by simp) ?_
      try simp -dsimp
      try (first | exact fp_one (by decide) | refine fp_and (by decide) ?_)
      refine br_l h0 (by omega) ?_
      refine call_of (s_smod _ _ (by omega)) rfl (by simp) ?_
      try simp -dsimp
      try (first | exact fp_one (by decide) | refine fp_and (by decide) ?_)
    · rw [if_neg hn, if_neg hn]
      refine br_r hn (by omega) ?_
      refine br_l h0 (by omega) ?_
      refine call_of (s_smod _ _ (by omega)) rfl (by simp) ?_
      try simp -dsimp
      try (first | exact fp_one (by decide) | refine fp_and (by decide) ?_)
end Go.Proofs.YtihkjljafjhniaaEv
namespace Go.Proofs.YtihkjljafjhniaaEv
open Go Go.Proofs
theorem rowL_get (x : Int) : ∀ (n k : Nat), k < n → (rowL x n)[k]? = some (x, (k : Int))
  | n + 1, k, h => by
    simp only [rowL]
    by_cases e : k < n
    · rw [List.getElem?_append_left (by rw [rowL_len]; exact e)]; exact rowL_get x n k e
    · have : k = n := by omega
      subst this
      rw [List.getElem?_append_right (by rw [rowL_len]; omega), rowL_len]
      simp
theorem cellsL_get (c : Nat) (hc : 0 < c) : ∀ (n k : Nat), k < n * c → (cellsL c n)[k]? = some (((k / c : Nat) : Int), ((k % c : Nat) : Int))
  | 0, k, h => by simp at h
  | n + 1, k, h => by
    simp only [cellsL]
    by_cases e : k < n * c
    · rw [List.getElem?_append_left (by rw [cellsL_len]; exact e)]; exact cellsL_get c hc n k e
    · rw [List.getElem?_append_right (by rw [cellsL_len]; omega), cellsL_len]
      rw [Nat.succ_mul] at h
      rw [rowL_get _ _ _ (by omega)]
      have h1 : k / c = n := by
        rw [Nat.div_eq_iff hc]
        refine ⟨by omega, by omega⟩
      have h2 : k % c = k - n * c := by
        have := Nat.div_add_mod k c
        rw [h1, Nat.mul_comm] at this
        omega
      rw [h1, h2]
/-- The number of a cell. -/
theorem num_cell {a b c : Int} (hc : 0 < c) {k : Nat} (hk : (k : Int) < a * c) : num a b c ((k / c.toNat : Nat) : Int) ((k % c.toNat : Nat) : Int) = k := by
  obtain ⟨n, rfl⟩ : ∃ n : Nat, c = n := ⟨c.toNat, by omega⟩
  have hn : 0 < n := by omega
  have h1 := Nat.mod_lt k hn
  have h2 := Nat.div_add_mod k n
  have h3 : ((k % n : Nat) : Int) / (n : Int) = 0 := Int.ediv_eq_zero_of_lt (by omega) (by omega)
  have h4 : ((k % n : Nat) : Int) % (n : Int) = (k % n : Nat) := Int.emod_eq_of_lt (by omega) (by omega)
  have h5 : ((k / n : Nat) : Int) < a := by
    rcases Int.lt_or_le ((k / n : Nat) : Int) a with h | h
    · exact h
    · exfalso
      have h6 := Int.mul_le_mul_of_nonneg_right h (show (0 : Int) ≤ n by omega)
      have h7 : ((k / n : Nat) : Int) * (n : Int) = ((n * (k / n) : Nat) : Int) := by rw [Int.mul_comm]; simp
      omega
  simp only [num, redX, Int.toNat_natCast, h3, h4, Int.zero_mul, Int.sub_zero]
  rw [Int.emod_eq_of_lt (Int.natCast_nonneg _) h5]
  have h7 : ((k / n : Nat) : Int) * (n : Int) = ((n * (k / n) : Nat) : Int) := by rw [Int.mul_comm]; simp
  omega
theorem num_range {a b c x y : Int} (ha : 0 < a) (hc : 0 < c) : 0 ≤ num a b c x y ∧ num a b c x y < a * c := by
  have h := red_lt (a := a) (b := b) (c := c) (x := x) (y := y) ha hc
  exact (num_lt' h.1 h.2).2
/-- The cell of a number. -/
theorem cell_num {a b c x y : Int} (ha : 0 < a) (hc : 0 < c) : (((num a b c x y).toNat / c.toNat : Nat) : Int) = redX a b c x y ∧ (((num a b c x y).toNat % c.toNat : Nat) : Int) = y % c := by
  have h := red_lt (a := a) (b := b) (c := c) (x := x) (y := y) ha hc
  have h1 := (num_lt' h.1 h.2).2
  have h2 : ((num a b c x y).toNat : Int) = num a b c x y := Int.toNat_of_nonneg h1.1
  have h3 : ((c.toNat : Nat) : Int) = c := Int.toNat_of_nonneg (by omega)
  constructor
  · rw [Int.natCast_ediv, h2, h3]
    unfold num
    rw [Int.add_comm, Int.add_mul_ediv_right _ _ (by omega), Int.ediv_eq_zero_of_lt h.2.1 h.2.2, Int.zero_add]
  · rw [Int.natCast_emod, h2, h3]
    unfold num
    rw [Int.add_comm, Int.add_mul_emod_self_right, Int.emod_eq_of_lt h.2.1 h.2.2]
theorem num_add {a b c x y u v : Int} (hc : 0 < c) : num a b c (redX a b c x y + u) (y % c + v) = num a b c (x + u) (y + v) := by
  have h1 : (y + v) % c = (y % c + v) % c := by rw [Int.emod_add_emod]
  have h2 : (y + v) / c = y / c + (y % c + v) / c := by
    have h3 := Int.mul_ediv_add_emod y c
    rw [show y + v = (y % c + v) + c * (y / c) by omega, Int.add_mul_ediv_left _ _ (by omega)]
    omega
  have h4 : redX a b c (redX a b c x y + u) (y % c + v) = redX a b c (x + u) (y + v) := by
    unfold redX
    rw [h2, Int.add_mul]
    rw [show (x - y / c * b) % a + u - (y % c + v) / c * b = (x - y / c * b) % a + (u - (y % c + v) / c * b) by omega, Int.emod_add_emod]
    congr 1
    omega
  unfold num
  rw [h4, h1]
/-- From a cell's number, a shift further. -/
theorem num_shift {a b c x y u v : Int} (ha : 0 < a) (hc : 0 < c) : num a b c ((((num a b c x y).toNat / c.toNat : Nat) : Int) + u) ((((num a b c x y).toNat % c.toNat : Nat) : Int) + v) = num a b c (x + u) (y + v) := by
  obtain ⟨h1, h2⟩ := cell_num (b := b) (x := x) (y := y) ha hc
  rw [h1, h2, num_add hc]
/-- A vector and its cell have one number. -/
theorem num_back {a b c u v : Int} (ha : 0 < a) (hc : 0 < c) {k : Nat} (hk : (k : Int) < a * c) : num a b c ((((num a b c ((k / c.toNat : Nat) + u) ((k % c.toNat : Nat) + v)).toNat / c.toNat : Nat) : Int) + -u) ((((num a b c ((k / c.toNat : Nat) + u) ((k % c.toNat : Nat) + v)).toNat % c.toNat : Nat) : Int) + -v) = k := by
  rw [num_shift ha hc]
  rw [show ((k / c.toNat : Nat) : Int) + u + -u = ((k / c.toNat : Nat) : Int) by omega, show ((k % c.toNat : Nat) : Int) + v + -v = ((k % c.toNat : Nat) : Int) by omega]
  exact num_cell hc hk
/-! entries set one behind the other -/
def setN (p : Nat → Bool) (ix : Nat → Nat) (val : Nat → Int) (l : List Int) : Nat → List Int
  | 0 => l
  | n + 1 => if p n = true then (setN p ix val l n).set (ix n) (val n) else setN p ix val l n
theorem setN_len (p : Nat → Bool) (ix : Nat → Nat) (val : Nat → Int) (l : List Int) : ∀ n, (setN p ix val l n).length = l.length
  | 0 => rfl
  | n + 1 => by simp only [setN]; split <;> simp [setN_len p ix val l n]
theorem setN_get {p : Nat → Bool} {ix : Nat → Nat} {val : Nat → Int} {l : List Int} {m j i : Nat} (hj : j < l.length) (hi : i < m) (hix : ∀ k, k < m → (ix k = j ↔ k = i)) : ∀ n, n ≤ m → (setN p ix val l n)[j]? = if i < n ∧ p i = true then some (val i) else l[j]?
  | 0, _ => by simp [setN]
  | n + 1, hn => by
    have ih := setN_get (p := p) (val := val) hj hi hix n (by omega)
    simp only [setN]
    by_cases hp : p n = true
    · rw [if_pos hp]
      by_cases e : ix n = j
      · have := (hix n (by omega)).1 e
        subst this
        rw [e, List.getElem?_set_self (by rw [setN_len]; exact hj), if_pos ⟨by omega, hp⟩]
      · rw [List.getElem?_set_ne e, ih]
        have : n ≠ i := fun h => e ((hix n (by omega)).2 h)
        by_cases h2 : i < n ∧ p i = true
        · rw [if_pos h2, if_pos ⟨by omega, h2.2⟩]
        · rw [if_neg h2, if_neg (fun h => h2 ⟨by omega, h.2⟩)]
    · rw [if_neg hp, ih]
      by_cases h2 : i < n ∧ p i = true
      · rw [if_pos h2, if_pos ⟨by omega, h2.2⟩]
      · rw [if_neg h2, if_neg (fun h => by
          have : i ≠ n := fun e => hp (e ▸ h.2)
          exact h2 ⟨by omega, h.2⟩)]
/-- The number of a cell, a shift further. -/
def mv (a b c u v : Int) (k : Nat) : Nat := (num a b c ((k / c.toNat : Nat) + u) ((k % c.toNat : Nat) + v)).toNat
theorem mv_lt {a b c u v : Int} (ha : 0 < a) (hc : 0 < c) (k : Nat) : mv a b c u v k < (a * c).toNat := by
  have := num_range (b := b) (x := (k / c.toNat : Nat) + u) (y := (k % c.toNat : Nat) + v) ha hc
  unfold mv
  omega
theorem mv_iff {a b c u v : Int} (ha : 0 < a) (hc : 0 < c) {k j : Nat} (hk : (k : Int) < a * c) (hj : (j : Int) < a * c) : mv a b c u v k = j ↔ k = mv a b c (-u) (-v) j := by
  constructor
  · rintro rfl
    have := num_back (b := b) (u := u) (v := v) ha hc hk
    unfold mv
    omega
  · rintro rfl
    have := num_back (b := b) (u := -u) (v := -v) ha hc hj
    rw [Int.neg_neg, Int.neg_neg] at this
    unfold mv
    omega
theorem cell_of {a c x y : Int} {i : Nat} (ha : 1 ≤ a) (hc : 1 ≤ c) (h : (cellsL c.toNat a.toNat)[i]? = some (x, y)) : ((0 ≤ x ∧ x < a) ∧ 0 ≤ y ∧ y < c) ∧ (∀ b u v, mv a b c u v i = (num a b c (x + u) (y + v)).toNat) ∧ x * c + y = i := by
  have hi : i < a.toNat * c.toNat := by
    have := (List.getElem?_eq_some_iff.1 h).1
    rwa [cellsL_len] at this
  rw [cellsL_get _ (by omega) _ _ hi] at h
  simp only [Option.some.injEq, Prod.mk.injEq] at h
  obtain ⟨rfl, rfl⟩ := h
  have h1 := Nat.mod_lt i (show 0 < c.toNat by omega)
  have h2 : i / c.toNat < a.toNat := Nat.div_lt_of_lt_mul (by rw [Nat.mul_comm]; exact hi)
  refine ⟨⟨⟨Int.natCast_nonneg _, by omega⟩, Int.natCast_nonneg _, by omega⟩, fun b u v => rfl, ?_⟩
  have h3 := Nat.div_add_mod i c.toNat
  have h4 : ((i / c.toNat : Nat) : Int) * c = ((c.toNat * (i / c.toNat) : Nat) : Int) := by rw [Int.natCast_mul, Int.toNat_of_nonneg (by omega), Int.mul_comm]
  omega
theorem nat_n {a c : Int} (ha : 1 ≤ a) (hc : 1 ≤ c) {n : Nat} (h : (n : Int) = a * c) : a.toNat * c.toNat = n := by
  have h2 : ((a.toNat * c.toNat : Nat) : Int) = a * c := by rw [Int.natCast_mul, Int.toNat_of_nonneg (by omega), Int.toNat_of_nonneg (by omega)]
  omega
end Go.Proofs.YtihkjljafjhniaaEv
namespace Go.Proofs.YtihkjljafjhniaaEv
open Go Go.Proofs
set_option maxRecDepth 10000
theorem toArgs_shut {h : List Ck} : ∀ {cs : List A}, cs.all A.shut = true → toArgs h cs = some (cs, [])
  | [], _ => rfl
  | c :: cs, hc => by
    simp only [List.all_cons, Bool.and_eq_true] at hc
    have := toArgs_shut (h := h) hc.2
    cases c <;> first | (simp [toArgs, toArg, toArg1, this]; done) | (have := hc.1; cases this)
theorem s_nw (n lo hi : Int) : Sp Try.prog 188 [vi n, .fq [.int .i64 lo], .fq [.int .i64 hi]] (vb (!decide (lo ≤ n ∧ n ≤ hi))) [] := by
  refine sp_of (m := no) mixed Try.func188 k188 ?_
  simp -dsimp [q]
  exact call_of (s_within n lo hi) rfl (by simp) (by simp -dsimp)
theorem s_fi (l : List Int) (f : Nat) (cs : List A) (p : Int → Bool) (h : l.length ≤ 1048576) (hc : cs.all A.shut = true) (hf : ∀ n ∈ l, Sp Try.prog f (vi n :: cs) (vb (p n)) []) : Sp Try.prog 230 [.v (vis l), .fn f cs] (vi (if l.any p = true then l.findIdx p else -1)) [] := by
  refine sp_of (m := no) mixed Try.func230 k230 ?_
  simp -dsimp [q]
  refine awp_it (true :: true :: false :: false :: false :: false :: false :: true :: true :: []) (fun i : Nat => [(8, vi i)]) (fun i => []) (fun i => i ≤ l.length ∧ (l.take i).any p = false) (fun i => l.length - i) 0 ?_
  intro s0 e
  simp -dsimp [hc] at e
  subst e
  refine ⟨?_, ?_⟩
  · simp [hc]
  intro i hi
  simp -dsimp [hc]
  refine ⟨fun h1 => ⟨h1, fun a ha => call_of (rd := []) (hf a (List.mem_of_getElem? ha)) (by simp [toArgs_shut hc]) (by simp) ?_⟩, fun h1 => ?_⟩
  · simp -dsimp [hc]
    have hi2 : ∀ x ∈ l.take i, p x = false := fun x hx => by
      have := List.any_eq_false.1 hi.2 x hx
      simpa using this
    obtain ⟨_, hal⟩ := List.getElem?_eq_some_iff.1 ha
    refine ⟨fun hp => ?_, fun hp => ⟨i + 1, by rw [w64 (by omega) (by omega)]; simp, ⟨by omega, fun x hx => ?_⟩, by omega⟩⟩
    · rw [if_pos ⟨a, List.mem_of_getElem? ha, hp⟩, (List.findIdx_eq h1).2 ⟨by rw [hal]; exact hp, fun j hj => hi2 _ (List.mem_iff_getElem.2 ⟨j, by simp; omega, by simp⟩)⟩]
    · rw [List.take_add_one, ha] at hx
      rcases List.mem_append.1 hx with hx | hx
      · exact hi2 x hx
      · simp at hx; rw [hx]; exact hp
  · have := hi.2
    rw [List.take_of_length_le h1] at this
    intro x hx
    simpa using List.any_eq_false.1 this x hx
theorem s_has (l : List Int) (f : Nat) (cs : List A) (p : Int → Bool) (h : l.length ≤ 1048576) (hc : cs.all A.shut = true) (hf : ∀ n ∈ l, Sp Try.prog f (vi n :: cs) (vb (p n)) []) : Sp Try.prog 187 [.v (vis l), .fn f cs] (vb (l.any p)) [] := by
  refine sp_of (m := no) mixed Try.func187 k187 ?_
  simp -dsimp [q]
  refine call_of (rd := []) (s_fi l f cs p h hc hf) (by simp [hc]) (by simp) ?_
  simp -dsimp
  by_cases hp : l.any p = true
  · rw [hp, if_pos (by simpa using hp)]
    simp
  · rw [if_neg (by simpa using hp)]
    simp at hp
    simpa using hp
theorem s_all (l : List Int) (lo hi : Int) (h : l.length ≤ 1048576) : Sp Try.prog 131 [.v (vis l), vi lo, vi hi] (vb (l.all fun n => decide (lo ≤ n ∧ n ≤ hi))) [] := by
  refine sp_of (m := no) mixed Try.func131 k131 ?_
  simp -dsimp [q]
  refine call_of (rd := []) (s_has l _ _ _ h rfl fun n _ => s_nw n lo hi) rfl (by simp) ?_
  simp -dsimp
  induction l with
  | nil => rfl
  | cons x l ih => simp [ih (by simp at h; omega)]
theorem s_sall (l : List Int) (n lo hi : Int) (h : l.length ≤ 1048576) : Sp Try.prog 133 [.v (vis l), vi n, vi lo, vi hi] (vb ((l.all fun n => decide (lo ≤ n ∧ n ≤ hi)) && decide ((l.length : Int) ≤ n))) [] := by
  refine sp_of (m := no) mixed Try.func133 k133 ?_
  simp -dsimp [q]
  refine awp_it (true :: true :: true :: true :: false :: false :: false :: false :: false :: true :: []) (fun i : Nat => [(9, vi i)]) (fun i => []) (fun i => i ≤ l.length ∧ ∀ x ∈ l.take i, lo ≤ x ∧ x ≤ hi) (fun i => l.length - i) 0 ?_
  intro s0 e
  simp -dsimp at e
  subst e
  refine ⟨?_, ?_⟩
  · simp
  intro i hk
  simp -dsimp
  refine ⟨fun h1 => ⟨h1, fun a ha => call_of (rd := []) (s_in a lo hi) (by simp) (by simp) ?_⟩, fun h1 => ?_⟩
  · generalize hb : decide (lo ≤ a ∧ a ≤ hi) = b
    cases b
    · simp -dsimp
      have hn := of_decide_eq_false hb
      intro hall
      exact absurd (hall a (List.mem_of_getElem? ha)) hn
    · simp -dsimp
      have hn := of_decide_eq_true hb
      refine ⟨i + 1, by rw [w64 (by omega) (by omega)]; simp, ⟨by omega, fun x hx => ?_⟩, by omega⟩
      rw [List.take_add_one, ha] at hx
      rcases List.mem_append.1 hx with hx | hx
      · exact hk.2 x hx
      · simp at hx; rw [hx]; exact hn
  · have h2 := hk.2
    rw [List.take_of_length_le h1] at h2
    exact fun _ => h2
end Go.Proofs.YtihkjljafjhniaaEv
namespace Go.Proofs.YtihkjljafjhniaaEv
open Go Go.Proofs
set_option maxRecDepth 10000
abbrev aP (f a b c : Int) (l : List Int) : A := .v (.ag [.int .i64 f, .int .i64 a, .int .i64 b, .int .i64 c, vis l])
abbrev oP (f a b c : Int) (i : Nat) : A := .ag [vi f, vi a, vi b, vi c, .sli i]
def okP (f a b c : Int) (l : List Int) : Bool := decide (0 ≤ f ∧ f ≤ 1) && okL a b c && decide ((l.length : Int) = a * c) && l.all fun n => decide (0 ≤ n ∧ n ≤ 9)
theorem okP_spec {f a b c : Int} {l : List Int} : okP f a b c l = true ↔ (0 ≤ f ∧ f ≤ 1) ∧ okL a b c = true ∧ (l.length : Int) = a * c ∧ ∀ n ∈ l, 0 ≤ n ∧ n ≤ 9 := by
  simp [okP, and_assoc]
theorem s_isFr (f : Int) : Sp Try.prog 147 [vi f] (vb (decide (0 ≤ f ∧ f ≤ 1))) [] := by
  refine sp_of (m := no) mixed Try.func147 k147 ?_
  simp -dsimp [q]
  refine call_of (s_within _ _ _) rfl (by simp) ?_
  try simp -dsimp
  try (first | exact fp_one (by decide) | refine fp_and (by decide) ?_)
theorem s_sisFr (f : Int) : Sp Try.prog 193 [vi f] (vb (decide (0 ≤ f ∧ f ≤ 1))) [] := by
  refine sp_of (m := no) mixed Try.func193 k193 ?_
  simp -dsimp [q]
  by_cases h : f = 0
  · subst h; simp
  · by_cases h1 : f = 1
    · subst h1; simp
    · simp [h, h1]
      intro h2; omega
theorem s_isP (f a b c : Int) (l : List Int) (hl : l.length ≤ 1048576) : Sp Try.prog 77 [aP f a b c l] (vb (okP f a b c l)) [] := by
  refine sp_of (m := no) mixed Try.func77 k77 ?_
  have w1 := s_isFr f
  have w2 := s_isL a b c
  have w4 := s_all l 0 9 hl
  simp -dsimp [q]
  by_cases h1 : 0 ≤ f ∧ f ≤ 1
  case neg =>
    rw [decide_eq_false h1] at w1
    refine call_of (w1) rfl (by simp) ?_
    try simp -dsimp
    try (first | exact fp_one (by decide) | refine fp_and (by decide) ?_)
    simp only [okP, decide_eq_false h1, Bool.false_and]
  rw [decide_eq_true h1] at w1
  refine call_of (w1) rfl (by simp) ?_
  try simp -dsimp
  try (first | exact fp_one (by decide) | refine fp_and (by decide) ?_)
  by_cases h2 : okL a b c = true
  case neg =>
    simp only [Bool.not_eq_true] at h2
    rw [h2] at w2
    refine call_of (w2) rfl (by simp) ?_
    try simp -dsimp
    try (first | exact fp_one (by decide) | refine fp_and (by decide) ?_)
    simp only [okP, h2, Bool.and_false, Bool.false_and]
  rw [h2] at w2
  refine call_of (w2) rfl (by simp) ?_
  try simp -dsimp
  try (first | exact fp_one (by decide) | refine fp_and (by decide) ?_)
  obtain ⟨ha, hc, _⟩ := okL_spec.1 h2
  refine call_of (s_index a b c ha hc) rfl (by simp) ?_
  try simp -dsimp
  try (first | exact fp_one (by decide) | refine fp_and (by decide) ?_)
  refine ⟨fun e => ?_, fun e => by simp only [okP, decide_eq_false e, Bool.and_false, Bool.false_and]⟩
  refine call_of (w4) rfl (by simp) ?_
  try simp -dsimp
  try (first | exact fp_one (by decide) | refine fp_and (by decide) ?_)
  simp only [okP, decide_eq_true h1, h2, decide_eq_true e, Bool.true_and, Bool.decide_and]
theorem s_scode (f a b c : Int) : Sp Try.prog 142 [vi f, aL a b c] (vi (if 0 ≤ f ∧ f ≤ 1 ∧ okL a b c = true then 0 else 1)) [] := by
  refine sp_of (m := no) mixed Try.func142 k142 ?_
  have w1 := s_sisFr f
  have w2 := s_sisL a b c
  simp -dsimp [q]
  by_cases h1 : 0 ≤ f ∧ f ≤ 1
  case neg =>
    rw [decide_eq_false h1] at w1
    rw [if_neg (fun h => h1 ⟨h.1, h.2.1⟩)]
    refine call_of (w1) rfl (by simp) ?_
    try simp -dsimp
    try (first | exact fp_one (by decide) | refine fp_and (by decide) ?_)
  rw [decide_eq_true h1] at w1
  refine call_of (w1) rfl (by simp) ?_
  try simp -dsimp
  try (first | exact fp_one (by decide) | refine fp_and (by decide) ?_)
  refine call_of (w2) rfl (by simp) ?_
  try simp -dsimp
  try (first | exact fp_one (by decide) | refine fp_and (by decide) ?_)
  by_cases h2 : okL a b c = true
  · simp [h1, h2]
  · simp [h2]
theorem s_sisP (f a b c : Int) (l : List Int) (hl : l.length ≤ 1048576) : Sp Try.prog 71 [aP f a b c l] (vb (okP f a b c l)) [] := by
  refine sp_of (m := no) mixed Try.func71 k71 ?_
  have w1 := s_scode f a b c
  have w4 := s_sall l 64 0 9 hl
  simp -dsimp [q]
  by_cases h1 : 0 ≤ f ∧ f ≤ 1 ∧ okL a b c = true
  case neg =>
    rw [if_neg h1] at w1
    refine call_of (w1) rfl (by simp) ?_
    try simp -dsimp
    try (first | exact fp_one (by decide) | refine fp_and (by decide) ?_)
    have : (decide (0 ≤ f ∧ f ≤ 1) && okL a b c) = false := by
      rw [Bool.eq_false_iff]; intro h; simp only [Bool.and_eq_true, decide_eq_true_eq] at h; exact h1 ⟨h.1.1, h.1.2, h.2⟩
    simp only [okP, this, Bool.false_and]
  rw [if_pos h1] at w1
  refine call_of (w1) rfl (by simp) ?_
  try simp -dsimp
  try (first | exact fp_one (by decide) | refine fp_and (by decide) ?_)
  obtain ⟨ha, hc, _, hac⟩ := okL_spec.1 h1.2.2
  have h4 := ac_pos ha.1 hc.1
  rw [w64 (by omega) (by omega)]
  refine ⟨fun e => ?_, fun e => by simp only [okP, decide_eq_false e, Bool.and_false, Bool.false_and]⟩
  refine call_of (w4) rfl (by simp) ?_
  try simp -dsimp
  try (first | exact fp_one (by decide) | refine fp_and (by decide) ?_)
  simp only [okP, decide_eq_true (show 0 ≤ f ∧ f ≤ 1 from ⟨h1.1, h1.2.1⟩), h1.2.2, decide_eq_true e, Bool.true_and, decide_eq_true (show (l.length : Int) ≤ 64 by omega), Bool.and_true, Bool.decide_and]
theorem s_at (f a b c x y : Int) (l : List Int) (hf : okP f a b c l = true) (hx : -1000000000 ≤ x ∧ x ≤ 1000000000) (hy : -1000000000 ≤ y ∧ y ≤ 1000000000) : Sp Try.prog 136 [aP f a b c l, aV x y] (vi (l.getD (num a b c x y).toNat 0)) [] := by
  refine sp_of (m := no) mixed Try.func136 k136 ?_
  obtain ⟨_, h2, h3, _⟩ := okP_spec.1 hf
  obtain ⟨ha, hc, hb, hac⟩ := okL_spec.1 h2
  have h0 := red_lt (b := b) (x := x) (y := y) ha.1 hc.1
  have h := num_lt' h0.1 h0.2
  simp -dsimp [q]
  refine call_of (s_reduce _ _ _ _ _ ha hb hc hx hy) rfl (by simp) ?_
  try simp -dsimp
  try (first | exact fp_one (by decide) | refine fp_and (by decide) ?_)
  refine call_of (s_number _ _ _ _ _ hc (by omega) h0.2) rfl (by simp) ?_
  try simp -dsimp
  try (first | exact fp_one (by decide) | refine fp_and (by decide) ?_)
  refine ⟨⟨by omega, by omega⟩, fun z hz => ?_⟩
  simp [num, hz]
theorem s_sat (f a b c x y : Int) (l : List Int) (hf : okP f a b c l = true) (hx : -1000000000 ≤ x ∧ x ≤ 1000000000) (hy : -1000000000 ≤ y ∧ y ≤ 1000000000) : Sp Try.prog 204 [aP f a b c l, aV x y] (vi (l.getD (num a b c x y).toNat 0)) [] := by
  refine sp_of (m := no) mixed Try.func204 k204 ?_
  obtain ⟨_, h2, h3, _⟩ := okP_spec.1 hf
  obtain ⟨ha, hc, hb, hac⟩ := okL_spec.1 h2
  have h0 := red_lt (b := b) (x := x) (y := y) ha.1 hc.1
  have h := num_lt' h0.1 h0.2
  simp -dsimp [q]
  refine call_of (s_snumber _ _ _ _ _ ha hb hc hx hy) rfl (by simp) ?_
  try simp -dsimp
  try (first | exact fp_one (by decide) | refine fp_and (by decide) ?_)
  unfold num at *
  refine ⟨⟨by omega, by omega⟩, fun z hz => ?_⟩
  simp [num, hz]
end Go.Proofs.YtihkjljafjhniaaEv
namespace Go.Proofs.YtihkjljafjhniaaEv
open Go Go.Proofs
set_option maxRecDepth 10000
theorem s_own (l : List Int) (hl : l.length ≤ 1048576) : Sp Try.prog 138 [.v (vis l)] (.sli 0) [.row 0 2 (is l)] := by
  refine sp_of (m := no) mixed Try.func138 k138 ?_
  simp -dsimp [q]
  exact ⟨by omega, by omega⟩
theorem is_ne (l : List Int) (h : l ≠ []) : is l ≠ [] := by simpa [is] using h
theorem s_clone (l : List Int) (hl : l.length ≤ 1048576) (h0 : l ≠ []) : Sp Try.prog 189 [.v (vis l)] (.sli 0) [.row 0 2 (is l)] := by
  refine sp_of (m := no) mixed Try.func189 k189 ?_
  simp -dsimp [q]
  exact ⟨is_ne l h0, by omega, by omega⟩
def maskL (l : List Int) (ink : Int) : List Int := l.map fun x => if x = ink then 1 else 0
theorem maskL_len (l : List Int) (ink : Int) : (maskL l ink).length = l.length := by simp [maskL]
theorem maskL_take {l : List Int} {ink z : Int} {n : Nat} (h : l[n]? = some z) : (maskL l ink).take (n + 1) = (maskL l ink).take n ++ [if z = ink then 1 else 0] := by
  rw [List.take_add_one]
  simp [maskL, h]
theorem s_mask (f a b c : Int) (l : List Int) (ink : Int) (hl : l.length ≤ 1048576) (h0 : l ≠ []) : Sp Try.prog 127 [aP f a b c l, vi ink] (aP f a b c (maskL l ink)) [] := by
  refine sp_of (m := no) mixed Try.func127 k127 ?_
  simp -dsimp [q]
  refine awp_it (false :: true :: false :: false :: true :: true :: false :: false :: false :: false :: false :: false :: false :: false :: false :: true :: true :: true :: []) (fun i : Nat => [(17, vi i)]) (fun i => match i with | 0 => [] | i + 1 => [(1, .box [vi f, vi a, vi b, vi c, .sli 2]), (2, .row 0 2 (is ((maskL l ink).take (i + 1))))]) (fun i => i ≤ l.length) (fun i => l.length - i) 0 ?_
  intro s0 e
  simp -dsimp at e
  subst e
  refine ⟨?_, ?_⟩
  · simp
  intro i hi
  cases i with
  | zero =>
    simp -dsimp
    refine ⟨fun h1 => ⟨h1, fun z hz => ?_⟩, fun h1 => absurd h1 h0⟩
    have ht := maskL_take (ink := ink) hz
    simp at ht
    constructor
    · intro e
      rw [if_pos e] at ht
      exact ⟨1, by rw [w64 (by omega) (by omega)]; simp [ht], by omega, by omega⟩
    · intro e
      rw [if_neg e] at ht
      exact ⟨1, by rw [w64 (by omega) (by omega)]; simp [ht], by omega, by omega⟩
  | succ i =>
    simp -dsimp [maskL_len]
    refine ⟨fun h1 => ⟨⟨by omega, h1⟩, fun z hz => ?_⟩, fun h1 => ?_⟩
    · have ht := maskL_take (ink := ink) hz
      constructor
      · intro e
        rw [if_pos e] at ht
        refine ⟨⟨by omega, by omega⟩, i + 2, ⟨by rw [w64 (by omega) (by omega)]; simp; omega, ?_⟩, by omega, by omega⟩
        simp [ht]
      · intro e
        rw [if_neg e] at ht
        refine ⟨⟨by omega, by omega⟩, i + 2, ⟨by rw [w64 (by omega) (by omega)]; simp; omega, ?_⟩, by omega, by omega⟩
        simp [ht]
    · rw [List.take_of_length_le (by rw [maskL_len]; omega)]
theorem s_smask (f a b c : Int) (l : List Int) (ink : Int) (hl : l.length ≤ 1048576) : Sp Try.prog 129 [aP f a b c l, vi ink] (aP f a b c (maskL l ink)) [] := by
  refine sp_of (m := no) mixed Try.func129 k129 ?_
  simp -dsimp [q]
  refine awp_it (false :: true :: true :: false :: true :: true :: true :: []) (fun i : Nat => [(6, vi i)]) (fun i => [(3, .row 0 2 (is ((maskL l ink).take i)))]) (fun i => i ≤ l.length) (fun i => l.length - i) 0 ?_
  intro s0 e
  simp -dsimp at e
  subst e
  refine ⟨?_, ?_⟩
  · simp
  intro i hi
  simp -dsimp [maskL_len]
  refine ⟨fun h1 => ⟨h1, fun z hz => ?_⟩, fun h1 => ?_⟩
  · have ht := maskL_take (ink := ink) hz
    constructor
    · intro e
      rw [if_pos e] at ht
      refine ⟨⟨by omega, by omega⟩, i + 1, ⟨by rw [w64 (by omega) (by omega)]; simp, ?_⟩, by omega, by omega⟩
      simp [ht]
    · intro e
      rw [if_neg e] at ht
      refine ⟨⟨by omega, by omega⟩, i + 1, ⟨by rw [w64 (by omega) (by omega)]; simp, ?_⟩, by omega, by omega⟩
      simp [ht]
  · rw [List.take_of_length_le (by rw [maskL_len]; omega)]
abbrev ovI (p m : List Int) (ink : Int) (n : Nat) : List Int := setN (fun k => decide (m.getD k 0 = 1)) (fun k => k) (fun _ => ink) p n
theorem s_overprint (f a b c : Int) (p : List Int) (f' a' b' c' : Int) (m : List Int) (ink : Int) (hp : p.length ≤ 1048576) (h0 : p ≠ []) (hm : m.length = p.length) : Sp Try.prog 132 [aP f a b c p, aP f' a' b' c' m, vi ink] (oP f a b c 0) [.row 0 2 (is (ovI p m ink p.length))] := by
  refine sp_of (m := no) mixed Try.func132 k132 ?_
  simp -dsimp [q]
  refine call_of (s_clone p hp h0) rfl (by simp) ?_
  try simp -dsimp
  try (first | exact fp_one (by decide) | refine fp_and (by decide) ?_)
  refine awp_it (false :: false :: true :: false :: false :: false :: true :: true :: false :: false :: false :: false :: false :: false :: false :: false :: false :: false :: false :: true :: true :: true :: []) (fun i : Nat => [(21, vi i)]) (fun i => [(2, .row 0 2 (is (ovI p m ink i)))]) (fun i => i ≤ p.length) (fun i => p.length - i) 0 ?_
  intro s0 e
  simp -dsimp at e
  subst e
  refine ⟨?_, ?_⟩
  · simp [ovI, setN]
  intro i hi
  simp -dsimp [setN_len, hm]
  refine ⟨fun h1 => ⟨h1, fun z hz => ?_⟩, fun h1 => ?_⟩
  · have hg : m.getD i 0 = z := by simp [hz]
    refine ⟨fun e => ⟨h1, i + 1, ⟨by rw [w64 (by omega) (by omega)]; simp, ?_⟩, by omega, by omega⟩, fun e => ⟨i + 1, ⟨by rw [w64 (by omega) (by omega)]; simp, ?_⟩, by omega, by omega⟩⟩
    · simp only [ovI, setN, hg, decide_eq_true e, if_true]
    · simp only [ovI, setN, hg, decide_eq_false e, if_false, Bool.false_eq_true]
  · rw [show i = p.length by omega]
abbrev ovS (a b c u v : Int) (p m : List Int) (ink : Int) (n : Nat) : List Int := setN (fun k => decide (m.getD k 0 = 1)) (mv a b c u v) (fun _ => ink) p n
theorem s_over (f a b c : Int) (p : List Int) (f' a' b' c' : Int) (m : List Int) (ink u v : Int) (hl : okL a b c = true) (hp : (p.length : Int) = a * c) (hm : m.length = p.length) (hu : u.natAbs ≤ 1000) (hv : v.natAbs ≤ 1000) : Sp Try.prog 134 [aP f a b c p, aP f' a' b' c' m, vi ink, aV u v] (oP f a b c 0) [.row 0 2 (is (ovS a b c u v p m ink p.length))] := by
  obtain ⟨ha, hc, hb, hac⟩ := okL_spec.1 hl
  have h1 := ac_pos ha.1 hc.1
  have hn := nat_n ha.1 hc.1 hp
  refine sp_of (m := no) mixed Try.func134 k134 ?_
  simp -dsimp [q]
  refine call_of (s_scells a b c ha hc) rfl (by simp) ?_
  try simp -dsimp
  try (first | exact fp_one (by decide) | refine fp_and (by decide) ?_)
  refine call_of (s_own p (by omega)) rfl (by simp) ?_
  try simp -dsimp
  try (first | exact fp_one (by decide) | refine fp_and (by decide) ?_)
  refine awp_it (false :: false :: true :: false :: true :: true :: false :: true :: true :: true :: true :: true :: []) (fun i : Nat => [(11, vi i)]) (fun i => [(6, .row 0 2 (is (ovS a b c u v p m ink i)))]) (fun i => i ≤ p.length) (fun i => p.length - i) 0 ?_
  intro s0 e
  simp -dsimp at e
  subst e
  refine ⟨?_, ?_⟩
  · simp [ovS, setN]
  intro i hi
  simp -dsimp [setN_len, hm, cellsL_len, hn]
  refine ⟨fun h1 => ⟨h1, fun z hz => ?_⟩, fun h1 => ?_⟩
  · have hg : m.getD i 0 = z := by simp [hz]
    refine ⟨fun e => ⟨h1, fun x y hxy => ?_⟩, fun e => ⟨i + 1, ⟨by rw [w64 (by omega) (by omega)]; simp, ?_⟩, by omega, by omega⟩⟩
    · obtain ⟨⟨k1, k2⟩, k3, _⟩ := cell_of ha.1 hc.1 hxy
      have k4 := k3 b u v
      have k5 := num_range (a := a) (b := b) (c := c) (x := x + u) (y := y + v) (by omega) (by omega)
      refine call_of (s_sadd _ _ _ _ (by omega) (by omega) (by omega) (by omega)) rfl (by simp) ?_
      try simp -dsimp
      try (first | exact fp_one (by decide) | refine fp_and (by decide) ?_)
      refine call_of (s_snumber _ _ _ _ _ ha hb hc (by omega) (by omega)) rfl (by simp) ?_
      try simp -dsimp
      try (first | exact fp_one (by decide) | refine fp_and (by decide) ?_)
      simp only [setN_len]
      refine ⟨⟨k5.1, by omega⟩, by omega, by decide, i + 1, ⟨by rw [w64 (by omega) (by omega)]; simp, ?_⟩, by omega, by omega⟩
      simp only [ovS, setN, hg, decide_eq_true e, if_true, k4]
    · simp only [ovS, setN, hg, decide_eq_false e, if_false, Bool.false_eq_true]
  · rw [show i = p.length by omega]
end Go.Proofs.YtihkjljafjhniaaEv
