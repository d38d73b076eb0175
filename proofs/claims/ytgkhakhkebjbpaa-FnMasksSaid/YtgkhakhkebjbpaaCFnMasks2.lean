/- What the code computes, and what it means: part 2 of the proof of FnMasks. No condition of its own. -/
import Derived.MapKept
import Derived.Test.YtgkhakhkebjbpaaProg
import Derived.Test.YtgkhakhkebjbpaaCFnMasks1
namespace Go.Proofs.YtgkhakhkebjbpaaEv
open Go

section
variable {P : Program} {D : Nat → Option Ck} {μ : Nat → Nat × Nat} {S S' : Nat → Prop} {w w' : World} {s : St} {a : Act} {K : KT} {m : Nat → Bool} {dst : Option Tmp} {ty : TypeId} {pos : String} {after : Array Edge} {guard : Option (Nat × Bool)}

theorem eqT_iff : ∀ {ts : List Nat} {az bs : List V} {p : Prop}, eqT ts az bs = some p → (p ↔ az = bs)
  | [], _, _, _, h => by obtain ⟨rfl, rfl, rfl⟩ := eqT_nil h; simp
  | t :: ts, _, _, _, h => by
    obtain ⟨x, az, y, bs, p1, p2, rfl, rfl, h1, h2, rfl⟩ := eqT_cons h
    have e := eqT_iff h2
    have e1 : p1 ↔ x = y := by
      unfold eq1 at h1
      split at h1
      · cases h1; simp
      · split at h1
        · rename_i hk; cases h1; simp [hk]
        · cases h1
      · cases h1; simp
      · cases h1
    rw [List.cons.injEq, e1, e]
theorem cs_inj {n : Nat} {x y : V} (hx : x.isAg = (n != 0)) (hy : y.isAg = (n != 0)) : x.cs = y.cs ↔ x = y := by
  constructor
  · intro h
    by_cases hn : n = 0
    · subst hn
      cases x <;> first | (cases hx; done) | (cases y <;> first | (cases hy; done) | (simp [V.cs] at h; done) | simpa [V.cs] using h)
    · have e : (n != 0) = true := by simpa using hn
      rw [e] at hx hy
      cases x <;> first | (cases hx; done) | (cases y <;> first | (cases hy; done) | (simp [V.cs] at h; done) | simpa [V.cs] using h)
  · rintro rfl; rfl
theorem eqT_flat : ∀ {ts : List Nat} {az bs : List V} {p : Prop}, eqT ts az bs = some p → flats az = true
  | [], _, _, _, h => by obtain ⟨rfl, rfl, rfl⟩ := eqT_nil h; rfl
  | t :: ts, _, _, _, h => by
    obtain ⟨x, az, y, bs, p1, p2, rfl, rfl, h1, h2, rfl⟩ := eqT_cons h
    have e := eqT_flat h2
    unfold eq1 at h1
    split at h1 <;> first | (cases h1; done) | simp [flats, V.flat, e]
mutual
theorem Rep.det : ∀ (x : V) (u v : Value), x.flat = true → Rep S w x u → Rep S w x v → u = v
  | .int _ _, _, _, _, h, k => by rw [show _ = _ from h, show _ = _ from k]
  | .bool _, _, _, _, h, k => by rw [show _ = _ from h, show _ = _ from k]
  | .str _, _, _, _, h, k => by rw [show _ = _ from h, show _ = _ from k]
  | .sl _ _, _, _, hx, _, _ => by cases hx
  | .ag cs, _, _, hx, ⟨us, h1, h2⟩, ⟨vs, k1, k2⟩ => by rw [h1, k1, RepL.det cs us vs hx h2 k2]
theorem RepL.det : ∀ (cs : List V) (us vs : List Value), flats cs = true → RepL S w cs us → RepL S w cs vs → us = vs
  | [], us, vs, _, h, k => by rw [show us = _ from h, show vs = _ from k]
  | c :: cs, _, _, hx, ⟨u, us', h1, h2, h3, h4⟩, ⟨v, vs', k1, k2, k3, k4⟩ => by
    simp only [flats, Bool.and_eq_true] at hx
    rw [h1, k1, Rep.det c u v hx.1 h3 k3, RepL.det cs us' vs' hx.2 h4 k4]
end
theorem bytes_self (s : ByteArray) : (s == s) = true := by rw [beq_toListBytes, beq_bytes]; simp
theorem flats_one : ∀ {cs : List V} {us : List Value} {n : Nat}, flats cs = true → (∀ c ∈ cs, c.isAg = false) → RepL S w cs us → ((us.zip us).all fun (x, y) => Instr.sameBits n x y) = true
  | [], us, _, _, _, h => by rw [show us = _ from h]; rfl
  | c :: cs, _, n, hx, hc, ⟨u, us', h1, h2, h3, h4⟩ => by
    simp only [flats, Bool.and_eq_true] at hx
    rw [h1]
    simp only [List.zip_cons_cons, List.all_cons, Bool.and_eq_true]
    refine ⟨?_, flats_one hx.2 (fun d hd => hc d (List.mem_cons_of_mem _ hd)) h4⟩
    cases c <;> first | (rw [show u = _ from h3]; cases n <;> simp [Instr.sameBits, bytes_self]; done) | (cases hx.1; done) | (cases h2; done)
theorem same_key {k : V} {u : Value} (hx : flats k.cs = true) (h : Rep S w k u) : Instr.sameBits 10000 u u = true := by
  cases k
  case int => rw [show u = _ from h]; simp [Instr.sameBits]
  case bool => rw [show u = _ from h]; simp [Instr.sameBits]
  case str => rw [show u = _ from h]; simp [Instr.sameBits, bytes_self]
  case sl => cases hx
  case ag cs =>
    obtain ⟨us, h1, h2⟩ := h
    rw [h1]
    simp only [Instr.sameBits, BEq.rfl, Bool.true_and]
    exact flats_one hx (fun c hc => by
      obtain ⟨i, hi⟩ := List.getElem?_of_mem hc
      exact (h2.get hi).choose_spec.2.2) h2
/-- The cells of a value, as the model's operations see it. -/
theorem rep_mkK {n : Nat} {x : V} {u : Value} (h : Rep S w x u) (hx : x.isAg = (n != 0)) : ∃ us, RepL S w x.cs us ∧ u = mkK n us := by
  by_cases hn : n = 0
  · subst hn
    have h1 : x.isAg = false := by simpa using hx
    refine ⟨[u], ?_, by simp [mkK]⟩
    cases x <;> first | exact ⟨u, [], rfl, rfl, h, rfl⟩ | (cases h1)
  · cases x <;> first | (exfalso; simp [V.isAg] at hx; exact hn hx) | skip
    obtain ⟨us, h1, h2⟩ := h
    exact ⟨us, h2, by simp [mkK, hn, h1]⟩
theorem check_cells : ∀ (n : Nat) (t k d : Nat) (em : Bool) (ts : List Nat) (us : List Value), eqTs P n t = some ts → kindOf P t = some k → n ≤ d → us.length = ts.length →
    (Instr.checkKey em d t (mkK k us)).run P w = .ok () w := by
  intro n
  induction n with
  | zero => intro t k d em ts us h; simp [eqTs] at h
  | succ n ih =>
    intro t k d em ts us hok hk hd hl
    obtain ⟨d, rfl⟩ : ∃ m, d = m + 1 := ⟨d - 1, by omega⟩
    simp only [eqTs] at hok
    unfold Instr.checkKey
    split at hok
    · rename_i hu
      simp only [Sem.run_bind, run_underlying hu, Result.andThen_ok]
      cases mkK k us <;> rfl
    · rename_i k' hu
      simp only [Sem.run_bind, run_underlying hu, Result.andThen_ok]
      cases mkK k us <;> rfl
    · rename_i hu
      simp only [Sem.run_bind, run_underlying hu, Result.andThen_ok]
      cases mkK k us <;> rfl
    · rename_i fs hu
      split at hok
      · have hk0 : k ≠ 0 := by
          obtain ⟨d', i, h2, _, _, _, h5⟩ := kindOf_spec hk
          rw [hu] at h2
          cases h2
          rcases h5 with ⟨_, h5⟩ | ⟨h5, _⟩
          · exact absurd rfl (h5 fs)
          · exact h5
        simp only [mkK, hk0, if_false, Sem.run_bind, run_underlying hu, Result.andThen_ok]
        rw [← Array.forIn_toList]
        have key : ∀ (l : List Field) (o : Nat) (ts : List Nat), eqFs P (eqTs P n) l o = some ts → o + ts.length ≤ us.length →
            (forIn l PUnit.unit (fun f _ => (if f.name ≠ "_" then do Instr.checkKey em d f.type (← part f.type us.toArray f.offset); pure (ForInStep.yield PUnit.unit) else pure (ForInStep.yield PUnit.unit) : Sem (ForInStep PUnit)))).run P w = .ok PUnit.unit w := by
          intro l
          induction l with
          | nil => intro o ts _ _; simp
          | cons f l ihl =>
            intro o ts h1 h2
            simp only [eqFs] at h1
            split at h1
            · rename_i t1 kf h3 h4
              split at h1
              · rename_i h5
                obtain ⟨h5, rfl, h6⟩ := h5
                simp only [Option.map_eq_some_iff] at h1
                obtain ⟨t2, h7, rfl⟩ := h1
                rw [List.length_append, h6] at h2
                have hcz := cz_pos kf
                have r1 := run_partK (P := P) (w := w) (us := us) (off := f.offset) h4 (by omega)
                have r3 := ih f.type kf d em t1 ((us.drop f.offset).take (cz kf)) h3 h4 (by omega) (by simp; omega)
                have r4 := ihl (f.offset + cz kf) t2 h7 (by omega)
                simp only [List.forIn_cons, h5, ne_eq, not_false_eq_true, if_true, Sem.run_bind, r1, r3, Result.andThen_ok, Sem.run_pure]
                exact r4
              · cases h1
            · cases h1
        have := key fs.toList 0 ts hok (by omega)
        rw [this]
        rfl
      · cases hok
    · cases hok
theorem MapR.length : ∀ {l : List (V × V)} {es : List MapEntry}, MapR S w l es → es.length = l.length
  | [], _, h => by rw [show _ = _ from h]; rfl
  | p :: l, _, ⟨e, es', h1, _, _, h4⟩ => by rw [h1]; simp [MapR.length h4]
theorem MapR.set {k v : V} {c u : Value} {b : Nat} (hk : Rep S w k c) (hv : Rep S w v u) : ∀ {l : List (V × V)} {es : List MapEntry} (j : Nat), MapR S w l es → MapR S w (l.set j (k, v)) (es.set j ⟨c, u, b⟩)
  | [], _, _, h => by rw [show _ = _ from h]; exact rfl
  | p :: l, _, 0, ⟨e, es', h1, h2, h3, h4⟩ => by subst h1; exact ⟨_, es', rfl, hk, hv, h4⟩
  | p :: l, _, j + 1, ⟨e, es', h1, h2, h3, h4⟩ => by subst h1; exact ⟨e, _, rfl, h2, h3, MapR.set hk hv j h4⟩
theorem MapR.snoc {k v : V} {c u : Value} {b : Nat} (hk : Rep S w k c) (hv : Rep S w v u) : ∀ {l : List (V × V)} {es : List MapEntry}, MapR S w l es → MapR S w (l ++ [(k, v)]) (es ++ [⟨c, u, b⟩])
  | [], _, h => by rw [show _ = _ from h]; exact ⟨_, [], rfl, hk, hv, rfl⟩
  | p :: l, _, ⟨e, es', h1, h2, h3, h4⟩ => by subst h1; exact ⟨e, _, rfl, h2, h3, MapR.snoc hk hv h4⟩
/-- What a search finds. -/
def Fnd (k : V) (l : List (V × V)) (es : List MapEntry) (i : Nat) (r : Option (Nat × Value)) : Prop :=
  (r = none ∧ ∀ p ∈ l, p.1 ≠ k) ∨ ∃ j p e, r = some (i + j, e.val) ∧ l[j]? = some p ∧ es[j]? = some e ∧ p.1 = k ∧ ∀ q ∈ l.take j, q.1 ≠ k
theorem Fnd.hit {k : V} {p : V × V} {l : List (V × V)} {e : MapEntry} {es : List MapEntry} {i : Nat} (h : p.1 = k) : Fnd k (p :: l) (e :: es) i (some (i, e.val)) :=
  .inr ⟨0, p, e, rfl, rfl, rfl, h, by simp⟩
theorem Fnd.miss {k : V} {p : V × V} {l : List (V × V)} {e : MapEntry} {es : List MapEntry} {i : Nat} {r : Option (Nat × Value)} (h : p.1 ≠ k) (hr : Fnd k l es (i + 1) r) : Fnd k (p :: l) (e :: es) i r := by
  rcases hr with ⟨h1, h2⟩ | ⟨j, q, e', h1, h2, h3, h4, h5⟩
  · exact .inl ⟨h1, fun q hq => by
      rcases List.mem_cons.1 hq with rfl | hq
      · exact h
      · exact h2 q hq⟩
  · refine .inr ⟨j + 1, q, e', by rw [h1]; congr 2; omega, by simpa using h2, by simpa using h3, h4, fun q' hq => ?_⟩
    rw [List.take_succ_cons] at hq
    rcases List.mem_cons.1 hq with rfl | hq
    · exact h
    · exact h5 q' hq
theorem find_asking {n kt : Nat} {ts : List Nat} {k : V} {u : Value} (hk : kindOf P kt = some n) (hts : eqTs P 8 kt = some ts) (hu : Rep S w k u) (hn : k.isAg = (n != 0)) : ∀ (l : List (V × V)) (es : List MapEntry) (i : Nat), (∀ p ∈ l, p.1.isAg = (n != 0) ∧ (eqT ts k.cs p.1.cs).isSome = true) → MapR S w l es →
    ∃ r, (Instr.findAsking kt u es i).run P w = .ok r w ∧ Fnd k l es i r
  | [], _, i, _, h => by rw [show _ = _ from h]; exact ⟨none, rfl, .inl ⟨rfl, by simp⟩⟩
  | p :: l, _, i, hl, ⟨e, es', h1, h2, h3, h4⟩ => by
    subst h1
    obtain ⟨us, r1, rfl⟩ := rep_mkK hu hn
    obtain ⟨hp1, hp2⟩ := hl p List.mem_cons_self
    obtain ⟨vs, r2, e2⟩ := rep_mkK h2 hp1
    obtain ⟨q, hq⟩ := Option.isSome_iff_exists.1 hp2
    have h5 := equal_cells (P := P) (S := S) (w := w) 8 kt n Op.maxDepth ts _ _ us vs q hts hk (by simp [Op.maxDepth]) r1 r2 hq
    have h6 : q ↔ k = p.1 := (eqT_iff hq).trans (cs_inj hn hp1)
    rw [← e2] at h5
    obtain ⟨r, h7, h8⟩ := find_asking hk hts hu hn l es' (i + 1) (fun q hq => hl q (List.mem_cons_of_mem _ hq)) h4
    by_cases he : k = p.1
    · have : cdec q = true := by rw [cdec_true]; exact h6.2 he
      rw [this] at h5
      exact ⟨some (i, e.val), by simp [Instr.findAsking, Op.equal, h5], .hit he.symm⟩
    · have : cdec q = false := by rw [cdec_false]; exact fun e => he (h6.1 e)
      rw [this] at h5
      exact ⟨r, by simp [Instr.findAsking, Op.equal, h5, h7], .miss (Ne.symm he) h8⟩
theorem find_now {d : TypeDesc} {k : V} {u : Value} : ∀ (l : List (V × V)) (es : List MapEntry) (i : Nat), (∀ p ∈ l, ∀ v, Rep S w p.1 v → Instr.sameNow d u v = some (cdec (k = p.1))) → MapR S w l es →
    ∃ r, Instr.findNow d u es i = some r ∧ Fnd k l es i r
  | [], _, i, _, h => by rw [show _ = _ from h]; exact ⟨none, rfl, .inl ⟨rfl, by simp⟩⟩
  | p :: l, _, i, hs, ⟨e, es', h1, h2, h3, h4⟩ => by
    subst h1
    have h5 := hs p List.mem_cons_self _ h2
    obtain ⟨r, h7, h8⟩ := find_now l es' (i + 1) (fun q hq => hs q (List.mem_cons_of_mem _ hq)) h4
    by_cases he : k = p.1
    · have : cdec (k = p.1) = true := by rw [cdec_true]; exact he
      rw [this] at h5
      exact ⟨some (i, e.val), by simp [Instr.findNow, h5], .hit he.symm⟩
    · have : cdec (k = p.1) = false := by rw [cdec_false]; exact he
      rw [this] at h5
      exact ⟨r, by simp [Instr.findNow, h5, h7], .miss (Ne.symm he) h8⟩
theorem one_eq {c : Nat} {k x : V} (hk : k.isAg = false) (hx : x.isAg = false) (h : (eqT [c] k.cs x.cs).isSome = true) : (eq1 c k x).isSome = true := by
  have e1 : k.cs = [k] := by cases k <;> first | rfl | cases hk
  have e2 : x.cs = [x] := by cases x <;> first | rfl | cases hx
  rw [e1, e2] at h
  simp only [eqT] at h
  cases he : eq1 c k x with
  | none => rw [he] at h; cases h
  | some p => rfl
theorem find_spec {n kt : Nat} {ts : List Nat} {k : V} {u : Value} {l : List (V × V)} {es : List MapEntry} (hk : kindOf P kt = some n) (hts : eqTs P 8 kt = some ts) (hu : Rep S w k u) (hkey : keyed n ts k l) (hm : MapR S w l es) :
    ∃ r, (Instr.findKey kt u es).run P w = .ok r w ∧ Fnd k l es 0 r := by
  obtain ⟨hn, _, hl⟩ := hkey
  have scal : ∀ {d : TypeDesc} {c : Nat}, P.underlying kt = some d → (∀ fs, d ≠ .struct fs) → ts = [c] → (∀ x v, x.isAg = false → (eq1 c k x).isSome = true → Rep S w x v → Instr.sameNow d u v = some (cdec (k = x))) → ∃ r, (Instr.findKey kt u es).run P w = .ok r w ∧ Fnd k l es 0 r := by
    intro d c hd hns htc hsame
    subst htc
    obtain rfl := kind_scalar hk hd hns
    obtain ⟨r, h1, h2⟩ := find_now (d := d) (u := u) l es 0 (fun p hp v hv => hsame p.1 v (by simpa using (hl p hp).1) (one_eq (by simpa using hn) (by simpa using (hl p hp).1) (hl p hp).2) hv) hm
    exact ⟨r, MapKept.run_findKey hd h1, h2⟩
  have hts' := hts
  simp only [eqTs] at hts
  split at hts
  · rename_i hd
    refine scal hd (by simp) (by simpa using hts.symm) (fun x v _ h2 h3 => ?_)
    cases k <;> cases x <;> simp only [eq1, Option.isSome_none, Bool.false_eq_true] at h2
    rename_i b b'
    rw [show u = _ from hu, show v = _ from h3]
    simp only [Instr.sameNow, Option.some.injEq]
    rw [Bool.eq_iff_iff]
    simp [cdec]
  · rename_i q hd
    refine scal hd (by simp) (by simpa using hts.symm) (fun x v _ h2 h3 => ?_)
    cases k <;> cases x <;> simp only [eq1, Option.isSome_none, Bool.false_eq_true] at h2
    rename_i j b j' b'
    split at h2
    · rename_i hj
      subst hj
      rw [show u = _ from hu, show v = _ from h3]
      simp only [Instr.sameNow, if_true, Option.some.injEq]
      rw [Bool.eq_iff_iff]
      simp [cdec]
    · cases h2
  · rename_i hd
    refine scal hd (by simp) (by simpa using hts.symm) (fun x v _ h2 h3 => ?_)
    cases k <;> cases x <;> simp only [eq1, Option.isSome_none, Bool.false_eq_true] at h2
    rename_i b b'
    rw [show u = _ from hu, show v = _ from h3]
    simp only [Instr.sameNow, Option.some.injEq]
    rw [beq_toListBytes, beq_bytes, Bool.eq_iff_iff]
    simp [cdec]
  · rename_i fs hd
    obtain ⟨r, h1, h2⟩ := find_asking hk hts' hu hn l es 0 hl hm
    refine ⟨r, ?_, h2⟩
    simp only [Instr.findKey, Sem.run_bind, run_underlying hd, Result.andThen_ok]
    cases es with
    | nil => simp only [Instr.findNow]; simpa [Instr.findAsking] using h1
    | cons e es => simp only [Instr.findNow, Instr.sameNow]; exact h1
  · cases hts
theorem mget_none {k : V} : ∀ {l : List (V × V)}, (∀ p ∈ l, p.1 ≠ k) → mget k l = none ∧ ∀ v, mput k v l = l ++ [(k, v)]
  | [], _ => ⟨rfl, fun _ => rfl⟩
  | p :: l, h => by
    have h1 : cdec (p.1 = k) = false := by rw [cdec_false]; exact h p List.mem_cons_self
    obtain ⟨h2, h3⟩ := mget_none (l := l) (fun q hq => h q (List.mem_cons_of_mem _ hq))
    exact ⟨by simp [mget, h1, h2], fun v => by simp [mput, h1, h3]⟩
theorem mget_some {k : V} {p : V × V} : ∀ {l : List (V × V)} {j : Nat}, l[j]? = some p → p.1 = k → (∀ q ∈ l.take j, q.1 ≠ k) → mget k l = some p.2 ∧ ∀ v, mput k v l = l.set j (k, v)
  | [], _, h, _, _ => by simp at h
  | q :: l, 0, h, hk, _ => by
    simp only [List.getElem?_cons_zero, Option.some.injEq] at h
    subst h
    have h1 : cdec (q.1 = k) = true := by rw [cdec_true]; exact hk
    exact ⟨by simp [mget, h1], fun v => by simp [mput, h1]⟩
  | q :: l, j + 1, h, hk, hq => by
    rw [List.take_succ_cons] at hq
    have h1 : cdec (q.1 = k) = false := by rw [cdec_false]; exact hq q List.mem_cons_self
    obtain ⟨h2, h3⟩ := mget_some (l := l) (j := j) (by simpa using h) hk (fun q' hq' => hq q' (List.mem_cons_of_mem _ hq'))
    exact ⟨by simp [mget, h1, h2], fun v => by simp [mput, h1, h3]⟩
theorem MapR.get : ∀ {l : List (V × V)} {es : List MapEntry} {j : Nat} {p : V × V} {e : MapEntry}, MapR S w l es → l[j]? = some p → es[j]? = some e → Rep S w p.1 e.key ∧ Rep S w p.2 e.val
  | [], _, _, _, _, _, h, _ => by simp at h
  | q :: l, _, 0, p, e, ⟨e', es', h1, h2, h3, h4⟩, hp, he => by
    subst h1
    simp only [List.getElem?_cons_zero, Option.some.injEq] at hp he
    subst hp he
    exact ⟨h2, h3⟩
  | q :: l, _, j + 1, p, e, ⟨e', es', h1, h2, h3, h4⟩, hp, he => by
    subst h1
    exact MapR.get h4 (by simpa using hp) (by simpa using he)
theorem check_key {n kt : Nat} {ts : List Nat} {k : V} {u : Value} {l : List (V × V)} {em : Bool} (hk : kindOf P kt = some n) (hts : eqTs P 8 kt = some ts) (hu : Rep S w k u) (hkey : keyed n ts k l) : (Instr.checkKey em 10000 kt u).run P w = .ok () w := by
  obtain ⟨hn, hs, _⟩ := hkey
  obtain ⟨us, r1, rfl⟩ := rep_mkK hu hn
  obtain ⟨q, hq⟩ := Option.isSome_iff_exists.1 hs
  exact check_cells 8 kt n 10000 em ts us hts hk (by omega) (by rw [r1.one.1, (eqT_length hq).1])
theorem good_mkm {t : TypeId} (h : aop P m s K .mkm) : Good P ⟨dst, .makeMap t none, ty, pos, after, guard⟩ s K := by
  refine ⟨_, _, _, _, h, by simp, fun i hi => ?_, fun w0 O0 S0 D μ S w a R hD hO next Q hn => ?_⟩
  · simp only [List.mem_singleton] at hi
    by_cases h1 : i < s.h.length
    · rw [List.getElem?_append_left h1]
    · rw [List.getElem?_eq_none (by simp; omega), List.getElem?_eq_none (by omega)]
  · have hi : D s.h.length = none := by rw [hD _ (.inr (by simp))]; simp
    have hr : (execOp a.eval (⟨dst, .makeMap t none, ty, pos, after, guard⟩ : Oper)).run P w = .ok (.value (.map (some w.heap.size))) (w.alloc (.map #[] 0)) := by
      simp [execOp, Instr.makeMap, newObj]
      rfl
    obtain ⟨R2, T⟩ := R.alloc (o := .map #[] 0) (n := 0) (c := .map [] []) hi (by
      unfold CR
      rw [fset_same]
      exact ⟨#[], 0, by rw [fset_same]; exact heap_alloc_new w _, rfl⟩)
    unfold Oper.wp
    rw [hr]
    refine hn _ _ _ _ S R2 (fun i => ?_) T ⟨by rw [fset_same], _, fset_same⟩
    by_cases h5 : i = s.h.length
    · subst h5; simp [fset_same]
    · rw [fset_ne h5, if_neg (by simpa using h5)]
theorem good_mlk {t kt e k ke : Nat} {ts : List Nat} {z : V} {ok : Bool} {x i : Operand} {x' i' : X} (ht : P.underlying t = some (.map kt e)) (hk : kindOf P kt = some k) (hts : eqTs P 8 kt = some ts) (_hke : kindOf P e = some ke) (hz : zeroV P e ke = some z)
    (h1 : cX P t x = some x') (h2 : cX P kt i = some i') (h : aop P m s K (.mlk k ts z ok x' i')) : Good P ⟨dst, .lookup t x i ok, ty, pos, after, guard⟩ s K := by
  simp only [aop] at h
  split at h
  · rename_i kv hkv
    split at h
    · rename_i c hx
      split at h
      · rename_i ts' es hc
        obtain ⟨hkey, hK⟩ := h
        refine ⟨_, _, _, _, hK, Snd.pure fun _ _ _ D μ S w a R hD hO => ?_⟩
        have h3 := cX_ar h1 hO (by simp [Op.operands])
        rw [hx] at h3
        have h4 := cX_ar h2 hO (by simp [Op.operands])
        rw [hkv] at h4
        have h5 := R.ck c
        unfold CR at h5
        rw [(hD c (by simp)).trans hc] at h5
        obtain ⟨ents, clock, g1, g2⟩ := h5
        obtain ⟨r, g3, g4⟩ := find_spec hk hts h4 hkey g2
        have g5 := check_key (P := P) (em := ents.isEmpty) hk hts h4 hkey
        obtain ⟨i0, v0, e4, e5, e6, e7, e8⟩ := zeroV_rep (S := S) (w := w) hz
        have hzv : (zeroValue e).run P w = .ok v0 w := by simp [zeroValue, typeInfo, e4, e5]
        have run : (execOp a.eval (⟨dst, .lookup t x i ok, ty, pos, after, guard⟩ : Oper)).run P w = .ok (.value (match r with | some (_, v) => if ok = true then .tuple #[v, .bool true] else v | none => if ok = true then .tuple #[v0, .bool false] else v0)) w := by
          simp only [execOp, h3.1]
          simp [Instr.lookup, run_underlying ht, MapKept.run_getObj_map g1, g5, g3]
          rcases r with _ | ⟨_, v⟩
          · simp [hzv]
          · simp
        refine ⟨_, run, ?_⟩
        rcases g4 with ⟨rfl, g6⟩ | ⟨j, p, en, rfl, g6, g7, g8, g9⟩
        · rw [(mget_none g6).1]
          cases ok
          · exact e6
          · exact ⟨[_, _], rfl, _, _, rfl, e6, _, _, rfl, rfl, rfl⟩
        · rw [(mget_some g6 g8 g9).1]
          obtain ⟨_, g10⟩ := g2.get g6 g7
          cases ok
          · exact g10
          · exact ⟨[_, _], rfl, _, _, rfl, g10, _, _, rfl, rfl, rfl⟩
      · exact h.elim
    · exact h.elim
  · exact h.elim
theorem good_mup {t kt e k : Nat} {ts : List Nat} {x i y : Operand} {x' i' y' : X} (ht : P.underlying t = some (.map kt e)) (hk : kindOf P kt = some k) (hts : eqTs P 8 kt = some ts)
    (h1 : cX P t x = some x') (h2 : cX P kt i = some i') (h3 : cX P e y = some y') (h : aop P m s K (.mup k ts x' i' y')) : Good P ⟨dst, .mapUpdate t x i y, ty, pos, after, guard⟩ s K := by
  simp only [aop] at h
  split at h
  · rename_i kv hkv
    split at h
    · rename_i c hx
      split at h
      · rename_i ts' es hc
        obtain ⟨v, hv, hkey, hK⟩ := h
        refine ⟨_, _, _, _, hK, Snd.wr hc rfl rfl (fun D μ S w w' u hD hu => ?_) (fun _ _ _ D μ S w a R hD hO => ?_)⟩
        · unfold AR at hu
          rw [hD] at hu
          exact hu.2.elim
        · have h4 := cX_ar h1 hO (by simp [Op.operands])
          rw [hx] at h4
          have h5 := cX_ar h2 hO (by simp [Op.operands])
          rw [hkv] at h5
          have h6 := toV_ar hv (cX_ar h3 hO (by simp [Op.operands]))
          have h7 := R.ck c
          unfold CR at h7
          rw [hD] at h7
          obtain ⟨ents, clock, g1, g2⟩ := h7
          obtain ⟨r, g3, g4⟩ := find_spec hk hts h5 hkey g2
          have g5 := check_key (P := P) (em := false) hk hts h5 hkey
          have hflat : flats kv.cs = true := by
            obtain ⟨q, hq⟩ := Option.isSome_iff_exists.1 hkey.2.1
            exact eqT_flat hq
          have fin : ∀ (ents' : Array MapEntry) (clock' : Nat) (es' : List (V × V)), (execOp a.eval (⟨dst, .mapUpdate t x i y, ty, pos, after, guard⟩ : Oper)).run P w = .ok .skip { w with heap := w.heap.setIfInBounds (μ c).1 (.map ents' clock') } → MapR S w es' ents'.toList → mput kv v es = es' →
              ∃ w', (execOp a.eval (⟨dst, .mapUpdate t x i y, ty, pos, after, guard⟩ : Oper)).run P w = .ok .skip w' ∧ Only (μ c).1 w w' ∧ (Tr D μ S w (fset D c (some (.map [] (mput kv v es)))) μ S w' → CR (fset D c (some (.map [] (mput kv v es)))) μ S w' c) := by
            rintro ents' clock' es' hr hm rfl
            refine ⟨_, hr, ⟨rfl, rfl, rfl, by simp, fun k hk => (MapKept.heap_set g1).2 k hk⟩, fun T => ?_⟩
            unfold CR
            rw [fset_same]
            exact ⟨ents', clock', (MapKept.heap_set g1).1, MapR.mono T.sub T.heap _ _ hm⟩
          rcases g4 with ⟨rfl, g6⟩ | ⟨j, p, en, rfl, g6, g7, g8, g9⟩
          · refine fin (ents.push ⟨a.eval i, a.eval y, clock⟩) (clock + 1) (es ++ [(kv, v)]) ?_ (by rw [Array.toList_push]; exact MapR.snoc h5 h6 g2) ((mget_none g6).2 v)
            simp only [execOp, h4.1]
            simp [Instr.mapUpdate, run_underlying ht, MapKept.run_getObj_map g1, g5, g3, MapKept.run_setObj_map _ g1]
          · obtain ⟨g10, _⟩ := g2.get g6 g7
            have g11 : en.key = a.eval i := by
              rw [g8] at g10
              by_cases hag : kv.isAg = true
              · cases kv <;> first | (cases hag; done) | exact Rep.det (.ag _) _ _ (show V.flat (.ag _) = true from hflat) g10 h5
              · have : kv.flat = true := by
                  cases kv <;> first | rfl | (cases hflat; done) | exact absurd rfl hag
                exact Rep.det _ _ _ this g10 h5
            have g12 := same_key (S := S) (w := w) hflat h5
            have g13 : ents[j]? = some en := by simpa using g7
            refine fin (ents.modify j fun e => { e with key := a.eval i, val := a.eval y }) clock (es.set j (kv, v)) ?_ ?_ ((mget_some g6 g8 g9).2 v)
            · simp only [execOp, h4.1]
              simp [Instr.mapUpdate, run_underlying ht, MapKept.run_getObj_map g1, g5, g3, g13, g11, Instr.keyThatStays, g12, MapKept.run_setObj_map _ g1]
            · rw [Array.toList_modify, ChangeMaps.modify_eq_set _ _ _ _ g7]
              exact MapR.set h5 h6 j g2
      · exact h.elim
    · exact h.elim
  · exact h.elim
theorem good_ins {t kt e k : Nat} {ts : List Nat} {x i y : Operand} {x' i' y' : X} (ht : P.underlying t = some (.map kt e)) (hk : kindOf P kt = some k) (hts : eqTs P 8 kt = some ts)
    (h1 : cX P t x = some x') (h2 : cX P kt i = some i') (h3 : cX P e y = some y') (h : aop P m s K (.mup k ts x' i' y')) : Good P ⟨dst, .insert t x i y, ty, pos, after, guard⟩ s K := by
  simp only [aop] at h
  split at h
  · rename_i kv hkv
    split at h
    · rename_i c hx
      split at h
      · rename_i ts' es hc
        obtain ⟨v, hv, hkey, hK⟩ := h
        refine ⟨_, _, _, _, hK, Snd.wr hc rfl rfl (fun D μ S w w' u hD hu => ?_) (fun _ _ _ D μ S w a R hD hO => ?_)⟩
        · unfold AR at hu
          rw [hD] at hu
          exact hu.2.elim
        · have h4 := cX_ar h1 hO (by simp [Op.operands])
          rw [hx] at h4
          have h5 := cX_ar h2 hO (by simp [Op.operands])
          rw [hkv] at h5
          have h6 := toV_ar hv (cX_ar h3 hO (by simp [Op.operands]))
          have h7 := R.ck c
          unfold CR at h7
          rw [hD] at h7
          obtain ⟨ents, clock, g1, g2⟩ := h7
          obtain ⟨r, g3, g4⟩ := find_spec hk hts h5 hkey g2
          have g5 := check_key (P := P) (em := false) hk hts h5 hkey
          have hflat : flats kv.cs = true := by
            obtain ⟨q, hq⟩ := Option.isSome_iff_exists.1 hkey.2.1
            exact eqT_flat hq
          have fin : ∀ (ents' : Array MapEntry) (clock' : Nat) (es' : List (V × V)), (execOp a.eval (⟨dst, .insert t x i y, ty, pos, after, guard⟩ : Oper)).run P w = .ok .skip { w with heap := w.heap.setIfInBounds (μ c).1 (.map ents' clock') } → MapR S w es' ents'.toList → mput kv v es = es' →
              ∃ w', (execOp a.eval (⟨dst, .insert t x i y, ty, pos, after, guard⟩ : Oper)).run P w = .ok .skip w' ∧ Only (μ c).1 w w' ∧ (Tr D μ S w (fset D c (some (.map [] (mput kv v es)))) μ S w' → CR (fset D c (some (.map [] (mput kv v es)))) μ S w' c) := by
            rintro ents' clock' es' hr hm rfl
            refine ⟨_, hr, ⟨rfl, rfl, rfl, by simp, fun k hk => (MapKept.heap_set g1).2 k hk⟩, fun T => ?_⟩
            unfold CR
            rw [fset_same]
            exact ⟨ents', clock', (MapKept.heap_set g1).1, MapR.mono T.sub T.heap _ _ hm⟩
          rcases g4 with ⟨rfl, g6⟩ | ⟨j, p, en, rfl, g6, g7, g8, g9⟩
          · refine fin (ents.push ⟨a.eval i, a.eval y, clock⟩) (clock + 1) (es ++ [(kv, v)]) ?_ (by rw [Array.toList_push]; exact MapR.snoc h5 h6 g2) ((mget_none g6).2 v)
            simp only [execOp, h4.1]
            simp [Instr.mapUpdate, run_underlying ht, MapKept.run_getObj_map g1, g5, g3, MapKept.run_setObj_map _ g1]
          · obtain ⟨g10, _⟩ := g2.get g6 g7
            have g11 : en.key = a.eval i := by
              rw [g8] at g10
              by_cases hag : kv.isAg = true
              · cases kv <;> first | (cases hag; done) | exact Rep.det (.ag _) _ _ (show V.flat (.ag _) = true from hflat) g10 h5
              · have : kv.flat = true := by
                  cases kv <;> first | rfl | (cases hflat; done) | exact absurd rfl hag
                exact Rep.det _ _ _ this g10 h5
            have g12 := same_key (S := S) (w := w) hflat h5
            have g13 : ents[j]? = some en := by simpa using g7
            refine fin (ents.modify j fun e => { e with key := a.eval i, val := a.eval y }) clock (es.set j (kv, v)) ?_ ?_ ((mget_some g6 g8 g9).2 v)
            · simp only [execOp, h4.1]
              simp [Instr.mapUpdate, run_underlying ht, MapKept.run_getObj_map g1, g5, g3, g13, g11, Instr.keyThatStays, g12, MapKept.run_setObj_map _ g1]
            · rw [Array.toList_modify, ChangeMaps.modify_eq_set _ _ _ _ g7]
              exact MapR.set h5 h6 j g2
      · exact h.elim
    · exact h.elim
  · exact h.elim
theorem good_mln {t kt e : Nat} {x : Operand} {x' : X} (ht : P.underlying t = some (.map kt e)) (h1 : cX P t x = some x') (h : aop P m s K (.mln x')) : Good P ⟨dst, .call ⟨.builtin .len, #[x], #[t]⟩, ty, pos, after, guard⟩ s K := by
  simp only [aop] at h
  split at h
  · rename_i c hx
    split at h
    · rename_i ts es hc
      refine ⟨_, _, _, _, h, Snd.pure fun _ _ _ D μ S w a R hD hO => ?_⟩
      have h3 := cX_ar h1 hO (by simp [Op.operands, Call.operands])
      rw [hx] at h3
      have h5 := R.ck c
      unfold CR at h5
      rw [(hD c (by simp)).trans hc] at h5
      obtain ⟨ents, clock, g1, g2⟩ := h5
      have g3 := g2.length
      refine ⟨.int .i64 ents.size, ?_, by rw [← g3]; simp; rfl⟩
      simp [execOp, resolve, invoke, builtin, h3.1, Builtin.len_, run_underlying ht, MapKept.run_getObj_map g1, goInt]
    · exact h.elim
  · exact h.elim
end
end Go.Proofs.YtgkhakhkebjbpaaEv
namespace Go.Proofs.YtgkhakhkebjbpaaEv
open Go

section
variable {P : Program} {D : Nat → Option Ck} {μ : Nat → Nat × Nat} {S S' : Nat → Prop} {w w' : World} {s : St} {a : Act} {K : KT} {m : Nat → Bool}
variable {w0 : World} {O0 S0 : Nat → Prop}

theorem aop_sound0 {o : Oper} {x : O} (hc : cO0 P o = some x) (h : aop P m s K x) : Good P o s K := by
  obtain ⟨dst, op, ty, pos, after, guard⟩ := o
  cases op <;> simp only [cO0, reduceCtorEq] at hc
  case move x =>
    simp only [Option.map_eq_some_iff] at hc
    obtain ⟨y, h1, rfl⟩ := hc
    exact good_mv h1 h
  case assign x =>
    simp only [Option.map_eq_some_iff] at hc
    obtain ⟨y, h1, rfl⟩ := hc
    exact good_as h1 h
  case pick c x y =>
    split at hc
    · rename_i c' x' y' h1 h2 h3; cases hc; exact good_pick h1 h2 h3 h
    · cases hc
  case alloc t =>
    split at hc
    · simp only [Option.map_eq_some_iff] at hc
      obtain ⟨zs, h1, rfl⟩ := hc
      exact good_al h1 h
    · cases hc
  case box t x =>
    split at hc
    · simp only [Option.map_eq_some_iff] at hc
      obtain ⟨y, h1, rfl⟩ := hc
      exact good_box h1 h
    · cases hc
  case build t ps =>
    split at hc
    · rename_i fs zs qs h1 h2 h3
      split at hc
      · rename_i h4
        cases hc
        have : fieldsOf' P t = fs := by simp [fieldsOf', h1]
        rw [this] at h3
        exact good_bld h1 h4 h2 h3 h
      · cases hc
    · cases hc
  case buildSlice t n ps =>
    split at hc
    · rename_i e t' h1
      split at hc
      · rename_i h2
        simp only [Option.map_eq_some_iff] at hc
        obtain ⟨qs, h3, rfl⟩ := hc
        exact good_bsl h1 h2.1 h2.2.1 h2.2.2 h3 h
      · cases hc
    · cases hc
  case load t x =>
    split at hc
    · rename_i y k h1 h2; cases hc; exact good_ld h1 h2 h
    · cases hc
  case store t x y =>
    split at hc
    · rename_i x' y' k h1 h2 h3; cases hc; exact good_st h1 h2 h3 h
    · cases hc
  case nilCheck x =>
    simp only [Option.map_eq_some_iff] at hc
    obtain ⟨y, h1, rfl⟩ := hc
    exact good_nck h1 h
  case binOp op t x y u =>
    split at hc
    · rename_i x' y' h1 h2
      split at hc
      · cases hc; exact good_bin h1 h2 h
      · cases hc; exact good_bin h1 h2 h
      · rename_i e h3
        split at hc
        · rename_i ho
          split at hc
          · rename_i n c; cases hc; exact good_eqn ho h3 h1 h
          · cases hc
        · cases hc
      · rename_i h3 h4 h5
        split at hc
        · rename_i ho
          split at hc
          · rename_i k ts h6 h7
            cases hc
            exact good_eq ho.1 ho.2 h6 h7 h3 h4 h1 h2 h
          · cases hc
        · cases hc
    · cases hc
  case unOp op t x =>
    simp only [Option.map_eq_some_iff] at hc
    obtain ⟨y, h1, rfl⟩ := hc
    exact good_un h1 h
  case convert s d x =>
    split at hc
    · rename_i k' k y h1 h2 h3; cases hc; exact good_conv h1 h2 h3 h
    · rename_i e y h1 h2 h3
      split at hc
      · rename_i he; cases hc; exact good_b2s h1 he h2 h3 h
      · cases hc
    · cases hc
  case makeFunc fn first caps =>
    cases fn <;> simp only [reduceCtorEq] at hc
    split at hc
    · simp only [Option.map_eq_some_iff] at hc
      obtain ⟨xs, h1, rfl⟩ := hc
      exact good_mkf h1 (by assumption) h
    · cases hc
  case makeSlice t n c =>
    split at hc
    · rename_i e t' h1
      split at hc
      · rename_i i z n' c' h2 h3 h4 h5; cases hc; exact good_mk h1 h2 h3 h4 h5 h
      · cases hc
    · cases hc
  case slice t x lo hi mx =>
    split at hc
    · cases hc
    · rename_i hm
      have hm' : mx = none := by cases mx <;> simp_all
      subst hm'
      split at hc
      · rename_i x' lo' hi' h1 h2 h3
        split at hc
        · rename_i h4; cases hc; exact good_ssub h4 h1 h2 h3 h
        · rename_i t' h4
          simp only [Option.map_eq_some_iff] at hc
          obtain ⟨e, h5, rfl⟩ := hc
          exact good_sub h4 h5 h1 h2 h3 h
        · cases hc
      · cases hc
  case fieldAddr t x f =>
    split at hc
    · rename_i x' g h1 h2
      simp only [Option.map_eq_some_iff] at hc
      obtain ⟨k, h3, rfl⟩ := hc
      exact good_fa h1 h2 h3 h
    · cases hc
  case field t x f =>
    split at hc
    · rename_i x' g h1 h2
      simp only [Option.map_eq_some_iff] at hc
      obtain ⟨k, h3, rfl⟩ := hc
      exact good_fld h1 h2 h3 h
    · cases hc
  case indexAddr t x i =>
    split at hc
    · rename_i x' i' e t' h1 h2 h3; cases hc; exact good_ia h1 h2 h3 h
    · cases hc
  case index t x i =>
    split at hc
    · rename_i x' i' h1 h2 h3; cases hc; exact good_si h1 h2 h3 h
    · cases hc
  case makeMap t r =>
    split at hc
    · rename_i kt e h1; cases hc; exact good_mkm h
    · cases hc
  case lookup t x i ok =>
    split at hc
    · rename_i kt e x' h1 h2
      split at hc
      · rename_i k ts i' z h3 h4 h5 h6
        cases hc
        obtain ⟨k', h7, h8⟩ := Option.bind_eq_some_iff.1 h6
        exact good_mlk h1 h3 h4 h7 h8 h2 h5 h
      · cases hc
    · cases hc
  case mapUpdate t x i y =>
    split at hc
    · rename_i kt e x' h1 h2
      split at hc
      · rename_i k ts i' y' h3 h4 h5 h6
        cases hc
        exact good_mup h1 h3 h4 h2 h5 h6 h
      · cases hc
    · cases hc
  case insert t x i y =>
    split at hc
    · rename_i kt e x' h1 h2
      split at hc
      · rename_i k ts i' y' h3 h4 h5 h6
        cases hc
        exact good_ins h1 h3 h4 h2 h5 h6 h
      · cases hc
    · cases hc
  case extract x i =>
    simp only [Option.map_eq_some_iff] at hc
    obtain ⟨y, h1, rfl⟩ := hc
    exact good_ext h1 h
  case call c =>
    obtain ⟨callee, args, ats⟩ := c
    have arr : ∀ {α : Type} {xs : Array α} {l : List α}, xs.toList = l → xs = l.toArray := fun {α xs l} h => by rw [← h]
    cases callee with
    | value v =>
      cases v <;> simp only [reduceCtorEq] at hc
      · simp only [Option.map_eq_some_iff] at hc
        obtain ⟨xs, h1, rfl⟩ := hc
        exact good_callv h1 h
      · split at hc
        · simp only [Option.map_eq_some_iff] at hc
          obtain ⟨xs, h1, rfl⟩ := hc
          exact good_call h1 h
        · cases hc
    | invoke r m => simp at hc
    | builtin b =>
      cases b <;> simp only [reduceCtorEq] at hc
      case append =>
        split at hc
        · rename_i x y t u ha ht
          obtain rfl := arr ha
          obtain rfl := arr ht
          split at hc
          · rename_i htu
            subst htu
            split at hc
            · rename_i e t' x' y' h1 h2 h3
              split at hc
              · rename_i i h4
                split at hc
                · rename_i z h5
                  split at hc
                  · rename_i h6
                    cases hc
                    exact good_app h1 h4 (by simp [h5]) (fun z' hz' => by rw [h5] at hz'; cases hz'; exact h6) h2 h3 h
                  · cases hc
                · cases hc
              · cases hc
            · cases hc
          · split at hc
            · rename_i t' x' y' hu h1 h2 h3
              split at hc
              · rename_i i h4
                split at hc
                · rename_i z h5
                  split at hc
                  · rename_i h6
                    cases hc
                    exact good_aps h1 hu h4 (by simp [h5]) (fun z' hz' => by rw [h5] at hz'; cases hz'; exact h6) h2 h3 h
                  · cases hc
                · cases hc
              · cases hc
            · cases hc
        · cases hc
      case clear =>
        split at hc
        · rename_i x t ha ht
          obtain rfl := arr ha
          obtain rfl := arr ht
          split at hc
          · rename_i e t' x' h1 h2
            simp only [Option.map_eq_some_iff] at hc
            obtain ⟨z, h3, rfl⟩ := hc
            exact good_clr h1 h3 h2 h
          · cases hc
        · cases hc
      case len =>
        split at hc
        · rename_i x t ha ht
          obtain rfl := arr ha
          obtain rfl := arr ht
          split at hc
          · rename_i h1
            simp only [Option.map_eq_some_iff] at hc
            obtain ⟨y, h2, rfl⟩ := hc
            exact good_slen h1 h2 h
          · rename_i e h1
            simp only [Option.map_eq_some_iff] at hc
            obtain ⟨y, h2, rfl⟩ := hc
            exact good_len h1 h2 h
          · rename_i kt e h1
            simp only [Option.map_eq_some_iff] at hc
            obtain ⟨y, h2, rfl⟩ := hc
            exact good_mln h1 h2 h
          · cases hc
        · cases hc
      case max =>
        split at hc
        · rename_i x y ha
          obtain rfl := arr ha
          split at hc
          · rename_i x' y' h1 h2; cases hc; exact good_mm (.inl ⟨rfl, rfl⟩) h1 h2 h
          · cases hc
        · cases hc
      case min =>
        split at hc
        · rename_i x y ha
          obtain rfl := arr ha
          split at hc
          · rename_i x' y' h1 h2; cases hc; exact good_mm (.inr ⟨rfl, rfl⟩) h1 h2 h
          · cases hc
        · cases hc
theorem aop_sound {o : Oper} {x : O} (hc : cO P o = some x) (h : aop P m s K x) : Good P o s K := by
  unfold cO at hc
  cases h0 : cO0 P o with
  | none => rw [h0] at hc; cases hc; exact h.elim
  | some y => rw [h0] at hc; cases hc; exact aop_sound0 h0 h
end
end Go.Proofs.YtgkhakhkebjbpaaEv
namespace Go.Proofs.YtgkhakhkebjbpaaEv
open Go

section
variable {P : Program} {m : Nat → Bool} {s : St} {a : Act} {w : World} {w0 : World} {O0 S0 : Nat → Prop} {D0 : Nat → Option Ck} {μ0 : Nat → Nat × Nat}

def St.D (s : St) : Nat → Option Ck := fun i => s.h[i]?
/-- The frame and the world are as the evaluator says. -/
def Ok (w0 : World) (O0 S0 : Nat → Prop) (D0 : Nat → Option Ck) (μ0 : Nat → Nat × Nat) (s : St) (a : Act) (w : World) : Prop :=
  ∃ μ S, Rl w0 O0 S0 s.D μ S w ∧ Tr D0 μ0 S0 w0 s.D μ S w ∧ a.tmps.size = s.t.length ∧ (∀ i, AR s.D μ S w (s.t.getD i .un) (a.tmps.getD i undef)) ∧ a.defers = []

theorem getD_set {α : Type} (l : List α) (d i : Nat) (x y : α) : (l.set d x).getD i y = if d = i ∧ d < l.length then x else l.getD i y := by
  simp only [List.getD_eq_getElem?_getD, List.getElem?_set]
  by_cases h : d = i
  · subst h
    by_cases h2 : d < l.length
    · simp [h2]
    · simp [h2]
  · simp [h]
theorem put_getD (a : Act) (d : Option Tmp) (u : Value) (i : Nat) : (a.put d u).tmps.getD i undef = match d with
    | some d => if d = i ∧ d < a.tmps.size then u else a.tmps.getD i undef
    | none => a.tmps.getD i undef := by
  cases d with
  | none => rfl
  | some d =>
    simp only [Act.put, Array.getD_eq_getD_getElem?, Array.getElem?_setIfInBounds]
    by_cases h : d = i
    · subst h
      by_cases h2 : d < a.tmps.size
      · simp [h2]
      · simp [h2]
    · simp [h]
theorem put_size (a : Act) (d : Option Tmp) (u : Value) : (a.put d u).tmps.size = a.tmps.size := by cases d <;> simp [Act.put]
theorem put_defers (a : Act) (d : Option Tmp) (u : Value) : (a.put d u).defers = a.defers := by cases d <;> rfl
theorem St.set_h (s : St) (d : Option Nat) (b : A) : (s.set d b).h = s.h := by cases d <;> rfl
theorem St.set_len (s : St) (d : Option Nat) (b : A) : (s.set d b).t.length = s.t.length := by cases d <;> simp [St.set]
theorem St.set_getD (s : St) (d : Option Nat) (b : A) (i : Nat) : (s.set d b).t.getD i .un = match d with
    | some d => if d = i ∧ d < s.t.length then b else s.t.getD i .un
    | none => s.t.getD i .un := by
  cases d with
  | none => rfl
  | some d => exact getD_set _ _ _ _ _

/-- A slot is told anew: what is said of it holds. -/
theorem Ok.tell (h : Ok w0 O0 S0 D0 μ0 s a w) (g : Nat) (b : A) (hb : ∀ μ S, AR s.D μ S w (s.t.getD g .un) (a.tmps.getD g undef) → AR s.D μ S w b (a.tmps.getD g undef)) : Ok w0 O0 S0 D0 μ0 ⟨s.t.set g b, s.h⟩ a w := by
  obtain ⟨μ, S, R, T0, h1, h2, h3⟩ := h
  refine ⟨μ, S, R, T0, by simpa using h1, fun i => ?_, h3⟩
  show AR s.D μ S w ((s.t.set g b).getD i .un) _
  rw [getD_set]
  split
  · rename_i hh
    obtain ⟨rfl, _⟩ := hh
    exact hb μ S (h2 g)
  · exact h2 i
theorem Ok.put (h : Ok w0 O0 S0 D0 μ0 s a w) {d : Option Nat} : Ok w0 O0 S0 D0 μ0 (s.set d .ud) (a.put d undef) w := by
  obtain ⟨μ, S, R, T0, h1, h2, h3⟩ := h
  have hD : (s.set d .ud).D = s.D := by unfold St.D; rw [St.set_h]
  refine ⟨μ, S, by rw [hD]; exact R, by rw [hD]; exact T0, by rw [put_size, St.set_len]; exact h1, fun i => ?_, by rw [put_defers]; exact h3⟩
  rw [hD, put_getD, St.set_getD]
  cases d with
  | none => exact h2 i
  | some d =>
    by_cases hd : d = i ∧ d < s.t.length
    · simp only [if_pos hd, if_pos (show d = i ∧ d < a.tmps.size by rw [h1]; exact hd)]
      rfl
    · simp only [if_neg hd, if_neg (show ¬ (d = i ∧ d < a.tmps.size) by rw [h1]; exact hd)]
      exact h2 i
theorem Ok.step {o : Oper} {r : A} {rd wr : List Nat} {h' : List Ck} (h : Ok w0 O0 S0 D0 μ0 s a w) (hs : Snd P o s r rd wr h') {next : Act → World → Prop} {Q : Exit → Act → World → Prop} (hn : ∀ a' w', Ok w0 O0 S0 D0 μ0 (St.set ⟨s.t, h'⟩ o.dst r) a' w' → next a' w') : o.wp P a w next Q := by
  obtain ⟨μ, S, R, T0, h1, h2, h3⟩ := h
  obtain ⟨g1, g2, g3⟩ := hs
  refine g3 w0 O0 S0 s.D μ S w a R (fun _ _ => rfl) (fun x _ i _ => h2 i) next Q (fun w' u D' μ' S' R' hD' T hu => hn _ _ ?_)
  have hD : D' = St.D ⟨s.t, h'⟩ := by
    funext i
    rw [hD' i]
    unfold St.D
    split
    · rfl
    · rename_i hi; exact (g2 i hi).symm
  subst hD
  have hDD : (St.set ⟨s.t, h'⟩ o.dst r).D = St.D ⟨s.t, h'⟩ := by unfold St.D; rw [St.set_h]
  refine ⟨μ', S', by rw [hDD]; exact R', by rw [hDD]; exact T0.trans T, by rw [put_size, St.set_len]; exact h1, fun i => ?_, by rw [put_defers]; exact h3⟩
  rw [hDD, put_getD, St.set_getD]
  cases o.dst with
  | none => exact AR.tr T _ _ (h2 i)
  | some d =>
    by_cases hd : d = i ∧ d < s.t.length
    · simp only [if_pos hd, if_pos (show d = i ∧ d < a.tmps.size by rw [h1]; exact hd)]
      exact hu
    · simp only [if_neg hd, if_neg (show ¬ (d = i ∧ d < a.tmps.size) by rw [h1]; exact hd)]
      exact AR.tr T _ _ (h2 i)

theorem cAO_spec {ops : Array Oper} {o : Oper} {x : AO} (h : cAO P ops o = some x) : cO P o = some x.o ∧ x.d = o.dst ∧ ((o.guard = none ∧ x.g = none) ∨ ∃ j b d, o.guard = some (j, b) ∧ (ops[j]?).bind (·.dst) = some d ∧ x.g = some (d, b)) := by
  unfold cAO at h
  split at h
  · rename_i y h1
    split at h
    · rename_i h2; cases h; exact ⟨h1, rfl, .inl ⟨h2, rfl⟩⟩
    · rename_i j b h2
      split at h
      · rename_i d h3; cases h; exact ⟨h1, rfl, .inr ⟨j, b, d, h2, h3, rfl⟩⟩
      · cases h
  · cases h
theorem yielded_of {ops : Array Oper} {j d : Nat} (h : (ops[j]?).bind (·.dst) = some d) (a : Act) : yielded ops a.tmps j = match a.tmps.getD d undef with
    | .bool b => some b
    | _ => none := by
  unfold yielded
  rw [h]
  simp only [Option.bind_some, Array.getD_eq_getD_getElem?]
  cases a.tmps[d]? with
  | none => rfl
  | some v => cases v <;> rfl

theorem aops_seq {ops : Array Oper} {Q : Exit → Act → World → Prop} : ∀ (l : List Oper) (os : List AO) (i : Nat) (s : St) (f : FP) (a : Act) (w : World) (K : St → FP → Prop), cAOs P ops l = some os → (∀ j : Nat, ops[i + j]? = l[j]?) → aops P m os s f K → Ok w0 O0 S0 D0 μ0 s a w →
    (∀ s' f' a' w', K s' f' → Ok w0 O0 S0 D0 μ0 s' a' w' → Q .normal a' w') → wpOps P ops Q (List.range' i l.length) a w
  | [], os, i, s, f, a, w, K, hc, _, h, hok, hK => by
    simp only [cAOs, Option.some.injEq] at hc
    subst hc
    exact hK s f a w h hok
  | o :: l, os, i, s, f, a, w, K, hc, hl, h, hok, hK => by
    simp only [cAOs] at hc
    split at hc
    · rename_i x xs h1 h2
      cases hc
      obtain ⟨hx, hd, hg⟩ := cAO_spec h1
      have ho : ops[i]? = some o := by have := hl 0; simpa using this
      have rest : ∀ s' f' a' w', aops P m xs s' f' K → Ok w0 O0 S0 D0 μ0 s' a' w' → wpOps P ops Q (List.range' (i + 1) l.length) a' w' := fun s' f' a' w' h3 h4 =>
        aops_seq l xs (i + 1) s' f' a' w' K h2 (fun j => by have := hl (j + 1); rw [show i + 1 + j = i + (j + 1) by omega]; simpa using this) h3 h4 hK
      simp only [List.length_cons, List.range'_succ, wpOps, ho]
      simp only [aops, aAO] at h
      rcases hg with ⟨hg1, hg2⟩ | ⟨j, b, d, hg1, hg3, hg2⟩
      · rw [hg2] at h
        have hw : Region.wanted o (yielded ops a.tmps) = true := by simp [Region.wanted, hg1]
        rw [if_pos hw]
        obtain ⟨r, rd, wr, h', hk, hs⟩ := aop_sound hx h
        exact .inl (hok.step hs fun a' w' h4 => rest _ _ a' w' hk (by rw [hd]; exact h4))
      · rw [hg2] at h
        simp only at h
        have hy := yielded_of hg3 a
        have hwant : Region.wanted o (yielded ops a.tmps) = (yielded ops a.tmps j == some b) := by simp [Region.wanted, hg1]
        split at h
        · rename_i t ht
          have hval : a.tmps.getD d undef = .bool t := by
            obtain ⟨μ, S, _, _, _, h5, _⟩ := hok
            have := h5 d
            rw [show s.t.getD d .un = .v (.bool t) from ht] at this
            exact this
          rw [hval] at hy
          have htell : Ok w0 O0 S0 D0 μ0 ⟨s.t.set d (.v (.bool t)), s.h⟩ a w := hok.tell d _ (fun _ _ _ => by rw [hval]; rfl)
          by_cases htb : t = b
          · subst htb
            rw [if_pos (by rw [hwant, hy]; simp)]
            obtain ⟨r, rd, wr, h', hk, hs⟩ := aop_sound hx (h.1 rfl)
            exact .inl (htell.step hs fun a' w' h4 => rest _ _ a' w' hk (by rw [hd]; exact h4))
          · rw [if_neg (by rw [hwant, hy]; simp [htb])]
            have htb' : t = !b := by cases t <;> cases b <;> simp_all
            refine rest _ _ _ _ (h.2 htb') ?_
            rw [hd, ← htb']
            exact htell.put
        · rename_i ht
          have hval : a.tmps.getD d undef = undef := by
            obtain ⟨μ, S, _, _, _, h5, _⟩ := hok
            have := h5 d
            rw [show s.t.getD d .un = .ud from ht] at this
            exact this
          rw [hval] at hy
          rw [if_neg (by rw [hwant, hy]; simp [undef])]
          refine rest _ _ _ _ h ?_
          rw [hd]
          exact hok.put
        · exact h.elim
    · cases hc
end
end Go.Proofs.YtgkhakhkebjbpaaEv
namespace Go.Proofs.YtgkhakhkebjbpaaEv
open Go

section
variable {P : Program} {m : Nat → Bool} {s : St} {a : Act} {w : World} {w0 : World} {O0 S0 : Nat → Prop} {D0 : Nat → Option Ck} {μ0 : Nat → Nat × Nat}

def Ex.go : Ex → Exit
  | .nrm => .normal
  | .exit id => .exit id
  | .ret => .ret
def Post (w0 : World) (O0 S0 : Nat → Prop) (D0 : Nat → Option Ck) (μ0 : Nat → Nat × Nat) (Q : Ex → St → Prop) : Exit → Act → World → Prop := fun e a w => ∃ x s, x.go = e ∧ Q x s ∧ Ok w0 O0 S0 D0 μ0 s a w

theorem Ok.drew (h : Ok w0 O0 S0 D0 μ0 s a w) : Ok w0 O0 S0 D0 μ0 s a w.drew := by
  obtain ⟨μ, S, R, T0, h1, h2, h3⟩ := h
  exact ⟨μ, S, R.drew, T0.trans (Tr.heapEq (w := w) (w' := w.drew) rfl), h1, fun i => AR.tr (Tr.heapEq (w := w) (w' := w.drew) rfl) _ _ (h2 i), h3⟩

/-- One operation, carried out in state s. -/
def Stp (P : Program) (ops : Array Oper) (o : Oper) (s s' : St) (rd wr : List Nat) : Prop :=
  ∃ r h', s' = St.set ⟨s.t, h'⟩ o.dst r ∧
    ((Snd P o s r rd wr h' ∧ (o.guard = none ∨ ∃ j b d, o.guard = some (j, b) ∧ (ops[j]?).bind (·.dst) = some d ∧ s.t.getD d .un = .v (.bool b))) ∨
     (r = .ud ∧ rd = [] ∧ wr = [] ∧ h' = s.h ∧ ∃ j b d, o.guard = some (j, b) ∧ (ops[j]?).bind (·.dst) = some d ∧ (s.t.getD d .un = .v (.bool !b) ∨ s.t.getD d .un = .ud)))
theorem set_self {l : List A} {d : Nat} {x : A} (h : l.getD d .un = x) (hx : x ≠ .un) : l.set d x = l := by
  apply List.ext_getElem?
  intro i
  rw [List.getElem?_set]
  split
  · rename_i hd
    subst hd
    split
    · rename_i hl
      rw [List.getD_eq_getElem?_getD, List.getElem?_eq_getElem hl] at h
      simp only [Option.getD_some] at h
      rw [List.getElem?_eq_getElem hl, h]
    · rename_i hl
      rw [List.getElem?_eq_none (by omega)]
  · rfl
theorem aops_chain {ops : Array Oper} : ∀ (l : List Oper) (os : List AO) (s : St) (f : FP) (K : St → FP → Prop), cAOs P ops l = some os → aops P m os s f K →
    ∃ (ss : Nat → St) (fp : Nat → List Nat × List Nat), ss 0 = s ∧ (∀ i o, l[i]? = some o → Stp P ops o (ss i) (ss (i + 1)) (fp i).1 (fp i).2) ∧ K (ss l.length) (f ++ (List.range l.length).map fp)
  | [], os, s, f, K, hc, h => by
    simp only [cAOs, Option.some.injEq] at hc
    subst hc
    exact ⟨fun _ => s, fun _ => ([], []), rfl, fun i o h => by simp at h, by show K s (f ++ []); rw [List.append_nil]; exact h⟩
  | o :: l, os, s, f, K, hc, h => by
    simp only [cAOs] at hc
    split at hc
    · rename_i x xs h1 h2
      cases hc
      obtain ⟨hx, hd, hg⟩ := cAO_spec h1
      have cons : ∀ s' rd wr, Stp P ops o s s' rd wr → aops P m xs s' (f ++ [(rd, wr)]) K →
          ∃ (ss : Nat → St) (fp : Nat → List Nat × List Nat), ss 0 = s ∧ (∀ i o', (o :: l)[i]? = some o' → Stp P ops o' (ss i) (ss (i + 1)) (fp i).1 (fp i).2) ∧ K (ss (o :: l).length) (f ++ (List.range (o :: l).length).map fp) := by
        intro s' rd wr hs hr
        obtain ⟨ss, fp, e1, e2, e3⟩ := aops_chain l xs s' _ K h2 hr
        refine ⟨fun i => match i with | 0 => s | i + 1 => ss i, fun i => match i with | 0 => (rd, wr) | i + 1 => fp i, rfl, fun i o' ho => ?_, ?_⟩
        · cases i with
          | zero => simp at ho; subst ho; simpa [e1] using hs
          | succ i => simp at ho; exact e2 i o' ho
        · simp only [List.length_cons, List.range_succ_eq_map, List.map_cons, List.map_map]
          rw [List.append_assoc] at e3
          simpa [Function.comp_def] using e3
      simp only [aops, aAO] at h
      rcases hg with ⟨hg1, hg2⟩ | ⟨j, b, d, hg1, hg3, hg2⟩
      · rw [hg2] at h
        obtain ⟨r, rd, wr, h', hk, hs⟩ := aop_sound hx h
        exact cons _ rd wr ⟨r, h', by rw [hd], .inl ⟨hs, .inl hg1⟩⟩ hk
      · rw [hg2] at h
        simp only at h
        split at h
        · rename_i t ht
          have ht' : s.t.getD d .un = .v (.bool t) := ht
          have hself : s.t.set d (.v (.bool t)) = s.t := set_self ht' (by simp)
          by_cases htb : t = b
          · subst htb
            have h3 := h.1 rfl
            simp only [St.setX] at h3
            rw [hself] at h3
            obtain ⟨r, rd, wr, h', hk, hs⟩ := aop_sound hx h3
            exact cons _ rd wr ⟨r, h', by rw [hd], .inl ⟨hs, .inr ⟨j, t, d, hg1, hg3, ht'⟩⟩⟩ hk
          · have htb' : t = !b := by cases t <;> cases b <;> simp_all
            have h3 := h.2 htb'
            rw [← htb', hself] at h3
            exact cons _ [] [] ⟨.ud, s.h, by rw [hd], .inr ⟨rfl, rfl, rfl, rfl, j, b, d, hg1, hg3, .inl (by rw [ht', htb'])⟩⟩ h3
        · rename_i ht
          exact cons _ [] [] ⟨.ud, s.h, by rw [hd], .inr ⟨rfl, rfl, rfl, rfl, j, b, d, hg1, hg3, .inr ht⟩⟩ h
        · exact h.elim
    · cases hc

/-! ### what a set of operations leaves -/
def tmpX (ops : Array Oper) (ss : Nat → St) (b : Nat → Bool) : Nat → Nat → A
  | 0, t => (ss 0).t.getD t .un
  | k + 1, t => if b k = true ∧ (ops[k]?).bind (·.dst) = some t then (ss (k + 1)).t.getD t .un else tmpX ops ss b k t
def ckX (ss : Nat → St) (fp : Nat → List Nat × List Nat) (b : Nat → Bool) : Nat → Nat → Option Ck
  | 0, i => (ss 0).D i
  | k + 1, i => if b k = true ∧ i ∈ (fp k).2 then (ss (k + 1)).D i else ckX ss fp b k i

theorem Stp.keep_t {ops : Array Oper} {o : Oper} {s s' : St} {rd wr : List Nat} (h : Stp P ops o s s' rd wr) {t : Nat} (ht : o.dst ≠ some t) : s'.t.getD t .un = s.t.getD t .un := by
  obtain ⟨r, h', rfl, _⟩ := h
  rw [St.set_getD]
  split
  · rename_i d hd
    rw [if_neg (fun e => ht (by rw [hd, e.1]))]
  · rfl
theorem Stp.keep_D {ops : Array Oper} {o : Oper} {s s' : St} {rd wr : List Nat} (h : Stp P ops o s s' rd wr) {i : Nat} (hi : i ∉ wr) : s'.D i = s.D i := by
  obtain ⟨r, h', rfl, h⟩ := h
  unfold St.D
  rw [St.set_h]
  rcases h with ⟨hs, _⟩ | ⟨_, _, _, rfl, _⟩
  · exact hs.2.1 i hi
  · rfl
theorem Stp.len {ops : Array Oper} {o : Oper} {s s' : St} {rd wr : List Nat} (h : Stp P ops o s s' rd wr) : s'.t.length = s.t.length := by
  obtain ⟨r, h', rfl, _⟩ := h
  rw [St.set_len]

section chain
variable {ops : Array Oper} {ss : Nat → St} {fp : Nat → List Nat × List Nat} (hst : ∀ i o, ops[i]? = some o → Stp P ops o (ss i) (ss (i + 1)) (fp i).1 (fp i).2)
include hst
/-- If those that fill t before i have come up and no other has, t holds what it holds ahead of i. -/
theorem tmpX_at {b : Nat → Bool} {t i : Nat} (hi : i ≤ ops.size) (hlt : ∀ k, k < i → (ops[k]?).bind (·.dst) = some t → b k = true) : tmpX ops ss b i t = (ss i).t.getD t .un := by
  induction i with
  | zero => rfl
  | succ i ih =>
    have ho : ops[i]? = some ops[i] := Array.getElem?_eq_getElem (by omega)
    simp only [tmpX]
    by_cases h1 : (ops[i]?).bind (·.dst) = some t
    · rw [if_pos ⟨hlt i (by omega) h1, h1⟩]
    · rw [if_neg (fun e => h1 e.2), ih (by omega) (fun k hk => hlt k (by omega))]
      refine ((hst i _ ho).keep_t (fun e => h1 ?_)).symm
      rw [ho]
      exact e
omit hst in
theorem tmpX_le {b : Nat → Bool} {t i n : Nat} (hin : i ≤ n) (hge : ∀ k, i ≤ k → k < n → (ops[k]?).bind (·.dst) = some t → b k = false) : tmpX ops ss b n t = tmpX ops ss b i t := by
  obtain ⟨m, rfl⟩ : ∃ m, n = i + m := ⟨n - i, by omega⟩
  induction m with
  | zero => rfl
  | succ m ih =>
    rw [show i + (m + 1) = (i + m) + 1 by omega]
    simp only [tmpX]
    rw [if_neg (fun e => by rw [hge (i + m) (by omega) (by omega) e.2] at e; exact absurd e.1 (by simp))]
    exact ih (by omega) (fun k h1 h2 => hge k h1 (by omega))
theorem ckX_at {b : Nat → Bool} {q i : Nat} (hi : i ≤ ops.size) (hlt : ∀ k, k < i → q ∈ (fp k).2 → b k = true) : ckX ss fp b i q = (ss i).D q := by
  induction i with
  | zero => rfl
  | succ i ih =>
    have ho : ops[i]? = some ops[i] := Array.getElem?_eq_getElem (by omega)
    simp only [ckX]
    by_cases h1 : q ∈ (fp i).2
    · rw [if_pos ⟨hlt i (by omega) h1, h1⟩]
    · rw [if_neg (fun e => h1 e.2), ih (by omega) (fun k hk => hlt k (by omega))]
      exact ((hst i _ ho).keep_D h1).symm
omit hst in
theorem ckX_le {b : Nat → Bool} {q i n : Nat} (hin : i ≤ n) (hge : ∀ k, i ≤ k → k < n → q ∈ (fp k).2 → b k = false) : ckX ss fp b n q = ckX ss fp b i q := by
  obtain ⟨m, rfl⟩ : ∃ m, n = i + m := ⟨n - i, by omega⟩
  induction m with
  | zero => rfl
  | succ m ih =>
    rw [show i + (m + 1) = (i + m) + 1 by omega]
    simp only [ckX]
    rw [if_neg (fun e => by rw [hge (i + m) (by omega) (by omega) e.2] at e; exact absurd e.1 (by simp))]
    exact ih (by omega) (fun k h1 h2 => hge k h1 (by omega))
theorem len_at {i : Nat} (hi : i ≤ ops.size) : (ss i).t.length = (ss 0).t.length := by
  induction i with
  | zero => rfl
  | succ i ih =>
    have ho : ops[i]? = some ops[i] := Array.getElem?_eq_getElem (by omega)
    rw [(hst i _ ho).len, ih (by omega)]
end chain
theorem tmpX_congr {ops : Array Oper} {ss : Nat → St} {b b' : Nat → Bool} {t n : Nat} (h : ∀ k, k < n → (ops[k]?).bind (·.dst) = some t → b k = b' k) : tmpX ops ss b n t = tmpX ops ss b' n t := by
  induction n with
  | zero => rfl
  | succ n ih =>
    simp only [tmpX]
    rw [ih (fun k hk => h k (by omega))]
    by_cases h1 : (ops[n]?).bind (·.dst) = some t
    · rw [h n (by omega) h1]
    · rw [if_neg (fun e => h1 e.2), if_neg (fun e => h1 e.2)]
theorem ckX_congr {ss : Nat → St} {fp : Nat → List Nat × List Nat} {b b' : Nat → Bool} {q n : Nat} (h : ∀ k, k < n → q ∈ (fp k).2 → b k = b' k) : ckX ss fp b n q = ckX ss fp b' n q := by
  induction n with
  | zero => rfl
  | succ n ih =>
    simp only [ckX]
    rw [ih (fun k hk => h k (by omega))]
    by_cases h1 : q ∈ (fp n).2
    · rw [h n (by omega) h1]
    · rw [if_neg (fun e => h1 e.2), if_neg (fun e => h1 e.2)]

/-- Operation k, in the order of i. -/
structure Ord (ops : Array Oper) (tb : List Nat) (fp : Nat → List Nat × List Nat) : Prop where
  lt : ∀ d o, ops[d]? = some o → ∀ e ∈ o.after, Region.binds .any e = true → e.on < d
  bit : ∀ d o j, ops[d]? = some o → j < d → (tb.getD d 0).testBit j = true → ∃ e ∈ o.after, Region.binds .any e = true ∧ (e.on = j ∨ j < e.on ∧ (tb.getD e.on 0).testBit j = true)
  tmp : ∀ d o k q, ops[d]? = some o → ops[k]? = some q → k < d → (tb.getD d 0).testBit k = true ∨ (∀ t, q.dst = some t → t ∉ looks ops o) ∧ (∀ t, o.dst = some t → t ∉ looks ops q)
  mem : ∀ d k, d < ops.size → k < d → (tb.getD d 0).testBit k = true ∨ (∀ x ∈ (fp k).2, x ∉ (fp d).1 ∧ x ∉ (fp d).2) ∧ (∀ x ∈ (fp d).2, x ∉ (fp k).1)
theorem ord_of {ops : Array Oper} {tb : List Nat} {fp : Nat → List Nat × List Nat} (h1 : regOk ops tb = true) (h2 : fpOk tb ((List.range ops.size).map fp) = true) : Ord ops tb fp := by
  have row : ∀ d o, ops[d]? = some o → _ := fun d o ho => by
    have hd : d < ops.size := (Array.getElem?_eq_some_iff.1 ho).1
    have := List.all_eq_true.1 h1 d (List.mem_range.2 hd)
    rw [ho] at this
    simp only [Bool.and_eq_true] at this
    exact this
  refine ⟨fun d o ho e he hb => ?_, fun d o j ho hj hb => ?_, fun d o k q ho hq hk => ?_, fun d k hd hk => ?_⟩
  · have := List.all_eq_true.1 (row d o ho).1.1 e (Array.mem_toList_iff.2 he)
    simpa [hb] using this
  · have := List.all_eq_true.1 (row d o ho).1.2 j (List.mem_range.2 hj)
    rw [hb] at this
    simp only [Bool.not_true, Bool.false_or, List.any_eq_true, Bool.and_eq_true, Bool.or_eq_true, beq_iff_eq, decide_eq_true_eq] at this
    obtain ⟨e, he, h3, h4⟩ := this
    exact ⟨e, Array.mem_toList_iff.1 he, h3, h4⟩
  · have := List.all_eq_true.1 (row d o ho).2 k (List.mem_range.2 hk)
    rw [hq] at this
    simp only [Bool.or_eq_true, Bool.and_eq_true] at this
    rcases this with h | ⟨h3, h4⟩
    · exact .inl h
    · refine .inr ⟨fun t ht => ?_, fun t ht => ?_⟩
      · rw [ht] at h3; simpa using h3
      · rw [ht] at h4; simpa using h4
  · have := List.all_eq_true.1 (List.all_eq_true.1 h2 d (by simpa using hd)) k (List.mem_range.2 hk)
    have hk' : k < ops.size := by omega
    simp only [List.getElem?_map, List.getElem?_range hk', List.getElem?_range hd, Option.map_some, Bool.or_eq_true, Bool.and_eq_true, List.all_eq_true, Bool.not_eq_true', List.contains_eq_mem, decide_eq_false_iff_not] at this
    rcases this with h | ⟨h3, h4⟩
    · exact .inl h
    · exact .inr ⟨h3, h4⟩

def InX (w0 : World) (O0 S0 : Nat → Prop) (D0 : Nat → Option Ck) (μ0 : Nat → Nat × Nat) (ops : Array Oper) (ss : Nat → St) (fp : Nat → List Nat × List Nat) (b : Nat → Bool) (a : Act) (w : World) : Prop :=
  ∃ μ S, Rl w0 O0 S0 (ckX ss fp b ops.size) μ S w ∧ Tr D0 μ0 S0 w0 (ckX ss fp b ops.size) μ S w ∧ a.tmps.size = (ss 0).t.length ∧ (∀ t, AR (ckX ss fp b ops.size) μ S w (tmpX ops ss b ops.size t) (a.tmps.getD t undef)) ∧ a.defers = []
def upB (b : Nat → Bool) (i : Nat) : Nat → Bool := fun j => if j = i then true else b j
theorem reg_step {ops : Array Oper} {tb : List Nat} {ss : Nat → St} {fp : Nat → List Nat × List Nat} (hst : ∀ i o, ops[i]? = some o → Stp P ops o (ss i) (ss (i + 1)) (fp i).1 (fp i).2) (hO : Ord ops tb fp)
    {Q : Exit → Act → World → Prop} {K : Act → World → Prop} {b : Nat → Bool} {i : Nat} {o : Oper} (ho : ops[i]? = some o) (hb : b i = false) (hpre : ∀ k, k < i → (tb.getD i 0).testBit k = true → b k = true)
    (hsuc : ∀ k, i < k → k < ops.size → (tb.getD k 0).testBit i = true → b k = false) (hI : InX w0 O0 S0 D0 μ0 ops ss fp b a w) (hK : ∀ a' w', InX w0 O0 S0 D0 μ0 ops ss fp (upB b i) a' w' → K a' w') : wpOp P ops Q i K a w := by
  have hin : i < ops.size := (Array.getElem?_eq_some_iff.1 ho).1
  obtain ⟨μ, S, R, T0, hsz, hA, hdf⟩ := hI
  -- who fills what i looks at
  have fills : ∀ t, t ∈ looks ops o → ∀ k, (k < i → (ops[k]?).bind (·.dst) = some t → b k = true) ∧ (i < k → k < ops.size → (ops[k]?).bind (·.dst) = some t → b k = false) := by
    intro t ht k
    refine ⟨fun hk hd => ?_, fun hk hkn hd => ?_⟩
    · obtain ⟨q, hq, hqd⟩ := Option.bind_eq_some_iff.1 hd
      rcases hO.tmp i o k q ho hq hk with h | ⟨h, _⟩
      · exact hpre k hk h
      · exact absurd ht (h t hqd)
    · obtain ⟨q, hq, hqd⟩ := Option.bind_eq_some_iff.1 hd
      rcases hO.tmp k q i o hq ho hk with h | ⟨_, h⟩
      · exact hsuc k hk hkn h
      · exact absurd ht (h t hqd)
  have tmpAt : ∀ t, t ∈ looks ops o → tmpX ops ss b ops.size t = (ss i).t.getD t .un := by
    intro t ht
    rw [tmpX_le (i := i) (by omega) (fun k h1 h2 h3 => ?_), tmpX_at hst (by omega) (fun k hk hd => (fills t ht k).1 hk hd)]
    by_cases hk : k = i
    · rw [hk]; exact hb
    · exact (fills t ht k).2 (by omega) h2 h3
  have owns : ∀ q, (q ∈ (fp i).1 ∨ q ∈ (fp i).2) → ∀ k, (k < i → q ∈ (fp k).2 → b k = true) ∧ (i < k → k < ops.size → q ∈ (fp k).2 → b k = false) := by
    intro q hq k
    refine ⟨fun hk hm => ?_, fun hk hkn hm => ?_⟩
    · rcases hO.mem i k hin hk with h | ⟨h, _⟩
      · exact hpre k hk h
      · rcases hq with hq | hq
        · exact absurd hq (h q hm).1
        · exact absurd hq (h q hm).2
    · rcases hO.mem k i hkn hk with h | ⟨h, h'⟩
      · exact hsuc k hk hkn h
      · rcases hq with hq | hq
        · exact absurd hq (h' q hm)
        · exact absurd hm (h q hq).2
  have ckAt : ∀ q, (q ∈ (fp i).1 ∨ q ∈ (fp i).2) → ckX ss fp b ops.size q = (ss i).h[q]? := by
    intro q hq
    rw [ckX_le (i := i) (by omega) (fun k h1 h2 h3 => ?_), ckX_at hst (by omega) (fun k hk hd => (owns q hq k).1 hk hd)]
    · rfl
    · by_cases hk : k = i
      · rw [hk]; exact hb
      · exact (owns q hq k).2 (by omega) h2 h3
  have up_same : upB b i i = true := by simp [upB]
  have up_ne : ∀ k, k ≠ i → upB b i k = b k := fun k hk => by simp [upB, hk]
  have ckUp : ∀ q, ckX ss fp (upB b i) ops.size q = if q ∈ (fp i).2 then (ss (i + 1)).D q else ckX ss fp b ops.size q := by
    intro q
    split
    · rename_i hq
      rw [ckX_le (i := i + 1) (by omega) (fun k h1 h2 h3 => by rw [up_ne k (by omega)]; exact (owns q (.inr hq) k).2 (by omega) h2 h3)]
      simp only [ckX]
      rw [if_pos ⟨up_same, hq⟩]
    · rename_i hq
      exact ckX_congr (fun k _ hm => up_ne k (fun e => hq (e ▸ hm)))
  have tmpUp : ∀ t, tmpX ops ss (upB b i) ops.size t = if o.dst = some t then (ss (i + 1)).t.getD t .un else tmpX ops ss b ops.size t := by
    intro t
    split
    · rename_i hd
      have ht : t ∈ looks ops o := by simp [looks, hd]
      rw [tmpX_le (i := i + 1) (by omega) (fun k h1 h2 h3 => by rw [up_ne k (by omega)]; exact (fills t ht k).2 (by omega) h2 h3)]
      simp only [tmpX]
      rw [if_pos ⟨up_same, by rw [ho]; exact hd⟩]
    · rename_i hd
      exact tmpX_congr (fun k _ hm => up_ne k (fun e => hd (by rw [e, ho] at hm; exact hm)))
  have hlen := len_at hst (i := i) (by omega)
  obtain ⟨r, h', hss, hcase⟩ := hst i o ho
  -- what is left behind it
  have after : ∀ w' u D' μ' S', Rl w0 O0 S0 D' μ' S' w' → (∀ q, D' q = if q ∈ (fp i).2 then h'[q]? else ckX ss fp b ops.size q) → Tr (ckX ss fp b ops.size) μ S w D' μ' S' w' → AR D' μ' S' w' r u → InX w0 O0 S0 D0 μ0 ops ss fp (upB b i) (a.put o.dst u) w' := by
    intro w' u D' μ' S' R' hD' T hu
    have hDD : D' = ckX ss fp (upB b i) ops.size := by
      funext q
      rw [hD' q, ckUp q]
      split
      · rw [hss]; unfold St.D; rw [St.set_h]
      · rfl
    subst hDD
    refine ⟨μ', S', R', T0.trans T, by rw [put_size]; exact hsz, fun t => ?_, by rw [put_defers]; exact hdf⟩
    rw [tmpUp t]
    split
    · rename_i hd
      rw [hss, hd, put_getD, St.set_getD]
      by_cases hlt : t < (ss i).t.length
      · have hlt2 : t < a.tmps.size := by rw [hsz, ← hlen]; exact hlt
        simp only [hlt, hlt2, and_self, if_true]
        exact hu
      · simp only [hlt, and_false, if_false]
        have : ((ss i).t.getD t .un) = .un := by rw [List.getD_eq_getElem?_getD, List.getElem?_eq_none (by omega)]; rfl
        rw [this]
        trivial
    · rename_i hd
      rw [put_getD]
      have := AR.tr T _ _ (hA t)
      split
      · rename_i d hdd
        rw [if_neg (fun e => hd (by rw [hdd, e.1]))]
        exact this
      · exact this
  have guardVal : ∀ j c d, o.guard = some (j, c) → (ops[j]?).bind (·.dst) = some d → AR (ckX ss fp b ops.size) μ S w ((ss i).t.getD d .un) (a.tmps.getD d undef) := by
    intro j c d hg hd
    rw [← tmpAt d (by simp [looks, hg, hd])]
    exact hA d
  unfold wpOp
  rw [ho]
  simp only
  rcases hcase with ⟨hs, hg⟩ | ⟨rfl, hr, hw, rfl, j, c, d, hg, hd, hv⟩
  · have hwant : Region.wanted o (yielded ops a.tmps) = true := by
      rcases hg with hg | ⟨j, c, d, hg, hd, hv⟩
      · simp [Region.wanted, hg]
      · have h5 := guardVal j c d hg hd
        rw [hv] at h5
        have hy := yielded_of hd a
        rw [h5.boolv] at hy
        simp [Region.wanted, hg, hy]
    rw [if_pos hwant]
    refine .inl (hs.2.2 w0 O0 S0 _ μ S w a R (fun q hq => ckAt q hq) (fun x hx t ht => ?_) K Q (fun w' u D' μ' S' R' hD' T hu => hK _ _ (after w' u D' μ' S' R' hD' T hu)))
    rw [← tmpAt t (by
      subst ht
      simp only [looks, List.mem_append, List.mem_filterMap]
      exact .inl (.inr ⟨.tmp t, Array.mem_toList_iff.2 hx, rfl⟩))]
    exact hA t
  · have hwant : ¬ (Region.wanted o (yielded ops a.tmps) = true) := by
      have h5 := guardVal j c d hg hd
      rcases hv with hv | hv
      · rw [hv] at h5
        have hy := yielded_of hd a
        rw [h5.boolv] at hy
        simp only [Region.wanted, hg, hy]
        cases c <;> simp
      · rw [hv] at h5
        have h6 : a.tmps.getD d undef = undef := h5
        have hy := yielded_of hd a
        rw [h6] at hy
        simp [Region.wanted, hg, hy, undef]
    rw [if_neg hwant]
    refine hK _ _ (after w undef _ μ S R (fun q => ?_) Tr.refl rfl)
    rw [hw]
    simp

theorem filter_less {p : Nat → Bool} {i : Nat} : ∀ {l : List Nat}, l.Nodup → i ∈ l → p i = true → (l.filter fun k => p k && k != i).length + 1 = (l.filter p).length
  | [], _, hi, _ => by cases hi
  | x :: r, hn, hi, hp => by
    rw [List.nodup_cons] at hn
    rcases List.mem_cons.1 hi with rfl | hi
    · have h1 : (r.filter fun k => p k && k != i) = r.filter p := by
        refine List.filter_congr (fun k hk => ?_)
        have : k ≠ i := fun e => hn.1 (by rw [← e]; exact hk)
        simp [this]
      rw [List.filter_cons, List.filter_cons]
      simp [hp, h1]
    · have hxi : x ≠ i := fun e => hn.1 (e ▸ hi)
      have h1 := filter_less hn.2 hi hp
      rw [List.filter_cons, List.filter_cons]
      cases hbx : p x
      · simpa using h1
      · simp [hxi]
        simpa using h1
theorem reg_any {ops : Array Oper} {tb : List Nat} {ss : Nat → St} {fp : Nat → List Nat × List Nat} (hst : ∀ i o, ops[i]? = some o → Stp P ops o (ss i) (ss (i + 1)) (fp i).1 (fp i).2) (hO : Ord ops tb fp)
    {Q : Exit → Act → World → Prop} (hend : ∀ b a w, (∀ k, k < ops.size → b k = true) → InX w0 O0 S0 D0 μ0 ops ss fp b a w → Q .normal a w) :
    ∀ (fuel : Nat) (listed : Array Bool) (a : Act) (w : World), listed.size = ops.size → ((List.range ops.size).filter fun k => !listed.getD k true).length = fuel →
      (∀ d o, ops[d]? = some o → listed.getD d false = true → ∀ e ∈ o.after, Region.binds .any e = true → listed.getD e.on false = true) →
      InX w0 O0 S0 D0 μ0 ops ss fp (fun k => listed.getD k false) a w → wpAny P .any ops Q fuel listed a w := by
  have gd : ∀ (listed : Array Bool) k, listed.size = ops.size → k < ops.size → listed.getD k true = listed.getD k false := by
    intro listed k h1 h2
    simp [Array.getD_eq_getD_getElem?, h1, h2]
  have all_of : ∀ (listed : Array Bool), listed.size = ops.size → Region.ready .any ops listed = [] → ∀ k, k < ops.size → listed.getD k false = true := by
    intro listed hl hr k
    induction k using Nat.strongRecOn with
    | _ k ih =>
      intro hk
      cases hv : listed.getD k false with
      | true => rfl
      | false =>
        exfalso
        have ho : ops[k]? = some ops[k] := Array.getElem?_eq_getElem hk
        have : k ∈ Region.ready .any ops listed := mem_ready.2 ⟨by rw [gd listed k hl hk]; exact hv, ops[k], ho, fun e he hb => ih e.on (hO.lt k _ ho e he hb) (by have := hO.lt k _ ho e he hb; omega)⟩
        rw [hr] at this
        cases this
  intro fuel
  induction fuel with
  | zero =>
    intro listed a w hl hf hc hI
    have hall : ∀ k, k < ops.size → listed.getD k false = true := by
      intro k hk
      have h0 := List.eq_nil_of_length_eq_zero hf
      have := List.filter_eq_nil_iff.1 h0 k (List.mem_range.2 hk)
      rw [gd listed k hl hk] at this
      simpa using this
    refine ⟨?_, hend _ a w hall hI⟩
    cases hr : Region.ready .any ops listed with
    | nil => rfl
    | cons i r =>
      have : i ∈ Region.ready .any ops listed := by rw [hr]; simp
      obtain ⟨h1, o, ho, _⟩ := mem_ready.1 this
      have hi : i < ops.size := (Array.getElem?_eq_some_iff.1 ho).1
      rw [gd listed i hl hi, hall i hi] at h1
      cases h1
  | succ fuel ih =>
    intro listed a w hl hf hc hI
    refine ⟨fun hr => hend _ a w (all_of listed hl hr) hI, fun i hi => ?_⟩
    obtain ⟨h1, o, ho, hall⟩ := mem_ready.1 hi
    have hin : i < ops.size := (Array.getElem?_eq_some_iff.1 ho).1
    have hbi : listed.getD i false = false := by rw [← gd listed i hl hin]; exact h1
    -- all that waits stands in order
    have closed : ∀ d, d < ops.size → listed.getD d false = true → ∀ j, j < d → (tb.getD d 0).testBit j = true → listed.getD j false = true := by
      intro d
      induction d using Nat.strongRecOn with
      | _ d ihd =>
        intro hd hld j hj hbit
        have hod : ops[d]? = some ops[d] := Array.getElem?_eq_getElem hd
        obtain ⟨e, he, hb, h2⟩ := hO.bit d _ j hod hj hbit
        have h3 := hc d _ hod hld e he hb
        have h4 := hO.lt d _ hod e he hb
        rcases h2 with h2 | ⟨h5, h2⟩
        · rw [← h2]; exact h3
        · exact ihd e.on h4 (by omega) h3 j h5 h2
    have hpre : ∀ k, k < i → (tb.getD i 0).testBit k = true → listed.getD k false = true := by
      intro k hk hbit
      obtain ⟨e, he, hb, h2⟩ := hO.bit i o k ho hk hbit
      have h3 := hall e he hb
      have h4 := hO.lt i o ho e he hb
      rcases h2 with h2 | ⟨h5, h2⟩
      · rw [← h2]; exact h3
      · exact closed e.on (by omega) h3 k h5 h2
    refine reg_step hst hO ho hbi hpre (fun k hk hkn hbit => ?_) hI (fun a' w' hI' => ih (listed.setIfInBounds i true) a' w' (by simpa using hl) ?_ ?_ ?_)
    · cases hv : listed.getD k false with
      | false => rfl
      | true => rw [closed k hkn hv i hk hbit] at hbi; cases hbi
    · have hcnt := filter_less (l := List.range ops.size) (p := fun k => !listed.getD k true) (i := i) List.nodup_range (List.mem_range.2 hin) (by simp [h1])
      have : (List.range ops.size).filter (fun k => !(listed.setIfInBounds i true).getD k true) = (List.range ops.size).filter (fun k => (!listed.getD k true) && k != i) := by
        refine List.filter_congr (fun k hk => ?_)
        by_cases hki : k = i
        · subst hki
          simp [hl, hin]
        · rw [getD_set_ne true (Ne.symm hki)]
          simp [hki]
      rw [this]
      omega
    · intro d q hq hd e he hb
      by_cases hdi : i = d
      · subst hdi
        rw [ho] at hq
        cases hq
        exact getD_set_true (hall e he hb)
      · rw [getD_set_ne false hdi] at hd
        exact getD_set_true (hc d q hq hd e he hb)
    · have : (fun k => (listed.setIfInBounds i true).getD k false) = upB (fun k => listed.getD k false) i := by
        funext k
        by_cases hki : k = i
        · subst hki
          simp [upB, hl, hin]
        · rw [getD_set_ne false (Ne.symm hki)]
          simp [upB, hki]
      rw [this]
      exact hI'

theorem reg_sound {k0 id : Nat} {ops : Array Oper} {os : List AO} {Q : Ex → St → Prop} (hm : P.follows .mixedOrders = true) (hreg : regOk ops (Region.before ops).toList = true) (hc : cAOs P ops ops.toList = some os) (h : awp P m k0 (.reg (Region.before ops).toList os) Q s) (hok : Ok w0 O0 S0 D0 μ0 s a w) :
    (Code.region id ops true).wp P (Post w0 O0 S0 D0 μ0 Q) a w := by
  simp only [awp] at h
  obtain ⟨ss, fp, e1, hst, hfp, hQ⟩ := aops_chain ops.toList os s [] _ hc h
  have hst' : ∀ i o, ops[i]? = some o → Stp P ops o (ss i) (ss (i + 1)) (fp i).1 (fp i).2 := fun i o ho => hst i o (by simpa using ho)
  simp only [List.nil_append, Array.length_toList] at hfp hQ
  have hO := ord_of hreg hfp
  refine wp_region_any hm ?_
  have hok' := hok.drew
  have hall : (List.range ops.size).filter (fun k => !(Array.replicate ops.size false).getD k true) = List.range ops.size := List.filter_eq_self.2 (fun k hk => by simp [List.mem_range.1 hk])
  refine reg_any (w0 := w0) (O0 := O0) (S0 := S0) (D0 := D0) (μ0 := μ0) (ss := ss) (fp := fp) hst' hO (fun b a' w' hall hI => ?_) ops.size _ a _ (by simp) (by rw [hall]; simp) (fun d o ho hd => ?_) ?_
  · obtain ⟨μ, S, R, T0, h1, h2, h3⟩ := hI
    have hD : ckX ss fp b ops.size = (ss ops.size).D := by
      funext q
      exact ckX_at hst' (Nat.le_refl _) (fun k hk _ => hall k hk)
    have hT : ∀ t, tmpX ops ss b ops.size t = (ss ops.size).t.getD t .un := fun t => tmpX_at hst' (Nat.le_refl _) (fun k hk _ => hall k hk)
    refine ⟨.nrm, ss ops.size, rfl, hQ, μ, S, by rw [← hD]; exact R, by rw [← hD]; exact T0, by rw [h1, len_at hst' (Nat.le_refl _)], fun t => ?_, h3⟩
    rw [← hD, ← hT t]
    exact h2 t
  · rw [Array.getD_eq_getD_getElem?, Array.getElem?_replicate] at hd
    split at hd <;> cases hd
  · obtain ⟨μ, S, R, T0, h1, h2, h3⟩ := hok'
    have hb : (fun k => (Array.replicate ops.size false).getD k false) = fun _ => false := by
      funext k
      rw [Array.getD_eq_getD_getElem?, Array.getElem?_replicate]
      split <;> rfl
    rw [hb]
    have hD : ckX ss fp (fun _ => false) ops.size = s.D := by
      funext q
      rw [ckX_le (i := 0) (Nat.zero_le _) (fun _ _ _ _ => rfl), ← e1]
      rfl
    have hT : ∀ t, tmpX ops ss (fun _ => false) ops.size t = s.t.getD t .un := fun t => by
      rw [tmpX_le (i := 0) (Nat.zero_le _) (fun _ _ _ _ => rfl), ← e1]
      rfl
    refine ⟨μ, S, by rw [hD]; exact R, by rw [hD]; exact T0, by rw [e1]; exact h1, fun t => ?_, h3⟩
    rw [hD, hT t]
    exact h2 t

end
end Go.Proofs.YtgkhakhkebjbpaaEv
namespace Go.Proofs.YtgkhakhkebjbpaaEv
open Go

section
variable {P : Program} {s : St} {a : Act} {w : World} {w0 : World} {O0 S0 : Nat → Prop} {D0 D D' : Nat → Option Ck} {μ0 μ : Nat → Nat × Nat} {S : Nat → Prop} {L : List Nat}

def vD (D : Nat → Option Ck) (L : List Nat) : Nat → Option Ck := fun j => (L[j]?).map fun i => ((D i).getD .gone).rn L
def vM (μ : Nat → Nat × Nat) (L : List Nat) : Nat → Nat × Nat := fun j => μ (L.getD j 0)
theorem vM_at {i j : Nat} (h : posL i L = some j) : vM μ L j = μ i := by
  simp [vM, List.getD_eq_getElem?_getD, posL_spec h]
theorem vD_at {i j : Nat} {c : Ck} (h : posL i L = some j) (hc : D i = some c) : vD D L j = some (c.rn L) := by
  simp [vD, posL_spec h, hc]
mutual
theorem AR.view : ∀ (b : A) (u : Value), AR D μ S w b u → AR (vD D L) (vM μ L) S w (b.rn L) u
  | .sli i, u, h => by
    simp only [A.rn]
    split
    · rename_i j hj
      unfold AR at h ⊢
      refine ⟨h.1, ?_⟩
      cases hd : D i with
      | none => rw [hd] at h; exact h.2.elim
      | some c =>
        rw [hd] at h
        rw [vD_at hj hd, vM_at hj]
        cases c <;> first | exact h.2 | exact h.2.elim
    · trivial
  | .ptr i o, u, h => by
    simp only [A.rn]
    split
    · rename_i j hj
      obtain ⟨⟨c, hc⟩, h2⟩ := h
      exact ⟨⟨_, vD_at hj hc⟩, by rw [vM_at hj]; exact h2⟩
    · trivial
  | .ep i e k o, u, h => by
    simp only [A.rn]
    split
    · rename_i j hj
      obtain ⟨⟨c, hc⟩, h2⟩ := h
      exact ⟨⟨_, vD_at hj hc⟩, by rw [vM_at hj]; exact h2⟩
    · trivial
  | .vw i e lo n, u, h => by
    simp only [A.rn]
    split
    · rename_i j hj
      obtain ⟨a, h1, ⟨c, hc⟩, h2⟩ := h
      exact ⟨a, by rw [vM_at hj]; exact h1, ⟨_, vD_at hj hc⟩, by rw [vM_at hj]; exact h2⟩
    · trivial
  | .mp i, u, h => by
    simp only [A.rn]
    split
    · rename_i j hj
      obtain ⟨h1, c, hc⟩ := h
      exact ⟨by rw [vM_at hj]; exact h1, _, vD_at hj hc⟩
    · trivial
  | .ag cs, u, h => by
    obtain ⟨us, h1, h2, h3⟩ := h
    exact ⟨us, h1, ARs.view cs us h2, h3⟩
  | .tu cs, u, h => by
    obtain ⟨us, h1, h2⟩ := h
    exact ⟨us, h1, ARs.view cs us h2⟩
  | .fn f cs, u, h => by
    simp only [A.rn]
    split
    · rename_i hs
      obtain ⟨us, h1, h2⟩ := h
      exact ⟨us, h1, ARs.shut (fun _ h => h) hs h2⟩
    · trivial
  | .un, _, h | .ud, _, h | .v _, _, h | .nil _, _, h | .fp _ _, _, h | .fq _, _, h => h
theorem ARs.view : ∀ (bs : List A) (us : List Value), ARs D μ S w bs us → ARs (vD D L) (vM μ L) S w (rns L bs) us
  | [], us, h => h
  | b :: bs, us, ⟨u, us', h1, h2, h3⟩ => ⟨u, us', h1, AR.view b u h2, ARs.view bs us' h3⟩
end
theorem vD_some {j : Nat} {c : Ck} (h : vD D L j = some c) (hl : c.live = true) : ∃ i d, L[j]? = some i ∧ D i = some d ∧ d.live = true ∧ c = d.rn L ∧ vM μ L j = μ i := by
  simp only [vD, Option.map_eq_some_iff] at h
  obtain ⟨i, h1, rfl⟩ := h
  cases hd : D i with
  | none => rw [hd] at hl; cases hl
  | some d =>
    rw [hd] at hl
    refine ⟨i, d, h1, hd, ?_, rfl, by simp [vM, List.getD_eq_getElem?_getD, h1]⟩
    cases d <;> first | exact hl | rfl
theorem Rl.view (R : Rl w0 O0 S0 D μ S w) (hn : L.Nodup) : Rl w0 O0 S0 (vD D L) (vM μ L) S w := by
  refine ⟨R.tb, R.os, R.tape, R.output, R.size, R.keep, R.sub, R.new, R.lt, fun j => ?_, fun j c hc hl => ?_, fun i j c d hc hd hcl hdl he => ?_⟩
  · cases hj : L[j]? with
    | none => unfold CR; simp [vD, hj]
    | some i =>
      have hm : vM μ L j = μ i := by simp [vM, List.getD_eq_getElem?_getD, hj]
      have hp := posL_get hn hj
      have h1 := R.ck i
      cases hd : D i with
      | none => unfold CR; simp [vD, hj, hd, Ck.rn]
      | some c =>
        unfold CR at h1 ⊢
        rw [vD_at hp hd, hm]
        rw [hd] at h1
        cases c <;> first | exact h1 | skip
        obtain ⟨cur, t, g1, g2, g3⟩ := h1
        exact ⟨cur, t, g1, ARs.view _ _ g2, g3⟩
  · obtain ⟨i, d, h1, h2, h3, _, h5⟩ := vD_some (μ := μ) hc hl
    rw [h5]
    exact R.own i d h2 h3
  · obtain ⟨i', c', h1, h2, h3, _, h5⟩ := vD_some (μ := μ) hc hcl
    obtain ⟨j', d', k1, k2, k3, _, k5⟩ := vD_some (μ := μ) hd hdl
    rw [h5, k5] at he
    have := R.inj i' j' c' d' h2 k2 h3 k3 he
    subst this
    have e1 := posL_get hn h1
    have e2 := posL_get hn k1
    rw [e1] at e2
    cases e2; rfl
theorem Tr.view (T : Tr D0 μ0 S0 w0 D μ S w) (hn : L.Nodup) (hk : ∀ i c, D0 i = some c → L[i]? = some i) : Tr D0 μ0 S0 w0 (vD D L) (vM μ L) S w := by
  refine ⟨T.sub, T.heap, fun i u hu => ?_, fun i c hc => ?_⟩
  · cases hd : D0 i with
    | none => unfold AR at hu; rw [hd] at hu; exact hu.2.elim
    | some c =>
      have hp := posL_get hn (hk i c hd)
      have := AR.view (L := L) _ _ (T.sli i u hu)
      simp only [A.rn, hp] at this
      exact this
  · have hp := posL_get hn (hk i c hc)
    obtain ⟨h1, c', h2⟩ := T.ptr i c hc
    exact ⟨by rw [vM_at hp]; exact h1, _, vD_at hp h2⟩

theorem addI_ok {i : Nat} {L : List Nat} (hn : L.Nodup) : (addI i L).Nodup ∧ ∃ M, addI i L = L ++ M := by
  unfold addI
  split
  · exact ⟨hn, [], by simp⟩
  · rename_i h
    refine ⟨?_, _, rfl⟩
    rw [List.nodup_append]
    refine ⟨hn, by simp, fun a ha b hb => ?_⟩
    simp only [List.mem_singleton] at hb
    subst hb
    exact fun e => h (by simpa using e ▸ ha)
theorem ok_trans {L L1 L2 : List Nat} (h1 : ∃ M, L1 = L ++ M) (h2 : ∃ M, L2 = L1 ++ M) : ∃ M, L2 = L ++ M := by
  obtain ⟨M, rfl⟩ := h1
  obtain ⟨M', rfl⟩ := h2
  exact ⟨M ++ M', by simp⟩
mutual
theorem idsA_ok : ∀ (b : A) {L : List Nat}, L.Nodup → (idsA b L).Nodup ∧ ∃ M, idsA b L = L ++ M
  | .sli i, _, hn | .ptr i _, _, hn | .ep i _ _ _, _, hn => addI_ok hn
  | .ag cs, _, hn | .tu cs, _, hn => idsAs_ok cs hn
  | .vw i _ _ _, _, hn | .mp i, _, hn => addI_ok hn
  | .un, _, hn | .ud, _, hn | .v _, _, hn | .nil _, _, hn | .fp _ _, _, hn | .fq _, _, hn | .fn _ _, _, hn => ⟨hn, [], by simp [idsA]⟩
theorem idsAs_ok : ∀ (bs : List A) {L : List Nat}, L.Nodup → (idsAs bs L).Nodup ∧ ∃ M, idsAs bs L = L ++ M
  | [], _, hn => ⟨hn, [], by simp [idsAs]⟩
  | b :: bs, _, hn => by
    obtain ⟨h1, h2⟩ := idsA_ok b hn
    obtain ⟨h3, h4⟩ := idsAs_ok bs h1
    exact ⟨h3, ok_trans h2 h4⟩
end
theorem idsT_ok : ∀ (ks : List Bool) (t : List A) {L : List Nat}, L.Nodup → (idsT ks t L).Nodup ∧ ∃ M, idsT ks t L = L ++ M
  | _, [], _, hn => ⟨by simpa [idsT] using hn, [], by simp [idsT]⟩
  | [], _ :: _, _, hn => ⟨by simpa [idsT] using hn, [], by simp [idsT]⟩
  | k :: ks, b :: t, L, hn => by
    simp only [idsT]
    cases k
    · exact idsT_ok ks t hn
    · obtain ⟨h1, h2⟩ := idsA_ok b hn
      obtain ⟨h3, h4⟩ := idsT_ok ks t h1
      exact ⟨h3, ok_trans h2 h4⟩
theorem idsH_ok {h : List Ck} : ∀ (l : List Nat) {L : List Nat}, L.Nodup → (idsH h l L).Nodup ∧ ∃ M, idsH h l L = L ++ M
  | [], _, hn => ⟨hn, [], by simp [idsH]⟩
  | i :: l, L, hn => by
    simp only [idsH]
    split
    · obtain ⟨h1, h2⟩ := idsAs_ok _ hn
      obtain ⟨h3, h4⟩ := idsH_ok (h := h) l h1
      exact ⟨h3, ok_trans h2 h4⟩
    · exact idsH_ok l hn
theorem upTo_ok : ∀ (n : Nat), (upTo n).length = n ∧ (upTo n).Nodup ∧ ∀ i, i < n → (upTo n)[i]? = some i
  | 0 => by simp [upTo]
  | n + 1 => by
    obtain ⟨h1, h2, h3⟩ := upTo_ok n
    have hlt : ∀ i ∈ upTo n, i < n := fun i hi => by
      obtain ⟨j, hj⟩ := List.getElem?_of_mem hi
      have hjn : j < n := by have := (List.getElem?_eq_some_iff.1 hj).1; omega
      rw [h3 j hjn] at hj
      cases hj; exact hjn
    refine ⟨by simp [upTo, h1], ?_, fun i hi => ?_⟩
    · simp only [upTo]
      rw [List.nodup_append]
      refine ⟨h2, by simp, fun a ha b hb => ?_⟩
      simp only [List.mem_singleton] at hb
      subst hb
      have := hlt a ha
      omega
    · simp only [upTo]
      by_cases hin : i < n
      · rw [List.getElem?_append_left (by omega)]; exact h3 i hin
      · rw [List.getElem?_append_right (by omega), h1, show i - n = 0 by omega]
        simp; omega
theorem cmpT_get : ∀ (ks : List Bool) (t : List A) (k : Nat), (cmpT L ks t)[k]? = (t[k]?).map fun a => if ks.getD k false = true then a.rn L else .un
  | _, [], k => by simp [cmpT]
  | [], b :: t, 0 => by simp [cmpT]
  | [], b :: t, k + 1 => by
    simp only [cmpT, List.getElem?_cons_succ]
    rw [cmpT_get [] t k]
    simp
  | b' :: ks, b :: t, 0 => by cases b' <;> simp [cmpT, rnB]
  | b' :: ks, b :: t, k + 1 => by
    simp only [cmpT, List.getElem?_cons_succ]
    rw [cmpT_get ks t k]
    simp
theorem cmpT_len : ∀ (ks : List Bool) (t : List A), (cmpT L ks t).length = t.length
  | _, [] => by simp [cmpT]
  | [], b :: t => by simp [cmpT, cmpT_len [] t]
  | b' :: ks, b :: t => by simp [cmpT, cmpT_len ks t]

theorem Ok.cmp {k0 : Nat} (h0 : ∀ i c, D0 i = some c → i < k0) (ks : List Bool) (h : Ok w0 O0 S0 D0 μ0 s a w) : Ok w0 O0 S0 D0 μ0 (s.cmp k0 ks) a w := by
  obtain ⟨μ, S, R, T, h1, h2, h3⟩ := h
  obtain ⟨u1, u2, u3⟩ := upTo_ok k0
  obtain ⟨g1, M1, e1⟩ := idsT_ok ks s.t u2
  obtain ⟨g2, M2, e2⟩ := idsH_ok (h := s.h) (idsT ks s.t (upTo k0)) g1
  obtain ⟨g3, M3, e3⟩ := idsH_ok (h := s.h) (idsH2 s.h (idsT ks s.t (upTo k0))) g2
  unfold St.cmp
  generalize hL : idsH2 s.h (idsH2 s.h (idsT ks s.t (upTo k0))) = L
  have hn : L.Nodup := by rw [← hL]; exact g3
  have hk : ∀ i c, D0 i = some c → L[i]? = some i := fun i c hc => by
    have hi := h0 i c hc
    have : L = upTo k0 ++ (M1 ++ M2 ++ M3) := by
      rw [← hL, show idsH2 s.h (idsH2 s.h (idsT ks s.t (upTo k0))) = idsH2 s.h (idsT ks s.t (upTo k0)) ++ M3 from e3, show idsH2 s.h (idsT ks s.t (upTo k0)) = idsT ks s.t (upTo k0) ++ M2 from e2, e1]
      simp
    rw [this, List.getElem?_append_left (by omega)]
    exact u3 i hi
  have hD : (cmpL ks s L).D = vD s.D L := by
    funext j
    simp only [St.D, cmpL, vD, List.getElem?_map]
    cases L[j]? <;> simp [List.getD_eq_getElem?_getD]
  refine ⟨vM μ L, S, by rw [hD]; exact R.view hn, by rw [hD]; exact T.view hn hk, ?_, fun i => ?_, h3⟩
  · simp [cmpL, cmpT_len, h1]
  · rw [hD]
    have := h2 i
    simp only [cmpL, List.getD_eq_getElem?_getD, cmpT_get] at this ⊢
    cases hi : s.t[i]? with
    | none => simp only [hi, Option.map_none, Option.getD_none]; trivial
    | some b =>
      simp only [hi, Option.map_some, Option.getD_some] at this ⊢
      split
      · exact AR.view _ _ this
      · trivial
end
end Go.Proofs.YtgkhakhkebjbpaaEv
namespace Go.Proofs.YtgkhakhkebjbpaaEv
open Go

section
variable {P : Program} {m : Nat → Bool} {s : St} {a : Act} {w : World} {w0 : World} {O0 S0 : Nat → Prop} {D0 : Nat → Option Ck} {μ0 : Nat → Nat × Nat}

theorem wp_loopN {c : Code} {Q : Exit → Act → World → Prop} (J : Nat → Act → World → Prop) {n : Nat} (h₀ : J n a w) (round : ∀ n a w, J n a w → c.wp P (Exit.then (fun a' w' => ∃ m, m < n ∧ J m a' w') Q) a w) : (Code.loop c).wp P Q a w := by
  intro b k cs
  have key : ∀ n a w, J n a w → ∃ e a' w', Q e a' w' ∧ Arrives P (lone (b.at a (.code c :: .inLoop c :: k)) cs w) b k cs e a' w' := by
    intro n
    induction n using Nat.strongRecOn with
    | _ n ih =>
      intro a w hI
      obtain ⟨e, a₁, w₁, hq, harr⟩ := round n a w hI b (.inLoop c :: k) cs
      cases e with
      | normal =>
        obtain ⟨m, hlt, hI₁⟩ := hq
        obtain ⟨e₂, a₂, w₂, hq₂, harr₂⟩ := ih m hlt a₁ w₁ hI₁
        exact ⟨e₂, a₂, w₂, hq₂, .of_steps (Steps.trans harr (.one step_inLoop)) harr₂⟩
      | exit id => exact ⟨_, a₁, w₁, hq, .pass (x := .inLoop c) rfl (fun _ _ => .inl (by simp)) harr⟩
      | goto l => exact ⟨_, a₁, w₁, hq, .pass (x := .inLoop c) rfl (fun _ _ => .inl (by simp)) harr⟩
      | ret => exact ⟨_, a₁, w₁, hq, .pass (x := .inLoop c) rfl (fun _ _ => .inl (by simp)) harr⟩
      | panic ch => exact ⟨_, a₁, w₁, hq, .pass (x := .inLoop c) rfl (fun _ _ => .inl (by simp)) harr⟩
      | outgrown => exact ⟨_, a₁, w₁, hq, .pass (x := .inLoop c) rfl (fun _ _ => .inl (by simp)) harr⟩
  obtain ⟨e, a', w', hq, harr⟩ := key n a w h₀
  exact ⟨e, a', w', hq, .of_steps (.one step_loop) harr⟩
theorem awp_sound {k0 : Nat} (hk0 : ∀ i c, D0 i = some c → i < k0) (hm : P.follows .mixedOrders = true) : ∀ (c : Code) (ac : AC) (s : St) (a : Act) (w : World) (Q : Ex → St → Prop), cC P c = some ac → awp P m k0 ac Q s → Ok w0 O0 S0 D0 μ0 s a w → c.wp P (Post w0 O0 S0 D0 μ0 Q) a w := by
  intro c
  induction c with
  | skip => intro ac s a w Q hc h hok; simp only [cC, Option.some.injEq] at hc; subst hc; exact wp_skip ⟨.nrm, s, rfl, h, hok⟩
  | region id ops draw =>
    intro ac s a w Q hc h hok
    simp only [cC] at hc
    split at hc
    · rename_i os h1
      cases draw with
      | true =>
        simp only [if_true] at hc
        split at hc
        · rename_i hreg; cases hc; exact reg_sound hm hreg h1 h hok
        · cases hc; exact h.elim
      | false =>
        simp only [Bool.false_eq_true, if_false] at hc
        cases hc
        refine wp_region ?_
        rw [List.range_eq_range']
        have := aops_seq (Q := Post w0 O0 S0 D0 μ0 Q) ops.toList os 0 s [] a w _ h1 (fun j => by simp) h hok (fun s' f' a' w' hK h4 => ⟨.nrm, s', rfl, hK, h4⟩)
        simpa using this
    · cases hc; exact h.elim
  | seq x y ihx ihy =>
    intro ac s a w Q hc h hok
    simp only [cC] at hc
    split at hc
    · rename_i ax ay h1 h2
      cases hc
      refine wp_seq (wp_mono (ihx ax s a w _ h1 h hok) ?_)
      rintro e a' w' ⟨x', s', rfl, hq, hok'⟩
      cases x' with
      | nrm => exact ihy ay s' a' w' Q h2 hq hok'
      | exit id => exact ⟨.exit id, s', rfl, hq, hok'⟩
      | ret => exact ⟨.ret, s', rfl, hq, hok'⟩
    · cases hc
  | cond c x y ihx ihy =>
    intro ac s a w Q hc h hok
    simp only [cC] at hc
    split at hc
    · rename_i c' ax ay h0 h1 h2
      cases hc
      simp only [awp] at h
      split at h
      · rename_i t ht
        have hval : a.eval c = .bool t := by
          obtain ⟨μ, S, _, _, _, h5, _⟩ := hok
          have : AR s.D μ S w (s.x c') (a.eval c) := cX_ar (xs := #[c]) h0 (fun x _ i _ => h5 i) (by simp)
          rw [ht] at this
          exact this
        have tell : ∀ b, t = b → Ok w0 O0 S0 D0 μ0 (s.setX c' (.v (.bool b))) a w := by
          rintro b rfl
          cases c' with
          | c _ => exact hok
          | t i =>
            refine hok.tell i _ (fun μ S h5 => ?_)
            rw [show s.t.getD i .un = .v (.bool t) from ht] at h5
            exact h5
        refine wp_cond_split hval (fun hb => ?_) (fun hb => ?_)
        · exact ihx ax _ a w Q h1 (h.1 hb) (tell true hb)
        · exact ihy ay _ a w Q h2 (h.2 hb) (tell false hb)
      · exact h.elim
    · cases hc
  | block id b ih =>
    intro ac s a w Q hc h hok
    simp only [cC, Option.map_eq_some_iff] at hc
    obtain ⟨ab, h1, rfl⟩ := hc
    refine wp_block (wp_mono (ih ab s a w _ h1 h hok) ?_)
    rintro e a' w' ⟨x', s', rfl, hq, hok'⟩
    cases x' with
    | nrm => exact ⟨.nrm, s', rfl, hq, hok'⟩
    | exit i =>
      simp only [Ex.go, Exit.inBlock]
      simp only at hq
      split
      · rename_i hi
        rw [if_pos hi] at hq
        exact ⟨.nrm, s', rfl, hq, hok'⟩
      · rename_i hi
        rw [if_neg hi] at hq
        exact ⟨.exit i, s', rfl, hq, hok'⟩
    | ret => exact ⟨.ret, s', rfl, hq, hok'⟩
  | loop b ih =>
    intro ac s a w Q hc h hok
    simp only [cC, Option.map_eq_some_iff] at hc
    obtain ⟨ab, h1, rfl⟩ := hc
    obtain ⟨I, ks, ⟨n0, hn0⟩, hround⟩ := h
    refine wp_loopN (fun n a w => ∃ s, I n s ∧ Ok w0 O0 S0 D0 μ0 s a w) (n := n0) ⟨s.cmp k0 ks, hn0, hok.cmp hk0 ks⟩ (fun n a w hJ => ?_)
    obtain ⟨s', hI, hok'⟩ := hJ
    refine wp_mono (ih ab s' a w _ h1 (hround _ s' hI) hok') ?_
    rintro e a' w' ⟨x', s'', rfl, hq, hok''⟩
    cases x' with
    | nrm =>
      obtain ⟨k, hk, hIk⟩ := hq
      exact ⟨k, hk, s''.cmp k0 ks, hIk, hok''.cmp hk0 ks⟩
    | exit i => exact ⟨.exit i, s'', rfl, hq, hok''⟩
    | ret => exact ⟨.ret, s'', rfl, hq, hok''⟩
  | exit id => intro ac s a w Q hc h hok; simp only [cC, Option.some.injEq] at hc; subst hc; exact wp_exit ⟨.exit id, s, rfl, h, hok⟩
  | ret => intro ac s a w Q hc h hok; simp only [cC, Option.some.injEq] at hc; subst hc; exact wp_ret ⟨.ret, s, rfl, h, hok⟩
  | _ => intro ac s a w Q hc h; simp only [cC, Option.some.injEq] at hc; subst hc; exact h.elim

/-! ### a call of a function -/
variable {D : Nat → Option Ck} {μ : Nat → Nat × Nat} {S : Nat → Prop}
theorem run_res {rs : ResultVar} {q : Nat × Option Nat} {b : A} (hq : cRs P [rs] = some [q]) (hb : resA s q = some b) (R : Rl w0 O0 S0 s.D μ S w) (hA : ∀ i, AR s.D μ S w (s.t.getD i .un) (a.tmps.getD i undef)) :
    ∃ u, (match rs with | .tmp t => (Pure.pure (a.tmps.getD t undef) : Sem Value) | .cell q t => do loadVar t (← asAddr (a.tmps.getD q undef))).run P w = .ok u w ∧ AR s.D μ S w b u := by
  cases rs with
  | tmp t =>
    simp only [cRs, Option.map_some, Option.some.injEq, List.cons.injEq, and_true] at hq
    subst hq
    simp only [resA, Option.some.injEq] at hb
    subst hb
    exact ⟨_, rfl, hA t⟩
  | cell q' t =>
    simp only [cRs] at hq
    split at hq
    · rename_i k l hk hl
      simp only [Option.some.injEq] at hl
      subst hl
      simp only [Option.some.injEq, List.cons.injEq, and_true] at hq
      subst hq
      simp only [resA] at hb
      have h1 := hA q'
      split at hb
      · rename_i c off hx
        rw [hx] at h1
        split at hb
        · rename_i cs hc
          have h2 := R.ck c
          unfold CR at h2
          rw [show s.D c = some (.box cs) from hc] at h2
          obtain ⟨cur, t', g1, g2, g3⟩ := h2
          split at hb
          · rename_i hk0
            subst hk0
            obtain ⟨u, g4, g5⟩ := g2.get hb
            have hl : off < cur.toList.length := (List.getElem?_eq_some_iff.1 g4).1
            obtain ⟨v, g6, g7⟩ := (load_part (off := off) hk (row_cells g1) (by rw [show cz 0 = 1 from rfl]; omega)).2 rfl
            rw [g4] at g6
            cases g6
            refine ⟨u, ?_, g5⟩
            simp only [Instr.loadAt, Instr.sureAddr] at g7
            simpa [h1.2, asAddr] using g7
          · rename_i hk0
            split at hb
            · rename_i hl
              cases hb
              have g6 := (load_part (off := off) hk (row_cells g1) (by rw [g2.length, show cz k = k by simp [cz, hk0]]; omega)).1 hk0
              refine ⟨_, ?_, g2.part g3⟩
              simp only [Instr.loadAt, Instr.sureAddr] at g6
              simpa [h1.2, asAddr] using g6
            · cases hb
        · cases hb
      · cases hb
    · cases hq

def resRun (tmps : Array Value) : ResultVar → Sem Value
  | .tmp t => Pure.pure (tmps.getD t undef)
  | .cell q t => do loadVar t (← asAddr (tmps.getD q undef))
theorem run_ress (R : Rl w0 O0 S0 s.D μ S w) (hA : ∀ i, AR s.D μ S w (s.t.getD i .un) (a.tmps.getD i undef)) : ∀ {l : List ResultVar} {qs : List (Nat × Option Nat)} {az : List A}, cRs P l = some qs → resAs s qs = some az →
    ∃ us, (l.mapM (resRun a.tmps)).run P w = .ok us w ∧ ARs s.D μ S w az us
  | [], qs, az, h1, h2 => by
    simp only [cRs, Option.some.injEq] at h1
    subst h1
    simp only [resAs, Option.some.injEq] at h2
    subst h2
    exact ⟨[], rfl, rfl⟩
  | r :: l, qs, az, h1, h2 => by
    have split1 : ∃ q qs', qs = q :: qs' ∧ cRs P [r] = some [q] ∧ cRs P l = some qs' := by
      cases r with
      | tmp t =>
        simp only [cRs, Option.map_eq_some_iff] at h1
        obtain ⟨qs', h3, rfl⟩ := h1
        exact ⟨_, qs', rfl, rfl, h3⟩
      | cell q' t =>
        simp only [cRs] at h1
        split at h1
        · rename_i k l' h3 h4
          cases h1
          exact ⟨_, l', rfl, by simp [cRs, h3], h4⟩
        · cases h1
    obtain ⟨q, qs', rfl, h3, h4⟩ := split1
    simp only [resAs] at h2
    split at h2
    · rename_i b bs h5 h6
      cases h2
      obtain ⟨u, h7, h8⟩ := run_res h3 h5 R hA
      obtain ⟨us, h9, h10⟩ := run_ress R hA h4 h6
      have h7' : (resRun a.tmps r).run P w = .ok u w := by cases r <;> exact h7
      exact ⟨u :: us, by simp [List.mapM_cons, h7', h9], u, us, rfl, h8, h10⟩
    · cases h2

/-- What nobody writes any more when the call comes back. -/
def left (S : Nat → Prop) (D : Nat → Option Ck) (μ : Nat → Nat × Nat) (sel : List Nat) : Nat → Prop := fun b => S b ∨ ∃ i c, D i = some c ∧ c.live = true ∧ sel.contains i = false ∧ b = (μ i).1
mutual
theorem retV_ar (R : Rl w0 O0 S0 s.D μ S w) {sel : List Nat} : ∀ (b : A) (x : V) (u : Value), retV s.h sel b = some x → AR s.D μ S w b u → Rep (left S s.D μ sel) w x u
  | .v x, y, u, h, k => by
    simp only [retV, Option.some.injEq] at h
    subst h
    exact Rep.mono (fun _ hb => .inl hb) (fun _ _ => rfl) _ _ k
  | .nil e, y, u, h, k => by
    simp only [retV, Option.some.injEq] at h
    subst h
    exact ⟨none, 0, k, Nat.le_refl _, Nat.zero_le _, trivial⟩
  | .sli i, y, u, h, k => by
    simp only [retV] at h
    split at h
    · cases h
    · rename_i ho
      split at h
      · rename_i e t xs hi
        cases h
        have h1 := k.sli_row hi
        have h2 := R.ck i
        unfold CR at h2
        rw [show s.D i = some (.row e t xs) from hi] at h2
        obtain ⟨cur, us, g1, g2, g3, g4, g5, g6⟩ := h2
        refine ⟨_, _, h1, g3, g4, RepR.toAt (.inr ⟨i, _, hi, rfl, by simpa using ho, rfl⟩) 0 (RepR.mono (fun _ hb => .inl hb) (fun _ _ => rfl) _ _ _ g5) (fun j z hz => ?_)⟩
        simp only [Nat.zero_mul, Nat.zero_add]
        exact row_cells g1 j z (by rw [← g6] at hz; exact take_get hz)
      · rename_i e xs hi
        cases h
        exact Rep.mono (fun _ hb => .inl hb) (fun _ _ => rfl) _ _ (k.sli_fz hi)
      · cases h
  | .vw i e0 lo n, y, u, h, k => by
    simp only [retV] at h
    split at h
    · cases h
    · rename_i ho
      split at h
      · rename_i e1 t xs hi
        split at h
        · rename_i hle
          cases h
          obtain ⟨rfl, hle⟩ := hle
          obtain ⟨a, h1, _, h2⟩ := k
          have h3 := R.ck i
          unfold CR at h3
          rw [show s.D i = some (.row e1 t xs) from hi] at h3
          obtain ⟨cur, us, g1, g2, g3, g4, g5, g6⟩ := h3
          have hlen : ((xs.drop lo).take n).length = n := by simp; omega
          refine ⟨some a, _, by rw [h1, hlen], by rw [hlen]; omega, Nat.le_trans (Nat.sub_le _ _) g4, ?_⟩
          by_cases hn : n = 0
          · subst hn; simp [RepAt]
          · rw [h2 (by omega)]
            have h5 := RepR.mono (S' := left S s.D μ sel) (fun _ hb => .inl hb) (fun _ _ => rfl) _ _ _ ((g5.drop lo).take n)
            refine RepR.toAtA (b := (μ i).1) (o := lo * cz e1) (.inr ⟨i, _, hi, rfl, by simpa using ho, rfl⟩) 0 h5 (fun j z hz => ?_)
            simp only [Nat.zero_mul, Nat.zero_add]
            rw [base_add]
            have hz' := take_get hz
            rw [List.getElem?_drop] at hz'
            exact row_cells g1 _ z (by rw [← g6] at hz'; exact take_get hz')
        · cases h
      · cases h
  | .ag cs, y, u, h, k => by
    simp only [retV, Option.map_eq_some_iff] at h
    obtain ⟨xs, h1, rfl⟩ := h
    obtain ⟨us, rfl, h2, h3⟩ := k
    exact ⟨us, rfl, retVs_ar R cs xs us h1 h2 h3⟩
  | .un, _, _, h, _ | .ud, _, _, h, _ | .ptr _ _, _, _, h, _ | .ep _ _ _ _, _, _, h, _ | .mp _, _, _, h, _ | .fp _ _, _, _, h, _ | .fq _, _, _, h, _ | .tu _, _, _, h, _ | .fn _ _, _, _, h, _ => by simp [retV] at h
theorem retVs_ar (R : Rl w0 O0 S0 s.D μ S w) {sel : List Nat} : ∀ (bs : List A) (xs : List V) (us : List Value), retVs s.h sel bs = some xs → ARs s.D μ S w bs us → (∀ z ∈ us, z.oneCell' = true) → RepL (left S s.D μ sel) w xs us
  | [], xs, us, h, k, _ => by simp only [retVs, Option.some.injEq] at h; subst h; exact k
  | b :: bs, xs, us, h, ⟨u, us', h1, h2, h3⟩, hz => by
    simp only [retVs] at h
    split at h
    · rename_i x ys h4 h5
      cases h
      subst h1
      have h6 := retV_ar R b x u h4 h2
      exact ⟨u, us', rfl, h6.notAg (hz u List.mem_cons_self), h6, retVs_ar R bs ys us' h5 h3 (fun z hz' => hz z (List.mem_cons_of_mem _ hz'))⟩
    · cases h
end
/-- The chunks that are handed over. -/
def selD (h : List Ck) (sel : List Nat) : Nat → Option Ck := fun j => (sel.map fun i => h.getD i .gone)[j]?
def selM (μ : Nat → Nat × Nat) (sel : List Nat) : Nat → Nat × Nat := fun j => μ (sel.getD j 0)
mutual
theorem okR_ar (R : Rl w0 O0 S0 s.D μ S w) {sel : List Nat} (hm : (sel.map fun i => s.h.getD i .gone).all Ck.okM = true) : ∀ (b r : A) (u : Value), okR s.h sel b r → AR s.D μ S w b u → AR (selD s.h sel) (selM μ sel) (left S s.D μ sel) w r u
  | .nil e, .nil e', u, h, k => k
  | .sli i, .sli j, u, h, k => by
    have h1 : sel[j]? = some i := h
    have e2 : sel.getD j 0 = i := by simp [h1]
    have e1 : selD s.h sel j = some (s.h.getD i .gone) := by simp [selD, h1]
    have hok := List.all_eq_true.1 hm _ (List.mem_of_getElem? e1)
    unfold AR at k ⊢
    refine ⟨k.1, ?_⟩
    replace k := k.2
    rw [e1]
    simp only [selM, e2]
    cases hi : s.h[i]? with
    | none => rw [show s.D i = none from hi] at k; exact k.elim
    | some c =>
      have e3 : s.h.getD i .gone = c := by simp [hi]
      rw [e3] at hok ⊢
      rw [show s.D i = some c from hi] at k
      cases c <;> first | (cases hok; done) | exact k
  | .ptr i o, .ptr j o', u, h, ⟨⟨c, k1⟩, k2⟩ => by
    obtain ⟨h1, rfl⟩ := h
    have e2 : sel.getD j 0 = i := by simp [h1]
    refine ⟨⟨s.h.getD i .gone, by simp [selD, h1]⟩, ?_⟩
    simp only [selM, e2]
    exact k2
  | .ag az, .ag rs, u, h, ⟨us, h1, h2, h3⟩ => ⟨us, h1, okRs_ar R hm az rs us h h2, h3⟩
  | a, .v x, u, h, k => by
    have : retV s.h sel a = some x := by cases a <;> exact h
    exact retV_ar R a x u this k
  | .un, .un, _, h, _ | .un, .ud, _, h, _ | .un, .nil _, _, h, _ | .un, .sli _, _, h, _ | .un, .ptr _ _, _, h, _ | .un, .ep _ _ _ _, _, h, _ | .un, .vw _ _ _ _, _, h, _ | .un, .mp _, _, h, _ | .un, .fp _ _, _, h, _ | .un, .fq _, _, h, _ | .un, .ag _, _, h, _ | .un, .tu _, _, h, _ | .un, .fn _ _, _, h, _ => by cases h
  | .ud, .un, _, h, _ | .ud, .ud, _, h, _ | .ud, .nil _, _, h, _ | .ud, .sli _, _, h, _ | .ud, .ptr _ _, _, h, _ | .ud, .ep _ _ _ _, _, h, _ | .ud, .vw _ _ _ _, _, h, _ | .ud, .mp _, _, h, _ | .ud, .fp _ _, _, h, _ | .ud, .fq _, _, h, _ | .ud, .ag _, _, h, _ | .ud, .tu _, _, h, _ | .ud, .fn _ _, _, h, _ => by cases h
  | .v _, .un, _, h, _ | .v _, .ud, _, h, _ | .v _, .nil _, _, h, _ | .v _, .sli _, _, h, _ | .v _, .ptr _ _, _, h, _ | .v _, .ep _ _ _ _, _, h, _ | .v _, .vw _ _ _ _, _, h, _ | .v _, .mp _, _, h, _ | .v _, .fp _ _, _, h, _ | .v _, .fq _, _, h, _ | .v _, .ag _, _, h, _ | .v _, .tu _, _, h, _ | .v _, .fn _ _, _, h, _ => by cases h
  | .nil _, .un, _, h, _ | .nil _, .ud, _, h, _ | .nil _, .sli _, _, h, _ | .nil _, .ptr _ _, _, h, _ | .nil _, .ep _ _ _ _, _, h, _ | .nil _, .vw _ _ _ _, _, h, _ | .nil _, .mp _, _, h, _ | .nil _, .fp _ _, _, h, _ | .nil _, .fq _, _, h, _ | .nil _, .ag _, _, h, _ | .nil _, .tu _, _, h, _ | .nil _, .fn _ _, _, h, _ => by cases h
  | .sli _, .un, _, h, _ | .sli _, .ud, _, h, _ | .sli _, .nil _, _, h, _ | .sli _, .ptr _ _, _, h, _ | .sli _, .ep _ _ _ _, _, h, _ | .sli _, .vw _ _ _ _, _, h, _ | .sli _, .mp _, _, h, _ | .sli _, .fp _ _, _, h, _ | .sli _, .fq _, _, h, _ | .sli _, .ag _, _, h, _ | .sli _, .tu _, _, h, _ | .sli _, .fn _ _, _, h, _ => by cases h
  | .ptr _ _, .un, _, h, _ | .ptr _ _, .ud, _, h, _ | .ptr _ _, .nil _, _, h, _ | .ptr _ _, .sli _, _, h, _ | .ptr _ _, .ep _ _ _ _, _, h, _ | .ptr _ _, .vw _ _ _ _, _, h, _ | .ptr _ _, .mp _, _, h, _ | .ptr _ _, .fp _ _, _, h, _ | .ptr _ _, .fq _, _, h, _ | .ptr _ _, .ag _, _, h, _ | .ptr _ _, .tu _, _, h, _ | .ptr _ _, .fn _ _, _, h, _ => by cases h
  | .ep _ _ _ _, .un, _, h, _ | .ep _ _ _ _, .ud, _, h, _ | .ep _ _ _ _, .nil _, _, h, _ | .ep _ _ _ _, .sli _, _, h, _ | .ep _ _ _ _, .ptr _ _, _, h, _ | .ep _ _ _ _, .ep _ _ _ _, _, h, _ | .ep _ _ _ _, .vw _ _ _ _, _, h, _ | .ep _ _ _ _, .mp _, _, h, _ | .ep _ _ _ _, .fp _ _, _, h, _ | .ep _ _ _ _, .fq _, _, h, _ | .ep _ _ _ _, .ag _, _, h, _ | .ep _ _ _ _, .tu _, _, h, _ | .ep _ _ _ _, .fn _ _, _, h, _ => by cases h
  | .vw _ _ _ _, .un, _, h, _ | .vw _ _ _ _, .ud, _, h, _ | .vw _ _ _ _, .nil _, _, h, _ | .vw _ _ _ _, .sli _, _, h, _ | .vw _ _ _ _, .ptr _ _, _, h, _ | .vw _ _ _ _, .ep _ _ _ _, _, h, _ | .vw _ _ _ _, .vw _ _ _ _, _, h, _ | .vw _ _ _ _, .mp _, _, h, _ | .vw _ _ _ _, .fp _ _, _, h, _ | .vw _ _ _ _, .fq _, _, h, _ | .vw _ _ _ _, .ag _, _, h, _ | .vw _ _ _ _, .tu _, _, h, _ | .vw _ _ _ _, .fn _ _, _, h, _ => by cases h
  | .mp _, .un, _, h, _ | .mp _, .ud, _, h, _ | .mp _, .nil _, _, h, _ | .mp _, .sli _, _, h, _ | .mp _, .ptr _ _, _, h, _ | .mp _, .ep _ _ _ _, _, h, _ | .mp _, .vw _ _ _ _, _, h, _ | .mp _, .mp _, _, h, _ | .mp _, .fp _ _, _, h, _ | .mp _, .fq _, _, h, _ | .mp _, .ag _, _, h, _ | .mp _, .tu _, _, h, _ | .mp _, .fn _ _, _, h, _ => by cases h
  | .fp _ _, .un, _, h, _ | .fp _ _, .ud, _, h, _ | .fp _ _, .nil _, _, h, _ | .fp _ _, .sli _, _, h, _ | .fp _ _, .ptr _ _, _, h, _ | .fp _ _, .ep _ _ _ _, _, h, _ | .fp _ _, .vw _ _ _ _, _, h, _ | .fp _ _, .mp _, _, h, _ | .fp _ _, .fp _ _, _, h, _ | .fp _ _, .fq _, _, h, _ | .fp _ _, .ag _, _, h, _ | .fp _ _, .tu _, _, h, _ | .fp _ _, .fn _ _, _, h, _ => by cases h
  | .fq _, .un, _, h, _ | .fq _, .ud, _, h, _ | .fq _, .nil _, _, h, _ | .fq _, .sli _, _, h, _ | .fq _, .ptr _ _, _, h, _ | .fq _, .ep _ _ _ _, _, h, _ | .fq _, .vw _ _ _ _, _, h, _ | .fq _, .mp _, _, h, _ | .fq _, .fp _ _, _, h, _ | .fq _, .fq _, _, h, _ | .fq _, .ag _, _, h, _ | .fq _, .tu _, _, h, _ | .fq _, .fn _ _, _, h, _ => by cases h
  | .ag _, .un, _, h, _ | .ag _, .ud, _, h, _ | .ag _, .nil _, _, h, _ | .ag _, .sli _, _, h, _ | .ag _, .ptr _ _, _, h, _ | .ag _, .ep _ _ _ _, _, h, _ | .ag _, .vw _ _ _ _, _, h, _ | .ag _, .mp _, _, h, _ | .ag _, .fp _ _, _, h, _ | .ag _, .fq _, _, h, _ | .ag _, .tu _, _, h, _ | .ag _, .fn _ _, _, h, _ => by cases h
  | .tu _, .un, _, h, _ | .tu _, .ud, _, h, _ | .tu _, .nil _, _, h, _ | .tu _, .sli _, _, h, _ | .tu _, .ptr _ _, _, h, _ | .tu _, .ep _ _ _ _, _, h, _ | .tu _, .vw _ _ _ _, _, h, _ | .tu _, .mp _, _, h, _ | .tu _, .fp _ _, _, h, _ | .tu _, .fq _, _, h, _ | .tu _, .ag _, _, h, _ | .tu _, .tu _, _, h, _ | .tu _, .fn _ _, _, h, _ => by cases h
  | .fn _ _, .un, _, h, _ | .fn _ _, .ud, _, h, _ | .fn _ _, .nil _, _, h, _ | .fn _ _, .sli _, _, h, _ | .fn _ _, .ptr _ _, _, h, _ | .fn _ _, .ep _ _ _ _, _, h, _ | .fn _ _, .vw _ _ _ _, _, h, _ | .fn _ _, .mp _, _, h, _ | .fn _ _, .fp _ _, _, h, _ | .fn _ _, .fq _, _, h, _ | .fn _ _, .ag _, _, h, _ | .fn _ _, .tu _, _, h, _ | .fn _ _, .fn _ _, _, h, _ => by cases h
theorem okRs_ar (R : Rl w0 O0 S0 s.D μ S w) {sel : List Nat} (hm : (sel.map fun i => s.h.getD i .gone).all Ck.okM = true) : ∀ (bs rs : List A) (us : List Value), okRs s.h sel bs rs → ARs s.D μ S w bs us → ARs (selD s.h sel) (selM μ sel) (left S s.D μ sel) w rs us
  | [], [], _, _, k => k
  | b :: bs, r :: rs, _, h, ⟨u, us', h1, h2, h3⟩ => ⟨u, us', h1, okR_ar R hm b r u h.1 h2, okRs_ar R hm bs rs us' h.2 h3⟩
  | [], _ :: _, _, h, _ => by cases h
  | _ :: _, [], _, h, _ => by cases h
end
theorem Rl.sel (R : Rl w0 O0 S0 s.D μ S w) {sel : List Nat} (hn : sel.Nodup) (hm : (sel.map fun i => s.h.getD i .gone).all Ck.okM = true) : Rl w0 O0 S0 (selD s.h sel) (selM μ sel) (left S s.D μ sel) w := by
  have get : ∀ j c, selD s.h sel j = some c → c.live = true → ∃ i, sel[j]? = some i ∧ s.D i = some c ∧ selM μ sel j = μ i := by
    intro j c hj hl
    simp only [selD, List.getElem?_map, Option.map_eq_some_iff] at hj
    obtain ⟨i, hi, hc⟩ := hj
    refine ⟨i, hi, ?_, by simp [selM, hi]⟩
    cases hh : s.h[i]? with
    | none => simp [hh] at hc; subst hc; cases hl
    | some c' => simp [hh] at hc; subst hc; exact hh
  refine ⟨R.tb, R.os, R.tape, R.output, R.size, R.keep, fun b hb => .inl (R.sub b hb), fun b hb => ?_, fun b hb => ?_, fun j => ?_, fun j c hc hl => ?_, fun j k c d hc hd hl hl' he => ?_⟩
  · rcases hb with hb | ⟨i, c, hc, hl, _, rfl⟩
    · exact R.new b hb
    · exact .inr ((R.own i c hc hl).2.2)
  · rcases hb with hb | ⟨i, c, hc, hl, _, rfl⟩
    · exact R.lt b hb
    · exact R.live_lt hc hl
  · cases hj : selD s.h sel j with
    | none => unfold CR; rw [hj]; trivial
    | some c =>
      have hok := List.all_eq_true.1 hm c (List.mem_of_getElem? hj)
      by_cases hl : c.live = true
      · obtain ⟨i, hi, h1, h2⟩ := get j c hj hl
        have h3 := okM_cr (D' := selD s.h sel) (μ' := selM μ sel) hok h1 hj h2 (R.ck i)
        exact h3.tr (D := selD s.h sel) (μ := selM μ sel) ⟨fun _ hb => .inl hb, fun _ _ => rfl, fun q u hu => by
          unfold AR at hu ⊢
          refine ⟨hu.1, ?_⟩
          replace hu := hu.2
          split at hu
          · exact hu
          · exact Rep.mono (fun _ hb => .inl hb) (fun _ _ => rfl) _ _ hu
          · trivial
          · exact hu.elim, fun q c h => ⟨rfl, c, h⟩⟩ rfl rfl (fun _ _ _ => rfl)
      · unfold CR
        rw [hj]
        cases c <;> first | trivial | (exact absurd rfl hl) | (cases hok)
  · obtain ⟨i, hi, h1, h2⟩ := get j c hc hl
    rw [h2]
    obtain ⟨q1, q2, q3⟩ := R.own i c h1 hl
    refine ⟨?_, q2, q3⟩
    rintro (hb | ⟨i', c', hc', hl', hne, he⟩)
    · exact q1 hb
    · have := R.inj i i' c c' h1 hc' hl hl' he
      subst this
      have := List.mem_of_getElem? hi
      simp at hne
      exact hne this
  · obtain ⟨i, hi, h1, h2⟩ := get j c hc hl
    obtain ⟨i', hi', h1', h2'⟩ := get k d hd hl'
    rw [h2, h2'] at he
    have := R.inj i i' c d h1 h1' hl hl' he
    subst this
    have e1 := posL_get hn hi
    rw [posL_get hn hi'] at e1
    exact (Option.some.inj e1).symm
theorem getD_args {az : List A} {us : List Value} (h : ARs D μ S w az us) (n m i : Nat) : AR D μ S w ((az ++ List.replicate n A.ud).getD i A.un) ((us.toArray ++ Array.replicate m undef).getD i undef) := by
  have hl := h.length
  simp only [List.getD_eq_getElem?_getD, Array.getD_eq_getD_getElem?]
  by_cases hi : i < az.length
  · obtain ⟨u, h1, h2⟩ := h.get (List.getElem?_eq_getElem hi)
    rw [List.getElem?_append_left hi, List.getElem?_eq_getElem hi, Array.getElem?_append_left (by simpa [hl] using hi)]
    simp only [List.getElem?_toArray, h1, Option.getD_some]
    exact h2
  · rw [List.getElem?_append_right (by omega), Array.getElem?_append_right (by simp [hl]; omega)]
    have : ((Array.replicate m undef)[i - us.toArray.size]?).getD undef = undef := by
      rw [Array.getElem?_replicate]
      split <;> rfl
    rw [this]
    rw [List.getElem?_replicate]
    split
    · rfl
    · trivial
theorem spg_of {f : Nat} {fn : Func} {af : AF} {az : List A} {hin : List Ck} {r : A} {hs : List Ck} (hm : P.follows .mixedOrders = true) (hf : P.funcs[f]? = some fn) (hc : cF P fn = some af) (h : awpF P m af az hin r hs) : SpG P f az hin r hs := by
  unfold cF at hc
  split at hc
  · rename_i c hb
    split at hc
    · rename_i ac qs h1 h2
      split at hc
      · cases hc
      · rename_i hname
        cases hc
        refine ⟨⟨fn, hf, by simp [hb], hname⟩, fun S w us O μ R0 hus => ?_⟩
        have hlen := hus.length
        have hok : Ok w O S (fun i => hin[i]?) μ ⟨az ++ List.replicate (fn.ntmps - az.length) .ud, hin⟩ { tmps := us.toArray ++ Array.replicate (fn.ntmps - us.toArray.size) undef, defers := [] } w :=
          ⟨μ, S, R0, Tr.refl, by simp [hlen], fun i => getD_args hus _ _ i, rfl⟩
        refine calls_of_wp hf hb (wp_mono (awp_sound (k0 := hin.length) (fun i c hc => (List.getElem?_eq_some_iff.1 hc).1) hm c ac _ _ w _ h1 h hok) ?_)
        rintro e a' w' ⟨x, s', rfl, hq, hok'⟩
        have fin : retOk s' hin.length qs r hs → a'.defers = [] ∧ ∃ v, (results fn a'.tmps).run P w' = .ok v w' ∧ ∃ u S' μ', Ending.returned v = .returned u ∧ Rl w O S (fun i => hs[i]?) μ' S' w' ∧ Tr (fun i => hin[i]?) μ S w (fun i => hs[i]?) μ' S' w' ∧ AR (fun i => hs[i]?) μ' S' w' r u := by
          rintro ⟨bs, h3, h4, hnd, hokM, hrr, h5⟩
          obtain ⟨μ1, S', R, T0, _, hA, hd⟩ := hok'
          refine ⟨hd, ?_⟩
          obtain ⟨vs, h6, h7⟩ := run_ress R hA h2 h3
          have hres : (results fn a'.tmps).run P w' = .ok (if h : vs.length = 1 then vs[0] else .tuple vs.toArray) w' := by
            have hg : results fn a'.tmps = (fn.results.mapM (resRun a'.tmps) >>= fun vs => Pure.pure (if h : vs.size = 1 then vs[0] else .tuple vs)) := by
              unfold results
              congr 1
            rw [hg, Array.mapM_eq_mapM_toList]
            simp only [Sem.run_bind, Sem.run_map, h6, Result.andThen_ok, Sem.run_pure]
            simp
          rw [h4] at hokM
          generalize hsel : List.range hin.length ++ newIdss hin.length bs (unR qs.length r) = sel at h4 hnd hokM h5
          have hDD : selD s'.h sel = fun i => hs[i]? := by funext j; rw [h4]; rfl
          have R' := R.sel hnd hokM
          have h8 := okRs_ar R hokM _ _ _ h5 h7
          rw [hDD] at R' h8
          have T' : Tr (fun i => hin[i]?) μ S w (fun i => hs[i]?) (selM μ1 sel) (left S' s'.D μ1 sel) w' := by
            have at_k : ∀ (k : Nat) (c : Ck), hin[k]? = some c → sel[k]? = some k ∧ ∃ c', s'.h[k]? = some c' := by
              intro k c hk
              have hlt : k < hin.length := (List.getElem?_eq_some_iff.1 hk).1
              refine ⟨?_, (T0.ptr k c hk).2⟩
              rw [← hsel, List.getElem?_append_left (by simpa using hlt), List.getElem?_range hlt]
            refine ⟨fun b hb => .inl (T0.sub b hb), T0.heap, fun k u hu => ?_, fun k c hk => ?_⟩
            · cases hk : hin[k]? with
              | none => unfold AR at hu; simp only [hk] at hu; exact hu.2.elim
              | some c =>
                obtain ⟨e1, c', e2⟩ := at_k k c hk
                have := okR_ar R hokM (.sli k) (.sli k) u (show sel[k]? = some k from e1) (T0.sli k u hu)
                rw [hDD] at this
                exact this
            · obtain ⟨e1, c', e2⟩ := at_k k c hk
              refine ⟨by simp only [selM, List.getD_eq_getElem?_getD, e1, Option.getD_some]; exact (T0.ptr k c hk).1, c', ?_⟩
              rw [h4]
              simp [e1, e2]
          refine ⟨_, hres, _, _, _, rfl, R', T', ?_⟩
          have hl := h8.length
          have hl2 := h7.length
          have hql : bs.length = qs.length := by
            have : ∀ (qs : List (Nat × Option Nat)) (bs : List A), resAs s' qs = some bs → bs.length = qs.length := by
              intro qs
              induction qs with
              | nil => intro bs h; simp only [resAs, Option.some.injEq] at h; subst h; rfl
              | cons q qs ih =>
                intro bs h
                simp only [resAs] at h
                split at h
                · rename_i b bs' h9 h10; cases h; simp [ih _ h10]
                · cases h
            exact this _ _ h3
          by_cases hone : qs.length = 1
          · have e1 : unR qs.length r = [r] := by simp [unR, hone]
            rw [e1] at h8
            obtain ⟨u, us', e2, h9, h10⟩ := h8
            simp only [ARs] at h10
            subst h10
            subst e2
            exact h9
          · rcases hrr with hrr | hrr
            · exact absurd hrr hone
            · rw [hrr]
              rw [dif_neg (by omega)]
              exact ⟨vs, rfl, h8⟩
        cases x with
        | nrm => exact fin hq
        | exit i => exact hq.elim
        | ret => exact fin hq
    · cases hc
  · cases hc
end
end Go.Proofs.YtgkhakhkebjbpaaEv
namespace Go.Proofs.YtgkhakhkebjbpaaEv
open Go

universe u v
/-- Not to be looked into, until it is applied. -/
structure Tag {α : Sort u} (a : α) : Type
def hd {α : Sort u} (a : α) (_ : Tag a) : α := a
theorem hd_app {α : Sort u} {β : Sort v} {K : α → β} {t : Tag K} {x : α} : hd K t x = K x := Eq.trans rfl rfl

section
variable {P : Program} {m : Nat → Bool} {k0 : Nat} {Q : Ex → St → Prop} {s : St}
/-! what comes after: told by names, so that it is not looked into before its turn -/
def seqQ (P : Program) (m : Nat → Bool) (k0 : Nat) (b : AC) (Q : Ex → St → Prop) : Ex → St → Prop := fun e s' => match e with | .nrm => awp P m k0 b Q s' | e => Q e s'
def blkQ (i : Nat) (Q : Ex → St → Prop) : Ex → St → Prop := fun e s' => match e with | .exit j => if j = i then Q .nrm s' else Q e s' | e => Q e s'
def endQ (n : Nat) (rs : List (Nat × Option Nat)) (r : A) (hs : List Ck) : Ex → St → Prop := fun e s => match e with | .exit _ => False | _ => retOk s n rs r hs
def opsK (Q : Ex → St → Prop) : St → FP → Prop := fun s' _ => Q .nrm s'
def regK (tb : List Nat) (Q : Ex → St → Prop) : St → FP → Prop := fun s' f => fpOk tb f = true ∧ Q .nrm s'
def oneK (P : Program) (m : Nat → Bool) (os : List AO) (f : FP) (K : St → FP → Prop) : St → List Nat → List Nat → Prop := fun s' rd wr => aops P m os s' (f ++ [(rd, wr)]) K
def putK (t : List A) (d : Option Nat) (K : St → List Nat → List Nat → Prop) : KT := fun r rd wr h => K (St.set ⟨t, h⟩ d r) rd wr
theorem seqQ_nrm {b : AC} : seqQ P m k0 b Q .nrm s = awp P m k0 b Q s := Eq.trans rfl rfl
theorem seqQ_exit {b : AC} {i : Nat} : seqQ P m k0 b Q (.exit i) s = Q (.exit i) s := Eq.trans rfl rfl
theorem seqQ_ret {b : AC} : seqQ P m k0 b Q .ret s = Q .ret s := Eq.trans rfl rfl
theorem blkQ_nrm {i : Nat} : blkQ i Q .nrm s = Q .nrm s := Eq.trans rfl rfl
theorem blkQ_exit {i j : Nat} : blkQ i Q (.exit j) s = if j = i then Q .nrm s else Q (.exit j) s := Eq.trans rfl rfl
theorem blkQ_ret {i : Nat} : blkQ i Q .ret s = Q .ret s := Eq.trans rfl rfl
section
variable {n : Nat} {rs : List (Nat × Option Nat)} {r : A} {hs : List Ck}
theorem endQ_nrm : endQ n rs r hs .nrm s = retOk s n rs r hs := Eq.trans rfl rfl
theorem endQ_exit {i : Nat} : endQ n rs r hs (.exit i) s = False := Eq.trans rfl rfl
theorem endQ_ret : endQ n rs r hs .ret s = retOk s n rs r hs := Eq.trans rfl rfl
end
theorem opsK_app {f : FP} : opsK Q s f = Q .nrm s := Eq.trans rfl rfl
theorem regK_app {tb : List Nat} {f : FP} : regK tb Q s f = (fpOk tb f = true ∧ Q .nrm s) := Eq.trans rfl rfl
theorem oneK_app {os : List AO} {f : FP} {K : St → FP → Prop} {rd wr : List Nat} : oneK P m os f K s rd wr = aops P m os s (f ++ [(rd, wr)]) K := Eq.trans rfl rfl
theorem putK_app {t : List A} {d : Option Nat} {K : St → List Nat → List Nat → Prop} {r : A} {rd wr : List Nat} {h : List Ck} : putK t d K r rd wr h = K (St.set ⟨t, h⟩ d r) rd wr := Eq.trans rfl rfl
theorem awp_skip : awp P m k0 .skip Q s = Q .nrm s := Eq.trans rfl rfl
theorem awp_ops {os : List AO} : awp P m k0 (.ops os) Q s = aops P m os s [] (opsK Q) := Eq.trans rfl rfl
theorem awp_reg {tb : List Nat} {os : List AO} : awp P m k0 (.reg tb os) Q s = aops P m os s [] (regK tb Q) := Eq.trans rfl rfl
theorem awp_seq {a b : AC} : awp P m k0 (.seq a b) Q s = awp P m k0 a (seqQ P m k0 b Q) s := Eq.trans rfl rfl
theorem awp_block {i : Nat} {b : AC} : awp P m k0 (.block i b) Q s = awp P m k0 b (blkQ i Q) s := Eq.trans rfl rfl
theorem awp_exit {i : Nat} : awp P m k0 (.exit i) Q s = Q (.exit i) s := Eq.trans rfl rfl
theorem awp_ret : awp P m k0 .ret Q s = Q .ret s := Eq.trans rfl rfl
theorem awp_bad : awp P m k0 .bad Q s = False := Eq.trans rfl rfl
def condQ (P : Program) (m : Nat → Bool) (k0 : Nat) (t : Bool) (c : X) (a b : AC) (Q : Ex → St → Prop) (s : St) : Prop := (t = true → awp P m k0 a Q (s.setX c (.v (.bool true)))) ∧ (t = false → awp P m k0 b Q (s.setX c (.v (.bool false))))
theorem condQ_t {c : X} {a b : AC} : condQ P m k0 true c a b Q s = awp P m k0 a Q (s.setX c (.v (.bool true))) := by simp [condQ]
theorem condQ_f {c : X} {a b : AC} : condQ P m k0 false c a b Q s = awp P m k0 b Q (s.setX c (.v (.bool false))) := by simp [condQ]
theorem condQ_any {t : Bool} {c : X} {a b : AC} : condQ P m k0 t c a b Q s = ((t = true → awp P m k0 a Q (s.setX c (.v (.bool true)))) ∧ (t = false → awp P m k0 b Q (s.setX c (.v (.bool false))))) := Eq.trans rfl rfl
theorem awp_cond {c : X} {a b : AC} : awp P m k0 (.cond c a b) Q s = match s.x c with
    | .v (.bool t) => condQ P m k0 t c a b Q s
    | _ => False := Eq.trans rfl rfl
theorem aops_nil {K : St → FP → Prop} {f : FP} : aops P m [] s f K = K s f := Eq.trans rfl rfl
theorem aops_cons {o : AO} {os : List AO} {f : FP} {K : St → FP → Prop} : aops P m (o :: os) s f K = aAO P m s (oneK P m os f K) o := Eq.trans rfl rfl
theorem aAO_none {K : St → List Nat → List Nat → Prop} {d : Option Nat} {o : O} : aAO P m s K ⟨d, none, o⟩ = aop P m s (putK s.t d K) o := Eq.trans rfl rfl
def gdK (P : Program) (m : Nat → Bool) (t b : Bool) (g : Nat) (d : Option Nat) (o : O) (K : St → List Nat → List Nat → Prop) (s : St) : Prop := (t = b → aop P m (s.setX (.t g) (.v (.bool b))) (putK (s.t.set g (.v (.bool b))) d K) o) ∧ (t = !b → K (St.set ⟨s.t.set g (.v (.bool !b)), s.h⟩ d .ud) [] [])
section
variable {K : St → List Nat → List Nat → Prop} {d : Option Nat} {o : O} {g : Nat} {b t : Bool}
theorem gdK_tt : gdK P m true true g d o K s = aop P m (s.setX (.t g) (.v (.bool true))) (putK (s.t.set g (.v (.bool true))) d K) o := by simp [gdK]
theorem gdK_ff : gdK P m false false g d o K s = aop P m (s.setX (.t g) (.v (.bool false))) (putK (s.t.set g (.v (.bool false))) d K) o := by simp [gdK]
theorem gdK_tf : gdK P m true false g d o K s = K (St.set ⟨s.t.set g (.v (.bool true)), s.h⟩ d .ud) [] [] := by simp [gdK]
theorem gdK_ft : gdK P m false true g d o K s = K (St.set ⟨s.t.set g (.v (.bool false)), s.h⟩ d .ud) [] [] := by simp [gdK]
theorem gdK_any : gdK P m t b g d o K s = ((t = b → aop P m (s.setX (.t g) (.v (.bool b))) (putK (s.t.set g (.v (.bool b))) d K) o) ∧ (t = !b → K (St.set ⟨s.t.set g (.v (.bool !b)), s.h⟩ d .ud) [] [])) := Eq.trans rfl rfl
theorem aAO_some : aAO P m s K ⟨d, some (g, b), o⟩ = match s.x (.t g) with
    | .v (.bool t) => gdK P m t b g d o K s
    | .ud => K (s.set d .ud) [] []
    | _ => False := Eq.trans rfl rfl
end
def pickK (t : Bool) (K : KT) (a b : A) (h : List Ck) : Prop := (t = true → K a [] [] h) ∧ (t = false → K b [] [] h)
theorem pickK_t {K : KT} {a b : A} {h : List Ck} : pickK true K a b h = K a [] [] h := by simp [pickK]
theorem pickK_f {K : KT} {a b : A} {h : List Ck} : pickK false K a b h = K b [] [] h := by simp [pickK]
theorem pickK_any {t : Bool} {K : KT} {a b : A} {h : List Ck} : pickK t K a b h = ((t = true → K a [] [] h) ∧ (t = false → K b [] [] h)) := Eq.trans rfl rfl
theorem fA_none {α : Type} {K : α → Prop} : fA none K = True := by simp [fA]
theorem fA_some {α : Type} {a : α} {K : α → Prop} : fA (some a) K = K a := by simp [fA]
theorem fA_map {α β : Type} {g : α → β} {l : List α} {n : Nat} {K : β → Prop} : fA ((l.map g)[n]?) K = ∀ a, l[n]? = some a → K (g a) := by
  apply propext
  simp [fA]
theorem fA_omap {α β : Type} {g : α → β} {o : Option α} {K : β → Prop} : fA (o.map g) K = ∀ a, o = some a → K (g a) := by
  apply propext
  simp [fA]
section
variable {K : KT} {x y i : X} {e k : Nat}
theorem aop_mv : aop P m s K (.mv x) = K (s.x x) [] [] s.h := Eq.trans rfl rfl
theorem aop_pick {c a b : X} : aop P m s K (.pick c a b) = match s.x c with
    | .v (.bool t) => pickK t K (s.x a) (s.x b) s.h
    | _ => False := Eq.trans rfl rfl
theorem aop_bin {op : BinOp} : aop P m s K (.bin op x y) = oK (binF op (s.x x) (s.x y)) (hd (fun r => K (.v r) [] [] s.h) ⟨⟩) := Eq.trans rfl rfl
theorem aop_eq {ne : Bool} {n : Nat} {ts : List Nat} : aop P m s K (.eq ne n ts x y) = match s.x x, s.x y with
    | .v a, .v b => oK (eqT ts a.cs b.cs) (hd (fun p => a.isAg = (n != 0) ∧ b.isAg = (n != 0) ∧ K (.v (.bool (cdec p != ne))) [] [] s.h) ⟨⟩)
    | _, _ => False := Eq.trans rfl rfl
theorem aop_eqn {ne : Bool} : aop P m s K (.eqn ne x) = match s.x x with
    | .nil _ => K (.v (.bool (true != ne))) [] [] s.h
    | .v (.sl _ xs) => xs ≠ [] ∧ K (.v (.bool (false != ne))) [] [] s.h
    | .sli i => match s.h[i]? with
      | some (.row ..) => K (.v (.bool (false != ne))) [i] [] s.h
      | some (.fz _ xs) => xs ≠ [] ∧ K (.v (.bool (false != ne))) [i] [] s.h
      | _ => False
    | _ => False := Eq.trans rfl rfl
theorem aop_un {op : UnOp} : aop P m s K (.un op x) = oK (unF op (s.x x)) (hd (fun r => K (.v r) [] [] s.h) ⟨⟩) := Eq.trans rfl rfl
theorem aop_conv {k : IntKind} : aop P m s K (.conv k x) = match s.x x with
    | .v (.int _ n) => K (.v (.int k (k.wrap n))) [] [] s.h
    | _ => False := Eq.trans rfl rfl
theorem aop_fld {off : Nat} : aop P m s K (.fld x off k) = oK (fldF (s.x x) off k) (hd (fun r => K r [] [] s.h) ⟨⟩) := Eq.trans rfl rfl
theorem aop_fa {off : Nat} : aop P m s K (.fa x off) = match s.x x with
    | .ptr i o => K (.ptr i (o + off)) [] [] s.h
    | .ep i e n o => K (.ep i e n (o + off)) [] [] s.h
    | .fq cs => K (.fq (cs.drop off)) [] [] s.h
    | .fp _ (.ag cs) => K (.fq (cs.drop off)) [] [] s.h
    | _ => False := Eq.trans rfl rfl
theorem aop_ia : aop P m s K (.ia x i e) = match s.x i with
    | .v (.int _ n) => match s.x x with
      | .v (.sl e' xs) => e' = e ∧ (0 ≤ n ∧ n < xs.length) ∧ fA (xs[n.toNat]?) (hd (fun y => K (.fp e y) [] [] s.h) ⟨⟩)
      | .sli c => match s.h[c]? with
        | some (.fz e' xs) => e' = e ∧ (0 ≤ n ∧ n < xs.length) ∧ fA (xs[n.toNat]?) (hd (fun y => K (.fp e y) [c] [] s.h) ⟨⟩)
        | some (.row e' _ xs) => e' = e ∧ (0 ≤ n ∧ n < xs.length) ∧ K (.ep c e n 0) [c] [] s.h
        | _ => False
      | .vw c e' lo n' => match s.h[c]? with
        | some (.row e'' _ xs) => (e' = e ∧ e'' = e ∧ lo + n' ≤ xs.length) ∧ (0 ≤ n ∧ n < n') ∧ K (.ep c e (lo + n) 0) [c] [] s.h
        | _ => False
      | _ => False
    | _ => False := Eq.trans rfl rfl
theorem aop_si : aop P m s K (.si x i) = match s.x x, s.x i with
    | .v (.str b), .v (.int _ n) => (0 ≤ n ∧ n < b.size) ∧ fA (b[n.toNat]?) (hd (fun y : UInt8 => K (.v (.int .u8 y.toNat)) [] [] s.h) ⟨⟩)
    | _, _ => False := Eq.trans rfl rfl
theorem aop_ld : aop P m s K (.ld x k) = match s.x x with
    | .fp e y => e = k ∧ K (.v y) [] [] s.h
    | .fq cs => if k = 0 then oK cs[0]? (hd (fun y => K (.v y) [] [] s.h) ⟨⟩) else k ≤ cs.length ∧ K (.v (.ag (cs.take k))) [] [] s.h
    | .ptr c off => match s.h[c]? with
      | some (.box cs) => if k = 0 then oK cs[off]? (hd (fun y => K y [c] [] s.h) ⟨⟩) else off + k ≤ cs.length ∧ K (mkAg ((cs.drop off).take k)) [c] [] s.h
      | some (.fb cs) => if k = 0 then oK cs[off]? (hd (fun y => K (.v y) [c] [] s.h) ⟨⟩) else off + k ≤ cs.length ∧ K (.v (.ag ((cs.drop off).take k))) [c] [] s.h
      | _ => False
    | .ep c e n off => match s.h[c]? with
      | some (.row e' _ xs) => e' = e ∧ n.toNat < xs.length ∧ fA (xs[n.toNat]?) (hd (fun y =>
          if k = e ∧ off = 0 then K (.v y) [c] [] s.h else match y with
          | .ag cs => if k = 0 then oK cs[off]? (hd (fun z => K (.v z) [c] [] s.h) ⟨⟩) else off + k ≤ cs.length ∧ K (.v (.ag ((cs.drop off).take k))) [c] [] s.h
          | _ => False) ⟨⟩)
      | _ => False
    | _ => False := Eq.trans rfl rfl
theorem aop_st : aop P m s K (.st x y k) = match s.x x with
    | .ptr c off => match s.h[c]? with
      | some (.box cs) => oK (s.x y).cells? (hd (fun ys => ys.length = cz k ∧ off + cz k ≤ cs.length ∧ K .ud [c] [c] (s.h.set c (.box (put cs off ys)))) ⟨⟩)
      | _ => False
    | .ep c e n off => match s.h[c]? with
      | some (.row e' t xs) => if k = e ∧ off = 0 then oK (toV s.h (s.x y)) (hd (fun z => e' = e ∧ n.toNat < xs.length ∧ shape e z ∧ K .ud [c] [c] (s.h.set c (.row e t (xs.set n.toNat z)))) ⟨⟩)
        else oK (toV s.h (s.x y)) (hd (fun z => e' = e ∧ n.toNat < xs.length ∧ z.cs.length = cz k ∧ fA (xs[n.toNat]?) (hd (fun x => off + cz k ≤ x.cs.length ∧ x.isAg = true ∧ K .ud [c] [c] (s.h.set c (.row e t (xs.set n.toNat (.ag (put x.cs off z.cs)))))) ⟨⟩)) ⟨⟩)
      | _ => False
    | _ => False := Eq.trans rfl rfl
theorem aop_bld {zs : List A} {ps : List (Nat × Nat × X)} : aop P m s K (.bld zs ps) = oK (fillA zs (ps.map fun p => (p.1, p.2.1, s.x p.2.2))) (hd (fun cs => K (mkAg cs) [] [] s.h) ⟨⟩) := Eq.trans rfl rfl
theorem aop_bsl {t : Nat} {ps : List X} : aop P m s K (.bsl e t ps) = oK (toVs s.h (ps.map s.x)) (hd (fun zs => (∀ z ∈ zs, shape e z) ∧ K (.sli s.h.length) [] [s.h.length] (s.h ++ [.row e t zs])) ⟨⟩) := Eq.trans rfl rfl
theorem aop_box : aop P m s K (.box x) = oK (s.x x).cells? (hd (fun cs => K (.ptr s.h.length 0) [] [s.h.length] (s.h ++ [.box cs])) ⟨⟩) := Eq.trans rfl rfl
theorem aop_al {zs : List A} : aop P m s K (.al zs) = K (.ptr s.h.length 0) [] [s.h.length] (s.h ++ [.box zs]) := Eq.trans rfl rfl
theorem aop_mk {t b : Nat} {z : V} {n c : X} : aop P m s K (.mk e t b z n c) = match s.x n, s.x c with
    | .v (.int _ l), .v (.int _ c') => (0 ≤ l ∧ l ≤ c' ∧ b * c' ≤ 140737488355328 ∧ c' ≤ 140737488355328) ∧ K (.sli s.h.length) [] [s.h.length] (s.h ++ [.row e t (List.replicate l.toNat z)])
    | _, _ => False := Eq.trans rfl rfl
theorem aop_ssub {lo hi : Option X} : aop P m s K (.ssub x lo hi) = match s.x x with
    | .v (.str b) => oK (optI s 0 lo) (hd (fun l => oK (optI s b.size hi) (hd (fun h => (0 ≤ l ∧ l ≤ h ∧ h ≤ b.size) ∧ K (.v (.str (b.extract l.toNat h.toNat))) [] [] s.h) ⟨⟩)) ⟨⟩)
    | _ => False := Eq.trans rfl rfl
theorem aop_sub {lo hi : Option X} : aop P m s K (.sub e x lo hi) = match s.x x with
    | .v (.sl e' xs) => e' = e ∧ oK (optI s 0 lo) (hd (fun l => oK (optI s xs.length hi) (hd (fun h => (0 ≤ l ∧ l ≤ h ∧ h ≤ xs.length) ∧ K (.v (.sl e ((xs.drop l.toNat).take (h.toNat - l.toNat)))) [] [] s.h) ⟨⟩)) ⟨⟩)
    | .sli c => match s.h[c]? with
      | some (.fz e' xs) => e' = e ∧ oK (optI s 0 lo) (hd (fun l => oK (optI s xs.length hi) (hd (fun h => (0 ≤ l ∧ l ≤ h ∧ h ≤ xs.length) ∧ K (.v (.sl e ((xs.drop l.toNat).take (h.toNat - l.toNat)))) [c] [] s.h) ⟨⟩)) ⟨⟩)
      | some (.row e' t xs) => e' = e ∧ oK (optI s 0 lo) (hd (fun l => oK (optI s xs.length hi) (hd (fun h => (0 ≤ l ∧ l ≤ h ∧ h ≤ xs.length) ∧
          if m 1000000 = true ∧ lo.isNone = true then K (.sli s.h.length) [c] [c, s.h.length] (s.h.set c .gone ++ [.row e t (xs.take h.toNat)]) else K (.vw c e l.toNat (h.toNat - l.toNat)) [c] [] s.h) ⟨⟩)) ⟨⟩)
      | _ => False
    | _ => False := Eq.trans rfl rfl
theorem aop_ext {j : Nat} : aop P m s K (.ext x j) = match s.x x with
    | .tu vs => oK vs[j]? (hd (fun a => K a [] [] s.h) ⟨⟩)
    | _ => False := Eq.trans rfl rfl
theorem aop_call {f : Nat} {xs : List X} : aop P m s K (.call f xs) = if m f = true then callM P s K f (xs.map s.x) else callS P s K f (xs.map s.x) := Eq.trans rfl rfl
theorem aop_callv {xs : List X} : aop P m s K (.callv x xs) = match s.x x with
    | .fn f cs => callS P s K f (xs.map s.x ++ cs)
    | _ => False := Eq.trans rfl rfl
theorem aop_slen : aop P m s K (.len true x) = match s.x x with
    | .v (.str b) => K (.v (.int .i64 b.size)) [] [] s.h
    | _ => False := Eq.trans rfl rfl
theorem aop_len : aop P m s K (.len false x) = oK (rowOf s.h (s.x x)) (hd (fun (_, xs, rd) => K (.v (.int .i64 xs.length)) rd [] s.h) ⟨⟩) := Eq.trans rfl rfl
theorem aop_app {t b : Nat} : aop P m s K (.app e t b x y) = oK (rowOf s.h (s.x y)) (hd (fun (e0, ys, rd) => e0 = e ∧ match s.x x with
    | .nil _ => (ys ≠ [] ∧ ys.length * b ≤ 140737488355328 ∧ ys.length ≤ 140737488355328) ∧ K (.sli s.h.length) rd [s.h.length] (s.h ++ [.row e t ys])
    | .sli c => match s.h[c]? with
      | some (.row e' t' xs) => e' = e ∧ t' = t ∧ c ∉ rd ∧ ((xs.length + ys.length) * b ≤ 140737488355328 ∧ xs.length + ys.length ≤ 140737488355328) ∧
          K (.sli s.h.length) (c :: rd) [c, s.h.length] (s.h.set c .gone ++ [.row e t (xs ++ ys)])
      | _ => False
    | _ => False) ⟨⟩) := Eq.trans rfl rfl
theorem aop_mm {g : Bool} : aop P m s K (.mm g x y) = match s.x x, s.x y with
    | .v (.int k a), .v (.int _ b) => K (.v (.int k (if g = true then (if b > a then b else a) else (if b < a then b else a)))) [] [] s.h
    | _, _ => False := Eq.trans rfl rfl
theorem aop_nck : aop P m s K (.nck x) = match s.x x with
    | .ptr i o => K (.ptr i o) [] [] s.h
    | .ep i e n o => K (.ep i e n o) [] [] s.h
    | .fq cs => K (.fq cs) [] [] s.h
    | .fp e y => K (.fp e y) [] [] s.h
    | _ => False := Eq.trans rfl rfl
theorem aop_clr {z : V} : aop P m s K (.clr e z x) = match s.x x with
    | .vw c e' lo n => match s.h[c]? with
      | some (.row e0 t xs) => e0 = e ∧ e' = e ∧ lo + n ≤ xs.length ∧ K (.tu []) [c] [c] (s.h.set c (.row e t (xs.take lo ++ List.replicate n z ++ xs.drop (lo + n))))
      | _ => False
    | _ => False := Eq.trans rfl rfl
theorem aop_mkm : aop P m s K .mkm = K (.mp s.h.length) [] [s.h.length] (s.h ++ [.map [] []]) := Eq.trans rfl rfl
theorem aop_mlk {n : Nat} {ts : List Nat} {z : V} {ok : Bool} : aop P m s K (.mlk n ts z ok x i) = match s.x i with
    | .v k => match s.x x with
      | .mp c => match s.h[c]? with
        | some (.map _ es) => keyed n ts k es ∧ K (lkA z ok (mget k es)) [c] [] s.h
        | _ => False
      | _ => False
    | _ => False := Eq.trans rfl rfl
theorem aop_mup {n : Nat} {ts : List Nat} : aop P m s K (.mup n ts x i y) = match s.x i with
    | .v k => match s.x x with
      | .mp c => match s.h[c]? with
        | some (.map _ es) => oK (toV s.h (s.x y)) (hd (fun v => keyed n ts k es ∧ K .ud [c] [c] (s.h.set c (.map [] (mput k v es)))) ⟨⟩)
        | _ => False
      | _ => False
    | _ => False := Eq.trans rfl rfl
theorem aop_aps {t b : Nat} : aop P m s K (.aps t b x y) = match s.x y with
    | .v (.str bs) => match s.x x with
      | .nil _ => (0 < bs.size ∧ bs.size * b ≤ 140737488355328 ∧ bs.size ≤ 140737488355328) ∧ K (.sli s.h.length) [] [s.h.length] (s.h ++ [.row 0 t (bsV bs)])
      | .sli c => match s.h[c]? with
        | some (.row e' t' xs) => e' = 0 ∧ t' = t ∧ ((xs.length + bs.size) * b ≤ 140737488355328 ∧ xs.length + bs.size ≤ 140737488355328) ∧ K (.sli s.h.length) [c] [c, s.h.length] (s.h.set c .gone ++ [.row 0 t (xs ++ bsV bs)])
        | _ => False
      | _ => False
    | _ => False := Eq.trans rfl rfl
theorem aop_b2s : aop P m s K (.b2s x) = oK (rowOf s.h (s.x x)) (hd (fun (e, xs, rd) => e = 0 ∧ oK (unBs xs) (hd (fun l => K (.v (.str ⟨l.toArray⟩)) rd [] s.h) ⟨⟩)) ⟨⟩) := Eq.trans rfl rfl
theorem aop_mln : aop P m s K (.mln x) = match s.x x with
    | .mp c => match s.h[c]? with
      | some (.map _ es) => K (.v (.int .i64 es.length)) [c] [] s.h
      | _ => False
    | _ => False := Eq.trans rfl rfl
theorem aop_bad : aop P m s K .bad = False := Eq.trans rfl rfl
theorem aop_mkf {f : Nat} {xs : List X} : aop P m s K (.mkf f xs) = oK (frzH s.h (capJ s.h (xs.map s.x)) 0 s.h) (hd (fun h' => oK (capAs h' (xs.map s.x)) (hd (fun cs => K (.fn f cs) [] (capJ s.h (xs.map s.x)) h') ⟨⟩)) ⟨⟩) := Eq.trans rfl rfl
end
def forQ {α : Type} (k0 : Nat) (ks : List Bool) (F : α → St) (p : α → Prop) (v : α → Nat) (x : α) (Q : Ex → St → Prop) : Ex → St → Prop := fun e s' => match e with | .nrm => ∃ y, s'.cmp k0 ks = F y ∧ p y ∧ v y < v x | e => Q e s'
section
variable {α : Type} {ks : List Bool} {F : α → St} {p : α → Prop} {v : α → Nat} {x : α}
theorem forQ_nrm : forQ k0 ks F p v x Q .nrm s = ∃ y, s.cmp k0 ks = F y ∧ p y ∧ v y < v x := Eq.trans rfl rfl
theorem forQ_exit {i : Nat} : forQ k0 ks F p v x Q (.exit i) s = Q (.exit i) s := Eq.trans rfl rfl
theorem forQ_ret : forQ k0 ks F p v x Q .ret s = Q .ret s := Eq.trans rfl rfl
end
/-- A loop, by what its slots and chunks are at its head: told by an x of which p holds, v of it falls; the slots ks are read again. -/
theorem awp_for {α : Type} {b : AC} {s : St} (ks : List Bool) (F : α → St) (p : α → Prop) (v : α → Nat) (x0 : α) (h0 : s.cmp k0 ks = F x0 ∧ p x0)
    (h : ∀ x, p x → awp P m k0 b (forQ k0 ks F p v x Q) (F x)) : awp P m k0 (.loop b) Q s := by
  refine ⟨fun n s => ∃ x, s = F x ∧ p x ∧ v x = n, ks, ⟨_, x0, h0.1, h0.2, rfl⟩, ?_⟩
  rintro n s ⟨x, rfl, hp, rfl⟩
  have e : (fun (e : Ex) (s' : St) => match e with | .nrm => ∃ j, j < v x ∧ ∃ x, s'.cmp k0 ks = F x ∧ p x ∧ v x = j | e => Q e s') = forQ k0 ks F p v x Q := by
    funext e s'
    cases e <;> simp only [forQ]
    apply propext
    constructor
    · rintro ⟨j, h1, y, h2, h3, rfl⟩; exact ⟨y, h2, h3, h1⟩
    · rintro ⟨y, h2, h3, h4⟩; exact ⟨_, h4, y, h2, h3, rfl⟩
  have := h x hp
  rw [← e] at this
  exact this
def updT : List A → List (Nat × A) → List A
  | t, [] => t
  | t, (i, a) :: r => updT (t.set i a) r
def updH : List Ck → List (Nat × Ck) → List Ck
  | h, [] => h
  | h, (i, c) :: r => updH (if i < h.length then h.set i c else h ++ [c]) r
/-- A state with some slots and chunks told anew. -/
def St.upd (s : St) (ms : List (Nat × A)) (cs : List (Nat × Ck)) : St := ⟨updT s.t ms, updH s.h cs⟩
/-- A loop, by the slots (ms) and the chunks (cs) that it changes. -/
theorem awp_it {α : Type} {b : AC} {s : St} (ks : List Bool) (ms : α → List (Nat × A)) (cs : α → List (Nat × Ck)) (p : α → Prop) (v : α → Nat) (x0 : α)
    (h : ∀ s0, s.cmp k0 ks = s0 → (s0 = s0.upd (ms x0) (cs x0) ∧ p x0) ∧ ∀ x, p x → awp P m k0 b (forQ k0 ks (fun x => s0.upd (ms x) (cs x)) p v x Q) (s0.upd (ms x) (cs x))) : awp P m k0 (.loop b) Q s :=
  awp_for ks (fun x => (s.cmp k0 ks).upd (ms x) (cs x)) p v x0 (h _ rfl).1 (h _ rfl).2
theorem sp_of {f : Nat} {fn : Func} {np nt : Nat} {rs : List (Nat × Option Nat)} {body : AC} {az : List A} {r : A} {hs : List Ck} (hm : P.follows .mixedOrders = true) (hf : P.funcs[f]? = some fn) (hc : cF P fn = some ⟨np, nt, rs, body⟩) (h : awp P m 0 body (endQ 0 rs r hs) ⟨az ++ List.replicate (nt - az.length) .ud, []⟩) : Sp P f az r hs := spg_of hm hf hc h
theorem sg_of {f : Nat} {fn : Func} {np nt : Nat} {rs : List (Nat × Option Nat)} {body : AC} {az : List A} {hin : List Ck} {r : A} {hs : List Ck} (hm : P.follows .mixedOrders = true) (hf : P.funcs[f]? = some fn) (hc : cF P fn = some ⟨np, nt, rs, body⟩) (h : awp P m hin.length body (endQ hin.length rs r hs) ⟨az ++ List.replicate (nt - az.length) .ud, hin⟩) : SpG P f az hin r hs := spg_of hm hf hc h
/-- A call, by its contract. -/
theorem call_of {K : KT} {f : Nat} {az bs : List A} {rd : List Nat} {r : A} {hs : List Ck} (h : Sp P f bs r hs) (h1 : toArgs s.h az = some (bs, rd)) (h2 : (r.res = true ∧ ∀ c ∈ hs, c.isRow = true) ∧ (rd = [] ∨ r.flats = true ∧ ∀ c ∈ hs, c.flat))
    (h3 : K (r.shift s.h.length) rd ((List.range hs.length).map (s.h.length + ·)) (s.h ++ hs)) : callS P s K f az := ⟨(bs, rd), h1, r, hs, h, h2.1, h2.2, h3⟩
theorem callM_of {K : KT} {f : Nat} {az bs : List A} {L : List Nat} {r : A} {hs : List Ck} (h1 : toMs s.h az [] = some (bs, L)) (h : SpG P f bs (L.map fun i => s.h.getD i .gone) r hs) (h2 : hs.all Ck.okM = true ∧ r.isM = true ∧ L.length ≤ hs.length)
    (h3 : K (r.ren L s.h.length) L (L ++ (List.range (hs.length - L.length)).map (s.h.length + ·)) (putCks s.h L hs ++ hs.drop L.length)) : callM P s K f az := ⟨(bs, L), h1, r, hs, h, h2, h3⟩
theorem fp_one {tb : List Nat} {f : FP} (h : fpOk tb f = true) : fpOk tb f = true := h
theorem fp_and {tb : List Nat} {f : FP} {p : Prop} (h : fpOk tb f = true) (k : p) : fpOk tb f = true ∧ p := ⟨h, k⟩
theorem br_l {a b p q : Prop} (h : a) (n : ¬ b) (k : p) : (a → p) ∧ (b → q) := ⟨fun _ => k, fun e => absurd e n⟩
theorem br_r {a b p q : Prop} (n : ¬ a) (h : b) (k : q) : (a → p) ∧ (b → q) := ⟨fun e => absurd e n, fun _ => k⟩
theorem br_p {a p q : Prop} (h : a) (n : q) (k : p) : (a → p) ∧ q := ⟨fun _ => k, n⟩
theorem br_q {b p q : Prop} (n : p) (h : b) (k : q) : p ∧ (b → q) := ⟨n, fun _ => k⟩
theorem and_of {p q : Prop} (h : p) (k : p → q) : p ∧ q := ⟨h, k h⟩
end
/-- Nothing is written. -/
def noWr : FP → Bool
  | [] => true
  | (_, w) :: f => w.isEmpty && noWr f
theorem noWr_get : ∀ {f : FP} {i : Nat} {r w : List Nat}, noWr f = true → f[i]? = some (r, w) → w = []
  | [], _, _, _, _, h => by simp at h
  | (r0, w0) :: f, 0, r, w, hn, h => by
    simp only [noWr, Bool.and_eq_true, List.isEmpty_iff] at hn
    simp at h
    exact h.2 ▸ hn.1
  | (r0, w0) :: f, i + 1, r, w, hn, h => by
    simp only [noWr, Bool.and_eq_true] at hn
    exact noWr_get (i := i) hn.2 (by simpa using h)
theorem fpOk_pure {tb : List Nat} {f : FP} (h : noWr f = true) : fpOk tb f = true := by
  unfold fpOk
  simp only [List.all_eq_true, List.mem_range]
  intro j _ i _
  cases hi : f[i]? with
  | none => simp
  | some p => cases hj : f[j]? with
    | none => simp
    | some q =>
      obtain ⟨r1, w1⟩ := p
      obtain ⟨r2, w2⟩ := q
      have e1 := noWr_get h hi
      have e2 := noWr_get h hj
      subst e1 e2
      simp
theorem w64 {n : Int} (h1 : -9223372036854775808 ≤ n) (h2 : n ≤ 9223372036854775807) : IntKind.i64.wrap n = n := by rw [IntKind.wrap_i64]; omega
attribute [simp low] condQ_any gdK_any pickK_any
attribute [simp] condQ_t condQ_f gdK_tt gdK_ff gdK_tf gdK_ft pickK_t pickK_f hd_app seqQ_nrm seqQ_exit seqQ_ret blkQ_nrm blkQ_exit blkQ_ret endQ_nrm endQ_exit endQ_ret opsK_app regK_app oneK_app putK_app forQ_nrm forQ_exit forQ_ret awp_skip awp_ops awp_reg awp_seq awp_block awp_exit awp_ret awp_bad awp_cond aops_nil aops_cons aAO_none aAO_some aop_mv aop_pick aop_bin aop_eq aop_eqn aop_un aop_conv aop_fld aop_fa aop_ia aop_si aop_ld aop_st aop_bld aop_bsl aop_box aop_al aop_mk aop_ssub aop_sub aop_ext aop_call aop_callv aop_slen aop_len aop_app aop_mm aop_nck aop_clr aop_mkm aop_mlk aop_mup aop_mln aop_b2s aop_aps aop_bad aop_mkf fA_none fA_some fA_map fA_omap St.x St.set St.setX binF binI binS unF optI fldF fillA put rowOf toV toVs A.cells? mkAg allV shape V.isAg V.nc cz
  eqT eq1 V.cs oK_some oK_none oK_ite oK_ite' retOk resAs resA retV retVs okR okRs newIds newIdss unR fpOk_pure noWr toArg1 toLs toArg toArgs A.res ress A.flats flatss V.flat flats Ck.isRow Ck.flat A.shift shifts A.shut
  A.rn rns Ck.rn addI idsA idsAs idB rnB idsT idsH idsH2 upTo cmpT cmpL St.cmp updT updH St.upd
  sliIds capJ toF toFs frzC frzH capA capAs
  toM toMs posL Ck.okM A.isM isMs renI A.ren rens putCks
end Go.Proofs.YtgkhakhkebjbpaaEv
namespace Go.Proofs.YtgkhakhkebjbpaaEv
open Go Go.Proofs
def q (d : Nat) (o : O) : AO := ⟨some d, none, o⟩
def c2 : AF := ⟨0,1,[],(.ops [q 0 (.call 1 [])])⟩
theorem k2 : cF Try.prog Try.f2 = some c2 := by kernel_rfl
def c3 : AF := ⟨1,211,[(2,none)],(.seq (.ops [q 2 (.mv (.c (.v (.bool false))))]) (.seq (.seq (.ops [q 32 (.mv (.t 0)),q 33 (.call 4 [(.t 32)])]) (.cond (.t 33) (.seq (.ops [q 2 (.mv (.c (.v (.bool true))))]) .ret) .skip)) (.seq (.ops [q 35 (.mv (.t 0)),q 36 (.call 5 [(.t 35)]),q 34 (.mv (.t 36)),q 37 (.ext (.t 34) 0),q 38 (.ext (.t 34) 1),q 3 (.al [(.v (.int .i64 0)),(.v (.int .i64 0)),(.v (.int .i64 0)),(.v (.int .i64 0)),(.nil 0)]),⟨none,none,.st (.t 3) (.t 37) 5⟩,q 4 (.mv (.t 38))]) (.seq (.ops [q 40 (.ld (.t 3) 5),q 41 (.mv (.t 4)),q 42 (.call 6 [(.t 40),(.t 41)]),q 39 (.mv (.t 42)),q 43 (.ext (.t 39) 0),q 44 (.ext (.t 39) 1),q 5 (.al [(.v (.int .i64 0)),(.v (.int .i64 0)),(.v (.int .i64 0)),(.v (.int .i64 0)),(.nil 0)]),⟨none,none,.st (.t 5) (.t 43) 5⟩,q 6 (.mv (.t 44))]) (.seq (.ops [q 46 (.ld (.t 3) 5),q 47 (.mv (.t 4)),q 48 (.call 7 [(.t 46),(.t 47)]),q 45 (.mv (.t 48)),q 49 (.ext (.t 45) 0),q 50 (.ext (.t 45) 1),q 7 (.al [(.v (.int .i64 0)),(.v (.int .i64 0)),(.v (.int .i64 0)),(.v (.int .i64 0)),(.nil 0)]),⟨none,none,.st (.t 7) (.t 49) 5⟩,q 8 (.mv (.t 50))]) (.seq (.ops [q 52 (.mv (.t 0)),q 53 (.call 8 [(.t 52)]),q 51 (.mv (.t 53)),q 54 (.ext (.t 51) 0),q 55 (.ext (.t 51) 1),q 56 (.ext (.t 51) 2),q 9 (.al [(.v (.int .i64 0)),(.v (.int .i64 0)),(.v (.int .i64 0)),(.v (.int .i64 0)),(.nil 0)]),q 10 (.al [(.v (.int .i64 0)),(.v (.int .i64 0)),(.v (.int .i64 0)),(.v (.int .i64 0)),(.nil 0)]),⟨none,none,.st (.t 9) (.t 54) 5⟩,⟨none,none,.st (.t 10) (.t 55) 5⟩,q 11 (.mv (.t 56))]) (.seq (.ops [q 58 (.ld (.t 9) 5),q 59 (.ld (.t 10) 5),q 60 (.mv (.t 11)),q 61 (.call 9 [(.t 58),(.t 59),(.t 60)]),q 57 (.mv (.t 61)),q 62 (.ext (.t 57) 0),q 63 (.ext (.t 57) 1),q 12 (.al [(.v (.int .i64 0)),(.v (.int .i64 0)),(.v (.int .i64 0)),(.v (.int .i64 0)),(.nil 0)]),⟨none,none,.st (.t 12) (.t 62) 5⟩,q 13 (.mv (.t 63))]) (.seq (.ops [q 65 (.ld (.t 9) 5),q 66 (.ld (.t 10) 5),q 67 (.mv (.t 11)),q 68 (.call 10 [(.t 65),(.t 66),(.t 67)]),q 64 (.mv (.t 68)),q 69 (.ext (.t 64) 0),q 70 (.ext (.t 64) 1),q 14 (.al [(.v (.int .i64 0)),(.v (.int .i64 0)),(.v (.int .i64 0)),(.v (.int .i64 0)),(.nil 0)]),⟨none,none,.st (.t 14) (.t 69) 5⟩,q 15 (.mv (.t 70))]) (.seq (.ops [q 71 (.mv (.t 0)),q 72 (.call 11 [(.t 71)]),q 16 (.al [(.v (.int .i64 0)),(.v (.int .i64 0)),(.v (.int .i64 0)),(.v (.int .i64 0)),(.nil 0)]),⟨none,none,.st (.t 16) (.t 72) 5⟩]) (.seq (.ops [q 74 (.ld (.t 16) 5),q 75 (.call 12 [(.t 74)]),q 73 (.mv (.t 75)),q 76 (.ext (.t 73) 0),q 77 (.ext (.t 73) 1),q 17 (.al [(.v (.int .i64 0)),(.v (.int .i64 0)),(.v (.int .i64 0)),(.v (.int .i64 0)),(.nil 0)]),⟨none,none,.st (.t 17) (.t 76) 5⟩,q 18 (.mv (.t 77))]) (.seq (.ops [q 79 (.ld (.t 16) 5),q 80 (.call 13 [(.t 79)]),q 78 (.mv (.t 80)),q 81 (.ext (.t 78) 0),q 82 (.ext (.t 78) 1),q 19 (.al [(.v (.int .i64 0)),(.v (.int .i64 0)),(.v (.int .i64 0)),(.v (.int .i64 0)),(.nil 0)]),⟨none,none,.st (.t 19) (.t 81) 5⟩,q 20 (.mv (.t 82))]) (.seq (.ops [q 84 (.ld (.t 3) 5),q 85 (.mv (.t 4)),q 86 (.call 14 [(.t 84),(.t 85)]),q 83 (.mv (.t 86)),q 87 (.ext (.t 83) 0),q 88 (.ext (.t 83) 1),q 21 (.mv (.t 87)),q 22 (.mv (.t 88))]) (.seq (.ops [q 90 (.ld (.t 3) 5),q 91 (.mv (.t 4)),q 92 (.call 15 [(.t 90),(.t 91)]),q 89 (.mv (.t 92)),q 93 (.ext (.t 89) 0),q 94 (.ext (.t 89) 1),q 23 (.mv (.t 93)),q 24 (.mv (.t 94))]) (.seq (.seq (.ops [q 95 (.mv (.t 6)),q 96 (.mv (.t 8)),q 97 (.bin .neq (.t 95) (.t 96)),q 98 (.mv (.t 97)),⟨(some 99),(some (98,false)),.ld (.t 5) 5⟩,⟨(some 100),(some (98,false)),.ld (.t 7) 5⟩,⟨(some 101),(some (98,false)),.call 16 [(.t 99),(.t 100)]⟩,⟨(some 102),(some (98,false)),.un .not (.t 101)⟩,q 103 (.pick (.t 98) (.c (.v (.bool true))) (.t 102)),q 104 (.mv (.t 103)),⟨(some 105),(some (104,false)),.mv (.t 13)⟩,⟨(some 106),(some (104,false)),.mv (.t 15)⟩,⟨(some 107),(some (104,false)),.bin .neq (.t 105) (.t 106)⟩,q 108 (.pick (.t 104) (.c (.v (.bool true))) (.t 107)),q 109 (.mv (.t 108)),⟨(some 110),(some (109,false)),.ld (.t 12) 5⟩,⟨(some 111),(some (109,false)),.ld (.t 14) 5⟩,⟨(some 112),(some (109,false)),.call 16 [(.t 110),(.t 111)]⟩,⟨(some 113),(some (109,false)),.un .not (.t 112)⟩,q 114 (.pick (.t 109) (.c (.v (.bool true))) (.t 113)),q 115 (.mv (.t 114)),⟨(some 116),(some (115,false)),.mv (.t 18)⟩,⟨(some 117),(some (115,false)),.mv (.t 20)⟩,⟨(some 118),(some (115,false)),.bin .neq (.t 116) (.t 117)⟩,q 119 (.pick (.t 115) (.c (.v (.bool true))) (.t 118)),q 120 (.mv (.t 119)),⟨(some 121),(some (120,false)),.ld (.t 17) 5⟩,⟨(some 122),(some (120,false)),.ld (.t 19) 5⟩,⟨(some 123),(some (120,false)),.call 16 [(.t 121),(.t 122)]⟩,⟨(some 124),(some (120,false)),.un .not (.t 123)⟩,q 125 (.pick (.t 120) (.c (.v (.bool true))) (.t 124)),q 126 (.mv (.t 125)),⟨(some 127),(some (126,false)),.mv (.t 22)⟩,⟨(some 128),(some (126,false)),.mv (.t 24)⟩,⟨(some 129),(some (126,false)),.bin .neq (.t 127) (.t 128)⟩,q 130 (.pick (.t 126) (.c (.v (.bool true))) (.t 129)),q 131 (.mv (.t 130)),⟨(some 132),(some (131,false)),.mv (.t 21)⟩,⟨(some 133),(some (131,false)),.mv (.t 23)⟩,⟨(some 134),(some (131,false)),.bin .neq (.t 132) (.t 133)⟩,q 135 (.pick (.t 131) (.c (.v (.bool true))) (.t 134)),q 136 (.mv (.t 135)),⟨(some 137),(some (136,false)),.mv (.t 22)⟩,⟨(some 138),(some (136,false)),.mv (.t 6)⟩,⟨(some 139),(some (136,false)),.bin .neq (.t 137) (.t 138)⟩,q 140 (.pick (.t 136) (.c (.v (.bool true))) (.t 139))]) (.cond (.t 140) (.seq (.ops [q 2 (.mv (.c (.v (.bool false))))]) .ret) .skip)) (.seq (.seq (.ops [q 25 (.mv (.c (.v (.int .i64 0))))]) (.block 0 (.loop (.seq (.seq (.ops [q 141 (.mv (.t 18)),q 142 (.bin .eql (.t 141) (.c (.v (.int .i64 0)))),q 143 (.mv (.t 142)),⟨(some 144),(some (143,true)),.mv (.t 25)⟩,⟨(some 145),(some (143,true)),.fa (.t 16) 4⟩,⟨(some 146),(some (143,true)),.ld (.t 145) 0⟩,⟨(some 147),(some (143,true)),.len false (.t 146)⟩,⟨(some 148),(some (143,true)),.bin .lss (.t 144) (.t 147)⟩,q 149 (.pick (.t 143) (.t 148) (.c (.v (.bool false))))]) (.cond (.t 149) .skip (.exit 0))) (.seq (.block 1 (.seq (.reg [0,1,0,7,15,0,32,0,224,480,1023] [q 152 (.fa (.t 17) 4),q 153 (.ld (.t 152) 0),q 154 (.mv (.t 25)),q 155 (.ia (.t 153) (.t 154) 0),q 156 (.ld (.t 155) 0),q 157 (.fa (.t 16) 4),q 158 (.ld (.t 157) 0),q 159 (.mv (.t 25)),q 160 (.ia (.t 158) (.t 159) 0),q 161 (.ld (.t 160) 0),q 162 (.bin .lss (.t 156) (.t 161))]) (.cond (.t 162) (.seq (.ops [q 2 (.mv (.c (.v (.bool false))))]) .ret) .skip))) (.ops [q 150 (.mv (.t 25)),q 151 (.bin .add (.t 150) (.c (.v (.int .i64 1)))),q 25 (.mv (.t 151))])))))) (.seq (.seq (.ops [q 163 (.mv (.t 6)),q 164 (.bin .neq (.t 163) (.c (.v (.int .i64 0))))]) (.cond (.t 164) (.seq (.ops [q 2 (.mv (.c (.v (.bool true))))]) .ret) .skip)) (.seq (.seq (.reg [0,0,2,6,14,0,32,96,254,511] [q 165 (.mv (.t 21)),q 166 (.fa (.t 5) 4),q 167 (.ld (.t 166) 0),q 168 (.call 17 [(.t 167)]),q 169 (.bin .mul (.c (.v (.int .i64 1000))) (.t 168)),q 170 (.fa (.t 5) 4),q 171 (.ld (.t 170) 0),q 172 (.len false (.t 171)),q 173 (.bin .quo (.t 169) (.t 172)),q 174 (.bin .neq (.t 165) (.t 173))]) (.cond (.t 174) (.seq (.ops [q 2 (.mv (.c (.v (.bool false))))]) .ret) .skip)) (.seq (.reg [0,1,0,4,0,16,48,112,255,0,1023] [q 175 (.fa (.t 3) 0),q 176 (.ld (.t 175) 0),q 177 (.fa (.t 3) 1),q 178 (.ld (.t 177) 3),q 179 (.fa (.t 3) 4),q 180 (.ld (.t 179) 0),q 181 (.len false (.t 180)),q 182 (.mk 0 2 8 (.int .i64 0) (.t 181) (.t 181)),q 183 (.bld [(.v (.int .i64 0)),(.v (.int .i64 0)),(.v (.int .i64 0)),(.v (.int .i64 0)),(.nil 0)] [(0,1,(.t 176)),(1,3,(.t 178)),(4,1,(.t 182))]),q 26 (.al [(.v (.int .i64 0)),(.v (.int .i64 0)),(.v (.int .i64 0)),(.v (.int .i64 0)),(.nil 0)]),⟨none,none,.st (.t 26) (.t 183) 5⟩]) (.seq (.seq (.ops [q 27 (.mv (.c (.v (.int .i64 1))))]) (.block 2 (.loop (.seq (.seq (.ops [q 184 (.mv (.t 27)),q 185 (.bin .leq (.t 184) (.c (.v (.int .i64 9))))]) (.cond (.t 185) .skip (.exit 2))) (.seq (.block 3 (.seq (.ops [q 189 (.ld (.t 3) 5),q 190 (.mv (.t 27)),q 191 (.call 6 [(.t 189),(.t 190)]),q 188 (.mv (.t 191)),q 192 (.ext (.t 188) 0),q 193 (.ext (.t 188) 1),q 28 (.al [(.v (.int .i64 0)),(.v (.int .i64 0)),(.v (.int .i64 0)),(.v (.int .i64 0)),(.nil 0)]),⟨none,none,.st (.t 28) (.t 192) 5⟩,q 29 (.mv (.t 193))]) (.seq (.ops [q 195 (.ld (.t 26) 5),q 196 (.ld (.t 28) 5),q 197 (.mv (.t 27)),q 198 (.call 9 [(.t 195),(.t 196),(.t 197)]),q 194 (.mv (.t 198)),q 199 (.ext (.t 194) 0),q 200 (.ext (.t 194) 1),q 30 (.al [(.v (.int .i64 0)),(.v (.int .i64 0)),(.v (.int .i64 0)),(.v (.int .i64 0)),(.nil 0)]),⟨none,none,.st (.t 30) (.t 199) 5⟩,q 31 (.mv (.t 200))]) (.seq (.seq (.ops [q 201 (.mv (.t 29)),q 202 (.bin .neq (.t 201) (.c (.v (.int .i64 0)))),q 203 (.mv (.t 202)),⟨(some 204),(some (203,false)),.mv (.t 31)⟩,⟨(some 205),(some (203,false)),.bin .neq (.t 204) (.c (.v (.int .i64 0)))⟩,q 206 (.pick (.t 203) (.c (.v (.bool true))) (.t 205))]) (.cond (.t 206) (.seq (.ops [q 2 (.mv (.c (.v (.bool false))))]) .ret) .skip)) (.ops [q 207 (.ld (.t 30) 5),⟨none,none,.st (.t 26) (.t 207) 5⟩]))))) (.ops [q 186 (.mv (.t 27)),q 187 (.bin .add (.t 186) (.c (.v (.int .i64 1)))),q 27 (.mv (.t 187))])))))) (.seq (.ops [q 208 (.ld (.t 26) 5),q 209 (.ld (.t 3) 5),q 210 (.call 16 [(.t 208),(.t 209)]),q 2 (.mv (.t 210))]) .ret))))))))))))))))))))⟩
theorem k3 : cF Try.prog Try.f3 = some c3 := by kernel_rfl
def c4 : AF := ⟨1,6,[(2,none)],(.seq (.ops [q 2 (.mv (.c (.v (.bool false))))]) (.seq (.ops [q 3 (.mv (.t 0)),q 4 (.len false (.t 3)),q 5 (.bin .gtr (.t 4) (.c (.v (.int .i64 4096)))),q 2 (.mv (.t 5))]) .ret))⟩
theorem k4 : cF Try.prog Try.f4 = some c4 := by kernel_rfl
def c5 : AF := ⟨1,11,[(2,(some 5)),(3,none)],(.seq (.ops [q 2 (.al [(.v (.int .i64 0)),(.v (.int .i64 0)),(.v (.int .i64 0)),(.v (.int .i64 0)),(.nil 0)]),q 3 (.mv (.c (.v (.int .i64 0))))]) (.seq (.ops [q 5 (.mv (.t 0)),q 6 (.call 18 [(.t 5)]),q 4 (.mv (.t 6))]) (.seq (.ops [q 7 (.mv (.t 4)),q 8 (.call 19 [(.t 7)]),q 9 (.mv (.t 4)),q 10 (.call 20 [(.t 9)]),⟨none,none,.st (.t 2) (.t 8) 5⟩,q 3 (.mv (.t 10))]) .ret)))⟩
theorem k5 : cF Try.prog Try.f5 = some c5 := by kernel_rfl
def c6 : AF := ⟨2,17,[(4,(some 5)),(5,none)],(.seq (.ops [q 2 (.box (.t 0)),q 4 (.al [(.v (.int .i64 0)),(.v (.int .i64 0)),(.v (.int .i64 0)),(.v (.int .i64 0)),(.nil 0)]),q 5 (.mv (.c (.v (.int .i64 0))))]) (.seq (.seq (.ops [q 6 (.ld (.t 2) 5),q 7 (.call 21 [(.t 6)]),q 8 (.un .not (.t 7))]) (.cond (.t 8) (.seq (.ops [q 9 (.bld [(.v (.int .i64 0)),(.v (.int .i64 0)),(.v (.int .i64 0)),(.v (.int .i64 0)),(.nil 0)] []),⟨none,none,.st (.t 4) (.t 9) 5⟩,q 5 (.mv (.c (.v (.int .i64 1))))]) .ret) .skip)) (.seq (.seq (.ops [q 10 (.mv (.t 1)),q 11 (.call 22 [(.t 10)]),q 12 (.un .not (.t 11))]) (.cond (.t 12) (.seq (.ops [q 13 (.bld [(.v (.int .i64 0)),(.v (.int .i64 0)),(.v (.int .i64 0)),(.v (.int .i64 0)),(.nil 0)] []),⟨none,none,.st (.t 4) (.t 13) 5⟩,q 5 (.mv (.c (.v (.int .i64 2))))]) .ret) .skip)) (.seq (.ops [q 14 (.ld (.t 2) 5),q 15 (.mv (.t 1)),q 16 (.call 23 [(.t 14),(.t 15)]),⟨none,none,.st (.t 4) (.t 16) 5⟩,q 5 (.mv (.c (.v (.int .i64 0))))]) .ret))))⟩
theorem k6 : cF Try.prog Try.f6 = some c6 := by kernel_rfl
def c7 : AF := ⟨2,18,[(4,(some 5)),(5,none)],(.seq (.ops [q 2 (.box (.t 0)),q 4 (.al [(.v (.int .i64 0)),(.v (.int .i64 0)),(.v (.int .i64 0)),(.v (.int .i64 0)),(.nil 0)]),q 5 (.mv (.c (.v (.int .i64 0))))]) (.seq (.reg [0,0,2,7,15] [q 7 (.ld (.t 2) 5),q 8 (.mv (.t 1)),q 9 (.call 25 [(.t 8),(.c (.v (.int .i64 1))),(.c (.v (.int .i64 9)))]),q 10 (.call 24 [(.t 7),(.t 9)]),q 6 (.mv (.t 10))]) (.seq (.seq (.ops [q 11 (.mv (.t 6)),q 12 (.bin .neq (.t 11) (.c (.v (.int .i64 0))))]) (.cond (.t 12) (.seq (.ops [q 13 (.bld [(.v (.int .i64 0)),(.v (.int .i64 0)),(.v (.int .i64 0)),(.v (.int .i64 0)),(.nil 0)] []),q 14 (.mv (.t 6)),⟨none,none,.st (.t 4) (.t 13) 5⟩,q 5 (.mv (.t 14))]) .ret) .skip)) (.seq (.ops [q 15 (.ld (.t 2) 5),q 16 (.mv (.t 1)),q 17 (.call 26 [(.t 15),(.t 16)]),⟨none,none,.st (.t 4) (.t 17) 5⟩,q 5 (.mv (.c (.v (.int .i64 0))))]) .ret))))⟩
theorem k7 : cF Try.prog Try.f7 = some c7 := by kernel_rfl
def c8 : AF := ⟨1,53,[(2,(some 5)),(3,(some 5)),(4,none)],(.seq (.ops [q 2 (.al [(.v (.int .i64 0)),(.v (.int .i64 0)),(.v (.int .i64 0)),(.v (.int .i64 0)),(.nil 0)]),q 3 (.al [(.v (.int .i64 0)),(.v (.int .i64 0)),(.v (.int .i64 0)),(.v (.int .i64 0)),(.nil 0)]),q 4 (.mv (.c (.v (.int .i64 0))))]) (.seq (.ops [q 9 (.mv (.t 0)),q 10 (.call 18 [(.t 9)]),q 5 (.mv (.t 10))]) (.seq (.ops [q 11 (.mv (.t 5)),q 12 (.call 19 [(.t 11)]),q 6 (.al [(.v (.int .i64 0)),(.v (.int .i64 0)),(.v (.int .i64 0)),(.v (.int .i64 0)),(.nil 0)]),⟨none,none,.st (.t 6) (.t 12) 5⟩]) (.seq (.reg [0,0,2,6,15,0,63] [q 13 (.ld (.t 6) 5),q 14 (.mv (.t 5)),q 15 (.call 27 [(.t 14),(.c (.v (.int .i64 2)))]),q 16 (.bin .add (.c (.v (.int .i64 1))) (.t 15)),q 17 (.call 26 [(.t 13),(.t 16)]),q 7 (.al [(.v (.int .i64 0)),(.v (.int .i64 0)),(.v (.int .i64 0)),(.v (.int .i64 0)),(.nil 0)]),⟨none,none,.st (.t 7) (.t 17) 5⟩]) (.seq (.seq (.ops [q 8 (.mv (.c (.v (.int .i64 0))))]) (.block 0 (.loop (.seq (.seq (.ops [q 18 (.mv (.t 8)),q 19 (.fa (.t 7) 4),q 20 (.ld (.t 19) 0),q 21 (.len false (.t 20)),q 22 (.bin .lss (.t 18) (.t 21))]) (.cond (.t 22) .skip (.exit 0))) (.seq (.block 1 (.seq (.ops [q 25 (.mv (.t 5)),q 26 (.call 27 [(.t 25),(.c (.v (.int .i64 4)))]),q 27 (.bin .eql (.t 26) (.c (.v (.int .i64 0))))]) (.cond (.t 27) (.reg [0,1,0,0,8,31,63] [q 28 (.fa (.t 7) 4),q 29 (.ld (.t 28) 0),q 30 (.mv (.t 8)),q 31 (.mv (.t 5)),q 32 (.call 27 [(.t 31),(.c (.v (.int .i64 2)))]),q 33 (.ia (.t 29) (.t 30) 0),⟨none,none,.st (.t 33) (.t 32) 0⟩]) .skip))) (.ops [q 23 (.mv (.t 8)),q 24 (.bin .add (.t 23) (.c (.v (.int .i64 1)))),q 8 (.mv (.t 24))])))))) (.seq (.seq (.ops [q 34 (.mv (.t 5)),q 35 (.call 27 [(.t 34),(.c (.v (.int .i64 20)))])]) (.block 2 (.seq (.ops [q 37 (.bin .eql (.t 35) (.c (.v (.int .i64 0)))),q 36 (.mv (.t 37))]) (.cond (.t 36) (.ops [q 38 (.mv (.t 5)),q 39 (.call 19 [(.t 38)]),⟨none,none,.st (.t 7) (.t 39) 5⟩]) (.seq (.ops [q 41 (.bin .eql (.t 35) (.c (.v (.int .i64 1)))),q 40 (.mv (.t 41))]) (.cond (.t 40) (.seq (.ops [q 42 (.fa (.t 7) 4),q 43 (.ld (.t 42) 0),q 44 (.len false (.t 43)),q 45 (.bin .gtr (.t 44) (.c (.v (.int .i64 0))))]) (.cond (.t 45) (.ops [q 46 (.fa (.t 7) 4),q 47 (.ld (.t 46) 0),q 48 (.ia (.t 47) (.c (.v (.int .i64 0))) 0),⟨none,none,.st (.t 48) (.c (.v (.int .i64 2))) 0⟩]) .skip)) .skip)))))) (.seq (.reg [0,0,0,4,13,31,63] [q 49 (.ld (.t 6) 5),q 50 (.ld (.t 7) 5),q 51 (.mv (.t 5)),q 52 (.call 20 [(.t 51)]),⟨none,none,.st (.t 2) (.t 49) 5⟩,⟨none,none,.st (.t 3) (.t 50) 5⟩,q 4 (.mv (.t 52))]) .ret)))))))⟩
theorem k8 : cF Try.prog Try.f8 = some c8 := by kernel_rfl
def c9 : AF := ⟨3,37,[(6,(some 5)),(7,none)],(.seq (.ops [q 3 (.box (.t 0)),q 4 (.box (.t 1)),q 6 (.al [(.v (.int .i64 0)),(.v (.int .i64 0)),(.v (.int .i64 0)),(.v (.int .i64 0)),(.nil 0)]),q 7 (.mv (.c (.v (.int .i64 0))))]) (.seq (.seq (.ops [q 8 (.ld (.t 3) 5),q 9 (.call 21 [(.t 8)]),q 10 (.un .not (.t 9)),q 11 (.mv (.t 10)),⟨(some 12),(some (11,false)),.ld (.t 4) 5⟩,⟨(some 13),(some (11,false)),.call 21 [(.t 12)]⟩,⟨(some 14),(some (11,false)),.un .not (.t 13)⟩,q 15 (.pick (.t 11) (.c (.v (.bool true))) (.t 14))]) (.cond (.t 15) (.seq (.ops [q 16 (.bld [(.v (.int .i64 0)),(.v (.int .i64 0)),(.v (.int .i64 0)),(.v (.int .i64 0)),(.nil 0)] []),⟨none,none,.st (.t 6) (.t 16) 5⟩,q 7 (.mv (.c (.v (.int .i64 1))))]) .ret) .skip)) (.seq (.seq (.ops [q 17 (.mv (.t 2)),q 18 (.call 22 [(.t 17)]),q 19 (.un .not (.t 18)),q 20 (.mv (.t 19)),⟨(some 21),(some (20,false)),.ld (.t 3) 5⟩,⟨(some 22),(some (20,false)),.ld (.t 4) 5⟩,⟨(some 23),(some (20,false)),.call 28 [(.t 21),(.t 22)]⟩,⟨(some 24),(some (20,false)),.un .not (.t 23)⟩,q 25 (.pick (.t 20) (.c (.v (.bool true))) (.t 24)),q 26 (.mv (.t 25)),⟨(some 27),(some (26,false)),.fa (.t 4) 4⟩,⟨(some 28),(some (26,false)),.ld (.t 27) 0⟩,⟨(some 29),(some (26,false)),.call 29 [(.t 28),(.c (.v (.int .i64 0))),(.c (.v (.int .i64 1)))]⟩,⟨(some 30),(some (26,false)),.un .not (.t 29)⟩,q 31 (.pick (.t 26) (.c (.v (.bool true))) (.t 30))]) (.cond (.t 31) (.seq (.ops [q 32 (.bld [(.v (.int .i64 0)),(.v (.int .i64 0)),(.v (.int .i64 0)),(.v (.int .i64 0)),(.nil 0)] []),⟨none,none,.st (.t 6) (.t 32) 5⟩,q 7 (.mv (.c (.v (.int .i64 2))))]) .ret) .skip)) (.seq (.ops [q 33 (.ld (.t 3) 5),q 34 (.ld (.t 4) 5),q 35 (.mv (.t 2)),q 36 (.call 30 [(.t 33),(.t 34),(.t 35)]),⟨none,none,.st (.t 6) (.t 36) 5⟩,q 7 (.mv (.c (.v (.int .i64 0))))]) .ret))))⟩
theorem k9 : cF Try.prog Try.f9 = some c9 := by kernel_rfl
def c10 : AF := ⟨3,47,[(6,(some 5)),(7,none)],(.seq (.ops [q 3 (.box (.t 0)),q 4 (.box (.t 1)),q 6 (.al [(.v (.int .i64 0)),(.v (.int .i64 0)),(.v (.int .i64 0)),(.v (.int .i64 0)),(.nil 0)]),q 7 (.mv (.c (.v (.int .i64 0))))]) (.seq (.seq (.ops [q 9 (.ld (.t 3) 5),q 10 (.call 31 [(.t 9)]),q 11 (.un .not (.t 10)),q 12 (.mv (.t 11)),⟨(some 13),(some (12,false)),.ld (.t 4) 5⟩,⟨(some 14),(some (12,false)),.call 31 [(.t 13)]⟩,⟨(some 15),(some (12,false)),.un .not (.t 14)⟩,q 16 (.pick (.t 12) (.c (.v (.bool true))) (.t 15))]) (.cond (.t 16) (.seq (.ops [q 17 (.bld [(.v (.int .i64 0)),(.v (.int .i64 0)),(.v (.int .i64 0)),(.v (.int .i64 0)),(.nil 0)] []),⟨none,none,.st (.t 6) (.t 17) 5⟩,q 7 (.mv (.c (.v (.int .i64 1))))]) .ret) .skip)) (.seq (.ops [q 18 (.mv (.t 2)),q 19 (.call 25 [(.t 18),(.c (.v (.int .i64 1))),(.c (.v (.int .i64 9)))]),q 20 (.mv (.t 19)),⟨(some 21),(some (20,true)),.fa (.t 4) 0⟩,⟨(some 22),(some (20,true)),.ld (.t 21) 0⟩,⟨(some 23),(some (20,true)),.fa (.t 3) 0⟩,⟨(some 24),(some (20,true)),.ld (.t 23) 0⟩,⟨(some 25),(some (20,true)),.bin .eql (.t 22) (.t 24)⟩,q 26 (.pick (.t 20) (.t 25) (.c (.v (.bool false)))),q 27 (.mv (.t 26)),⟨(some 28),(some (27,true)),.fa (.t 4) 1⟩,⟨(some 29),(some (27,true)),.ld (.t 28) 3⟩,⟨(some 30),(some (27,true)),.fa (.t 3) 1⟩,⟨(some 31),(some (27,true)),.ld (.t 30) 3⟩,⟨(some 32),(some (27,true)),.eq false 3 [1,1,1] (.t 29) (.t 31)⟩,q 33 (.pick (.t 27) (.t 32) (.c (.v (.bool false)))),q 34 (.mv (.t 33)),⟨(some 35),(some (34,true)),.fa (.t 4) 4⟩,⟨(some 36),(some (34,true)),.ld (.t 35) 0⟩,⟨(some 37),(some (34,true)),.call 32 [(.t 36),(.c (.v (.int .i64 64))),(.c (.v (.int .i64 0))),(.c (.v (.int .i64 1)))]⟩,q 38 (.pick (.t 34) (.t 37) (.c (.v (.bool false)))),q 8 (.mv (.t 38))]) (.seq (.seq (.ops [q 39 (.mv (.t 8)),q 40 (.un .not (.t 39))]) (.cond (.t 40) (.seq (.ops [q 41 (.bld [(.v (.int .i64 0)),(.v (.int .i64 0)),(.v (.int .i64 0)),(.v (.int .i64 0)),(.nil 0)] []),⟨none,none,.st (.t 6) (.t 41) 5⟩,q 7 (.mv (.c (.v (.int .i64 2))))]) .ret) .skip)) (.seq (.ops [q 42 (.ld (.t 3) 5),q 43 (.ld (.t 4) 5),q 44 (.mv (.t 2)),q 45 (.bld [(.v (.int .i64 0)),(.v (.int .i64 0))] []),q 46 (.call 33 [(.t 42),(.t 43),(.t 44),(.t 45)]),⟨none,none,.st (.t 6) (.t 46) 5⟩,q 7 (.mv (.c (.v (.int .i64 0))))]) .ret)))))⟩
theorem k10 : cF Try.prog Try.f10 = some c10 := by kernel_rfl
def c11 : AF := ⟨1,17,[(2,(some 5))],(.seq (.ops [q 2 (.al [(.v (.int .i64 0)),(.v (.int .i64 0)),(.v (.int .i64 0)),(.v (.int .i64 0)),(.nil 0)])]) (.seq (.ops [q 5 (.mv (.t 0)),q 6 (.call 18 [(.t 5)]),q 3 (.mv (.t 6))]) (.seq (.ops [q 7 (.mv (.t 3)),q 8 (.call 19 [(.t 7)]),q 4 (.al [(.v (.int .i64 0)),(.v (.int .i64 0)),(.v (.int .i64 0)),(.v (.int .i64 0)),(.nil 0)]),⟨none,none,.st (.t 4) (.t 8) 5⟩]) (.seq (.seq (.ops [q 9 (.mv (.t 3)),q 10 (.call 27 [(.t 9),(.c (.v (.int .i64 12)))]),q 11 (.bin .eql (.t 10) (.c (.v (.int .i64 0))))]) (.cond (.t 11) (.seq (.ops [q 12 (.ld (.t 4) 5),⟨none,none,.st (.t 2) (.t 12) 5⟩]) .ret) .skip)) (.seq (.reg [0,0,2,7,15] [q 13 (.ld (.t 4) 5),q 14 (.mv (.t 3)),q 15 (.call 27 [(.t 14),(.c (.v (.int .i64 3)))]),q 16 (.call 26 [(.t 13),(.t 15)]),⟨none,none,.st (.t 2) (.t 16) 5⟩]) .ret)))))⟩
theorem k11 : cF Try.prog Try.f11 = some c11 := by kernel_rfl
def c12 : AF := ⟨1,59,[(2,(some 5)),(3,none)],(.seq (.ops [q 1 (.box (.t 0)),q 2 (.al [(.v (.int .i64 0)),(.v (.int .i64 0)),(.v (.int .i64 0)),(.v (.int .i64 0)),(.nil 0)]),q 3 (.mv (.c (.v (.int .i64 0))))]) (.seq (.seq (.ops [q 10 (.ld (.t 1) 5),q 11 (.call 21 [(.t 10)]),q 12 (.un .not (.t 11))]) (.cond (.t 12) (.seq (.ops [q 13 (.bld [(.v (.int .i64 0)),(.v (.int .i64 0)),(.v (.int .i64 0)),(.v (.int .i64 0)),(.nil 0)] []),⟨none,none,.st (.t 2) (.t 13) 5⟩,q 3 (.mv (.c (.v (.int .i64 1))))]) .ret) .skip)) (.seq (.seq (.ops [q 14 (.fa (.t 1) 4),q 15 (.ld (.t 14) 0),q 16 (.call 29 [(.t 15),(.c (.v (.int .i64 0))),(.c (.v (.int .i64 1)))]),q 17 (.un .not (.t 16))]) (.cond (.t 17) (.seq (.ops [q 18 (.bld [(.v (.int .i64 0)),(.v (.int .i64 0)),(.v (.int .i64 0)),(.v (.int .i64 0)),(.nil 0)] []),⟨none,none,.st (.t 2) (.t 18) 5⟩,q 3 (.mv (.c (.v (.int .i64 2))))]) .ret) .skip)) (.seq (.ops [q 19 (.fa (.t 1) 0),q 20 (.ld (.t 19) 0),q 21 (.fa (.t 1) 1),q 22 (.ld (.t 21) 3),q 23 (.bld [(.v (.int .i64 0)),(.v (.int .i64 0)),(.v (.int .i64 0)),(.v (.int .i64 0)),(.nil 0)] [(0,1,(.t 20)),(1,3,(.t 22))]),q 4 (.al [(.v (.int .i64 0)),(.v (.int .i64 0)),(.v (.int .i64 0)),(.v (.int .i64 0)),(.nil 0)]),⟨none,none,.st (.t 4) (.t 23) 5⟩]) (.seq (.seq (.ops [q 24 (.fa (.t 1) 1),q 25 (.ld (.t 24) 3),q 26 (.call 34 [(.t 25)]),q 27 (.len false (.t 26)),q 28 (.mv (.c (.v (.int .i64 0))))]) (.block 0 (.loop (.seq (.ops [q 29 (.bin .lss (.t 28) (.t 27))]) (.seq (.cond (.t 29) .skip (.exit 0)) (.seq (.block 1 (.seq (.ops [q 30 (.mv (.t 28)),q 31 (.ia (.t 26) (.t 28) 2),q 32 (.ld (.t 31) 2),q 6 (.al [(.v (.int .i64 0)),(.v (.int .i64 0))]),q 5 (.mv (.t 30)),⟨none,none,.st (.t 6) (.t 32) 2⟩]) (.seq (.ops [q 33 (.fa (.t 1) 4),q 34 (.ld (.t 33) 0),q 35 (.mv (.t 5)),q 36 (.ia (.t 34) (.t 35) 0),q 37 (.ld (.t 36) 0),q 7 (.mv (.t 37))]) (.seq (.seq (.ops [q 38 (.ld (.t 6) 2),q 39 (.call 35 [(.t 38)]),q 40 (.len false (.t 39)),q 41 (.mv (.c (.v (.int .i64 0))))]) (.block 2 (.loop (.seq (.ops [q 42 (.bin .lss (.t 41) (.t 40))]) (.seq (.cond (.t 42) .skip (.exit 2)) (.seq (.block 3 (.seq (.ops [q 43 (.ia (.t 39) (.t 41) 2),q 44 (.ld (.t 43) 2),q 9 (.al [(.v (.int .i64 0)),(.v (.int .i64 0))]),⟨none,none,.st (.t 9) (.t 44) 2⟩]) (.ops [q 45 (.mv (.t 7)),q 46 (.ld (.t 1) 5),q 47 (.ld (.t 9) 2),q 48 (.call 36 [(.t 46),(.t 47)]),q 49 (.mm true (.t 45) (.t 48)),q 7 (.mv (.t 49))]))) (.ops [q 50 (.bin .add (.t 41) (.c (.v (.int .i64 1)))),q 41 (.mv (.t 50))]))))))) (.ops [q 51 (.fa (.t 4) 4),q 52 (.ld (.t 51) 0),q 53 (.mv (.t 7)),q 54 (.bsl 0 2 [(.t 53)]),q 55 (.app 0 2 8 (.t 52) (.t 54)),q 56 (.fa (.t 4) 4),⟨none,none,.st (.t 56) (.t 55) 0⟩]))))) (.ops [q 57 (.bin .add (.t 28) (.c (.v (.int .i64 1)))),q 28 (.mv (.t 57))]))))))) (.seq (.ops [q 58 (.ld (.t 4) 5),⟨none,none,.st (.t 2) (.t 58) 5⟩,q 3 (.mv (.c (.v (.int .i64 0))))]) .ret))))))⟩
theorem k12 : cF Try.prog Try.f12 = some c12 := by kernel_rfl
def c13 : AF := ⟨1,38,[(2,(some 5)),(3,none)],(.seq (.ops [q 1 (.box (.t 0)),q 2 (.al [(.v (.int .i64 0)),(.v (.int .i64 0)),(.v (.int .i64 0)),(.v (.int .i64 0)),(.nil 0)]),q 3 (.mv (.c (.v (.int .i64 0))))]) (.seq (.reg [0,0,2,6,15,31] [q 8 (.ld (.t 1) 5),q 9 (.fa (.t 1) 4),q 10 (.ld (.t 9) 0),q 11 (.call 32 [(.t 10),(.c (.v (.int .i64 64))),(.c (.v (.int .i64 0))),(.c (.v (.int .i64 1)))]),q 12 (.call 24 [(.t 8),(.t 11)]),q 4 (.mv (.t 12))]) (.seq (.seq (.ops [q 13 (.mv (.t 4)),q 14 (.bin .neq (.t 13) (.c (.v (.int .i64 0))))]) (.cond (.t 14) (.seq (.ops [q 15 (.bld [(.v (.int .i64 0)),(.v (.int .i64 0)),(.v (.int .i64 0)),(.v (.int .i64 0)),(.nil 0)] []),q 16 (.mv (.t 4)),⟨none,none,.st (.t 2) (.t 15) 5⟩,q 3 (.mv (.t 16))]) .ret) .skip)) (.seq (.ops [q 17 (.ld (.t 1) 5),q 5 (.al [(.v (.int .i64 0)),(.v (.int .i64 0)),(.v (.int .i64 0)),(.v (.int .i64 0)),(.nil 0)]),⟨none,none,.st (.t 5) (.t 17) 5⟩]) (.seq (.ops [q 18 (.call 37 []),q 6 (.mv (.t 18))]) (.seq (.seq (.ops [q 7 (.mv (.c (.v (.int .i64 0))))]) (.block 0 (.loop (.seq (.seq (.ops [q 19 (.mv (.t 7)),q 20 (.bin .lss (.t 19) (.c (.v (.int .i64 4))))]) (.cond (.t 20) .skip (.exit 0))) (.seq (.block 1 (.reg [0,0,0,0,12,28,63,127] [q 23 (.ld (.t 5) 5),q 24 (.ld (.t 1) 5),q 25 (.mv (.t 6)),q 26 (.mv (.t 7)),q 27 (.ia (.t 25) (.t 26) 2),q 28 (.ld (.t 27) 2),q 29 (.call 33 [(.t 23),(.t 24),(.c (.v (.int .i64 1))),(.t 28)]),⟨none,none,.st (.t 5) (.t 29) 5⟩])) (.ops [q 21 (.mv (.t 7)),q 22 (.bin .add (.t 21) (.c (.v (.int .i64 1)))),q 7 (.mv (.t 22))])))))) (.seq (.reg [0,1,0,4,0,16,48,127,255,511] [q 30 (.fa (.t 5) 0),q 31 (.ld (.t 30) 0),q 32 (.fa (.t 5) 1),q 33 (.ld (.t 32) 3),q 34 (.fa (.t 5) 4),q 35 (.ld (.t 34) 0),q 36 (.call 38 [(.t 35)]),q 37 (.bld [(.v (.int .i64 0)),(.v (.int .i64 0)),(.v (.int .i64 0)),(.v (.int .i64 0)),(.nil 0)] [(0,1,(.t 31)),(1,3,(.t 33)),(4,1,(.t 36))]),⟨none,none,.st (.t 2) (.t 37) 5⟩,q 3 (.mv (.c (.v (.int .i64 0))))]) .ret)))))))⟩
theorem k13 : cF Try.prog Try.f13 = some c13 := by kernel_rfl
def c14 : AF := ⟨2,28,[(4,none),(5,none)],(.seq (.ops [q 2 (.box (.t 0)),q 4 (.mv (.c (.v (.int .i64 0)))),q 5 (.mv (.c (.v (.int .i64 0))))]) (.seq (.ops [q 9 (.ld (.t 2) 5),q 10 (.call 39 [(.t 9)]),q 8 (.mv (.t 10)),q 11 (.ext (.t 8) 0),q 12 (.ext (.t 8) 1),q 6 (.mv (.t 11)),q 7 (.mv (.t 12))]) (.seq (.seq (.ops [q 13 (.mv (.t 7)),q 14 (.bin .neq (.t 13) (.c (.v (.int .i64 0))))]) (.cond (.t 14) (.seq (.ops [q 15 (.mv (.t 7)),q 4 (.mv (.c (.v (.int .i64 0)))),q 5 (.mv (.t 15))]) .ret) .skip)) (.seq (.seq (.ops [q 16 (.mv (.t 1)),q 17 (.call 22 [(.t 16)]),q 18 (.un .not (.t 17))]) (.cond (.t 18) (.seq (.ops [q 4 (.mv (.c (.v (.int .i64 0)))),q 5 (.mv (.c (.v (.int .i64 2))))]) .ret) .skip)) (.seq (.reg [0,0,3,7,15,0,32,96,255,511,1023] [q 19 (.mv (.t 6)),q 20 (.mv (.t 1)),q 21 (.ia (.t 19) (.t 20) 0),q 22 (.ld (.t 21) 0),q 23 (.bin .mul (.c (.v (.int .i64 1000))) (.t 22)),q 24 (.fa (.t 2) 1),q 25 (.ld (.t 24) 3),q 26 (.call 40 [(.t 25)]),q 27 (.bin .quo (.t 23) (.t 26)),q 4 (.mv (.t 27)),q 5 (.mv (.c (.v (.int .i64 0))))]) .ret)))))⟩
theorem k14 : cF Try.prog Try.f14 = some c14 := by kernel_rfl
def c15 : AF := ⟨2,38,[(4,none),(5,none)],(.seq (.ops [q 2 (.box (.t 0)),q 4 (.mv (.c (.v (.int .i64 0)))),q 5 (.mv (.c (.v (.int .i64 0))))]) (.seq (.reg [0,0,2,7,15] [q 9 (.ld (.t 2) 5),q 10 (.mv (.t 1)),q 11 (.call 25 [(.t 10),(.c (.v (.int .i64 1))),(.c (.v (.int .i64 9)))]),q 12 (.call 24 [(.t 9),(.t 11)]),q 6 (.mv (.t 12))]) (.seq (.seq (.ops [q 13 (.mv (.t 6)),q 14 (.bin .neq (.t 13) (.c (.v (.int .i64 0))))]) (.cond (.t 14) (.seq (.ops [q 15 (.mv (.t 6)),q 4 (.mv (.c (.v (.int .i64 0)))),q 5 (.mv (.t 15))]) .ret) .skip)) (.seq (.ops [q 7 (.mv (.c (.v (.int .i64 0))))]) (.seq (.seq (.ops [q 8 (.mv (.c (.v (.int .i64 0))))]) (.block 0 (.loop (.seq (.seq (.ops [q 16 (.mv (.t 8)),q 17 (.fa (.t 2) 4),q 18 (.ld (.t 17) 0),q 19 (.len false (.t 18)),q 20 (.bin .lss (.t 16) (.t 19))]) (.cond (.t 20) .skip (.exit 0))) (.seq (.block 1 (.seq (.ops [q 23 (.fa (.t 2) 4),q 24 (.ld (.t 23) 0),q 25 (.mv (.t 8)),q 26 (.ia (.t 24) (.t 25) 0),q 27 (.ld (.t 26) 0),q 28 (.mv (.t 1)),q 29 (.bin .eql (.t 27) (.t 28))]) (.cond (.t 29) (.ops [q 30 (.mv (.t 7)),q 31 (.bin .add (.t 30) (.c (.v (.int .i64 1)))),q 7 (.mv (.t 31))]) .skip))) (.ops [q 21 (.mv (.t 8)),q 22 (.bin .add (.t 21) (.c (.v (.int .i64 1)))),q 8 (.mv (.t 22))])))))) (.seq (.ops [q 32 (.mv (.t 7)),q 33 (.bin .mul (.c (.v (.int .i64 1000))) (.t 32)),q 34 (.fa (.t 2) 4),q 35 (.ld (.t 34) 0),q 36 (.len false (.t 35)),q 37 (.bin .quo (.t 33) (.t 36)),q 4 (.mv (.t 37)),q 5 (.mv (.c (.v (.int .i64 0))))]) .ret))))))⟩
theorem k15 : cF Try.prog Try.f15 = some c15 := by kernel_rfl
def c16 : AF := ⟨2,24,[(4,none)],(.seq (.ops [q 2 (.box (.t 0)),q 3 (.box (.t 1)),q 4 (.mv (.c (.v (.bool false))))]) (.seq (.ops [q 5 (.fa (.t 2) 0),q 6 (.ld (.t 5) 0),q 7 (.fa (.t 3) 0),q 8 (.ld (.t 7) 0),q 9 (.bin .eql (.t 6) (.t 8)),q 10 (.mv (.t 9)),⟨(some 11),(some (10,true)),.fa (.t 2) 1⟩,⟨(some 12),(some (10,true)),.ld (.t 11) 3⟩,⟨(some 13),(some (10,true)),.fa (.t 3) 1⟩,⟨(some 14),(some (10,true)),.ld (.t 13) 3⟩,⟨(some 15),(some (10,true)),.eq false 3 [1,1,1] (.t 12) (.t 14)⟩,q 16 (.pick (.t 10) (.t 15) (.c (.v (.bool false)))),q 17 (.mv (.t 16)),⟨(some 18),(some (17,true)),.fa (.t 2) 4⟩,⟨(some 19),(some (17,true)),.ld (.t 18) 0⟩,⟨(some 20),(some (17,true)),.fa (.t 3) 4⟩,⟨(some 21),(some (17,true)),.ld (.t 20) 0⟩,⟨(some 22),(some (17,true)),.call 41 [(.t 19),(.t 21)]⟩,q 23 (.pick (.t 17) (.t 22) (.c (.v (.bool false)))),q 4 (.mv (.t 23))]) .ret))⟩
theorem k16 : cF Try.prog Try.f16 = some c16 := by kernel_rfl
def c17 : AF := ⟨1,18,[(2,none)],(.seq (.ops [q 2 (.mv (.c (.v (.int .i64 0))))]) (.seq (.ops [q 3 (.mv (.c (.v (.int .i64 0))))]) (.seq (.seq (.ops [q 4 (.mv (.c (.v (.int .i64 0))))]) (.block 0 (.loop (.seq (.seq (.ops [q 5 (.mv (.t 4)),q 6 (.mv (.t 0)),q 7 (.len false (.t 6)),q 8 (.bin .lss (.t 5) (.t 7))]) (.cond (.t 8) .skip (.exit 0))) (.seq (.block 1 (.ops [q 11 (.mv (.t 3)),q 12 (.mv (.t 0)),q 13 (.mv (.t 4)),q 14 (.ia (.t 12) (.t 13) 0),q 15 (.ld (.t 14) 0),q 16 (.bin .add (.t 11) (.t 15)),q 3 (.mv (.t 16))])) (.ops [q 9 (.mv (.t 4)),q 10 (.bin .add (.t 9) (.c (.v (.int .i64 1)))),q 4 (.mv (.t 10))])))))) (.seq (.ops [q 17 (.mv (.t 3)),q 2 (.mv (.t 17))]) .ret))))⟩
theorem k17 : cF Try.prog Try.f17 = some c17 := by kernel_rfl
def c18 : AF := ⟨1,34,[(2,none)],(.seq (.ops [q 2 (.mv (.c .un))]) (.seq (.ops [q 5 (.mv (.t 0)),q 6 (.bld [(.nil 0),(.v (.int .i64 0)),(.v (.int .i64 0))] [(0,1,(.t 5)),(2,1,(.c (.v (.int .i64 93001))))]),q 7 (.box (.t 6)),q 3 (.mv (.t 7))]) (.seq (.seq (.ops [q 4 (.mv (.c (.v (.int .i64 0))))]) (.block 0 (.loop (.seq (.seq (.ops [q 8 (.mv (.t 4)),q 9 (.mv (.t 0)),q 10 (.len false (.t 9)),q 11 (.bin .lss (.t 8) (.t 10)),q 12 (.mv (.t 11)),⟨(some 13),(some (12,true)),.mv (.t 4)⟩,⟨(some 14),(some (12,true)),.bin .lss (.t 13) (.c (.v (.int .i64 64)))⟩,q 15 (.pick (.t 12) (.t 14) (.c (.v (.bool false))))]) (.cond (.t 15) .skip (.exit 0))) (.seq (.block 1 (.reg [0,0,2,6,14,30,0,0,192,448,960,2046,4094,8191,16383,32767] [q 18 (.mv (.t 3)),q 19 (.mv (.t 3)),q 20 (.nck (.t 19)),q 21 (.fa (.t 20) 2),q 22 (.ld (.t 21) 0),q 23 (.bin .mul (.t 22) (.c (.v (.int .i64 73)))),q 24 (.mv (.t 0)),q 25 (.mv (.t 4)),q 26 (.ia (.t 24) (.t 25) 0),q 27 (.ld (.t 26) 0),q 28 (.conv .i64 (.t 27)),q 29 (.bin .add (.t 23) (.t 28)),q 30 (.bin .rem (.t 29) (.c (.v (.int .i64 2147483647)))),q 31 (.nck (.t 18)),q 32 (.fa (.t 31) 2),⟨none,none,.st (.t 32) (.t 30) 0⟩])) (.ops [q 16 (.mv (.t 4)),q 17 (.bin .add (.t 16) (.c (.v (.int .i64 1)))),q 4 (.mv (.t 17))])))))) (.seq (.ops [q 33 (.mv (.t 3)),q 2 (.mv (.t 33))]) .ret))))⟩
theorem k18 : cF Try.prog Try.f18 = some c18 := by kernel_rfl
def c19 : AF := ⟨1,37,[(2,(some 5))],(.seq (.ops [q 2 (.al [(.v (.int .i64 0)),(.v (.int .i64 0)),(.v (.int .i64 0)),(.v (.int .i64 0)),(.nil 0)])]) (.seq (.ops [q 7 (.mv (.t 0)),q 8 (.call 42 [(.t 7)]),q 6 (.mv (.t 8)),q 9 (.ext (.t 6) 0),q 10 (.ext (.t 6) 1),q 4 (.al [(.v (.int .i64 0)),(.v (.int .i64 0)),(.v (.int .i64 0))]),q 3 (.mv (.t 9)),⟨none,none,.st (.t 4) (.t 10) 3⟩]) (.seq (.ops [q 11 (.mv (.t 0)),q 12 (.mv (.t 3)),q 13 (.ld (.t 4) 3),q 14 (.call 43 [(.t 11),(.t 12),(.t 13)]),q 5 (.al [(.v (.int .i64 0)),(.v (.int .i64 0)),(.v (.int .i64 0)),(.v (.int .i64 0)),(.nil 0)]),⟨none,none,.st (.t 5) (.t 14) 5⟩]) (.seq (.seq (.ops [q 15 (.mv (.t 0)),q 16 (.call 27 [(.t 15),(.c (.v (.int .i64 60)))])]) (.block 0 (.seq (.ops [q 18 (.bin .eql (.t 16) (.c (.v (.int .i64 0)))),q 17 (.mv (.t 18))]) (.cond (.t 17) (.ops [q 19 (.fa (.t 5) 4),q 20 (.ld (.t 19) 0),q 21 (.bsl 0 2 [(.c (.v (.int .i64 0)))]),q 22 (.app 0 2 8 (.t 20) (.t 21)),q 23 (.fa (.t 5) 4),⟨none,none,.st (.t 23) (.t 22) 0⟩]) (.seq (.ops [q 25 (.bin .eql (.t 16) (.c (.v (.int .i64 1)))),q 24 (.mv (.t 25))]) (.cond (.t 24) (.seq (.ops [q 26 (.fa (.t 5) 4),q 27 (.ld (.t 26) 0),q 28 (.len false (.t 27)),q 29 (.bin .gtr (.t 28) (.c (.v (.int .i64 0))))]) (.cond (.t 29) (.reg [0,1,0,0,12,31,63] [q 30 (.fa (.t 5) 4),q 31 (.ld (.t 30) 0),q 32 (.mv (.t 0)),q 33 (.bsl 0 2 [(.c (.v (.int .i64 (-1)))),(.c (.v (.int .i64 9))),(.c (.v (.int .i64 10)))]),q 34 (.call 44 [(.t 32),(.t 33)]),q 35 (.ia (.t 31) (.c (.v (.int .i64 0))) 0),⟨none,none,.st (.t 35) (.t 34) 0⟩]) .skip)) .skip)))))) (.seq (.ops [q 36 (.ld (.t 5) 5),⟨none,none,.st (.t 2) (.t 36) 5⟩]) .ret)))))⟩
theorem k19 : cF Try.prog Try.f19 = some c19 := by kernel_rfl
def c20 : AF := ⟨1,12,[(2,none)],(.seq (.ops [q 2 (.mv (.c (.v (.int .i64 0))))]) (.seq (.seq (.ops [q 3 (.mv (.t 0)),q 4 (.call 27 [(.t 3),(.c (.v (.int .i64 24)))]),q 5 (.bin .eql (.t 4) (.c (.v (.int .i64 0))))]) (.cond (.t 5) (.seq (.ops [q 6 (.mv (.t 0)),q 7 (.bsl 0 2 [(.c (.v (.int .i64 0))),(.c (.v (.int .i64 9))),(.c (.v (.int .i64 10)))]),q 8 (.call 44 [(.t 6),(.t 7)]),q 2 (.mv (.t 8))]) .ret) .skip)) (.seq (.ops [q 9 (.mv (.t 0)),q 10 (.call 27 [(.t 9),(.c (.v (.int .i64 3)))]),q 11 (.bin .add (.c (.v (.int .i64 1))) (.t 10)),q 2 (.mv (.t 11))]) .ret)))⟩
theorem k20 : cF Try.prog Try.f20 = some c20 := by kernel_rfl
def c21 : AF := ⟨1,25,[(2,none)],(.seq (.ops [q 1 (.box (.t 0)),q 2 (.mv (.c (.v (.bool false))))]) (.seq (.reg [0,1,3,7,15,31,63,127,255,511,1023,2047,511,4607,12799,32767,65535,131071,262143,524287,1048575,2097151,4194303] [q 3 (.fa (.t 1) 0),q 4 (.ld (.t 3) 0),q 5 (.call 45 [(.t 4)]),q 6 (.mv (.t 5)),⟨(some 7),(some (6,true)),.fa (.t 1) 1⟩,⟨(some 8),(some (6,true)),.ld (.t 7) 3⟩,⟨(some 9),(some (6,true)),.call 46 [(.t 8)]⟩,q 10 (.pick (.t 6) (.t 9) (.c (.v (.bool false)))),q 11 (.mv (.t 10)),⟨(some 12),(some (11,true)),.fa (.t 1) 4⟩,⟨(some 13),(some (11,true)),.ld (.t 12) 0⟩,⟨(some 14),(some (11,true)),.len false (.t 13)⟩,⟨(some 15),(some (11,true)),.fa (.t 1) 1⟩,⟨(some 16),(some (11,true)),.ld (.t 15) 3⟩,⟨(some 17),(some (11,true)),.call 40 [(.t 16)]⟩,⟨(some 18),(some (11,true)),.bin .eql (.t 14) (.t 17)⟩,q 19 (.pick (.t 11) (.t 18) (.c (.v (.bool false)))),q 20 (.mv (.t 19)),⟨(some 21),(some (20,true)),.fa (.t 1) 4⟩,⟨(some 22),(some (20,true)),.ld (.t 21) 0⟩,⟨(some 23),(some (20,true)),.call 29 [(.t 22),(.c (.v (.int .i64 0))),(.c (.v (.int .i64 9)))]⟩,q 24 (.pick (.t 20) (.t 23) (.c (.v (.bool false)))),q 2 (.mv (.t 24))]) .ret))⟩
theorem k21 : cF Try.prog Try.f21 = some c21 := by kernel_rfl
def c22 : AF := ⟨1,5,[(2,none)],(.seq (.ops [q 2 (.mv (.c (.v (.bool false))))]) (.seq (.ops [q 3 (.mv (.t 0)),q 4 (.call 47 [(.t 3),(.c (.v (.int .i64 1))),(.c (.v (.int .i64 9)))]),q 2 (.mv (.t 4))]) .ret))⟩
theorem k22 : cF Try.prog Try.f22 = some c22 := by kernel_rfl
def c23 : AF := ⟨2,32,[(4,(some 5))],(.seq (.ops [q 2 (.box (.t 0)),q 4 (.al [(.v (.int .i64 0)),(.v (.int .i64 0)),(.v (.int .i64 0)),(.v (.int .i64 0)),(.nil 0)])]) (.seq (.ops [q 9 (.fa (.t 2) 0),q 10 (.ld (.t 9) 0),q 11 (.fa (.t 2) 1),q 12 (.ld (.t 11) 3),q 13 (.bld [(.v (.int .i64 0)),(.v (.int .i64 0)),(.v (.int .i64 0)),(.v (.int .i64 0)),(.nil 0)] [(0,1,(.t 10)),(1,3,(.t 12))]),q 5 (.al [(.v (.int .i64 0)),(.v (.int .i64 0)),(.v (.int .i64 0)),(.v (.int .i64 0)),(.nil 0)]),⟨none,none,.st (.t 5) (.t 13) 5⟩]) (.seq (.seq (.ops [q 14 (.fa (.t 2) 4),q 15 (.ld (.t 14) 0),q 16 (.len false (.t 15)),q 17 (.mv (.c (.v (.int .i64 0))))]) (.block 0 (.loop (.seq (.ops [q 18 (.bin .lss (.t 17) (.t 16))]) (.seq (.cond (.t 18) .skip (.exit 0)) (.seq (.block 1 (.seq (.ops [q 19 (.ia (.t 15) (.t 17) 0),q 20 (.ld (.t 19) 0),q 7 (.mv (.t 20))]) (.seq (.ops [q 8 (.mv (.c (.v (.int .i64 0))))]) (.seq (.seq (.ops [q 21 (.mv (.t 7)),q 22 (.mv (.t 1)),q 23 (.bin .eql (.t 21) (.t 22))]) (.cond (.t 23) (.ops [q 8 (.mv (.c (.v (.int .i64 1))))]) .skip)) (.ops [q 24 (.fa (.t 5) 4),q 25 (.ld (.t 24) 0),q 26 (.mv (.t 8)),q 27 (.bsl 0 2 [(.t 26)]),q 28 (.app 0 2 8 (.t 25) (.t 27)),q 29 (.fa (.t 5) 4),⟨none,none,.st (.t 29) (.t 28) 0⟩]))))) (.ops [q 30 (.bin .add (.t 17) (.c (.v (.int .i64 1)))),q 17 (.mv (.t 30))]))))))) (.seq (.ops [q 31 (.ld (.t 5) 5),⟨none,none,.st (.t 4) (.t 31) 5⟩]) .ret))))⟩
theorem k23 : cF Try.prog Try.f23 = some c23 := by kernel_rfl
def c24 : AF := ⟨2,12,[(4,none)],(.seq (.ops [q 2 (.box (.t 0)),q 4 (.mv (.c (.v (.int .i64 0))))]) (.seq (.block 0 (.seq (.ops [q 6 (.ld (.t 2) 5),q 7 (.call 31 [(.t 6)]),q 8 (.un .not (.t 7)),q 5 (.mv (.t 8))]) (.cond (.t 5) (.seq (.ops [q 4 (.mv (.c (.v (.int .i64 1))))]) .ret) (.seq (.ops [q 10 (.mv (.t 1)),q 11 (.un .not (.t 10)),q 9 (.mv (.t 11))]) (.cond (.t 9) (.seq (.ops [q 4 (.mv (.c (.v (.int .i64 2))))]) .ret) .skip))))) (.seq (.ops [q 4 (.mv (.c (.v (.int .i64 0))))]) .ret)))⟩
theorem k24 : cF Try.prog Try.f24 = some c24 := by kernel_rfl
def c25 : AF := ⟨3,15,[(6,none)],(.seq (.ops [q 6 (.mv (.c (.v (.bool false))))]) (.seq (.ops [q 7 (.mv (.t 0)),q 8 (.mv (.t 1)),q 9 (.bin .geq (.t 7) (.t 8)),q 10 (.mv (.t 9)),⟨(some 11),(some (10,true)),.mv (.t 0)⟩,⟨(some 12),(some (10,true)),.mv (.t 2)⟩,⟨(some 13),(some (10,true)),.bin .leq (.t 11) (.t 12)⟩,q 14 (.pick (.t 10) (.t 13) (.c (.v (.bool false)))),q 6 (.mv (.t 14))]) .ret))⟩
theorem k25 : cF Try.prog Try.f25 = some c25 := by kernel_rfl
def c26 : AF := ⟨2,35,[(4,(some 5))],(.seq (.ops [q 2 (.box (.t 0)),q 4 (.al [(.v (.int .i64 0)),(.v (.int .i64 0)),(.v (.int .i64 0)),(.v (.int .i64 0)),(.nil 0)])]) (.seq (.ops [q 8 (.fa (.t 2) 0),q 9 (.ld (.t 8) 0),q 10 (.fa (.t 2) 1),q 11 (.ld (.t 10) 3),q 12 (.bsl 0 2 []),q 13 (.bld [(.v (.int .i64 0)),(.v (.int .i64 0)),(.v (.int .i64 0)),(.v (.int .i64 0)),(.nil 0)] [(0,1,(.t 9)),(1,3,(.t 11)),(4,1,(.t 12))]),q 5 (.al [(.v (.int .i64 0)),(.v (.int .i64 0)),(.v (.int .i64 0)),(.v (.int .i64 0)),(.nil 0)]),⟨none,none,.st (.t 5) (.t 13) 5⟩]) (.seq (.seq (.ops [q 6 (.mv (.c (.v (.int .i64 0))))]) (.block 0 (.loop (.seq (.seq (.ops [q 14 (.mv (.t 6)),q 15 (.fa (.t 2) 4),q 16 (.ld (.t 15) 0),q 17 (.len false (.t 16)),q 18 (.bin .lss (.t 14) (.t 17))]) (.cond (.t 18) .skip (.exit 0))) (.seq (.block 1 (.seq (.ops [q 7 (.mv (.c (.v (.int .i64 0))))]) (.seq (.seq (.ops [q 21 (.fa (.t 2) 4),q 22 (.ld (.t 21) 0),q 23 (.mv (.t 6)),q 24 (.ia (.t 22) (.t 23) 0),q 25 (.ld (.t 24) 0),q 26 (.mv (.t 1)),q 27 (.bin .eql (.t 25) (.t 26))]) (.cond (.t 27) (.ops [q 7 (.mv (.c (.v (.int .i64 1))))]) .skip)) (.ops [q 28 (.fa (.t 5) 4),q 29 (.ld (.t 28) 0),q 30 (.mv (.t 7)),q 31 (.bsl 0 2 [(.t 30)]),q 32 (.app 0 2 8 (.t 29) (.t 31)),q 33 (.fa (.t 5) 4),⟨none,none,.st (.t 33) (.t 32) 0⟩])))) (.ops [q 19 (.mv (.t 6)),q 20 (.bin .add (.t 19) (.c (.v (.int .i64 1)))),q 6 (.mv (.t 20))])))))) (.seq (.ops [q 34 (.ld (.t 5) 5),⟨none,none,.st (.t 4) (.t 34) 5⟩]) .ret))))⟩
theorem k26 : cF Try.prog Try.f26 = some c26 := by kernel_rfl
def c27 : AF := ⟨2,78,[(4,none)],(.seq (.ops [q 4 (.mv (.c (.v (.int .i64 0))))]) (.seq (.seq (.ops [q 6 (.mv (.t 1)),q 7 (.bin .leq (.t 6) (.c (.v (.int .i64 1))))]) (.cond (.t 7) (.seq (.ops [q 4 (.mv (.c (.v (.int .i64 0))))]) .ret) .skip)) (.seq (.ops [q 8 (.mv (.t 0)),q 9 (.mv (.t 0)),q 10 (.nck (.t 9)),q 11 (.fa (.t 10) 2),q 12 (.ld (.t 11) 0),q 13 (.bin .mul (.t 12) (.c (.v (.int .i64 48271)))),q 14 (.bin .add (.t 13) (.c (.v (.int .i64 67)))),q 15 (.bin .rem (.t 14) (.c (.v (.int .i64 2147483647)))),q 16 (.nck (.t 8)),q 17 (.fa (.t 16) 2),⟨none,none,.st (.t 17) (.t 15) 0⟩]) (.seq (.ops [q 18 (.mv (.t 0)),q 19 (.nck (.t 18)),q 20 (.fa (.t 19) 2),q 21 (.ld (.t 20) 0),q 22 (.bin .quo (.t 21) (.c (.v (.int .i64 37)))),q 5 (.mv (.t 22))]) (.seq (.seq (.reg [0,1,3,7,0,16,48,112,240,511] [q 23 (.mv (.t 0)),q 24 (.nck (.t 23)),q 25 (.fa (.t 24) 1),q 26 (.ld (.t 25) 0),q 27 (.mv (.t 0)),q 28 (.nck (.t 27)),q 29 (.fa (.t 28) 0),q 30 (.ld (.t 29) 0),q 31 (.len false (.t 30)),q 32 (.bin .lss (.t 26) (.t 31))]) (.cond (.t 32) (.seq (.reg [0,0,2,6,14,0,32,96,224,510,1022,2046,4095,8191] [q 33 (.mv (.t 5)),q 34 (.mv (.t 0)),q 35 (.nck (.t 34)),q 36 (.fa (.t 35) 0),q 37 (.ld (.t 36) 0),q 38 (.mv (.t 0)),q 39 (.nck (.t 38)),q 40 (.fa (.t 39) 1),q 41 (.ld (.t 40) 0),q 42 (.ia (.t 37) (.t 41) 0),q 43 (.ld (.t 42) 0),q 44 (.conv .i64 (.t 43)),q 45 (.bin .add (.t 33) (.t 44)),q 5 (.mv (.t 45))]) (.seq (.ops [q 46 (.mv (.t 0)),q 47 (.nck (.t 46)),q 48 (.fa (.t 47) 1),q 49 (.ld (.t 48) 0),q 50 (.bin .add (.t 49) (.c (.v (.int .i64 1)))),q 51 (.nck (.t 46)),q 52 (.fa (.t 51) 1),⟨none,none,.st (.t 52) (.t 50) 0⟩]) (.seq (.ops [q 53 (.mv (.t 1)),q 54 (.bin .leq (.t 53) (.c (.v (.int .i64 256)))),q 55 (.mv (.t 54)),⟨(some 56),(some (55,true)),.mv (.t 0)⟩,⟨(some 57),(some (55,true)),.nck (.t 56)⟩,⟨(some 58),(some (55,true)),.fa (.t 57) 1⟩,⟨(some 59),(some (55,true)),.ld (.t 58) 0⟩,⟨(some 60),(some (55,true)),.bin .rem (.t 59) (.c (.v (.int .i64 2)))⟩,⟨(some 61),(some (55,true)),.bin .eql (.t 60) (.c (.v (.int .i64 0)))⟩,q 62 (.pick (.t 55) (.t 61) (.c (.v (.bool false))))]) (.cond (.t 62) (.reg [0,1,3,7,0,16,48,112,240,511,1023,2047,4095] [q 63 (.mv (.t 0)),q 64 (.nck (.t 63)),q 65 (.fa (.t 64) 0),q 66 (.ld (.t 65) 0),q 67 (.mv (.t 0)),q 68 (.nck (.t 67)),q 69 (.fa (.t 68) 1),q 70 (.ld (.t 69) 0),q 71 (.bin .sub (.t 70) (.c (.v (.int .i64 1)))),q 72 (.ia (.t 66) (.t 71) 0),q 73 (.ld (.t 72) 0),q 74 (.conv .i64 (.t 73)),q 5 (.mv (.t 74))]) .skip)))) .skip)) (.seq (.ops [q 75 (.mv (.t 5)),q 76 (.mv (.t 1)),q 77 (.bin .rem (.t 75) (.t 76)),q 4 (.mv (.t 77))]) .ret))))))⟩
theorem k27 : cF Try.prog Try.f27 = some c27 := by kernel_rfl
def c28 : AF := ⟨2,17,[(4,none)],(.seq (.ops [q 2 (.box (.t 0)),q 3 (.box (.t 1)),q 4 (.mv (.c (.v (.bool false))))]) (.seq (.ops [q 5 (.fa (.t 2) 0),q 6 (.ld (.t 5) 0),q 7 (.fa (.t 3) 0),q 8 (.ld (.t 7) 0),q 9 (.bin .eql (.t 6) (.t 8)),q 10 (.mv (.t 9)),⟨(some 11),(some (10,true)),.fa (.t 2) 1⟩,⟨(some 12),(some (10,true)),.ld (.t 11) 3⟩,⟨(some 13),(some (10,true)),.fa (.t 3) 1⟩,⟨(some 14),(some (10,true)),.ld (.t 13) 3⟩,⟨(some 15),(some (10,true)),.eq false 3 [1,1,1] (.t 12) (.t 14)⟩,q 16 (.pick (.t 10) (.t 15) (.c (.v (.bool false)))),q 4 (.mv (.t 16))]) .ret))⟩
theorem k28 : cF Try.prog Try.f28 = some c28 := by kernel_rfl
def c29 : AF := ⟨3,11,[(6,none)],(.seq (.ops [q 4 (.box (.t 1)),q 5 (.box (.t 2)),q 6 (.mv (.c (.v (.bool false))))]) (.seq (.ops [q 7 (.mv (.t 0)),q 8 (.mkf 49 [(.t 4),(.t 5)]),q 9 (.call 48 [(.t 7),(.t 8)]),q 10 (.un .not (.t 9)),q 6 (.mv (.t 10))]) .ret))⟩
theorem k29 : cF Try.prog Try.f29 = some c29 := by kernel_rfl
def c30 : AF := ⟨3,35,[(6,(some 5))],(.seq (.ops [q 3 (.box (.t 0)),q 4 (.box (.t 1)),q 6 (.al [(.v (.int .i64 0)),(.v (.int .i64 0)),(.v (.int .i64 0)),(.v (.int .i64 0)),(.nil 0)])]) (.seq (.reg [0,1,0,4,0,16,48,127,0,511] [q 10 (.fa (.t 3) 0),q 11 (.ld (.t 10) 0),q 12 (.fa (.t 3) 1),q 13 (.ld (.t 12) 3),q 14 (.fa (.t 3) 4),q 15 (.ld (.t 14) 0),q 16 (.call 50 [(.t 15)]),q 17 (.bld [(.v (.int .i64 0)),(.v (.int .i64 0)),(.v (.int .i64 0)),(.v (.int .i64 0)),(.nil 0)] [(0,1,(.t 11)),(1,3,(.t 13)),(4,1,(.t 16))]),q 7 (.al [(.v (.int .i64 0)),(.v (.int .i64 0)),(.v (.int .i64 0)),(.v (.int .i64 0)),(.nil 0)]),⟨none,none,.st (.t 7) (.t 17) 5⟩]) (.seq (.seq (.ops [q 18 (.fa (.t 4) 4),q 19 (.ld (.t 18) 0),q 20 (.len false (.t 19)),q 21 (.mv (.c (.v (.int .i64 0))))]) (.block 0 (.loop (.seq (.ops [q 22 (.bin .lss (.t 21) (.t 20))]) (.seq (.cond (.t 22) .skip (.exit 0)) (.seq (.block 1 (.seq (.ops [q 23 (.mv (.t 21)),q 24 (.ia (.t 19) (.t 21) 0),q 25 (.ld (.t 24) 0),q 8 (.mv (.t 23)),q 9 (.mv (.t 25))]) (.seq (.ops [q 26 (.mv (.t 9)),q 27 (.bin .eql (.t 26) (.c (.v (.int .i64 1))))]) (.cond (.t 27) (.ops [q 28 (.fa (.t 7) 4),q 29 (.ld (.t 28) 0),q 30 (.mv (.t 8)),q 31 (.mv (.t 2)),q 32 (.ia (.t 29) (.t 30) 0),⟨none,none,.st (.t 32) (.t 31) 0⟩]) .skip)))) (.ops [q 33 (.bin .add (.t 21) (.c (.v (.int .i64 1)))),q 21 (.mv (.t 33))]))))))) (.seq (.ops [q 34 (.ld (.t 7) 5),⟨none,none,.st (.t 6) (.t 34) 5⟩]) .ret))))⟩
theorem k30 : cF Try.prog Try.f30 = some c30 := by kernel_rfl
def c31 : AF := ⟨1,27,[(2,none)],(.seq (.ops [q 1 (.box (.t 0)),q 2 (.mv (.c (.v (.bool false))))]) (.seq (.ops [q 3 (.fa (.t 1) 0),q 4 (.ld (.t 3) 0),q 5 (.fa (.t 1) 1),q 6 (.ld (.t 5) 3),q 7 (.call 51 [(.t 4),(.t 6)]),q 8 (.bin .eql (.t 7) (.c (.v (.int .i64 0)))),q 9 (.mv (.t 8)),⟨(some 10),(some (9,true)),.fa (.t 1) 4⟩,⟨(some 11),(some (9,true)),.ld (.t 10) 0⟩,⟨(some 12),(some (9,true)),.len false (.t 11)⟩,⟨(some 13),(some (9,true)),.fa (.t 1) 1⟩,⟨(some 14),(some (9,true)),.fa (.t 13) 0⟩,⟨(some 15),(some (9,true)),.ld (.t 14) 0⟩,⟨(some 16),(some (9,true)),.fa (.t 1) 1⟩,⟨(some 17),(some (9,true)),.fa (.t 16) 2⟩,⟨(some 18),(some (9,true)),.ld (.t 17) 0⟩,⟨(some 19),(some (9,true)),.bin .mul (.t 15) (.t 18)⟩,⟨(some 20),(some (9,true)),.bin .eql (.t 12) (.t 19)⟩,q 21 (.pick (.t 9) (.t 20) (.c (.v (.bool false)))),q 22 (.mv (.t 21)),⟨(some 23),(some (22,true)),.fa (.t 1) 4⟩,⟨(some 24),(some (22,true)),.ld (.t 23) 0⟩,⟨(some 25),(some (22,true)),.call 32 [(.t 24),(.c (.v (.int .i64 64))),(.c (.v (.int .i64 0))),(.c (.v (.int .i64 9)))]⟩,q 26 (.pick (.t 22) (.t 25) (.c (.v (.bool false)))),q 2 (.mv (.t 26))]) .ret))⟩
theorem k31 : cF Try.prog Try.f31 = some c31 := by kernel_rfl
def c32 : AF := ⟨4,28,[(8,none)],(.seq (.ops [q 8 (.mv (.c (.v (.bool false))))]) (.seq (.seq (.ops [q 9 (.mv (.c (.v (.int .i64 0))))]) (.block 0 (.loop (.seq (.seq (.ops [q 10 (.mv (.t 9)),q 11 (.mv (.t 0)),q 12 (.len false (.t 11)),q 13 (.bin .lss (.t 10) (.t 12))]) (.cond (.t 13) .skip (.exit 0))) (.seq (.block 1 (.seq (.ops [q 16 (.mv (.t 0)),q 17 (.mv (.t 9)),q 18 (.ia (.t 16) (.t 17) 0),q 19 (.ld (.t 18) 0),q 20 (.mv (.t 2)),q 21 (.mv (.t 3)),q 22 (.call 25 [(.t 19),(.t 20),(.t 21)]),q 23 (.un .not (.t 22))]) (.cond (.t 23) (.seq (.ops [q 8 (.mv (.c (.v (.bool false))))]) .ret) .skip))) (.ops [q 14 (.mv (.t 9)),q 15 (.bin .add (.t 14) (.c (.v (.int .i64 1)))),q 9 (.mv (.t 15))])))))) (.seq (.ops [q 24 (.mv (.t 0)),q 25 (.len false (.t 24)),q 26 (.mv (.t 1)),q 27 (.bin .leq (.t 25) (.t 26)),q 8 (.mv (.t 27))]) .ret)))⟩
theorem k32 : cF Try.prog Try.f32 = some c32 := by kernel_rfl
def c33 : AF := ⟨4,49,[(8,(some 5))],(.seq (.ops [q 4 (.box (.t 0)),q 5 (.box (.t 1)),q 7 (.box (.t 3)),q 8 (.al [(.v (.int .i64 0)),(.v (.int .i64 0)),(.v (.int .i64 0)),(.v (.int .i64 0)),(.nil 0)])]) (.seq (.ops [q 12 (.fa (.t 4) 1),q 13 (.ld (.t 12) 3),q 14 (.call 52 [(.t 13)]),q 9 (.mv (.t 14))]) (.seq (.reg [0,1,0,4,0,16,48,127,0,511] [q 15 (.fa (.t 4) 0),q 16 (.ld (.t 15) 0),q 17 (.fa (.t 4) 1),q 18 (.ld (.t 17) 3),q 19 (.fa (.t 4) 4),q 20 (.ld (.t 19) 0),q 21 (.call 38 [(.t 20)]),q 22 (.bld [(.v (.int .i64 0)),(.v (.int .i64 0)),(.v (.int .i64 0)),(.v (.int .i64 0)),(.nil 0)] [(0,1,(.t 16)),(1,3,(.t 18)),(4,1,(.t 21))]),q 10 (.al [(.v (.int .i64 0)),(.v (.int .i64 0)),(.v (.int .i64 0)),(.v (.int .i64 0)),(.nil 0)]),⟨none,none,.st (.t 10) (.t 22) 5⟩]) (.seq (.seq (.ops [q 11 (.mv (.c (.v (.int .i64 0))))]) (.block 0 (.loop (.seq (.seq (.ops [q 23 (.mv (.t 11)),q 24 (.mv (.t 9)),q 25 (.len false (.t 24)),q 26 (.bin .lss (.t 23) (.t 25))]) (.cond (.t 26) .skip (.exit 0))) (.seq (.block 1 (.seq (.ops [q 29 (.fa (.t 5) 4),q 30 (.ld (.t 29) 0),q 31 (.mv (.t 11)),q 32 (.ia (.t 30) (.t 31) 0),q 33 (.ld (.t 32) 0),q 34 (.bin .eql (.t 33) (.c (.v (.int .i64 1))))]) (.cond (.t 34) (.reg [0,1,0,4,0,0,48,112,0,496,1020,0,4095,8191] [q 35 (.fa (.t 10) 4),q 36 (.ld (.t 35) 0),q 37 (.fa (.t 4) 1),q 38 (.ld (.t 37) 3),q 39 (.mv (.t 9)),q 40 (.mv (.t 11)),q 41 (.ia (.t 39) (.t 40) 2),q 42 (.ld (.t 41) 2),q 43 (.ld (.t 7) 2),q 44 (.call 54 [(.t 42),(.t 43)]),q 45 (.call 53 [(.t 38),(.t 44)]),q 46 (.mv (.t 2)),q 47 (.ia (.t 36) (.t 45) 0),⟨none,none,.st (.t 47) (.t 46) 0⟩]) .skip))) (.ops [q 27 (.mv (.t 11)),q 28 (.bin .add (.t 27) (.c (.v (.int .i64 1)))),q 11 (.mv (.t 28))])))))) (.seq (.ops [q 48 (.ld (.t 10) 5),⟨none,none,.st (.t 8) (.t 48) 5⟩]) .ret)))))⟩
theorem k33 : cF Try.prog Try.f33 = some c33 := by kernel_rfl
def c34 : AF := ⟨1,26,[(2,none)],(.seq (.ops [q 1 (.box (.t 0)),q 2 (.mv (.c (.nil 2)))]) (.seq (.ops [q 6 (.bsl 2 57 []),q 3 (.mv (.t 6))]) (.seq (.seq (.ops [q 7 (.fa (.t 1) 0),q 8 (.ld (.t 7) 0),q 9 (.mv (.c (.v (.int .i64 0))))]) (.block 0 (.loop (.seq (.ops [q 10 (.bin .lss (.t 9) (.t 8))]) (.seq (.cond (.t 10) .skip (.exit 0)) (.seq (.block 1 (.seq (.ops [q 11 (.mv (.t 9)),q 4 (.mv (.t 11))]) (.seq (.ops [q 12 (.fa (.t 1) 2),q 13 (.ld (.t 12) 0),q 14 (.mv (.c (.v (.int .i64 0))))]) (.block 2 (.loop (.seq (.ops [q 15 (.bin .lss (.t 14) (.t 13))]) (.seq (.cond (.t 15) .skip (.exit 2)) (.seq (.block 3 (.seq (.ops [q 16 (.mv (.t 14)),q 5 (.mv (.t 16))]) (.ops [q 17 (.mv (.t 3)),q 18 (.mv (.t 4)),q 19 (.mv (.t 5)),q 20 (.bld [(.v (.int .i64 0)),(.v (.int .i64 0))] [(0,1,(.t 18)),(1,1,(.t 19))]),q 21 (.bsl 2 57 [(.t 20)]),q 22 (.app 2 57 16 (.t 17) (.t 21)),q 3 (.mv (.t 22))]))) (.ops [q 23 (.bin .add (.t 14) (.c (.v (.int .i64 1)))),q 14 (.mv (.t 23))]))))))))) (.ops [q 24 (.bin .add (.t 9) (.c (.v (.int .i64 1)))),q 9 (.mv (.t 24))]))))))) (.seq (.ops [q 25 (.mv (.t 3)),q 2 (.mv (.t 25))]) .ret))))⟩
theorem k34 : cF Try.prog Try.f34 = some c34 := by kernel_rfl
def c35 : AF := ⟨1,16,[(2,none)],(.seq (.ops [q 1 (.box (.t 0)),q 2 (.mv (.c (.nil 2)))]) (.seq (.reg [0,0,3,0,0,31,0,0,255,0,0,2047,4095,8191] [q 3 (.ld (.t 1) 2),q 4 (.bld [(.v (.int .i64 0)),(.v (.int .i64 0))] [(0,1,(.c (.v (.int .i64 1)))),(1,1,(.c (.v (.int .i64 0))))]),q 5 (.call 55 [(.t 3),(.t 4)]),q 6 (.ld (.t 1) 2),q 7 (.bld [(.v (.int .i64 0)),(.v (.int .i64 0))] [(0,1,(.c (.v (.int .i64 0)))),(1,1,(.c (.v (.int .i64 1))))]),q 8 (.call 55 [(.t 6),(.t 7)]),q 9 (.ld (.t 1) 2),q 10 (.bld [(.v (.int .i64 0)),(.v (.int .i64 0))] [(0,1,(.c (.v (.int .i64 (-1))))),(1,1,(.c (.v (.int .i64 0))))]),q 11 (.call 55 [(.t 9),(.t 10)]),q 12 (.ld (.t 1) 2),q 13 (.bld [(.v (.int .i64 0)),(.v (.int .i64 0))] [(0,1,(.c (.v (.int .i64 0)))),(1,1,(.c (.v (.int .i64 (-1)))))]),q 14 (.call 55 [(.t 12),(.t 13)]),q 15 (.bsl 2 57 [(.t 5),(.t 8),(.t 11),(.t 14)]),q 2 (.mv (.t 15))]) .ret))⟩
theorem k35 : cF Try.prog Try.f35 = some c35 := by kernel_rfl
def c36 : AF := ⟨2,16,[(4,none)],(.seq (.ops [q 2 (.box (.t 0)),q 3 (.box (.t 1)),q 4 (.mv (.c (.v (.int .i64 0))))]) (.seq (.reg [0,1,0,4,0,16,0,112,252,511,1023,2047] [q 5 (.fa (.t 2) 4),q 6 (.ld (.t 5) 0),q 7 (.fa (.t 2) 1),q 8 (.ld (.t 7) 3),q 9 (.fa (.t 2) 1),q 10 (.ld (.t 9) 3),q 11 (.ld (.t 3) 2),q 12 (.call 57 [(.t 10),(.t 11)]),q 13 (.call 56 [(.t 8),(.t 12)]),q 14 (.ia (.t 6) (.t 13) 0),q 15 (.ld (.t 14) 0),q 4 (.mv (.t 15))]) .ret))⟩
theorem k36 : cF Try.prog Try.f36 = some c36 := by kernel_rfl
def c37 : AF := ⟨0,6,[(0,none)],(.seq (.ops [q 0 (.mv (.c (.nil 2)))]) (.seq (.ops [q 1 (.bld [(.v (.int .i64 0)),(.v (.int .i64 0))] [(0,1,(.c (.v (.int .i64 1))))]),q 2 (.bld [(.v (.int .i64 0)),(.v (.int .i64 0))] [(1,1,(.c (.v (.int .i64 1))))]),q 3 (.bld [(.v (.int .i64 0)),(.v (.int .i64 0))] [(0,1,(.c (.v (.int .i64 (-1)))))]),q 4 (.bld [(.v (.int .i64 0)),(.v (.int .i64 0))] [(1,1,(.c (.v (.int .i64 (-1)))))]),q 5 (.bsl 2 57 [(.t 1),(.t 2),(.t 3),(.t 4)]),q 0 (.mv (.t 5))]) .ret))⟩
theorem k37 : cF Try.prog Try.f37 = some c37 := by kernel_rfl
def c38 : AF := ⟨1,6,[(2,none)],(.seq (.ops [q 2 (.mv (.c (.nil 0)))]) (.seq (.ops [q 3 (.bsl 0 2 []),q 4 (.mv (.t 0)),q 5 (.app 0 2 8 (.t 3) (.t 4)),q 2 (.mv (.t 5))]) .ret))⟩
theorem k38 : cF Try.prog Try.f38 = some c38 := by kernel_rfl
def c39 : AF := ⟨1,26,[(2,none),(3,none)],(.seq (.ops [q 1 (.box (.t 0)),q 2 (.mv (.c (.nil 0))),q 3 (.mv (.c (.v (.int .i64 0))))]) (.seq (.seq (.ops [q 7 (.ld (.t 1) 5),q 8 (.call 21 [(.t 7)]),q 9 (.un .not (.t 8))]) (.cond (.t 9) (.seq (.ops [q 2 (.mv (.c (.nil 0))),q 3 (.mv (.c (.v (.int .i64 1))))]) .ret) .skip)) (.seq (.ops [q 10 (.mk 0 2 8 (.int .i64 0) (.c (.v (.int .i64 10))) (.c (.v (.int .i64 10)))),q 4 (.mv (.t 10))]) (.seq (.seq (.ops [q 11 (.fa (.t 1) 4),q 12 (.ld (.t 11) 0),q 13 (.len false (.t 12)),q 14 (.mv (.c (.v (.int .i64 0))))]) (.block 0 (.loop (.seq (.ops [q 15 (.bin .lss (.t 14) (.t 13))]) (.seq (.cond (.t 15) .skip (.exit 0)) (.seq (.block 1 (.seq (.ops [q 16 (.ia (.t 12) (.t 14) 0),q 17 (.ld (.t 16) 0),q 6 (.mv (.t 17))]) (.ops [q 18 (.mv (.t 4)),q 19 (.mv (.t 6)),q 20 (.ia (.t 18) (.t 19) 0),q 21 (.ld (.t 20) 0),q 22 (.bin .add (.t 21) (.c (.v (.int .i64 1)))),q 23 (.ia (.t 18) (.t 19) 0),⟨none,none,.st (.t 23) (.t 22) 0⟩]))) (.ops [q 24 (.bin .add (.t 14) (.c (.v (.int .i64 1)))),q 14 (.mv (.t 24))]))))))) (.seq (.ops [q 25 (.mv (.t 4)),q 2 (.mv (.t 25)),q 3 (.mv (.c (.v (.int .i64 0))))]) .ret)))))⟩
theorem k39 : cF Try.prog Try.f39 = some c39 := by kernel_rfl
def c40 : AF := ⟨1,8,[(2,none)],(.seq (.ops [q 1 (.box (.t 0)),q 2 (.mv (.c (.v (.int .i64 0))))]) (.seq (.ops [q 3 (.fa (.t 1) 0),q 4 (.ld (.t 3) 0),q 5 (.fa (.t 1) 2),q 6 (.ld (.t 5) 0),q 7 (.bin .mul (.t 4) (.t 6)),q 2 (.mv (.t 7))]) .ret))⟩
theorem k40 : cF Try.prog Try.f40 = some c40 := by kernel_rfl
def c41 : AF := ⟨2,26,[(4,none)],(.seq (.ops [q 4 (.mv (.c (.v (.bool false))))]) (.seq (.seq (.ops [q 6 (.mv (.t 0)),q 7 (.len false (.t 6)),q 8 (.mv (.t 1)),q 9 (.len false (.t 8)),q 10 (.bin .neq (.t 7) (.t 9))]) (.cond (.t 10) (.seq (.ops [q 4 (.mv (.c (.v (.bool false))))]) .ret) .skip)) (.seq (.seq (.ops [q 5 (.mv (.c (.v (.int .i64 0))))]) (.block 0 (.loop (.seq (.seq (.ops [q 11 (.mv (.t 5)),q 12 (.mv (.t 0)),q 13 (.len false (.t 12)),q 14 (.bin .lss (.t 11) (.t 13))]) (.cond (.t 14) .skip (.exit 0))) (.seq (.block 1 (.seq (.reg [0,0,3,7,0,0,48,112,255] [q 17 (.mv (.t 0)),q 18 (.mv (.t 5)),q 19 (.ia (.t 17) (.t 18) 0),q 20 (.ld (.t 19) 0),q 21 (.mv (.t 1)),q 22 (.mv (.t 5)),q 23 (.ia (.t 21) (.t 22) 0),q 24 (.ld (.t 23) 0),q 25 (.bin .neq (.t 20) (.t 24))]) (.cond (.t 25) (.seq (.ops [q 4 (.mv (.c (.v (.bool false))))]) .ret) .skip))) (.ops [q 15 (.mv (.t 5)),q 16 (.bin .add (.t 15) (.c (.v (.int .i64 1)))),q 5 (.mv (.t 16))])))))) (.seq (.ops [q 4 (.mv (.c (.v (.bool true))))]) .ret))))⟩
theorem k41 : cF Try.prog Try.f41 = some c41 := by kernel_rfl
def c42 : AF := ⟨1,40,[(2,none),(3,(some 3))],(.seq (.ops [q 2 (.mv (.c (.v (.int .i64 0)))),q 3 (.al [(.v (.int .i64 0)),(.v (.int .i64 0)),(.v (.int .i64 0))])]) (.seq (.ops [q 6 (.mv (.t 0)),q 7 (.call 58 [(.t 6)]),q 4 (.mv (.t 7))]) (.seq (.seq (.ops [q 8 (.mv (.t 0)),q 9 (.call 27 [(.t 8),(.c (.v (.int .i64 5)))])]) (.block 0 (.seq (.ops [q 11 (.bin .eql (.t 9) (.c (.v (.int .i64 0)))),q 10 (.mv (.t 11))]) (.cond (.t 10) (.seq (.ops [q 12 (.mv (.t 4)),q 13 (.mv (.t 0)),q 14 (.call 59 [(.t 13)]),q 2 (.mv (.t 12)),⟨none,none,.st (.t 3) (.t 14) 3⟩]) .ret) (.seq (.ops [q 16 (.bin .eql (.t 9) (.c (.v (.int .i64 1)))),q 15 (.mv (.t 16))]) (.cond (.t 15) (.seq (.ops [q 17 (.mv (.t 4)),q 18 (.mv (.t 0)),q 19 (.call 27 [(.t 18),(.c (.v (.int .i64 4)))]),q 20 (.bin .add (.c (.v (.int .i64 1))) (.t 19)),q 21 (.mv (.t 0)),q 22 (.call 27 [(.t 21),(.c (.v (.int .i64 4)))]),q 23 (.bin .add (.c (.v (.int .i64 1))) (.t 22)),q 24 (.bld [(.v (.int .i64 0)),(.v (.int .i64 0)),(.v (.int .i64 0))] [(0,1,(.t 20)),(2,1,(.t 23))]),q 2 (.mv (.t 17)),⟨none,none,.st (.t 3) (.t 24) 3⟩]) .ret) (.seq (.ops [q 26 (.bin .eql (.t 9) (.c (.v (.int .i64 2)))),q 25 (.mv (.t 26))]) (.cond (.t 25) (.seq (.seq (.ops [q 27 (.mv (.t 4)),q 28 (.bin .eql (.t 27) (.c (.v (.int .i64 0))))]) (.cond (.t 28) (.seq (.ops [q 29 (.mv (.t 4)),q 30 (.bld [(.v (.int .i64 0)),(.v (.int .i64 0)),(.v (.int .i64 0))] [(0,1,(.c (.v (.int .i64 2)))),(1,1,(.c (.v (.int .i64 1)))),(2,1,(.c (.v (.int .i64 1))))]),q 2 (.mv (.t 29)),⟨none,none,.st (.t 3) (.t 30) 3⟩]) .ret) .skip)) (.seq (.ops [q 31 (.mv (.t 4)),q 32 (.bld [(.v (.int .i64 0)),(.v (.int .i64 0)),(.v (.int .i64 0))] [(0,1,(.c (.v (.int .i64 3)))),(1,1,(.c (.v (.int .i64 1)))),(2,1,(.c (.v (.int .i64 1))))]),q 2 (.mv (.t 31)),⟨none,none,.st (.t 3) (.t 32) 3⟩]) .ret)) .skip)))))))) (.seq (.ops [q 33 (.mv (.t 0)),q 34 (.call 27 [(.t 33),(.c (.v (.int .i64 4)))]),q 35 (.bin .add (.c (.v (.int .i64 1))) (.t 34)),q 5 (.mv (.t 35))]) (.seq (.ops [q 36 (.mv (.t 4)),q 37 (.mv (.t 5)),q 38 (.mv (.t 5)),q 39 (.bld [(.v (.int .i64 0)),(.v (.int .i64 0)),(.v (.int .i64 0))] [(0,1,(.t 37)),(2,1,(.t 38))]),q 2 (.mv (.t 36)),⟨none,none,.st (.t 3) (.t 39) 3⟩]) .ret)))))⟩
theorem k42 : cF Try.prog Try.f42 = some c42 := by kernel_rfl
def c43 : AF := ⟨3,88,[(6,(some 5))],(.seq (.ops [q 5 (.box (.t 2)),q 6 (.al [(.v (.int .i64 0)),(.v (.int .i64 0)),(.v (.int .i64 0)),(.v (.int .i64 0)),(.nil 0)])]) (.seq (.ops [q 16 (.mv (.t 1)),q 17 (.ld (.t 5) 3),q 18 (.bsl 0 2 []),q 19 (.bld [(.v (.int .i64 0)),(.v (.int .i64 0)),(.v (.int .i64 0)),(.v (.int .i64 0)),(.nil 0)] [(0,1,(.t 16)),(1,3,(.t 17)),(4,1,(.t 18))]),q 7 (.al [(.v (.int .i64 0)),(.v (.int .i64 0)),(.v (.int .i64 0)),(.v (.int .i64 0)),(.nil 0)]),⟨none,none,.st (.t 7) (.t 19) 5⟩]) (.seq (.seq (.ops [q 20 (.mv (.t 1)),q 21 (.ld (.t 5) 3),q 22 (.call 51 [(.t 20),(.t 21)]),q 23 (.bin .neq (.t 22) (.c (.v (.int .i64 0))))]) (.cond (.t 23) (.seq (.ops [q 24 (.ld (.t 7) 5),⟨none,none,.st (.t 6) (.t 24) 5⟩]) .ret) .skip)) (.seq (.ops [q 25 (.call 60 []),q 26 (.bsl 6 84 [(.t 25)]),q 8 (.mv (.t 26))]) (.seq (.seq (.ops [q 27 (.mv (.t 0)),q 28 (.call 27 [(.t 27),(.c (.v (.int .i64 4)))]),q 29 (.bin .gtr (.t 28) (.c (.v (.int .i64 0))))]) (.cond (.t 29) (.seq (.ops [q 30 (.bsl 6 84 []),q 9 (.mv (.t 30))]) (.seq (.seq (.ops [q 31 (.mv (.t 0)),q 32 (.call 27 [(.t 31),(.c (.v (.int .i64 2)))]),q 33 (.bin .add (.c (.v (.int .i64 1))) (.t 32)),q 10 (.mv (.t 33))]) (.block 0 (.loop (.seq (.seq (.ops [q 34 (.mv (.t 10)),q 35 (.bin .gtr (.t 34) (.c (.v (.int .i64 0))))]) (.cond (.t 35) .skip (.exit 0))) (.seq (.block 1 (.reg [0,0,0,0,0,28,62,126,255,511] [q 38 (.mv (.t 9)),q 39 (.ld (.t 5) 3),q 40 (.mv (.t 0)),q 41 (.mv (.t 1)),q 42 (.ld (.t 5) 3),q 43 (.call 62 [(.t 40),(.t 41),(.t 42)]),q 44 (.call 61 [(.t 39),(.t 43)]),q 45 (.bsl 6 84 [(.t 44)]),q 46 (.app 6 84 48 (.t 38) (.t 45)),q 9 (.mv (.t 46))])) (.ops [q 36 (.mv (.t 10)),q 37 (.bin .sub (.t 36) (.c (.v (.int .i64 1)))),q 10 (.mv (.t 37))])))))) (.ops [q 47 (.ld (.t 5) 3),q 48 (.mv (.t 9)),q 49 (.call 63 [(.t 47),(.t 48)]),q 8 (.mv (.t 49))]))) .skip)) (.seq (.ops [q 50 (.ld (.t 5) 3),q 51 (.mv (.t 8)),q 52 (.call 64 [(.t 50),(.t 51)]),q 11 (.mv (.t 52))]) (.seq (.ops [q 53 (.bsl 0 2 []),q 12 (.mv (.t 53))]) (.seq (.ops [q 54 (.mv (.t 0)),q 55 (.call 27 [(.t 54),(.c (.v (.int .i64 3)))]),q 56 (.bin .add (.c (.v (.int .i64 2))) (.t 55)),q 13 (.mv (.t 56))]) (.seq (.seq (.ops [q 14 (.mv (.c (.v (.int .i64 0))))]) (.block 2 (.loop (.seq (.seq (.ops [q 57 (.mv (.t 14)),q 58 (.mv (.t 11)),q 59 (.len false (.t 58)),q 60 (.bin .lss (.t 57) (.t 59))]) (.cond (.t 60) .skip (.exit 2))) (.seq (.block 3 (.ops [q 63 (.mv (.t 12)),q 64 (.mv (.t 0)),q 65 (.mv (.t 13)),q 66 (.call 27 [(.t 64),(.t 65)]),q 67 (.bsl 0 2 [(.t 66)]),q 68 (.app 0 2 8 (.t 63) (.t 67)),q 12 (.mv (.t 68))])) (.ops [q 61 (.mv (.t 14)),q 62 (.bin .add (.t 61) (.c (.v (.int .i64 1)))),q 14 (.mv (.t 62))])))))) (.seq (.seq (.ops [q 15 (.mv (.c (.v (.int .i64 0))))]) (.block 4 (.loop (.seq (.seq (.ops [q 69 (.mv (.t 15)),q 70 (.mv (.t 11)),q 71 (.len false (.t 70)),q 72 (.bin .lss (.t 69) (.t 71))]) (.cond (.t 72) .skip (.exit 4))) (.seq (.block 5 (.reg [0,1,0,0,0,24,56,124,252,508,1023,2047,4095] [q 75 (.fa (.t 7) 4),q 76 (.ld (.t 75) 0),q 77 (.mv (.t 12)),q 78 (.mv (.t 11)),q 79 (.mv (.t 15)),q 80 (.ia (.t 78) (.t 79) 0),q 81 (.ld (.t 80) 0),q 82 (.ia (.t 77) (.t 81) 0),q 83 (.ld (.t 82) 0),q 84 (.bsl 0 2 [(.t 83)]),q 85 (.app 0 2 8 (.t 76) (.t 84)),q 86 (.fa (.t 7) 4),⟨none,none,.st (.t 86) (.t 85) 0⟩])) (.ops [q 73 (.mv (.t 15)),q 74 (.bin .add (.t 73) (.c (.v (.int .i64 1)))),q 15 (.mv (.t 74))])))))) (.seq (.ops [q 87 (.ld (.t 7) 5),⟨none,none,.st (.t 6) (.t 87) 5⟩]) .ret)))))))))))⟩
theorem k43 : cF Try.prog Try.f43 = some c43 := by kernel_rfl
def c44 : AF := ⟨2,12,[(4,none)],(.seq (.ops [q 4 (.mv (.c (.v (.int .i64 0))))]) (.seq (.ops [q 5 (.mv (.t 1)),q 6 (.mv (.t 0)),q 7 (.mv (.t 1)),q 8 (.len false (.t 7)),q 9 (.call 27 [(.t 6),(.t 8)]),q 10 (.ia (.t 5) (.t 9) 0),q 11 (.ld (.t 10) 0),q 4 (.mv (.t 11))]) .ret))⟩
theorem k44 : cF Try.prog Try.f44 = some c44 := by kernel_rfl
def c45 : AF := ⟨1,5,[(2,none)],(.seq (.ops [q 2 (.mv (.c (.v (.bool false))))]) (.seq (.ops [q 3 (.mv (.t 0)),q 4 (.call 47 [(.t 3),(.c (.v (.int .i64 0))),(.c (.v (.int .i64 1)))]),q 2 (.mv (.t 4))]) .ret))⟩
theorem k45 : cF Try.prog Try.f45 = some c45 := by kernel_rfl
def c46 : AF := ⟨1,24,[(2,none)],(.seq (.ops [q 1 (.box (.t 0)),q 2 (.mv (.c (.v (.bool false))))]) (.seq (.ops [q 3 (.fa (.t 1) 0),q 4 (.ld (.t 3) 0),q 5 (.call 47 [(.t 4),(.c (.v (.int .i64 1))),(.c (.v (.int .i64 64)))]),q 6 (.mv (.t 5)),⟨(some 7),(some (6,true)),.fa (.t 1) 2⟩,⟨(some 8),(some (6,true)),.ld (.t 7) 0⟩,⟨(some 9),(some (6,true)),.call 47 [(.t 8),(.c (.v (.int .i64 1))),(.c (.v (.int .i64 64)))]⟩,q 10 (.pick (.t 6) (.t 9) (.c (.v (.bool false)))),q 11 (.mv (.t 10)),⟨(some 12),(some (11,true)),.fa (.t 1) 1⟩,⟨(some 13),(some (11,true)),.ld (.t 12) 0⟩,⟨(some 14),(some (11,true)),.fa (.t 1) 0⟩,⟨(some 15),(some (11,true)),.ld (.t 14) 0⟩,⟨(some 16),(some (11,true)),.bin .sub (.t 15) (.c (.v (.int .i64 1)))⟩,⟨(some 17),(some (11,true)),.call 47 [(.t 13),(.c (.v (.int .i64 0))),(.t 16)]⟩,q 18 (.pick (.t 11) (.t 17) (.c (.v (.bool false)))),q 19 (.mv (.t 18)),⟨(some 20),(some (19,true)),.ld (.t 1) 3⟩,⟨(some 21),(some (19,true)),.call 40 [(.t 20)]⟩,⟨(some 22),(some (19,true)),.bin .leq (.t 21) (.c (.v (.int .i64 64)))⟩,q 23 (.pick (.t 19) (.t 22) (.c (.v (.bool false)))),q 2 (.mv (.t 23))]) .ret))⟩
theorem k46 : cF Try.prog Try.f46 = some c46 := by kernel_rfl
def c47 : AF := ⟨3,15,[(6,none)],(.seq (.ops [q 6 (.mv (.c (.v (.bool false))))]) (.seq (.ops [q 7 (.mv (.t 0)),q 8 (.mv (.t 1)),q 9 (.bin .geq (.t 7) (.t 8)),q 10 (.mv (.t 9)),⟨(some 11),(some (10,true)),.mv (.t 0)⟩,⟨(some 12),(some (10,true)),.mv (.t 2)⟩,⟨(some 13),(some (10,true)),.bin .leq (.t 11) (.t 12)⟩,q 14 (.pick (.t 10) (.t 13) (.c (.v (.bool false)))),q 6 (.mv (.t 14))]) .ret))⟩
theorem k47 : cF Try.prog Try.f47 = some c47 := by kernel_rfl
def c48 : AF := ⟨2,9,[(4,none)],(.seq (.ops [q 4 (.mv (.c (.v (.bool false))))]) (.seq (.ops [q 5 (.mv (.t 0)),q 6 (.mv (.t 1)),q 7 (.call 65 [(.t 5),(.t 6)]),q 8 (.bin .geq (.t 7) (.c (.v (.int .i64 0)))),q 4 (.mv (.t 8))]) .ret))⟩
theorem k48 : cF Try.prog Try.f48 = some c48 := by kernel_rfl
def c49 : AF := ⟨1,10,[(4,none)],(.seq (.ops [q 4 (.mv (.c (.v (.bool false))))]) (.seq (.ops [q 5 (.mv (.t 0)),q 6 (.ld (.t 1) 0),q 7 (.ld (.t 2) 0),q 8 (.call 47 [(.t 5),(.t 6),(.t 7)]),q 9 (.un .not (.t 8)),q 4 (.mv (.t 9))]) .ret))⟩
theorem k49 : cF Try.prog Try.f49 = some c49 := by kernel_rfl
def c50 : AF := ⟨1,8,[(2,none)],(.seq (.ops [q 2 (.mv (.c (.nil 0)))]) (.seq (.seq (.ops [q 3 (.mv (.t 0)),q 4 (.eqn false (.t 3))]) (.cond (.t 4) (.seq (.ops [q 2 (.mv (.c (.nil 0)))]) .ret) .skip)) (.seq (.ops [q 5 (.bsl 0 2 []),q 6 (.mv (.t 0)),q 7 (.app 0 2 8 (.t 5) (.t 6)),q 2 (.mv (.t 7))]) .ret)))⟩
theorem k50 : cF Try.prog Try.f50 = some c50 := by kernel_rfl
def c51 : AF := ⟨2,13,[(4,none)],(.seq (.ops [q 3 (.box (.t 1)),q 4 (.mv (.c (.v (.int .i64 0))))]) (.seq (.seq (.ops [q 5 (.mv (.t 0)),q 6 (.call 66 [(.t 5)]),q 7 (.un .not (.t 6)),q 8 (.mv (.t 7)),⟨(some 9),(some (8,false)),.ld (.t 3) 3⟩,⟨(some 10),(some (8,false)),.call 67 [(.t 9)]⟩,⟨(some 11),(some (8,false)),.un .not (.t 10)⟩,q 12 (.pick (.t 8) (.c (.v (.bool true))) (.t 11))]) (.cond (.t 12) (.seq (.ops [q 4 (.mv (.c (.v (.int .i64 1))))]) .ret) .skip)) (.seq (.ops [q 4 (.mv (.c (.v (.int .i64 0))))]) .ret)))⟩
theorem k51 : cF Try.prog Try.f51 = some c51 := by kernel_rfl
def c52 : AF := ⟨1,26,[(2,none)],(.seq (.ops [q 1 (.box (.t 0)),q 2 (.mv (.c (.nil 2)))]) (.seq (.ops [q 6 (.bsl 2 57 []),q 3 (.mv (.t 6))]) (.seq (.seq (.ops [q 4 (.mv (.c (.v (.int .i64 0))))]) (.block 0 (.loop (.seq (.seq (.ops [q 7 (.mv (.t 4)),q 8 (.fa (.t 1) 0),q 9 (.ld (.t 8) 0),q 10 (.bin .lss (.t 7) (.t 9))]) (.cond (.t 10) .skip (.exit 0))) (.seq (.block 1 (.seq (.ops [q 5 (.mv (.c (.v (.int .i64 0))))]) (.block 2 (.loop (.seq (.seq (.ops [q 13 (.mv (.t 5)),q 14 (.fa (.t 1) 2),q 15 (.ld (.t 14) 0),q 16 (.bin .lss (.t 13) (.t 15))]) (.cond (.t 16) .skip (.exit 2))) (.seq (.block 3 (.ops [q 19 (.mv (.t 3)),q 20 (.mv (.t 4)),q 21 (.mv (.t 5)),q 22 (.bld [(.v (.int .i64 0)),(.v (.int .i64 0))] [(0,1,(.t 20)),(1,1,(.t 21))]),q 23 (.bsl 2 57 [(.t 22)]),q 24 (.app 2 57 16 (.t 19) (.t 23)),q 3 (.mv (.t 24))])) (.ops [q 17 (.mv (.t 5)),q 18 (.bin .add (.t 17) (.c (.v (.int .i64 1)))),q 5 (.mv (.t 18))]))))))) (.ops [q 11 (.mv (.t 4)),q 12 (.bin .add (.t 11) (.c (.v (.int .i64 1)))),q 4 (.mv (.t 12))])))))) (.seq (.ops [q 25 (.mv (.t 3)),q 2 (.mv (.t 25))]) .ret))))⟩
theorem k52 : cF Try.prog Try.f52 = some c52 := by kernel_rfl
def c53 : AF := ⟨2,16,[(4,none)],(.seq (.ops [q 2 (.box (.t 0)),q 3 (.box (.t 1)),q 4 (.mv (.c (.v (.int .i64 0))))]) (.seq (.ops [q 5 (.ld (.t 2) 3),q 6 (.ld (.t 3) 2),q 7 (.call 68 [(.t 5),(.t 6)]),⟨none,none,.st (.t 3) (.t 7) 2⟩]) (.seq (.ops [q 8 (.fa (.t 3) 0),q 9 (.ld (.t 8) 0),q 10 (.fa (.t 2) 2),q 11 (.ld (.t 10) 0),q 12 (.bin .mul (.t 9) (.t 11)),q 13 (.fa (.t 3) 1),q 14 (.ld (.t 13) 0),q 15 (.bin .add (.t 12) (.t 14)),q 4 (.mv (.t 15))]) .ret)))⟩
theorem k53 : cF Try.prog Try.f53 = some c53 := by kernel_rfl
def c54 : AF := ⟨2,16,[(4,(some 2))],(.seq (.ops [q 2 (.box (.t 0)),q 3 (.box (.t 1)),q 4 (.al [(.v (.int .i64 0)),(.v (.int .i64 0))])]) (.seq (.ops [q 5 (.fa (.t 2) 0),q 6 (.ld (.t 5) 0),q 7 (.fa (.t 3) 0),q 8 (.ld (.t 7) 0),q 9 (.bin .add (.t 6) (.t 8)),q 10 (.fa (.t 2) 1),q 11 (.ld (.t 10) 0),q 12 (.fa (.t 3) 1),q 13 (.ld (.t 12) 0),q 14 (.bin .add (.t 11) (.t 13)),q 15 (.bld [(.v (.int .i64 0)),(.v (.int .i64 0))] [(0,1,(.t 9)),(1,1,(.t 14))]),⟨none,none,.st (.t 4) (.t 15) 2⟩]) .ret))⟩
theorem k54 : cF Try.prog Try.f54 = some c54 := by kernel_rfl
def c55 : AF := ⟨2,16,[(4,(some 2))],(.seq (.ops [q 2 (.box (.t 0)),q 3 (.box (.t 1)),q 4 (.al [(.v (.int .i64 0)),(.v (.int .i64 0))])]) (.seq (.ops [q 5 (.fa (.t 2) 0),q 6 (.ld (.t 5) 0),q 7 (.fa (.t 3) 0),q 8 (.ld (.t 7) 0),q 9 (.bin .add (.t 6) (.t 8)),q 10 (.fa (.t 2) 1),q 11 (.ld (.t 10) 0),q 12 (.fa (.t 3) 1),q 13 (.ld (.t 12) 0),q 14 (.bin .add (.t 11) (.t 13)),q 15 (.bld [(.v (.int .i64 0)),(.v (.int .i64 0))] [(0,1,(.t 9)),(1,1,(.t 14))]),⟨none,none,.st (.t 4) (.t 15) 2⟩]) .ret))⟩
theorem k55 : cF Try.prog Try.f55 = some c55 := by kernel_rfl
def c56 : AF := ⟨2,13,[(4,none)],(.seq (.ops [q 2 (.box (.t 0)),q 3 (.box (.t 1)),q 4 (.mv (.c (.v (.int .i64 0))))]) (.seq (.ops [q 5 (.fa (.t 3) 0),q 6 (.ld (.t 5) 0),q 7 (.fa (.t 2) 2),q 8 (.ld (.t 7) 0),q 9 (.bin .mul (.t 6) (.t 8)),q 10 (.fa (.t 3) 1),q 11 (.ld (.t 10) 0),q 12 (.bin .add (.t 9) (.t 11)),q 4 (.mv (.t 12))]) .ret))⟩
theorem k56 : cF Try.prog Try.f56 = some c56 := by kernel_rfl
def c57 : AF := ⟨2,29,[(4,(some 2))],(.seq (.ops [q 2 (.box (.t 0)),q 3 (.box (.t 1)),q 4 (.al [(.v (.int .i64 0)),(.v (.int .i64 0))])]) (.seq (.ops [q 6 (.fa (.t 3) 1),q 7 (.ld (.t 6) 0),q 8 (.fa (.t 2) 2),q 9 (.ld (.t 8) 0),q 10 (.call 69 [(.t 7),(.t 9)]),q 5 (.mv (.t 10))]) (.seq (.reg [0,1,0,4,0,28,0,64,252,0,512,2044,4095,0,8192,32767,0,131071,262143] [q 11 (.fa (.t 3) 0),q 12 (.ld (.t 11) 0),q 13 (.fa (.t 3) 1),q 14 (.ld (.t 13) 0),q 15 (.mv (.t 5)),q 16 (.bin .sub (.t 14) (.t 15)),q 17 (.fa (.t 2) 2),q 18 (.ld (.t 17) 0),q 19 (.bin .quo (.t 16) (.t 18)),q 20 (.fa (.t 2) 1),q 21 (.ld (.t 20) 0),q 22 (.bin .mul (.t 19) (.t 21)),q 23 (.bin .sub (.t 12) (.t 22)),q 24 (.fa (.t 2) 0),q 25 (.ld (.t 24) 0),q 26 (.call 69 [(.t 23),(.t 25)]),q 27 (.mv (.t 5)),q 28 (.bld [(.v (.int .i64 0)),(.v (.int .i64 0))] [(0,1,(.t 26)),(1,1,(.t 27))]),⟨none,none,.st (.t 4) (.t 28) 2⟩]) .ret)))⟩
theorem k57 : cF Try.prog Try.f57 = some c57 := by kernel_rfl
def c58 : AF := ⟨1,11,[(2,none)],(.seq (.ops [q 2 (.mv (.c (.v (.int .i64 0))))]) (.seq (.seq (.ops [q 3 (.mv (.t 0)),q 4 (.call 27 [(.t 3),(.c (.v (.int .i64 40)))]),q 5 (.bin .eql (.t 4) (.c (.v (.int .i64 0))))]) (.cond (.t 5) (.seq (.ops [q 6 (.mv (.t 0)),q 7 (.bsl 0 2 [(.c (.v (.int .i64 (-1)))),(.c (.v (.int .i64 2)))]),q 8 (.call 44 [(.t 6),(.t 7)]),q 2 (.mv (.t 8))]) .ret) .skip)) (.seq (.ops [q 9 (.mv (.t 0)),q 10 (.call 27 [(.t 9),(.c (.v (.int .i64 2)))]),q 2 (.mv (.t 10))]) .ret)))⟩
theorem k58 : cF Try.prog Try.f58 = some c58 := by kernel_rfl
def c59 : AF := ⟨1,42,[(2,(some 3))],(.seq (.ops [q 2 (.al [(.v (.int .i64 0)),(.v (.int .i64 0)),(.v (.int .i64 0))])]) (.seq (.ops [q 4 (.mv (.t 0)),q 5 (.call 27 [(.t 4),(.c (.v (.int .i64 6)))]),q 6 (.bin .add (.c (.v (.int .i64 1))) (.t 5)),q 7 (.mv (.t 0)),q 8 (.call 27 [(.t 7),(.c (.v (.int .i64 6)))]),q 9 (.bin .add (.c (.v (.int .i64 1))) (.t 8)),q 10 (.bld [(.v (.int .i64 0)),(.v (.int .i64 0)),(.v (.int .i64 0))] [(0,1,(.t 6)),(2,1,(.t 9))]),q 3 (.al [(.v (.int .i64 0)),(.v (.int .i64 0)),(.v (.int .i64 0))]),⟨none,none,.st (.t 3) (.t 10) 3⟩]) (.seq (.ops [q 11 (.mv (.t 0)),q 12 (.fa (.t 3) 0),q 13 (.ld (.t 12) 0),q 14 (.call 27 [(.t 11),(.t 13)]),q 15 (.fa (.t 3) 1),⟨none,none,.st (.t 15) (.t 14) 0⟩]) (.seq (.seq (.ops [q 16 (.mv (.t 0)),q 17 (.call 27 [(.t 16),(.c (.v (.int .i64 60)))])]) (.block 0 (.seq (.ops [q 19 (.bin .eql (.t 17) (.c (.v (.int .i64 0)))),q 18 (.mv (.t 19))]) (.cond (.t 18) (.ops [q 20 (.mv (.t 0)),q 21 (.bsl 0 2 [(.c (.v (.int .i64 0))),(.c (.v (.int .i64 64))),(.c (.v (.int .i64 65))),(.c (.v (.int .i64 8)))]),q 22 (.call 44 [(.t 20),(.t 21)]),q 23 (.fa (.t 3) 0),⟨none,none,.st (.t 23) (.t 22) 0⟩]) (.seq (.ops [q 25 (.bin .eql (.t 17) (.c (.v (.int .i64 1)))),q 24 (.mv (.t 25))]) (.cond (.t 24) (.ops [q 26 (.mv (.t 0)),q 27 (.fa (.t 3) 0),q 28 (.ld (.t 27) 0),q 29 (.fa (.t 3) 0),q 30 (.ld (.t 29) 0),q 31 (.bin .sub (.t 30) (.c (.v (.int .i64 1)))),q 32 (.bsl 0 2 [(.c (.v (.int .i64 (-1)))),(.t 28),(.t 31)]),q 33 (.call 44 [(.t 26),(.t 32)]),q 34 (.fa (.t 3) 1),⟨none,none,.st (.t 34) (.t 33) 0⟩]) (.seq (.ops [q 36 (.bin .eql (.t 17) (.c (.v (.int .i64 2)))),q 35 (.mv (.t 36))]) (.cond (.t 35) (.ops [q 37 (.mv (.t 0)),q 38 (.bsl 0 2 [(.c (.v (.int .i64 8))),(.c (.v (.int .i64 9)))]),q 39 (.call 44 [(.t 37),(.t 38)]),q 40 (.bld [(.v (.int .i64 0)),(.v (.int .i64 0)),(.v (.int .i64 0))] [(0,1,(.c (.v (.int .i64 8)))),(1,1,(.c (.v (.int .i64 3)))),(2,1,(.t 39))]),⟨none,none,.st (.t 3) (.t 40) 3⟩]) .skip)))))))) (.seq (.ops [q 41 (.ld (.t 3) 3),⟨none,none,.st (.t 2) (.t 41) 3⟩]) .ret)))))⟩
theorem k59 : cF Try.prog Try.f59 = some c59 := by kernel_rfl
def c60 : AF := ⟨0,3,[(0,(some 6))],(.seq (.ops [q 0 (.al [(.v (.int .i64 0)),(.v (.int .i64 0)),(.v (.int .i64 0)),(.v (.int .i64 0)),(.v (.int .i64 0)),(.v (.int .i64 0))])]) (.seq (.ops [q 1 (.call 70 []),q 2 (.bld [(.v (.int .i64 0)),(.v (.int .i64 0)),(.v (.int .i64 0)),(.v (.int .i64 0)),(.v (.int .i64 0)),(.v (.int .i64 0))] [(0,4,(.t 1))]),⟨none,none,.st (.t 0) (.t 2) 6⟩]) .ret))⟩
theorem k60 : cF Try.prog Try.f60 = some c60 := by kernel_rfl
def c61 : AF := ⟨2,12,[(4,(some 6))],(.seq (.ops [q 2 (.box (.t 0)),q 3 (.box (.t 1)),q 4 (.al [(.v (.int .i64 0)),(.v (.int .i64 0)),(.v (.int .i64 0)),(.v (.int .i64 0)),(.v (.int .i64 0)),(.v (.int .i64 0))])]) (.seq (.reg [0,1,0,0,8,28,63,127] [q 5 (.fa (.t 3) 0),q 6 (.ld (.t 5) 4),q 7 (.ld (.t 2) 3),q 8 (.fa (.t 3) 4),q 9 (.ld (.t 8) 2),q 10 (.call 68 [(.t 7),(.t 9)]),q 11 (.bld [(.v (.int .i64 0)),(.v (.int .i64 0)),(.v (.int .i64 0)),(.v (.int .i64 0)),(.v (.int .i64 0)),(.v (.int .i64 0))] [(0,4,(.t 6)),(4,2,(.t 10))]),⟨none,none,.st (.t 4) (.t 11) 6⟩]) .ret))⟩
theorem k61 : cF Try.prog Try.f61 = some c61 := by kernel_rfl
def c62 : AF := ⟨3,33,[(6,(some 6))],(.seq (.ops [q 5 (.box (.t 2)),q 6 (.al [(.v (.int .i64 0)),(.v (.int .i64 0)),(.v (.int .i64 0)),(.v (.int .i64 0)),(.v (.int .i64 0)),(.v (.int .i64 0))])]) (.seq (.ops [q 9 (.call 70 []),q 7 (.al [(.v (.int .i64 0)),(.v (.int .i64 0)),(.v (.int .i64 0)),(.v (.int .i64 0))]),⟨none,none,.st (.t 7) (.t 9) 4⟩]) (.seq (.seq (.ops [q 10 (.mv (.t 1)),q 11 (.ld (.t 5) 3),q 12 (.call 51 [(.t 10),(.t 11)]),q 13 (.bin .eql (.t 12) (.c (.v (.int .i64 0))))]) (.cond (.t 13) (.seq (.ops [q 14 (.mv (.t 1)),q 15 (.ld (.t 5) 3),q 16 (.call 71 [(.t 14),(.t 15)]),q 8 (.mv (.t 16))]) (.ops [q 17 (.mv (.t 8)),q 18 (.mv (.t 0)),q 19 (.mv (.t 8)),q 20 (.len false (.t 19)),q 21 (.call 27 [(.t 18),(.t 20)]),q 22 (.ia (.t 17) (.t 21) 4),q 23 (.ld (.t 22) 4),⟨none,none,.st (.t 7) (.t 23) 4⟩])) .skip)) (.seq (.reg [0,0,2,6,0,22,54,126,255,511] [q 24 (.ld (.t 7) 4),q 25 (.mv (.t 0)),q 26 (.call 27 [(.t 25),(.c (.v (.int .i64 9)))]),q 27 (.bin .sub (.t 26) (.c (.v (.int .i64 4)))),q 28 (.mv (.t 0)),q 29 (.call 27 [(.t 28),(.c (.v (.int .i64 9)))]),q 30 (.bin .sub (.t 29) (.c (.v (.int .i64 4)))),q 31 (.bld [(.v (.int .i64 0)),(.v (.int .i64 0))] [(0,1,(.t 27)),(1,1,(.t 30))]),q 32 (.bld [(.v (.int .i64 0)),(.v (.int .i64 0)),(.v (.int .i64 0)),(.v (.int .i64 0)),(.v (.int .i64 0)),(.v (.int .i64 0))] [(0,4,(.t 24)),(4,2,(.t 31))]),⟨none,none,.st (.t 6) (.t 32) 6⟩]) .ret))))⟩
theorem k62 : cF Try.prog Try.f62 = some c62 := by kernel_rfl
def c63 : AF := ⟨2,49,[(4,none)],(.seq (.ops [q 2 (.box (.t 0)),q 4 (.mv (.c (.nil 6)))]) (.seq (.ops [q 10 (.call 60 []),q 11 (.bsl 6 84 [(.t 10)]),q 5 (.mv (.t 11))]) (.seq (.ops [q 12 (.call 60 []),q 13 (.bsl 6 84 [(.t 12)]),q 6 (.mv (.t 13))]) (.seq (.seq (.ops [q 7 (.mv (.c (.v (.int .i64 0))))]) (.block 0 (.loop (.seq (.seq (.ops [q 14 (.mv (.t 7)),q 15 (.mv (.t 6)),q 16 (.len false (.t 15)),q 17 (.bin .lss (.t 14) (.t 16))]) (.cond (.t 17) .skip (.exit 0))) (.seq (.block 1 (.seq (.ops [q 8 (.mv (.c (.v (.int .i64 0))))]) (.block 2 (.loop (.seq (.seq (.ops [q 20 (.mv (.t 8)),q 21 (.mv (.t 1)),q 22 (.len false (.t 21)),q 23 (.bin .lss (.t 20) (.t 22))]) (.cond (.t 23) .skip (.exit 2))) (.seq (.block 3 (.seq (.reg [0,0,0,6,14,0,0,96,224,510,1023,0,4095] [q 26 (.ld (.t 2) 3),q 27 (.mv (.t 1)),q 28 (.mv (.t 8)),q 29 (.ia (.t 27) (.t 28) 6),q 30 (.ld (.t 29) 6),q 31 (.mv (.t 6)),q 32 (.mv (.t 7)),q 33 (.ia (.t 31) (.t 32) 6),q 34 (.ld (.t 33) 6),q 35 (.call 72 [(.t 30),(.t 34)]),q 36 (.call 61 [(.t 26),(.t 35)]),q 9 (.al [(.v (.int .i64 0)),(.v (.int .i64 0)),(.v (.int .i64 0)),(.v (.int .i64 0)),(.v (.int .i64 0)),(.v (.int .i64 0))]),⟨none,none,.st (.t 9) (.t 36) 6⟩]) (.seq (.ops [q 37 (.mv (.t 5)),q 38 (.ld (.t 9) 6),q 39 (.call 73 [(.t 37),(.t 38)]),q 40 (.un .not (.t 39))]) (.cond (.t 40) (.seq (.ops [q 41 (.mv (.t 5)),q 42 (.ld (.t 9) 6),q 43 (.call 74 [(.t 41),(.t 42)]),q 5 (.mv (.t 43))]) (.ops [q 44 (.mv (.t 6)),q 45 (.ld (.t 9) 6),q 46 (.bsl 6 84 [(.t 45)]),q 47 (.app 6 84 48 (.t 44) (.t 46)),q 6 (.mv (.t 47))])) .skip)))) (.ops [q 24 (.mv (.t 8)),q 25 (.bin .add (.t 24) (.c (.v (.int .i64 1)))),q 8 (.mv (.t 25))]))))))) (.ops [q 18 (.mv (.t 7)),q 19 (.bin .add (.t 18) (.c (.v (.int .i64 1)))),q 7 (.mv (.t 19))])))))) (.seq (.ops [q 48 (.mv (.t 5)),q 4 (.mv (.t 48))]) .ret)))))⟩
theorem k63 : cF Try.prog Try.f63 = some c63 := by kernel_rfl
def c64 : AF := ⟨2,46,[(4,none)],(.seq (.ops [q 2 (.box (.t 0)),q 4 (.mv (.c (.nil 0)))]) (.seq (.ops [q 9 (.fa (.t 2) 0),q 10 (.ld (.t 9) 0),q 11 (.fa (.t 2) 2),q 12 (.ld (.t 11) 0),q 13 (.bin .mul (.t 10) (.t 12)),q 14 (.mk 0 2 8 (.int .i64 0) (.t 13) (.t 13)),q 5 (.mv (.t 14))]) (.seq (.ops [q 15 (.ld (.t 2) 3),q 16 (.mv (.t 1)),q 17 (.call 75 [(.t 15),(.t 16)]),q 6 (.mv (.t 17))]) (.seq (.seq (.ops [q 7 (.mv (.c (.v (.int .i64 0))))]) (.block 0 (.loop (.seq (.seq (.ops [q 18 (.mv (.t 7)),q 19 (.mv (.t 6)),q 20 (.len false (.t 19)),q 21 (.bin .lss (.t 18) (.t 20))]) (.cond (.t 21) .skip (.exit 0))) (.seq (.block 1 (.seq (.ops [q 8 (.mv (.c (.v (.int .i64 0))))]) (.block 2 (.loop (.seq (.seq (.ops [q 24 (.mv (.t 8)),q 25 (.mv (.t 6)),q 26 (.mv (.t 7)),q 27 (.ia (.t 25) (.t 26) 0),q 28 (.ld (.t 27) 0),q 29 (.len false (.t 28)),q 30 (.bin .lss (.t 24) (.t 29))]) (.cond (.t 30) .skip (.exit 2))) (.seq (.block 3 (.reg [0,0,0,0,12,28,0,124,252,510,0,2047,4095] [q 33 (.mv (.t 5)),q 34 (.ld (.t 2) 3),q 35 (.mv (.t 6)),q 36 (.mv (.t 7)),q 37 (.ia (.t 35) (.t 36) 0),q 38 (.ld (.t 37) 0),q 39 (.mv (.t 8)),q 40 (.ia (.t 38) (.t 39) 2),q 41 (.ld (.t 40) 2),q 42 (.call 53 [(.t 34),(.t 41)]),q 43 (.mv (.t 7)),q 44 (.ia (.t 33) (.t 42) 0),⟨none,none,.st (.t 44) (.t 43) 0⟩])) (.ops [q 31 (.mv (.t 8)),q 32 (.bin .add (.t 31) (.c (.v (.int .i64 1)))),q 8 (.mv (.t 32))]))))))) (.ops [q 22 (.mv (.t 7)),q 23 (.bin .add (.t 22) (.c (.v (.int .i64 1)))),q 7 (.mv (.t 23))])))))) (.seq (.ops [q 45 (.mv (.t 5)),q 4 (.mv (.t 45))]) .ret)))))⟩
theorem k64 : cF Try.prog Try.f64 = some c64 := by kernel_rfl
def c65 : AF := ⟨2,19,[(4,none)],(.seq (.ops [q 4 (.mv (.c (.v (.int .i64 0))))]) (.seq (.seq (.ops [q 6 (.mv (.t 0)),q 7 (.len false (.t 6)),q 8 (.mv (.c (.v (.int .i64 0))))]) (.block 0 (.loop (.seq (.ops [q 9 (.bin .lss (.t 8) (.t 7))]) (.seq (.cond (.t 9) .skip (.exit 0)) (.seq (.block 1 (.seq (.ops [q 10 (.mv (.t 8)),q 5 (.mv (.t 10))]) (.seq (.ops [q 11 (.mv (.t 1)),q 12 (.mv (.t 0)),q 13 (.mv (.t 5)),q 14 (.ia (.t 12) (.t 13) 0),q 15 (.ld (.t 14) 0),q 16 (.callv (.t 11) [(.t 15)])]) (.cond (.t 16) (.seq (.ops [q 17 (.mv (.t 5)),q 4 (.mv (.t 17))]) .ret) .skip)))) (.ops [q 18 (.bin .add (.t 8) (.c (.v (.int .i64 1)))),q 8 (.mv (.t 18))]))))))) (.seq (.ops [q 4 (.mv (.c (.v (.int .i64 (-1)))))]) .ret)))⟩
theorem k65 : cF Try.prog Try.f65 = some c65 := by kernel_rfl
def c66 : AF := ⟨1,9,[(2,none)],(.seq (.ops [q 2 (.mv (.c (.v (.bool false))))]) (.seq (.ops [q 3 (.mv (.t 0)),q 4 (.bin .eql (.t 3) (.c (.v (.int .i64 0)))),q 5 (.mv (.t 4)),⟨(some 6),(some (5,false)),.mv (.t 0)⟩,⟨(some 7),(some (5,false)),.bin .eql (.t 6) (.c (.v (.int .i64 1)))⟩,q 8 (.pick (.t 5) (.c (.v (.bool true))) (.t 7)),q 2 (.mv (.t 8))]) .ret))⟩
theorem k66 : cF Try.prog Try.f66 = some c66 := by kernel_rfl
def c67 : AF := ⟨1,27,[(2,none)],(.seq (.ops [q 1 (.box (.t 0)),q 2 (.mv (.c (.v (.bool false))))]) (.seq (.ops [q 3 (.fa (.t 1) 0),q 4 (.ld (.t 3) 0),q 5 (.call 25 [(.t 4),(.c (.v (.int .i64 1))),(.c (.v (.int .i64 64)))]),q 6 (.mv (.t 5)),⟨(some 7),(some (6,true)),.fa (.t 1) 2⟩,⟨(some 8),(some (6,true)),.ld (.t 7) 0⟩,⟨(some 9),(some (6,true)),.call 25 [(.t 8),(.c (.v (.int .i64 1))),(.c (.v (.int .i64 64)))]⟩,q 10 (.pick (.t 6) (.t 9) (.c (.v (.bool false)))),q 11 (.mv (.t 10)),⟨(some 12),(some (11,true)),.fa (.t 1) 1⟩,⟨(some 13),(some (11,true)),.ld (.t 12) 0⟩,⟨(some 14),(some (11,true)),.fa (.t 1) 0⟩,⟨(some 15),(some (11,true)),.ld (.t 14) 0⟩,⟨(some 16),(some (11,true)),.bin .sub (.t 15) (.c (.v (.int .i64 1)))⟩,⟨(some 17),(some (11,true)),.call 25 [(.t 13),(.c (.v (.int .i64 0))),(.t 16)]⟩,q 18 (.pick (.t 11) (.t 17) (.c (.v (.bool false)))),q 19 (.mv (.t 18)),⟨(some 20),(some (19,true)),.fa (.t 1) 0⟩,⟨(some 21),(some (19,true)),.ld (.t 20) 0⟩,⟨(some 22),(some (19,true)),.fa (.t 1) 2⟩,⟨(some 23),(some (19,true)),.ld (.t 22) 0⟩,⟨(some 24),(some (19,true)),.bin .mul (.t 21) (.t 23)⟩,⟨(some 25),(some (19,true)),.bin .leq (.t 24) (.c (.v (.int .i64 64)))⟩,q 26 (.pick (.t 19) (.t 25) (.c (.v (.bool false)))),q 2 (.mv (.t 26))]) .ret))⟩
theorem k67 : cF Try.prog Try.f67 = some c67 := by kernel_rfl
def c68 : AF := ⟨2,31,[(4,(some 2))],(.seq (.ops [q 2 (.box (.t 0)),q 3 (.box (.t 1)),q 4 (.al [(.v (.int .i64 0)),(.v (.int .i64 0))])]) (.seq (.ops [q 7 (.fa (.t 3) 1),q 8 (.ld (.t 7) 0),q 9 (.fa (.t 2) 2),q 10 (.ld (.t 9) 0),q 11 (.call 76 [(.t 8),(.t 10)]),q 5 (.mv (.t 11))]) (.seq (.ops [q 12 (.fa (.t 3) 1),q 13 (.ld (.t 12) 0),q 14 (.mv (.t 5)),q 15 (.bin .sub (.t 13) (.t 14)),q 16 (.fa (.t 2) 2),q 17 (.ld (.t 16) 0),q 18 (.bin .quo (.t 15) (.t 17)),q 6 (.mv (.t 18))]) (.seq (.ops [q 19 (.fa (.t 3) 0),q 20 (.ld (.t 19) 0),q 21 (.mv (.t 6)),q 22 (.fa (.t 2) 1),q 23 (.ld (.t 22) 0),q 24 (.bin .mul (.t 21) (.t 23)),q 25 (.bin .sub (.t 20) (.t 24)),q 26 (.fa (.t 2) 0),q 27 (.ld (.t 26) 0),q 28 (.call 76 [(.t 25),(.t 27)]),q 29 (.mv (.t 5)),q 30 (.bld [(.v (.int .i64 0)),(.v (.int .i64 0))] [(0,1,(.t 28)),(1,1,(.t 29))]),⟨none,none,.st (.t 4) (.t 30) 2⟩]) .ret))))⟩
theorem k68 : cF Try.prog Try.f68 = some c68 := by kernel_rfl
def c69 : AF := ⟨2,12,[(4,none)],(.seq (.ops [q 4 (.mv (.c (.v (.int .i64 0))))]) (.seq (.ops [q 5 (.mv (.t 0)),q 6 (.mv (.t 1)),q 7 (.bin .rem (.t 5) (.t 6)),q 8 (.mv (.t 1)),q 9 (.bin .add (.t 7) (.t 8)),q 10 (.mv (.t 1)),q 11 (.bin .rem (.t 9) (.t 10)),q 4 (.mv (.t 11))]) .ret))⟩
theorem k69 : cF Try.prog Try.f69 = some c69 := by kernel_rfl
def c70 : AF := ⟨0,2,[(0,(some 4))],(.seq (.ops [q 0 (.al [(.v (.int .i64 0)),(.v (.int .i64 0)),(.v (.int .i64 0)),(.v (.int .i64 0))])]) (.seq (.ops [q 1 (.bld [(.v (.int .i64 0)),(.v (.int .i64 0)),(.v (.int .i64 0)),(.v (.int .i64 0))] [(0,1,(.c (.v (.int .i64 1)))),(3,1,(.c (.v (.int .i64 1))))]),⟨none,none,.st (.t 0) (.t 1) 4⟩]) .ret))⟩
theorem k70 : cF Try.prog Try.f70 = some c70 := by kernel_rfl
def c71 : AF := ⟨2,33,[(4,none)],(.seq (.ops [q 3 (.box (.t 1)),q 4 (.mv (.c (.nil 4)))]) (.seq (.ops [q 8 (.mv (.t 0)),q 9 (.call 77 [(.t 8)]),q 5 (.mv (.t 9))]) (.seq (.ops [q 10 (.bsl 4 82 []),q 6 (.mv (.t 10))]) (.seq (.seq (.ops [q 7 (.mv (.c (.v (.int .i64 0))))]) (.block 0 (.loop (.seq (.seq (.ops [q 11 (.mv (.t 7)),q 12 (.mv (.t 5)),q 13 (.len false (.t 12)),q 14 (.bin .lss (.t 11) (.t 13))]) (.cond (.t 14) .skip (.exit 0))) (.seq (.block 1 (.seq (.reg [0,0,3,7,0,31,0,127] [q 17 (.mv (.t 5)),q 18 (.mv (.t 7)),q 19 (.ia (.t 17) (.t 18) 4),q 20 (.ld (.t 19) 4),q 21 (.ld (.t 3) 3),q 22 (.call 78 [(.t 20),(.t 21)]),q 23 (.ld (.t 3) 3),q 24 (.eq false 3 [1,1,1] (.t 22) (.t 23))]) (.cond (.t 24) (.ops [q 25 (.mv (.t 6)),q 26 (.mv (.t 5)),q 27 (.mv (.t 7)),q 28 (.ia (.t 26) (.t 27) 4),q 29 (.ld (.t 28) 4),q 30 (.bsl 4 82 [(.t 29)]),q 31 (.app 4 82 32 (.t 25) (.t 30)),q 6 (.mv (.t 31))]) .skip))) (.ops [q 15 (.mv (.t 7)),q 16 (.bin .add (.t 15) (.c (.v (.int .i64 1)))),q 7 (.mv (.t 16))])))))) (.seq (.ops [q 32 (.mv (.t 6)),q 4 (.mv (.t 32))]) .ret)))))⟩
theorem k71 : cF Try.prog Try.f71 = some c71 := by kernel_rfl
def c72 : AF := ⟨2,19,[(4,(some 6))],(.seq (.ops [q 2 (.box (.t 0)),q 3 (.box (.t 1)),q 4 (.al [(.v (.int .i64 0)),(.v (.int .i64 0)),(.v (.int .i64 0)),(.v (.int .i64 0)),(.v (.int .i64 0)),(.v (.int .i64 0))])]) (.seq (.reg [0,1,0,4,15,0,32,0,128,511,0,1024,4095,8191,16383] [q 5 (.fa (.t 2) 0),q 6 (.ld (.t 5) 4),q 7 (.fa (.t 3) 0),q 8 (.ld (.t 7) 4),q 9 (.call 79 [(.t 6),(.t 8)]),q 10 (.fa (.t 2) 0),q 11 (.ld (.t 10) 4),q 12 (.fa (.t 3) 4),q 13 (.ld (.t 12) 2),q 14 (.call 80 [(.t 11),(.t 13)]),q 15 (.fa (.t 2) 4),q 16 (.ld (.t 15) 2),q 17 (.call 54 [(.t 14),(.t 16)]),q 18 (.bld [(.v (.int .i64 0)),(.v (.int .i64 0)),(.v (.int .i64 0)),(.v (.int .i64 0)),(.v (.int .i64 0)),(.v (.int .i64 0))] [(0,4,(.t 9)),(4,2,(.t 17))]),⟨none,none,.st (.t 4) (.t 18) 6⟩]) .ret))⟩
theorem k72 : cF Try.prog Try.f72 = some c72 := by kernel_rfl
def c73 : AF := ⟨2,21,[(4,none)],(.seq (.ops [q 3 (.box (.t 1)),q 4 (.mv (.c (.v (.bool false))))]) (.seq (.ops [q 6 (.mv (.t 0)),q 7 (.ld (.t 3) 6),q 8 (.call 81 [(.t 6),(.t 7)]),q 5 (.mv (.t 8))]) (.seq (.reg [0,0,2,7,15,31,31,127,255,31,1023,2047,4095] [q 9 (.mv (.t 5)),q 10 (.mv (.t 0)),q 11 (.len false (.t 10)),q 12 (.bin .lss (.t 9) (.t 11)),q 13 (.mv (.t 12)),⟨(some 14),(some (13,true)),.mv (.t 0)⟩,⟨(some 15),(some (13,true)),.mv (.t 5)⟩,⟨(some 16),(some (13,true)),.ia (.t 14) (.t 15) 6⟩,⟨(some 17),(some (13,true)),.ld (.t 16) 6⟩,⟨(some 18),(some (13,true)),.ld (.t 3) 6⟩,⟨(some 19),(some (13,true)),.eq false 6 [1,1,1,1,1,1] (.t 17) (.t 18)⟩,q 20 (.pick (.t 13) (.t 19) (.c (.v (.bool false)))),q 4 (.mv (.t 20))]) .ret)))⟩
theorem k73 : cF Try.prog Try.f73 = some c73 := by kernel_rfl
def c74 : AF := ⟨2,34,[(4,none)],(.seq (.ops [q 3 (.box (.t 1)),q 4 (.mv (.c (.nil 6)))]) (.seq (.ops [q 6 (.mv (.t 0)),q 7 (.ld (.t 3) 6),q 8 (.call 81 [(.t 6),(.t 7)]),q 5 (.mv (.t 8))]) (.seq (.seq (.reg [0,0,2,7,15,31,31,127,255,31,1023,2047] [q 9 (.mv (.t 5)),q 10 (.mv (.t 0)),q 11 (.len false (.t 10)),q 12 (.bin .lss (.t 9) (.t 11)),q 13 (.mv (.t 12)),⟨(some 14),(some (13,true)),.mv (.t 0)⟩,⟨(some 15),(some (13,true)),.mv (.t 5)⟩,⟨(some 16),(some (13,true)),.ia (.t 14) (.t 15) 6⟩,⟨(some 17),(some (13,true)),.ld (.t 16) 6⟩,⟨(some 18),(some (13,true)),.ld (.t 3) 6⟩,⟨(some 19),(some (13,true)),.eq false 6 [1,1,1,1,1,1] (.t 17) (.t 18)⟩,q 20 (.pick (.t 13) (.t 19) (.c (.v (.bool false))))]) (.cond (.t 20) (.seq (.ops [q 21 (.mv (.t 0)),q 4 (.mv (.t 21))]) .ret) .skip)) (.seq (.reg [0,0,0,6,15,0,32,127,0,0,768,2047,4095] [q 22 (.bsl 6 84 []),q 23 (.mv (.t 0)),q 24 (.mv (.t 5)),q 25 (.sub 6 (.t 23) none (some (.t 24))),q 26 (.app 6 84 48 (.t 22) (.t 25)),q 27 (.ld (.t 3) 6),q 28 (.bsl 6 84 [(.t 27)]),q 29 (.app 6 84 48 (.t 26) (.t 28)),q 30 (.mv (.t 0)),q 31 (.mv (.t 5)),q 32 (.sub 6 (.t 30) (some (.t 31)) none),q 33 (.app 6 84 48 (.t 29) (.t 32)),q 4 (.mv (.t 33))]) .ret))))⟩
theorem k74 : cF Try.prog Try.f74 = some c74 := by kernel_rfl
def c75 : AF := ⟨2,38,[(4,none)],(.seq (.ops [q 2 (.box (.t 0)),q 4 (.mv (.c (.nil 0)))]) (.seq (.ops [q 9 (.ld (.t 2) 3),q 10 (.call 52 [(.t 9)]),q 5 (.mv (.t 10))]) (.seq (.ops [q 11 (.bsl 0 58 []),q 6 (.mv (.t 11))]) (.seq (.seq (.ops [q 7 (.mv (.c (.v (.int .i64 0))))]) (.block 0 (.loop (.seq (.seq (.ops [q 12 (.mv (.t 7)),q 13 (.mv (.t 5)),q 14 (.len false (.t 13)),q 15 (.bin .lss (.t 12) (.t 14))]) (.cond (.t 15) .skip (.exit 0))) (.seq (.block 1 (.seq (.reg [0,0,0,0,12,28,63,127] [q 18 (.ld (.t 2) 3),q 19 (.mv (.t 1)),q 20 (.mv (.t 5)),q 21 (.mv (.t 7)),q 22 (.ia (.t 20) (.t 21) 2),q 23 (.ld (.t 22) 2),q 24 (.call 82 [(.t 18),(.t 19),(.t 23)]),q 8 (.mv (.t 24))]) (.seq (.reg [0,1,3,0,0,24,56,127] [q 25 (.mv (.t 8)),q 26 (.ia (.t 25) (.c (.v (.int .i64 0))) 2),q 27 (.ld (.t 26) 2),q 28 (.mv (.t 5)),q 29 (.mv (.t 7)),q 30 (.ia (.t 28) (.t 29) 2),q 31 (.ld (.t 30) 2),q 32 (.eq false 2 [1,1] (.t 27) (.t 31))]) (.cond (.t 32) (.ops [q 33 (.mv (.t 6)),q 34 (.mv (.t 8)),q 35 (.bsl 0 58 [(.t 34)]),q 36 (.app 0 58 24 (.t 33) (.t 35)),q 6 (.mv (.t 36))]) .skip)))) (.ops [q 16 (.mv (.t 7)),q 17 (.bin .add (.t 16) (.c (.v (.int .i64 1)))),q 7 (.mv (.t 17))])))))) (.seq (.ops [q 37 (.mv (.t 6)),q 4 (.mv (.t 37))]) .ret)))))⟩
theorem k75 : cF Try.prog Try.f75 = some c75 := by kernel_rfl
def c76 : AF := ⟨2,14,[(4,none)],(.seq (.ops [q 4 (.mv (.c (.v (.int .i64 0))))]) (.seq (.ops [q 5 (.mv (.t 0)),q 6 (.mv (.t 1)),q 7 (.bin .rem (.t 5) (.t 6)),q 0 (.mv (.t 7))]) (.seq (.seq (.ops [q 8 (.mv (.t 0)),q 9 (.bin .lss (.t 8) (.c (.v (.int .i64 0))))]) (.cond (.t 9) (.ops [q 10 (.mv (.t 0)),q 11 (.mv (.t 1)),q 12 (.bin .add (.t 10) (.t 11)),q 0 (.mv (.t 12))]) .skip)) (.seq (.ops [q 13 (.mv (.t 0)),q 4 (.mv (.t 13))]) .ret))))⟩
theorem k76 : cF Try.prog Try.f76 = some c76 := by kernel_rfl
def c77 : AF := ⟨1,34,[(2,none)],(.seq (.ops [q 2 (.mv (.c (.nil 4)))]) (.seq (.ops [q 6 (.bsl 4 82 []),q 3 (.mv (.t 6))]) (.seq (.seq (.ops [q 4 (.mv (.c (.v (.int .i64 0))))]) (.block 0 (.loop (.seq (.seq (.ops [q 7 (.mv (.t 4)),q 8 (.bin .lss (.t 7) (.c (.v (.int .i64 81))))]) (.cond (.t 8) .skip (.exit 0))) (.seq (.block 1 (.seq (.ops [q 11 (.mv (.t 4)),q 12 (.bin .quo (.t 11) (.c (.v (.int .i64 27)))),q 13 (.bin .sub (.t 12) (.c (.v (.int .i64 1)))),q 14 (.mv (.t 4)),q 15 (.bin .quo (.t 14) (.c (.v (.int .i64 9)))),q 16 (.bin .rem (.t 15) (.c (.v (.int .i64 3)))),q 17 (.bin .sub (.t 16) (.c (.v (.int .i64 1)))),q 18 (.mv (.t 4)),q 19 (.bin .quo (.t 18) (.c (.v (.int .i64 3)))),q 20 (.bin .rem (.t 19) (.c (.v (.int .i64 3)))),q 21 (.bin .sub (.t 20) (.c (.v (.int .i64 1)))),q 22 (.mv (.t 4)),q 23 (.bin .rem (.t 22) (.c (.v (.int .i64 3)))),q 24 (.bin .sub (.t 23) (.c (.v (.int .i64 1)))),q 25 (.bld [(.v (.int .i64 0)),(.v (.int .i64 0)),(.v (.int .i64 0)),(.v (.int .i64 0))] [(0,1,(.t 13)),(1,1,(.t 17)),(2,1,(.t 21)),(3,1,(.t 24))]),q 5 (.al [(.v (.int .i64 0)),(.v (.int .i64 0)),(.v (.int .i64 0)),(.v (.int .i64 0))]),⟨none,none,.st (.t 5) (.t 25) 4⟩]) (.seq (.ops [q 26 (.mv (.t 0)),q 27 (.ld (.t 5) 4),q 28 (.call 83 [(.t 26),(.t 27)])]) (.cond (.t 28) (.ops [q 29 (.mv (.t 3)),q 30 (.ld (.t 5) 4),q 31 (.bsl 4 82 [(.t 30)]),q 32 (.app 4 82 32 (.t 29) (.t 31)),q 3 (.mv (.t 32))]) .skip)))) (.ops [q 9 (.mv (.t 4)),q 10 (.bin .add (.t 9) (.c (.v (.int .i64 1)))),q 4 (.mv (.t 10))])))))) (.seq (.ops [q 33 (.mv (.t 3)),q 2 (.mv (.t 33))]) .ret))))⟩
theorem k77 : cF Try.prog Try.f77 = some c77 := by kernel_rfl
def c78 : AF := ⟨2,20,[(4,(some 3))],(.seq (.ops [q 2 (.box (.t 0)),q 3 (.box (.t 1)),q 4 (.al [(.v (.int .i64 0)),(.v (.int .i64 0)),(.v (.int .i64 0))])]) (.seq (.ops [q 6 (.ld (.t 3) 3),q 7 (.call 84 [(.t 6)]),q 5 (.mv (.t 7))]) (.seq (.reg [0,0,2,6,15,0,0,64,192,511,1023,2047,4095] [q 8 (.ld (.t 2) 4),q 9 (.mv (.t 5)),q 10 (.ia (.t 9) (.c (.v (.int .i64 0))) 2),q 11 (.ld (.t 10) 2),q 12 (.call 80 [(.t 8),(.t 11)]),q 13 (.ld (.t 2) 4),q 14 (.mv (.t 5)),q 15 (.ia (.t 14) (.c (.v (.int .i64 1))) 2),q 16 (.ld (.t 15) 2),q 17 (.call 80 [(.t 13),(.t 16)]),q 18 (.bsl 2 57 [(.t 12),(.t 17)]),q 19 (.call 85 [(.t 18)]),⟨none,none,.st (.t 4) (.t 19) 3⟩]) .ret)))⟩
theorem k78 : cF Try.prog Try.f78 = some c78 := by kernel_rfl
def c79 : AF := ⟨2,50,[(4,(some 4))],(.seq (.ops [q 2 (.box (.t 0)),q 3 (.box (.t 1)),q 4 (.al [(.v (.int .i64 0)),(.v (.int .i64 0)),(.v (.int .i64 0)),(.v (.int .i64 0))])]) (.seq (.ops [q 5 (.fa (.t 2) 0),q 6 (.ld (.t 5) 0),q 7 (.fa (.t 3) 0),q 8 (.ld (.t 7) 0),q 9 (.bin .mul (.t 6) (.t 8)),q 10 (.fa (.t 2) 1),q 11 (.ld (.t 10) 0),q 12 (.fa (.t 3) 2),q 13 (.ld (.t 12) 0),q 14 (.bin .mul (.t 11) (.t 13)),q 15 (.bin .add (.t 9) (.t 14)),q 16 (.fa (.t 2) 0),q 17 (.ld (.t 16) 0),q 18 (.fa (.t 3) 1),q 19 (.ld (.t 18) 0),q 20 (.bin .mul (.t 17) (.t 19)),q 21 (.fa (.t 2) 1),q 22 (.ld (.t 21) 0),q 23 (.fa (.t 3) 3),q 24 (.ld (.t 23) 0),q 25 (.bin .mul (.t 22) (.t 24)),q 26 (.bin .add (.t 20) (.t 25)),q 27 (.fa (.t 2) 2),q 28 (.ld (.t 27) 0),q 29 (.fa (.t 3) 0),q 30 (.ld (.t 29) 0),q 31 (.bin .mul (.t 28) (.t 30)),q 32 (.fa (.t 2) 3),q 33 (.ld (.t 32) 0),q 34 (.fa (.t 3) 2),q 35 (.ld (.t 34) 0),q 36 (.bin .mul (.t 33) (.t 35)),q 37 (.bin .add (.t 31) (.t 36)),q 38 (.fa (.t 2) 2),q 39 (.ld (.t 38) 0),q 40 (.fa (.t 3) 1),q 41 (.ld (.t 40) 0),q 42 (.bin .mul (.t 39) (.t 41)),q 43 (.fa (.t 2) 3),q 44 (.ld (.t 43) 0),q 45 (.fa (.t 3) 3),q 46 (.ld (.t 45) 0),q 47 (.bin .mul (.t 44) (.t 46)),q 48 (.bin .add (.t 42) (.t 47)),q 49 (.bld [(.v (.int .i64 0)),(.v (.int .i64 0)),(.v (.int .i64 0)),(.v (.int .i64 0))] [(0,1,(.t 15)),(1,1,(.t 26)),(2,1,(.t 37)),(3,1,(.t 48))]),⟨none,none,.st (.t 4) (.t 49) 4⟩]) .ret))⟩
theorem k79 : cF Try.prog Try.f79 = some c79 := by kernel_rfl
def c80 : AF := ⟨2,28,[(4,(some 2))],(.seq (.ops [q 2 (.box (.t 0)),q 3 (.box (.t 1)),q 4 (.al [(.v (.int .i64 0)),(.v (.int .i64 0))])]) (.seq (.ops [q 5 (.fa (.t 2) 0),q 6 (.ld (.t 5) 0),q 7 (.fa (.t 3) 0),q 8 (.ld (.t 7) 0),q 9 (.bin .mul (.t 6) (.t 8)),q 10 (.fa (.t 2) 1),q 11 (.ld (.t 10) 0),q 12 (.fa (.t 3) 1),q 13 (.ld (.t 12) 0),q 14 (.bin .mul (.t 11) (.t 13)),q 15 (.bin .add (.t 9) (.t 14)),q 16 (.fa (.t 2) 2),q 17 (.ld (.t 16) 0),q 18 (.fa (.t 3) 0),q 19 (.ld (.t 18) 0),q 20 (.bin .mul (.t 17) (.t 19)),q 21 (.fa (.t 2) 3),q 22 (.ld (.t 21) 0),q 23 (.fa (.t 3) 1),q 24 (.ld (.t 23) 0),q 25 (.bin .mul (.t 22) (.t 24)),q 26 (.bin .add (.t 20) (.t 25)),q 27 (.bld [(.v (.int .i64 0)),(.v (.int .i64 0))] [(0,1,(.t 15)),(1,1,(.t 26))]),⟨none,none,.st (.t 4) (.t 27) 2⟩]) .ret))⟩
theorem k80 : cF Try.prog Try.f80 = some c80 := by kernel_rfl
def c81 : AF := ⟨2,27,[(4,none)],(.seq (.ops [q 3 (.box (.t 1)),q 4 (.mv (.c (.v (.int .i64 0))))]) (.seq (.ops [q 8 (.mv (.t 0)),q 9 (.len false (.t 8)),q 5 (.mv (.c (.v (.int .i64 0)))),q 6 (.mv (.t 9))]) (.seq (.block 0 (.loop (.seq (.seq (.ops [q 10 (.mv (.t 5)),q 11 (.mv (.t 6)),q 12 (.bin .lss (.t 10) (.t 11))]) (.cond (.t 12) .skip (.exit 0))) (.block 1 (.seq (.ops [q 13 (.mv (.t 5)),q 14 (.mv (.t 6)),q 15 (.bin .add (.t 13) (.t 14)),q 16 (.bin .quo (.t 15) (.c (.v (.int .i64 2)))),q 7 (.mv (.t 16))]) (.seq (.reg [0,0,3,7,0,31] [q 17 (.mv (.t 0)),q 18 (.mv (.t 7)),q 19 (.ia (.t 17) (.t 18) 6),q 20 (.ld (.t 19) 6),q 21 (.ld (.t 3) 6),q 22 (.call 86 [(.t 20),(.t 21)])]) (.cond (.t 22) (.ops [q 23 (.mv (.t 7)),q 24 (.bin .add (.t 23) (.c (.v (.int .i64 1)))),q 5 (.mv (.t 24))]) (.ops [q 25 (.mv (.t 7)),q 6 (.mv (.t 25))])))))))) (.seq (.ops [q 26 (.mv (.t 5)),q 4 (.mv (.t 26))]) .ret))))⟩
theorem k81 : cF Try.prog Try.f81 = some c81 := by kernel_rfl
def c82 : AF := ⟨3,26,[(6,none)],(.seq (.ops [q 3 (.box (.t 0)),q 5 (.box (.t 2)),q 6 (.mv (.c (.nil 2)))]) (.seq (.ops [q 9 (.bsl 2 57 []),q 7 (.mv (.t 9))]) (.seq (.seq (.ops [q 8 (.mv (.c (.v (.int .i64 0))))]) (.block 0 (.loop (.seq (.seq (.ops [q 10 (.mv (.t 8)),q 11 (.mv (.t 1)),q 12 (.len false (.t 11)),q 13 (.bin .lss (.t 10) (.t 12))]) (.cond (.t 13) .skip (.exit 0))) (.seq (.block 1 (.reg [0,0,0,0,12,28,0,126,255,511] [q 16 (.mv (.t 7)),q 17 (.ld (.t 3) 3),q 18 (.mv (.t 1)),q 19 (.mv (.t 8)),q 20 (.ia (.t 18) (.t 19) 6),q 21 (.ld (.t 20) 6),q 22 (.ld (.t 5) 2),q 23 (.call 88 [(.t 17),(.t 21),(.t 22)]),q 24 (.call 87 [(.t 16),(.t 23)]),q 7 (.mv (.t 24))])) (.ops [q 14 (.mv (.t 8)),q 15 (.bin .add (.t 14) (.c (.v (.int .i64 1)))),q 8 (.mv (.t 15))])))))) (.seq (.ops [q 25 (.mv (.t 7)),q 6 (.mv (.t 25))]) .ret))))⟩
theorem k82 : cF Try.prog Try.f82 = some c82 := by kernel_rfl
def c83 : AF := ⟨2,37,[(4,none)],(.seq (.ops [q 3 (.box (.t 1)),q 4 (.mv (.c (.v (.bool false))))]) (.seq (.reg [0,1,0,4,15,0,32,0,128,480,0,0,3103,8191] [q 7 (.fa (.t 3) 0),q 8 (.ld (.t 7) 0),q 9 (.fa (.t 3) 2),q 10 (.ld (.t 9) 0),q 11 (.bld [(.v (.int .i64 0)),(.v (.int .i64 0))] [(0,1,(.t 8)),(1,1,(.t 10))]),q 12 (.fa (.t 3) 1),q 13 (.ld (.t 12) 0),q 14 (.fa (.t 3) 3),q 15 (.ld (.t 14) 0),q 16 (.bld [(.v (.int .i64 0)),(.v (.int .i64 0))] [(0,1,(.t 13)),(1,1,(.t 15))]),q 5 (.al [(.v (.int .i64 0)),(.v (.int .i64 0))]),q 6 (.al [(.v (.int .i64 0)),(.v (.int .i64 0))]),⟨none,none,.st (.t 5) (.t 11) 2⟩,⟨none,none,.st (.t 6) (.t 16) 2⟩]) (.seq (.ops [q 17 (.mv (.t 0)),q 18 (.ld (.t 5) 2),q 19 (.call 89 [(.t 17),(.t 18)]),q 20 (.bin .eql (.t 19) (.c (.v (.int .i64 1)))),q 21 (.mv (.t 20)),⟨(some 22),(some (21,true)),.mv (.t 0)⟩,⟨(some 23),(some (21,true)),.ld (.t 6) 2⟩,⟨(some 24),(some (21,true)),.call 89 [(.t 22),(.t 23)]⟩,⟨(some 25),(some (21,true)),.bin .eql (.t 24) (.c (.v (.int .i64 1)))⟩,q 26 (.pick (.t 21) (.t 25) (.c (.v (.bool false)))),q 27 (.mv (.t 26)),⟨(some 28),(some (27,true)),.mv (.t 0)⟩,⟨(some 29),(some (27,true)),.ld (.t 5) 2⟩,⟨(some 30),(some (27,true)),.ld (.t 6) 2⟩,⟨(some 31),(some (27,true)),.call 54 [(.t 29),(.t 30)]⟩,⟨(some 32),(some (27,true)),.call 89 [(.t 28),(.t 31)]⟩,⟨(some 33),(some (27,true)),.mv (.t 0)⟩,⟨(some 34),(some (27,true)),.bin .add (.c (.v (.int .i64 2))) (.t 33)⟩,⟨(some 35),(some (27,true)),.bin .eql (.t 32) (.t 34)⟩,q 36 (.pick (.t 27) (.t 35) (.c (.v (.bool false)))),q 4 (.mv (.t 36))]) .ret)))⟩
theorem k83 : cF Try.prog Try.f83 = some c83 := by kernel_rfl
def c84 : AF := ⟨1,12,[(2,none)],(.seq (.ops [q 1 (.box (.t 0)),q 2 (.mv (.c (.nil 2)))]) (.seq (.ops [q 3 (.fa (.t 1) 0),q 4 (.ld (.t 3) 0),q 5 (.bld [(.v (.int .i64 0)),(.v (.int .i64 0))] [(0,1,(.t 4))]),q 6 (.fa (.t 1) 1),q 7 (.ld (.t 6) 0),q 8 (.fa (.t 1) 2),q 9 (.ld (.t 8) 0),q 10 (.bld [(.v (.int .i64 0)),(.v (.int .i64 0))] [(0,1,(.t 7)),(1,1,(.t 9))]),q 11 (.bsl 2 57 [(.t 5),(.t 10)]),q 2 (.mv (.t 11))]) .ret))⟩
theorem k84 : cF Try.prog Try.f84 = some c84 := by kernel_rfl
def c85 : AF := ⟨1,74,[(2,(some 3))],(.seq (.ops [q 2 (.al [(.v (.int .i64 0)),(.v (.int .i64 0)),(.v (.int .i64 0))])]) (.seq (.ops [q 9 (.bld [(.v (.int .i64 0)),(.v (.int .i64 0))] []),q 3 (.al [(.v (.int .i64 0)),(.v (.int .i64 0))]),⟨none,none,.st (.t 3) (.t 9) 2⟩,q 4 (.mv (.c (.v (.int .i64 0))))]) (.seq (.seq (.ops [q 5 (.mv (.c (.v (.int .i64 0))))]) (.block 0 (.loop (.seq (.seq (.ops [q 10 (.mv (.t 5)),q 11 (.mv (.t 0)),q 12 (.len false (.t 11)),q 13 (.bin .lss (.t 10) (.t 12))]) (.cond (.t 13) .skip (.exit 0))) (.seq (.block 1 (.seq (.ops [q 16 (.mv (.t 0)),q 17 (.mv (.t 5)),q 18 (.ia (.t 16) (.t 17) 2),q 19 (.ld (.t 18) 2),q 6 (.al [(.v (.int .i64 0)),(.v (.int .i64 0))]),⟨none,none,.st (.t 6) (.t 19) 2⟩]) (.seq (.block 2 (.loop (.seq (.seq (.ops [q 20 (.fa (.t 6) 1),q 21 (.ld (.t 20) 0),q 22 (.bin .neq (.t 21) (.c (.v (.int .i64 0))))]) (.cond (.t 22) .skip (.exit 2))) (.block 3 (.seq (.ops [q 23 (.fa (.t 3) 1),q 24 (.ld (.t 23) 0),q 25 (.fa (.t 6) 1),q 26 (.ld (.t 25) 0),q 27 (.bin .quo (.t 24) (.t 26)),q 7 (.mv (.t 27))]) (.seq (.ops [q 28 (.fa (.t 3) 0),q 29 (.ld (.t 28) 0),q 30 (.mv (.t 7)),q 31 (.fa (.t 6) 0),q 32 (.ld (.t 31) 0),q 33 (.bin .mul (.t 30) (.t 32)),q 34 (.bin .sub (.t 29) (.t 33)),q 35 (.fa (.t 3) 1),q 36 (.ld (.t 35) 0),q 37 (.mv (.t 7)),q 38 (.fa (.t 6) 1),q 39 (.ld (.t 38) 0),q 40 (.bin .mul (.t 37) (.t 39)),q 41 (.bin .sub (.t 36) (.t 40)),q 42 (.bld [(.v (.int .i64 0)),(.v (.int .i64 0))] [(0,1,(.t 34)),(1,1,(.t 41))]),q 8 (.al [(.v (.int .i64 0)),(.v (.int .i64 0))]),⟨none,none,.st (.t 8) (.t 42) 2⟩]) (.seq (.ops [q 43 (.ld (.t 6) 2),⟨none,none,.st (.t 3) (.t 43) 2⟩]) (.ops [q 44 (.ld (.t 8) 2),⟨none,none,.st (.t 6) (.t 44) 2⟩])))))))) (.seq (.ops [q 45 (.mv (.t 4)),q 46 (.fa (.t 6) 0),q 47 (.ld (.t 46) 0),q 48 (.call 90 [(.t 45),(.t 47)]),q 4 (.mv (.t 48))]) (.seq (.ops [q 49 (.mv (.t 4)),q 50 (.bin .gtr (.t 49) (.c (.v (.int .i64 0))))]) (.cond (.t 50) (.ops [q 51 (.fa (.t 3) 0),q 52 (.ld (.t 51) 0),q 53 (.mv (.t 4)),q 54 (.call 76 [(.t 52),(.t 53)]),q 55 (.fa (.t 3) 0),⟨none,none,.st (.t 55) (.t 54) 0⟩]) .skip)))))) (.ops [q 14 (.mv (.t 5)),q 15 (.bin .add (.t 14) (.c (.v (.int .i64 1)))),q 5 (.mv (.t 15))])))))) (.seq (.seq (.ops [q 56 (.fa (.t 3) 1),q 57 (.ld (.t 56) 0),q 58 (.bin .lss (.t 57) (.c (.v (.int .i64 0))))]) (.cond (.t 58) (.ops [q 59 (.ld (.t 3) 2),q 60 (.call 91 [(.t 59),(.c (.v (.int .i64 (-1))))]),⟨none,none,.st (.t 3) (.t 60) 2⟩]) .skip)) (.seq (.seq (.ops [q 61 (.mv (.t 4)),q 62 (.bin .gtr (.t 61) (.c (.v (.int .i64 0))))]) (.cond (.t 62) (.ops [q 63 (.fa (.t 3) 0),q 64 (.ld (.t 63) 0),q 65 (.mv (.t 4)),q 66 (.call 76 [(.t 64),(.t 65)]),q 67 (.fa (.t 3) 0),⟨none,none,.st (.t 67) (.t 66) 0⟩]) .skip)) (.seq (.ops [q 68 (.mv (.t 4)),q 69 (.fa (.t 3) 0),q 70 (.ld (.t 69) 0),q 71 (.fa (.t 3) 1),q 72 (.ld (.t 71) 0),q 73 (.bld [(.v (.int .i64 0)),(.v (.int .i64 0)),(.v (.int .i64 0))] [(0,1,(.t 68)),(1,1,(.t 70)),(2,1,(.t 72))]),⟨none,none,.st (.t 2) (.t 73) 3⟩]) .ret))))))⟩
theorem k85 : cF Try.prog Try.f85 = some c85 := by kernel_rfl
def c86 : AF := ⟨2,20,[(4,none)],(.seq (.ops [q 2 (.box (.t 0)),q 3 (.box (.t 1)),q 4 (.mv (.c (.v (.bool false))))]) (.seq (.seq (.ops [q 5 (.fa (.t 2) 0),q 6 (.ld (.t 5) 4),q 7 (.fa (.t 3) 0),q 8 (.ld (.t 7) 4),q 9 (.eq true 4 [1,1,1,1] (.t 6) (.t 8))]) (.cond (.t 9) (.seq (.ops [q 10 (.fa (.t 2) 0),q 11 (.ld (.t 10) 4),q 12 (.fa (.t 3) 0),q 13 (.ld (.t 12) 4),q 14 (.call 92 [(.t 11),(.t 13)]),q 4 (.mv (.t 14))]) .ret) .skip)) (.seq (.ops [q 15 (.fa (.t 2) 4),q 16 (.ld (.t 15) 2),q 17 (.fa (.t 3) 4),q 18 (.ld (.t 17) 2),q 19 (.call 93 [(.t 16),(.t 18)]),q 4 (.mv (.t 19))]) .ret)))⟩
theorem k86 : cF Try.prog Try.f86 = some c86 := by kernel_rfl
def c87 : AF := ⟨2,45,[(4,none)],(.seq (.ops [q 3 (.box (.t 1)),q 4 (.mv (.c (.nil 2)))]) (.seq (.ops [q 5 (.mv (.c (.v (.int .i64 0))))]) (.seq (.block 0 (.loop (.seq (.seq (.reg [0,0,2,7,15,31,31,127,255,31,1023,2047] [q 6 (.mv (.t 5)),q 7 (.mv (.t 0)),q 8 (.len false (.t 7)),q 9 (.bin .lss (.t 6) (.t 8)),q 10 (.mv (.t 9)),⟨(some 11),(some (10,true)),.mv (.t 0)⟩,⟨(some 12),(some (10,true)),.mv (.t 5)⟩,⟨(some 13),(some (10,true)),.ia (.t 11) (.t 12) 2⟩,⟨(some 14),(some (10,true)),.ld (.t 13) 2⟩,⟨(some 15),(some (10,true)),.ld (.t 3) 2⟩,⟨(some 16),(some (10,true)),.call 93 [(.t 14),(.t 15)]⟩,q 17 (.pick (.t 10) (.t 16) (.c (.v (.bool false))))]) (.cond (.t 17) .skip (.exit 0))) (.block 1 (.ops [q 18 (.mv (.t 5)),q 19 (.bin .add (.t 18) (.c (.v (.int .i64 1)))),q 5 (.mv (.t 19))]))))) (.seq (.seq (.reg [0,0,2,7,15,31,31,127,255,31,1023,2047] [q 20 (.mv (.t 5)),q 21 (.mv (.t 0)),q 22 (.len false (.t 21)),q 23 (.bin .lss (.t 20) (.t 22)),q 24 (.mv (.t 23)),⟨(some 25),(some (24,true)),.mv (.t 0)⟩,⟨(some 26),(some (24,true)),.mv (.t 5)⟩,⟨(some 27),(some (24,true)),.ia (.t 25) (.t 26) 2⟩,⟨(some 28),(some (24,true)),.ld (.t 27) 2⟩,⟨(some 29),(some (24,true)),.ld (.t 3) 2⟩,⟨(some 30),(some (24,true)),.eq false 2 [1,1] (.t 28) (.t 29)⟩,q 31 (.pick (.t 24) (.t 30) (.c (.v (.bool false))))]) (.cond (.t 31) (.seq (.ops [q 32 (.mv (.t 0)),q 4 (.mv (.t 32))]) .ret) .skip)) (.seq (.reg [0,0,0,6,15,0,32,127,0,0,768,2047,4095] [q 33 (.bsl 2 57 []),q 34 (.mv (.t 0)),q 35 (.mv (.t 5)),q 36 (.sub 2 (.t 34) none (some (.t 35))),q 37 (.app 2 57 16 (.t 33) (.t 36)),q 38 (.ld (.t 3) 2),q 39 (.bsl 2 57 [(.t 38)]),q 40 (.app 2 57 16 (.t 37) (.t 39)),q 41 (.mv (.t 0)),q 42 (.mv (.t 5)),q 43 (.sub 2 (.t 41) (some (.t 42)) none),q 44 (.app 2 57 16 (.t 40) (.t 43)),q 4 (.mv (.t 44))]) .ret)))))⟩
theorem k87 : cF Try.prog Try.f87 = some c87 := by kernel_rfl
def c88 : AF := ⟨3,12,[(6,(some 2))],(.seq (.ops [q 3 (.box (.t 0)),q 4 (.box (.t 1)),q 5 (.box (.t 2)),q 6 (.al [(.v (.int .i64 0)),(.v (.int .i64 0))])]) (.seq (.reg [0,0,0,6,15,31] [q 7 (.ld (.t 3) 3),q 8 (.ld (.t 4) 6),q 9 (.ld (.t 5) 2),q 10 (.call 94 [(.t 8),(.t 9)]),q 11 (.call 68 [(.t 7),(.t 10)]),⟨none,none,.st (.t 6) (.t 11) 2⟩]) .ret))⟩
theorem k88 : cF Try.prog Try.f88 = some c88 := by kernel_rfl
def c89 : AF := ⟨2,27,[(4,none)],(.seq (.ops [q 3 (.box (.t 1)),q 4 (.mv (.c (.v (.int .i64 0))))]) (.seq (.ops [q 6 (.fa (.t 3) 0),q 7 (.ld (.t 6) 0),q 8 (.fa (.t 3) 0),q 9 (.ld (.t 8) 0),q 10 (.bin .mul (.t 7) (.t 9)),q 11 (.fa (.t 3) 1),q 12 (.ld (.t 11) 0),q 13 (.fa (.t 3) 1),q 14 (.ld (.t 13) 0),q 15 (.bin .mul (.t 12) (.t 14)),q 16 (.bin .add (.t 10) (.t 15)),q 5 (.mv (.t 16))]) (.seq (.seq (.ops [q 17 (.mv (.t 0)),q 18 (.bin .eql (.t 17) (.c (.v (.int .i64 1))))]) (.cond (.t 18) (.ops [q 19 (.mv (.t 5)),q 20 (.fa (.t 3) 0),q 21 (.ld (.t 20) 0),q 22 (.fa (.t 3) 1),q 23 (.ld (.t 22) 0),q 24 (.bin .mul (.t 21) (.t 23)),q 25 (.bin .add (.t 19) (.t 24)),q 5 (.mv (.t 25))]) .skip)) (.seq (.ops [q 26 (.mv (.t 5)),q 4 (.mv (.t 26))]) .ret))))⟩
theorem k89 : cF Try.prog Try.f89 = some c89 := by kernel_rfl
def c90 : AF := ⟨2,16,[(4,none)],(.seq (.ops [q 4 (.mv (.c (.v (.int .i64 0))))]) (.seq (.seq (.ops [q 5 (.mv (.t 1)),q 6 (.bin .eql (.t 5) (.c (.v (.int .i64 0))))]) (.cond (.t 6) (.seq (.ops [q 7 (.mv (.t 0)),q 8 (.mv (.t 0)),q 9 (.un .neg (.t 8)),q 10 (.mm true (.t 7) (.t 9)),q 4 (.mv (.t 10))]) .ret) .skip)) (.seq (.ops [q 11 (.mv (.t 1)),q 12 (.mv (.t 0)),q 13 (.mv (.t 1)),q 14 (.bin .rem (.t 12) (.t 13)),q 15 (.call 90 [(.t 11),(.t 14)]),q 4 (.mv (.t 15))]) .ret)))⟩
theorem k90 : cF Try.prog Try.f90 = some c90 := by kernel_rfl
def c91 : AF := ⟨2,14,[(4,(some 2))],(.seq (.ops [q 2 (.box (.t 0)),q 4 (.al [(.v (.int .i64 0)),(.v (.int .i64 0))])]) (.seq (.ops [q 5 (.mv (.t 1)),q 6 (.fa (.t 2) 0),q 7 (.ld (.t 6) 0),q 8 (.bin .mul (.t 5) (.t 7)),q 9 (.mv (.t 1)),q 10 (.fa (.t 2) 1),q 11 (.ld (.t 10) 0),q 12 (.bin .mul (.t 9) (.t 11)),q 13 (.bld [(.v (.int .i64 0)),(.v (.int .i64 0))] [(0,1,(.t 8)),(1,1,(.t 12))]),⟨none,none,.st (.t 4) (.t 13) 2⟩]) .ret))⟩
theorem k91 : cF Try.prog Try.f91 = some c91 := by kernel_rfl
def c92 : AF := ⟨2,10,[(4,none)],(.seq (.ops [q 2 (.box (.t 0)),q 3 (.box (.t 1)),q 4 (.mv (.c (.v (.bool false))))]) (.seq (.reg [0,1,0,7,15,31] [q 5 (.ld (.t 2) 4),q 6 (.call 96 [(.t 5)]),q 7 (.ld (.t 3) 4),q 8 (.call 96 [(.t 7)]),q 9 (.call 95 [(.t 6),(.t 8)]),q 4 (.mv (.t 9))]) .ret))⟩
theorem k92 : cF Try.prog Try.f92 = some c92 := by kernel_rfl
def c93 : AF := ⟨2,24,[(4,none)],(.seq (.ops [q 2 (.box (.t 0)),q 3 (.box (.t 1)),q 4 (.mv (.c (.v (.bool false))))]) (.seq (.ops [q 5 (.fa (.t 2) 0),q 6 (.ld (.t 5) 0),q 7 (.fa (.t 3) 0),q 8 (.ld (.t 7) 0),q 9 (.bin .lss (.t 6) (.t 8)),q 10 (.mv (.t 9)),⟨(some 11),(some (10,false)),.fa (.t 2) 0⟩,⟨(some 12),(some (10,false)),.ld (.t 11) 0⟩,⟨(some 13),(some (10,false)),.fa (.t 3) 0⟩,⟨(some 14),(some (10,false)),.ld (.t 13) 0⟩,⟨(some 15),(some (10,false)),.bin .eql (.t 12) (.t 14)⟩,⟨(some 16),(some (10,false)),.mv (.t 15)⟩,⟨(some 17),(some (16,true)),.fa (.t 2) 1⟩,⟨(some 18),(some (16,true)),.ld (.t 17) 0⟩,⟨(some 19),(some (16,true)),.fa (.t 3) 1⟩,⟨(some 20),(some (16,true)),.ld (.t 19) 0⟩,⟨(some 21),(some (16,true)),.bin .lss (.t 18) (.t 20)⟩,⟨(some 22),(some (10,false)),.pick (.t 16) (.t 21) (.c (.v (.bool false)))⟩,q 23 (.pick (.t 10) (.c (.v (.bool true))) (.t 22)),q 4 (.mv (.t 23))]) .ret))⟩
theorem k93 : cF Try.prog Try.f93 = some c93 := by kernel_rfl
def c94 : AF := ⟨2,12,[(4,(some 2))],(.seq (.ops [q 2 (.box (.t 0)),q 3 (.box (.t 1)),q 4 (.al [(.v (.int .i64 0)),(.v (.int .i64 0))])]) (.seq (.reg [0,1,0,7,0,16,63,127] [q 5 (.fa (.t 2) 0),q 6 (.ld (.t 5) 4),q 7 (.ld (.t 3) 2),q 8 (.call 80 [(.t 6),(.t 7)]),q 9 (.fa (.t 2) 4),q 10 (.ld (.t 9) 2),q 11 (.call 54 [(.t 8),(.t 10)]),⟨none,none,.st (.t 4) (.t 11) 2⟩]) .ret))⟩
theorem k94 : cF Try.prog Try.f94 = some c94 := by kernel_rfl
def c95 : AF := ⟨2,41,[(4,none)],(.seq (.ops [q 4 (.mv (.c (.v (.bool false))))]) (.seq (.seq (.ops [q 5 (.mv (.c (.v (.int .i64 0))))]) (.block 0 (.loop (.seq (.seq (.ops [q 6 (.mv (.t 5)),q 7 (.mv (.t 0)),q 8 (.len false (.t 7)),q 9 (.bin .lss (.t 6) (.t 8)),q 10 (.mv (.t 9)),⟨(some 11),(some (10,true)),.mv (.t 5)⟩,⟨(some 12),(some (10,true)),.mv (.t 1)⟩,⟨(some 13),(some (10,true)),.len false (.t 12)⟩,⟨(some 14),(some (10,true)),.bin .lss (.t 11) (.t 13)⟩,q 15 (.pick (.t 10) (.t 14) (.c (.v (.bool false))))]) (.cond (.t 15) .skip (.exit 0))) (.seq (.block 1 (.seq (.reg [0,0,3,7,0,0,48,112,255] [q 18 (.mv (.t 0)),q 19 (.mv (.t 5)),q 20 (.ia (.t 18) (.t 19) 0),q 21 (.ld (.t 20) 0),q 22 (.mv (.t 1)),q 23 (.mv (.t 5)),q 24 (.ia (.t 22) (.t 23) 0),q 25 (.ld (.t 24) 0),q 26 (.bin .neq (.t 21) (.t 25))]) (.cond (.t 26) (.seq (.reg [0,0,3,7,0,0,48,112,255,511] [q 27 (.mv (.t 0)),q 28 (.mv (.t 5)),q 29 (.ia (.t 27) (.t 28) 0),q 30 (.ld (.t 29) 0),q 31 (.mv (.t 1)),q 32 (.mv (.t 5)),q 33 (.ia (.t 31) (.t 32) 0),q 34 (.ld (.t 33) 0),q 35 (.bin .lss (.t 30) (.t 34)),q 4 (.mv (.t 35))]) .ret) .skip))) (.ops [q 16 (.mv (.t 5)),q 17 (.bin .add (.t 16) (.c (.v (.int .i64 1)))),q 5 (.mv (.t 17))])))))) (.seq (.ops [q 36 (.mv (.t 0)),q 37 (.len false (.t 36)),q 38 (.mv (.t 1)),q 39 (.len false (.t 38)),q 40 (.bin .lss (.t 37) (.t 39)),q 4 (.mv (.t 40))]) .ret)))⟩
theorem k95 : cF Try.prog Try.f95 = some c95 := by kernel_rfl
def c96 : AF := ⟨1,12,[(2,none)],(.seq (.ops [q 1 (.box (.t 0)),q 2 (.mv (.c (.nil 0)))]) (.seq (.ops [q 3 (.fa (.t 1) 0),q 4 (.ld (.t 3) 0),q 5 (.fa (.t 1) 1),q 6 (.ld (.t 5) 0),q 7 (.fa (.t 1) 2),q 8 (.ld (.t 7) 0),q 9 (.fa (.t 1) 3),q 10 (.ld (.t 9) 0),q 11 (.bsl 0 2 [(.t 4),(.t 6),(.t 8),(.t 10)]),q 2 (.mv (.t 11))]) .ret))⟩
theorem k96 : cF Try.prog Try.f96 = some c96 := by kernel_rfl
end Go.Proofs.YtgkhakhkebjbpaaEv
namespace Go.Proofs.YtgkhakhkebjbpaaEv
open Go Go.Proofs
theorem mixed : Try.prog.follows .mixedOrders = true := by kernel_rfl
abbrev vi (n : Int) : A := .v (.int .i64 n)
abbrev vb (b : Bool) : A := .v (.bool b)
def is (l : List Int) : List V := l.map fun y => .int .i64 y
abbrev vis (l : List Int) : V := .sl 0 (is l)
abbrev no : Nat → Bool := fun _ => false
@[simp] theorem is_nil : is [] = [] := rfl
@[simp] theorem is_one (v : Int) : is [v] = [.int .i64 v] := rfl
@[simp] theorem is_set (l : List Int) (n : Nat) (v : Int) : (is l).set n (.int .i64 v) = is (l.set n v) := by simp [is, List.map_set]
@[simp] theorem is_len (l : List Int) : (is l).length = l.length := by simp [is]
@[simp] theorem is_get (l : List Int) (n : Nat) (K : V → Prop) : fA ((is l)[n]?) K = ∀ a, l[n]? = some a → K (.int .i64 a) := by unfold is; exact fA_map
@[simp] theorem is_rep (n : Nat) (k : Int) : List.replicate n (V.int .i64 k) = is (List.replicate n k) := by simp [is]
@[simp] theorem is_app (l : List Int) (v : Int) : is l ++ [.int .i64 v] = is (l ++ [v]) := by simp [is]
@[simp] theorem is_flat (l : List Int) : (∀ x, x ∈ is l → x.flat = true) ↔ True := by
  simp only [iff_true]
  intro x hx
  obtain ⟨y, _, rfl⟩ := List.mem_map.1 hx
  rfl
@[simp] theorem is_inj (a b : List Int) : is a = is b ↔ a = b := by
  constructor
  · intro h
    exact (List.map_inj_right (fun x y e => by cases e; rfl)).1 h
  · rintro rfl; rfl
theorem fill_set {α : Type} {l : List α} {i : Nat} {z a : α} (h : l[i]? = some a) : (l.take i ++ List.replicate (l.length - i) z).set i a = l.take (i + 1) ++ List.replicate (l.length - (i + 1)) z := by
  obtain ⟨h1, rfl⟩ := List.getElem?_eq_some_iff.1 h
  have e : (l.take i).length = i := by simp; omega
  have e2 : l.take (i + 1) = l.take i ++ [l[i]] := by rw [List.take_add_one, h]; rfl
  rw [show l.length - i = (l.length - (i + 1)) + 1 by omega, List.replicate_succ, List.set_append_right _ _ (by omega), e, Nat.sub_self, List.set_cons_zero, e2, List.append_assoc]
  rfl
theorem mLen : maxLen = 9223372036854775807 := by decide
set_option maxRecDepth 10000
end Go.Proofs.YtgkhakhkebjbpaaEv
namespace Go.Proofs.YtgkhakhkebjbpaaEv
open Go Go.Proofs
set_option maxRecDepth 10000
abbrev aV (x y : Int) : A := .v (.ag [.int .i64 x, .int .i64 y])
abbrev aL (a b c : Int) : A := .v (.ag [.int .i64 a, .int .i64 b, .int .i64 c])
abbrev aM (a b c d : Int) : A := .v (.ag [.int .i64 a, .int .i64 b, .int .i64 c, .int .i64 d])
abbrev aG (a b c d x y : Int) : A := .v (.ag [.int .i64 a, .int .i64 b, .int .i64 c, .int .i64 d, .int .i64 x, .int .i64 y])
def vv (v : Int × Int) : V := .ag [.int .i64 v.1, .int .i64 v.2]
def vs (l : List (Int × Int)) : List V := l.map vv
@[simp] theorem vs_nil : vs [] = [] := rfl
@[simp] theorem vs_len (l : List (Int × Int)) : (vs l).length = l.length := by simp [vs]
@[simp] theorem vs_get (l : List (Int × Int)) (n : Nat) (K : V → Prop) : fA ((vs l)[n]?) K = ∀ a, l[n]? = some a → K (.ag [.int .i64 a.1, .int .i64 a.2]) := by unfold vs; exact fA_map
@[simp] theorem vs_app (l : List (Int × Int)) (x y : Int) : vs l ++ [.ag [.int .i64 x, .int .i64 y]] = vs (l ++ [(x, y)]) := by simp [vs, vv]
@[simp] theorem vs_set (l : List (Int × Int)) (n : Nat) (x y : Int) : (vs l).set n (.ag [.int .i64 x, .int .i64 y]) = vs (l.set n (x, y)) := by simp [vs, vv, List.map_set]
@[simp] theorem vs_rep (n : Nat) (x y : Int) : List.replicate n (V.ag [.int .i64 x, .int .i64 y]) = vs (List.replicate n (x, y)) := by simp [vs, vv]
@[simp] theorem vs_inj (a b : List (Int × Int)) : vs a = vs b ↔ a = b := by
  constructor
  · intro h
    exact (List.map_inj_right (fun x y e => by cases x; cases y; simp only [vv, V.ag.injEq, List.cons.injEq, V.int.injEq] at e; simp_all)).1 h
  · rintro rfl; rfl
@[simp] theorem vs_flat (l : List (Int × Int)) : (∀ x, x ∈ vs l → x.flat = true) ↔ True := by
  simp only [iff_true]
  intro x hx
  obtain ⟨y, _, rfl⟩ := List.mem_map.1 hx
  rfl
theorem s_within (n a b : Int) : Sp Try.prog 47 [vi n, vi a, vi b] (vb (decide (a ≤ n ∧ n ≤ b))) [] := by
  refine sp_of (m := no) mixed Try.func47 k47 ?_
  simp -dsimp [q]
  constructor
  · intro h _; exact h
  · intro h1 h2; omega
theorem s_in (n a b : Int) : Sp Try.prog 25 [vi n, vi a, vi b] (vb (decide (a ≤ n ∧ n ≤ b))) [] := by
  refine sp_of (m := no) mixed Try.func25 k25 ?_
  simp -dsimp [q]
  constructor
  · intro h _; exact h
  · intro h1 h2; omega
def okV (x y : Int) : Bool := decide (-1000 ≤ x ∧ x ≤ 1000) && decide (-1000 ≤ y ∧ y ≤ 1000)
theorem okV_spec {x y : Int} : okV x y = true ↔ (-1000 ≤ x ∧ x ≤ 1000) ∧ -1000 ≤ y ∧ y ≤ 1000 := by simp [okV]
theorem s_add (x y u v : Int) (h1 : -4000000000000 ≤ x ∧ x ≤ 4000000000000) (h2 : -4000000000000 ≤ y ∧ y ≤ 4000000000000) (h3 : -4000000000000 ≤ u ∧ u ≤ 4000000000000) (h4 : -4000000000000 ≤ v ∧ v ≤ 4000000000000) : Sp Try.prog 55 [aV x y, aV u v] (aV (x + u) (y + v)) [] := by
  refine sp_of (m := no) mixed Try.func55 k55 ?_
  simp -dsimp [q]
  rw [w64 (by omega) (by omega), w64 (by omega) (by omega)]
  exact ⟨rfl, rfl⟩
theorem s_sadd (x y u v : Int) (h1 : -4000000000000 ≤ x ∧ x ≤ 4000000000000) (h2 : -4000000000000 ≤ y ∧ y ≤ 4000000000000) (h3 : -4000000000000 ≤ u ∧ u ≤ 4000000000000) (h4 : -4000000000000 ≤ v ∧ v ≤ 4000000000000) : Sp Try.prog 54 [aV x y, aV u v] (aV (x + u) (y + v)) [] := by
  refine sp_of (m := no) mixed Try.func54 k54 ?_
  simp -dsimp [q]
  rw [w64 (by omega) (by omega), w64 (by omega) (by omega)]
  exact ⟨rfl, rfl⟩
theorem tmod_lt {a b : Int} (hb : 0 < b) : -b < a.tmod b ∧ a.tmod b < b := by
  rw [Int.tmod_eq_emod]
  have h1 := Int.emod_nonneg a (show b ≠ 0 by omega)
  have h2 := Int.emod_lt_of_pos a hb
  have h3 : (b.natAbs : Int) = b := by omega
  split <;> omega
theorem mod_a {a b : Int} (hb : 0 < b) (h : a.tmod b < 0) : a.tmod b + b = a % b := by
  rw [Int.tmod_eq_emod] at h ⊢
  have h1 := Int.emod_nonneg a (show b ≠ 0 by omega)
  have h3 : (b.natAbs : Int) = b := by omega
  split at h <;> rename_i hc
  · omega
  · rw [if_neg hc]; omega
theorem mod_b {a b : Int} (hb : 0 < b) (h : 0 ≤ a.tmod b) : a.tmod b = a % b := by
  rw [Int.tmod_eq_emod] at h ⊢
  have h1 := Int.emod_lt_of_pos a hb
  have h3 : (b.natAbs : Int) = b := by omega
  split at h <;> rename_i hc
  · rw [if_pos hc]; omega
  · rw [if_neg hc]; omega
theorem s_mod (a b : Int) (hb : 0 < b ∧ b ≤ 1000000) : Sp Try.prog 69 [vi a, vi b] (vi (a % b)) [] := by
  refine sp_of (m := no) mixed Try.func69 k69 ?_
  simp -dsimp [q]
  have h1 := tmod_lt (a := a) hb.1
  refine ⟨by omega, ?_⟩
  rw [w64 (by omega) (by omega), mod_b hb.1 (Int.tmod_nonneg _ (by omega))]
  by_cases h : a.tmod b < 0
  · rw [mod_a hb.1 h, Int.emod_emod_of_dvd _ (Int.dvd_refl b)]
  · rw [mod_b hb.1 (by omega)]
    simp
theorem s_smod (a b : Int) (hb : 0 < b ∧ b ≤ 1000000) : Sp Try.prog 76 [vi a, vi b] (vi (a % b)) [] := by
  refine sp_of (m := no) mixed Try.func76 k76 ?_
  simp -dsimp [q]
  have h1 := tmod_lt (a := a) hb.1
  refine ⟨by omega, fun h => ?_, fun h => mod_b hb.1 h⟩
  rw [w64 (by omega) (by omega), mod_a hb.1 h]
/-! lattices -/
def okL (a b c : Int) : Bool := decide (1 ≤ a ∧ a ≤ 64) && decide (1 ≤ c ∧ c ≤ 64) && decide (0 ≤ b ∧ b ≤ a - 1) && decide (a * c ≤ 64)
theorem okL_spec {a b c : Int} : okL a b c = true ↔ (1 ≤ a ∧ a ≤ 64) ∧ (1 ≤ c ∧ c ≤ 64) ∧ (0 ≤ b ∧ b < a) ∧ a * c ≤ 64 := by
  simp [okL]; omega
theorem ac_pos {a c : Int} (ha : 1 ≤ a) (hc : 1 ≤ c) : 1 ≤ a * c := by
  have := Int.mul_le_mul ha hc (by omega) (by omega)
  omega
theorem ac_hi {a c : Int} (ha : 1 ≤ a ∧ a ≤ 64) (hc : 1 ≤ c ∧ c ≤ 64) : a * c ≤ 4096 := by
  have := Int.mul_le_mul ha.2 hc.2 (by omega) (by omega)
  omega
theorem s_index (a b c : Int) (ha : 1 ≤ a ∧ a ≤ 64) (hc : 1 ≤ c ∧ c ≤ 64) : Sp Try.prog 40 [aL a b c] (vi (a * c)) [] := by
  refine sp_of (m := no) mixed Try.func40 k40 ?_
  simp -dsimp [q]
  have h1 := ac_pos ha.1 hc.1
  have h2 := ac_hi ha hc
  rw [w64 (by omega) (by omega)]
theorem s_isL (a b c : Int) : Sp Try.prog 46 [aL a b c] (vb (okL a b c)) [] := by
  refine sp_of (m := no) mixed Try.func46 k46 ?_
  have w1 := s_within a 1 64
  have w2 := s_within c 1 64
  have w3 := s_within b 0 (a - 1)
  simp -dsimp [q]
  by_cases h1 : 1 ≤ a ∧ a ≤ 64
  case neg =>
    rw [decide_eq_false h1] at w1
    refine call_of (w1) rfl (by simp) ?_
    try simp -dsimp
    try (first | exact fp_one (by decide) | refine fp_and (by decide) ?_)
    simp [okL, h1]
  rw [decide_eq_true h1] at w1
  refine call_of (w1) rfl (by simp) ?_
  try simp -dsimp
  try (first | exact fp_one (by decide) | refine fp_and (by decide) ?_)
  by_cases h2 : 1 ≤ c ∧ c ≤ 64
  case neg =>
    rw [decide_eq_false h2] at w2
    refine call_of (w2) rfl (by simp) ?_
    try simp -dsimp
    try (first | exact fp_one (by decide) | refine fp_and (by decide) ?_)
    simp [okL, h2]
  rw [decide_eq_true h2] at w2
  refine call_of (w2) rfl (by simp) ?_
  try simp -dsimp
  try (first | exact fp_one (by decide) | refine fp_and (by decide) ?_)
  rw [w64 (by omega) (by omega)]
  by_cases h3 : 0 ≤ b ∧ b ≤ a - 1
  case neg =>
    rw [decide_eq_false h3] at w3
    refine call_of (w3) rfl (by simp) ?_
    try simp -dsimp
    try (first | exact fp_one (by decide) | refine fp_and (by decide) ?_)
    simp only [okL, decide_eq_false h3, Bool.and_false, Bool.false_and]
  rw [decide_eq_true h3] at w3
  refine call_of (w3) rfl (by simp) ?_
  try simp -dsimp
  try (first | exact fp_one (by decide) | refine fp_and (by decide) ?_)
  refine call_of (s_index a b c h1 h2) rfl (by simp) ?_
  try simp -dsimp
  try (first | exact fp_one (by decide) | refine fp_and (by decide) ?_)
  simp only [okL, decide_eq_true h1, decide_eq_true h2, decide_eq_true h3, Bool.true_and]
theorem s_sisL (a b c : Int) : Sp Try.prog 67 [aL a b c] (vb (okL a b c)) [] := by
  refine sp_of (m := no) mixed Try.func67 k67 ?_
  have w1 := s_in a 1 64
  have w2 := s_in c 1 64
  have w3 := s_in b 0 (a - 1)
  simp -dsimp [q]
  by_cases h1 : 1 ≤ a ∧ a ≤ 64
  case neg =>
    rw [decide_eq_false h1] at w1
    refine call_of (w1) rfl (by simp) ?_
    try simp -dsimp
    try (first | exact fp_one (by decide) | refine fp_and (by decide) ?_)
    simp [okL, h1]
  rw [decide_eq_true h1] at w1
  refine call_of (w1) rfl (by simp) ?_
  try simp -dsimp
  try (first | exact fp_one (by decide) | refine fp_and (by decide) ?_)
  by_cases h2 : 1 ≤ c ∧ c ≤ 64
  case neg =>
    rw [decide_eq_false h2] at w2
    refine call_of (w2) rfl (by simp) ?_
    try simp -dsimp
    try (first | exact fp_one (by decide) | refine fp_and (by decide) ?_)
    simp [okL, h2]
  rw [decide_eq_true h2] at w2
  refine call_of (w2) rfl (by simp) ?_
  try simp -dsimp
  try (first | exact fp_one (by decide) | refine fp_and (by decide) ?_)
  rw [w64 (by omega) (by omega)]
  by_cases h3 : 0 ≤ b ∧ b ≤ a - 1
  case neg =>
    rw [decide_eq_false h3] at w3
    refine call_of (w3) rfl (by simp) ?_
    try simp -dsimp
    try (first | exact fp_one (by decide) | refine fp_and (by decide) ?_)
    simp only [okL, decide_eq_false h3, Bool.and_false, Bool.false_and]
  rw [decide_eq_true h3] at w3
  refine call_of (w3) rfl (by simp) ?_
  try simp -dsimp
  try (first | exact fp_one (by decide) | refine fp_and (by decide) ?_)
  have h4 := ac_pos h1.1 h2.1
  have h5 := ac_hi h1 h2
  rw [w64 (by omega) (by omega)]
  simp only [okL, decide_eq_true h1, decide_eq_true h2, decide_eq_true h3, Bool.true_and]
end Go.Proofs.YtgkhakhkebjbpaaEv
namespace Go.Proofs.YtgkhakhkebjbpaaEv
open Go Go.Proofs
set_option maxRecDepth 10000
def rowL (x : Int) : Nat → List (Int × Int)
  | 0 => []
  | n + 1 => rowL x n ++ [(x, (n : Int))]
def cellsL (c : Nat) : Nat → List (Int × Int)
  | 0 => []
  | n + 1 => cellsL c n ++ rowL n c
theorem rowL_len (x : Int) : ∀ n, (rowL x n).length = n
  | 0 => rfl
  | n + 1 => by simp [rowL, rowL_len x n]
theorem cellsL_len (c : Nat) : ∀ n, (cellsL c n).length = n * c
  | 0 => by simp [cellsL]
  | n + 1 => by simp [cellsL, cellsL_len c n, rowL_len, Nat.succ_mul]
theorem nat_ac {a c : Int} (ha : 1 ≤ a ∧ a ≤ 64) (hc : 1 ≤ c ∧ c ≤ 64) {x : Nat} (hx : (x : Int) ≤ a) : x * c.toNat ≤ 4096 := by
  have := Nat.mul_le_mul (show x ≤ 64 by omega) (show c.toNat ≤ 64 by omega)
  omega
theorem s_cells (a b c : Int) (ha : 1 ≤ a ∧ a ≤ 64) (hc : 1 ≤ c ∧ c ≤ 64) : Sp Try.prog 34 [aL a b c] (.sli 0) [.row 2 57 (vs (cellsL c.toNat a.toNat))] := by
  refine sp_of (m := no) mixed Try.func34 k34 ?_
  simp -dsimp [q]
  refine awp_it (false :: true :: false :: true :: false :: false :: false :: false :: true :: true :: []) (fun x : Nat => [(9, vi x)]) (fun x => [(1, .row 2 57 (vs (cellsL c.toNat x)))]) (fun x => (x : Int) ≤ a) (fun x => a.toNat - x) 0 ?_
  intro s0 e
  simp -dsimp at e
  subst e
  refine ⟨?_, ?_⟩
  · simp [cellsL]; omega
  intro x hx
  simp -dsimp
  refine ⟨fun hxa => ?_, fun hxa => ?_⟩
  · refine awp_it (false :: true :: false :: true :: true :: false :: false :: false :: true :: true :: false :: false :: false :: true :: true :: []) (fun y : Nat => [(14, vi y)]) (fun y => [(1, .row 2 57 (vs (cellsL c.toNat x ++ rowL x y)))]) (fun y => (y : Int) ≤ c) (fun y => c.toNat - y) 0 ?_
    intro s0 e
    simp -dsimp at e
    subst e
    refine ⟨?_, ?_⟩
    · simp [rowL]; omega
    intro y hy
    simp -dsimp [cellsL_len, rowL_len]
    have h1 := nat_ac ha hc hx
    refine ⟨fun hyc => ⟨⟨by omega, by omega⟩, y + 1, ⟨by rw [w64 (by omega) (by omega)]; simp, ?_⟩, by omega, by omega⟩, fun hyc => ?_⟩
    · simp [rowL]
    · refine ⟨x + 1, ⟨by rw [w64 (by omega) (by omega)]; simp, ?_⟩, by omega, by omega⟩
      rw [cellsL, show y = c.toNat by omega]
  · rw [show a.toNat = x by omega]
theorem s_scells (a b c : Int) (ha : 1 ≤ a ∧ a ≤ 64) (hc : 1 ≤ c ∧ c ≤ 64) : Sp Try.prog 52 [aL a b c] (.sli 0) [.row 2 57 (vs (cellsL c.toNat a.toNat))] := by
  refine sp_of (m := no) mixed Try.func52 k52 ?_
  simp -dsimp [q]
  refine awp_it (false :: true :: false :: true :: true :: []) (fun x : Nat => [(4, vi x)]) (fun x => [(1, .row 2 57 (vs (cellsL c.toNat x)))]) (fun x => (x : Int) ≤ a) (fun x => a.toNat - x) 0 ?_
  intro s0 e
  simp -dsimp at e
  subst e
  refine ⟨?_, ?_⟩
  · simp [cellsL]; omega
  intro x hx
  simp -dsimp
  refine ⟨fun hxa => ?_, fun hxa => ?_⟩
  · refine awp_it (false :: true :: false :: true :: true :: true :: []) (fun y : Nat => [(5, vi y)]) (fun y => [(1, .row 2 57 (vs (cellsL c.toNat x ++ rowL x y)))]) (fun y => (y : Int) ≤ c) (fun y => c.toNat - y) 0 ?_
    intro s0 e
    simp -dsimp at e
    subst e
    refine ⟨?_, ?_⟩
    · simp [rowL]; omega
    intro y hy
    simp -dsimp [cellsL_len, rowL_len]
    have h1 := nat_ac ha hc hx
    refine ⟨fun hyc => ⟨⟨by omega, by omega⟩, y + 1, ⟨by rw [w64 (by omega) (by omega)]; simp, ?_⟩, by omega, by omega⟩, fun hyc => ?_⟩
    · simp [rowL]
    · refine ⟨x + 1, ⟨by rw [w64 (by omega) (by omega)]; simp, ?_⟩, by omega, by omega⟩
      rw [cellsL, show y = c.toNat by omega]
  · rw [show a.toNat = x by omega]
/-! reduced vectors -/
def redX (a b c x y : Int) : Int := (x - y / c * b) % a
def num (a b c x y : Int) : Int := redX a b c x y * c + y % c
theorem div_sub {y c : Int} (hc : 0 < c) : (y - y % c).tdiv c = y / c := by
  have h := Int.mul_ediv_add_emod y c
  rw [show y - y % c = y / c * c by rw [Int.mul_comm]; omega, Int.mul_tdiv_cancel _ (by omega)]
theorem kb_le {y b c : Int} (hy : -1000000000 ≤ y ∧ y ≤ 1000000000) (hb : 0 ≤ b ∧ b < 64) (hc : 1 ≤ c) : (-1000000000 ≤ y / c ∧ y / c ≤ 1000000000) ∧ -64000000000 ≤ y / c * b ∧ y / c * b ≤ 64000000000 := by
  have h1 : -1000000000 ≤ y / c := Int.le_ediv_of_mul_le (by omega) (by omega)
  have h2 : y / c ≤ 1000000000 := Int.ediv_le_of_le_mul (by omega) (by omega)
  have h3 := Int.mul_le_mul_of_nonneg_right h1 hb.1
  have h4 := Int.mul_le_mul_of_nonneg_right h2 hb.1
  refine ⟨⟨h1, h2⟩, by omega, by omega⟩
theorem s_reduce (a b c x y : Int) (ha : 1 ≤ a ∧ a ≤ 64) (hb : 0 ≤ b ∧ b < a) (hc : 1 ≤ c ∧ c ≤ 64) (hx : -1000000000 ≤ x ∧ x ≤ 1000000000) (hy : -1000000000 ≤ y ∧ y ≤ 1000000000) : Sp Try.prog 57 [aL a b c, aV x y] (aV (redX a b c x y) (y % c)) [] := by
  refine sp_of (m := no) mixed Try.func57 k57 ?_
  have h1 := Int.emod_nonneg y (show c ≠ 0 by omega)
  have h2 := Int.emod_lt_of_pos y (show 0 < c by omega)
  obtain ⟨h3, h4⟩ := kb_le (b := b) hy (by omega) hc.1
  have h5 := div_sub (y := y) (show 0 < c by omega)
  simp -dsimp [q]
  refine call_of (s_mod _ _ (by omega)) rfl (by simp) ?_
  try simp -dsimp
  try (first | exact fp_one (by decide) | refine fp_and (by decide) ?_)
  rw [w64 (n := y - y % c) (by omega) (by omega), h5, w64 (n := y / c) (by omega) (by omega), w64 (n := y / c * b) (by omega) (by omega), w64 (n := x - y / c * b) (by omega) (by omega)]
  refine ⟨by omega, ?_⟩
  refine call_of (s_mod _ _ (by omega)) rfl (by simp) ?_
  try simp -dsimp
  try (first | exact fp_one (by decide) | refine fp_and (by decide) ?_)
  rfl
theorem s_sreduce (a b c x y : Int) (ha : 1 ≤ a ∧ a ≤ 64) (hb : 0 ≤ b ∧ b < a) (hc : 1 ≤ c ∧ c ≤ 64) (hx : -1000000000 ≤ x ∧ x ≤ 1000000000) (hy : -1000000000 ≤ y ∧ y ≤ 1000000000) : Sp Try.prog 68 [aL a b c, aV x y] (aV (redX a b c x y) (y % c)) [] := by
  refine sp_of (m := no) mixed Try.func68 k68 ?_
  have h1 := Int.emod_nonneg y (show c ≠ 0 by omega)
  have h2 := Int.emod_lt_of_pos y (show 0 < c by omega)
  obtain ⟨h3, h4⟩ := kb_le (b := b) hy (by omega) hc.1
  have h5 := div_sub (y := y) (show 0 < c by omega)
  simp -dsimp [q]
  refine call_of (s_smod _ _ (by omega)) rfl (by simp) ?_
  try simp -dsimp
  try (first | exact fp_one (by decide) | refine fp_and (by decide) ?_)
  rw [w64 (n := y - y % c) (by omega) (by omega), h5, w64 (n := y / c) (by omega) (by omega), w64 (n := y / c * b) (by omega) (by omega), w64 (n := x - y / c * b) (by omega) (by omega)]
  refine ⟨by omega, ?_⟩
  refine call_of (s_smod _ _ (by omega)) rfl (by simp) ?_
  try simp -dsimp
  try (first | exact fp_one (by decide) | refine fp_and (by decide) ?_)
  rfl
theorem red_lt {a b c x y : Int} (ha : 1 ≤ a) (hc : 1 ≤ c) : (0 ≤ redX a b c x y ∧ redX a b c x y < a) ∧ 0 ≤ y % c ∧ y % c < c :=
  ⟨⟨Int.emod_nonneg _ (by omega), Int.emod_lt_of_pos _ (by omega)⟩, Int.emod_nonneg _ (by omega), Int.emod_lt_of_pos _ (by omega)⟩
theorem num_lt' {a c u v : Int} (hu : 0 ≤ u ∧ u < a) (hv : 0 ≤ v ∧ v < c) : (0 ≤ u * c ∧ u * c ≤ a * c) ∧ 0 ≤ u * c + v ∧ u * c + v < a * c := by
  have h1 := Int.mul_nonneg hu.1 (show 0 ≤ c by omega)
  have h2 : (u + 1) * c ≤ a * c := Int.mul_le_mul_of_nonneg_right (by omega) (by omega)
  rw [Int.add_mul] at h2
  omega
theorem s_number (a b c u v : Int) (hc : 1 ≤ c ∧ c ≤ 64) (hu : 0 ≤ u ∧ u < 64) (hv : 0 ≤ v ∧ v < c) : Sp Try.prog 56 [aL a b c, aV u v] (vi (u * c + v)) [] := by
  refine sp_of (m := no) mixed Try.func56 k56 ?_
  have h := num_lt' hu hv
  simp -dsimp [q]
  rw [w64 (n := u * c) (by omega) (by omega), w64 (by omega) (by omega)]
theorem s_snumber (a b c x y : Int) (ha : 1 ≤ a ∧ a ≤ 64) (hb : 0 ≤ b ∧ b < a) (hc : 1 ≤ c ∧ c ≤ 64) (hx : -1000000000 ≤ x ∧ x ≤ 1000000000) (hy : -1000000000 ≤ y ∧ y ≤ 1000000000) : Sp Try.prog 53 [aL a b c, aV x y] (vi (num a b c x y)) [] := by
  refine sp_of (m := no) mixed Try.func53 k53 ?_
  have h0 := red_lt (b := b) (x := x) (y := y) ha.1 hc.1
  have h := num_lt' h0.1 h0.2
  have h2 := ac_hi ha hc
  simp -dsimp [q]
  refine call_of (s_sreduce _ _ _ _ _ ha hb hc hx hy) rfl (by simp) ?_
  try simp -dsimp
  try (first | exact fp_one (by decide) | refine fp_and (by decide) ?_)
  rw [w64 (n := redX a b c x y * c) (by omega) (by omega), w64 (by omega) (by omega)]
  rfl
end Go.Proofs.YtgkhakhkebjbpaaEv
namespace Go.Proofs.YtgkhakhkebjbpaaEv
open Go Go.Proofs
set_option maxRecDepth 10000
theorem mul_bd {x y : Int} {a b : Nat} (hx : x.natAbs ≤ a) (hy : y.natAbs ≤ b) : (x * y).natAbs ≤ a * b := by
  rw [Int.natAbs_mul]; exact Nat.mul_le_mul hx hy
abbrev vvs (l : List (Int × Int)) : V := .sl 2 (vs l)
theorem s_sbasis (a b c : Int) : Sp Try.prog 84 [aL a b c] (.v (vvs [(a, 0), (b, c)])) [] := by
  refine sp_of (m := no) mixed Try.func84 k84 ?_
  simp -dsimp [q]
  rfl
theorem s_sbasis' (a b c : Int) : Sp Try.prog 84 [aL a b c] (.sli 0) [.row 2 57 (vs [(a, 0), (b, c)])] := by
  refine sp_of (m := no) mixed Try.func84 k84 ?_
  simp -dsimp [q]
  rfl
theorem s_sunit : Sp Try.prog 70 [] (aM 1 0 0 1) [] := by
  refine sp_of (m := no) mixed Try.func70 k70 ?_
  simp -dsimp [q]
section
variable (p q' r s x y : Int) (hm : (p.natAbs ≤ 1000 ∧ q'.natAbs ≤ 1000) ∧ r.natAbs ≤ 1000 ∧ s.natAbs ≤ 1000) (hv : x.natAbs ≤ 1000000 ∧ y.natAbs ≤ 1000000)
include hm hv
theorem s_sapply : Sp Try.prog 80 [aM p q' r s, aV x y] (aV (p * x + q' * y) (r * x + s * y)) [] := by
  refine sp_of (m := no) mixed Try.func80 k80 ?_
  have h1 := mul_bd hm.1.1 hv.1
  have h2 := mul_bd hm.1.2 hv.2
  have h3 := mul_bd hm.2.1 hv.1
  have h4 := mul_bd hm.2.2 hv.2
  simp -dsimp [q]
  rw [w64 (n := p * x) (by omega) (by omega), w64 (n := q' * y) (by omega) (by omega), w64 (n := r * x) (by omega) (by omega), w64 (n := s * y) (by omega) (by omega), w64 (by omega) (by omega), w64 (by omega) (by omega)]
  exact ⟨rfl, rfl⟩
end
theorem s_scale (x y n : Int) (hx : x.natAbs ≤ 4000000000000) (hy : y.natAbs ≤ 4000000000000) (hn : n.natAbs ≤ 1000000) : Sp Try.prog 91 [aV x y, vi n] (aV (n * x) (n * y)) [] := by
  refine sp_of (m := no) mixed Try.func91 k91 ?_
  have h1 := mul_bd hn hx
  have h2 := mul_bd hn hy
  simp -dsimp [q]
  rw [w64 (by omega) (by omega), w64 (by omega) (by omega)]
  exact ⟨rfl, rfl⟩
section
variable (p q' r s : Int) (hm : (p.natAbs ≤ 1000 ∧ q'.natAbs ≤ 1000) ∧ r.natAbs ≤ 1000 ∧ s.natAbs ≤ 1000)
include hm
end
theorem s_sgapply (p q' r s t u x y : Int) (hm : (p.natAbs ≤ 1000 ∧ q'.natAbs ≤ 1000) ∧ r.natAbs ≤ 1000 ∧ s.natAbs ≤ 1000) (hv : x.natAbs ≤ 100000 ∧ y.natAbs ≤ 100000) (ht : t.natAbs ≤ 1000000 ∧ u.natAbs ≤ 1000000) : Sp Try.prog 94 [aG p q' r s t u, aV x y] (aV (p * x + q' * y + t) (r * x + s * y + u)) [] := by
  refine sp_of (m := no) mixed Try.func94 k94 ?_
  have h1 := mul_bd hm.1.1 hv.1
  have h2 := mul_bd hm.1.2 hv.2
  have h3 := mul_bd hm.2.1 hv.1
  have h4 := mul_bd hm.2.2 hv.2
  simp -dsimp [q]
  refine call_of (s_sapply p q' r s x y hm ⟨by omega, by omega⟩) rfl (by simp) ?_
  try simp -dsimp
  try (first | exact fp_one (by decide) | refine fp_and (by decide) ?_)
  refine call_of (s_sadd _ _ _ _ (by omega) (by omega) (by omega) (by omega)) rfl (by simp) ?_
  try simp -dsimp
  try (first | exact fp_one (by decide) | refine fp_and (by decide) ?_)
/-! divisors -/
theorem gcd_step (a b : Int) : Int.gcd b (a.tmod b) = Int.gcd a b := by
  rw [Int.gcd_comm a b]
  have h := Int.tmod_add_mul_tdiv a b
  have : a.tmod b = a - a.tdiv b * b := by rw [Int.mul_comm]; omega
  rw [this, Int.gcd_sub_mul_right_right]
theorem tmod_abs (a : Int) {b : Int} (hb : b ≠ 0) : (a.tmod b).natAbs < b.natAbs := by
  rw [Int.natAbs_tmod]
  exact Nat.mod_lt _ (by omega)
theorem s_sgcd : ∀ (n : Nat) (a b : Int), b.natAbs ≤ n → a.natAbs ≤ 1000000000000000 → b.natAbs ≤ 1000000000000000 → Sp Try.prog 90 [vi a, vi b] (vi (Int.gcd a b)) []
  | 0, a, b, hn, ha, hb => by
    have : b = 0 := by omega
    subst this
    refine sp_of (m := no) mixed Try.func90 k90 ?_
    simp -dsimp [q]
    rw [w64 (by omega) (by omega)]
    split <;> omega
  | n + 1, a, b, hn, ha, hb => by
    by_cases h0 : b = 0
    · exact s_sgcd n a b (by omega) ha hb
    have h1 := tmod_abs a h0
    have ih := s_sgcd n b (a.tmod b) (by omega) hb (by omega)
    rw [gcd_step] at ih
    refine sp_of (m := no) mixed Try.func90 k90 ?_
    simp -dsimp [q, h0]
    refine call_of (ih) rfl (by simp) ?_
    try simp -dsimp
    try (first | exact fp_one (by decide) | refine fp_and (by decide) ?_)
end Go.Proofs.YtgkhakhkebjbpaaEv
namespace Go.Proofs.YtgkhakhkebjbpaaEv
open Go Go.Proofs
set_option maxRecDepth 10000
def eu : Nat → Int × Int → Int × Int → (Int × Int) × (Int × Int)
  | 0, h, v => (h, v)
  | n + 1, h, v => if v.2 = 0 then (h, v) else eu n v (h.1 - h.2.tdiv v.2 * v.1, h.2.tmod v.2)
theorem eu_zero {n : Nat} {h v : Int × Int} (hv : v.2 = 0) : eu n h v = (h, v) := by
  cases n <;> simp [eu, hv]
theorem eu_fuel : ∀ (n m : Nat) (h v : Int × Int), v.2.natAbs ≤ n → v.2.natAbs ≤ m → eu n h v = eu m h v
  | 0, m, h, v, hn, _ => by rw [eu_zero (by omega), eu_zero (by omega)]
  | n + 1, 0, h, v, _, hm => by rw [eu_zero (by omega), eu_zero (by omega)]
  | n + 1, m + 1, h, v, hn, hm => by
    by_cases hv : v.2 = 0
    · rw [eu_zero hv, eu_zero hv]
    · have h1 := tmod_abs h.2 hv
      simp only [eu, if_neg hv]
      exact eu_fuel n m _ _ (by simp only; omega) (by simp only; omega)
theorem eu_step {h v : Int × Int} (hv : v.2 ≠ 0) : eu v.2.natAbs h v = eu (h.2.tmod v.2).natAbs v (h.1 - h.2.tdiv v.2 * v.1, h.2.tmod v.2) := by
  have h1 := tmod_abs h.2 hv
  obtain ⟨n, hn⟩ : ∃ n, v.2.natAbs = n + 1 := ⟨v.2.natAbs - 1, by omega⟩
  rw [hn]
  simp only [eu, if_neg hv]
  exact eu_fuel _ _ _ _ (by simp only; omega) (Nat.le_refl _)
def pot (h v : Int × Int) : Nat := h.1.natAbs * v.2.natAbs + v.1.natAbs * h.2.natAbs
theorem pot_step {h v : Int × Int} : pot v (h.1 - h.2.tdiv v.2 * v.1, h.2.tmod v.2) ≤ pot h v := by
  obtain ⟨a, b⟩ := h
  obtain ⟨c, d⟩ := v
  simp only [pot]
  have h1 : (a - b.tdiv d * c).natAbs ≤ a.natAbs + b.natAbs / d.natAbs * c.natAbs := by
    have := Int.natAbs_sub_le a (b.tdiv d * c)
    rw [Int.natAbs_mul, Int.natAbs_tdiv] at this
    exact this
  have h2 := Nat.mul_le_mul_right d.natAbs h1
  rw [Int.natAbs_tmod]
  have h3 := Nat.mod_add_div b.natAbs d.natAbs
  have h4 : c.natAbs * b.natAbs = c.natAbs * (b.natAbs % d.natAbs) + b.natAbs / d.natAbs * c.natAbs * d.natAbs := by
    rw [← Nat.mul_comm d.natAbs, ← Nat.mul_assoc, Nat.mul_comm _ c.natAbs, ← Nat.mul_add, h3]
  rw [Nat.add_mul] at h2
  generalize (a - b.tdiv d * c).natAbs * d.natAbs = X at *
  generalize a.natAbs * d.natAbs = Y at *
  generalize c.natAbs * (b.natAbs % d.natAbs) = Z at *
  generalize b.natAbs / d.natAbs * c.natAbs * d.natAbs = W at *
  omega
theorem eu_small {h v : Int × Int} {B : Nat} (hP : pot h v ≤ B) (hv : v.2 ≠ 0) : (h.2.tdiv v.2 * v.1).natAbs ≤ B ∧ (h.2.tdiv v.2).natAbs ≤ h.2.natAbs ∧ (h.2.tdiv v.2 * v.2).natAbs ≤ h.2.natAbs := by
  have hd : 0 < v.2.natAbs := by omega
  unfold pot at hP
  rw [Int.natAbs_mul, Int.natAbs_mul, Int.natAbs_tdiv]
  have h1 := Nat.div_mul_le_self h.2.natAbs v.2.natAbs
  have h2 := Nat.div_le_self h.2.natAbs v.2.natAbs
  refine ⟨?_, h2, h1⟩
  have h3 := Nat.mul_le_mul_right v.1.natAbs h2
  rw [Nat.mul_comm h.2.natAbs v.1.natAbs] at h3
  exact Nat.le_trans h3 (Nat.le_trans (Nat.le_add_left _ _) hP)
def lstep (s : Int × Int × Int) (v : Int × Int) : Int × Int × Int := ((Int.gcd s.1 (eu v.2.natAbs s.2 v).2.1 : Int), (eu v.2.natAbs s.2 v).1)
def lfold (l : List (Int × Int)) : Int × Int × Int := l.foldl lstep (0, 0, 0)
def lfin (s : Int × Int × Int) : Int × Int × Int := (s.1, (if s.2.2 < 0 then -s.2.1 else s.2.1) % s.1, if s.2.2 < 0 then -s.2.2 else s.2.2)
theorem lfold_snoc (l : List (Int × Int)) (v : Int × Int) : lfold (l ++ [v]) = lstep (lfold l) v := by simp [lfold]
def smallV (n : Nat) (v : Int × Int) : Prop := v.1.natAbs ≤ n ∧ v.2.natAbs ≤ n
def lsmall (l : List (Int × Int)) : Prop := (∀ v ∈ l, smallV 1000000 v) ∧ ∀ k, smallV 1000000 (lfold (l.take k)).2 ∧ (lfold (l.take k)).1.natAbs ≤ 1000000
abbrev bV (v : Int × Int) : Ck := .box [.v (.int .i64 v.1), .v (.int .i64 v.2)]
/-! the reference's -/
def lstepS (s : Int × Int × Int) (v : Int × Int) : Int × Int × Int :=
  ((Int.gcd s.1 (eu v.2.natAbs s.2 v).2.1 : Int), if (0 : Int) < Int.gcd s.1 (eu v.2.natAbs s.2 v).2.1 then (eu v.2.natAbs s.2 v).1.1 % (Int.gcd s.1 (eu v.2.natAbs s.2 v).2.1 : Int) else (eu v.2.natAbs s.2 v).1.1, (eu v.2.natAbs s.2 v).1.2)
def lfoldS (l : List (Int × Int)) : Int × Int × Int := l.foldl lstepS (0, 0, 0)
theorem lfoldS_snoc (l : List (Int × Int)) (v : Int × Int) : lfoldS (l ++ [v]) = lstepS (lfoldS l) v := by simp [lfoldS]
def lsmallS (l : List (Int × Int)) : Prop := (∀ v ∈ l, smallV 1000000 v) ∧ ∀ k, smallV 1000000 (lfoldS (l.take k)).2 ∧ (lfoldS (l.take k)).1.natAbs ≤ 1000000
theorem s_hermite (l : List (Int × Int)) (hl : l.length ≤ 1048576) (hs : lsmallS l) (h0 : 0 < (lfoldS l).1) : Sp Try.prog 85 [.v (vvs l)] (aL (lfin (lfoldS l)).1 (lfin (lfoldS l)).2.1 (lfin (lfoldS l)).2.2) [] := by
  refine sp_of (m := no) mixed Try.func85 k85 ?_
  simp -dsimp [q]
  refine awp_it (true :: false :: true :: true :: true :: true :: []) (fun i : Nat => [(4, vi (lfoldS (l.take i)).1), (5, vi i)]) (fun i => [(1, bV (lfoldS (l.take i)).2)]) (fun i => i ≤ l.length) (fun i => l.length - i) 0 ?_
  intro s0 e
  simp -dsimp at e
  subst e
  refine ⟨?_, ?_⟩
  · simp [lfoldS]
  intro i hi
  simp -dsimp
  refine ⟨fun h1 => ⟨h1, fun vx vy hv => ?_⟩, fun h1 => ?_⟩
  · obtain ⟨hsv, hsl⟩ := hs
    obtain ⟨v, rfl, rfl⟩ : ∃ v : Int × Int, vx = v.1 ∧ vy = v.2 := ⟨(vx, vy), rfl, rfl⟩
    obtain ⟨b1, b2⟩ := hsv v (List.mem_of_getElem? hv)
    obtain ⟨⟨b3, b4⟩, b5⟩ := hsl i
    have hst : lfoldS (l.take (i + 1)) = lstepS (lfoldS (l.take i)) v := by rw [List.take_add_one, hv]; exact lfoldS_snoc _ _
    obtain ⟨⟨b6, b7⟩, b8⟩ := hsl (i + 1)
    rw [hst] at b6 b7 b8
    generalize lfoldS (l.take i) = s at *
    have hP : pot s.2 v ≤ 2000000000000 := by
      have h1 := Nat.mul_le_mul b3 b2
      have h2 := Nat.mul_le_mul b1 b4
      unfold pot
      omega
    refine awp_it (true :: false :: true :: true :: true :: true :: true :: []) (fun _ : (Int × Int) × (Int × Int) => []) (fun t => [(1, bV t.1), (2, bV t.2)]) (fun t => eu t.2.2.natAbs t.1 t.2 = eu v.2.natAbs s.2 v ∧ pot t.1 t.2 ≤ 2000000000000 ∧ (t.1.1.natAbs ≤ 2000000000000 ∧ t.1.2.natAbs ≤ 1000000) ∧ t.2.1.natAbs ≤ 2000000000000 ∧ t.2.2.natAbs ≤ 1000000) (fun t => t.2.2.natAbs) (s.2, v) ?_
    intro s0 e
    simp -dsimp at e
    subst e
    refine ⟨?_, ?_⟩
    · simp
      omega
    rintro ⟨h, u⟩ ⟨c1, c2, ⟨c3, c4⟩, c5, c6⟩
    simp -dsimp
    refine ⟨fun hu => ?_, fun hu => ?_⟩
    · have e1 := eu_small c2 hu
      have e2 := pot_step (h := h) (v := u)
      have e3 := Int.tmod_add_mul_tdiv h.2 u.2
      have e4 := tmod_abs h.2 hu
      have e5 := eu_step (h := h) hu
      simp only at e1 c1 c2 c3 c4 c5 c6
      rw [Int.mul_comm] at e3
      have e6 : (h.1 - h.2.tdiv u.2 * u.1).natAbs * u.2.natAbs ≤ 2000000000000 := by
        have := Nat.le_trans e2 c2
        unfold pot at this
        exact Nat.le_trans (Nat.le_add_left _ _) this
      have e7 := Nat.le_mul_of_pos_right (h.1 - h.2.tdiv u.2 * u.1).natAbs (show 0 < u.2.natAbs by omega)
      rw [w64 (n := h.2.tdiv u.2) (by omega) (by omega), w64 (n := h.2.tdiv u.2 * u.1) (by omega) (by omega), w64 (n := h.2.tdiv u.2 * u.2) (by omega) (by omega)]
      refine ⟨hu, u.1, u.2, h.1 - h.2.tdiv u.2 * u.1, h.2.tmod u.2, ⟨⟨rfl, rfl⟩, ?_, ?_⟩, ⟨by rw [← c1, e5], Nat.le_trans e2 c2, ⟨c5, c6⟩, by omega, by omega⟩, e4⟩
      · rw [w64 (by omega) (by omega)]
      · rw [w64 (by omega) (by omega)]; omega
    · simp only at c1 c2 c3 c4 c5 c6
      rw [eu_zero hu] at c1
      have wg := s_sgcd _ s.1 u.1 (Nat.le_refl _) (by omega) (by omega)
      have e8 : lstepS s v = ((Int.gcd s.1 u.1 : Int), if (0 : Int) < Int.gcd s.1 u.1 then h.1 % (Int.gcd s.1 u.1 : Int) else h.1, h.2) := by simp only [lstepS, ← c1]
      generalize (Int.gcd s.1 u.1 : Int) = g at wg e8
      rw [e8] at hst b6 b7 b8
      simp only at b8
      refine call_of (wg) rfl (by simp) ?_
      try simp -dsimp
      try (first | exact fp_one (by decide) | refine fp_and (by decide) ?_)
      by_cases hg : 0 < g
      · rw [if_pos hg] at hst
        refine br_l hg (by omega) ?_
        refine call_of (s_smod _ _ (by omega)) rfl (by simp) ?_
        try simp -dsimp
        try (first | exact fp_one (by decide) | refine fp_and (by decide) ?_)
        refine ⟨i + 1, ⟨⟨by rw [hst], by rw [w64 (by omega) (by omega)]; simp⟩, by rw [hst], by rw [hst]⟩, by omega, by omega⟩
      · rw [if_neg hg] at hst
        refine br_r hg (by omega) ?_
        refine ⟨i + 1, ⟨⟨by rw [hst], by rw [w64 (by omega) (by omega)]; simp⟩, by rw [hst], by rw [hst]⟩, by omega, by omega⟩
  · have e := hs.2 l.length
    rw [List.take_length] at e
    rw [List.take_of_length_le h1]
    obtain ⟨⟨b1, b2⟩, b3⟩ := e
    generalize lfoldS l = s at *
    unfold lfin
    by_cases hn : s.2.2 < 0
    · rw [if_pos hn, if_pos hn]
      refine br_l hn (by omega) ?_
      refine call_of (s_scale _ _ _ (by omega) (by omega) (by decide)) rfl (by simp) ?_
      try simp -dsimp
      try (first | exact fp_one (by decide) | refine fp_and (by decide) ?_)
      refine br_l h0 (by omega) ?_
      refine call_of (s_smod _ _ (by omega)) rfl (by simp) ?_
      try simp -dsimp
      try (first | exact fp_one (by decide) | refine fp_and (by decide) ?_)
    · rw [if_neg hn, if_neg hn]
      refine br_r hn (by omega) ?_
      refine br_l h0 (by omega) ?_
      refine call_of (s_smod _ _ (by omega)) rfl (by simp) ?_
      try simp -dsimp
      try (first | exact fp_one (by decide) | refine fp_and (by decide) ?_)
end Go.Proofs.YtgkhakhkebjbpaaEv
