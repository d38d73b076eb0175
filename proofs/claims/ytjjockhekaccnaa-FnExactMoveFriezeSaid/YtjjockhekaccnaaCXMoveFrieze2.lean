/- What the code computes, and what it means: part 2 of the proof of FnExactMoveFrieze. No condition of its own. -/
import Derived.Test.YtjjockhekaccnaaProg
import Derived.Deep.Slices
import Derived.WalkKit
import Derived.OpenShut
import Derived.ShutString
import Derived.ChangeOld
import Derived.SizedLaws
import Derived.Test.YtjjockhekaccnaaCXMoveFrieze1
namespace Go.Proofs.YtjjockhekaccnaaEv
open Go

section
variable {P : Program} {s : St} {a : Act} {w : World} {w0 : World} {O0 S0 : Nat → Prop} {D0 D D' : Nat → Option Ck} {μ0 μ : Nat → Nat × Nat} {S : Nat → Prop} {L : List Nat}

def vD (D : Nat → Option Ck) (L : List Nat) : Nat → Option Ck := fun j => (L[j]?).map fun i => ((D i).getD .gone).rn L
def vM (μ : Nat → Nat × Nat) (L : List Nat) : Nat → Nat × Nat := fun j => μ (L.getD j 0)
theorem vM_at {i j : Nat} (h : posL i L = some j) : vM μ L j = μ i := by
  simp [vM, List.getD_eq_getElem?_getD, posL_spec h]
theorem vD_at {i j : Nat} {c : Ck} (h : posL i L = some j) (hc : D i = some c) : vD D L j = some (c.rn L) := by
  simp [vD, posL_spec h, hc]
mutual
theorem AR.view : ∀ (b : A) (u : Value), AR D μ S w b u → AR (vD D L) (vM μ L) S w (b.rn L) u
  | .sli i, u, h => by
    simp only [A.rn]
    split
    · rename_i j hj
      unfold AR at h ⊢
      refine ⟨h.1, ?_⟩
      cases hd : D i with
      | none => rw [hd] at h; exact h.2.elim
      | some c =>
        rw [hd] at h
        rw [vD_at hj hd, vM_at hj]
        cases c <;> first | exact h.2 | exact h.2.elim
    · trivial
  | .ptr i o, u, h => by
    simp only [A.rn]
    split
    · rename_i j hj
      obtain ⟨⟨c, hc⟩, h2⟩ := h
      exact ⟨⟨_, vD_at hj hc⟩, by rw [vM_at hj]; exact h2⟩
    · trivial
  | .ep i e k o, u, h => by
    simp only [A.rn]
    split
    · rename_i j hj
      obtain ⟨⟨c, hc⟩, h2⟩ := h
      exact ⟨⟨_, vD_at hj hc⟩, by rw [vM_at hj]; exact h2⟩
    · trivial
  | .ag cs, u, h => by
    obtain ⟨us, h1, h2, h3⟩ := h
    exact ⟨us, h1, ARs.view cs us h2, h3⟩
  | .tu cs, u, h => by
    obtain ⟨us, h1, h2⟩ := h
    exact ⟨us, h1, ARs.view cs us h2⟩
  | .fn f cs, u, h => by
    simp only [A.rn]
    split
    · rename_i hs
      obtain ⟨us, h1, h2⟩ := h
      exact ⟨us, h1, ARs.shut (fun _ h => h) hs h2⟩
    · trivial
  | .un, _, h | .ud, _, h | .v _, _, h | .nil _, _, h | .fp _ _, _, h | .fq _, _, h => h
theorem ARs.view : ∀ (bs : List A) (us : List Value), ARs D μ S w bs us → ARs (vD D L) (vM μ L) S w (rns L bs) us
  | [], us, h => h
  | b :: bs, us, ⟨u, us', h1, h2, h3⟩ => ⟨u, us', h1, AR.view b u h2, ARs.view bs us' h3⟩
end
theorem vD_some {j : Nat} {c : Ck} (h : vD D L j = some c) (hl : c.live = true) : ∃ i d, L[j]? = some i ∧ D i = some d ∧ d.live = true ∧ c = d.rn L ∧ vM μ L j = μ i := by
  simp only [vD, Option.map_eq_some_iff] at h
  obtain ⟨i, h1, rfl⟩ := h
  cases hd : D i with
  | none => rw [hd] at hl; cases hl
  | some d =>
    rw [hd] at hl
    refine ⟨i, d, h1, hd, ?_, rfl, by simp [vM, List.getD_eq_getElem?_getD, h1]⟩
    cases d <;> first | exact hl | rfl
theorem Rl.view (R : Rl w0 O0 S0 D μ S w) (hn : L.Nodup) : Rl w0 O0 S0 (vD D L) (vM μ L) S w := by
  refine ⟨R.os, R.tape, R.output, R.size, R.keep, R.sub, R.new, R.lt, fun j => ?_, fun j c hc hl => ?_, fun i j c d hc hd hcl hdl he => ?_⟩
  · cases hj : L[j]? with
    | none => unfold CR; simp [vD, hj]
    | some i =>
      have hm : vM μ L j = μ i := by simp [vM, List.getD_eq_getElem?_getD, hj]
      have hp := posL_get hn hj
      have h1 := R.ck i
      cases hd : D i with
      | none => unfold CR; simp [vD, hj, hd, Ck.rn]
      | some c =>
        unfold CR at h1 ⊢
        rw [vD_at hp hd, hm]
        rw [hd] at h1
        cases c <;> first | exact h1 | skip
        obtain ⟨cur, t, g1, g2, g3⟩ := h1
        exact ⟨cur, t, g1, ARs.view _ _ g2, g3⟩
  · obtain ⟨i, d, h1, h2, h3, _, h5⟩ := vD_some (μ := μ) hc hl
    rw [h5]
    exact R.own i d h2 h3
  · obtain ⟨i', c', h1, h2, h3, _, h5⟩ := vD_some (μ := μ) hc hcl
    obtain ⟨j', d', k1, k2, k3, _, k5⟩ := vD_some (μ := μ) hd hdl
    rw [h5, k5] at he
    have := R.inj i' j' c' d' h2 k2 h3 k3 he
    subst this
    have e1 := posL_get hn h1
    have e2 := posL_get hn k1
    rw [e1] at e2
    cases e2; rfl
theorem Tr.view (T : Tr D0 μ0 S0 w0 D μ S w) (hn : L.Nodup) (hk : ∀ i c, D0 i = some c → L[i]? = some i) : Tr D0 μ0 S0 w0 (vD D L) (vM μ L) S w := by
  refine ⟨T.sub, T.heap, fun i u hu => ?_, fun i c hc => ?_⟩
  · cases hd : D0 i with
    | none => unfold AR at hu; rw [hd] at hu; exact hu.2.elim
    | some c =>
      have hp := posL_get hn (hk i c hd)
      have := AR.view (L := L) _ _ (T.sli i u hu)
      simp only [A.rn, hp] at this
      exact this
  · have hp := posL_get hn (hk i c hc)
    obtain ⟨h1, c', h2⟩ := T.ptr i c hc
    exact ⟨by rw [vM_at hp]; exact h1, _, vD_at hp h2⟩

theorem addI_ok {i : Nat} {L : List Nat} (hn : L.Nodup) : (addI i L).Nodup ∧ ∃ M, addI i L = L ++ M := by
  unfold addI
  split
  · exact ⟨hn, [], by simp⟩
  · rename_i h
    refine ⟨?_, _, rfl⟩
    rw [List.nodup_append]
    refine ⟨hn, by simp, fun a ha b hb => ?_⟩
    simp only [List.mem_singleton] at hb
    subst hb
    exact fun e => h (by simpa using e ▸ ha)
theorem ok_trans {L L1 L2 : List Nat} (h1 : ∃ M, L1 = L ++ M) (h2 : ∃ M, L2 = L1 ++ M) : ∃ M, L2 = L ++ M := by
  obtain ⟨M, rfl⟩ := h1
  obtain ⟨M', rfl⟩ := h2
  exact ⟨M ++ M', by simp⟩
mutual
theorem idsA_ok : ∀ (b : A) {L : List Nat}, L.Nodup → (idsA b L).Nodup ∧ ∃ M, idsA b L = L ++ M
  | .sli i, _, hn | .ptr i _, _, hn | .ep i _ _ _, _, hn => addI_ok hn
  | .ag cs, _, hn | .tu cs, _, hn => idsAs_ok cs hn
  | .un, _, hn | .ud, _, hn | .v _, _, hn | .nil _, _, hn | .fp _ _, _, hn | .fq _, _, hn | .fn _ _, _, hn => ⟨hn, [], by simp [idsA]⟩
theorem idsAs_ok : ∀ (bs : List A) {L : List Nat}, L.Nodup → (idsAs bs L).Nodup ∧ ∃ M, idsAs bs L = L ++ M
  | [], _, hn => ⟨hn, [], by simp [idsAs]⟩
  | b :: bs, _, hn => by
    obtain ⟨h1, h2⟩ := idsA_ok b hn
    obtain ⟨h3, h4⟩ := idsAs_ok bs h1
    exact ⟨h3, ok_trans h2 h4⟩
end
theorem idsT_ok : ∀ (ks : List Bool) (t : List A) {L : List Nat}, L.Nodup → (idsT ks t L).Nodup ∧ ∃ M, idsT ks t L = L ++ M
  | _, [], _, hn => ⟨by simpa [idsT] using hn, [], by simp [idsT]⟩
  | [], _ :: _, _, hn => ⟨by simpa [idsT] using hn, [], by simp [idsT]⟩
  | k :: ks, b :: t, L, hn => by
    simp only [idsT]
    cases k
    · exact idsT_ok ks t hn
    · obtain ⟨h1, h2⟩ := idsA_ok b hn
      obtain ⟨h3, h4⟩ := idsT_ok ks t h1
      exact ⟨h3, ok_trans h2 h4⟩
theorem idsH_ok {h : List Ck} : ∀ (l : List Nat) {L : List Nat}, L.Nodup → (idsH h l L).Nodup ∧ ∃ M, idsH h l L = L ++ M
  | [], _, hn => ⟨hn, [], by simp [idsH]⟩
  | i :: l, L, hn => by
    simp only [idsH]
    split
    · obtain ⟨h1, h2⟩ := idsAs_ok _ hn
      obtain ⟨h3, h4⟩ := idsH_ok (h := h) l h1
      exact ⟨h3, ok_trans h2 h4⟩
    · exact idsH_ok l hn
theorem upTo_ok : ∀ (n : Nat), (upTo n).length = n ∧ (upTo n).Nodup ∧ ∀ i, i < n → (upTo n)[i]? = some i
  | 0 => by simp [upTo]
  | n + 1 => by
    obtain ⟨h1, h2, h3⟩ := upTo_ok n
    have hlt : ∀ i ∈ upTo n, i < n := fun i hi => by
      obtain ⟨j, hj⟩ := List.getElem?_of_mem hi
      have hjn : j < n := by have := (List.getElem?_eq_some_iff.1 hj).1; omega
      rw [h3 j hjn] at hj
      cases hj; exact hjn
    refine ⟨by simp [upTo, h1], ?_, fun i hi => ?_⟩
    · simp only [upTo]
      rw [List.nodup_append]
      refine ⟨h2, by simp, fun a ha b hb => ?_⟩
      simp only [List.mem_singleton] at hb
      subst hb
      have := hlt a ha
      omega
    · simp only [upTo]
      by_cases hin : i < n
      · rw [List.getElem?_append_left (by omega)]; exact h3 i hin
      · rw [List.getElem?_append_right (by omega), h1, show i - n = 0 by omega]
        simp; omega
theorem cmpT_get : ∀ (ks : List Bool) (t : List A) (k : Nat), (cmpT L ks t)[k]? = (t[k]?).map fun a => if ks.getD k false = true then a.rn L else .un
  | _, [], k => by simp [cmpT]
  | [], b :: t, 0 => by simp [cmpT]
  | [], b :: t, k + 1 => by
    simp only [cmpT, List.getElem?_cons_succ]
    rw [cmpT_get [] t k]
    simp
  | b' :: ks, b :: t, 0 => by cases b' <;> simp [cmpT, rnB]
  | b' :: ks, b :: t, k + 1 => by
    simp only [cmpT, List.getElem?_cons_succ]
    rw [cmpT_get ks t k]
    simp
theorem cmpT_len : ∀ (ks : List Bool) (t : List A), (cmpT L ks t).length = t.length
  | _, [] => by simp [cmpT]
  | [], b :: t => by simp [cmpT, cmpT_len [] t]
  | b' :: ks, b :: t => by simp [cmpT, cmpT_len ks t]

theorem Ok.cmp {k0 : Nat} (h0 : ∀ i c, D0 i = some c → i < k0) (ks : List Bool) (h : Ok w0 O0 S0 D0 μ0 s a w) : Ok w0 O0 S0 D0 μ0 (s.cmp k0 ks) a w := by
  obtain ⟨μ, S, R, T, h1, h2, h3⟩ := h
  obtain ⟨u1, u2, u3⟩ := upTo_ok k0
  obtain ⟨g1, M1, e1⟩ := idsT_ok ks s.t u2
  obtain ⟨g2, M2, e2⟩ := idsH_ok (h := s.h) (idsT ks s.t (upTo k0)) g1
  obtain ⟨g3, M3, e3⟩ := idsH_ok (h := s.h) (idsH2 s.h (idsT ks s.t (upTo k0))) g2
  unfold St.cmp
  generalize hL : idsH2 s.h (idsH2 s.h (idsT ks s.t (upTo k0))) = L
  have hn : L.Nodup := by rw [← hL]; exact g3
  have hk : ∀ i c, D0 i = some c → L[i]? = some i := fun i c hc => by
    have hi := h0 i c hc
    have : L = upTo k0 ++ (M1 ++ M2 ++ M3) := by
      rw [← hL, show idsH2 s.h (idsH2 s.h (idsT ks s.t (upTo k0))) = idsH2 s.h (idsT ks s.t (upTo k0)) ++ M3 from e3, show idsH2 s.h (idsT ks s.t (upTo k0)) = idsT ks s.t (upTo k0) ++ M2 from e2, e1]
      simp
    rw [this, List.getElem?_append_left (by omega)]
    exact u3 i hi
  have hD : (cmpL ks s L).D = vD s.D L := by
    funext j
    simp only [St.D, cmpL, vD, List.getElem?_map]
    cases L[j]? <;> simp [List.getD_eq_getElem?_getD]
  refine ⟨vM μ L, S, by rw [hD]; exact R.view hn, by rw [hD]; exact T.view hn hk, ?_, fun i => ?_, h3⟩
  · simp [cmpL, cmpT_len, h1]
  · rw [hD]
    have := h2 i
    simp only [cmpL, List.getD_eq_getElem?_getD, cmpT_get] at this ⊢
    cases hi : s.t[i]? with
    | none => simp only [hi, Option.map_none, Option.getD_none]; trivial
    | some b =>
      simp only [hi, Option.map_some, Option.getD_some] at this ⊢
      split
      · exact AR.view _ _ this
      · trivial
end
end Go.Proofs.YtjjockhekaccnaaEv
namespace Go.Proofs.YtjjockhekaccnaaEv
open Go

section
variable {P : Program} {m : Nat → Bool} {s : St} {a : Act} {w : World} {w0 : World} {O0 S0 : Nat → Prop} {D0 : Nat → Option Ck} {μ0 : Nat → Nat × Nat}

theorem wp_loopN {c : Code} {Q : Exit → Act → World → Prop} (J : Nat → Act → World → Prop) {n : Nat} (h₀ : J n a w) (round : ∀ n a w, J n a w → c.wp P (Exit.then (fun a' w' => ∃ m, m < n ∧ J m a' w') Q) a w) : (Code.loop c).wp P Q a w := by
  intro b k cs
  have key : ∀ n a w, J n a w → ∃ e a' w', Q e a' w' ∧ Arrives P (lone (b.at a (.code c :: .inLoop c :: k)) cs w) b k cs e a' w' := by
    intro n
    induction n using Nat.strongRecOn with
    | _ n ih =>
      intro a w hI
      obtain ⟨e, a₁, w₁, hq, harr⟩ := round n a w hI b (.inLoop c :: k) cs
      cases e with
      | normal =>
        obtain ⟨m, hlt, hI₁⟩ := hq
        obtain ⟨e₂, a₂, w₂, hq₂, harr₂⟩ := ih m hlt a₁ w₁ hI₁
        exact ⟨e₂, a₂, w₂, hq₂, .of_steps (Steps.trans harr (.one step_inLoop)) harr₂⟩
      | exit id => exact ⟨_, a₁, w₁, hq, .pass (x := .inLoop c) rfl (fun _ _ => .inl (by simp)) harr⟩
      | goto l => exact ⟨_, a₁, w₁, hq, .pass (x := .inLoop c) rfl (fun _ _ => .inl (by simp)) harr⟩
      | ret => exact ⟨_, a₁, w₁, hq, .pass (x := .inLoop c) rfl (fun _ _ => .inl (by simp)) harr⟩
      | panic ch => exact ⟨_, a₁, w₁, hq, .pass (x := .inLoop c) rfl (fun _ _ => .inl (by simp)) harr⟩
      | outgrown => exact ⟨_, a₁, w₁, hq, .pass (x := .inLoop c) rfl (fun _ _ => .inl (by simp)) harr⟩
  obtain ⟨e, a', w', hq, harr⟩ := key n a w h₀
  exact ⟨e, a', w', hq, .of_steps (.one step_loop) harr⟩
theorem awp_sound {k0 : Nat} (hk0 : ∀ i c, D0 i = some c → i < k0) (hm : P.follows .mixedOrders = true) : ∀ (c : Code) (ac : AC) (s : St) (a : Act) (w : World) (Q : Ex → St → Prop), cC P c = some ac → awp P m k0 ac Q s → Ok w0 O0 S0 D0 μ0 s a w → c.wp P (Post w0 O0 S0 D0 μ0 Q) a w := by
  intro c
  induction c with
  | skip => intro ac s a w Q hc h hok; simp only [cC, Option.some.injEq] at hc; subst hc; exact wp_skip ⟨.nrm, s, rfl, h, hok⟩
  | region id ops draw =>
    intro ac s a w Q hc h hok
    simp only [cC] at hc
    split at hc
    · rename_i os h1
      cases draw with
      | true =>
        simp only [if_true] at hc
        split at hc
        · rename_i hreg; cases hc; exact reg_sound hm hreg h1 h hok
        · cases hc
      | false =>
        simp only [Bool.false_eq_true, if_false] at hc
        cases hc
        refine wp_region ?_
        rw [List.range_eq_range']
        have := aops_seq (Q := Post w0 O0 S0 D0 μ0 Q) ops.toList os 0 s [] a w _ h1 (fun j => by simp) h hok (fun s' f' a' w' hK h4 => ⟨.nrm, s', rfl, hK, h4⟩)
        simpa using this
    · cases hc
  | seq x y ihx ihy =>
    intro ac s a w Q hc h hok
    simp only [cC] at hc
    split at hc
    · rename_i ax ay h1 h2
      cases hc
      refine wp_seq (wp_mono (ihx ax s a w _ h1 h hok) ?_)
      rintro e a' w' ⟨x', s', rfl, hq, hok'⟩
      cases x' with
      | nrm => exact ihy ay s' a' w' Q h2 hq hok'
      | exit id => exact ⟨.exit id, s', rfl, hq, hok'⟩
      | ret => exact ⟨.ret, s', rfl, hq, hok'⟩
    · cases hc
  | cond c x y ihx ihy =>
    intro ac s a w Q hc h hok
    simp only [cC] at hc
    split at hc
    · rename_i c' ax ay h0 h1 h2
      cases hc
      simp only [awp] at h
      split at h
      · rename_i t ht
        have hval : a.eval c = .bool t := by
          obtain ⟨μ, S, _, _, _, h5, _⟩ := hok
          have : AR s.D μ S w (s.x c') (a.eval c) := cX_ar (xs := #[c]) h0 (fun x _ i _ => h5 i) (by simp)
          rw [ht] at this
          exact this
        have tell : ∀ b, t = b → Ok w0 O0 S0 D0 μ0 (s.setX c' (.v (.bool b))) a w := by
          rintro b rfl
          cases c' with
          | c _ => exact hok
          | t i =>
            refine hok.tell i _ (fun μ S h5 => ?_)
            rw [show s.t.getD i .un = .v (.bool t) from ht] at h5
            exact h5
        refine wp_cond_split hval (fun hb => ?_) (fun hb => ?_)
        · exact ihx ax _ a w Q h1 (h.1 hb) (tell true hb)
        · exact ihy ay _ a w Q h2 (h.2 hb) (tell false hb)
      · exact h.elim
    · cases hc
  | block id b ih =>
    intro ac s a w Q hc h hok
    simp only [cC, Option.map_eq_some_iff] at hc
    obtain ⟨ab, h1, rfl⟩ := hc
    refine wp_block (wp_mono (ih ab s a w _ h1 h hok) ?_)
    rintro e a' w' ⟨x', s', rfl, hq, hok'⟩
    cases x' with
    | nrm => exact ⟨.nrm, s', rfl, hq, hok'⟩
    | exit i =>
      simp only [Ex.go, Exit.inBlock]
      simp only at hq
      split
      · rename_i hi
        rw [if_pos hi] at hq
        exact ⟨.nrm, s', rfl, hq, hok'⟩
      · rename_i hi
        rw [if_neg hi] at hq
        exact ⟨.exit i, s', rfl, hq, hok'⟩
    | ret => exact ⟨.ret, s', rfl, hq, hok'⟩
  | loop b ih =>
    intro ac s a w Q hc h hok
    simp only [cC, Option.map_eq_some_iff] at hc
    obtain ⟨ab, h1, rfl⟩ := hc
    obtain ⟨I, ks, ⟨n0, hn0⟩, hround⟩ := h
    refine wp_loopN (fun n a w => ∃ s, I n s ∧ Ok w0 O0 S0 D0 μ0 s a w) (n := n0) ⟨s.cmp k0 ks, hn0, hok.cmp hk0 ks⟩ (fun n a w hJ => ?_)
    obtain ⟨s', hI, hok'⟩ := hJ
    refine wp_mono (ih ab s' a w _ h1 (hround _ s' hI) hok') ?_
    rintro e a' w' ⟨x', s'', rfl, hq, hok''⟩
    cases x' with
    | nrm =>
      obtain ⟨k, hk, hIk⟩ := hq
      exact ⟨k, hk, s''.cmp k0 ks, hIk, hok''.cmp hk0 ks⟩
    | exit i => exact ⟨.exit i, s'', rfl, hq, hok''⟩
    | ret => exact ⟨.ret, s'', rfl, hq, hok''⟩
  | exit id => intro ac s a w Q hc h hok; simp only [cC, Option.some.injEq] at hc; subst hc; exact wp_exit ⟨.exit id, s, rfl, h, hok⟩
  | ret => intro ac s a w Q hc h hok; simp only [cC, Option.some.injEq] at hc; subst hc; exact wp_ret ⟨.ret, s, rfl, h, hok⟩
  | _ => intro ac s a w Q hc; simp [cC] at hc

/-! ### a call of a function -/
variable {D : Nat → Option Ck} {μ : Nat → Nat × Nat} {S : Nat → Prop}
theorem run_res {rs : ResultVar} {q : Nat × Option Nat} {b : A} (hq : cRs P [rs] = some [q]) (hb : resA s q = some b) (R : Rl w0 O0 S0 s.D μ S w) (hA : ∀ i, AR s.D μ S w (s.t.getD i .un) (a.tmps.getD i undef)) :
    ∃ u, (match rs with | .tmp t => (Pure.pure (a.tmps.getD t undef) : Sem Value) | .cell q t => do loadVar t (← asAddr (a.tmps.getD q undef))).run P w = .ok u w ∧ AR s.D μ S w b u := by
  cases rs with
  | tmp t =>
    simp only [cRs, Option.map_some, Option.some.injEq, List.cons.injEq, and_true] at hq
    subst hq
    simp only [resA, Option.some.injEq] at hb
    subst hb
    exact ⟨_, rfl, hA t⟩
  | cell q' t =>
    simp only [cRs] at hq
    split at hq
    · rename_i k l hk hl
      simp only [Option.some.injEq] at hl
      subst hl
      simp only [Option.some.injEq, List.cons.injEq, and_true] at hq
      subst hq
      simp only [resA] at hb
      have h1 := hA q'
      split at hb
      · rename_i c off hx
        rw [hx] at h1
        split at hb
        · rename_i cs hc
          have h2 := R.ck c
          unfold CR at h2
          rw [show s.D c = some (.box cs) from hc] at h2
          obtain ⟨cur, t', g1, g2, g3⟩ := h2
          split at hb
          · rename_i hk0
            subst hk0
            obtain ⟨u, g4, g5⟩ := g2.get hb
            have hl : off < cur.toList.length := (List.getElem?_eq_some_iff.1 g4).1
            obtain ⟨v, g6, g7⟩ := (load_part (off := off) hk (row_cells g1) (by rw [show cz 0 = 1 from rfl]; omega)).2 rfl
            rw [g4] at g6
            cases g6
            refine ⟨u, ?_, g5⟩
            simp only [Instr.loadAt, Instr.sureAddr] at g7
            simpa [h1.2, asAddr] using g7
          · rename_i hk0
            split at hb
            · rename_i hl
              cases hb
              have g6 := (load_part (off := off) hk (row_cells g1) (by rw [g2.length, show cz k = k by simp [cz, hk0]]; omega)).1 hk0
              refine ⟨_, ?_, g2.part g3⟩
              simp only [Instr.loadAt, Instr.sureAddr] at g6
              simpa [h1.2, asAddr] using g6
            · cases hb
        · cases hb
      · cases hb
    · cases hq

def resRun (tmps : Array Value) : ResultVar → Sem Value
  | .tmp t => Pure.pure (tmps.getD t undef)
  | .cell q t => do loadVar t (← asAddr (tmps.getD q undef))
theorem run_ress (R : Rl w0 O0 S0 s.D μ S w) (hA : ∀ i, AR s.D μ S w (s.t.getD i .un) (a.tmps.getD i undef)) : ∀ {l : List ResultVar} {qs : List (Nat × Option Nat)} {az : List A}, cRs P l = some qs → resAs s qs = some az →
    ∃ us, (l.mapM (resRun a.tmps)).run P w = .ok us w ∧ ARs s.D μ S w az us
  | [], qs, az, h1, h2 => by
    simp only [cRs, Option.some.injEq] at h1
    subst h1
    simp only [resAs, Option.some.injEq] at h2
    subst h2
    exact ⟨[], rfl, rfl⟩
  | r :: l, qs, az, h1, h2 => by
    have split1 : ∃ q qs', qs = q :: qs' ∧ cRs P [r] = some [q] ∧ cRs P l = some qs' := by
      cases r with
      | tmp t =>
        simp only [cRs, Option.map_eq_some_iff] at h1
        obtain ⟨qs', h3, rfl⟩ := h1
        exact ⟨_, qs', rfl, rfl, h3⟩
      | cell q' t =>
        simp only [cRs] at h1
        split at h1
        · rename_i k l' h3 h4
          cases h1
          exact ⟨_, l', rfl, by simp [cRs, h3], h4⟩
        · cases h1
    obtain ⟨q, qs', rfl, h3, h4⟩ := split1
    simp only [resAs] at h2
    split at h2
    · rename_i b bs h5 h6
      cases h2
      obtain ⟨u, h7, h8⟩ := run_res h3 h5 R hA
      obtain ⟨us, h9, h10⟩ := run_ress R hA h4 h6
      have h7' : (resRun a.tmps r).run P w = .ok u w := by cases r <;> exact h7
      exact ⟨u :: us, by simp [List.mapM_cons, h7', h9], u, us, rfl, h8, h10⟩
    · cases h2

/-- What nobody writes any more when the call comes back. -/
def left (S : Nat → Prop) (D : Nat → Option Ck) (μ : Nat → Nat × Nat) (sel : List Nat) : Nat → Prop := fun b => S b ∨ ∃ i c, D i = some c ∧ c.live = true ∧ sel.contains i = false ∧ b = (μ i).1
mutual
theorem retV_ar (R : Rl w0 O0 S0 s.D μ S w) {sel : List Nat} : ∀ (b : A) (x : V) (u : Value), retV s.h sel b = some x → AR s.D μ S w b u → Rep (left S s.D μ sel) w x u
  | .v x, y, u, h, k => by
    simp only [retV, Option.some.injEq] at h
    subst h
    exact Rep.mono (fun _ hb => .inl hb) (fun _ _ => rfl) _ _ k
  | .nil e, y, u, h, k => by
    simp only [retV, Option.some.injEq] at h
    subst h
    exact ⟨none, 0, k, Nat.le_refl _, Nat.zero_le _, trivial⟩
  | .sli i, y, u, h, k => by
    simp only [retV] at h
    split at h
    · cases h
    · rename_i ho
      split at h
      · rename_i e t xs hi
        cases h
        have h1 := k.sli_row hi
        have h2 := R.ck i
        unfold CR at h2
        rw [show s.D i = some (.row e t xs) from hi] at h2
        obtain ⟨cur, us, g1, g2, g3, g4, g5, g6⟩ := h2
        refine ⟨_, _, h1, g3, g4, RepR.toAt (.inr ⟨i, _, hi, rfl, by simpa using ho, rfl⟩) 0 (RepR.mono (fun _ hb => .inl hb) (fun _ _ => rfl) _ _ _ g5) (fun j z hz => ?_)⟩
        simp only [Nat.zero_mul, Nat.zero_add]
        exact row_cells g1 j z (by rw [← g6] at hz; exact take_get hz)
      · rename_i e xs hi
        cases h
        exact Rep.mono (fun _ hb => .inl hb) (fun _ _ => rfl) _ _ (k.sli_fz hi)
      · cases h
  | .ag cs, y, u, h, k => by
    simp only [retV, Option.map_eq_some_iff] at h
    obtain ⟨xs, h1, rfl⟩ := h
    obtain ⟨us, rfl, h2, h3⟩ := k
    exact ⟨us, rfl, retVs_ar R cs xs us h1 h2 h3⟩
  | .un, _, _, h, _ | .ud, _, _, h, _ | .ptr _ _, _, _, h, _ | .ep _ _ _ _, _, _, h, _ | .fp _ _, _, _, h, _ | .fq _, _, _, h, _ | .tu _, _, _, h, _ | .fn _ _, _, _, h, _ => by simp [retV] at h
theorem retVs_ar (R : Rl w0 O0 S0 s.D μ S w) {sel : List Nat} : ∀ (bs : List A) (xs : List V) (us : List Value), retVs s.h sel bs = some xs → ARs s.D μ S w bs us → (∀ z ∈ us, z.oneCell' = true) → RepL (left S s.D μ sel) w xs us
  | [], xs, us, h, k, _ => by simp only [retVs, Option.some.injEq] at h; subst h; exact k
  | b :: bs, xs, us, h, ⟨u, us', h1, h2, h3⟩, hz => by
    simp only [retVs] at h
    split at h
    · rename_i x ys h4 h5
      cases h
      subst h1
      have h6 := retV_ar R b x u h4 h2
      exact ⟨u, us', rfl, h6.notAg (hz u List.mem_cons_self), h6, retVs_ar R bs ys us' h5 h3 (fun z hz' => hz z (List.mem_cons_of_mem _ hz'))⟩
    · cases h
end
/-- The chunks that are handed over. -/
def selD (h : List Ck) (sel : List Nat) : Nat → Option Ck := fun j => (sel.map fun i => h.getD i .gone)[j]?
def selM (μ : Nat → Nat × Nat) (sel : List Nat) : Nat → Nat × Nat := fun j => μ (sel.getD j 0)
mutual
theorem okR_ar (R : Rl w0 O0 S0 s.D μ S w) {sel : List Nat} (hm : (sel.map fun i => s.h.getD i .gone).all Ck.okM = true) : ∀ (b r : A) (u : Value), okR s.h sel b r → AR s.D μ S w b u → AR (selD s.h sel) (selM μ sel) (left S s.D μ sel) w r u
  | .nil e, .nil e', u, h, k => k
  | .sli i, .sli j, u, h, k => by
    have h1 : sel[j]? = some i := h
    have e2 : sel.getD j 0 = i := by simp [h1]
    have e1 : selD s.h sel j = some (s.h.getD i .gone) := by simp [selD, h1]
    have hok := List.all_eq_true.1 hm _ (List.mem_of_getElem? e1)
    unfold AR at k ⊢
    refine ⟨k.1, ?_⟩
    replace k := k.2
    rw [e1]
    simp only [selM, e2]
    cases hi : s.h[i]? with
    | none => rw [show s.D i = none from hi] at k; exact k.elim
    | some c =>
      have e3 : s.h.getD i .gone = c := by simp [hi]
      rw [e3] at hok ⊢
      rw [show s.D i = some c from hi] at k
      cases c <;> first | (cases hok; done) | exact k
  | .ag az, .ag rs, u, h, ⟨us, h1, h2, h3⟩ => ⟨us, h1, okRs_ar R hm az rs us h h2, h3⟩
  | a, .v x, u, h, k => by
    have : retV s.h sel a = some x := by cases a <;> exact h
    exact retV_ar R a x u this k
  | .un, .un, _, h, _ | .un, .ud, _, h, _ | .un, .nil _, _, h, _ | .un, .sli _, _, h, _ | .un, .ptr _ _, _, h, _ | .un, .ep _ _ _ _, _, h, _ | .un, .fp _ _, _, h, _ | .un, .fq _, _, h, _ | .un, .ag _, _, h, _ | .un, .tu _, _, h, _ | .un, .fn _ _, _, h, _ => by cases h
  | .ud, .un, _, h, _ | .ud, .ud, _, h, _ | .ud, .nil _, _, h, _ | .ud, .sli _, _, h, _ | .ud, .ptr _ _, _, h, _ | .ud, .ep _ _ _ _, _, h, _ | .ud, .fp _ _, _, h, _ | .ud, .fq _, _, h, _ | .ud, .ag _, _, h, _ | .ud, .tu _, _, h, _ | .ud, .fn _ _, _, h, _ => by cases h
  | .v _, .un, _, h, _ | .v _, .ud, _, h, _ | .v _, .nil _, _, h, _ | .v _, .sli _, _, h, _ | .v _, .ptr _ _, _, h, _ | .v _, .ep _ _ _ _, _, h, _ | .v _, .fp _ _, _, h, _ | .v _, .fq _, _, h, _ | .v _, .ag _, _, h, _ | .v _, .tu _, _, h, _ | .v _, .fn _ _, _, h, _ => by cases h
  | .nil _, .un, _, h, _ | .nil _, .ud, _, h, _ | .nil _, .sli _, _, h, _ | .nil _, .ptr _ _, _, h, _ | .nil _, .ep _ _ _ _, _, h, _ | .nil _, .fp _ _, _, h, _ | .nil _, .fq _, _, h, _ | .nil _, .ag _, _, h, _ | .nil _, .tu _, _, h, _ | .nil _, .fn _ _, _, h, _ => by cases h
  | .sli _, .un, _, h, _ | .sli _, .ud, _, h, _ | .sli _, .nil _, _, h, _ | .sli _, .ptr _ _, _, h, _ | .sli _, .ep _ _ _ _, _, h, _ | .sli _, .fp _ _, _, h, _ | .sli _, .fq _, _, h, _ | .sli _, .ag _, _, h, _ | .sli _, .tu _, _, h, _ | .sli _, .fn _ _, _, h, _ => by cases h
  | .ag _, .un, _, h, _ | .ag _, .ud, _, h, _ | .ag _, .nil _, _, h, _ | .ag _, .sli _, _, h, _ | .ag _, .ptr _ _, _, h, _ | .ag _, .ep _ _ _ _, _, h, _ | .ag _, .fp _ _, _, h, _ | .ag _, .fq _, _, h, _ | .ag _, .tu _, _, h, _ | .ag _, .fn _ _, _, h, _ => by cases h
  | .ptr _ _, .un, _, h, _ | .ptr _ _, .ud, _, h, _ | .ptr _ _, .nil _, _, h, _ | .ptr _ _, .sli _, _, h, _ | .ptr _ _, .ptr _ _, _, h, _ | .ptr _ _, .ep _ _ _ _, _, h, _ | .ptr _ _, .fp _ _, _, h, _ | .ptr _ _, .fq _, _, h, _ | .ptr _ _, .ag _, _, h, _ | .ptr _ _, .tu _, _, h, _ | .ptr _ _, .fn _ _, _, h, _ => by cases h
  | .ep _ _ _ _, .un, _, h, _ | .ep _ _ _ _, .ud, _, h, _ | .ep _ _ _ _, .nil _, _, h, _ | .ep _ _ _ _, .sli _, _, h, _ | .ep _ _ _ _, .ptr _ _, _, h, _ | .ep _ _ _ _, .ep _ _ _ _, _, h, _ | .ep _ _ _ _, .fp _ _, _, h, _ | .ep _ _ _ _, .fq _, _, h, _ | .ep _ _ _ _, .ag _, _, h, _ | .ep _ _ _ _, .tu _, _, h, _ | .ep _ _ _ _, .fn _ _, _, h, _ => by cases h
  | .fp _ _, .un, _, h, _ | .fp _ _, .ud, _, h, _ | .fp _ _, .nil _, _, h, _ | .fp _ _, .sli _, _, h, _ | .fp _ _, .ptr _ _, _, h, _ | .fp _ _, .ep _ _ _ _, _, h, _ | .fp _ _, .fp _ _, _, h, _ | .fp _ _, .fq _, _, h, _ | .fp _ _, .ag _, _, h, _ | .fp _ _, .tu _, _, h, _ | .fp _ _, .fn _ _, _, h, _ => by cases h
  | .fq _, .un, _, h, _ | .fq _, .ud, _, h, _ | .fq _, .nil _, _, h, _ | .fq _, .sli _, _, h, _ | .fq _, .ptr _ _, _, h, _ | .fq _, .ep _ _ _ _, _, h, _ | .fq _, .fp _ _, _, h, _ | .fq _, .fq _, _, h, _ | .fq _, .ag _, _, h, _ | .fq _, .tu _, _, h, _ | .fq _, .fn _ _, _, h, _ => by cases h
  | .tu _, .un, _, h, _ | .tu _, .ud, _, h, _ | .tu _, .nil _, _, h, _ | .tu _, .sli _, _, h, _ | .tu _, .ptr _ _, _, h, _ | .tu _, .ep _ _ _ _, _, h, _ | .tu _, .fp _ _, _, h, _ | .tu _, .fq _, _, h, _ | .tu _, .ag _, _, h, _ | .tu _, .tu _, _, h, _ | .tu _, .fn _ _, _, h, _ => by cases h
  | .fn _ _, .un, _, h, _ | .fn _ _, .ud, _, h, _ | .fn _ _, .nil _, _, h, _ | .fn _ _, .sli _, _, h, _ | .fn _ _, .ptr _ _, _, h, _ | .fn _ _, .ep _ _ _ _, _, h, _ | .fn _ _, .fp _ _, _, h, _ | .fn _ _, .fq _, _, h, _ | .fn _ _, .ag _, _, h, _ | .fn _ _, .tu _, _, h, _ | .fn _ _, .fn _ _, _, h, _ => by cases h
theorem okRs_ar (R : Rl w0 O0 S0 s.D μ S w) {sel : List Nat} (hm : (sel.map fun i => s.h.getD i .gone).all Ck.okM = true) : ∀ (bs rs : List A) (us : List Value), okRs s.h sel bs rs → ARs s.D μ S w bs us → ARs (selD s.h sel) (selM μ sel) (left S s.D μ sel) w rs us
  | [], [], _, _, k => k
  | b :: bs, r :: rs, _, h, ⟨u, us', h1, h2, h3⟩ => ⟨u, us', h1, okR_ar R hm b r u h.1 h2, okRs_ar R hm bs rs us' h.2 h3⟩
  | [], _ :: _, _, h, _ => by cases h
  | _ :: _, [], _, h, _ => by cases h
end
theorem Rl.sel (R : Rl w0 O0 S0 s.D μ S w) {sel : List Nat} (hn : sel.Nodup) (hm : (sel.map fun i => s.h.getD i .gone).all Ck.okM = true) : Rl w0 O0 S0 (selD s.h sel) (selM μ sel) (left S s.D μ sel) w := by
  have get : ∀ j c, selD s.h sel j = some c → c.live = true → ∃ i, sel[j]? = some i ∧ s.D i = some c ∧ selM μ sel j = μ i := by
    intro j c hj hl
    simp only [selD, List.getElem?_map, Option.map_eq_some_iff] at hj
    obtain ⟨i, hi, hc⟩ := hj
    refine ⟨i, hi, ?_, by simp [selM, hi]⟩
    cases hh : s.h[i]? with
    | none => simp [hh] at hc; subst hc; cases hl
    | some c' => simp [hh] at hc; subst hc; exact hh
  refine ⟨R.os, R.tape, R.output, R.size, R.keep, fun b hb => .inl (R.sub b hb), fun b hb => ?_, fun b hb => ?_, fun j => ?_, fun j c hc hl => ?_, fun j k c d hc hd hl hl' he => ?_⟩
  · rcases hb with hb | ⟨i, c, hc, hl, _, rfl⟩
    · exact R.new b hb
    · exact .inr ((R.own i c hc hl).2.2)
  · rcases hb with hb | ⟨i, c, hc, hl, _, rfl⟩
    · exact R.lt b hb
    · exact R.live_lt hc hl
  · cases hj : selD s.h sel j with
    | none => unfold CR; rw [hj]; trivial
    | some c =>
      have hok := List.all_eq_true.1 hm c (List.mem_of_getElem? hj)
      by_cases hl : c.live = true
      · obtain ⟨i, hi, h1, h2⟩ := get j c hj hl
        have h3 := okM_cr (D' := selD s.h sel) (μ' := selM μ sel) hok h1 hj h2 (R.ck i)
        exact h3.tr (D := selD s.h sel) (μ := selM μ sel) ⟨fun _ hb => .inl hb, fun _ _ => rfl, fun q u hu => by
          unfold AR at hu ⊢
          refine ⟨hu.1, ?_⟩
          replace hu := hu.2
          split at hu
          · exact hu
          · exact Rep.mono (fun _ hb => .inl hb) (fun _ _ => rfl) _ _ hu
          · trivial
          · exact hu.elim, fun q c h => ⟨rfl, c, h⟩⟩ rfl rfl (fun _ _ _ => rfl)
      · unfold CR
        rw [hj]
        cases c <;> first | trivial | (exact absurd rfl hl) | (cases hok)
  · obtain ⟨i, hi, h1, h2⟩ := get j c hc hl
    rw [h2]
    obtain ⟨q1, q2, q3⟩ := R.own i c h1 hl
    refine ⟨?_, q2, q3⟩
    rintro (hb | ⟨i', c', hc', hl', hne, he⟩)
    · exact q1 hb
    · have := R.inj i i' c c' h1 hc' hl hl' he
      subst this
      have := List.mem_of_getElem? hi
      simp at hne
      exact hne this
  · obtain ⟨i, hi, h1, h2⟩ := get j c hc hl
    obtain ⟨i', hi', h1', h2'⟩ := get k d hd hl'
    rw [h2, h2'] at he
    have := R.inj i i' c d h1 h1' hl hl' he
    subst this
    have e1 := posL_get hn hi
    rw [posL_get hn hi'] at e1
    exact (Option.some.inj e1).symm
theorem getD_args {az : List A} {us : List Value} (h : ARs D μ S w az us) (n m i : Nat) : AR D μ S w ((az ++ List.replicate n A.ud).getD i A.un) ((us.toArray ++ Array.replicate m undef).getD i undef) := by
  have hl := h.length
  simp only [List.getD_eq_getElem?_getD, Array.getD_eq_getD_getElem?]
  by_cases hi : i < az.length
  · obtain ⟨u, h1, h2⟩ := h.get (List.getElem?_eq_getElem hi)
    rw [List.getElem?_append_left hi, List.getElem?_eq_getElem hi, Array.getElem?_append_left (by simpa [hl] using hi)]
    simp only [List.getElem?_toArray, h1, Option.getD_some]
    exact h2
  · rw [List.getElem?_append_right (by omega), Array.getElem?_append_right (by simp [hl]; omega)]
    have : ((Array.replicate m undef)[i - us.toArray.size]?).getD undef = undef := by
      rw [Array.getElem?_replicate]
      split <;> rfl
    rw [this]
    rw [List.getElem?_replicate]
    split
    · rfl
    · trivial
theorem spg_of {f : Nat} {fn : Func} {af : AF} {az : List A} {hin : List Ck} {r : A} {hs : List Ck} (hm : P.follows .mixedOrders = true) (hf : P.funcs[f]? = some fn) (hc : cF P fn = some af) (h : awpF P m af az hin r hs) : SpG P f az hin r hs := by
  unfold cF at hc
  split at hc
  · rename_i c hb
    split at hc
    · rename_i ac qs h1 h2
      split at hc
      · cases hc
      · rename_i hname
        cases hc
        refine ⟨⟨fn, hf, by simp [hb], hname⟩, fun S w us O μ R0 hus => ?_⟩
        have hlen := hus.length
        have hok : Ok w O S (fun i => hin[i]?) μ ⟨az ++ List.replicate (fn.ntmps - az.length) .ud, hin⟩ { tmps := us.toArray ++ Array.replicate (fn.ntmps - us.toArray.size) undef, defers := [] } w :=
          ⟨μ, S, R0, Tr.refl, by simp [hlen], fun i => getD_args hus _ _ i, rfl⟩
        refine calls_of_wp hf hb (wp_mono (awp_sound (k0 := hin.length) (fun i c hc => (List.getElem?_eq_some_iff.1 hc).1) hm c ac _ _ w _ h1 h hok) ?_)
        rintro e a' w' ⟨x, s', rfl, hq, hok'⟩
        have fin : retOk s' hin.length qs r hs → a'.defers = [] ∧ ∃ v, (results fn a'.tmps).run P w' = .ok v w' ∧ ∃ u S' μ', Ending.returned v = .returned u ∧ Rl w O S (fun i => hs[i]?) μ' S' w' ∧ Tr (fun i => hin[i]?) μ S w (fun i => hs[i]?) μ' S' w' ∧ AR (fun i => hs[i]?) μ' S' w' r u := by
          rintro ⟨bs, h3, h4, hnd, hokM, hrr, h5⟩
          obtain ⟨μ1, S', R, T0, _, hA, hd⟩ := hok'
          refine ⟨hd, ?_⟩
          obtain ⟨vs, h6, h7⟩ := run_ress R hA h2 h3
          have hres : (results fn a'.tmps).run P w' = .ok (if h : vs.length = 1 then vs[0] else .tuple vs.toArray) w' := by
            have hg : results fn a'.tmps = (fn.results.mapM (resRun a'.tmps) >>= fun vs => Pure.pure (if h : vs.size = 1 then vs[0] else .tuple vs)) := by
              unfold results
              congr 1
            rw [hg, Array.mapM_eq_mapM_toList]
            simp only [Sem.run_bind, Sem.run_map, h6, Result.andThen_ok, Sem.run_pure]
            simp
          rw [h4] at hokM
          generalize hsel : List.range hin.length ++ newIdss hin.length bs (unR qs.length r) = sel at h4 hnd hokM h5
          have hDD : selD s'.h sel = fun i => hs[i]? := by funext j; rw [h4]; rfl
          have R' := R.sel hnd hokM
          have h8 := okRs_ar R hokM _ _ _ h5 h7
          rw [hDD] at R' h8
          have T' : Tr (fun i => hin[i]?) μ S w (fun i => hs[i]?) (selM μ1 sel) (left S' s'.D μ1 sel) w' := by
            have at_k : ∀ (k : Nat) (c : Ck), hin[k]? = some c → sel[k]? = some k ∧ ∃ c', s'.h[k]? = some c' := by
              intro k c hk
              have hlt : k < hin.length := (List.getElem?_eq_some_iff.1 hk).1
              refine ⟨?_, (T0.ptr k c hk).2⟩
              rw [← hsel, List.getElem?_append_left (by simpa using hlt), List.getElem?_range hlt]
            refine ⟨fun b hb => .inl (T0.sub b hb), T0.heap, fun k u hu => ?_, fun k c hk => ?_⟩
            · cases hk : hin[k]? with
              | none => unfold AR at hu; simp only [hk] at hu; exact hu.2.elim
              | some c =>
                obtain ⟨e1, c', e2⟩ := at_k k c hk
                have := okR_ar R hokM (.sli k) (.sli k) u (show sel[k]? = some k from e1) (T0.sli k u hu)
                rw [hDD] at this
                exact this
            · obtain ⟨e1, c', e2⟩ := at_k k c hk
              refine ⟨by simp only [selM, List.getD_eq_getElem?_getD, e1, Option.getD_some]; exact (T0.ptr k c hk).1, c', ?_⟩
              rw [h4]
              simp [e1, e2]
          refine ⟨_, hres, _, _, _, rfl, R', T', ?_⟩
          have hl := h8.length
          have hl2 := h7.length
          have hql : bs.length = qs.length := by
            have : ∀ (qs : List (Nat × Option Nat)) (bs : List A), resAs s' qs = some bs → bs.length = qs.length := by
              intro qs
              induction qs with
              | nil => intro bs h; simp only [resAs, Option.some.injEq] at h; subst h; rfl
              | cons q qs ih =>
                intro bs h
                simp only [resAs] at h
                split at h
                · rename_i b bs' h9 h10; cases h; simp [ih _ h10]
                · cases h
            exact this _ _ h3
          by_cases hone : qs.length = 1
          · have e1 : unR qs.length r = [r] := by simp [unR, hone]
            rw [e1] at h8
            obtain ⟨u, us', e2, h9, h10⟩ := h8
            simp only [ARs] at h10
            subst h10
            subst e2
            exact h9
          · rcases hrr with hrr | hrr
            · exact absurd hrr hone
            · rw [hrr]
              rw [dif_neg (by omega)]
              exact ⟨vs, rfl, h8⟩
        cases x with
        | nrm => exact fin hq
        | exit i => exact hq.elim
        | ret => exact fin hq
    · cases hc
  · cases hc
end
end Go.Proofs.YtjjockhekaccnaaEv
namespace Go.Proofs.YtjjockhekaccnaaEv
open Go

universe u v
/-- Not to be looked into, until it is applied. -/
structure Tag {α : Sort u} (a : α) : Type
def hd {α : Sort u} (a : α) (_ : Tag a) : α := a
theorem hd_app {α : Sort u} {β : Sort v} {K : α → β} {t : Tag K} {x : α} : hd K t x = K x := Eq.trans rfl rfl
def fA {α : Type} (o : Option α) (K : α → Prop) : Prop := ∀ y, o = some y → K y

section
variable {P : Program} {m : Nat → Bool} {k0 : Nat} {Q : Ex → St → Prop} {s : St}
/-! what comes after: told by names, so that it is not looked into before its turn -/
def seqQ (P : Program) (m : Nat → Bool) (k0 : Nat) (b : AC) (Q : Ex → St → Prop) : Ex → St → Prop := fun e s' => match e with | .nrm => awp P m k0 b Q s' | e => Q e s'
def blkQ (i : Nat) (Q : Ex → St → Prop) : Ex → St → Prop := fun e s' => match e with | .exit j => if j = i then Q .nrm s' else Q e s' | e => Q e s'
def endQ (n : Nat) (rs : List (Nat × Option Nat)) (r : A) (hs : List Ck) : Ex → St → Prop := fun e s => match e with | .exit _ => False | _ => retOk s n rs r hs
def opsK (Q : Ex → St → Prop) : St → FP → Prop := fun s' _ => Q .nrm s'
def regK (tb : List Nat) (Q : Ex → St → Prop) : St → FP → Prop := fun s' f => fpOk tb f = true ∧ Q .nrm s'
def oneK (P : Program) (m : Nat → Bool) (os : List AO) (f : FP) (K : St → FP → Prop) : St → List Nat → List Nat → Prop := fun s' rd wr => aops P m os s' (f ++ [(rd, wr)]) K
def putK (t : List A) (d : Option Nat) (K : St → List Nat → List Nat → Prop) : KT := fun r rd wr h => K (St.set ⟨t, h⟩ d r) rd wr
theorem seqQ_nrm {b : AC} : seqQ P m k0 b Q .nrm s = awp P m k0 b Q s := Eq.trans rfl rfl
theorem seqQ_exit {b : AC} {i : Nat} : seqQ P m k0 b Q (.exit i) s = Q (.exit i) s := Eq.trans rfl rfl
theorem seqQ_ret {b : AC} : seqQ P m k0 b Q .ret s = Q .ret s := Eq.trans rfl rfl
theorem blkQ_nrm {i : Nat} : blkQ i Q .nrm s = Q .nrm s := Eq.trans rfl rfl
theorem blkQ_exit {i j : Nat} : blkQ i Q (.exit j) s = if j = i then Q .nrm s else Q (.exit j) s := Eq.trans rfl rfl
theorem blkQ_ret {i : Nat} : blkQ i Q .ret s = Q .ret s := Eq.trans rfl rfl
section
variable {n : Nat} {rs : List (Nat × Option Nat)} {r : A} {hs : List Ck}
theorem endQ_nrm : endQ n rs r hs .nrm s = retOk s n rs r hs := Eq.trans rfl rfl
theorem endQ_exit {i : Nat} : endQ n rs r hs (.exit i) s = False := Eq.trans rfl rfl
theorem endQ_ret : endQ n rs r hs .ret s = retOk s n rs r hs := Eq.trans rfl rfl
end
theorem opsK_app {f : FP} : opsK Q s f = Q .nrm s := Eq.trans rfl rfl
theorem regK_app {tb : List Nat} {f : FP} : regK tb Q s f = (fpOk tb f = true ∧ Q .nrm s) := Eq.trans rfl rfl
theorem oneK_app {os : List AO} {f : FP} {K : St → FP → Prop} {rd wr : List Nat} : oneK P m os f K s rd wr = aops P m os s (f ++ [(rd, wr)]) K := Eq.trans rfl rfl
theorem putK_app {t : List A} {d : Option Nat} {K : St → List Nat → List Nat → Prop} {r : A} {rd wr : List Nat} {h : List Ck} : putK t d K r rd wr h = K (St.set ⟨t, h⟩ d r) rd wr := Eq.trans rfl rfl
theorem awp_skip : awp P m k0 .skip Q s = Q .nrm s := Eq.trans rfl rfl
theorem awp_ops {os : List AO} : awp P m k0 (.ops os) Q s = aops P m os s [] (opsK Q) := Eq.trans rfl rfl
theorem awp_reg {tb : List Nat} {os : List AO} : awp P m k0 (.reg tb os) Q s = aops P m os s [] (regK tb Q) := Eq.trans rfl rfl
theorem awp_seq {a b : AC} : awp P m k0 (.seq a b) Q s = awp P m k0 a (seqQ P m k0 b Q) s := Eq.trans rfl rfl
theorem awp_block {i : Nat} {b : AC} : awp P m k0 (.block i b) Q s = awp P m k0 b (blkQ i Q) s := Eq.trans rfl rfl
theorem awp_exit {i : Nat} : awp P m k0 (.exit i) Q s = Q (.exit i) s := Eq.trans rfl rfl
theorem awp_ret : awp P m k0 .ret Q s = Q .ret s := Eq.trans rfl rfl
def condQ (P : Program) (m : Nat → Bool) (k0 : Nat) (t : Bool) (c : X) (a b : AC) (Q : Ex → St → Prop) (s : St) : Prop := (t = true → awp P m k0 a Q (s.setX c (.v (.bool true)))) ∧ (t = false → awp P m k0 b Q (s.setX c (.v (.bool false))))
theorem condQ_t {c : X} {a b : AC} : condQ P m k0 true c a b Q s = awp P m k0 a Q (s.setX c (.v (.bool true))) := by simp [condQ]
theorem condQ_f {c : X} {a b : AC} : condQ P m k0 false c a b Q s = awp P m k0 b Q (s.setX c (.v (.bool false))) := by simp [condQ]
theorem condQ_any {t : Bool} {c : X} {a b : AC} : condQ P m k0 t c a b Q s = ((t = true → awp P m k0 a Q (s.setX c (.v (.bool true)))) ∧ (t = false → awp P m k0 b Q (s.setX c (.v (.bool false))))) := Eq.trans rfl rfl
theorem awp_cond {c : X} {a b : AC} : awp P m k0 (.cond c a b) Q s = match s.x c with
    | .v (.bool t) => condQ P m k0 t c a b Q s
    | _ => False := Eq.trans rfl rfl
theorem aops_nil {K : St → FP → Prop} {f : FP} : aops P m [] s f K = K s f := Eq.trans rfl rfl
theorem aops_cons {o : AO} {os : List AO} {f : FP} {K : St → FP → Prop} : aops P m (o :: os) s f K = aAO P m s (oneK P m os f K) o := Eq.trans rfl rfl
theorem aAO_none {K : St → List Nat → List Nat → Prop} {d : Option Nat} {o : O} : aAO P m s K ⟨d, none, o⟩ = aop P m s (putK s.t d K) o := Eq.trans rfl rfl
def gdK (P : Program) (m : Nat → Bool) (t b : Bool) (g : Nat) (d : Option Nat) (o : O) (K : St → List Nat → List Nat → Prop) (s : St) : Prop := (t = b → aop P m (s.setX (.t g) (.v (.bool b))) (putK (s.t.set g (.v (.bool b))) d K) o) ∧ (t = !b → K (St.set ⟨s.t.set g (.v (.bool !b)), s.h⟩ d .ud) [] [])
section
variable {K : St → List Nat → List Nat → Prop} {d : Option Nat} {o : O} {g : Nat} {b t : Bool}
theorem gdK_tt : gdK P m true true g d o K s = aop P m (s.setX (.t g) (.v (.bool true))) (putK (s.t.set g (.v (.bool true))) d K) o := by simp [gdK]
theorem gdK_ff : gdK P m false false g d o K s = aop P m (s.setX (.t g) (.v (.bool false))) (putK (s.t.set g (.v (.bool false))) d K) o := by simp [gdK]
theorem gdK_tf : gdK P m true false g d o K s = K (St.set ⟨s.t.set g (.v (.bool true)), s.h⟩ d .ud) [] [] := by simp [gdK]
theorem gdK_ft : gdK P m false true g d o K s = K (St.set ⟨s.t.set g (.v (.bool false)), s.h⟩ d .ud) [] [] := by simp [gdK]
theorem gdK_any : gdK P m t b g d o K s = ((t = b → aop P m (s.setX (.t g) (.v (.bool b))) (putK (s.t.set g (.v (.bool b))) d K) o) ∧ (t = !b → K (St.set ⟨s.t.set g (.v (.bool !b)), s.h⟩ d .ud) [] [])) := Eq.trans rfl rfl
theorem aAO_some : aAO P m s K ⟨d, some (g, b), o⟩ = match s.x (.t g) with
    | .v (.bool t) => gdK P m t b g d o K s
    | .ud => K (s.set d .ud) [] []
    | _ => False := Eq.trans rfl rfl
end
def pickK (t : Bool) (K : KT) (a b : A) (h : List Ck) : Prop := (t = true → K a [] [] h) ∧ (t = false → K b [] [] h)
theorem pickK_t {K : KT} {a b : A} {h : List Ck} : pickK true K a b h = K a [] [] h := by simp [pickK]
theorem pickK_f {K : KT} {a b : A} {h : List Ck} : pickK false K a b h = K b [] [] h := by simp [pickK]
theorem pickK_any {t : Bool} {K : KT} {a b : A} {h : List Ck} : pickK t K a b h = ((t = true → K a [] [] h) ∧ (t = false → K b [] [] h)) := Eq.trans rfl rfl
theorem fA_none {α : Type} {K : α → Prop} : fA none K = True := by simp [fA]
theorem fA_some {α : Type} {a : α} {K : α → Prop} : fA (some a) K = K a := by simp [fA]
theorem fA_map {α β : Type} {g : α → β} {l : List α} {n : Nat} {K : β → Prop} : fA ((l.map g)[n]?) K = ∀ a, l[n]? = some a → K (g a) := by
  apply propext
  simp [fA]
theorem fA_omap {α β : Type} {g : α → β} {o : Option α} {K : β → Prop} : fA (o.map g) K = ∀ a, o = some a → K (g a) := by
  apply propext
  simp [fA]
section
variable {K : KT} {x y i : X} {e k : Nat}
theorem aop_mv : aop P m s K (.mv x) = K (s.x x) [] [] s.h := Eq.trans rfl rfl
theorem aop_pick {c a b : X} : aop P m s K (.pick c a b) = match s.x c with
    | .v (.bool t) => pickK t K (s.x a) (s.x b) s.h
    | _ => False := Eq.trans rfl rfl
theorem aop_bin {op : BinOp} : aop P m s K (.bin op x y) = oK (binF op (s.x x) (s.x y)) (hd (fun r => K (.v r) [] [] s.h) ⟨⟩) := Eq.trans rfl rfl
theorem aop_eq {ne : Bool} {n : Nat} {ts : List Nat} : aop P m s K (.eq ne n ts x y) = match s.x x, s.x y with
    | .v a, .v b => oK (eqT ts a.cs b.cs) (hd (fun p => a.isAg = (n != 0) ∧ b.isAg = (n != 0) ∧ K (.v (.bool (cdec p != ne))) [] [] s.h) ⟨⟩)
    | _, _ => False := Eq.trans rfl rfl
theorem aop_eqn {ne : Bool} : aop P m s K (.eqn ne x) = match s.x x with
    | .nil _ => K (.v (.bool (true != ne))) [] [] s.h
    | .v (.sl _ xs) => xs ≠ [] ∧ K (.v (.bool (false != ne))) [] [] s.h
    | .sli i => match s.h[i]? with
      | some (.row ..) => K (.v (.bool (false != ne))) [i] [] s.h
      | some (.fz _ xs) => xs ≠ [] ∧ K (.v (.bool (false != ne))) [i] [] s.h
      | _ => False
    | _ => False := Eq.trans rfl rfl
theorem aop_un {op : UnOp} : aop P m s K (.un op x) = oK (unF op (s.x x)) (hd (fun r => K (.v r) [] [] s.h) ⟨⟩) := Eq.trans rfl rfl
theorem aop_conv {k : IntKind} : aop P m s K (.conv k x) = match s.x x with
    | .v (.int _ n) => K (.v (.int k (k.wrap n))) [] [] s.h
    | _ => False := Eq.trans rfl rfl
theorem aop_fld {off : Nat} : aop P m s K (.fld x off k) = oK (fldF (s.x x) off k) (hd (fun r => K r [] [] s.h) ⟨⟩) := Eq.trans rfl rfl
theorem aop_fa {off : Nat} : aop P m s K (.fa x off) = match s.x x with
    | .ptr i o => K (.ptr i (o + off)) [] [] s.h
    | .ep i e n o => K (.ep i e n (o + off)) [] [] s.h
    | .fq cs => K (.fq (cs.drop off)) [] [] s.h
    | .fp _ (.ag cs) => K (.fq (cs.drop off)) [] [] s.h
    | _ => False := Eq.trans rfl rfl
theorem aop_ia : aop P m s K (.ia x i e) = match s.x i with
    | .v (.int _ n) => match s.x x with
      | .v (.sl e' xs) => e' = e ∧ (0 ≤ n ∧ n < xs.length) ∧ fA (xs[n.toNat]?) (hd (fun y => K (.fp e y) [] [] s.h) ⟨⟩)
      | .sli c => match s.h[c]? with
        | some (.fz e' xs) => e' = e ∧ (0 ≤ n ∧ n < xs.length) ∧ fA (xs[n.toNat]?) (hd (fun y => K (.fp e y) [c] [] s.h) ⟨⟩)
        | some (.row e' _ xs) => e' = e ∧ (0 ≤ n ∧ n < xs.length) ∧ K (.ep c e n 0) [c] [] s.h
        | _ => False
      | _ => False
    | _ => False := Eq.trans rfl rfl
theorem aop_si : aop P m s K (.si x i) = match s.x x, s.x i with
    | .v (.str b), .v (.int _ n) => (0 ≤ n ∧ n < b.size) ∧ fA (b[n.toNat]?) (hd (fun y : UInt8 => K (.v (.int .u8 y.toNat)) [] [] s.h) ⟨⟩)
    | _, _ => False := Eq.trans rfl rfl
theorem aop_ld : aop P m s K (.ld x k) = match s.x x with
    | .fp e y => e = k ∧ K (.v y) [] [] s.h
    | .fq cs => if k = 0 then oK cs[0]? (hd (fun y => K (.v y) [] [] s.h) ⟨⟩) else k ≤ cs.length ∧ K (.v (.ag (cs.take k))) [] [] s.h
    | .ptr c off => match s.h[c]? with
      | some (.box cs) => if k = 0 then oK cs[off]? (hd (fun y => K y [c] [] s.h) ⟨⟩) else off + k ≤ cs.length ∧ K (mkAg ((cs.drop off).take k)) [c] [] s.h
      | some (.fb cs) => if k = 0 then oK cs[off]? (hd (fun y => K (.v y) [c] [] s.h) ⟨⟩) else off + k ≤ cs.length ∧ K (.v (.ag ((cs.drop off).take k))) [c] [] s.h
      | _ => False
    | .ep c e n off => match s.h[c]? with
      | some (.row e' _ xs) => e' = e ∧ n.toNat < xs.length ∧ fA (xs[n.toNat]?) (hd (fun y =>
          if k = e ∧ off = 0 then K (.v y) [c] [] s.h else match y with
          | .ag cs => if k = 0 then oK cs[off]? (hd (fun z => K (.v z) [c] [] s.h) ⟨⟩) else off + k ≤ cs.length ∧ K (.v (.ag ((cs.drop off).take k))) [c] [] s.h
          | _ => False) ⟨⟩)
      | _ => False
    | _ => False := Eq.trans rfl rfl
theorem aop_st : aop P m s K (.st x y k) = match s.x x with
    | .ptr c off => match s.h[c]? with
      | some (.box cs) => oK (s.x y).cells? (hd (fun ys => ys.length = cz k ∧ off + cz k ≤ cs.length ∧ K .ud [c] [c] (s.h.set c (.box (put cs off ys)))) ⟨⟩)
      | _ => False
    | .ep c e n off => match s.h[c]? with
      | some (.row e' t xs) => oK (toV s.h (s.x y)) (hd (fun z => e' = e ∧ n.toNat < xs.length ∧ k = e ∧ off = 0 ∧ shape e z ∧ K .ud [c] [c] (s.h.set c (.row e t (xs.set n.toNat z)))) ⟨⟩)
      | _ => False
    | _ => False := Eq.trans rfl rfl
theorem aop_bld {zs : List A} {ps : List (Nat × Nat × X)} : aop P m s K (.bld zs ps) = oK (fillA zs (ps.map fun p => (p.1, p.2.1, s.x p.2.2))) (hd (fun cs => K (mkAg cs) [] [] s.h) ⟨⟩) := Eq.trans rfl rfl
theorem aop_bsl {t : Nat} {ps : List X} : aop P m s K (.bsl e t ps) = oK (toVs s.h (ps.map s.x)) (hd (fun zs => (∀ z ∈ zs, shape e z) ∧ K (.sli s.h.length) [] [s.h.length] (s.h ++ [.row e t zs])) ⟨⟩) := Eq.trans rfl rfl
theorem aop_box : aop P m s K (.box x) = oK (s.x x).cells? (hd (fun cs => K (.ptr s.h.length 0) [] [s.h.length] (s.h ++ [.box cs])) ⟨⟩) := Eq.trans rfl rfl
theorem aop_al {zs : List A} : aop P m s K (.al zs) = K (.ptr s.h.length 0) [] [s.h.length] (s.h ++ [.box zs]) := Eq.trans rfl rfl
theorem aop_mk {t b : Nat} {z : V} {n c : X} : aop P m s K (.mk e t b z n c) = match s.x n, s.x c with
    | .v (.int _ l), .v (.int _ c') => (0 ≤ l ∧ l ≤ c' ∧ b * c' ≤ 140737488355328 ∧ c' ≤ 140737488355328) ∧ K (.sli s.h.length) [] [s.h.length] (s.h ++ [.row e t (List.replicate l.toNat z)])
    | _, _ => False := Eq.trans rfl rfl
theorem aop_ssub {lo hi : Option X} : aop P m s K (.ssub x lo hi) = match s.x x with
    | .v (.str b) => oK (optI s 0 lo) (hd (fun l => oK (optI s b.size hi) (hd (fun h => (0 ≤ l ∧ l ≤ h ∧ h ≤ b.size) ∧ K (.v (.str (b.extract l.toNat h.toNat))) [] [] s.h) ⟨⟩)) ⟨⟩)
    | _ => False := Eq.trans rfl rfl
theorem aop_sub {lo hi : Option X} : aop P m s K (.sub e x lo hi) = match s.x x with
    | .v (.sl e' xs) => e' = e ∧ oK (optI s 0 lo) (hd (fun l => oK (optI s xs.length hi) (hd (fun h => (0 ≤ l ∧ l ≤ h ∧ h ≤ xs.length) ∧ K (.v (.sl e ((xs.drop l.toNat).take (h.toNat - l.toNat)))) [] [] s.h) ⟨⟩)) ⟨⟩)
    | .sli c => match s.h[c]? with
      | some (.fz e' xs) => e' = e ∧ oK (optI s 0 lo) (hd (fun l => oK (optI s xs.length hi) (hd (fun h => (0 ≤ l ∧ l ≤ h ∧ h ≤ xs.length) ∧ K (.v (.sl e ((xs.drop l.toNat).take (h.toNat - l.toNat)))) [c] [] s.h) ⟨⟩)) ⟨⟩)
      | _ => False
    | _ => False := Eq.trans rfl rfl
theorem aop_ext {j : Nat} : aop P m s K (.ext x j) = match s.x x with
    | .tu vs => oK vs[j]? (hd (fun a => K a [] [] s.h) ⟨⟩)
    | _ => False := Eq.trans rfl rfl
theorem aop_call {f : Nat} {xs : List X} : aop P m s K (.call f xs) = if m f = true then callM P s K f (xs.map s.x) else callS P s K f (xs.map s.x) := Eq.trans rfl rfl
theorem aop_callv {xs : List X} : aop P m s K (.callv x xs) = match s.x x with
    | .fn f cs => callS P s K f (xs.map s.x ++ cs)
    | _ => False := Eq.trans rfl rfl
theorem aop_slen : aop P m s K (.len true x) = match s.x x with
    | .v (.str b) => K (.v (.int .i64 b.size)) [] [] s.h
    | _ => False := Eq.trans rfl rfl
theorem aop_len : aop P m s K (.len false x) = oK (rowOf s.h (s.x x)) (hd (fun (_, xs, rd) => K (.v (.int .i64 xs.length)) rd [] s.h) ⟨⟩) := Eq.trans rfl rfl
theorem aop_app {t b : Nat} : aop P m s K (.app e t b x y) = oK (rowOf s.h (s.x y)) (hd (fun (e0, ys, rd) => e0 = e ∧ match s.x x with
    | .nil _ => (ys ≠ [] ∧ ys.length * b ≤ 140737488355328 ∧ ys.length ≤ 140737488355328) ∧ K (.sli s.h.length) rd [s.h.length] (s.h ++ [.row e t ys])
    | .sli c => match s.h[c]? with
      | some (.row e' t' xs) => e' = e ∧ t' = t ∧ c ∉ rd ∧ ((xs.length + ys.length) * b ≤ 140737488355328 ∧ xs.length + ys.length ≤ 140737488355328) ∧
          K (.sli s.h.length) (c :: rd) [c, s.h.length] (s.h.set c .gone ++ [.row e t (xs ++ ys)])
      | _ => False
    | _ => False) ⟨⟩) := Eq.trans rfl rfl
theorem aop_mm {g : Bool} : aop P m s K (.mm g x y) = match s.x x, s.x y with
    | .v (.int k a), .v (.int _ b) => K (.v (.int k (if g = true then (if b > a then b else a) else (if b < a then b else a)))) [] [] s.h
    | _, _ => False := Eq.trans rfl rfl
theorem aop_nck : aop P m s K (.nck x) = match s.x x with
    | .ptr i o => K (.ptr i o) [] [] s.h
    | .ep i e n o => K (.ep i e n o) [] [] s.h
    | .fq cs => K (.fq cs) [] [] s.h
    | .fp e y => K (.fp e y) [] [] s.h
    | _ => False := Eq.trans rfl rfl
theorem aop_mkf {f : Nat} {xs : List X} : aop P m s K (.mkf f xs) = oK (frzH s.h (capJ s.h (xs.map s.x)) 0 s.h) (hd (fun h' => oK (capAs h' (xs.map s.x)) (hd (fun cs => K (.fn f cs) [] (capJ s.h (xs.map s.x)) h') ⟨⟩)) ⟨⟩) := Eq.trans rfl rfl
end
def forQ {α : Type} (k0 : Nat) (ks : List Bool) (F : α → St) (p : α → Prop) (v : α → Nat) (x : α) (Q : Ex → St → Prop) : Ex → St → Prop := fun e s' => match e with | .nrm => ∃ y, s'.cmp k0 ks = F y ∧ p y ∧ v y < v x | e => Q e s'
section
variable {α : Type} {ks : List Bool} {F : α → St} {p : α → Prop} {v : α → Nat} {x : α}
theorem forQ_nrm : forQ k0 ks F p v x Q .nrm s = ∃ y, s.cmp k0 ks = F y ∧ p y ∧ v y < v x := Eq.trans rfl rfl
theorem forQ_exit {i : Nat} : forQ k0 ks F p v x Q (.exit i) s = Q (.exit i) s := Eq.trans rfl rfl
theorem forQ_ret : forQ k0 ks F p v x Q .ret s = Q .ret s := Eq.trans rfl rfl
end
/-- A loop, by what its slots and chunks are at its head: told by an x of which p holds, v of it falls; the slots ks are read again. -/
theorem awp_for {α : Type} {b : AC} {s : St} (ks : List Bool) (F : α → St) (p : α → Prop) (v : α → Nat) (x0 : α) (h0 : s.cmp k0 ks = F x0 ∧ p x0)
    (h : ∀ x, p x → awp P m k0 b (forQ k0 ks F p v x Q) (F x)) : awp P m k0 (.loop b) Q s := by
  refine ⟨fun n s => ∃ x, s = F x ∧ p x ∧ v x = n, ks, ⟨_, x0, h0.1, h0.2, rfl⟩, ?_⟩
  rintro n s ⟨x, rfl, hp, rfl⟩
  have e : (fun (e : Ex) (s' : St) => match e with | .nrm => ∃ j, j < v x ∧ ∃ x, s'.cmp k0 ks = F x ∧ p x ∧ v x = j | e => Q e s') = forQ k0 ks F p v x Q := by
    funext e s'
    cases e <;> simp only [forQ]
    apply propext
    constructor
    · rintro ⟨j, h1, y, h2, h3, rfl⟩; exact ⟨y, h2, h3, h1⟩
    · rintro ⟨y, h2, h3, h4⟩; exact ⟨_, h4, y, h2, h3, rfl⟩
  have := h x hp
  rw [← e] at this
  exact this
def updT : List A → List (Nat × A) → List A
  | t, [] => t
  | t, (i, a) :: r => updT (t.set i a) r
def updH : List Ck → List (Nat × Ck) → List Ck
  | h, [] => h
  | h, (i, c) :: r => updH (if i < h.length then h.set i c else h ++ [c]) r
/-- A state with some slots and chunks told anew. -/
def St.upd (s : St) (ms : List (Nat × A)) (cs : List (Nat × Ck)) : St := ⟨updT s.t ms, updH s.h cs⟩
/-- A loop, by the slots (ms) and the chunks (cs) that it changes. -/
theorem awp_it {α : Type} {b : AC} {s : St} (ks : List Bool) (ms : α → List (Nat × A)) (cs : α → List (Nat × Ck)) (p : α → Prop) (v : α → Nat) (x0 : α)
    (h : ∀ s0, s.cmp k0 ks = s0 → (s0 = s0.upd (ms x0) (cs x0) ∧ p x0) ∧ ∀ x, p x → awp P m k0 b (forQ k0 ks (fun x => s0.upd (ms x) (cs x)) p v x Q) (s0.upd (ms x) (cs x))) : awp P m k0 (.loop b) Q s :=
  awp_for ks (fun x => (s.cmp k0 ks).upd (ms x) (cs x)) p v x0 (h _ rfl).1 (h _ rfl).2
theorem sp_of {f : Nat} {fn : Func} {np nt : Nat} {rs : List (Nat × Option Nat)} {body : AC} {az : List A} {r : A} {hs : List Ck} (hm : P.follows .mixedOrders = true) (hf : P.funcs[f]? = some fn) (hc : cF P fn = some ⟨np, nt, rs, body⟩) (h : awp P m 0 body (endQ 0 rs r hs) ⟨az ++ List.replicate (nt - az.length) .ud, []⟩) : Sp P f az r hs := spg_of hm hf hc h
theorem sg_of {f : Nat} {fn : Func} {np nt : Nat} {rs : List (Nat × Option Nat)} {body : AC} {az : List A} {hin : List Ck} {r : A} {hs : List Ck} (hm : P.follows .mixedOrders = true) (hf : P.funcs[f]? = some fn) (hc : cF P fn = some ⟨np, nt, rs, body⟩) (h : awp P m hin.length body (endQ hin.length rs r hs) ⟨az ++ List.replicate (nt - az.length) .ud, hin⟩) : SpG P f az hin r hs := spg_of hm hf hc h
/-- A call, by its contract. -/
theorem call_of {K : KT} {f : Nat} {az bs : List A} {rd : List Nat} {r : A} {hs : List Ck} (h : Sp P f bs r hs) (h1 : toArgs s.h az = some (bs, rd)) (h2 : (r.res = true ∧ ∀ c ∈ hs, c.isRow = true) ∧ (rd = [] ∨ r.flats = true ∧ ∀ c ∈ hs, c.flat))
    (h3 : K (r.shift s.h.length) rd ((List.range hs.length).map (s.h.length + ·)) (s.h ++ hs)) : callS P s K f az := ⟨(bs, rd), h1, r, hs, h, h2.1, h2.2, h3⟩
theorem callM_of {K : KT} {f : Nat} {az bs : List A} {L : List Nat} {r : A} {hs : List Ck} (h1 : toMs s.h az [] = some (bs, L)) (h : SpG P f bs (L.map fun i => s.h.getD i .gone) r hs) (h2 : hs.all Ck.okM = true ∧ r.isM = true ∧ L.length ≤ hs.length)
    (h3 : K (r.ren L s.h.length) L (L ++ (List.range (hs.length - L.length)).map (s.h.length + ·)) (putCks s.h L hs ++ hs.drop L.length)) : callM P s K f az := ⟨(bs, L), h1, r, hs, h, h2, h3⟩
theorem fp_and {tb : List Nat} {f : FP} {p : Prop} (h : fpOk tb f = true) (k : p) : fpOk tb f = true ∧ p := ⟨h, k⟩
theorem br_l {a b p q : Prop} (h : a) (n : ¬ b) (k : p) : (a → p) ∧ (b → q) := ⟨fun _ => k, fun e => absurd e n⟩
theorem br_r {a b p q : Prop} (n : ¬ a) (h : b) (k : q) : (a → p) ∧ (b → q) := ⟨fun e => absurd e n, fun _ => k⟩
theorem br_p {a p q : Prop} (h : a) (n : q) (k : p) : (a → p) ∧ q := ⟨fun _ => k, n⟩
theorem br_q {b p q : Prop} (n : p) (h : b) (k : q) : p ∧ (b → q) := ⟨n, fun _ => k⟩
theorem and_of {p q : Prop} (h : p) (k : p → q) : p ∧ q := ⟨h, k h⟩
end
/-- Nothing is written. -/
def noWr : FP → Bool
  | [] => true
  | (_, w) :: f => w.isEmpty && noWr f
theorem noWr_get : ∀ {f : FP} {i : Nat} {r w : List Nat}, noWr f = true → f[i]? = some (r, w) → w = []
  | [], _, _, _, _, h => by simp at h
  | (r0, w0) :: f, 0, r, w, hn, h => by
    simp only [noWr, Bool.and_eq_true, List.isEmpty_iff] at hn
    simp at h
    exact h.2 ▸ hn.1
  | (r0, w0) :: f, i + 1, r, w, hn, h => by
    simp only [noWr, Bool.and_eq_true] at hn
    exact noWr_get (i := i) hn.2 (by simpa using h)
theorem fpOk_pure {tb : List Nat} {f : FP} (h : noWr f = true) : fpOk tb f = true := by
  unfold fpOk
  simp only [List.all_eq_true, List.mem_range]
  intro j _ i _
  cases hi : f[i]? with
  | none => simp
  | some p => cases hj : f[j]? with
    | none => simp
    | some q =>
      obtain ⟨r1, w1⟩ := p
      obtain ⟨r2, w2⟩ := q
      have e1 := noWr_get h hi
      have e2 := noWr_get h hj
      subst e1 e2
      simp
theorem w64 {n : Int} (h1 : -9223372036854775808 ≤ n) (h2 : n ≤ 9223372036854775807) : IntKind.i64.wrap n = n := by rw [IntKind.wrap_i64]; omega
attribute [simp low] condQ_any gdK_any pickK_any
attribute [simp] condQ_t condQ_f gdK_tt gdK_ff gdK_tf gdK_ft pickK_t pickK_f hd_app seqQ_nrm seqQ_exit seqQ_ret blkQ_nrm blkQ_exit blkQ_ret endQ_nrm endQ_exit endQ_ret opsK_app regK_app oneK_app putK_app forQ_nrm forQ_exit forQ_ret awp_skip awp_ops awp_reg awp_seq awp_block awp_exit awp_ret awp_cond aops_nil aops_cons aAO_none aAO_some aop_mv aop_pick aop_bin aop_eq aop_eqn aop_un aop_conv aop_fld aop_fa aop_ia aop_si aop_ld aop_st aop_bld aop_bsl aop_box aop_al aop_mk aop_ssub aop_sub aop_ext aop_call aop_callv aop_slen aop_len aop_app aop_mm aop_nck aop_mkf fA_none fA_some fA_map fA_omap St.x St.set St.setX binF binI binS unF optI fldF fillA put rowOf toV toVs A.cells? mkAg allV shape V.isAg V.nc cz
  eqT eq1 V.cs oK_some oK_none oK_ite oK_ite' retOk resAs resA retV retVs okR okRs newIds newIdss unR fpOk_pure noWr toArg1 toLs toArg toArgs A.res ress A.flats flatss V.flat flats Ck.isRow Ck.flat A.shift shifts A.shut
  A.rn rns Ck.rn addI idsA idsAs idB rnB idsT idsH idsH2 upTo cmpT cmpL St.cmp updT updH St.upd
  sliIds capJ toF toFs frzC frzH capA capAs
  toM toMs posL Ck.okM A.isM isMs renI A.ren rens putCks
end Go.Proofs.YtjjockhekaccnaaEv
namespace Go.Proofs.YtjjockhekaccnaaEv
open Go Go.Proofs
def q (d : Nat) (o : O) : AO := ⟨some d, none, o⟩
def c4 : AF := ⟨2,104,[(4,none)],(.seq (.ops [q 2 (.box (.t 0)),q 3 (.box (.t 1)),q 4 (.mv (.c (.v (.bool false))))]) (.seq (.ops [q 5 (.mv (.c (.v (.int .i64 1048576))))]) (.seq (.ops [q 16 (.ld (.t 2) 3),q 17 (.mv (.t 5)),q 18 (.call 15 [(.t 16),(.t 17)]),q 5 (.mv (.t 18))]) (.seq (.seq (.ops [q 19 (.mv (.t 5)),q 20 (.bin .lss (.t 19) (.c (.v (.int .i64 0))))]) (.cond (.t 20) (.seq (.ops [q 4 (.mv (.c (.v (.bool true))))]) .ret) .skip)) (.seq (.reg [0,1,0,7,15,31,63,63,0,383,1023] [q 22 (.ld (.t 2) 3),q 23 (.call 17 [(.t 22)]),q 24 (.ld (.t 3) 3),q 25 (.call 21 [(.t 24)]),q 26 (.call 20 [(.t 23),(.t 25)]),q 21 (.mv (.t 26)),q 27 (.ext (.t 21) 0),q 28 (.ext (.t 21) 1),q 6 (.al [(.v (.int .i64 0)),(.v (.int .i64 0)),(.nil 0)]),⟨none,none,.st (.t 6) (.t 27) 3⟩,q 7 (.mv (.t 28))]) (.seq (.ops [q 29 (.ld (.t 2) 3),q 30 (.call 17 [(.t 29)]),q 8 (.al [(.v (.int .i64 0)),(.v (.int .i64 0)),(.nil 0)]),⟨none,none,.st (.t 8) (.t 30) 3⟩]) (.seq (.reg [0,0,2,7,15,31,31,0,191,511] [q 32 (.ld (.t 8) 3),q 33 (.ld (.t 3) 3),q 34 (.call 21 [(.t 33)]),q 35 (.call 22 [(.t 32),(.t 34)]),q 31 (.mv (.t 35)),q 36 (.ext (.t 31) 0),q 37 (.ext (.t 31) 1),q 9 (.al [(.v (.int .i64 0)),(.v (.int .i64 0)),(.nil 0)]),⟨none,none,.st (.t 9) (.t 36) 3⟩,q 10 (.mv (.t 37))]) (.seq (.seq (.ops [q 38 (.ld (.t 9) 3),q 39 (.ld (.t 6) 3),q 40 (.call 19 [(.t 38),(.t 39)]),q 41 (.un .not (.t 40)),q 42 (.mv (.t 41)),⟨(some 43),(some (42,false)),.mv (.t 10)⟩,⟨(some 44),(some (42,false)),.mv (.t 7)⟩,⟨(some 45),(some (42,false)),.bin .neq (.t 43) (.t 44)⟩,q 46 (.pick (.t 42) (.c (.v (.bool true))) (.t 45))]) (.cond (.t 46) (.seq (.ops [q 4 (.mv (.c (.v (.bool false))))]) .ret) .skip)) (.seq (.seq (.reg [0,0,2,7,15] [q 47 (.ld (.t 8) 3),q 48 (.ld (.t 2) 3),q 49 (.call 17 [(.t 48)]),q 50 (.call 19 [(.t 47),(.t 49)]),q 51 (.un .not (.t 50))]) (.cond (.t 51) (.seq (.ops [q 4 (.mv (.c (.v (.bool false))))]) .ret) .skip)) (.seq (.ops [q 11 (.mv (.c (.v (.int .i64 1))))]) (.seq (.ops [q 52 (.ld (.t 8) 3),q 53 (.mv (.t 11)),q 54 (.call 23 [(.t 52),(.t 53)]),q 11 (.mv (.t 54))]) (.seq (.seq (.ops [q 55 (.mv (.t 11)),q 56 (.bin .lss (.t 55) (.c (.v (.int .i64 0)))),q 57 (.mv (.t 56)),⟨(some 58),(some (57,false)),.ld (.t 9) 3⟩,⟨(some 59),(some (57,false)),.ld (.t 6) 3⟩,⟨(some 60),(some (57,false)),.call 19 [(.t 58),(.t 59)]⟩,⟨(some 61),(some (57,false)),.un .not (.t 60)⟩,q 62 (.pick (.t 57) (.c (.v (.bool true))) (.t 61)),q 63 (.mv (.t 62)),⟨(some 64),(some (63,false)),.mv (.t 10)⟩,⟨(some 65),(some (63,false)),.mv (.t 7)⟩,⟨(some 66),(some (63,false)),.bin .neq (.t 64) (.t 65)⟩,q 67 (.pick (.t 63) (.c (.v (.bool true))) (.t 66))]) (.cond (.t 67) (.seq (.ops [q 4 (.mv (.c (.v (.bool false))))]) .ret) .skip)) (.seq (.ops [q 12 (.mv (.c (.v (.int .i64 1))))]) (.seq (.ops [q 68 (.ld (.t 9) 3),q 69 (.mv (.t 12)),q 70 (.call 23 [(.t 68),(.t 69)]),q 12 (.mv (.t 70))]) (.seq (.ops [q 13 (.mv (.c (.v (.int .i64 1))))]) (.seq (.ops [q 71 (.ld (.t 9) 3),q 72 (.mv (.t 13)),q 73 (.call 24 [(.t 71),(.t 72)]),q 13 (.mv (.t 73))]) (.seq (.seq (.ops [q 74 (.mv (.t 13)),q 75 (.bin .lss (.t 74) (.c (.v (.int .i64 0))))]) (.cond (.t 75) (.seq (.ops [q 4 (.mv (.c (.v (.bool false))))]) .ret) .skip)) (.seq (.seq (.ops [q 76 (.mv (.t 13)),q 77 (.mv (.t 12)),q 78 (.bin .neq (.t 76) (.t 77))]) (.cond (.t 78) (.seq (.ops [q 4 (.mv (.c (.v (.bool false))))]) .ret) .skip)) (.seq (.reg [0,1,0,7,15,31,63,63,0,383,1023] [q 80 (.ld (.t 2) 3),q 81 (.call 17 [(.t 80)]),q 82 (.ld (.t 3) 3),q 83 (.call 21 [(.t 82)]),q 84 (.call 22 [(.t 81),(.t 83)]),q 79 (.mv (.t 84)),q 85 (.ext (.t 79) 0),q 86 (.ext (.t 79) 1),q 14 (.al [(.v (.int .i64 0)),(.v (.int .i64 0)),(.nil 0)]),⟨none,none,.st (.t 14) (.t 85) 3⟩,q 15 (.mv (.t 86))]) (.seq (.seq (.ops [q 87 (.ld (.t 14) 3),q 88 (.ld (.t 6) 3),q 89 (.call 19 [(.t 87),(.t 88)]),q 90 (.un .not (.t 89)),q 91 (.mv (.t 90)),⟨(some 92),(some (91,false)),.mv (.t 15)⟩,⟨(some 93),(some (91,false)),.mv (.t 7)⟩,⟨(some 94),(some (91,false)),.bin .neq (.t 92) (.t 93)⟩,q 95 (.pick (.t 91) (.c (.v (.bool true))) (.t 94))]) (.cond (.t 95) (.seq (.ops [q 4 (.mv (.c (.v (.bool false))))]) .ret) .skip)) (.seq (.ops [q 13 (.mv (.c (.v (.int .i64 1))))]) (.seq (.ops [q 96 (.ld (.t 9) 3),q 97 (.mv (.t 13)),q 98 (.call 24 [(.t 96),(.t 97)]),q 13 (.mv (.t 98))]) (.seq (.seq (.ops [q 99 (.mv (.t 13)),q 100 (.bin .lss (.t 99) (.c (.v (.int .i64 0))))]) (.cond (.t 100) (.seq (.ops [q 4 (.mv (.c (.v (.bool false))))]) .ret) .skip)) (.seq (.seq (.ops [q 101 (.mv (.t 13)),q 102 (.mv (.t 12)),q 103 (.bin .neq (.t 101) (.t 102))]) (.cond (.t 103) (.seq (.ops [q 4 (.mv (.c (.v (.bool false))))]) .ret) .skip)) (.seq (.ops [q 4 (.mv (.c (.v (.bool true))))]) .ret)))))))))))))))))))))))))⟩
theorem k4 : cF Try.prog Try.f4 = some c4 := by kernel_rfl
def c15 : AF := ⟨2,12,[(4,none)],(.seq (.ops [q 2 (.box (.t 0)),q 4 (.mv (.c (.v (.int .i64 0))))]) (.seq (.ops [q 5 (.fa (.t 2) 2),q 6 (.ld (.t 5) 0),q 7 (.mv (.t 1)),q 8 (.call 60 [(.t 6),(.t 7)]),q 1 (.mv (.t 8))]) (.seq (.seq (.ops [q 9 (.mv (.t 1)),q 10 (.bin .lss (.t 9) (.c (.v (.int .i64 0))))]) (.cond (.t 10) (.seq (.ops [q 4 (.mv (.c (.v (.int .i64 (-1)))))]) .ret) .skip)) (.seq (.ops [q 11 (.mv (.t 1)),q 4 (.mv (.t 11))]) .ret))))⟩
theorem k15 : cF Try.prog Try.f15 = some c15 := by kernel_rfl
def c17 : AF := ⟨1,15,[(2,(some 3))],(.seq (.ops [q 1 (.box (.t 0)),q 2 (.al [(.v (.int .i64 0)),(.v (.int .i64 0)),(.nil 0)])]) (.seq (.ops [q 3 (.al [(.v (.int .i64 0)),(.v (.int .i64 0)),(.nil 0)])]) (.seq (.ops [q 4 (.fa (.t 1) 0),q 5 (.ld (.t 4) 0),q 6 (.fa (.t 3) 0),⟨none,none,.st (.t 6) (.t 5) 0⟩]) (.seq (.ops [q 7 (.fa (.t 1) 1),q 8 (.ld (.t 7) 0),q 9 (.fa (.t 3) 1),⟨none,none,.st (.t 9) (.t 8) 0⟩]) (.seq (.ops [q 10 (.fa (.t 1) 2),q 11 (.ld (.t 10) 0),q 12 (.call 62 [(.t 11)]),q 13 (.fa (.t 3) 2),⟨none,none,.st (.t 13) (.t 12) 0⟩]) (.seq (.ops [q 14 (.ld (.t 3) 3),⟨none,none,.st (.t 2) (.t 14) 3⟩]) .ret))))))⟩
theorem k17 : cF Try.prog Try.f17 = some c17 := by kernel_rfl
def c19 : AF := ⟨2,21,[(4,none)],(.seq (.ops [q 2 (.box (.t 0)),q 3 (.box (.t 1)),q 4 (.mv (.c (.v (.bool false))))]) (.seq (.seq (.ops [q 5 (.fa (.t 2) 0),q 6 (.ld (.t 5) 0),q 7 (.fa (.t 3) 0),q 8 (.ld (.t 7) 0),q 9 (.bin .neq (.t 6) (.t 8))]) (.cond (.t 9) (.seq (.ops [q 4 (.mv (.c (.v (.bool false))))]) .ret) .skip)) (.seq (.seq (.ops [q 10 (.fa (.t 2) 1),q 11 (.ld (.t 10) 0),q 12 (.fa (.t 3) 1),q 13 (.ld (.t 12) 0),q 14 (.bin .neq (.t 11) (.t 13))]) (.cond (.t 14) (.seq (.ops [q 4 (.mv (.c (.v (.bool false))))]) .ret) .skip)) (.seq (.seq (.ops [q 15 (.fa (.t 2) 2),q 16 (.ld (.t 15) 0),q 17 (.fa (.t 3) 2),q 18 (.ld (.t 17) 0),q 19 (.call 64 [(.t 16),(.t 18)]),q 20 (.un .not (.t 19))]) (.cond (.t 20) (.seq (.ops [q 4 (.mv (.c (.v (.bool false))))]) .ret) .skip)) (.seq (.ops [q 4 (.mv (.c (.v (.bool true))))]) .ret)))))⟩
theorem k19 : cF Try.prog Try.f19 = some c19 := by kernel_rfl
def c20 : AF := ⟨2,71,[(4,(some 3)),(5,none)],(.seq (.ops [q 2 (.box (.t 0)),q 3 (.box (.t 1)),q 4 (.al [(.v (.int .i64 0)),(.v (.int .i64 0)),(.nil 0)]),q 5 (.mv (.c (.v (.int .i64 0))))]) (.seq (.block 0 (.seq (.ops [q 12 (.ld (.t 2) 3),q 13 (.call 48 [(.t 12)]),q 14 (.un .not (.t 13)),q 11 (.mv (.t 14))]) (.cond (.t 11) (.seq (.ops [q 15 (.bld [(.v (.int .i64 0)),(.v (.int .i64 0)),(.nil 0)] []),⟨none,none,.st (.t 4) (.t 15) 3⟩,q 5 (.mv (.c (.v (.int .i64 1))))]) .ret) (.seq (.ops [q 17 (.fa (.t 3) 2),q 18 (.ld (.t 17) 0),q 19 (.fa (.t 2) 1),q 20 (.ld (.t 19) 0),q 21 (.bin .sub (.t 20) (.c (.v (.int .i64 1)))),q 22 (.call 65 [(.t 18),(.c (.v (.int .i64 0))),(.t 21)]),q 23 (.un .not (.t 22)),q 16 (.mv (.t 23))]) (.cond (.t 16) (.seq (.ops [q 24 (.bld [(.v (.int .i64 0)),(.v (.int .i64 0)),(.nil 0)] []),⟨none,none,.st (.t 4) (.t 24) 3⟩,q 5 (.mv (.c (.v (.int .i64 2))))]) .ret) .skip))))) (.seq (.reg [0,1,0,4,0,16,48,112,255,0,1023] [q 25 (.fa (.t 2) 0),q 26 (.ld (.t 25) 0),q 27 (.fa (.t 2) 1),q 28 (.ld (.t 27) 0),q 29 (.fa (.t 2) 2),q 30 (.ld (.t 29) 0),q 31 (.len false (.t 30)),q 32 (.mk 0 2 8 (.int .i64 0) (.t 31) (.t 31)),q 33 (.bld [(.v (.int .i64 0)),(.v (.int .i64 0)),(.nil 0)] [(0,1,(.t 26)),(1,1,(.t 28)),(2,1,(.t 32))]),q 6 (.al [(.v (.int .i64 0)),(.v (.int .i64 0)),(.nil 0)]),⟨none,none,.st (.t 6) (.t 33) 3⟩]) (.seq (.seq (.ops [q 7 (.mv (.c (.v (.int .i64 0))))]) (.block 1 (.loop (.seq (.seq (.ops [q 34 (.mv (.t 7)),q 35 (.fa (.t 2) 0),q 36 (.ld (.t 35) 0),q 37 (.bin .lss (.t 34) (.t 36))]) (.cond (.t 37) .skip (.exit 1))) (.seq (.block 2 (.seq (.ops [q 8 (.mv (.c (.v (.int .i64 0))))]) (.block 3 (.loop (.seq (.seq (.ops [q 40 (.mv (.t 8)),q 41 (.fa (.t 2) 1),q 42 (.ld (.t 41) 0),q 43 (.bin .lss (.t 40) (.t 42))]) (.cond (.t 43) .skip (.exit 3))) (.seq (.block 4 (.seq (.ops [q 47 (.ld (.t 2) 3),q 48 (.ld (.t 3) 3),q 49 (.mv (.t 8)),q 50 (.mv (.t 7)),q 51 (.call 66 [(.t 47),(.t 48),(.t 49),(.t 50)]),q 46 (.mv (.t 51)),q 52 (.ext (.t 46) 0),q 53 (.ext (.t 46) 1),q 9 (.mv (.t 52)),q 10 (.mv (.t 53))]) (.reg [0,1,0,0,8,28,0,0,128,448,1020,0,0,0,15296,32767,65535] [q 54 (.fa (.t 6) 2),q 55 (.ld (.t 54) 0),q 56 (.mv (.t 10)),q 57 (.fa (.t 2) 1),q 58 (.ld (.t 57) 0),q 59 (.bin .mul (.t 56) (.t 58)),q 60 (.mv (.t 9)),q 61 (.fa (.t 2) 1),q 62 (.ld (.t 61) 0),q 63 (.call 68 [(.t 60),(.t 62)]),q 64 (.bin .add (.t 59) (.t 63)),q 65 (.ld (.t 2) 3),q 66 (.mv (.t 8)),q 67 (.mv (.t 7)),q 68 (.call 67 [(.t 65),(.t 66),(.t 67)]),q 69 (.ia (.t 55) (.t 64) 0),⟨none,none,.st (.t 69) (.t 68) 0⟩]))) (.ops [q 44 (.mv (.t 8)),q 45 (.bin .add (.t 44) (.c (.v (.int .i64 1)))),q 8 (.mv (.t 45))]))))))) (.ops [q 38 (.mv (.t 7)),q 39 (.bin .add (.t 38) (.c (.v (.int .i64 1)))),q 7 (.mv (.t 39))])))))) (.seq (.ops [q 70 (.ld (.t 6) 3),⟨none,none,.st (.t 4) (.t 70) 3⟩,q 5 (.mv (.c (.v (.int .i64 0))))]) .ret)))))⟩
theorem k20 : cF Try.prog Try.f20 = some c20 := by kernel_rfl
def c21 : AF := ⟨1,14,[(2,(some 3))],(.seq (.ops [q 1 (.box (.t 0)),q 2 (.al [(.v (.bool false)),(.v (.bool false)),(.v (.int .i64 0))])]) (.seq (.ops [q 3 (.al [(.v (.bool false)),(.v (.bool false)),(.v (.int .i64 0))])]) (.seq (.ops [q 4 (.fa (.t 1) 0),q 5 (.ld (.t 4) 0),q 6 (.fa (.t 3) 0),⟨none,none,.st (.t 6) (.t 5) 0⟩]) (.seq (.ops [q 7 (.fa (.t 1) 1),q 8 (.ld (.t 7) 0),q 9 (.fa (.t 3) 1),⟨none,none,.st (.t 9) (.t 8) 0⟩]) (.seq (.ops [q 10 (.fa (.t 1) 2),q 11 (.ld (.t 10) 0),q 12 (.fa (.t 3) 2),⟨none,none,.st (.t 12) (.t 11) 0⟩]) (.seq (.ops [q 13 (.ld (.t 3) 3),⟨none,none,.st (.t 2) (.t 13) 3⟩]) .ret))))))⟩
theorem k21 : cF Try.prog Try.f21 = some c21 := by kernel_rfl
def c22 : AF := ⟨2,66,[(4,(some 3)),(5,none)],(.seq (.ops [q 2 (.box (.t 0)),q 3 (.box (.t 1)),q 4 (.al [(.v (.int .i64 0)),(.v (.int .i64 0)),(.nil 0)]),q 5 (.mv (.c (.v (.int .i64 0))))]) (.seq (.seq (.ops [q 11 (.ld (.t 2) 3),q 12 (.call 47 [(.t 11)]),q 13 (.un .not (.t 12))]) (.cond (.t 13) (.seq (.ops [q 14 (.bld [(.v (.int .i64 0)),(.v (.int .i64 0)),(.nil 0)] []),⟨none,none,.st (.t 4) (.t 14) 3⟩,q 5 (.mv (.c (.v (.int .i64 1))))]) .ret) .skip)) (.seq (.seq (.ops [q 15 (.fa (.t 3) 2),q 16 (.ld (.t 15) 0),q 17 (.fa (.t 2) 1),q 18 (.ld (.t 17) 0),q 19 (.bin .sub (.t 18) (.c (.v (.int .i64 1)))),q 20 (.call 69 [(.t 16),(.c (.v (.int .i64 0))),(.t 19)]),q 21 (.un .not (.t 20))]) (.cond (.t 21) (.seq (.ops [q 22 (.bld [(.v (.int .i64 0)),(.v (.int .i64 0)),(.nil 0)] []),⟨none,none,.st (.t 4) (.t 22) 3⟩,q 5 (.mv (.c (.v (.int .i64 2))))]) .ret) .skip)) (.seq (.reg [0,1,0,4,0,16,48,112,255,0,1023] [q 23 (.fa (.t 2) 0),q 24 (.ld (.t 23) 0),q 25 (.fa (.t 2) 1),q 26 (.ld (.t 25) 0),q 27 (.fa (.t 2) 2),q 28 (.ld (.t 27) 0),q 29 (.len false (.t 28)),q 30 (.mk 0 2 8 (.int .i64 0) (.t 29) (.t 29)),q 31 (.bld [(.v (.int .i64 0)),(.v (.int .i64 0)),(.nil 0)] [(0,1,(.t 24)),(1,1,(.t 26)),(2,1,(.t 30))]),q 6 (.al [(.v (.int .i64 0)),(.v (.int .i64 0)),(.nil 0)]),⟨none,none,.st (.t 6) (.t 31) 3⟩]) (.seq (.seq (.ops [q 32 (.fa (.t 2) 0),q 33 (.ld (.t 32) 0),q 34 (.mv (.c (.v (.int .i64 0))))]) (.block 0 (.loop (.seq (.ops [q 35 (.bin .lss (.t 34) (.t 33))]) (.seq (.cond (.t 35) .skip (.exit 0)) (.seq (.block 1 (.seq (.ops [q 36 (.mv (.t 34)),q 7 (.mv (.t 36))]) (.seq (.ops [q 37 (.fa (.t 2) 1),q 38 (.ld (.t 37) 0),q 39 (.mv (.c (.v (.int .i64 0))))]) (.block 2 (.loop (.seq (.ops [q 40 (.bin .lss (.t 39) (.t 38))]) (.seq (.cond (.t 40) .skip (.exit 2)) (.seq (.block 3 (.seq (.ops [q 41 (.mv (.t 39)),q 8 (.mv (.t 41))]) (.seq (.ops [q 43 (.ld (.t 2) 3),q 44 (.ld (.t 3) 3),q 45 (.mv (.t 8)),q 46 (.mv (.t 7)),q 47 (.call 70 [(.t 43),(.t 44),(.t 45),(.t 46)]),q 42 (.mv (.t 47)),q 48 (.ext (.t 42) 0),q 49 (.ext (.t 42) 1),q 9 (.mv (.t 48)),q 10 (.mv (.t 49))]) (.reg [0,1,0,0,8,28,0,124,0,0,0,1792,4095,8191] [q 50 (.fa (.t 6) 2),q 51 (.ld (.t 50) 0),q 52 (.mv (.t 10)),q 53 (.fa (.t 2) 1),q 54 (.ld (.t 53) 0),q 55 (.bin .mul (.t 52) (.t 54)),q 56 (.mv (.t 9)),q 57 (.bin .add (.t 55) (.t 56)),q 58 (.ld (.t 2) 3),q 59 (.mv (.t 8)),q 60 (.mv (.t 7)),q 61 (.call 71 [(.t 58),(.t 59),(.t 60)]),q 62 (.ia (.t 51) (.t 57) 0),⟨none,none,.st (.t 62) (.t 61) 0⟩])))) (.ops [q 63 (.bin .add (.t 39) (.c (.v (.int .i64 1)))),q 39 (.mv (.t 63))]))))))))) (.ops [q 64 (.bin .add (.t 34) (.c (.v (.int .i64 1)))),q 34 (.mv (.t 64))]))))))) (.seq (.ops [q 65 (.ld (.t 6) 3),⟨none,none,.st (.t 4) (.t 65) 3⟩,q 5 (.mv (.c (.v (.int .i64 0))))]) .ret))))))⟩
theorem k22 : cF Try.prog Try.f22 = some c22 := by kernel_rfl
def c23 : AF := ⟨2,10,[(4,none)],(.seq (.ops [q 2 (.box (.t 0)),q 4 (.mv (.c (.v (.int .i64 0))))]) (.seq (.ops [q 5 (.fa (.t 2) 2),q 6 (.ld (.t 5) 0),q 7 (.mv (.t 1)),q 8 (.call 72 [(.t 6),(.t 7)]),q 1 (.mv (.t 8))]) (.seq (.ops [q 9 (.mv (.t 1)),q 4 (.mv (.t 9))]) .ret)))⟩
theorem k23 : cF Try.prog Try.f23 = some c23 := by kernel_rfl
def c24 : AF := ⟨2,12,[(4,none)],(.seq (.ops [q 2 (.box (.t 0)),q 4 (.mv (.c (.v (.int .i64 0))))]) (.seq (.ops [q 5 (.fa (.t 2) 2),q 6 (.ld (.t 5) 0),q 7 (.mv (.t 1)),q 8 (.call 73 [(.t 6),(.t 7)]),q 1 (.mv (.t 8))]) (.seq (.seq (.ops [q 9 (.mv (.t 1)),q 10 (.bin .lss (.t 9) (.c (.v (.int .i64 0))))]) (.cond (.t 10) (.seq (.ops [q 4 (.mv (.c (.v (.int .i64 (-1)))))]) .ret) .skip)) (.seq (.ops [q 11 (.mv (.t 1)),q 4 (.mv (.t 11))]) .ret))))⟩
theorem k24 : cF Try.prog Try.f24 = some c24 := by kernel_rfl
def c47 : AF := ⟨1,27,[(2,none)],(.seq (.ops [q 1 (.box (.t 0)),q 2 (.mv (.c (.v (.bool false))))]) (.seq (.ops [q 3 (.fa (.t 1) 0),q 4 (.ld (.t 3) 0),q 5 (.call 69 [(.t 4),(.c (.v (.int .i64 1))),(.c (.v (.int .i64 6)))]),q 6 (.mv (.t 5)),⟨(some 7),(some (6,true)),.fa (.t 1) 1⟩,⟨(some 8),(some (6,true)),.ld (.t 7) 0⟩,⟨(some 9),(some (6,true)),.call 69 [(.t 8),(.c (.v (.int .i64 1))),(.c (.v (.int .i64 24)))]⟩,q 10 (.pick (.t 6) (.t 9) (.c (.v (.bool false)))),q 11 (.mv (.t 10)),⟨(some 12),(some (11,true)),.fa (.t 1) 2⟩,⟨(some 13),(some (11,true)),.ld (.t 12) 0⟩,⟨(some 14),(some (11,true)),.len false (.t 13)⟩,⟨(some 15),(some (11,true)),.fa (.t 1) 0⟩,⟨(some 16),(some (11,true)),.ld (.t 15) 0⟩,⟨(some 17),(some (11,true)),.fa (.t 1) 1⟩,⟨(some 18),(some (11,true)),.ld (.t 17) 0⟩,⟨(some 19),(some (11,true)),.bin .mul (.t 16) (.t 18)⟩,⟨(some 20),(some (11,true)),.bin .eql (.t 14) (.t 19)⟩,q 21 (.pick (.t 11) (.t 20) (.c (.v (.bool false)))),q 22 (.mv (.t 21)),⟨(some 23),(some (22,true)),.fa (.t 1) 2⟩,⟨(some 24),(some (22,true)),.ld (.t 23) 0⟩,⟨(some 25),(some (22,true)),.call 88 [(.t 24),(.c (.v (.int .i64 0))),(.c (.v (.int .i64 9)))]⟩,q 26 (.pick (.t 22) (.t 25) (.c (.v (.bool false)))),q 2 (.mv (.t 26))]) .ret))⟩
theorem k47 : cF Try.prog Try.f47 = some c47 := by kernel_rfl
def c48 : AF := ⟨1,27,[(2,none)],(.seq (.ops [q 1 (.box (.t 0)),q 2 (.mv (.c (.v (.bool false))))]) (.seq (.ops [q 3 (.fa (.t 1) 0),q 4 (.ld (.t 3) 0),q 5 (.call 65 [(.t 4),(.c (.v (.int .i64 1))),(.c (.v (.int .i64 6)))]),q 6 (.mv (.t 5)),⟨(some 7),(some (6,true)),.fa (.t 1) 1⟩,⟨(some 8),(some (6,true)),.ld (.t 7) 0⟩,⟨(some 9),(some (6,true)),.call 65 [(.t 8),(.c (.v (.int .i64 1))),(.c (.v (.int .i64 24)))]⟩,q 10 (.pick (.t 6) (.t 9) (.c (.v (.bool false)))),q 11 (.mv (.t 10)),⟨(some 12),(some (11,true)),.fa (.t 1) 2⟩,⟨(some 13),(some (11,true)),.ld (.t 12) 0⟩,⟨(some 14),(some (11,true)),.len false (.t 13)⟩,⟨(some 15),(some (11,true)),.fa (.t 1) 0⟩,⟨(some 16),(some (11,true)),.ld (.t 15) 0⟩,⟨(some 17),(some (11,true)),.fa (.t 1) 1⟩,⟨(some 18),(some (11,true)),.ld (.t 17) 0⟩,⟨(some 19),(some (11,true)),.bin .mul (.t 16) (.t 18)⟩,⟨(some 20),(some (11,true)),.bin .eql (.t 14) (.t 19)⟩,q 21 (.pick (.t 11) (.t 20) (.c (.v (.bool false)))),q 22 (.mv (.t 21)),⟨(some 23),(some (22,true)),.fa (.t 1) 2⟩,⟨(some 24),(some (22,true)),.ld (.t 23) 0⟩,⟨(some 25),(some (22,true)),.call 89 [(.t 24),(.c (.v (.int .i64 144))),(.c (.v (.int .i64 0))),(.c (.v (.int .i64 9)))]⟩,q 26 (.pick (.t 22) (.t 25) (.c (.v (.bool false)))),q 2 (.mv (.t 26))]) .ret))⟩
theorem k48 : cF Try.prog Try.f48 = some c48 := by kernel_rfl
def c60 : AF := ⟨2,12,[(4,none)],(.seq (.ops [q 4 (.mv (.c (.v (.int .i64 0))))]) (.seq (.ops [q 5 (.mv (.t 1)),q 6 (.mv (.t 0)),q 7 (.len false (.t 6)),q 8 (.bin .sub (.t 5) (.t 7)),q 1 (.mv (.t 8))]) (.seq (.seq (.ops [q 9 (.mv (.t 1)),q 10 (.bin .lss (.t 9) (.c (.v (.int .i64 0))))]) (.cond (.t 10) (.seq (.ops [q 4 (.mv (.c (.v (.int .i64 (-1)))))]) .ret) .skip)) (.seq (.ops [q 11 (.mv (.t 1)),q 4 (.mv (.t 11))]) .ret))))⟩
theorem k60 : cF Try.prog Try.f60 = some c60 := by kernel_rfl
def c62 : AF := ⟨1,22,[(2,none)],(.seq (.ops [q 2 (.mv (.c (.nil 0)))]) (.seq (.ops [q 5 (.mv (.t 0)),q 6 (.len false (.t 5)),q 7 (.mk 0 2 8 (.int .i64 0) (.t 6) (.t 6)),q 3 (.mv (.t 7))]) (.seq (.seq (.ops [q 4 (.mv (.c (.v (.int .i64 0))))]) (.block 0 (.loop (.seq (.seq (.ops [q 8 (.mv (.t 4)),q 9 (.mv (.t 0)),q 10 (.len false (.t 9)),q 11 (.bin .lss (.t 8) (.t 10))]) (.cond (.t 11) .skip (.exit 0))) (.seq (.block 1 (.ops [q 14 (.mv (.t 3)),q 15 (.mv (.t 4)),q 16 (.mv (.t 0)),q 17 (.mv (.t 4)),q 18 (.ia (.t 16) (.t 17) 0),q 19 (.ld (.t 18) 0),q 20 (.ia (.t 14) (.t 15) 0),⟨none,none,.st (.t 20) (.t 19) 0⟩])) (.ops [q 12 (.mv (.t 4)),q 13 (.bin .add (.t 12) (.c (.v (.int .i64 1)))),q 4 (.mv (.t 13))])))))) (.seq (.ops [q 21 (.mv (.t 3)),q 2 (.mv (.t 21))]) .ret))))⟩
theorem k62 : cF Try.prog Try.f62 = some c62 := by kernel_rfl
def c64 : AF := ⟨2,26,[(4,none)],(.seq (.ops [q 4 (.mv (.c (.v (.bool false))))]) (.seq (.seq (.ops [q 6 (.mv (.t 0)),q 7 (.len false (.t 6)),q 8 (.mv (.t 1)),q 9 (.len false (.t 8)),q 10 (.bin .neq (.t 7) (.t 9))]) (.cond (.t 10) (.seq (.ops [q 4 (.mv (.c (.v (.bool false))))]) .ret) .skip)) (.seq (.seq (.ops [q 5 (.mv (.c (.v (.int .i64 0))))]) (.block 0 (.loop (.seq (.seq (.ops [q 11 (.mv (.t 5)),q 12 (.mv (.t 0)),q 13 (.len false (.t 12)),q 14 (.bin .lss (.t 11) (.t 13))]) (.cond (.t 14) .skip (.exit 0))) (.seq (.block 1 (.seq (.reg [0,0,3,7,0,0,48,112,255] [q 17 (.mv (.t 0)),q 18 (.mv (.t 5)),q 19 (.ia (.t 17) (.t 18) 0),q 20 (.ld (.t 19) 0),q 21 (.mv (.t 1)),q 22 (.mv (.t 5)),q 23 (.ia (.t 21) (.t 22) 0),q 24 (.ld (.t 23) 0),q 25 (.bin .neq (.t 20) (.t 24))]) (.cond (.t 25) (.seq (.ops [q 4 (.mv (.c (.v (.bool false))))]) .ret) .skip))) (.ops [q 15 (.mv (.t 5)),q 16 (.bin .add (.t 15) (.c (.v (.int .i64 1)))),q 5 (.mv (.t 16))])))))) (.seq (.ops [q 4 (.mv (.c (.v (.bool true))))]) .ret))))⟩
theorem k64 : cF Try.prog Try.f64 = some c64 := by kernel_rfl
def c65 : AF := ⟨3,15,[(6,none)],(.seq (.ops [q 6 (.mv (.c (.v (.bool false))))]) (.seq (.ops [q 7 (.mv (.t 0)),q 8 (.mv (.t 1)),q 9 (.bin .geq (.t 7) (.t 8)),q 10 (.mv (.t 9)),⟨(some 11),(some (10,true)),.mv (.t 0)⟩,⟨(some 12),(some (10,true)),.mv (.t 2)⟩,⟨(some 13),(some (10,true)),.bin .leq (.t 11) (.t 12)⟩,q 14 (.pick (.t 10) (.t 13) (.c (.v (.bool false)))),q 6 (.mv (.t 14))]) .ret))⟩
theorem k65 : cF Try.prog Try.f65 = some c65 := by kernel_rfl
def c66 : AF := ⟨4,26,[(8,none),(9,none)],(.seq (.ops [q 4 (.box (.t 0)),q 5 (.box (.t 1)),q 8 (.mv (.c (.v (.int .i64 0)))),q 9 (.mv (.c (.v (.int .i64 0))))]) (.seq (.seq (.ops [q 10 (.fa (.t 5) 0),q 11 (.ld (.t 10) 0)]) (.cond (.t 11) (.ops [q 12 (.mv (.t 2)),q 13 (.un .neg (.t 12)),q 2 (.mv (.t 13))]) .skip)) (.seq (.seq (.ops [q 14 (.fa (.t 5) 1),q 15 (.ld (.t 14) 0)]) (.cond (.t 15) (.ops [q 16 (.fa (.t 4) 0),q 17 (.ld (.t 16) 0),q 18 (.bin .sub (.t 17) (.c (.v (.int .i64 1)))),q 19 (.mv (.t 3)),q 20 (.bin .sub (.t 18) (.t 19)),q 3 (.mv (.t 20))]) .skip)) (.seq (.ops [q 21 (.fa (.t 5) 2),q 22 (.ld (.t 21) 0),q 23 (.mv (.t 2)),q 24 (.bin .add (.t 22) (.t 23)),q 25 (.mv (.t 3)),q 8 (.mv (.t 24)),q 9 (.mv (.t 25))]) .ret))))⟩
theorem k66 : cF Try.prog Try.f66 = some c66 := by kernel_rfl
def c67 : AF := ⟨3,20,[(6,none)],(.seq (.ops [q 3 (.box (.t 0)),q 6 (.mv (.c (.v (.int .i64 0))))]) (.seq (.reg [0,1,0,0,8,28,0,0,128,448,1020,2047,4095,8191] [q 7 (.fa (.t 3) 2),q 8 (.ld (.t 7) 0),q 9 (.mv (.t 2)),q 10 (.fa (.t 3) 1),q 11 (.ld (.t 10) 0),q 12 (.bin .mul (.t 9) (.t 11)),q 13 (.mv (.t 1)),q 14 (.fa (.t 3) 1),q 15 (.ld (.t 14) 0),q 16 (.call 68 [(.t 13),(.t 15)]),q 17 (.bin .add (.t 12) (.t 16)),q 18 (.ia (.t 8) (.t 17) 0),q 19 (.ld (.t 18) 0),q 6 (.mv (.t 19))]) .ret))⟩
theorem k67 : cF Try.prog Try.f67 = some c67 := by kernel_rfl
def c68 : AF := ⟨2,14,[(4,none)],(.seq (.ops [q 4 (.mv (.c (.v (.int .i64 0))))]) (.seq (.ops [q 5 (.mv (.t 0)),q 6 (.mv (.t 1)),q 7 (.bin .rem (.t 5) (.t 6)),q 0 (.mv (.t 7))]) (.seq (.seq (.ops [q 8 (.mv (.t 0)),q 9 (.bin .lss (.t 8) (.c (.v (.int .i64 0))))]) (.cond (.t 9) (.ops [q 10 (.mv (.t 0)),q 11 (.mv (.t 1)),q 12 (.bin .add (.t 10) (.t 11)),q 0 (.mv (.t 12))]) .skip)) (.seq (.ops [q 13 (.mv (.t 0)),q 4 (.mv (.t 13))]) .ret))))⟩
theorem k68 : cF Try.prog Try.f68 = some c68 := by kernel_rfl
def c69 : AF := ⟨3,15,[(6,none)],(.seq (.ops [q 6 (.mv (.c (.v (.bool false))))]) (.seq (.ops [q 7 (.mv (.t 0)),q 8 (.mv (.t 1)),q 9 (.bin .geq (.t 7) (.t 8)),q 10 (.mv (.t 9)),⟨(some 11),(some (10,true)),.mv (.t 0)⟩,⟨(some 12),(some (10,true)),.mv (.t 2)⟩,⟨(some 13),(some (10,true)),.bin .leq (.t 11) (.t 12)⟩,q 14 (.pick (.t 10) (.t 13) (.c (.v (.bool false)))),q 6 (.mv (.t 14))]) .ret))⟩
theorem k69 : cF Try.prog Try.f69 = some c69 := by kernel_rfl
def c70 : AF := ⟨4,29,[(8,none),(9,none)],(.seq (.ops [q 4 (.box (.t 0)),q 5 (.box (.t 1)),q 8 (.mv (.c (.v (.int .i64 0)))),q 9 (.mv (.c (.v (.int .i64 0))))]) (.seq (.seq (.ops [q 10 (.fa (.t 5) 0),q 11 (.ld (.t 10) 0)]) (.cond (.t 11) (.ops [q 12 (.mv (.t 2)),q 13 (.un .neg (.t 12)),q 2 (.mv (.t 13))]) .skip)) (.seq (.seq (.ops [q 14 (.fa (.t 5) 1),q 15 (.ld (.t 14) 0)]) (.cond (.t 15) (.ops [q 16 (.fa (.t 4) 0),q 17 (.ld (.t 16) 0),q 18 (.bin .sub (.t 17) (.c (.v (.int .i64 1)))),q 19 (.mv (.t 3)),q 20 (.bin .sub (.t 18) (.t 19)),q 3 (.mv (.t 20))]) .skip)) (.seq (.ops [q 21 (.mv (.t 2)),q 22 (.fa (.t 5) 2),q 23 (.ld (.t 22) 0),q 24 (.bin .add (.t 21) (.t 23)),q 25 (.fa (.t 4) 1),q 26 (.ld (.t 25) 0),q 27 (.call 105 [(.t 24),(.t 26)]),q 28 (.mv (.t 3)),q 8 (.mv (.t 27)),q 9 (.mv (.t 28))]) .ret))))⟩
theorem k70 : cF Try.prog Try.f70 = some c70 := by kernel_rfl
def c71 : AF := ⟨3,20,[(6,none)],(.seq (.ops [q 3 (.box (.t 0)),q 6 (.mv (.c (.v (.int .i64 0))))]) (.seq (.reg [0,1,0,0,8,28,0,0,128,448,1020,2047,4095,8191] [q 7 (.fa (.t 3) 2),q 8 (.ld (.t 7) 0),q 9 (.mv (.t 2)),q 10 (.fa (.t 3) 1),q 11 (.ld (.t 10) 0),q 12 (.bin .mul (.t 9) (.t 11)),q 13 (.mv (.t 1)),q 14 (.fa (.t 3) 1),q 15 (.ld (.t 14) 0),q 16 (.call 105 [(.t 13),(.t 15)]),q 17 (.bin .add (.t 12) (.t 16)),q 18 (.ia (.t 8) (.t 17) 0),q 19 (.ld (.t 18) 0),q 6 (.mv (.t 19))]) .ret))⟩
theorem k71 : cF Try.prog Try.f71 = some c71 := by kernel_rfl
def c72 : AF := ⟨2,19,[(4,none)],(.seq (.ops [q 4 (.mv (.c (.v (.int .i64 0))))]) (.seq (.seq (.ops [q 5 (.mv (.c (.v (.int .i64 0))))]) (.block 0 (.loop (.seq (.seq (.ops [q 6 (.mv (.t 5)),q 7 (.mv (.t 0)),q 8 (.len false (.t 7)),q 9 (.bin .lss (.t 6) (.t 8))]) (.cond (.t 9) .skip (.exit 0))) (.seq (.block 1 (.seq (.ops [q 12 (.mv (.t 0)),q 13 (.mv (.t 5)),q 14 (.mv (.t 1)),q 15 (.ia (.t 12) (.t 13) 0),⟨none,none,.st (.t 15) (.t 14) 0⟩]) (.ops [q 16 (.mv (.t 1)),q 17 (.bin .add (.t 16) (.c (.v (.int .i64 1)))),q 1 (.mv (.t 17))]))) (.ops [q 10 (.mv (.t 5)),q 11 (.bin .add (.t 10) (.c (.v (.int .i64 1)))),q 5 (.mv (.t 11))])))))) (.seq (.ops [q 18 (.mv (.t 1)),q 4 (.mv (.t 18))]) .ret)))⟩
theorem k72 : cF Try.prog Try.f72 = some c72 := by kernel_rfl
def c73 : AF := ⟨2,21,[(4,none)],(.seq (.ops [q 4 (.mv (.c (.v (.int .i64 0))))]) (.seq (.seq (.ops [q 5 (.mv (.c (.v (.int .i64 0))))]) (.block 0 (.loop (.seq (.seq (.ops [q 6 (.mv (.t 5)),q 7 (.mv (.t 0)),q 8 (.len false (.t 7)),q 9 (.bin .lss (.t 6) (.t 8))]) (.cond (.t 9) .skip (.exit 0))) (.seq (.block 1 (.seq (.seq (.ops [q 12 (.mv (.t 0)),q 13 (.mv (.t 5)),q 14 (.ia (.t 12) (.t 13) 0),q 15 (.ld (.t 14) 0),q 16 (.mv (.t 1)),q 17 (.bin .neq (.t 15) (.t 16))]) (.cond (.t 17) (.seq (.ops [q 4 (.mv (.c (.v (.int .i64 (-1)))))]) .ret) .skip)) (.ops [q 18 (.mv (.t 1)),q 19 (.bin .add (.t 18) (.c (.v (.int .i64 1)))),q 1 (.mv (.t 19))]))) (.ops [q 10 (.mv (.t 5)),q 11 (.bin .add (.t 10) (.c (.v (.int .i64 1)))),q 5 (.mv (.t 11))])))))) (.seq (.ops [q 20 (.mv (.t 1)),q 4 (.mv (.t 20))]) .ret)))⟩
theorem k73 : cF Try.prog Try.f73 = some c73 := by kernel_rfl
def c88 : AF := ⟨3,11,[(6,none)],(.seq (.ops [q 4 (.box (.t 1)),q 5 (.box (.t 2)),q 6 (.mv (.c (.v (.bool false))))]) (.seq (.ops [q 7 (.mv (.t 0)),q 8 (.mkf 108 [(.t 4),(.t 5)]),q 9 (.call 107 [(.t 7),(.t 8)]),q 10 (.un .not (.t 9)),q 6 (.mv (.t 10))]) .ret))⟩
theorem k88 : cF Try.prog Try.f88 = some c88 := by kernel_rfl
def c89 : AF := ⟨4,28,[(8,none)],(.seq (.ops [q 8 (.mv (.c (.v (.bool false))))]) (.seq (.seq (.ops [q 9 (.mv (.c (.v (.int .i64 0))))]) (.block 0 (.loop (.seq (.seq (.ops [q 10 (.mv (.t 9)),q 11 (.mv (.t 0)),q 12 (.len false (.t 11)),q 13 (.bin .lss (.t 10) (.t 12))]) (.cond (.t 13) .skip (.exit 0))) (.seq (.block 1 (.seq (.ops [q 16 (.mv (.t 0)),q 17 (.mv (.t 9)),q 18 (.ia (.t 16) (.t 17) 0),q 19 (.ld (.t 18) 0),q 20 (.mv (.t 2)),q 21 (.mv (.t 3)),q 22 (.call 65 [(.t 19),(.t 20),(.t 21)]),q 23 (.un .not (.t 22))]) (.cond (.t 23) (.seq (.ops [q 8 (.mv (.c (.v (.bool false))))]) .ret) .skip))) (.ops [q 14 (.mv (.t 9)),q 15 (.bin .add (.t 14) (.c (.v (.int .i64 1)))),q 9 (.mv (.t 15))])))))) (.seq (.ops [q 24 (.mv (.t 0)),q 25 (.len false (.t 24)),q 26 (.mv (.t 1)),q 27 (.bin .leq (.t 25) (.t 26)),q 8 (.mv (.t 27))]) .ret)))⟩
theorem k89 : cF Try.prog Try.f89 = some c89 := by kernel_rfl
def c105 : AF := ⟨2,12,[(4,none)],(.seq (.ops [q 4 (.mv (.c (.v (.int .i64 0))))]) (.seq (.ops [q 5 (.mv (.t 0)),q 6 (.mv (.t 1)),q 7 (.bin .rem (.t 5) (.t 6)),q 8 (.mv (.t 1)),q 9 (.bin .add (.t 7) (.t 8)),q 10 (.mv (.t 1)),q 11 (.bin .rem (.t 9) (.t 10)),q 4 (.mv (.t 11))]) .ret))⟩
theorem k105 : cF Try.prog Try.f105 = some c105 := by kernel_rfl
def c107 : AF := ⟨2,9,[(4,none)],(.seq (.ops [q 4 (.mv (.c (.v (.bool false))))]) (.seq (.ops [q 5 (.mv (.t 0)),q 6 (.mv (.t 1)),q 7 (.call 119 [(.t 5),(.t 6)]),q 8 (.bin .geq (.t 7) (.c (.v (.int .i64 0)))),q 4 (.mv (.t 8))]) .ret))⟩
theorem k107 : cF Try.prog Try.f107 = some c107 := by kernel_rfl
def c108 : AF := ⟨1,10,[(4,none)],(.seq (.ops [q 4 (.mv (.c (.v (.bool false))))]) (.seq (.ops [q 5 (.mv (.t 0)),q 6 (.ld (.t 1) 0),q 7 (.ld (.t 2) 0),q 8 (.call 69 [(.t 5),(.t 6),(.t 7)]),q 9 (.un .not (.t 8)),q 4 (.mv (.t 9))]) .ret))⟩
theorem k108 : cF Try.prog Try.f108 = some c108 := by kernel_rfl
def c119 : AF := ⟨2,19,[(4,none)],(.seq (.ops [q 4 (.mv (.c (.v (.int .i64 0))))]) (.seq (.seq (.ops [q 6 (.mv (.t 0)),q 7 (.len false (.t 6)),q 8 (.mv (.c (.v (.int .i64 0))))]) (.block 0 (.loop (.seq (.ops [q 9 (.bin .lss (.t 8) (.t 7))]) (.seq (.cond (.t 9) .skip (.exit 0)) (.seq (.block 1 (.seq (.ops [q 10 (.mv (.t 8)),q 5 (.mv (.t 10))]) (.seq (.ops [q 11 (.mv (.t 1)),q 12 (.mv (.t 0)),q 13 (.mv (.t 5)),q 14 (.ia (.t 12) (.t 13) 0),q 15 (.ld (.t 14) 0),q 16 (.callv (.t 11) [(.t 15)])]) (.cond (.t 16) (.seq (.ops [q 17 (.mv (.t 5)),q 4 (.mv (.t 17))]) .ret) .skip)))) (.ops [q 18 (.bin .add (.t 8) (.c (.v (.int .i64 1)))),q 8 (.mv (.t 18))]))))))) (.seq (.ops [q 4 (.mv (.c (.v (.int .i64 (-1)))))]) .ret)))⟩
theorem k119 : cF Try.prog Try.f119 = some c119 := by kernel_rfl
end Go.Proofs.YtjjockhekaccnaaEv
namespace Go.Proofs.YtjjockhekaccnaaEv
open Go Go.Proofs
theorem mixed : Try.prog.follows .mixedOrders = true := by kernel_rfl
abbrev vi (n : Int) : A := .v (.int .i64 n)
abbrev vb (b : Bool) : A := .v (.bool b)
def is (l : List Int) : List V := l.map fun y => .int .i64 y
abbrev vis (l : List Int) : V := .sl 0 (is l)
abbrev no : Nat → Bool := fun _ => false
@[simp] theorem is_set (l : List Int) (n : Nat) (v : Int) : (is l).set n (.int .i64 v) = is (l.set n v) := by simp [is, List.map_set]
@[simp] theorem is_len (l : List Int) : (is l).length = l.length := by simp [is]
@[simp] theorem is_get (l : List Int) (n : Nat) (K : V → Prop) : fA ((is l)[n]?) K = ∀ a, l[n]? = some a → K (.int .i64 a) := by unfold is; exact fA_map
@[simp] theorem is_rep (n : Nat) (k : Int) : List.replicate n (V.int .i64 k) = is (List.replicate n k) := by simp [is]
@[simp] theorem is_app (l : List Int) (v : Int) : is l ++ [.int .i64 v] = is (l ++ [v]) := by simp [is]
@[simp] theorem is_flat (l : List Int) : (∀ x, x ∈ is l → x.flat = true) ↔ True := by
  simp only [iff_true]
  intro x hx
  obtain ⟨y, _, rfl⟩ := List.mem_map.1 hx
  rfl
@[simp] theorem is_inj (a b : List Int) : is a = is b ↔ a = b := by
  constructor
  · intro h
    exact (List.map_inj_right (fun x y e => by cases e; rfl)).1 h
  · rintro rfl; rfl
theorem fill_set {α : Type} {l : List α} {i : Nat} {z a : α} (h : l[i]? = some a) : (l.take i ++ List.replicate (l.length - i) z).set i a = l.take (i + 1) ++ List.replicate (l.length - (i + 1)) z := by
  obtain ⟨h1, rfl⟩ := List.getElem?_eq_some_iff.1 h
  have e : (l.take i).length = i := by simp; omega
  have e2 : l.take (i + 1) = l.take i ++ [l[i]] := by rw [List.take_add_one, h]; rfl
  rw [show l.length - i = (l.length - (i + 1)) + 1 by omega, List.replicate_succ, List.set_append_right _ _ (by omega), e, Nat.sub_self, List.set_cons_zero, e2, List.append_assoc]
  rfl
theorem mLen : maxLen = 9223372036854775807 := by decide
set_option maxRecDepth 10000
theorem s_sz (l : List Int) (n : Int) (h : l.length ≤ maxLen) (hn : 0 ≤ n ∧ n ≤ 1048576) : Sp Try.prog 60 [.v (vis l), vi n] (vi (if n < l.length then -1 else n - l.length)) [] := by
  refine sp_of (m := no) mixed Try.func60 k60 ?_
  rw [mLen] at h
  simp -dsimp [q]
  rw [w64 (by omega) (by omega)]
  constructor
  · intro h1 h2; omega
  · intro h1; rw [if_neg (by omega)]
theorem s_to (l : List Int) (h : l.length ≤ 1048576) : Sp Try.prog 62 [.v (vis l)] (.sli 0) [.row 0 2 (is l)] := by
  refine sp_of (m := no) mixed Try.func62 k62 ?_
  simp -dsimp [q]
  refine ⟨by omega, ?_⟩
  refine awp_it (true :: false :: false :: true :: true :: []) (fun i : Nat => [(4, vi i)]) (fun i => [(0, .row 0 2 (is (l.take i ++ List.replicate (l.length - i) 0)))]) (fun i => i ≤ l.length) (fun i => l.length - i) 0 ?_
  intro s0 e
  simp -dsimp at e
  subst e
  refine ⟨?_, ?_⟩
  · simp
  intro i hi
  simp -dsimp
  refine ⟨fun h1 => ⟨h1, fun a ha => ⟨by omega, by omega, i + 1, ⟨by rw [w64 (by omega) (by omega)]; simp, ?_⟩, by omega, by omega⟩⟩, fun h1 => ?_⟩
  · exact fill_set ha
  · have : i = l.length := by omega
    subst this
    simp
theorem s_eq (xs ys : List Int) (hx : xs.length ≤ 1048576) : Sp Try.prog 64 [.v (vis xs), .v (vis ys)] (vb (decide (xs = ys))) [] := by
  refine sp_of (m := no) mixed Try.func64 k64 ?_
  simp -dsimp [q]
  refine ⟨fun h e => h (by rw [e]), fun hl => ?_⟩
  refine awp_it (true :: true :: false :: false :: false :: true :: []) (fun i : Nat => [(5, vi i)]) (fun i => []) (fun i => i ≤ xs.length ∧ xs.take i = ys.take i) (fun i => xs.length - i) 0 ?_
  intro s0 e
  simp -dsimp at e
  subst e
  refine ⟨?_, ?_⟩
  · simp
  intro i hi
  simp -dsimp
  obtain ⟨hi, ht⟩ := hi
  refine ⟨fun h1 => ⟨h1, fun a ha => ⟨by omega, fun b hb => ⟨fun hn e => ?_, fun e => ⟨i + 1, by rw [w64 (by omega) (by omega)]; simp, ⟨by omega, ?_⟩, by omega⟩⟩⟩⟩, fun h1 => ?_⟩
  · subst e
    rw [ha] at hb
    cases hb
    exact hn rfl
  · subst e
    rw [List.take_add_one, List.take_add_one, ht, ha, hb]
  · have h2 : i = xs.length := by omega
    subst h2
    rw [List.take_length, List.take_of_length_le (by omega)] at ht
    exact ht
theorem s_mark (xs : List Int) (k : Int) (hx : xs.length ≤ 1048576) (hk : 0 ≤ k ∧ k ≤ 1000000000) (t : Nat) : SpG Try.prog 72 [.sli 0, vi k] [.row 0 t (is xs)] (vi (k + xs.length)) [.row 0 t (is ((List.range xs.length).map fun i : Nat => k + i))] := by
  refine sg_of (m := no) mixed Try.func72 k72 ?_
  simp -dsimp [q]
  refine awp_it (true :: true :: false :: false :: false :: true :: []) (fun i : Nat => [(1, vi (k + i)), (5, vi i)]) (fun i => [(0, .row 0 t (is (((List.range i).map fun i : Nat => k + i) ++ xs.drop i)))]) (fun i => i ≤ xs.length) (fun i => xs.length - i) 0 ?_
  intro s0 e
  simp -dsimp at e
  subst e
  refine ⟨?_, ?_⟩
  · simp
  intro i hi
  simp -dsimp
  refine ⟨fun h1 => ⟨h1, by omega, i + 1, ⟨⟨by rw [w64 (by omega) (by omega)]; simp; omega, by rw [w64 (by omega) (by omega)]; simp⟩, ?_⟩, by omega, by omega⟩, fun h1 => ?_⟩
  · rw [List.range_succ, List.map_append, List.append_assoc]
    congr 1
    rw [List.drop_eq_getElem_cons (show i < xs.length by omega), List.set_cons_zero]
    rfl
  · have : i = xs.length := by omega
    subst this
    simp
theorem s_held (xs : List Int) (k : Int) (hx : xs.length ≤ 1048576) (hk : 0 ≤ k ∧ k ≤ 1000000000) (h : xs = (List.range xs.length).map fun i : Nat => k + i) (t : Nat) : SpG Try.prog 73 [.sli 0, vi k] [.row 0 t (is xs)] (vi (k + xs.length)) [.row 0 t (is xs)] := by
  refine sg_of (m := no) mixed Try.func73 k73 ?_
  simp -dsimp [q]
  refine awp_it (true :: true :: false :: false :: false :: true :: []) (fun i : Nat => [(1, vi (k + i)), (5, vi i)]) (fun i => []) (fun i => i ≤ xs.length) (fun i => xs.length - i) 0 ?_
  intro s0 e
  simp -dsimp at e
  subst e
  refine ⟨?_, ?_⟩
  · simp
  intro i hi
  simp -dsimp
  have hx : ∀ a : Int, xs[i]? = some a → a = k + i := fun a ha => by
    rw [h, List.getElem?_map] at ha
    have hi : i < xs.length := by
      have := (List.getElem?_eq_some_iff.1 (show (List.map (fun i : Nat => k + (i : Int)) (List.range xs.length))[i]? = some a by rw [List.getElem?_map]; exact ha)).1
      simpa using this
    rw [List.getElem?_range hi] at ha
    simpa using ha.symm
  refine ⟨fun h1 => ⟨h1, fun a ha => ⟨fun hn => absurd (hx a ha) hn, fun _ => ⟨i + 1, ⟨by rw [w64 (by omega) (by omega)]; simp; omega, by rw [w64 (by omega) (by omega)]; simp⟩, by omega, by omega⟩⟩⟩, fun h1 => ?_⟩
  have : i = xs.length := by omega
  subst this
  simp
end Go.Proofs.YtjjockhekaccnaaEv
namespace Go.Proofs.YtjjockhekaccnaaEv
open Go Go.Proofs
set_option maxRecDepth 10000
theorem toArgs_shut {h : List Ck} : ∀ {cs : List A}, cs.all A.shut = true → toArgs h cs = some (cs, [])
  | [], _ => rfl
  | c :: cs, hc => by
    simp only [List.all_cons, Bool.and_eq_true] at hc
    have := toArgs_shut (h := h) hc.2
    cases c <;> first | (simp [toArgs, toArg, toArg1, this]; done) | (have := hc.1; cases this)
theorem s_within (n a b : Int) : Sp Try.prog 69 [vi n, vi a, vi b] (vb (decide (a ≤ n ∧ n ≤ b))) [] := by
  refine sp_of (m := no) mixed Try.func69 k69 ?_
  simp -dsimp [q]
  constructor
  · intro h _; exact h
  · intro h1 h2; omega
theorem s_in (n a b : Int) : Sp Try.prog 65 [vi n, vi a, vi b] (vb (decide (a ≤ n ∧ n ≤ b))) [] := by
  refine sp_of (m := no) mixed Try.func65 k65 ?_
  simp -dsimp [q]
  constructor
  · intro h _; exact h
  · intro h1 h2; omega
theorem tmod_lt {a b : Int} (hb : 0 < b) : -b < a.tmod b ∧ a.tmod b < b := by
  rw [Int.tmod_eq_emod]
  have h1 := Int.emod_nonneg a (show b ≠ 0 by omega)
  have h2 := Int.emod_lt_of_pos a hb
  have h3 : (b.natAbs : Int) = b := by omega
  split <;> omega
theorem mod_a {a b : Int} (hb : 0 < b) (h : a.tmod b < 0) : a.tmod b + b = a % b := by
  rw [Int.tmod_eq_emod] at h ⊢
  have h1 := Int.emod_nonneg a (show b ≠ 0 by omega)
  have h3 : (b.natAbs : Int) = b := by omega
  split at h <;> rename_i hc
  · omega
  · rw [if_neg hc]; omega
theorem mod_b {a b : Int} (hb : 0 < b) (h : 0 ≤ a.tmod b) : a.tmod b = a % b := by
  rw [Int.tmod_eq_emod] at h ⊢
  have h1 := Int.emod_lt_of_pos a hb
  have h3 : (b.natAbs : Int) = b := by omega
  split at h <;> rename_i hc
  · rw [if_pos hc]; omega
  · rw [if_neg hc]; omega
theorem s_mod (a b : Int) (hb : 0 < b ∧ b ≤ 1000000) : Sp Try.prog 105 [vi a, vi b] (vi (a % b)) [] := by
  refine sp_of (m := no) mixed Try.func105 k105 ?_
  simp -dsimp [q]
  have h1 := tmod_lt (a := a) hb.1
  refine ⟨by omega, ?_⟩
  rw [w64 (by omega) (by omega), mod_b hb.1 (Int.tmod_nonneg _ (by omega))]
  by_cases h : a.tmod b < 0
  · rw [mod_a hb.1 h, Int.emod_emod_of_dvd _ (Int.dvd_refl b)]
  · rw [mod_b hb.1 (by omega)]
    simp
theorem s_smod (a b : Int) (hb : 0 < b ∧ b ≤ 1000000) : Sp Try.prog 68 [vi a, vi b] (vi (a % b)) [] := by
  refine sp_of (m := no) mixed Try.func68 k68 ?_
  simp -dsimp [q]
  have h1 := tmod_lt (a := a) hb.1
  refine ⟨by omega, fun h => ?_, fun h => mod_b hb.1 h⟩
  rw [w64 (by omega) (by omega), mod_a hb.1 h]
theorem s_nw (n lo hi : Int) : Sp Try.prog 108 [vi n, .fq [.int .i64 lo], .fq [.int .i64 hi]] (vb (!decide (lo ≤ n ∧ n ≤ hi))) [] := by
  refine sp_of (m := no) mixed Try.func108 k108 ?_
  simp -dsimp [q]
  exact call_of (s_within n lo hi) rfl (by simp) (by simp -dsimp)
theorem s_fi (l : List Int) (f : Nat) (cs : List A) (p : Int → Bool) (h : l.length ≤ 1048576) (hc : cs.all A.shut = true) (hf : ∀ n ∈ l, Sp Try.prog f (vi n :: cs) (vb (p n)) []) : Sp Try.prog 119 [.v (vis l), .fn f cs] (vi (if l.any p = true then l.findIdx p else -1)) [] := by
  refine sp_of (m := no) mixed Try.func119 k119 ?_
  simp -dsimp [q]
  refine awp_it (true :: true :: false :: false :: false :: false :: false :: true :: true :: []) (fun i : Nat => [(8, vi i)]) (fun i => []) (fun i => i ≤ l.length ∧ (l.take i).any p = false) (fun i => l.length - i) 0 ?_
  intro s0 e
  simp -dsimp [hc] at e
  subst e
  refine ⟨?_, ?_⟩
  · simp [hc]
  intro i hi
  simp -dsimp [hc]
  refine ⟨fun h1 => ⟨h1, fun a ha => call_of (rd := []) (hf a (List.mem_of_getElem? ha)) (by simp [toArgs_shut hc]) (by simp) ?_⟩, fun h1 => ?_⟩
  · simp -dsimp [hc]
    have hi2 : ∀ x ∈ l.take i, p x = false := fun x hx => by
      have := List.any_eq_false.1 hi.2 x hx
      simpa using this
    obtain ⟨_, hal⟩ := List.getElem?_eq_some_iff.1 ha
    refine ⟨fun hp => ?_, fun hp => ⟨i + 1, by rw [w64 (by omega) (by omega)]; simp, ⟨by omega, fun x hx => ?_⟩, by omega⟩⟩
    · rw [if_pos ⟨a, List.mem_of_getElem? ha, hp⟩, (List.findIdx_eq h1).2 ⟨by rw [hal]; exact hp, fun j hj => hi2 _ (List.mem_iff_getElem.2 ⟨j, by simp; omega, by simp⟩)⟩]
    · rw [List.take_add_one, ha] at hx
      rcases List.mem_append.1 hx with hx | hx
      · exact hi2 x hx
      · simp at hx; rw [hx]; exact hp
  · have := hi.2
    rw [List.take_of_length_le h1] at this
    intro x hx
    simpa using List.any_eq_false.1 this x hx
theorem s_has (l : List Int) (f : Nat) (cs : List A) (p : Int → Bool) (h : l.length ≤ 1048576) (hc : cs.all A.shut = true) (hf : ∀ n ∈ l, Sp Try.prog f (vi n :: cs) (vb (p n)) []) : Sp Try.prog 107 [.v (vis l), .fn f cs] (vb (l.any p)) [] := by
  refine sp_of (m := no) mixed Try.func107 k107 ?_
  simp -dsimp [q]
  refine call_of (rd := []) (s_fi l f cs p h hc hf) (by simp [hc]) (by simp) ?_
  simp -dsimp
  by_cases hp : l.any p = true
  · rw [hp, if_pos (by simpa using hp)]
    simp
  · rw [if_neg (by simpa using hp)]
    simp at hp
    simpa using hp
theorem s_all (l : List Int) (lo hi : Int) (h : l.length ≤ 1048576) : Sp Try.prog 88 [.v (vis l), vi lo, vi hi] (vb (l.all fun n => decide (lo ≤ n ∧ n ≤ hi))) [] := by
  refine sp_of (m := no) mixed Try.func88 k88 ?_
  simp -dsimp [q]
  refine call_of (rd := []) (s_has l _ _ _ h rfl fun n _ => s_nw n lo hi) rfl (by simp) ?_
  simp -dsimp
  induction l with
  | nil => rfl
  | cons x l ih => simp [ih (by simp at h; omega)]
end Go.Proofs.YtjjockhekaccnaaEv
namespace Go.Proofs.YtjjockhekaccnaaEv
open Go Go.Proofs
set_option maxRecDepth 10000
abbrev vF (h w : Int) (c : List Int) : A := .v (.ag [.int .i64 h, .int .i64 w, vis c])
abbrev oF (h w : Int) (i : Nat) : A := .ag [vi h, vi w, .sli i]
abbrev vFM (x y : Bool) (d : Int) : A := .v (.ag [.bool x, .bool y, .int .i64 d])
theorem s_szF (h w : Int) (c : List Int) (n : Int) (hc : c.length ≤ maxLen) (hn : 0 ≤ n ∧ n ≤ 1048576) : Sp Try.prog 15 [vF h w c, vi n] (vi (if n < c.length then -1 else n - c.length)) [] := by
  refine sp_of (m := no) mixed Try.func15 k15 ?_
  simp -dsimp [q]
  refine call_of (rd := []) (s_sz c n hc hn) rfl (by simp) ?_
  simp -dsimp
  split <;> omega
theorem s_toF (h w : Int) (c : List Int) (hc : c.length ≤ 1048576) : Sp Try.prog 17 [vF h w c] (oF h w 0) [.row 0 2 (is c)] := by
  refine sp_of (m := no) mixed Try.func17 k17 ?_
  simp -dsimp [q]
  refine call_of (rd := []) (s_to c hc) (by simp) (by simp) ?_
  simp -dsimp
theorem s_toM (x y : Bool) (d : Int) : Sp Try.prog 21 [vFM x y d] (vFM x y d) [] := by
  refine sp_of (m := no) mixed Try.func21 k21 ?_
  simp -dsimp [q]
theorem s_eqF (h w : Int) (c : List Int) (h' w' : Int) (c' : List Int) (hc : c.length ≤ 1048576) : Sp Try.prog 19 [vF h w c, vF h' w' c'] (vb (decide (h = h' ∧ w = w' ∧ c = c'))) [] := by
  refine sp_of (m := no) mixed Try.func19 k19 ?_
  simp -dsimp [q]
  refine ⟨fun a1 a2 => absurd a2 a1, fun a1 => ⟨fun b1 _ b2 => absurd b2 b1, fun b1 => call_of (rd := []) (s_eq c c' hc) rfl (by simp) ?_⟩⟩
  simp -dsimp
  exact ⟨fun h _ _ => h, fun h => ⟨a1, b1, h⟩⟩
theorem s_markF (h w : Int) (c : List Int) (k : Int) (t : Nat) (hc : c.length ≤ 1048576) (hk : 0 ≤ k ∧ k ≤ 1000000000) : SpG Try.prog 23 [oF h w 0, vi k] [.row 0 t (is c)] (vi (k + c.length)) [.row 0 t (is ((List.range c.length).map fun i : Nat => k + i))] := by
  refine sg_of (m := fun f => f == 72) mixed Try.func23 k23 ?_
  simp -dsimp [q]
  refine callM_of (L := [0]) rfl (s_mark c k hc hk t) (by simp) ?_
  simp -dsimp
theorem s_heldF (h w : Int) (c : List Int) (k : Int) (t : Nat) (hc : c.length ≤ 1048576) (hk : 0 ≤ k ∧ k ≤ 1000000000) (hh : c = (List.range c.length).map fun i : Nat => k + i) : SpG Try.prog 24 [oF h w 0, vi k] [.row 0 t (is c)] (vi (k + c.length)) [.row 0 t (is c)] := by
  refine sg_of (m := fun f => f == 73) mixed Try.func24 k24 ?_
  simp -dsimp [q]
  refine callM_of (L := [0]) rfl (s_held c k hc hk hh t) (by simp) ?_
  simp -dsimp
  intro hneg
  omega
end Go.Proofs.YtjjockhekaccnaaEv
namespace Go.Proofs.YtjjockhekaccnaaEv
open Go Go.Proofs
set_option maxRecDepth 10000
def okF (h w : Int) (c : List Int) : Bool := decide (1 ≤ h ∧ h ≤ 6) && decide (1 ≤ w ∧ w ≤ 24) && decide ((c.length : Int) = h * w) && c.all fun n => decide (0 ≤ n ∧ n ≤ 9)
theorem hw_le {h w : Int} (hh : 1 ≤ h ∧ h ≤ 6) (hw : 1 ≤ w ∧ w ≤ 24) : 1 ≤ h * w ∧ h * w ≤ 144 := by
  have h1 : h * w ≤ 6 * 24 := Int.mul_le_mul hh.2 hw.2 (by omega) (by omega)
  have h2 : 1 * 1 ≤ h * w := Int.mul_le_mul hh.1 hw.1 (by omega) (by omega)
  omega
theorem s_isF (h w : Int) (c : List Int) (hc : c.length ≤ 1048576) : Sp Try.prog 47 [vF h w c] (vb (okF h w c)) [] := by
  refine sp_of (m := no) mixed Try.func47 k47 ?_
  have w1 := s_within h 1 6
  have w2 := s_within w 1 24
  have w3 := s_all c 0 9 hc
  unfold okF
  generalize (c.all fun n => decide (0 ≤ n ∧ n ≤ 9)) = b3 at w3 ⊢
  generalize hb1 : decide (1 ≤ h ∧ h ≤ 6) = b1 at w1 ⊢
  generalize hb2 : decide (1 ≤ w ∧ w ≤ 24) = b2 at w2 ⊢
  simp -dsimp [q]
  refine call_of (rd := []) w1 (by simp) (by simp) ?_
  cases b1
  · simp -dsimp
  simp -dsimp
  refine call_of (rd := []) w2 (by simp) (by simp) ?_
  cases b2
  · simp -dsimp
  have hw := hw_le (of_decide_eq_true hb1) (of_decide_eq_true hb2)
  simp -dsimp
  rw [w64 (by omega) (by omega)]
  refine ⟨fun e => call_of (rd := []) w3 (by simp) (by simp) ?_, fun e1 e2 => absurd e2 e1⟩
  simp -dsimp [e]
theorem s_sall (l : List Int) (n lo hi : Int) (h : l.length ≤ 1048576) : Sp Try.prog 89 [.v (vis l), vi n, vi lo, vi hi] (vb ((l.all fun n => decide (lo ≤ n ∧ n ≤ hi)) && decide ((l.length : Int) ≤ n))) [] := by
  refine sp_of (m := no) mixed Try.func89 k89 ?_
  simp -dsimp [q]
  refine awp_it (true :: true :: true :: true :: false :: false :: false :: false :: false :: true :: []) (fun i : Nat => [(9, vi i)]) (fun i => []) (fun i => i ≤ l.length ∧ ∀ x ∈ l.take i, lo ≤ x ∧ x ≤ hi) (fun i => l.length - i) 0 ?_
  intro s0 e
  simp -dsimp at e
  subst e
  refine ⟨?_, ?_⟩
  · simp
  intro i hk
  simp -dsimp
  refine ⟨fun h1 => ⟨h1, fun a ha => call_of (rd := []) (s_in a lo hi) (by simp) (by simp) ?_⟩, fun h1 => ?_⟩
  · generalize hb : decide (lo ≤ a ∧ a ≤ hi) = b
    cases b
    · simp -dsimp
      have hn := of_decide_eq_false hb
      intro hall
      exact absurd (hall a (List.mem_of_getElem? ha)) hn
    · simp -dsimp
      have hn := of_decide_eq_true hb
      refine ⟨i + 1, by rw [w64 (by omega) (by omega)]; simp, ⟨by omega, fun x hx => ?_⟩, by omega⟩
      rw [List.take_add_one, ha] at hx
      rcases List.mem_append.1 hx with hx | hx
      · exact hk.2 x hx
      · simp at hx; rw [hx]; exact hn
  · have h2 := hk.2
    rw [List.take_of_length_le h1] at h2
    exact fun _ => h2
theorem s_sisF (h w : Int) (c : List Int) (hc : c.length ≤ 1048576) : Sp Try.prog 48 [vF h w c] (vb (okF h w c)) [] := by
  refine sp_of (m := no) mixed Try.func48 k48 ?_
  have w1 := s_in h 1 6
  have w2 := s_in w 1 24
  have w3 := s_sall c 144 0 9 hc
  unfold okF
  generalize (c.all fun n => decide (0 ≤ n ∧ n ≤ 9)) = b3 at w3 ⊢
  generalize hb1 : decide (1 ≤ h ∧ h ≤ 6) = b1 at w1 ⊢
  generalize hb2 : decide (1 ≤ w ∧ w ≤ 24) = b2 at w2 ⊢
  simp -dsimp [q]
  refine call_of (rd := []) w1 (by simp) (by simp) ?_
  cases b1
  · simp -dsimp
  simp -dsimp
  refine call_of (rd := []) w2 (by simp) (by simp) ?_
  cases b2
  · simp -dsimp
  have hw := hw_le (of_decide_eq_true hb1) (of_decide_eq_true hb2)
  simp -dsimp
  rw [w64 (by omega) (by omega)]
  refine ⟨fun e => call_of (rd := []) w3 (by simp) (by simp) ?_, fun e1 e2 => absurd e2 e1⟩
  simp -dsimp [e, hw.2]
theorem okF_spec {h w : Int} {c : List Int} (hf : okF h w c = true) : (1 ≤ h ∧ h ≤ 6) ∧ (1 ≤ w ∧ w ≤ 24) ∧ (c.length : Int) = h * w ∧ ∀ n ∈ c, 0 ≤ n ∧ n ≤ 9 := by
  simp only [okF, Bool.and_eq_true, decide_eq_true_eq, List.all_eq_true] at hf
  exact ⟨hf.1.1.1, hf.1.1.2, hf.1.2, hf.2⟩
theorem at_lt {h w x y : Int} (hw : 1 ≤ w) (hy : 0 ≤ y ∧ y < h) : 0 ≤ y * w ∧ 0 ≤ x % w ∧ y * w + x % w < h * w ∧ x % w < w := by
  have h1 := Int.emod_nonneg x (show w ≠ 0 by omega)
  have h2 := Int.emod_lt_of_pos x (show 0 < w by omega)
  have h3 : (y + 1) * w ≤ h * w := Int.mul_le_mul_of_nonneg_right (by omega) (by omega)
  have h4 := Int.mul_nonneg hy.1 (show 0 ≤ w by omega)
  rw [Int.add_mul] at h3
  omega
theorem s_at (h w : Int) (c : List Int) (x y : Int) (hf : okF h w c = true) (hy : 0 ≤ y ∧ y < h) : Sp Try.prog 71 [vF h w c, vi x, vi y] (vi (c.getD (y * w + x % w).toNat 0)) [] := by
  refine sp_of (m := no) mixed Try.func71 k71 ?_
  obtain ⟨f1, f2, f3, _⟩ := okF_spec hf
  have f4 := hw_le f1 f2
  obtain ⟨g1, g2, g3, _⟩ := at_lt (x := x) f2.1 hy
  simp -dsimp [q]
  refine call_of (rd := []) (s_mod x w (by omega)) (by simp) (by simp) ?_
  simp -dsimp
  rw [w64 (n := y * w) (by omega) (by omega), w64 (by omega) (by omega)]
  refine ⟨⟨by omega, by omega⟩, fun a ha => ?_⟩
  simp -dsimp [ha]
theorem s_sat (h w : Int) (c : List Int) (x y : Int) (hf : okF h w c = true) (hy : 0 ≤ y ∧ y < h) : Sp Try.prog 67 [vF h w c, vi x, vi y] (vi (c.getD (y * w + x % w).toNat 0)) [] := by
  refine sp_of (m := no) mixed Try.func67 k67 ?_
  obtain ⟨f1, f2, f3, _⟩ := okF_spec hf
  have f4 := hw_le f1 f2
  obtain ⟨g1, g2, g3, _⟩ := at_lt (x := x) f2.1 hy
  simp -dsimp [q]
  refine call_of (rd := []) (s_smod x w (by omega)) (by simp) (by simp) ?_
  simp -dsimp
  rw [w64 (n := y * w) (by omega) (by omega), w64 (by omega) (by omega)]
  refine ⟨⟨by omega, by omega⟩, fun a ha => ?_⟩
  simp -dsimp [ha]
theorem s_take (h w : Int) (c : List Int) (tx ty : Bool) (d x y : Int) (hf : okF h w c = true) (hx : 0 ≤ x ∧ x ≤ 1000) (hy : 0 ≤ y ∧ y < h) (hd : 0 ≤ d ∧ d < 1000) : Sp Try.prog 70 [vF h w c, vFM tx ty d, vi x, vi y] (.tu [vi (((if tx = true then -x else x) + d) % w), vi (if ty = true then h - 1 - y else y)]) [] := by
  refine sp_of (m := no) mixed Try.func70 k70 ?_
  obtain ⟨f1, f2, f3, _⟩ := okF_spec hf
  have e1 : IntKind.i64.wrap (-x) = -x := w64 (by omega) (by omega)
  have e2 : IntKind.i64.wrap (h - 1) = h - 1 := w64 (by omega) (by omega)
  have e3 : IntKind.i64.wrap (h - 1 - y) = h - 1 - y := w64 (by omega) (by omega)
  have e4 : IntKind.i64.wrap (-x + d) = -x + d := w64 (by omega) (by omega)
  have e5 : IntKind.i64.wrap (x + d) = x + d := w64 (by omega) (by omega)
  cases tx <;> cases ty <;> simp -dsimp [q, e1, e2, e3, e4, e5] <;> (refine call_of (rd := []) (s_mod _ w (by omega)) rfl (by simp) ?_) <;> simp -dsimp
theorem s_image (h w : Int) (c : List Int) (tx ty : Bool) (d x y : Int) (hf : okF h w c = true) (hx : 0 ≤ x ∧ x ≤ 1000) (hy : 0 ≤ y ∧ y < h) (hd : 0 ≤ d ∧ d < 1000) : Sp Try.prog 66 [vF h w c, vFM tx ty d, vi x, vi y] (.tu [vi ((if tx = true then -x else x) + d), vi (if ty = true then h - 1 - y else y)]) [] := by
  refine sp_of (m := no) mixed Try.func66 k66 ?_
  obtain ⟨f1, f2, f3, _⟩ := okF_spec hf
  have e1 : IntKind.i64.wrap (-x) = -x := w64 (by omega) (by omega)
  have e2 : IntKind.i64.wrap (h - 1) = h - 1 := w64 (by omega) (by omega)
  have e3 : IntKind.i64.wrap (h - 1 - y) = h - 1 - y := w64 (by omega) (by omega)
  have e4 : IntKind.i64.wrap (d + -x) = -x + d := by rw [w64 (by omega) (by omega)]; omega
  have e5 : IntKind.i64.wrap (d + x) = x + d := by rw [w64 (by omega) (by omega)]; omega
  cases tx <;> cases ty <;> simp -dsimp [q, e1, e2, e3, e4, e5]
end Go.Proofs.YtjjockhekaccnaaEv
namespace Go.Proofs.YtjjockhekaccnaaEv
open Go Go.Proofs
set_option maxRecDepth 10000
section
variable (h w : Int) (c : List Int) (tx ty : Bool) (d : Int)
def stepC (y x : Int) (o : List Int) : List Int := o.set ((if ty = true then h - 1 - y else y) * w + ((if tx = true then -x else x) + d) % w).toNat (c.getD (y * w + x % w).toNat 0)
def rowC (y : Int) : Nat → List Int → List Int
  | 0, o => o
  | n + 1, o => stepC h w c tx ty d y n (rowC y n o)
def allC : Nat → List Int → List Int
  | 0, o => o
  | n + 1, o => rowC h w c tx ty d n w.toNat (allC n o)
theorem rowC_len (y : Int) : ∀ n o, (rowC h w c tx ty d y n o).length = o.length
  | 0, _ => rfl
  | n + 1, o => by simp [rowC, stepC, rowC_len y n o]
theorem allC_len : ∀ n o, (allC h w c tx ty d n o).length = o.length
  | 0, _ => rfl
  | n + 1, o => by rw [allC, rowC_len, allC_len n o]
end
theorem s_smove (h w : Int) (c : List Int) (tx ty : Bool) (d : Int) (hc : c.length ≤ 1048576) (hf : okF h w c = true) (hd : 0 ≤ d ∧ d < w) : Sp Try.prog 20 [vF h w c, vFM tx ty d] (.tu [oF h w 0, vi 0]) [.row 0 2 (is (allC h w c tx ty d h.toNat (List.replicate c.length 0)))] := by
  refine sp_of (m := no) mixed Try.func20 k20 ?_
  obtain ⟨f1, f2, f3, _⟩ := okF_spec hf
  have f4 := hw_le f1 f2
  have w1 := s_sisF h w c hc
  rw [hf] at w1
  have w2 := s_in d 0 (w - 1)
  rw [decide_eq_true (show 0 ≤ d ∧ d ≤ w - 1 by omega)] at w2
  simp -dsimp [q]
  refine call_of (rd := []) w1 (by simp) (by simp) ?_
  simp -dsimp
  rw [w64 (n := w - 1) (by omega) (by omega)]
  refine call_of (rd := []) w2 rfl (by simp) ?_
  simp -dsimp
  refine ⟨by omega, by decide, ?_⟩
  refine awp_it (false :: false :: true :: true :: true :: false :: true :: true :: []) (fun y : Nat => [(7, vi y)]) (fun y => [(4, .row 0 2 (is (allC h w c tx ty d y (List.replicate c.length 0))))]) (fun y => (y : Int) ≤ h) (fun y => h.toNat - y) 0 ?_
  intro s0 e
  simp -dsimp at e
  subst e
  refine ⟨?_, ?_⟩
  · simp [allC]
    omega
  intro y hy
  simp -dsimp
  refine ⟨fun hyh => ?_, fun hyh => ?_⟩
  · refine awp_it (false :: false :: true :: true :: true :: false :: true :: true :: true :: []) (fun x : Nat => [(8, vi x)]) (fun x => [(4, .row 0 2 (is (rowC h w c tx ty d y x (allC h w c tx ty d y (List.replicate c.length 0)))))]) (fun x => (x : Int) ≤ w) (fun x => w.toNat - x) 0 ?_
    intro s0 e
    simp -dsimp at e
    subst e
    refine ⟨?_, ?_⟩
    · simp [rowC]
      omega
    intro x hx
    simp -dsimp
    obtain ⟨g1, g2, g3, g4⟩ := at_lt (h := h) (w := w) (x := (if tx = true then -(x : Int) else x) + d) (y := if ty = true then h - 1 - y else y) f2.1 (by split <;> omega)
    refine ⟨fun hxw => call_of (rd := []) (s_image h w c tx ty d x y hf (by omega) (by omega) (by omega)) rfl (by simp) ?_, fun hxw => ?_⟩
    · simp -dsimp
      refine call_of (rd := []) (s_smod _ w (by omega)) rfl (by simp) ?_
      simp -dsimp
      refine call_of (rd := []) (s_sat h w c x y hf (by omega)) rfl (by simp) ?_
      simp -dsimp [rowC_len, allC_len]
      rw [w64 (n := _ * w) (by omega) (by omega), w64 (n := _ + _ % w) (by omega) (by omega)]
      refine ⟨⟨by omega, by omega⟩, by omega, by decide, x + 1, ⟨by rw [w64 (by omega) (by omega)]; simp, ?_⟩, by omega, by omega⟩
      simp [rowC, stepC]
    · refine ⟨y + 1, ⟨by rw [w64 (by omega) (by omega)]; simp, ?_⟩, by omega, by omega⟩
      rw [allC, show x = w.toNat by omega]
  · rw [show h.toNat = y by omega]
theorem s_smove_bad (h w : Int) (c : List Int) (tx ty : Bool) (d : Int) (hc : c.length ≤ 1048576) (hf : okF h w c = false) : Sp Try.prog 20 [vF h w c, vFM tx ty d] (.tu [.ag [vi 0, vi 0, .nil 0], vi 1]) [] := by
  refine sp_of (m := no) mixed Try.func20 k20 ?_
  have w1 := s_sisF h w c hc
  rw [hf] at w1
  simp -dsimp [q]
  refine call_of (rd := []) w1 (by simp) (by simp) ?_
  simp -dsimp
theorem s_smove_far (h w : Int) (c : List Int) (tx ty : Bool) (d : Int) (hc : c.length ≤ 1048576) (hf : okF h w c = true) (hd : ¬ (0 ≤ d ∧ d < w)) : Sp Try.prog 20 [vF h w c, vFM tx ty d] (.tu [.ag [vi 0, vi 0, .nil 0], vi 2]) [] := by
  refine sp_of (m := no) mixed Try.func20 k20 ?_
  obtain ⟨f1, f2, f3, _⟩ := okF_spec hf
  have w1 := s_sisF h w c hc
  rw [hf] at w1
  have w2 := s_in d 0 (w - 1)
  rw [decide_eq_false (show ¬ (0 ≤ d ∧ d ≤ w - 1) by omega)] at w2
  simp -dsimp [q]
  refine call_of (rd := []) w1 (by simp) (by simp) ?_
  simp -dsimp
  rw [w64 (n := w - 1) (by omega) (by omega)]
  refine call_of (rd := []) w2 rfl (by simp) ?_
  simp -dsimp
end Go.Proofs.YtjjockhekaccnaaEv
namespace Go.Proofs.YtjjockhekaccnaaEv
open Go Go.Proofs
set_option maxRecDepth 10000
theorem s_move (h w : Int) (c : List Int) (tx ty : Bool) (d : Int) (hc : c.length ≤ 1048576) (hf : okF h w c = true) (hd : 0 ≤ d ∧ d < w) : Sp Try.prog 22 [vF h w c, vFM tx ty d] (.tu [oF h w 0, vi 0]) [.row 0 2 (is (allC h w c tx ty d h.toNat (List.replicate c.length 0)))] := by
  refine sp_of (m := no) mixed Try.func22 k22 ?_
  obtain ⟨f1, f2, f3, _⟩ := okF_spec hf
  have f4 := hw_le f1 f2
  have w1 := s_isF h w c hc
  rw [hf] at w1
  have w2 := s_within d 0 (w - 1)
  rw [decide_eq_true (show 0 ≤ d ∧ d ≤ w - 1 by omega)] at w2
  simp -dsimp [q]
  refine call_of (rd := []) w1 (by simp) (by simp) ?_
  simp -dsimp
  rw [w64 (n := w - 1) (by omega) (by omega)]
  refine call_of (rd := []) w2 rfl (by simp) ?_
  simp -dsimp
  refine ⟨by omega, by decide, ?_⟩
  refine awp_it (false :: false :: true :: true :: true :: false :: true :: false :: false :: false :: false :: false :: false :: false :: false :: false :: false :: false :: false :: false :: false :: false :: false :: false :: false :: false :: false :: false :: false :: false :: false :: false :: false :: true :: true :: []) (fun y : Nat => [(34, vi y)]) (fun y => [(4, .row 0 2 (is (allC h w c tx ty d y (List.replicate c.length 0))))]) (fun y => (y : Int) ≤ h) (fun y => h.toNat - y) 0 ?_
  intro s0 e
  simp -dsimp at e
  subst e
  refine ⟨?_, ?_⟩
  · simp -dsimp [allC]
    omega
  intro y hy
  simp -dsimp
  refine ⟨fun hyh => ?_, fun hyh => ?_⟩
  · refine awp_it (false :: false :: true :: true :: true :: false :: true :: true :: false :: false :: false :: false :: false :: false :: false :: false :: false :: false :: false :: false :: false :: false :: false :: false :: false :: false :: false :: false :: false :: false :: false :: false :: false :: true :: true :: false :: false :: false :: true :: true :: []) (fun x : Nat => [(39, vi x)]) (fun x => [(4, .row 0 2 (is (rowC h w c tx ty d y x (allC h w c tx ty d y (List.replicate c.length 0)))))]) (fun x => (x : Int) ≤ w) (fun x => w.toNat - x) 0 ?_
    intro s0 e
    simp -dsimp at e
    subst e
    refine ⟨?_, ?_⟩
    · simp -dsimp [rowC]
      omega
    intro x hx
    simp -dsimp
    obtain ⟨g1, g2, g3, g4⟩ := at_lt (h := h) (w := w) (x := (if tx = true then -(x : Int) else x) + d) (y := if ty = true then h - 1 - y else y) f2.1 (by split <;> omega)
    refine ⟨fun hxw => call_of (rd := []) (s_take h w c tx ty d x y hf (by omega) (by omega) (by omega)) rfl (by simp) ?_, fun hxw => ?_⟩
    · simp -dsimp
      refine call_of (rd := []) (s_at h w c x y hf (by omega)) rfl (by simp) ?_
      simp -dsimp [rowC_len, allC_len]
      rw [w64 (n := _ * w) (by omega) (by omega), w64 (n := _ + _ % w) (by omega) (by omega)]
      refine ⟨⟨by omega, by omega⟩, by omega, by decide, x + 1, ⟨by rw [w64 (by omega) (by omega)]; simp, ?_⟩, by omega, by omega⟩
      simp [rowC, stepC]
    · refine ⟨y + 1, ⟨by rw [w64 (by omega) (by omega)]; simp, ?_⟩, by omega, by omega⟩
      rw [allC, show x = w.toNat by omega]
  · rw [show h.toNat = y by omega]
theorem s_move_bad (h w : Int) (c : List Int) (tx ty : Bool) (d : Int) (hc : c.length ≤ 1048576) (hf : okF h w c = false) : Sp Try.prog 22 [vF h w c, vFM tx ty d] (.tu [.ag [vi 0, vi 0, .nil 0], vi 1]) [] := by
  refine sp_of (m := no) mixed Try.func22 k22 ?_
  have w1 := s_isF h w c hc
  rw [hf] at w1
  simp -dsimp [q]
  refine call_of (rd := []) w1 (by simp) (by simp) ?_
  simp -dsimp
theorem s_move_far (h w : Int) (c : List Int) (tx ty : Bool) (d : Int) (hc : c.length ≤ 1048576) (hf : okF h w c = true) (hd : ¬ (0 ≤ d ∧ d < w)) : Sp Try.prog 22 [vF h w c, vFM tx ty d] (.tu [.ag [vi 0, vi 0, .nil 0], vi 2]) [] := by
  refine sp_of (m := no) mixed Try.func22 k22 ?_
  obtain ⟨f1, f2, f3, _⟩ := okF_spec hf
  have w1 := s_isF h w c hc
  rw [hf] at w1
  have w2 := s_within d 0 (w - 1)
  rw [decide_eq_false (show ¬ (0 ≤ d ∧ d ≤ w - 1) by omega)] at w2
  simp -dsimp [q]
  refine call_of (rd := []) w1 (by simp) (by simp) ?_
  simp -dsimp
  rw [w64 (n := w - 1) (by omega) (by omega)]
  refine call_of (rd := []) w2 rfl (by simp) ?_
  simp -dsimp
end Go.Proofs.YtjjockhekaccnaaEv
namespace Go.Proofs.YtjjockhekaccnaaEv
open Go Go.Proofs
set_option maxRecDepth 10000
@[simp] theorem is_nil : is [] = [] := rfl
theorem s_mark0 (k : Int) : SpG Try.prog 72 [.nil 0, vi k] [] (vi k) [] := by
  refine sg_of (m := no) mixed Try.func72 k72 ?_
  simp -dsimp [q]
  refine awp_it (true :: true :: false :: false :: false :: true :: []) (fun i : Nat => [(5, vi i)]) (fun i => []) (fun i => i = 0) (fun i => 0) 0 ?_
  intro s0 e
  simp -dsimp at e
  subst e
  refine ⟨?_, ?_⟩
  · simp
  rintro i rfl
  simp -dsimp
theorem s_held0 (k : Int) : SpG Try.prog 73 [.nil 0, vi k] [] (vi k) [] := by
  refine sg_of (m := no) mixed Try.func73 k73 ?_
  simp -dsimp [q]
  refine awp_it (true :: true :: false :: false :: false :: true :: []) (fun i : Nat => [(5, vi i)]) (fun i => []) (fun i => i = 0) (fun i => 0) 0 ?_
  intro s0 e
  simp -dsimp at e
  subst e
  refine ⟨?_, ?_⟩
  · simp
  rintro i rfl
  simp -dsimp
abbrev zF : A := .ag [vi 0, vi 0, .nil 0]
theorem s_markF0 (k : Int) : SpG Try.prog 23 [zF, vi k] [] (vi k) [] := by
  refine sg_of (m := fun f => f == 72) mixed Try.func23 k23 ?_
  simp -dsimp [q]
  refine callM_of (L := []) rfl (s_mark0 k) (by simp) ?_
  simp -dsimp
theorem s_heldF0 (k : Int) (hk : 0 ≤ k) : SpG Try.prog 24 [zF, vi k] [] (vi k) [] := by
  refine sg_of (m := fun f => f == 73) mixed Try.func24 k24 ?_
  simp -dsimp [q]
  refine callM_of (L := []) rfl (s_held0 k) (by simp) ?_
  simp -dsimp
  intro hneg
  omega
end Go.Proofs.YtjjockhekaccnaaEv
namespace Go.Proofs.YtjjockhekaccnaaEv
open Go Go.Proofs
set_option maxRecDepth 10000
set_option maxHeartbeats 1000000
theorem law_FnExactMoveFrieze (a0_0 : Int) (a0_1 : Int) (a0_2 : List (Int)) (a1_0 : Bool) (a1_1 : Bool) (a1_2 : Int) (wf0 : ((Lit.int .i64 a0_0).wf = true ∧ (Lit.int .i64 a0_1).wf = true ∧ (a0_2.length ≤ maxLen ∧ ∀ y ∈ a0_2, (Lit.int .i64 y).wf = true))) (wf1 : (True ∧ True ∧ (Lit.int .i64 a1_2).wf = true)) : Sp Try.prog 4 [.v (.ag [.int .i64 a0_0, .int .i64 a0_1, .sl 0 (a0_2.map fun y => .int .i64 y)]), .v (.ag [.bool a1_0, .bool a1_1, .int .i64 a1_2])] (.v (.bool true)) [] := by
  have hl := wf0.2.2.1
  revert wf0 wf1
  generalize a0_0 = h at *
  generalize a0_1 = w at *
  generalize a0_2 = c at *
  generalize a1_0 = tx at *
  generalize a1_1 = ty at *
  generalize a1_2 = d at *
  intro _ _
  show Sp Try.prog 4 [vF h w c, vFM tx ty d] (vb true) []
  refine sp_of (m := fun f => f == 23 || f == 24) mixed Try.func4 k4 ?_
  simp -dsimp [q]
  refine call_of (s_szF h w c 1048576 hl (by omega)) rfl (by simp) ?_
  simp -dsimp
  by_cases hc : c.length ≤ 1048576
  case neg =>
    rw [if_pos (by omega)]
    simp
  rw [if_neg (by omega)]
  intro _
  by_cases hf : okF h w c = true
  case neg =>
    have hf' : okF h w c = false := by simpa using hf
    repeat ((first | refine call_of (s_toF h w c hc) rfl (by simp) ?_ | refine call_of (s_toM tx ty d) rfl (by simp) ?_ | refine call_of (s_smove_bad h w c tx ty d hc hf') rfl (by simp) ?_ | refine call_of (s_move_bad h w c tx ty d hc hf') rfl (by simp) ?_ | refine call_of (s_eqF 0 0 [] 0 0 [] (by simp)) rfl (by simp) ?_ | refine call_of (s_eqF h w c h w c hc) rfl (by simp) ?_ | refine callM_of rfl (s_markF h w c 1 2 hc (by omega)) (by simp) ?_ | refine callM_of rfl (s_markF0 1) (by simp) ?_ | refine callM_of rfl (s_heldF0 1 (by omega)) (by simp) ?_ | refine fp_and (by decide) ?_ | refine br_l (by omega) (by omega) ?_ | refine br_r (by omega) (by omega) ?_ | refine br_p (by omega) (by omega) ?_ | refine br_q (by omega) (by omega) ?_); try simp -dsimp)
  by_cases hd : 0 ≤ d ∧ d < w
  case neg =>
    repeat ((first | refine call_of (s_toF h w c hc) rfl (by simp) ?_ | refine call_of (s_toM tx ty d) rfl (by simp) ?_ | refine call_of (s_smove_far h w c tx ty d hc hf hd) rfl (by simp) ?_ | refine call_of (s_move_far h w c tx ty d hc hf hd) rfl (by simp) ?_ | refine call_of (s_eqF 0 0 [] 0 0 [] (by simp)) rfl (by simp) ?_ | refine call_of (s_eqF h w c h w c hc) rfl (by simp) ?_ | refine callM_of rfl (s_markF h w c 1 2 hc (by omega)) (by simp) ?_ | refine callM_of rfl (s_markF0 1) (by simp) ?_ | refine callM_of rfl (s_heldF0 1 (by omega)) (by simp) ?_ | refine fp_and (by decide) ?_ | refine br_l (by omega) (by omega) ?_ | refine br_r (by omega) (by omega) ?_ | refine br_p (by omega) (by omega) ?_ | refine br_q (by omega) (by omega) ?_); try simp -dsimp)
  have hn : (allC h w c tx ty d h.toNat (List.replicate c.length 0)).length = c.length := by simp [allC_len]
  have hr := s_smove h w c tx ty d hc hf hd
  have hg := s_move h w c tx ty d hc hf hd
  generalize (allC h w c tx ty d h.toNat (List.replicate c.length 0)) = r at hn hr hg
  have hr1 : r.length ≤ 1048576 := by omega
  repeat ((first | refine call_of (s_toF h w c hc) rfl (by simp) ?_ | refine call_of (s_toM tx ty d) rfl (by simp) ?_ | refine call_of (hr) rfl (by simp) ?_ | refine call_of (hg) rfl (by simp) ?_ | refine call_of (s_eqF h w c h w c hc) rfl (by simp) ?_ | refine call_of (s_eqF h w r h w r hr1) rfl (by simp) ?_ | refine callM_of rfl (s_markF h w c 1 2 hc (by omega)) (by simp) ?_ | refine callM_of rfl (s_markF h w r 1 2 hr1 (by omega)) (by simp) ?_ | refine callM_of rfl (s_heldF h w ((List.range r.length).map fun i : Nat => 1 + (i : Int)) 1 2 (by simpa using hr1) (by omega) (by simp)) (by simp) ?_ | refine fp_and (by decide) ?_ | refine br_l (by omega) (by omega) ?_ | refine br_r (by omega) (by omega) ?_ | refine br_p (by omega) (by omega) ?_ | refine br_q (by omega) (by omega) ?_); try simp -dsimp)
  omega
end Go.Proofs.YtjjockhekaccnaaEv
namespace Go.Proofs.YtjjockhekaccnaaEv
open Go Go.ChangeShapes Go.WideShapes Go.RowKit Go.Deep

abbrev below (W : World) : Nat → Prop := fun b => b < W.heap.size
def OpC {α : Type} (P : Program) (t : TypeId) (encs : α → List V) (wf : α → Prop) : Prop :=
  ∀ (H : Type) (enc : TypeId × Value → H) (W : World) (spare : Nat → Bool) (held : Bool) (fuel : Nat) (cs : List Value) (x : DataW H × List MemPlace),
    DataW.trod enc P W 0 spare held fuel t cs = some x → ∃ a, RepL (below W) W (encs a) cs ∧ wf a
theorem opc_int {P : Program} {t : TypeId} {k : IntKind} (hu : P.underlying t = some (.int k)) : OpC P t (fun n => [V.int k n]) (fun n => (Lit.int k n).wf = true) := by
  intro H enc W spare held fuel cs x h
  obtain ⟨n, rfl, _, hw⟩ := DataW.trod_int hu h
  exact ⟨n, ⟨_, [], rfl, rfl, rfl, rfl⟩, hw⟩
theorem opc_bool {P : Program} {t : TypeId} (hu : P.underlying t = some .bool) : OpC P t (fun b => [V.bool b]) (fun _ => True) := by
  intro H enc W spare held fuel cs x h
  obtain ⟨n, rfl, _⟩ := DataW.trod_bool hu h
  exact ⟨n, ⟨_, [], rfl, rfl, rfl, rfl⟩, trivial⟩
theorem opc_string {P : Program} {t : TypeId} (hu : P.underlying t = some .string) : OpC P t (fun s => [V.str s]) (fun s => s.size ≤ maxLen) := by
  intro H enc W spare held fuel cs x h
  obtain ⟨n, rfl, _, hs⟩ := DataW.trod_string hu h
  exact ⟨n, ⟨_, [], rfl, rfl, rfl, rfl⟩, hs⟩
theorem list_of {α : Type} {n : Nat} {p : Nat → α → Prop} (h : ∀ i, i < n → ∃ x, p i x) : ∃ l : List α, l.length = n ∧ ∀ i (hi : i < l.length), p i l[i] := by
  induction n with
  | zero => exact ⟨[], rfl, fun i hi => absurd hi (Nat.not_lt_zero _)⟩
  | succ n ih =>
    obtain ⟨l, hl, hp⟩ := ih (fun i hi => h i (Nat.lt_succ_of_lt hi))
    obtain ⟨x, hx⟩ := h n (Nat.lt_succ_self n)
    refine ⟨l ++ [x], by simp [hl], fun i hi => ?_⟩
    by_cases e : i < l.length
    · rw [List.getElem_append_left e]; exact hp i e
    · have : i = n := by simp at hi; omega
      subst this
      rw [List.getElem_append_right (by omega)]
      simpa [hl] using hx
def mkE (k : Nat) (cs : List V) : V := if k = 0 then cs.headD default else .ag cs
theorem repAt_of {S : Nat → Prop} {w : World} {Ad : Option Addr} {e : Nat} : ∀ (xs : List V) (i : Nat), (∀ j x, xs[j]? = some x → ∃ b u, Ad = some b ∧ S b.block ∧ Rep S w x u ∧ u.cells.size = cz e ∧ x.isAg = (e != 0) ∧ ∀ (k : Nat) y, u.cells[k]? = some y → w.cell? (b.add ((i + j) * cz e + k)) = some y) → RepAt S w Ad e i xs
  | [], _, _ => trivial
  | x :: xs, i, h => by
    refine ⟨by simpa using h 0 x rfl, repAt_of xs (i + 1) (fun j y hy => ?_)⟩
    obtain ⟨b, u, h1, h2, h3, h4, h5, h6⟩ := h (j + 1) y (by simpa using hy)
    exact ⟨b, u, h1, h2, h3, h4, h5, fun k z hz => by rw [show i + 1 + j = i + (j + 1) by omega]; exact h6 k z hz⟩
theorem mkE_rep {S : Nat → Prop} {w : World} {k : Nat} {ds : List V} {cs : List Value} (h : RepL S w ds cs) (hl : cs.length = cz k) : ∃ u, Rep S w (mkE k ds) u ∧ u.cells.toList = cs ∧ (mkE k ds).isAg = (k != 0) := by
  unfold mkE
  by_cases hk : k = 0
  · subst hk
    rw [if_pos rfl]
    match ds, cs, h, hl with
    | [d], [c], ⟨u, us', h1, h2, h3, h4⟩, _ =>
      cases h1
      have := h3.cellsNe h2
      exact ⟨c, h3, by rw [this.2], h2⟩
    | [], [], _, hl => cases hl
    | _ :: _ :: _, [], h, _ => obtain ⟨_, _, h1, _⟩ := h; cases h1
    | [_], [], h, _ => obtain ⟨_, _, h1, _⟩ := h; cases h1
    | [_], _ :: _ :: _, _, hl => cases hl
    | [], _ :: _, h, _ => simp [RepL] at h
    | _ :: _ :: _, [_], h, _ => obtain ⟨_, _, h1, _, _, _, _, h2, _⟩ := h; cases h1; cases h2
    | _ :: _ :: _, _ :: _ :: _, _, hl => cases hl
  · rw [if_neg hk]
    exact ⟨.agg cs.toArray, ⟨cs, rfl, h⟩, by simp [Value.cells], by simp [V.isAg, hk]⟩
theorem opc_slice {α : Type} {P : Program} {t e : TypeId} {k : Nat} {encs : α → List V} {wf : α → Prop} (hu : P.underlying t = some (.slice e)) (hk : kindOf P e = some k) (h : OpC P e encs wf) :
    OpC P t (fun l : List α => [V.sl k (l.map fun a => mkE k (encs a))]) (fun l => l.length ≤ maxLen ∧ ∀ x ∈ l, wf x) := by
  intro H enc W spare held fuel cs x hx
  have hsz : P.cellsOf e = cz k := by
    obtain ⟨_, i, _, h1, h2, _⟩ := kindOf_spec hk
    simp [Program.cellsOf, h1, h2]
  rcases open_slice hu hx with ⟨rfl, _⟩ | ⟨a, len, cap, m, n, D, Pl, rfl, _, hl, hm, hmm, _, hel⟩
  · exact ⟨[], ⟨_, [], rfl, rfl, ⟨none, 0, rfl, Nat.le_refl _, Nat.zero_le _, trivial⟩, rfl⟩, Nat.zero_le _, fun x hx => absurd hx (by simp)⟩
  · have hle : len ≤ m := by rw [hmm]; split <;> omega
    obtain ⟨l, hlen, hp⟩ := list_of (p := fun i y => ∃ cs', W.cells? 0 (a.add (i * P.cellsOf e)) (P.cellsOf e) = some cs' ∧ RepL (below W) W (encs y) cs' ∧ wf y) (n := len) (fun i hi => by
      obtain ⟨cs', h1, h2⟩ := hel i (by omega)
      obtain ⟨y, hK, hw⟩ := h H enc W spare held n cs' _ h2
      exact ⟨y, cs', h1, hK, hw⟩)
    subst hlen
    refine ⟨l, ⟨_, [], rfl, rfl, ⟨some a, cap, by simp, by simpa using hl, hm, repAt_of _ 0 (fun j x hj => ?_)⟩, rfl⟩, Nat.le_trans hl hm, fun y hy => ?_⟩
    · simp only [List.getElem?_map, Option.map_eq_some_iff] at hj
      obtain ⟨y, hj, rfl⟩ := hj
      obtain ⟨hj', rfl⟩ := List.getElem?_eq_some_iff.1 hj
      obtain ⟨cs', h1, hK, _⟩ := hp j hj'
      obtain ⟨_, hcl, hcell⟩ := World.cells?_some h1
      rw [hsz] at hcl hcell
      obtain ⟨u, h2, h3, h4⟩ := mkE_rep hK hcl
      have hus : u.cells.size = cz k := by rw [← hcl, ← h3]; simp
      have cell : ∀ (i : Nat) y, u.cells[i]? = some y → W.cell? (a.add (j * cz k + i)) = some y := by
        intro i y hy
        have hi : i < cz k := by have := (Array.getElem?_eq_some_iff.1 hy).1; omega
        have := hcell i hi
        rw [Go.Deep.add_add] at this
        rw [this, ← h3]
        simpa using hy
      refine ⟨a, u, rfl, ?_, h2, hus, h4, fun i y hy => by simpa using cell i y hy⟩
      have h0 : 0 < u.cells.size := by rw [hus]; exact cz_pos k
      have := World.block_lt_of_cell? W _ (cell 0 _ (Array.getElem?_eq_getElem h0))
      rwa [add_block] at this
    · obtain ⟨j, hj, rfl⟩ := List.mem_iff_getElem.1 hy
      obtain ⟨_, _, _, hw⟩ := hp j hj
      exact hw
theorem RepL.append {S : Nat → Prop} {w : World} : ∀ {az bs : List V} {us vs : List Value}, RepL S w az us → RepL S w bs vs → RepL S w (az ++ bs) (us ++ vs)
  | [], _, us, _, h, k => by simp only [RepL] at h; subst h; exact k
  | a :: az, _, us, vs, ⟨u, us', h1, h2, h3, h4⟩, k => by subst h1; exact ⟨u, us' ++ vs, rfl, h2, h3, h4.append k⟩
/-- The fields of a struct, from a place on. -/
def OpF {α : Type} (P : Program) (fs : List Field) (off n : Nat) (encs : α → List V) (wf : α → Prop) : Prop :=
  ∀ (H : Type) (enc : TypeId × Value → H) (W : World) (spare : Nat → Bool) (held : Bool) (fuel : Nat) (cs : List Value), cs.length = off + n →
    (∀ f ∈ fs, ∃ y, DataW.trod enc P W 0 spare held fuel f.type ((cs.drop f.offset).take (P.cellsOf f.type)) = some y) → ∃ a, RepL (below W) W (encs a) (cs.drop off) ∧ wf a
theorem opf_one {α : Type} {P : Program} {f : Field} {off n : Nat} {encs : α → List V} {wf : α → Prop} (ho : f.offset = off) (hc : P.cellsOf f.type = n) (h : OpC P f.type encs wf) : OpF P [f] off n encs wf := by
  intro H enc W spare held fuel cs hl hf
  obtain ⟨y, hy⟩ := hf f (by simp)
  rw [ho, hc, List.take_of_length_le (by rw [List.length_drop]; omega)] at hy
  exact h H enc W spare held fuel _ _ hy
theorem opf_cons {α β : Type} {P : Program} {f : Field} {fs : List Field} {off n m : Nat} {encs : α → List V} {encs1 : β → List V} {wf : α → Prop} {wf1 : β → Prop} (ho : f.offset = off) (hc : P.cellsOf f.type = n) (h : OpC P f.type encs wf) (h1 : OpF P fs (off + n) m encs1 wf1) :
    OpF P (f :: fs) off (n + m) (fun a : α × β => encs a.1 ++ encs1 a.2) (fun a => wf a.1 ∧ wf1 a.2) := by
  intro H enc W spare held fuel cs hl hf
  obtain ⟨y, hy⟩ := hf f (by simp)
  rw [ho, hc] at hy
  obtain ⟨a, hK, hw⟩ := h H enc W spare held fuel _ _ hy
  obtain ⟨b, hK1, hw1⟩ := h1 H enc W spare held fuel cs (by omega) (fun g hg => hf g (by simp [hg]))
  refine ⟨(a, b), ?_, hw, hw1⟩
  have := hK.append hK1
  rwa [← List.drop_drop, List.take_append_drop] at this
theorem opc_struct {α : Type} {P : Program} {t : TypeId} {fs : Array Field} {n : Nat} {encs : α → List V} {wf : α → Prop} (hu : P.underlying t = some (.struct fs)) (hc : P.cellsOf t = n) (h : OpF P fs.toList 0 n encs wf) : OpC P t encs wf := by
  intro H enc W spare held fuel cs x hx
  obtain ⟨xs, m, _, _, hl, hlen, hf⟩ := DataW.trod_struct hu hx
  have := h H enc W spare held m cs (by omega) (fun f hf' => by
    obtain ⟨i, hi, rfl⟩ := List.mem_iff_getElem.1 hf'
    have h2 := hf i fs.toList[i] (by simp at hi ⊢)
    rw [List.getElem?_eq_getElem (by simp at hi; omega)] at h2
    exact ⟨_, h2⟩)
  simpa using this
theorem agg_of {P : Program} {W : World} {r : Reach} {base : Nat} {t : TypeId} {fs : Array Field} {v : Value} (hu : P.underlying t = some (.struct fs)) (hv : Value.okWide P W r base t v) : ∃ cs : Array Value, v = .agg cs := by
  obtain ⟨cs, rfl, _⟩ := okWide_struct hu hv
  exact ⟨cs, rfl⟩
/-- A law's call comes back with true, and what was there is there. -/
theorem law_calls {P : Program} {f : Nat} {az : List A} (h : Sp P f az (.v (.bool true)) []) (W : World) (us : List Value) (hus : ARs (fun _ => none) (fun _ => (0, 0)) (below W) W az us) :
    Calls P f us.toArray W fun e w' => e = .returned (.bool true) ∧ Below W.heap.size W w' := by
  have R0 : Rl W (fun _ => False) (below W) (fun i => ([] : List Ck)[i]?) (fun _ => (0, 0)) (below W) W :=
    ⟨rfl, rfl, rfl, Nat.le_refl _, fun _ _ _ => rfl, fun _ h => h, fun _ h => .inl h, fun _ h => h, fun i => trivial, fun i c hc => (by cases hc), fun i j c d hc => (by cases hc)⟩
  refine (h.2 (below W) W us (fun _ => False) (fun _ => (0, 0)) R0 hus).mono ?_
  rintro e w' ⟨u, S', μ', rfl, R, _, hu⟩
  have : u = .bool true := hu
  exact ⟨by rw [this], R.os, R.tape, R.output, R.size, fun k hk => R.keep k hk (fun h => h)⟩
theorem ar_agg {S : Nat → Prop} {w : World} {ds : List V} {cs : Array Value} (h : RepL S w ds cs.toList) : AR (fun _ => none) (fun _ => (0, 0)) S w (.v (.ag ds)) (.agg cs) := ⟨cs.toList, by simp, h⟩
theorem ar_one {S : Nat → Prop} {w : World} {d : V} {v : Value} (h : RepL S w [d] [v]) : AR (fun _ => none) (fun _ => (0, 0)) S w (.v d) v := by
  obtain ⟨u, us', h1, h2, h3, h4⟩ := h
  cases h1
  exact h3
end Go.Proofs.YtjjockhekaccnaaEv
