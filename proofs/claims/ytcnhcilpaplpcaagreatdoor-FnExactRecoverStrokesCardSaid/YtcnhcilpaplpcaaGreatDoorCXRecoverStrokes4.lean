/- What the code computes, and what it means: part 4 of the proof of FnExactRecoverStrokes. No condition of its own. -/
import Derived.Handed
import Derived.Shelf.Vars
import Derived.Stop.LaidErr
import Derived.Lib.LaidTab
import Derived.Test.YtcnhcilpaplpcaaGreatDoorCXRecoverStrokes3
namespace Go.Proofs.YtcnhcilpaplpcaaGreatDoorEv
open Go Go.Proofs
set_option maxRecDepth 10000
set_option maxHeartbeats 2000000
theorem s_srec_no (s : ByteArray) (n : Int) (t : List UInt8) (k : Int) (hk : k ≠ 0) (w : Sp Tryz.prog 38 [.v (.str s), vi n] (.tu [vi 0, aL 0 0 0, .nil 6, vi k]) []) : Sp Tryz.prog 11 [.v (.str s), vi n, aT (bst t)] (.tu [.nil 3, vi k]) [] := by
  have wc : Sp Tryz.prog 21 [.v (.str s), vi n] (.tu [vi 0, aL 0 0 0, .nil 6, vi k]) [] := by
    refine sp_of (m := no) mixed Tryz.func21 k21 ?_
    simp -dsimp [q]
    refine call_of (w) rfl (by simp) ?_
    try simp -dsimp
    try (first | exact fp_one (by decide) | refine fp_and (by decide) ?_)
  refine sp_of (m := no) mixed Tryz.func11 k11 ?_
  simp -dsimp [q]
  refine call_of (wc) rfl (by simp) ?_
  try simp -dsimp
  try (first | exact fp_one (by decide) | refine fp_and (by decide) ?_)
  simp -dsimp [hk]
theorem s_srec_long (s : ByteArray) (n f : Int) (G : List G6) (t : List UInt8) (ht : 4000 < t.length) (w : Sp Tryz.prog 38 [.v (.str s), vi n] (.tu [vi f, aL (2 * n) 0 (2 * n), .sli 0, vi 0]) [.row 6 116 (gs G)]) : Sp Tryz.prog 11 [.v (.str s), vi n, aT (bst t)] (.tu [.nil 3, vi 3]) [] := by
  have wc : Sp Tryz.prog 21 [.v (.str s), vi n] (.tu [vi f, aL (2 * n) 0 (2 * n), .sli 0, vi 0]) [.row 6 116 (gs G)] := by
    refine sp_of (m := no) mixed Tryz.func21 k21 ?_
    simp -dsimp [q]
    refine call_of (w) rfl (by simp) ?_
    try simp -dsimp
    try (first | exact fp_one (by decide) | refine fp_and (by decide) ?_)
  refine sp_of (m := no) mixed Tryz.func11 k11 ?_
  simp -dsimp [q]
  refine call_of (wc) rfl (by simp) ?_
  try simp -dsimp
  try (first | exact fp_one (by decide) | refine fp_and (by decide) ?_)
  try simp -dsimp [ht]
  try omega
theorem s_srec (s : ByteArray) (n f : Int) (G : List G6) (t : List UInt8) (hn : 1 ≤ n ∧ n ≤ 4) (ht : t.length ≤ 4000) (w : Sp Tryz.prog 38 [.v (.str s), vi n] (.tu [vi f, aL (2 * n) 0 (2 * n), .sli 0, vi 0]) [.row 6 116 (gs G)]) : Sp Tryz.prog 11 [.v (.str s), vi n, aT (bst t)] (.tu [.sli 0, vi 0]) [.row 3 54 (ks (recL (2 * n) (2 * n) 0 (spl 10 t)))] := by
  have wc : Sp Tryz.prog 21 [.v (.str s), vi n] (.tu [vi f, aL (2 * n) 0 (2 * n), .sli 0, vi 0]) [.row 6 116 (gs G)] := by
    refine sp_of (m := no) mixed Tryz.func21 k21 ?_
    simp -dsimp [q]
    refine call_of (w) rfl (by simp) ?_
    try simp -dsimp
    try (first | exact fp_one (by decide) | refine fp_and (by decide) ?_)
  have hL := recL_len (2 * n) (2 * n) (spl 10 t) 0
  have wsp : Sp Tryz.prog 28 [aT (bst t), .v (.int .u8 10)] (.sli 0) [.row 0 9 (sts ((spl 10 t).map bst))] := s_spl t 10 (by omega)
  have hlen := spl_len 10 t
  have hmem : ∀ p ∈ spl 10 t, p.length ≤ 4000 := fun p hp => Nat.le_trans (spl_mem 10 hp) ht
  generalize hL0 : recL (2 * n) (2 * n) 0 (spl 10 t) = L0 at *
  generalize spl 10 t = L at *
  refine sp_of (m := no) mixed Tryz.func11 k11 ?_
  simp -dsimp [q]
  refine call_of (wc) rfl (by simp) ?_
  try simp -dsimp
  try (first | exact fp_one (by decide) | refine fp_and (by decide) ?_)
  refine ⟨by omega, fun _ => ?_⟩
  refine call_of (wsp) rfl (by simp) ?_
  try simp -dsimp
  try (first | exact fp_one (by decide) | refine fp_and (by decide) ?_)
  refine awp_it (false :: false :: false :: false :: false :: false :: false :: false :: false :: true :: false :: false :: true :: true :: true :: []) (fun x : List K3 => [(14, vi x.length)]) (fun x => [(2, .row 3 54 (ks x))]) (fun x => x.length ≤ 100 ∧ L0 = x ++ recL (2 * n) (2 * n) x.length (L.drop x.length)) (fun x => 100 - x.length) [] ?_
  intro s0 e
  simp -dsimp at e
  subst e
  refine ⟨?_, ?_⟩
  · simp [hL0]
  rintro out ⟨h1, h3⟩
  simp -dsimp [-Prod.forall, -Prod.exists]
  have wrap1 : IntKind.i64.wrap ((out.length : Int) + 1) = (out.length : Int) + 1 := w64 (by omega) (by omega)
  have done : (L.length ≤ out.length + 1 ∨ 100 ≤ out.length) → L0 = out := fun h => by
    rcases h with h | h
    · rw [h3]
      have hdl : (L.drop out.length).length ≤ 1 := by rw [List.length_drop]; omega
      match hd : L.drop out.length, hdl with
      | [], _ => simp [recL]
      | [l], _ => simp [recL]
    · rw [recL_far _ _ h, List.append_nil] at h3
      exact h3
  rw [wrap1]
  refine ⟨fun h4 => ⟨fun h5 => ⟨by omega, fun p hp => ?_⟩, fun h5 => done (.inr (by omega))⟩, fun h4 => done (.inl (by omega))⟩
  have hd : L.drop out.length = p :: L.drop (out.length + 1) := by
    obtain ⟨hi, e⟩ := List.getElem?_eq_some_iff.1 hp
    rw [List.drop_eq_getElem_cons hi, e]
  have hpl := hmem p (List.mem_of_getElem? hp)
  have hacc := rdS_eq hn p out.length
  have hno : accK (2 * n) (2 * n) out.length p = none → L0 = out := fun h => by
    rw [h3, hd, recL_no h, List.append_nil]
  have hyes : ∀ k, accK (2 * n) (2 * n) out.length p = some k → L0 = (out ++ [k]) ++ recL (2 * n) (2 * n) (out.length + 1) (L.drop (out.length + 1)) := fun k h => by
    rw [h3, hd, recL_yes (by omega) h (by rw [List.length_drop]; omega)]
    simp
  have w3 : Sp Tryz.prog 28 [aT (bst p), .v (.int .u8 32)] (.sli 0) [.row 0 9 (sts ((spl 32 p).map bst))] := s_spl p 32 (by omega)
  have hwm : ∀ x ∈ spl 32 p, x.length ≤ 4000 := fun x hx => Nat.le_trans (spl_mem 32 hx) hpl
  by_cases hw3 : (spl 32 p).length = 3
  case neg =>
    rw [rdS_len _ hw3] at hacc
    have hno := hno hacc.symm
    have hw3' : ¬ ((spl 32 p).length : Int) = 3 := by omega
    generalize spl 32 p = W at *
    refine call_of (w3) rfl (by simp) ?_
    try simp -dsimp
    try (first | exact fp_one (by decide) | refine fp_and (by decide) ?_)
    first | (intro h9; omega) | exact ⟨fun _ => hno, fun h9 => by omega⟩ | (intro h9; exact hno)
  obtain ⟨u, b, w', hW⟩ := three hw3
  rw [rdS_three _ hW] at hacc
  rw [hW] at w3 hwm
  have wv := s_srv u (by have := hwm u (by simp); omega)
  have wd := s_dg b (by have := hwm b (by simp); omega)
  clear hW hw3
  generalize dgV b = db at *
  generalize dgOk b = ob at *
  cases hv : rvL (spl 44 u) with
  | none =>
    rw [hv] at wv hacc
    have hno := hno hacc.symm
    simp only [rvA] at wv
    refine call_of (w3) rfl (by simp) ?_
    try simp -dsimp
    try (first | exact fp_one (by decide) | refine fp_and (by decide) ?_)
    refine call_of (wv) rfl (by simp) ?_
    try simp -dsimp
    try (first | exact fp_one (by decide) | refine fp_and (by decide) ?_)
    refine call_of (wd) rfl (by simp) ?_
    try simp -dsimp
    try (first | exact fp_one (by decide) | refine fp_and (by decide) ?_)
    exact hno
  | some v =>
    rw [hv] at wv hacc
    simp only [rvA] at wv hacc
    have wk := s_sareK (2 * n) 0 (2 * n) [(v, (db : Int))] (by simp) (ok2n hn)
    cases ob with
    | false =>
      have hno := hno hacc.symm
      refine call_of (w3) rfl (by simp) ?_
      try simp -dsimp
      try (first | exact fp_one (by decide) | refine fp_and (by decide) ?_)
      refine call_of (wv) rfl (by simp) ?_
      try simp -dsimp
      try (first | exact fp_one (by decide) | refine fp_and (by decide) ?_)
      refine call_of (wd) rfl (by simp) ?_
      try simp -dsimp
      try (first | exact fp_one (by decide) | refine fp_and (by decide) ?_)
      exact hno
    | true =>
      cases hk : okKs (2 * n) (2 * n) [(v, (db : Int))] with
      | false =>
        rw [hk] at wk hacc
        have hno := hno hacc.symm
        refine call_of (w3) rfl (by simp) ?_
        try simp -dsimp
        try (first | exact fp_one (by decide) | refine fp_and (by decide) ?_)
        refine call_of (wv) rfl (by simp) ?_
        try simp -dsimp
        try (first | exact fp_one (by decide) | refine fp_and (by decide) ?_)
        refine call_of (wd) rfl (by simp) ?_
        try simp -dsimp
        try (first | exact fp_one (by decide) | refine fp_and (by decide) ?_)
        refine call_of (wk) rfl (by simp) ?_
        try simp -dsimp
        try (first | exact fp_one (by decide) | refine fp_and (by decide) ?_)
        exact hno
      | true =>
        rw [hk] at wk hacc
        have hsm := smK_of hn (by rw [← okKs_one]; exact hk)
        have wl := s_sline (v, (db : Int)) out.length hsm (by omega)
        have e : bst (lnx (v, (db : Int)) out.length) = bst p ↔ lnx (v, (db : Int)) out.length = p := by simp [bst]
        simp only [Bool.and_true, Bool.true_and, decide_eq_true_eq] at hacc
        generalize lnx (v, (db : Int)) out.length = X at *
        refine call_of (w3) rfl (by simp) ?_
        try simp -dsimp
        try (first | exact fp_one (by decide) | refine fp_and (by decide) ?_)
        refine call_of (wv) rfl (by simp) ?_
        try simp -dsimp
        try (first | exact fp_one (by decide) | refine fp_and (by decide) ?_)
        refine call_of (wd) rfl (by simp) ?_
        try simp -dsimp
        try (first | exact fp_one (by decide) | refine fp_and (by decide) ?_)
        refine call_of (wk) rfl (by simp) ?_
        try simp -dsimp
        try (first | exact fp_one (by decide) | refine fp_and (by decide) ?_)
        refine call_of (wl) rfl (by simp) ?_
        try simp -dsimp
        try (first | exact fp_one (by decide) | refine fp_and (by decide) ?_)
        refine ⟨by omega, fun p' hp' => ?_⟩
        rw [hp] at hp'
        cases hp'
        refine fp_and (by decide) ⟨fun hx => hno ?_, fun hx => ⟨by omega, out ++ [(v, (db : Int))], ⟨?_, rfl⟩, ⟨by simp; omega, ?_⟩, by simp; omega⟩⟩
        · rw [← hacc, if_neg (fun e0 => hx (e.2 e0))]
        · simp
          exact wrap1
        · rw [if_pos (e.1 hx)] at hacc
          simp only [List.length_append, List.length_singleton]
          exact hyes _ hacc.symm
theorem rec_both (s : ByteArray) (n : Int) (t : List UInt8) (ht : t.length ≤ 1048576) : ∃ (l : List K3) (r : A) (h : List Ck) (k : Int), l.length ≤ 100 ∧ (r = .tu [.nil 3, vi k] ∧ h = [] ∧ k ≠ 0 ∧ l = [] ∨ r = .tu [.sli 0, vi k] ∧ h = [.row 3 54 (ks l)] ∧ k = 0) ∧ Sp Tryz.prog 11 [.v (.str s), vi n, aT (bst t)] r h ∧ Sp Tryz.prog 12 [.v (.str s), vi n, aT (bst t)] r h := by
  cases h : stdOf s n with
  | none => exact ⟨[], _, _, 4, by simp, .inl ⟨rfl, rfl, by decide, rfl⟩, s_srec_no s n t 4 (by decide) (s_sSG_no s n h), s_rec_no s n t 4 (by decide) (s_SG_no s n h)⟩
  | some p =>
    obtain ⟨f, L⟩ := p
    by_cases hn : 1 ≤ n ∧ n ≤ 4
    case neg => exact ⟨[], _, _, 2, by simp, .inl ⟨rfl, rfl, by decide, rfl⟩, s_srec_no s n t 2 (by decide) (s_sSG_far s n f L h hn), s_rec_no s n t 2 (by decide) (s_SG_far s n f L h hn)⟩
    obtain ⟨S, c⟩ := std_clo h hn
    have w := s_SG s n f L S h hn c
    have ws := s_sSG s n f L S h hn c
    by_cases hl : t.length ≤ 4000
    · exact ⟨_, _, _, 0, by have := recL_len (2 * n) (2 * n) (spl 10 t) 0; omega, .inr ⟨rfl, rfl, rfl⟩, s_srec s n f _ t hn hl ws, s_rec s n f _ t hn hl w⟩
    · exact ⟨[], _, _, 3, by simp, .inl ⟨rfl, rfl, by decide, rfl⟩, s_srec_long s n f _ t (by omega) ws, s_rec_long s n f _ t hn (by omega) w⟩
end Go.Proofs.YtcnhcilpaplpcaaGreatDoorEv
namespace Go.Proofs.YtcnhcilpaplpcaaGreatDoorEv
open Go Go.Proofs
set_option maxRecDepth 10000
set_option maxHeartbeats 1000000
def mkS3 (k : Int) (n : Nat) : List K3 := (List.range n).map fun i : Nat => ((k + 3 * i, k + 3 * i + 1), k + 3 * i + 2)
theorem mkS3_len (k : Int) (n : Nat) : (mkS3 k n).length = n := by simp [mkS3]
theorem mkS3_get {k : Int} {n i : Nat} (h : i < n) : (mkS3 k n)[i]? = some ((k + 3 * i, k + 3 * i + 1), k + 3 * i + 2) := by
  simp [mkS3, h]
theorem mkS3_succ (k : Int) (i : Nat) : mkS3 k (i + 1) = mkS3 k i ++ [((k + 3 * i, k + 3 * i + 1), k + 3 * i + 2)] := by
  unfold mkS3
  rw [List.range_succ, List.map_append]
  rfl
theorem s_markKS (l : List K3) (k : Int) (t : Nat) (hx : l.length ≤ 1048576) (hk : 0 ≤ k ∧ k ≤ 1000000000) : SpG Tryz.prog 13 [.sli 0, vi k] [.row 3 t (ks l)] (vi (k + 3 * l.length)) [.row 3 t (ks (mkS3 k l.length))] := by
  refine sg_of (m := no) mixed Tryz.func13 k13 ?_
  simp -dsimp [q]
  refine awp_it (true :: true :: false :: false :: false :: true :: []) (fun i : Nat => [(1, vi (k + 3 * i)), (5, vi i)]) (fun i => [(0, .row 3 t (ks (mkS3 k i ++ l.drop i)))]) (fun i => i ≤ l.length) (fun i => l.length - i) 0 ?_
  intro s0 e
  simp -dsimp at e
  subst e
  refine ⟨?_, ?_⟩
  · simp [mkS3]
  intro i hi
  have e1 : IntKind.i64.wrap (k + 3 * (i : Int)) = k + 3 * i := w64 (by omega) (by omega)
  have e2 : IntKind.i64.wrap (k + 3 * (i : Int) + 1) = k + 3 * i + 1 := w64 (by omega) (by omega)
  have e3 : IntKind.i64.wrap (k + 3 * (i : Int) + 1 + 1) = k + 3 * i + 2 := by rw [w64 (by omega) (by omega)]; omega
  have e4 : IntKind.i64.wrap (k + 3 * (i : Int) + 2 + 1) = k + 3 * (i + 1) := by rw [w64 (by omega) (by omega)]; omega
  have e5 : IntKind.i64.wrap ((i : Int) + 1) = (i : Int) + 1 := w64 (by omega) (by omega)
  by_cases h1 : i < l.length
  case neg =>
    have : i = l.length := by omega
    subst this
    simp -dsimp [mkS3_len]
  obtain ⟨x, hx0⟩ : ∃ x, l[i]? = some x := ⟨_, List.getElem?_eq_getElem h1⟩
  have hd : l.drop i = x :: l.drop (i + 1) := by
    obtain ⟨hi, e⟩ := List.getElem?_eq_some_iff.1 hx0
    rw [List.drop_eq_getElem_cons hi, e]
  have hs := mkS3_succ k i
  have hlen := mkS3_len k i
  rw [hd]
  generalize mkS3 k i = M at *
  generalize hM1 : mkS3 k (i + 1) = M1 at *
  subst hs
  have g1 : ∀ y : K3, (M ++ y :: l.drop (i + 1))[i]? = some y := fun y => by rw [List.getElem?_append_right (by omega), hlen]; simp
  have g2 : ∀ y z : K3, (M ++ y :: l.drop (i + 1)).set i z = M ++ z :: l.drop (i + 1) := fun y z => by rw [List.set_append_right _ _ (by omega), hlen]; simp
  simp -dsimp [-Prod.forall, -Prod.exists, e1, e2, e3, e4, e5, g1, g2, h1]
  refine ⟨fun _ => ⟨by omega, by omega, by omega, by omega, by omega, by omega, i + 1, ⟨⟨by omega, by omega⟩, ?_⟩, by omega, by omega⟩, fun h => by omega⟩
  rw [hM1]
  simp
theorem s_heldKS (l : List K3) (k : Int) (t : Nat) (hx : l.length ≤ 1048576) (hk : 0 ≤ k ∧ k ≤ 1000000000) (hh : l = mkS3 k l.length) : SpG Tryz.prog 14 [.sli 0, vi k] [.row 3 t (ks l)] (vi (k + 3 * l.length)) [.row 3 t (ks l)] := by
  refine sg_of (m := no) mixed Tryz.func14 k14 ?_
  simp -dsimp [q]
  refine awp_it (true :: true :: false :: false :: false :: true :: []) (fun i : Nat => [(1, vi (k + 3 * i)), (5, vi i)]) (fun i => []) (fun i => i ≤ l.length) (fun i => l.length - i) 0 ?_
  intro s0 e
  simp -dsimp at e
  subst e
  refine ⟨?_, ?_⟩
  · simp
  intro i hi
  have e2 : IntKind.i64.wrap (k + 3 * (i : Int) + 1) = k + 3 * i + 1 := w64 (by omega) (by omega)
  have e3 : IntKind.i64.wrap (k + 3 * (i : Int) + 1 + 1) = k + 3 * i + 2 := by rw [w64 (by omega) (by omega)]; omega
  have e4 : IntKind.i64.wrap (k + 3 * (i : Int) + 2 + 1) = k + 3 * (i + 1) := by rw [w64 (by omega) (by omega)]; omega
  have e5 : IntKind.i64.wrap ((i : Int) + 1) = (i : Int) + 1 := w64 (by omega) (by omega)
  by_cases h1 : i < l.length
  case neg =>
    have : i = l.length := by omega
    subst this
    simp -dsimp
  have hg : l[i]? = some ((k + 3 * i, k + 3 * i + 1), k + 3 * i + 2) := by
    have := mkS3_get (k := k) (n := l.length) h1
    rwa [← hh] at this
  have hg2 : (ks l)[((i : Nat) : Int).toNat]? = some (.ag [.int .i64 (k + 3 * i), .int .i64 (k + 3 * i + 1), .int .i64 (k + 3 * i + 2)]) := by
    rw [Int.toNat_natCast]
    simp [ks, hg, vk]
  have hg3 : (ks l)[i]? = some (.ag [.int .i64 (k + 3 * i), .int .i64 (k + 3 * i + 1), .int .i64 (k + 3 * i + 2)]) := by
    simp [ks, hg, vk]
  clear hh hg
  simp -dsimp [↓hg2, ↓hg3, e2, e3, e4, e5, h1]
  exact ⟨i + 1, ⟨by omega, by omega⟩, by omega, by omega⟩
theorem s_markKN (k : Int) : SpG Tryz.prog 13 [.nil 3, vi k] [] (vi k) [] := by
  refine sg_of (m := no) mixed Tryz.func13 k13 ?_
  simp -dsimp [q]
  refine awp_it (true :: true :: false :: false :: false :: true :: []) (fun i : Nat => [(5, vi i)]) (fun i => []) (fun i => i = 0) (fun i => 0) 0 ?_
  intro s0 e
  simp -dsimp at e
  subst e
  refine ⟨?_, ?_⟩
  · simp
  rintro i rfl
  simp -dsimp
theorem s_heldKN (k : Int) : SpG Tryz.prog 14 [.nil 3, vi k] [] (vi k) [] := by
  refine sg_of (m := no) mixed Tryz.func14 k14 ?_
  simp -dsimp [q]
  refine awp_it (true :: true :: false :: false :: false :: true :: []) (fun i : Nat => [(5, vi i)]) (fun i => []) (fun i => i = 0) (fun i => 0) 0 ?_
  intro s0 e
  simp -dsimp at e
  subst e
  refine ⟨?_, ?_⟩
  · simp
  rintro i rfl
  simp -dsimp
end Go.Proofs.YtcnhcilpaplpcaaGreatDoorEv
namespace Go.Proofs.YtcnhcilpaplpcaaGreatDoorEv
open Go Go.Proofs
set_option maxRecDepth 10000
set_option maxHeartbeats 2000000
theorem law_FnExactRecoverStrokes (a0 : ByteArray) (a1 : Int) (a2 : ByteArray) (wf0 : a0.size ≤ maxLen) (wf1 : (Lit.int .i64 a1).wf = true) (wf2 : a2.size ≤ maxLen) : Sp Tryz.prog 4 [.v (.str a0), .v (.int .i64 a1), .v (.str a2)] (.v (.bool true)) [] := by
  clear wf1
  refine sp_of (m := fun f => f == 13 || f == 14) mixed Tryz.func4 k4 ?_
  simp -dsimp [q]
  intro h0 h1
  obtain ⟨t, rfl⟩ : ∃ t, a2 = bst t := ⟨a2.data.toList, by simp [bst]⟩
  rw [bst_size] at h1
  obtain ⟨l, r, h, k, hl, hr, hs, hi⟩ := rec_both a0 a1 t (by omega)
  rcases hr with ⟨rfl, rfl, hk, rfl⟩ | ⟨rfl, rfl, rfl⟩
  · have w1 := s_eqK [] [] (by simp)
    repeat ((first | refine call_of (hs) rfl (by simp) ?_ | refine call_of (hi) rfl (by simp) ?_ | refine call_of (w1) rfl (by simp) ?_ | refine callM_of rfl (s_markKN 1) (by simp) ?_ | refine callM_of rfl (s_heldKN 1) (by simp) ?_ | exact fp_one (by decide) | refine fp_and (by decide) ?_ | refine br_l (by omega) (by omega) ?_ | refine br_r (by omega) (by omega) ?_ | refine br_p (by omega) (by omega) ?_ | refine br_q (by omega) (by omega) ?_); try simp -dsimp)
  · have w1 := s_eqK l l (by omega)
    have hq := s_heldKS (mkS3 1 l.length) 1 54 (by simp [mkS3]; omega) (by omega) (by simp [mkS3])
    rw [mkS3_len] at hq
    repeat ((first | refine call_of (hs) rfl (by simp) ?_ | refine call_of (hi) rfl (by simp) ?_ | refine call_of (w1) rfl (by simp) ?_ | refine callM_of rfl (s_markKS l 1 _ (by omega) (by omega)) (by simp) ?_ | refine callM_of rfl (hq) (by simp) ?_ | exact fp_one (by decide) | refine fp_and (by decide) ?_ | refine br_l (by omega) (by omega) ?_ | refine br_r (by omega) (by omega) ?_ | refine br_p (by omega) (by omega) ?_ | refine br_q (by omega) (by omega) ?_); try simp -dsimp)
    all_goals omega
end Go.Proofs.YtcnhcilpaplpcaaGreatDoorEv
namespace Go.Proofs.YtcnhcilpaplpcaaGreatDoorEv
open Go Go.ChangeShapes Go.WideShapes Go.RowKit
theorem returnsInHanded_both {H : Type} {enc : TypeId × Value → H} {a : Assume} {C : Checked} {os : Os} {f : FuncId} {fn : Func} {s : ChangeSpec} {conds : List PathCond} {apart fresh handsOn again : Bool} {X : World → Array Value → Prop}
    (hX : ∀ (w w' : World) (args : Array Value), w.heap = w'.heap → X w args → X w' args)
    (own : ownKnob C.prog.godebug = none) (started : os.Started) (noInit : C.prog.inits.idxOf? f = none) (hfn : C.prog.funcs[f]? = some fn)
    (witness : ∃ (w : World) (tape : Tape) (i : Input), w.os = os ∧ (w.forCall tape i).Shaped C.prog ∧ i.vars = [] ∧ Input.okWide C.prog (w.forCall tape i) .any w.heap.size f i ∧
      ((s.pre enc C.prog fn conds apart (w.forCall tape i).memory i.args ∧ X (w.forCall tape i).memory i.args) ∧ sizedMet enc C.prog fn (OpenSpec.ofChange s) apart (w.forCall tape i).memory i.args) ∧ a.holds C.prog (lone (Frame.enter C.prog f i.args .normal) [] (w.forCall tape i)))
    (contract : ∀ (W : World) (base : Nat) (args : Array Value) (ds gs : List (DataW H)) (before : List MemPlace),
      (∀ (j : Nat) t v, fn.params[j]? = some t → args[j]? = some v → Value.okWide C.prog W .any base t v) →
      DataW.Whole enc C.prog fn.params.toList s.vars apart W args.toList ds gs before →
      conds.all (PathCond.test C.prog ⟨fn.params.toList, ds, s.plain.varTypes C.prog, gs⟩) = true →
      (DataW.weightsEach C.prog (fn.params.toList ++ s.plain.varTypes C.prog) (ds ++ gs)).all (· ≤ reachBytes) = true → X W args → W.ShapedOpen C.prog →
      a.holds C.prog (lone (Frame.enter C.prog f args .normal) [] W) →
      Calls C.prog f args W fun e W' => ∃ v, e = .returned v ∧ s.post enc C.prog fn apart fresh handsOn again W args v W') :
    ReturnsInHanded a C os f .any (fun w args => (s.pre enc C.prog fn conds apart w args ∧ X w args) ∧ sizedMet enc C.prog fn (OpenSpec.ofChange s) apart w args) (s.post enc C.prog fn apart fresh handsOn again) := by
  refine returnsInHanded_of_calls own started noInit witness ?_
  intro w tape i _ hsh _ hok hpre hholds
  obtain ⟨_, _, _, fn', hfn', _, _, _, _, hval⟩ := hok
  have e : fn' = fn := Option.some.inj (hfn'.symm.trans hfn)
  subst e
  obtain ⟨⟨⟨ds, gs, before, hw, hc⟩, hx⟩, hz⟩ := hpre
  have hw' := DataW.Whole.of_heap (w' := w.forCall tape i) (by rfl) hw
  refine (contract (w.forCall tape i) w.heap.size i.args ds gs before hval hw' hc (hz.weights hw) (hX _ _ _ (by rfl) hx) hsh hholds).mono fun e W' ⟨v, he, hp⟩ => ?_
  subst he
  exact ChangeSpec.post_blind hp
theorem tb_var {P : Program} {W : World} {n : String} {g : Nat} {cs : Array Value} (hg : P.globalNamed n = some g) (h : W.var? P n = some cs) : below W g ∧ ¬ False ∧ ∃ cs' t z, W.heap[g]? = some (.cells cs' t z) ∧ cs' = cs := by
  unfold World.var? at h
  rw [hg] at h
  simp only [Option.bind_some] at h
  split at h
  · rename_i cs' t z hh
    exact ⟨(Array.getElem?_eq_some_iff.1 hh).1, fun h => h, cs', t, z, hh, Option.some.inj h⟩
  · cases h
theorem tb_int {W : World} {g : Nat} {k : IntKind} (h : ∃ m, W.cell? ⟨g, 0, none⟩ = some (.int k m)) : below W g ∧ ¬ False ∧ ∃ cs t z, W.heap[g]? = some (.cells cs t z) ∧ ∃ m, cs[0]? = some (.int k m) := by
  obtain ⟨m, h⟩ := h
  obtain ⟨cs, t, z, hh, h0⟩ := cell_rows h
  exact ⟨(Array.getElem?_eq_some_iff.1 hh).1, fun h => h, cs, t, z, hh, m, h0⟩
theorem tb_err {P : Program} {W : World} {n : String} {g : Nat} {tp : TypeId} {p : Value} (hg : P.globalNamed n = some g) (h : W.var? P n = some #[.iface tp p]) : below W g ∧ ¬ False ∧ ∃ cs t z, W.heap[g]? = some (.cells cs t z) ∧ ∃ t p, cs[0]? = some (.iface t p) := by
  obtain ⟨h1, h2, cs, t, z, hh, rfl⟩ := tb_var hg h
  exact ⟨h1, h2, _, t, z, hh, tp, p, rfl⟩
end Go.Proofs.YtcnhcilpaplpcaaGreatDoorEv
