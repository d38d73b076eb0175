/- What the code computes, and what it means: part 3 of the proof of FnExactStepsOfFactors. No condition of its own. -/
import Derived.Maps.AppendAt
import Derived.Laws.IdiomStrings
import Derived.Deep.AppendLies
import Derived.Deep.LoopGhost
import Derived.Ground.NamesProg
import Derived.Shelf.Lay
import Derived.Shelf.Small.Strs
import Derived.Deep.Slices
import Derived.WalkKit
import Derived.OpenShut
import Derived.ShutString
import Derived.ChangeOld
import Derived.SizedLaws
import Derived.Test.YthgpjndildlgpaaDoorCXStepsOfFactors2
namespace Go.Proofs
open Go.Shelf
shelf_lay Lays.n137 Nm 137 at Tryd as Tryd.lays137
end Go.Proofs
namespace Go.Proofs.YthgpjndildlgpaaDoorEv
open Go Go.Proofs Go.RowKit Go.Shelf Go.Lib
attribute [local go_sem] Oper.semAt_some
theorem bk_stops (F : Fence) (n : Nat) (h8 : F.fn 67) (hro : F.round = none) (hn : 1 ≤ n) (Bs b cap : Nat) (zs : List LU) (hreach : zs.length ≤ 1048576) (w : World) (hBs : Bs < w.heap.size) (hb : b < w.heap.size)
    (hc : w.cell? ⟨Bs, 0, none⟩ = some (.slice (some ⟨b, 0, none⟩) zs.length cap)) (hI : ∀ j, j < zs.length → w.cell? ⟨b, j, none⟩ = some (.int .u8 ((zs[j]?.getD d0).1.toNat : Int))) :
    SeqStopsK F n Tryd.prog 67 #[.pointer (some ⟨Bs, 0, none⟩)] (fun x : Nat × LU => #[Value.int .i64 (x.1 : Int), Value.int .u8 (x.2.1.toNat : Int)]) (Kp2 b Bs) (fun ys => ys.map (·.2) = zs.reverse) (fun _ => True) zs.length w := fun l J Jx W hW _ _ hY h0 => by
  refine (bk1_in F n h8 hro hn l Bs b 0 zs.length cap zs hreach J Jx hY W ((hW.cell (p := ⟨Bs, 0, none⟩) hBs).trans hc) (fun j hj => by
    rw [Nat.zero_add]
    exact (hW.cell (p := ⟨b, j, none⟩) hb).trans (hI j hj)) h0).mono ?_
  rintro e W' ⟨he, ⟨ys, rfl, hj⟩ | ⟨pre, _, hj⟩⟩
  · exact ⟨he, .inl ⟨_, by show List.map _ _ = _; rw [upT_bk zs zs.length (Nat.le_refl _), List.take_of_length_le (by simp)], hj⟩⟩
  · exact ⟨he, .inr ⟨_, trivial, hj⟩⟩
theorem info5 : (Tryd.prog.info? 5).map (fun i => (i.zero, i.size, i.bytes)) = some (some (.int .u8 0), 1, 1) := by kernel_rfl
def opB (x : UInt8) : UInt8 := if x = 114 then 108 else if x = 117 then 100 else if x = 108 then 114 else 117
abbrev opL (pre : List (Nat × LU)) : List Value := pre.map fun x => .int .u8 ((opB x.2.1).toNat : Int)
theorem bytesRow_lu (s : ByteArray) (zs : List LU) (hz : zs.map (·.1) = s.data.toList) (cap j : Nat) (hj : j < zs.length) : (bytesRow s cap)[j]? = some (.int .u8 ((zs[j]?.getD d0).1.toNat : Int)) := by
  have h1 : j < s.data.size := by
    have := congrArg List.length hz
    rw [List.length_map] at this
    rw [show s.data.size = s.data.toList.length from rfl, ← this]
    exact hj
  rw [bytesRow_at s cap j h1]
  have h2 : s.data.toList[j]? = some s.data[j] := by simp [h1]
  rw [← hz, List.getElem?_map, List.getElem?_eq_getElem hj] at h2
  rw [List.getElem?_eq_getElem hj]
  simp only [Option.map_some, Option.some.injEq] at h2
  simp only [Option.getD_some]
  rw [h2]
theorem stepIn_append_own {F : Fence} {n : Nat} {P : Program} (w : World) {ops : Array Oper} {o : Oper} {a : Act} {K : Act → World → Prop} {Q : Exit → Act → World → Prop} {E : Prop}
    (hg : o.guard = none) (s x : Operand) (t : TypeId) (hop : o.op = Op.call { callee := Callee.builtin Builtin.append, args := #[s, x], argTypes := #[t, t] })
    (base : Nat) (e : TypeId) (i : TypeInfo) (z : Value) (size bytes : Nat) (h1 : P.underlying t = some (.slice e)) (h2 : P.info? e = some i) (h3 : i.zero = some z) (h4 : i.size = size) (h5 : i.bytes = bytes) (h6 : z.cells.size = size) (h7 : 0 < size)
    (v : Value) (k : Nat) (xs : List Value) (hs : a.eval s = v) (hown : w.ownsRow base e size v k xs) (ad : Addr) (m c : Nat) (news : List Value) (hx : a.eval x = .slice (some ad) m c) (hn : news.length = m * size)
    (hc : ∀ j u, news[j]? = some u → w.cell? (ad.add j) = some u) (h1c : ∀ u ∈ news, u.oneCell' = true) (b1 : k + m ≤ maxLen) (b2 : (k + m) * bytes ≤ 140737488355328) (b3 : base ≤ w.heap.size)
    (hK : ∀ v' w', w'.ownsRow base e size v' (k + m) (xs ++ news) → w.grownBy w' v.ownBlock → (v' = .slice none 0 0 ↔ v = .slice none 0 0 ∧ m = 0) → K (a.put o.dst v') w') :
    if Region.wanted o (yielded ops a.tmps) = true then Oper.wpIn F n P o a w K Q else E := by
  have hw : Region.wanted o (yielded ops a.tmps) = true := by simp [Region.wanted, hg]
  rw [if_pos hw]
  obtain ⟨v', w', hrun, r1, r2, r3⟩ := run_append_own (P := P) w base t o.type e i z size bytes h1 h2 h3 h4 h5 h6 h7 v k xs hown ad m c news hn hc h1c b1 b2 b3
  unfold Oper.wpIn
  refine ⟨?_, ?_⟩
  · simp [Oper.about, hop, resolve, Target.leads, Sem.run_pure]
  · rw [Oper.semAt_plain F _ _ (by rw [hop]; intro c hc'; cases hc')]
    simp [execOp, hop, resolve, invoke, builtin, hs, hx, hrun, Result.andThen]
    exact hK _ _ r1 r2 r3
theorem body_end {w W w1 : World} {v : Value} {pre : List (Nat × LU)} {x : Nat × LU} {O2 tmp : Obj} {m : Nat} {C : Array Value} {u3 : Value} {g' cap' : Nat} (hO2 : Obj.cells C 5 (m, m + 1) = O2)
    (hv : Boxed W (w.heap.size + 1) 67 v) (hrow : W.ownsRow w.heap.size 5 1 v pre.length (opL pre)) (hB : Below w.heap.size w W) (h2 : W.heap[w.heap.size + 2]? = some O2) (h3 : Boxed W (w.heap.size + 3) 67 u3)
    (hown' : w1.ownsRow w.heap.size 5 1 (.slice (some ⟨g', 0, none⟩) (pre.length + 1) cap') (pre.length + 1) (opL pre ++ [.int .u8 ((opB x.2.1).toNat : Int)])) (hg2 : (W.alloc tmp).grownBy w1 v.ownBlock) (B : Nat) :
    KeepsFrom B W (w1.setCell ⟨w.heap.size + 1, 0, none⟩ (.slice (some ⟨g', 0, none⟩) (pre.length + 1) cap')) ∧ Kp2 (w.heap.size + 2) (w.heap.size + 3) W (w1.setCell ⟨w.heap.size + 1, 0, none⟩ (.slice (some ⟨g', 0, none⟩) (pre.length + 1) cap')) ∧
      ((∃ v', Boxed (w1.setCell ⟨w.heap.size + 1, 0, none⟩ (.slice (some ⟨g', 0, none⟩) (pre.length + 1) cap')) (w.heap.size + 1) 67 v' ∧ (w1.setCell ⟨w.heap.size + 1, 0, none⟩ (.slice (some ⟨g', 0, none⟩) (pre.length + 1) cap')).ownsRow w.heap.size 5 1 v' (pre ++ [x]).length (opL (pre ++ [x])) ∧ v' ≠ .slice none 0 0) ∧ Below w.heap.size w (w1.setCell ⟨w.heap.size + 1, 0, none⟩ (.slice (some ⟨g', 0, none⟩) (pre.length + 1) cap'))) ∧
      (w1.setCell ⟨w.heap.size + 1, 0, none⟩ (.slice (some ⟨g', 0, none⟩) (pre.length + 1) cap')).heap[w.heap.size + 2]? = some O2 ∧ Boxed (w1.setCell ⟨w.heap.size + 1, 0, none⟩ (.slice (some ⟨g', 0, none⟩) (pre.length + 1) cap')) (w.heap.size + 3) 67 u3 := by
  obtain ⟨hv1, hv2, hr2, hk2, hb2⟩ := hv.appended (by decide) hrow hB.size (Nat.le_add_right _ 1) hown' hg2
  have n2 : some (w.heap.size + 2) ≠ v.ownBlock := by
    rcases hrow.2 with ⟨rfl, _⟩ | ⟨g, cap, cur, rfl, _, hgb, _⟩
    · simp [Value.ownBlock]
    · intro e
      have e2 : w.heap.size + 2 = g := by simpa [Value.ownBlock] using e
      rw [e2, hgb, ← hO2] at h2
      cases h2
  have n3 : some (w.heap.size + 3) ≠ v.ownBlock := h3.not_row (by decide) hrow
  have kp : Kp2 (w.heap.size + 2) (w.heap.size + 3) W (w1.setCell ⟨w.heap.size + 1, 0, none⟩ (.slice (some ⟨g', 0, none⟩) (pre.length + 1) cap')) := fun k hk => by
    have l3 := h3.lt
    rw [Below.heap_setCell _ _ _ k (by simp only; omega)]
    refine (hg2.block k (by simp; omega) (by
      rcases hk with rfl | rfl
      · exact n2
      · exact n3)).trans (Below.heap_alloc W _ k (by omega))
  exact ⟨hk2.from _, kp, ⟨⟨_, hv2, by simpa [opL] using hr2, by simp⟩, hB.trans hb2⟩, (kp _ (.inl rfl)).trans h2, (kp _ (.inr rfl)).trans h3⟩
set_option maxRecDepth 100000 in
set_option maxHeartbeats 4000000 in
theorem opp_in (s : ByteArray) (zs : List LU) (hz : zs.map (·.1) = s.data.toList) (w : World) (hs : zs.length ≤ 1048576) : CallsIn Fence.wide 3 Tryd.prog 43 #[.string s] w fun e W' => e = .returned (.string ⟨(zs.reverse.map fun x => opB x.1).toArray⟩) ∧ Below w.heap.size w W' := by
  obtain ⟨i0, hi, hz0, hz1, hz2⟩ := info_parts info5
  have HZ : Aside (s.size = zs.length) := by
    have := congrArg List.length hz
    rw [List.length_map] at this
    show s.size = _
    rw [this]; rfl
  have hcv := fun w' : World => run_bytes_of_string w' 9 67 5 s Tryd.underlying9 Tryd.underlying67 Tryd.underlying5
  refine callsIn_of_wp_marks Tryd.func43 rfl trivial ?_ rfl
  simp only [Tryd.ntmps43, List.size_toArray, List.length_cons, List.length_nil, Nat.reduceAdd, Nat.reduceSub, Array.replicate_succ, Array.replicate_zero, List.push_toArray, List.append_toArray, List.nil_append, List.cons_append]
  gi_wp2_with (refine ⟨trivial, ?_⟩; gi_at_call 57; refine (bk_in Fence.wide 2 trivial rfl _ _ _ _).mono ?_; rintro e w' ⟨rfl, rfl⟩)
  generalize hcap : grownCap ((w.alloc (.cells #[] 5)).alloc (.cells #[.slice (some ⟨w.heap.size, 0, none⟩) 0 0] 67)) s.size 0 5 = cap
  generalize hO1 : Obj.cells #[Value.slice (some ⟨w.heap.size, 0, none⟩) 0 0] 67 = O1
  generalize hO2 : Obj.cells (bytesRow s cap) 5 ((bytesRow s cap).size, (bytesRow s cap).size + 1) = O2
  generalize hO3 : Obj.cells #[Value.slice (some ⟨w.heap.size + 1 + 1, 0, none⟩) s.size cap] 67 = O3
  generalize hW0 : ((((w.alloc (.cells #[] 5)).alloc O1).alloc O2).alloc O3).drew = W0
  have hsize : W0.heap.size = w.heap.size + 4 := by rw [← hW0]; simp
  have hB0 : Below w.heap.size w W0 := by
    rw [← hW0]
    exact (((((Below.refl _ w).alloc (Nat.le_refl _) _).alloc (by simp) _).alloc (by simp; omega) _).alloc (by simp; omega) _).drew
  have n4 : ∀ (A : World) (o : Obj) (k : Nat), A.heap.size = k → (A.alloc o).heap[k]? = some o := fun A o k h => by rw [← h]; exact World.alloc_heap_new A o
  have o4 : ∀ (A : World) (o : Obj) (k : Nat), k < A.heap.size → (A.alloc o).heap[k]? = A.heap[k]? := fun A o k h => Below.heap_alloc A o k h
  have z1 : (w.alloc (.cells #[] 5)).heap.size = w.heap.size + 1 := by simp
  have z2 : ((w.alloc (.cells #[] 5)).alloc O1).heap.size = w.heap.size + 2 := by simp
  have z3 : (((w.alloc (.cells #[] 5)).alloc O1).alloc O2).heap.size = w.heap.size + 3 := by simp
  have hWh : W0.heap = ((((w.alloc (.cells #[] 5)).alloc O1).alloc O2).alloc O3).heap := by rw [← hW0]; rfl
  have g0 : W0.heap[w.heap.size]? = some (.cells #[] 5) := by
    rw [hWh, o4 _ _ _ (by omega), o4 _ _ _ (by omega), o4 _ _ _ (by omega)]
    exact n4 _ _ _ rfl
  have g1 : Boxed W0 (w.heap.size + 1) 67 (.slice (some ⟨w.heap.size, 0, none⟩) 0 0) := by
    show W0.heap[w.heap.size + 1]? = _
    rw [hWh, o4 _ _ _ (by omega), o4 _ _ _ (by omega), n4 _ _ _ z1, ← hO1]
  have g2 : W0.heap[w.heap.size + 2]? = some O2 := by
    rw [hWh, o4 _ _ _ (by omega), n4 _ _ _ z2]
  have g3 : Boxed W0 (w.heap.size + 3) 67 (.slice (some ⟨w.heap.size + 2, 0, none⟩) s.size cap) := by
    show W0.heap[w.heap.size + 3]? = _
    rw [hWh, n4 _ _ _ z3, ← hO3]
  have c2 : ∀ j, j < zs.length → W0.cell? ⟨w.heap.size + 2, j, none⟩ = some (.int .u8 ((zs[j]?.getD d0).1.toNat : Int)) := fun j hj => by
    have e := bytesRow_lu s zs hz cap j hj
    rw [← e]
    simp [World.cell?, g2, ← hO2]
  refine wpIn_rangeFunc_ownG (F := Fence.wide) (n := 3) rfl (by decide) (gf := 67) (lb := #[.pointer (some ⟨w.heap.size + 3, 0, none⟩)]) rfl trivial (enters_of Tryd.func67 (by kernel_rfl) rfl)
    (bk_stops Fence.wide 2 trivial rfl (by decide) (w.heap.size + 3) (w.heap.size + 2) cap zs hs W0 (by omega) (by omega) (by rw [g3.cell, HZ.out]) c2) Kp2.trans
    (fun W l o o' hl h _ _ => fun k hk => (grownBy_putObj' W l o').block k (by have := (Array.getElem?_eq_some_iff.1 h).1; omega) (fun e => by cases e; omega)) (Below.refl _ _) (fun _ => rfl)
    (fun pre W => ((∃ v, Boxed W (w.heap.size + 1) 67 v ∧ W.ownsRow w.heap.size 5 1 v pre.length (opL pre) ∧ v ≠ .slice none 0 0) ∧ Below w.heap.size w W) ∧ W.heap[w.heap.size + 2]? = some O2 ∧ Boxed W (w.heap.size + 3) 67 (.slice (some ⟨w.heap.size + 2, 0, none⟩) s.size cap))
    (fun _ _ _ => False)
    (OwnFrom.and (OwnFrom.and (Own.from (holdsRow_own w.heap.size (w.heap.size + 1) 67 5 1 (fun pre => pre.length) opL (fun pre v => v ≠ .slice none 0 0)) _) (ownFrom_below (Nat.le_refl _) (by omega)))
      (OwnFrom.and (fun _ W W' row hs hg hr => by
        have hlt := (Array.getElem?_eq_some_iff.1 hs).1
        refine (hg.block _ hlt (fun e => ?_)).trans hs
        obtain ⟨_, o, ho, hcells⟩ := hr _ e.symm
        rw [hs] at ho
        cases ho
        rw [← hO2] at hcells
        cases hcells) (Own.from (boxed_own _ _ (fun _ => _)) _)))
    (fun _ _ _ _ _ hs _ _ => hs)
    ⟨⟨⟨_, g1, ⟨rfl, .inr ⟨w.heap.size, 0, #[], rfl, Nat.le_refl _, g0, Nat.le_refl _, Nat.zero_le _, rfl, rfl⟩⟩, by simp⟩, hB0⟩, g2, g3⟩
    (fun x => { tmps := #[.string s, undef, .string ⟨#[]⟩, .pointer (some ⟨w.heap.size + 1, 0, none⟩), undef, .int .u8 (x.2.1.toNat : Int), .slice (some ⟨w.heap.size, 0, none⟩) 0 0, .string s, .slice (some ⟨w.heap.size + 1 + 1, 0, none⟩) s.size cap, .func (.func 67) #[] #[.pointer (some ⟨w.heap.size + 1 + 1 + 1, 0, none⟩)], .int .i64 (x.1 : Int), .int .u8 (x.2.1.toNat : Int), undef, undef, undef, undef, undef, undef, undef, undef], defers := [] }) ?assign ?body ?done ?stop
  case assign =>
    intro l x W K hK
    gi_wp2
    exact hK
  case body =>
    rintro l pre x W ⟨⟨⟨v, hv, hrow, hnil⟩, hB⟩, h2, h3⟩ hlt
    have hc := hv.cell
    obtain ⟨i, u, hu⟩ := x
    have hmx : Tryd.prog.follows .mixedOrders = true := by kernel_rfl
    have hcA := fun X => (hv.alloc X).cell
    rcases hu with rfl | rfl | rfl | rfl
    · have hIB : ∀ W, Calls Tryd.prog 58 #[.string ⟨#[114, 117, 108, 100]⟩, .int .u8 114] W fun e w' => e = .returned (.int .i64 0) ∧ w' = W := fun W => Any.strings_IndexByte Tryd.lays137 _ 114 W
      simp only [show ((114 : UInt8).toNat : Int) = 114 from rfl]
      gi_wp2
      refine wpIn_region_any (by assumption) ?_
      change wpAnyIn _ _ _ _ _ _ _ _ _ (World.drew _)
      refine wpAnyIn_ready (rs := [0, 1]) (by kernel_rfl) (by simp) ?_
      refine AllReadyIn.cons rfl (fun K hK => ?_) ?_
      · go_simp
        try (refine hK _ _ ?_; clear hK K)
        refine wpAnyIn_ready (rs := [1]) (by kernel_rfl) (by simp) ?_
        refine AllReadyIn.cons rfl (fun K hK => ?_) ?_
        · go_simp
          try (refine hK _ _ ?_; clear hK K)
          refine wpAnyIn_ready (rs := [2]) (by kernel_rfl) (by simp) ?_
          refine AllReadyIn.cons rfl (fun K hK => ?_) ?_
          · go_simp
            gi_wp2_with (refine ⟨trivial, ?_⟩; gi_at_call 58; refine (CallsIn.inRound l (callsIn_wide.2 (hIB _))).mono ?_; rintro e w' ⟨rfl, rfl⟩)
            try (refine hK _ _ ?_; clear hK K)
            refine wpAnyIn_ready (rs := [3]) (by kernel_rfl) (by simp) ?_
            refine AllReadyIn.cons rfl (fun K hK => ?_) ?_
            · go_simp
              try (refine hK _ _ ?_; clear hK K)
              refine wpAnyIn_ready (rs := [4]) (by kernel_rfl) (by simp) ?_
              refine AllReadyIn.cons rfl (fun K hK => ?_) ?_
              · go_simp
                try (refine hK _ _ ?_; clear hK K)
                refine wpAnyIn_ready (rs := [5]) (by kernel_rfl) (by simp) ?_
                refine AllReadyIn.cons rfl (fun K hK => stepIn_append_own _ rfl _ _ 67 rfl w.heap.size 5 i0 (.int .u8 0) 1 1 Tryd.underlying67 hi hz0 hz1 hz2 rfl (by decide) v pre.length (opL pre) rfl (hrow.alloc (.cells #[.int .u8 108] 5)) ⟨W.heap.size, 0, none⟩ 1 1 [.int .u8 108] rfl rfl (cell_one_new _ _ _) (by simp [Value.oneCell']) (by rw [show maxLen = 9223372036854775807 by decide]; omega) (by omega) (by have := hB.size; simp; omega) (fun v' w1 hown' hgrow _ => ?_)) AllReadyIn.nil
                obtain ⟨g', cap', rfl⟩ := ownsRow_succ hown'
                have hg2 : (W.alloc (.cells #[.int .u8 108] 5)).grownBy w1 v.ownBlock := ⟨hgrow.os, hgrow.tape, hgrow.output, hgrow.size, hgrow.block⟩
                obtain ⟨hv1, _⟩ := hv.appended (by decide) hrow hB.size (Nat.le_add_right _ 1) hown' hg2
                have hc1 := hv1.cell
                have hf1 := hv1.frozen
                refine hK _ _ ?_
                clear hK K
                refine wpAnyIn_ready (rs := [6]) (by kernel_rfl) (by simp) ?_
                refine AllReadyIn.cons rfl (fun K hK => ?_) AllReadyIn.nil
                go_simp
                refine hK _ _ ?_
                clear hK K
                refine wpAnyIn_done (by kernel_rfl) ?_ _
                exact body_end (x := (i, ⟨114, by simp⟩)) hO2 hv hrow hB h2 h3 hown' hg2 _
              exact AllReadyIn.nil
            exact AllReadyIn.nil
          exact AllReadyIn.nil
        exact AllReadyIn.nil
      refine AllReadyIn.cons rfl (fun K hK => ?_) ?_
      · go_simp
        try (refine hK _ _ ?_; clear hK K)
        refine wpAnyIn_ready (rs := [0, 2]) (by kernel_rfl) (by simp) ?_
        refine AllReadyIn.cons rfl (fun K hK => ?_) ?_
        · go_simp
          try (refine hK _ _ ?_; clear hK K)
          refine wpAnyIn_ready (rs := [2]) (by kernel_rfl) (by simp) ?_
          refine AllReadyIn.cons rfl (fun K hK => ?_) ?_
          · go_simp
            gi_wp2_with (refine ⟨trivial, ?_⟩; gi_at_call 58; refine (CallsIn.inRound l (callsIn_wide.2 (hIB _))).mono ?_; rintro e w' ⟨rfl, rfl⟩)
            try (refine hK _ _ ?_; clear hK K)
            refine wpAnyIn_ready (rs := [3]) (by kernel_rfl) (by simp) ?_
            refine AllReadyIn.cons rfl (fun K hK => ?_) ?_
            · go_simp
              try (refine hK _ _ ?_; clear hK K)
              refine wpAnyIn_ready (rs := [4]) (by kernel_rfl) (by simp) ?_
              refine AllReadyIn.cons rfl (fun K hK => ?_) ?_
              · go_simp
                try (refine hK _ _ ?_; clear hK K)
                refine wpAnyIn_ready (rs := [5]) (by kernel_rfl) (by simp) ?_
                refine AllReadyIn.cons rfl (fun K hK => stepIn_append_own _ rfl _ _ 67 rfl w.heap.size 5 i0 (.int .u8 0) 1 1 Tryd.underlying67 hi hz0 hz1 hz2 rfl (by decide) v pre.length (opL pre) rfl (hrow.alloc (.cells #[.int .u8 108] 5)) ⟨W.heap.size, 0, none⟩ 1 1 [.int .u8 108] rfl rfl (cell_one_new _ _ _) (by simp [Value.oneCell']) (by rw [show maxLen = 9223372036854775807 by decide]; omega) (by omega) (by have := hB.size; simp; omega) (fun v' w1 hown' hgrow _ => ?_)) AllReadyIn.nil
                obtain ⟨g', cap', rfl⟩ := ownsRow_succ hown'
                have hg2 : (W.alloc (.cells #[.int .u8 108] 5)).grownBy w1 v.ownBlock := ⟨hgrow.os, hgrow.tape, hgrow.output, hgrow.size, hgrow.block⟩
                obtain ⟨hv1, _⟩ := hv.appended (by decide) hrow hB.size (Nat.le_add_right _ 1) hown' hg2
                have hc1 := hv1.cell
                have hf1 := hv1.frozen
                refine hK _ _ ?_
                clear hK K
                refine wpAnyIn_ready (rs := [6]) (by kernel_rfl) (by simp) ?_
                refine AllReadyIn.cons rfl (fun K hK => ?_) AllReadyIn.nil
                go_simp
                refine hK _ _ ?_
                clear hK K
                refine wpAnyIn_done (by kernel_rfl) ?_ _
                exact body_end (x := (i, ⟨114, by simp⟩)) hO2 hv hrow hB h2 h3 hown' hg2 _
              exact AllReadyIn.nil
            exact AllReadyIn.nil
          exact AllReadyIn.nil
        refine AllReadyIn.cons rfl (fun K hK => ?_) ?_
        · go_simp
          gi_wp2_with (refine ⟨trivial, ?_⟩; gi_at_call 58; refine (CallsIn.inRound l (callsIn_wide.2 (hIB _))).mono ?_; rintro e w' ⟨rfl, rfl⟩)
          try (refine hK _ _ ?_; clear hK K)
          refine wpAnyIn_ready (rs := [0, 3]) (by kernel_rfl) (by simp) ?_
          refine AllReadyIn.cons rfl (fun K hK => ?_) ?_
          · go_simp
            try (refine hK _ _ ?_; clear hK K)
            refine wpAnyIn_ready (rs := [3]) (by kernel_rfl) (by simp) ?_
            refine AllReadyIn.cons rfl (fun K hK => ?_) ?_
            · go_simp
              try (refine hK _ _ ?_; clear hK K)
              refine wpAnyIn_ready (rs := [4]) (by kernel_rfl) (by simp) ?_
              refine AllReadyIn.cons rfl (fun K hK => ?_) ?_
              · go_simp
                try (refine hK _ _ ?_; clear hK K)
                refine wpAnyIn_ready (rs := [5]) (by kernel_rfl) (by simp) ?_
                refine AllReadyIn.cons rfl (fun K hK => stepIn_append_own _ rfl _ _ 67 rfl w.heap.size 5 i0 (.int .u8 0) 1 1 Tryd.underlying67 hi hz0 hz1 hz2 rfl (by decide) v pre.length (opL pre) rfl (hrow.alloc (.cells #[.int .u8 108] 5)) ⟨W.heap.size, 0, none⟩ 1 1 [.int .u8 108] rfl rfl (cell_one_new _ _ _) (by simp [Value.oneCell']) (by rw [show maxLen = 9223372036854775807 by decide]; omega) (by omega) (by have := hB.size; simp; omega) (fun v' w1 hown' hgrow _ => ?_)) AllReadyIn.nil
                obtain ⟨g', cap', rfl⟩ := ownsRow_succ hown'
                have hg2 : (W.alloc (.cells #[.int .u8 108] 5)).grownBy w1 v.ownBlock := ⟨hgrow.os, hgrow.tape, hgrow.output, hgrow.size, hgrow.block⟩
                obtain ⟨hv1, _⟩ := hv.appended (by decide) hrow hB.size (Nat.le_add_right _ 1) hown' hg2
                have hc1 := hv1.cell
                have hf1 := hv1.frozen
                refine hK _ _ ?_
                clear hK K
                refine wpAnyIn_ready (rs := [6]) (by kernel_rfl) (by simp) ?_
                refine AllReadyIn.cons rfl (fun K hK => ?_) AllReadyIn.nil
                go_simp
                refine hK _ _ ?_
                clear hK K
                refine wpAnyIn_done (by kernel_rfl) ?_ _
                exact body_end (x := (i, ⟨114, by simp⟩)) hO2 hv hrow hB h2 h3 hown' hg2 _
              exact AllReadyIn.nil
            exact AllReadyIn.nil
          refine AllReadyIn.cons rfl (fun K hK => ?_) ?_
          · go_simp
            try (refine hK _ _ ?_; clear hK K)
            refine wpAnyIn_ready (rs := [0, 4]) (by kernel_rfl) (by simp) ?_
            refine AllReadyIn.cons rfl (fun K hK => ?_) ?_
            · go_simp
              try (refine hK _ _ ?_; clear hK K)
              refine wpAnyIn_ready (rs := [4]) (by kernel_rfl) (by simp) ?_
              refine AllReadyIn.cons rfl (fun K hK => ?_) ?_
              · go_simp
                try (refine hK _ _ ?_; clear hK K)
                refine wpAnyIn_ready (rs := [5]) (by kernel_rfl) (by simp) ?_
                refine AllReadyIn.cons rfl (fun K hK => stepIn_append_own _ rfl _ _ 67 rfl w.heap.size 5 i0 (.int .u8 0) 1 1 Tryd.underlying67 hi hz0 hz1 hz2 rfl (by decide) v pre.length (opL pre) rfl (hrow.alloc (.cells #[.int .u8 108] 5)) ⟨W.heap.size, 0, none⟩ 1 1 [.int .u8 108] rfl rfl (cell_one_new _ _ _) (by simp [Value.oneCell']) (by rw [show maxLen = 9223372036854775807 by decide]; omega) (by omega) (by have := hB.size; simp; omega) (fun v' w1 hown' hgrow _ => ?_)) AllReadyIn.nil
                obtain ⟨g', cap', rfl⟩ := ownsRow_succ hown'
                have hg2 : (W.alloc (.cells #[.int .u8 108] 5)).grownBy w1 v.ownBlock := ⟨hgrow.os, hgrow.tape, hgrow.output, hgrow.size, hgrow.block⟩
                obtain ⟨hv1, _⟩ := hv.appended (by decide) hrow hB.size (Nat.le_add_right _ 1) hown' hg2
                have hc1 := hv1.cell
                have hf1 := hv1.frozen
                refine hK _ _ ?_
                clear hK K
                refine wpAnyIn_ready (rs := [6]) (by kernel_rfl) (by simp) ?_
                refine AllReadyIn.cons rfl (fun K hK => ?_) AllReadyIn.nil
                go_simp
                refine hK _ _ ?_
                clear hK K
                refine wpAnyIn_done (by kernel_rfl) ?_ _
                exact body_end (x := (i, ⟨114, by simp⟩)) hO2 hv hrow hB h2 h3 hown' hg2 _
              exact AllReadyIn.nil
            refine AllReadyIn.cons rfl (fun K hK => ?_) ?_
            · go_simp
              try (refine hK _ _ ?_; clear hK K)
              refine wpAnyIn_ready (rs := [0]) (by kernel_rfl) (by simp) ?_
              refine AllReadyIn.cons rfl (fun K hK => ?_) ?_
              · go_simp
                try (refine hK _ _ ?_; clear hK K)
                refine wpAnyIn_ready (rs := [5]) (by kernel_rfl) (by simp) ?_
                refine AllReadyIn.cons rfl (fun K hK => stepIn_append_own _ rfl _ _ 67 rfl w.heap.size 5 i0 (.int .u8 0) 1 1 Tryd.underlying67 hi hz0 hz1 hz2 rfl (by decide) v pre.length (opL pre) rfl (hrow.alloc (.cells #[.int .u8 108] 5)) ⟨W.heap.size, 0, none⟩ 1 1 [.int .u8 108] rfl rfl (cell_one_new _ _ _) (by simp [Value.oneCell']) (by rw [show maxLen = 9223372036854775807 by decide]; omega) (by omega) (by have := hB.size; simp; omega) (fun v' w1 hown' hgrow _ => ?_)) AllReadyIn.nil
                obtain ⟨g', cap', rfl⟩ := ownsRow_succ hown'
                have hg2 : (W.alloc (.cells #[.int .u8 108] 5)).grownBy w1 v.ownBlock := ⟨hgrow.os, hgrow.tape, hgrow.output, hgrow.size, hgrow.block⟩
                obtain ⟨hv1, _⟩ := hv.appended (by decide) hrow hB.size (Nat.le_add_right _ 1) hown' hg2
                have hc1 := hv1.cell
                have hf1 := hv1.frozen
                refine hK _ _ ?_
                clear hK K
                refine wpAnyIn_ready (rs := [6]) (by kernel_rfl) (by simp) ?_
                refine AllReadyIn.cons rfl (fun K hK => ?_) AllReadyIn.nil
                go_simp
                refine hK _ _ ?_
                clear hK K
                refine wpAnyIn_done (by kernel_rfl) ?_ _
                exact body_end (x := (i, ⟨114, by simp⟩)) hO2 hv hrow hB h2 h3 hown' hg2 _
              exact AllReadyIn.nil
            exact AllReadyIn.nil
          exact AllReadyIn.nil
        exact AllReadyIn.nil
      exact AllReadyIn.nil
    · have hIB : ∀ W, Calls Tryd.prog 58 #[.string ⟨#[114, 117, 108, 100]⟩, .int .u8 117] W fun e w' => e = .returned (.int .i64 1) ∧ w' = W := fun W => Any.strings_IndexByte Tryd.lays137 _ 117 W
      simp only [show ((117 : UInt8).toNat : Int) = 117 from rfl]
      gi_wp2
      refine wpIn_region_any (by assumption) ?_
      change wpAnyIn _ _ _ _ _ _ _ _ _ (World.drew _)
      refine wpAnyIn_ready (rs := [0, 1]) (by kernel_rfl) (by simp) ?_
      refine AllReadyIn.cons rfl (fun K hK => ?_) ?_
      · go_simp
        try (refine hK _ _ ?_; clear hK K)
        refine wpAnyIn_ready (rs := [1]) (by kernel_rfl) (by simp) ?_
        refine AllReadyIn.cons rfl (fun K hK => ?_) ?_
        · go_simp
          try (refine hK _ _ ?_; clear hK K)
          refine wpAnyIn_ready (rs := [2]) (by kernel_rfl) (by simp) ?_
          refine AllReadyIn.cons rfl (fun K hK => ?_) ?_
          · go_simp
            gi_wp2_with (refine ⟨trivial, ?_⟩; gi_at_call 58; refine (CallsIn.inRound l (callsIn_wide.2 (hIB _))).mono ?_; rintro e w' ⟨rfl, rfl⟩)
            try (refine hK _ _ ?_; clear hK K)
            refine wpAnyIn_ready (rs := [3]) (by kernel_rfl) (by simp) ?_
            refine AllReadyIn.cons rfl (fun K hK => ?_) ?_
            · go_simp
              try (refine hK _ _ ?_; clear hK K)
              refine wpAnyIn_ready (rs := [4]) (by kernel_rfl) (by simp) ?_
              refine AllReadyIn.cons rfl (fun K hK => ?_) ?_
              · go_simp
                try (refine hK _ _ ?_; clear hK K)
                refine wpAnyIn_ready (rs := [5]) (by kernel_rfl) (by simp) ?_
                refine AllReadyIn.cons rfl (fun K hK => stepIn_append_own _ rfl _ _ 67 rfl w.heap.size 5 i0 (.int .u8 0) 1 1 Tryd.underlying67 hi hz0 hz1 hz2 rfl (by decide) v pre.length (opL pre) rfl (hrow.alloc (.cells #[.int .u8 100] 5)) ⟨W.heap.size, 0, none⟩ 1 1 [.int .u8 100] rfl rfl (cell_one_new _ _ _) (by simp [Value.oneCell']) (by rw [show maxLen = 9223372036854775807 by decide]; omega) (by omega) (by have := hB.size; simp; omega) (fun v' w1 hown' hgrow _ => ?_)) AllReadyIn.nil
                obtain ⟨g', cap', rfl⟩ := ownsRow_succ hown'
                have hg2 : (W.alloc (.cells #[.int .u8 100] 5)).grownBy w1 v.ownBlock := ⟨hgrow.os, hgrow.tape, hgrow.output, hgrow.size, hgrow.block⟩
                obtain ⟨hv1, _⟩ := hv.appended (by decide) hrow hB.size (Nat.le_add_right _ 1) hown' hg2
                have hc1 := hv1.cell
                have hf1 := hv1.frozen
                refine hK _ _ ?_
                clear hK K
                refine wpAnyIn_ready (rs := [6]) (by kernel_rfl) (by simp) ?_
                refine AllReadyIn.cons rfl (fun K hK => ?_) AllReadyIn.nil
                go_simp
                refine hK _ _ ?_
                clear hK K
                refine wpAnyIn_done (by kernel_rfl) ?_ _
                exact body_end (x := (i, ⟨117, by simp⟩)) hO2 hv hrow hB h2 h3 hown' hg2 _
              exact AllReadyIn.nil
            exact AllReadyIn.nil
          exact AllReadyIn.nil
        exact AllReadyIn.nil
      refine AllReadyIn.cons rfl (fun K hK => ?_) ?_
      · go_simp
        try (refine hK _ _ ?_; clear hK K)
        refine wpAnyIn_ready (rs := [0, 2]) (by kernel_rfl) (by simp) ?_
        refine AllReadyIn.cons rfl (fun K hK => ?_) ?_
        · go_simp
          try (refine hK _ _ ?_; clear hK K)
          refine wpAnyIn_ready (rs := [2]) (by kernel_rfl) (by simp) ?_
          refine AllReadyIn.cons rfl (fun K hK => ?_) ?_
          · go_simp
            gi_wp2_with (refine ⟨trivial, ?_⟩; gi_at_call 58; refine (CallsIn.inRound l (callsIn_wide.2 (hIB _))).mono ?_; rintro e w' ⟨rfl, rfl⟩)
            try (refine hK _ _ ?_; clear hK K)
            refine wpAnyIn_ready (rs := [3]) (by kernel_rfl) (by simp) ?_
            refine AllReadyIn.cons rfl (fun K hK => ?_) ?_
            · go_simp
              try (refine hK _ _ ?_; clear hK K)
              refine wpAnyIn_ready (rs := [4]) (by kernel_rfl) (by simp) ?_
              refine AllReadyIn.cons rfl (fun K hK => ?_) ?_
              · go_simp
                try (refine hK _ _ ?_; clear hK K)
                refine wpAnyIn_ready (rs := [5]) (by kernel_rfl) (by simp) ?_
                refine AllReadyIn.cons rfl (fun K hK => stepIn_append_own _ rfl _ _ 67 rfl w.heap.size 5 i0 (.int .u8 0) 1 1 Tryd.underlying67 hi hz0 hz1 hz2 rfl (by decide) v pre.length (opL pre) rfl (hrow.alloc (.cells #[.int .u8 100] 5)) ⟨W.heap.size, 0, none⟩ 1 1 [.int .u8 100] rfl rfl (cell_one_new _ _ _) (by simp [Value.oneCell']) (by rw [show maxLen = 9223372036854775807 by decide]; omega) (by omega) (by have := hB.size; simp; omega) (fun v' w1 hown' hgrow _ => ?_)) AllReadyIn.nil
                obtain ⟨g', cap', rfl⟩ := ownsRow_succ hown'
                have hg2 : (W.alloc (.cells #[.int .u8 100] 5)).grownBy w1 v.ownBlock := ⟨hgrow.os, hgrow.tape, hgrow.output, hgrow.size, hgrow.block⟩
                obtain ⟨hv1, _⟩ := hv.appended (by decide) hrow hB.size (Nat.le_add_right _ 1) hown' hg2
                have hc1 := hv1.cell
                have hf1 := hv1.frozen
                refine hK _ _ ?_
                clear hK K
                refine wpAnyIn_ready (rs := [6]) (by kernel_rfl) (by simp) ?_
                refine AllReadyIn.cons rfl (fun K hK => ?_) AllReadyIn.nil
                go_simp
                refine hK _ _ ?_
                clear hK K
                refine wpAnyIn_done (by kernel_rfl) ?_ _
                exact body_end (x := (i, ⟨117, by simp⟩)) hO2 hv hrow hB h2 h3 hown' hg2 _
              exact AllReadyIn.nil
            exact AllReadyIn.nil
          exact AllReadyIn.nil
        refine AllReadyIn.cons rfl (fun K hK => ?_) ?_
        · go_simp
          gi_wp2_with (refine ⟨trivial, ?_⟩; gi_at_call 58; refine (CallsIn.inRound l (callsIn_wide.2 (hIB _))).mono ?_; rintro e w' ⟨rfl, rfl⟩)
          try (refine hK _ _ ?_; clear hK K)
          refine wpAnyIn_ready (rs := [0, 3]) (by kernel_rfl) (by simp) ?_
          refine AllReadyIn.cons rfl (fun K hK => ?_) ?_
          · go_simp
            try (refine hK _ _ ?_; clear hK K)
            refine wpAnyIn_ready (rs := [3]) (by kernel_rfl) (by simp) ?_
            refine AllReadyIn.cons rfl (fun K hK => ?_) ?_
            · go_simp
              try (refine hK _ _ ?_; clear hK K)
              refine wpAnyIn_ready (rs := [4]) (by kernel_rfl) (by simp) ?_
              refine AllReadyIn.cons rfl (fun K hK => ?_) ?_
              · go_simp
                try (refine hK _ _ ?_; clear hK K)
                refine wpAnyIn_ready (rs := [5]) (by kernel_rfl) (by simp) ?_
                refine AllReadyIn.cons rfl (fun K hK => stepIn_append_own _ rfl _ _ 67 rfl w.heap.size 5 i0 (.int .u8 0) 1 1 Tryd.underlying67 hi hz0 hz1 hz2 rfl (by decide) v pre.length (opL pre) rfl (hrow.alloc (.cells #[.int .u8 100] 5)) ⟨W.heap.size, 0, none⟩ 1 1 [.int .u8 100] rfl rfl (cell_one_new _ _ _) (by simp [Value.oneCell']) (by rw [show maxLen = 9223372036854775807 by decide]; omega) (by omega) (by have := hB.size; simp; omega) (fun v' w1 hown' hgrow _ => ?_)) AllReadyIn.nil
                obtain ⟨g', cap', rfl⟩ := ownsRow_succ hown'
                have hg2 : (W.alloc (.cells #[.int .u8 100] 5)).grownBy w1 v.ownBlock := ⟨hgrow.os, hgrow.tape, hgrow.output, hgrow.size, hgrow.block⟩
                obtain ⟨hv1, _⟩ := hv.appended (by decide) hrow hB.size (Nat.le_add_right _ 1) hown' hg2
                have hc1 := hv1.cell
                have hf1 := hv1.frozen
                refine hK _ _ ?_
                clear hK K
                refine wpAnyIn_ready (rs := [6]) (by kernel_rfl) (by simp) ?_
                refine AllReadyIn.cons rfl (fun K hK => ?_) AllReadyIn.nil
                go_simp
                refine hK _ _ ?_
                clear hK K
                refine wpAnyIn_done (by kernel_rfl) ?_ _
                exact body_end (x := (i, ⟨117, by simp⟩)) hO2 hv hrow hB h2 h3 hown' hg2 _
              exact AllReadyIn.nil
            exact AllReadyIn.nil
          refine AllReadyIn.cons rfl (fun K hK => ?_) ?_
          · go_simp
            try (refine hK _ _ ?_; clear hK K)
            refine wpAnyIn_ready (rs := [0, 4]) (by kernel_rfl) (by simp) ?_
            refine AllReadyIn.cons rfl (fun K hK => ?_) ?_
            · go_simp
              try (refine hK _ _ ?_; clear hK K)
              refine wpAnyIn_ready (rs := [4]) (by kernel_rfl) (by simp) ?_
              refine AllReadyIn.cons rfl (fun K hK => ?_) ?_
              · go_simp
                try (refine hK _ _ ?_; clear hK K)
                refine wpAnyIn_ready (rs := [5]) (by kernel_rfl) (by simp) ?_
                refine AllReadyIn.cons rfl (fun K hK => stepIn_append_own _ rfl _ _ 67 rfl w.heap.size 5 i0 (.int .u8 0) 1 1 Tryd.underlying67 hi hz0 hz1 hz2 rfl (by decide) v pre.length (opL pre) rfl (hrow.alloc (.cells #[.int .u8 100] 5)) ⟨W.heap.size, 0, none⟩ 1 1 [.int .u8 100] rfl rfl (cell_one_new _ _ _) (by simp [Value.oneCell']) (by rw [show maxLen = 9223372036854775807 by decide]; omega) (by omega) (by have := hB.size; simp; omega) (fun v' w1 hown' hgrow _ => ?_)) AllReadyIn.nil
                obtain ⟨g', cap', rfl⟩ := ownsRow_succ hown'
                have hg2 : (W.alloc (.cells #[.int .u8 100] 5)).grownBy w1 v.ownBlock := ⟨hgrow.os, hgrow.tape, hgrow.output, hgrow.size, hgrow.block⟩
                obtain ⟨hv1, _⟩ := hv.appended (by decide) hrow hB.size (Nat.le_add_right _ 1) hown' hg2
                have hc1 := hv1.cell
                have hf1 := hv1.frozen
                refine hK _ _ ?_
                clear hK K
                refine wpAnyIn_ready (rs := [6]) (by kernel_rfl) (by simp) ?_
                refine AllReadyIn.cons rfl (fun K hK => ?_) AllReadyIn.nil
                go_simp
                refine hK _ _ ?_
                clear hK K
                refine wpAnyIn_done (by kernel_rfl) ?_ _
                exact body_end (x := (i, ⟨117, by simp⟩)) hO2 hv hrow hB h2 h3 hown' hg2 _
              exact AllReadyIn.nil
            refine AllReadyIn.cons rfl (fun K hK => ?_) ?_
            · go_simp
              try (refine hK _ _ ?_; clear hK K)
              refine wpAnyIn_ready (rs := [0]) (by kernel_rfl) (by simp) ?_
              refine AllReadyIn.cons rfl (fun K hK => ?_) ?_
              · go_simp
                try (refine hK _ _ ?_; clear hK K)
                refine wpAnyIn_ready (rs := [5]) (by kernel_rfl) (by simp) ?_
                refine AllReadyIn.cons rfl (fun K hK => stepIn_append_own _ rfl _ _ 67 rfl w.heap.size 5 i0 (.int .u8 0) 1 1 Tryd.underlying67 hi hz0 hz1 hz2 rfl (by decide) v pre.length (opL pre) rfl (hrow.alloc (.cells #[.int .u8 100] 5)) ⟨W.heap.size, 0, none⟩ 1 1 [.int .u8 100] rfl rfl (cell_one_new _ _ _) (by simp [Value.oneCell']) (by rw [show maxLen = 9223372036854775807 by decide]; omega) (by omega) (by have := hB.size; simp; omega) (fun v' w1 hown' hgrow _ => ?_)) AllReadyIn.nil
                obtain ⟨g', cap', rfl⟩ := ownsRow_succ hown'
                have hg2 : (W.alloc (.cells #[.int .u8 100] 5)).grownBy w1 v.ownBlock := ⟨hgrow.os, hgrow.tape, hgrow.output, hgrow.size, hgrow.block⟩
                obtain ⟨hv1, _⟩ := hv.appended (by decide) hrow hB.size (Nat.le_add_right _ 1) hown' hg2
                have hc1 := hv1.cell
                have hf1 := hv1.frozen
                refine hK _ _ ?_
                clear hK K
                refine wpAnyIn_ready (rs := [6]) (by kernel_rfl) (by simp) ?_
                refine AllReadyIn.cons rfl (fun K hK => ?_) AllReadyIn.nil
                go_simp
                refine hK _ _ ?_
                clear hK K
                refine wpAnyIn_done (by kernel_rfl) ?_ _
                exact body_end (x := (i, ⟨117, by simp⟩)) hO2 hv hrow hB h2 h3 hown' hg2 _
              exact AllReadyIn.nil
            exact AllReadyIn.nil
          exact AllReadyIn.nil
        exact AllReadyIn.nil
      exact AllReadyIn.nil
    · have hIB : ∀ W, Calls Tryd.prog 58 #[.string ⟨#[114, 117, 108, 100]⟩, .int .u8 108] W fun e w' => e = .returned (.int .i64 2) ∧ w' = W := fun W => Any.strings_IndexByte Tryd.lays137 _ 108 W
      simp only [show ((108 : UInt8).toNat : Int) = 108 from rfl]
      gi_wp2
      refine wpIn_region_any (by assumption) ?_
      change wpAnyIn _ _ _ _ _ _ _ _ _ (World.drew _)
      refine wpAnyIn_ready (rs := [0, 1]) (by kernel_rfl) (by simp) ?_
      refine AllReadyIn.cons rfl (fun K hK => ?_) ?_
      · go_simp
        try (refine hK _ _ ?_; clear hK K)
        refine wpAnyIn_ready (rs := [1]) (by kernel_rfl) (by simp) ?_
        refine AllReadyIn.cons rfl (fun K hK => ?_) ?_
        · go_simp
          try (refine hK _ _ ?_; clear hK K)
          refine wpAnyIn_ready (rs := [2]) (by kernel_rfl) (by simp) ?_
          refine AllReadyIn.cons rfl (fun K hK => ?_) ?_
          · go_simp
            gi_wp2_with (refine ⟨trivial, ?_⟩; gi_at_call 58; refine (CallsIn.inRound l (callsIn_wide.2 (hIB _))).mono ?_; rintro e w' ⟨rfl, rfl⟩)
            try (refine hK _ _ ?_; clear hK K)
            refine wpAnyIn_ready (rs := [3]) (by kernel_rfl) (by simp) ?_
            refine AllReadyIn.cons rfl (fun K hK => ?_) ?_
            · go_simp
              try (refine hK _ _ ?_; clear hK K)
              refine wpAnyIn_ready (rs := [4]) (by kernel_rfl) (by simp) ?_
              refine AllReadyIn.cons rfl (fun K hK => ?_) ?_
              · go_simp
                try (refine hK _ _ ?_; clear hK K)
                refine wpAnyIn_ready (rs := [5]) (by kernel_rfl) (by simp) ?_
                refine AllReadyIn.cons rfl (fun K hK => stepIn_append_own _ rfl _ _ 67 rfl w.heap.size 5 i0 (.int .u8 0) 1 1 Tryd.underlying67 hi hz0 hz1 hz2 rfl (by decide) v pre.length (opL pre) rfl (hrow.alloc (.cells #[.int .u8 114] 5)) ⟨W.heap.size, 0, none⟩ 1 1 [.int .u8 114] rfl rfl (cell_one_new _ _ _) (by simp [Value.oneCell']) (by rw [show maxLen = 9223372036854775807 by decide]; omega) (by omega) (by have := hB.size; simp; omega) (fun v' w1 hown' hgrow _ => ?_)) AllReadyIn.nil
                obtain ⟨g', cap', rfl⟩ := ownsRow_succ hown'
                have hg2 : (W.alloc (.cells #[.int .u8 114] 5)).grownBy w1 v.ownBlock := ⟨hgrow.os, hgrow.tape, hgrow.output, hgrow.size, hgrow.block⟩
                obtain ⟨hv1, _⟩ := hv.appended (by decide) hrow hB.size (Nat.le_add_right _ 1) hown' hg2
                have hc1 := hv1.cell
                have hf1 := hv1.frozen
                refine hK _ _ ?_
                clear hK K
                refine wpAnyIn_ready (rs := [6]) (by kernel_rfl) (by simp) ?_
                refine AllReadyIn.cons rfl (fun K hK => ?_) AllReadyIn.nil
                go_simp
                refine hK _ _ ?_
                clear hK K
                refine wpAnyIn_done (by kernel_rfl) ?_ _
                exact body_end (x := (i, ⟨108, by simp⟩)) hO2 hv hrow hB h2 h3 hown' hg2 _
              exact AllReadyIn.nil
            exact AllReadyIn.nil
          exact AllReadyIn.nil
        exact AllReadyIn.nil
      refine AllReadyIn.cons rfl (fun K hK => ?_) ?_
      · go_simp
        try (refine hK _ _ ?_; clear hK K)
        refine wpAnyIn_ready (rs := [0, 2]) (by kernel_rfl) (by simp) ?_
        refine AllReadyIn.cons rfl (fun K hK => ?_) ?_
        · go_simp
          try (refine hK _ _ ?_; clear hK K)
          refine wpAnyIn_ready (rs := [2]) (by kernel_rfl) (by simp) ?_
          refine AllReadyIn.cons rfl (fun K hK => ?_) ?_
          · go_simp
            gi_wp2_with (refine ⟨trivial, ?_⟩; gi_at_call 58; refine (CallsIn.inRound l (callsIn_wide.2 (hIB _))).mono ?_; rintro e w' ⟨rfl, rfl⟩)
            try (refine hK _ _ ?_; clear hK K)
            refine wpAnyIn_ready (rs := [3]) (by kernel_rfl) (by simp) ?_
            refine AllReadyIn.cons rfl (fun K hK => ?_) ?_
            · go_simp
              try (refine hK _ _ ?_; clear hK K)
              refine wpAnyIn_ready (rs := [4]) (by kernel_rfl) (by simp) ?_
              refine AllReadyIn.cons rfl (fun K hK => ?_) ?_
              · go_simp
                try (refine hK _ _ ?_; clear hK K)
                refine wpAnyIn_ready (rs := [5]) (by kernel_rfl) (by simp) ?_
                refine AllReadyIn.cons rfl (fun K hK => stepIn_append_own _ rfl _ _ 67 rfl w.heap.size 5 i0 (.int .u8 0) 1 1 Tryd.underlying67 hi hz0 hz1 hz2 rfl (by decide) v pre.length (opL pre) rfl (hrow.alloc (.cells #[.int .u8 114] 5)) ⟨W.heap.size, 0, none⟩ 1 1 [.int .u8 114] rfl rfl (cell_one_new _ _ _) (by simp [Value.oneCell']) (by rw [show maxLen = 9223372036854775807 by decide]; omega) (by omega) (by have := hB.size; simp; omega) (fun v' w1 hown' hgrow _ => ?_)) AllReadyIn.nil
                obtain ⟨g', cap', rfl⟩ := ownsRow_succ hown'
                have hg2 : (W.alloc (.cells #[.int .u8 114] 5)).grownBy w1 v.ownBlock := ⟨hgrow.os, hgrow.tape, hgrow.output, hgrow.size, hgrow.block⟩
                obtain ⟨hv1, _⟩ := hv.appended (by decide) hrow hB.size (Nat.le_add_right _ 1) hown' hg2
                have hc1 := hv1.cell
                have hf1 := hv1.frozen
                refine hK _ _ ?_
                clear hK K
                refine wpAnyIn_ready (rs := [6]) (by kernel_rfl) (by simp) ?_
                refine AllReadyIn.cons rfl (fun K hK => ?_) AllReadyIn.nil
                go_simp
                refine hK _ _ ?_
                clear hK K
                refine wpAnyIn_done (by kernel_rfl) ?_ _
                exact body_end (x := (i, ⟨108, by simp⟩)) hO2 hv hrow hB h2 h3 hown' hg2 _
              exact AllReadyIn.nil
            exact AllReadyIn.nil
          exact AllReadyIn.nil
        refine AllReadyIn.cons rfl (fun K hK => ?_) ?_
        · go_simp
          gi_wp2_with (refine ⟨trivial, ?_⟩; gi_at_call 58; refine (CallsIn.inRound l (callsIn_wide.2 (hIB _))).mono ?_; rintro e w' ⟨rfl, rfl⟩)
          try (refine hK _ _ ?_; clear hK K)
          refine wpAnyIn_ready (rs := [0, 3]) (by kernel_rfl) (by simp) ?_
          refine AllReadyIn.cons rfl (fun K hK => ?_) ?_
          · go_simp
            try (refine hK _ _ ?_; clear hK K)
            refine wpAnyIn_ready (rs := [3]) (by kernel_rfl) (by simp) ?_
            refine AllReadyIn.cons rfl (fun K hK => ?_) ?_
            · go_simp
              try (refine hK _ _ ?_; clear hK K)
              refine wpAnyIn_ready (rs := [4]) (by kernel_rfl) (by simp) ?_
              refine AllReadyIn.cons rfl (fun K hK => ?_) ?_
              · go_simp
                try (refine hK _ _ ?_; clear hK K)
                refine wpAnyIn_ready (rs := [5]) (by kernel_rfl) (by simp) ?_
                refine AllReadyIn.cons rfl (fun K hK => stepIn_append_own _ rfl _ _ 67 rfl w.heap.size 5 i0 (.int .u8 0) 1 1 Tryd.underlying67 hi hz0 hz1 hz2 rfl (by decide) v pre.length (opL pre) rfl (hrow.alloc (.cells #[.int .u8 114] 5)) ⟨W.heap.size, 0, none⟩ 1 1 [.int .u8 114] rfl rfl (cell_one_new _ _ _) (by simp [Value.oneCell']) (by rw [show maxLen = 9223372036854775807 by decide]; omega) (by omega) (by have := hB.size; simp; omega) (fun v' w1 hown' hgrow _ => ?_)) AllReadyIn.nil
                obtain ⟨g', cap', rfl⟩ := ownsRow_succ hown'
                have hg2 : (W.alloc (.cells #[.int .u8 114] 5)).grownBy w1 v.ownBlock := ⟨hgrow.os, hgrow.tape, hgrow.output, hgrow.size, hgrow.block⟩
                obtain ⟨hv1, _⟩ := hv.appended (by decide) hrow hB.size (Nat.le_add_right _ 1) hown' hg2
                have hc1 := hv1.cell
                have hf1 := hv1.frozen
                refine hK _ _ ?_
                clear hK K
                refine wpAnyIn_ready (rs := [6]) (by kernel_rfl) (by simp) ?_
                refine AllReadyIn.cons rfl (fun K hK => ?_) AllReadyIn.nil
                go_simp
                refine hK _ _ ?_
                clear hK K
                refine wpAnyIn_done (by kernel_rfl) ?_ _
                exact body_end (x := (i, ⟨108, by simp⟩)) hO2 hv hrow hB h2 h3 hown' hg2 _
              exact AllReadyIn.nil
            exact AllReadyIn.nil
          refine AllReadyIn.cons rfl (fun K hK => ?_) ?_
          · go_simp
            try (refine hK _ _ ?_; clear hK K)
            refine wpAnyIn_ready (rs := [0, 4]) (by kernel_rfl) (by simp) ?_
            refine AllReadyIn.cons rfl (fun K hK => ?_) ?_
            · go_simp
              try (refine hK _ _ ?_; clear hK K)
              refine wpAnyIn_ready (rs := [4]) (by kernel_rfl) (by simp) ?_
              refine AllReadyIn.cons rfl (fun K hK => ?_) ?_
              · go_simp
                try (refine hK _ _ ?_; clear hK K)
                refine wpAnyIn_ready (rs := [5]) (by kernel_rfl) (by simp) ?_
                refine AllReadyIn.cons rfl (fun K hK => stepIn_append_own _ rfl _ _ 67 rfl w.heap.size 5 i0 (.int .u8 0) 1 1 Tryd.underlying67 hi hz0 hz1 hz2 rfl (by decide) v pre.length (opL pre) rfl (hrow.alloc (.cells #[.int .u8 114] 5)) ⟨W.heap.size, 0, none⟩ 1 1 [.int .u8 114] rfl rfl (cell_one_new _ _ _) (by simp [Value.oneCell']) (by rw [show maxLen = 9223372036854775807 by decide]; omega) (by omega) (by have := hB.size; simp; omega) (fun v' w1 hown' hgrow _ => ?_)) AllReadyIn.nil
                obtain ⟨g', cap', rfl⟩ := ownsRow_succ hown'
                have hg2 : (W.alloc (.cells #[.int .u8 114] 5)).grownBy w1 v.ownBlock := ⟨hgrow.os, hgrow.tape, hgrow.output, hgrow.size, hgrow.block⟩
                obtain ⟨hv1, _⟩ := hv.appended (by decide) hrow hB.size (Nat.le_add_right _ 1) hown' hg2
                have hc1 := hv1.cell
                have hf1 := hv1.frozen
                refine hK _ _ ?_
                clear hK K
                refine wpAnyIn_ready (rs := [6]) (by kernel_rfl) (by simp) ?_
                refine AllReadyIn.cons rfl (fun K hK => ?_) AllReadyIn.nil
                go_simp
                refine hK _ _ ?_
                clear hK K
                refine wpAnyIn_done (by kernel_rfl) ?_ _
                exact body_end (x := (i, ⟨108, by simp⟩)) hO2 hv hrow hB h2 h3 hown' hg2 _
              exact AllReadyIn.nil
            refine AllReadyIn.cons rfl (fun K hK => ?_) ?_
            · go_simp
              try (refine hK _ _ ?_; clear hK K)
              refine wpAnyIn_ready (rs := [0]) (by kernel_rfl) (by simp) ?_
              refine AllReadyIn.cons rfl (fun K hK => ?_) ?_
              · go_simp
                try (refine hK _ _ ?_; clear hK K)
                refine wpAnyIn_ready (rs := [5]) (by kernel_rfl) (by simp) ?_
                refine AllReadyIn.cons rfl (fun K hK => stepIn_append_own _ rfl _ _ 67 rfl w.heap.size 5 i0 (.int .u8 0) 1 1 Tryd.underlying67 hi hz0 hz1 hz2 rfl (by decide) v pre.length (opL pre) rfl (hrow.alloc (.cells #[.int .u8 114] 5)) ⟨W.heap.size, 0, none⟩ 1 1 [.int .u8 114] rfl rfl (cell_one_new _ _ _) (by simp [Value.oneCell']) (by rw [show maxLen = 9223372036854775807 by decide]; omega) (by omega) (by have := hB.size; simp; omega) (fun v' w1 hown' hgrow _ => ?_)) AllReadyIn.nil
                obtain ⟨g', cap', rfl⟩ := ownsRow_succ hown'
                have hg2 : (W.alloc (.cells #[.int .u8 114] 5)).grownBy w1 v.ownBlock := ⟨hgrow.os, hgrow.tape, hgrow.output, hgrow.size, hgrow.block⟩
                obtain ⟨hv1, _⟩ := hv.appended (by decide) hrow hB.size (Nat.le_add_right _ 1) hown' hg2
                have hc1 := hv1.cell
                have hf1 := hv1.frozen
                refine hK _ _ ?_
                clear hK K
                refine wpAnyIn_ready (rs := [6]) (by kernel_rfl) (by simp) ?_
                refine AllReadyIn.cons rfl (fun K hK => ?_) AllReadyIn.nil
                go_simp
                refine hK _ _ ?_
                clear hK K
                refine wpAnyIn_done (by kernel_rfl) ?_ _
                exact body_end (x := (i, ⟨108, by simp⟩)) hO2 hv hrow hB h2 h3 hown' hg2 _
              exact AllReadyIn.nil
            exact AllReadyIn.nil
          exact AllReadyIn.nil
        exact AllReadyIn.nil
      exact AllReadyIn.nil
    · have hIB : ∀ W, Calls Tryd.prog 58 #[.string ⟨#[114, 117, 108, 100]⟩, .int .u8 100] W fun e w' => e = .returned (.int .i64 3) ∧ w' = W := fun W => Any.strings_IndexByte Tryd.lays137 _ 100 W
      simp only [show ((100 : UInt8).toNat : Int) = 100 from rfl]
      gi_wp2
      refine wpIn_region_any (by assumption) ?_
      change wpAnyIn _ _ _ _ _ _ _ _ _ (World.drew _)
      refine wpAnyIn_ready (rs := [0, 1]) (by kernel_rfl) (by simp) ?_
      refine AllReadyIn.cons rfl (fun K hK => ?_) ?_
      · go_simp
        try (refine hK _ _ ?_; clear hK K)
        refine wpAnyIn_ready (rs := [1]) (by kernel_rfl) (by simp) ?_
        refine AllReadyIn.cons rfl (fun K hK => ?_) ?_
        · go_simp
          try (refine hK _ _ ?_; clear hK K)
          refine wpAnyIn_ready (rs := [2]) (by kernel_rfl) (by simp) ?_
          refine AllReadyIn.cons rfl (fun K hK => ?_) ?_
          · go_simp
            gi_wp2_with (refine ⟨trivial, ?_⟩; gi_at_call 58; refine (CallsIn.inRound l (callsIn_wide.2 (hIB _))).mono ?_; rintro e w' ⟨rfl, rfl⟩)
            try (refine hK _ _ ?_; clear hK K)
            refine wpAnyIn_ready (rs := [3]) (by kernel_rfl) (by simp) ?_
            refine AllReadyIn.cons rfl (fun K hK => ?_) ?_
            · go_simp
              try (refine hK _ _ ?_; clear hK K)
              refine wpAnyIn_ready (rs := [4]) (by kernel_rfl) (by simp) ?_
              refine AllReadyIn.cons rfl (fun K hK => ?_) ?_
              · go_simp
                try (refine hK _ _ ?_; clear hK K)
                refine wpAnyIn_ready (rs := [5]) (by kernel_rfl) (by simp) ?_
                refine AllReadyIn.cons rfl (fun K hK => stepIn_append_own _ rfl _ _ 67 rfl w.heap.size 5 i0 (.int .u8 0) 1 1 Tryd.underlying67 hi hz0 hz1 hz2 rfl (by decide) v pre.length (opL pre) rfl (hrow.alloc (.cells #[.int .u8 117] 5)) ⟨W.heap.size, 0, none⟩ 1 1 [.int .u8 117] rfl rfl (cell_one_new _ _ _) (by simp [Value.oneCell']) (by rw [show maxLen = 9223372036854775807 by decide]; omega) (by omega) (by have := hB.size; simp; omega) (fun v' w1 hown' hgrow _ => ?_)) AllReadyIn.nil
                obtain ⟨g', cap', rfl⟩ := ownsRow_succ hown'
                have hg2 : (W.alloc (.cells #[.int .u8 117] 5)).grownBy w1 v.ownBlock := ⟨hgrow.os, hgrow.tape, hgrow.output, hgrow.size, hgrow.block⟩
                obtain ⟨hv1, _⟩ := hv.appended (by decide) hrow hB.size (Nat.le_add_right _ 1) hown' hg2
                have hc1 := hv1.cell
                have hf1 := hv1.frozen
                refine hK _ _ ?_
                clear hK K
                refine wpAnyIn_ready (rs := [6]) (by kernel_rfl) (by simp) ?_
                refine AllReadyIn.cons rfl (fun K hK => ?_) AllReadyIn.nil
                go_simp
                refine hK _ _ ?_
                clear hK K
                refine wpAnyIn_done (by kernel_rfl) ?_ _
                exact body_end (x := (i, ⟨100, by simp⟩)) hO2 hv hrow hB h2 h3 hown' hg2 _
              exact AllReadyIn.nil
            exact AllReadyIn.nil
          exact AllReadyIn.nil
        exact AllReadyIn.nil
      refine AllReadyIn.cons rfl (fun K hK => ?_) ?_
      · go_simp
        try (refine hK _ _ ?_; clear hK K)
        refine wpAnyIn_ready (rs := [0, 2]) (by kernel_rfl) (by simp) ?_
        refine AllReadyIn.cons rfl (fun K hK => ?_) ?_
        · go_simp
          try (refine hK _ _ ?_; clear hK K)
          refine wpAnyIn_ready (rs := [2]) (by kernel_rfl) (by simp) ?_
          refine AllReadyIn.cons rfl (fun K hK => ?_) ?_
          · go_simp
            gi_wp2_with (refine ⟨trivial, ?_⟩; gi_at_call 58; refine (CallsIn.inRound l (callsIn_wide.2 (hIB _))).mono ?_; rintro e w' ⟨rfl, rfl⟩)
            try (refine hK _ _ ?_; clear hK K)
            refine wpAnyIn_ready (rs := [3]) (by kernel_rfl) (by simp) ?_
            refine AllReadyIn.cons rfl (fun K hK => ?_) ?_
            · go_simp
              try (refine hK _ _ ?_; clear hK K)
              refine wpAnyIn_ready (rs := [4]) (by kernel_rfl) (by simp) ?_
              refine AllReadyIn.cons rfl (fun K hK => ?_) ?_
              · go_simp
                try (refine hK _ _ ?_; clear hK K)
                refine wpAnyIn_ready (rs := [5]) (by kernel_rfl) (by simp) ?_
                refine AllReadyIn.cons rfl (fun K hK => stepIn_append_own _ rfl _ _ 67 rfl w.heap.size 5 i0 (.int .u8 0) 1 1 Tryd.underlying67 hi hz0 hz1 hz2 rfl (by decide) v pre.length (opL pre) rfl (hrow.alloc (.cells #[.int .u8 117] 5)) ⟨W.heap.size, 0, none⟩ 1 1 [.int .u8 117] rfl rfl (cell_one_new _ _ _) (by simp [Value.oneCell']) (by rw [show maxLen = 9223372036854775807 by decide]; omega) (by omega) (by have := hB.size; simp; omega) (fun v' w1 hown' hgrow _ => ?_)) AllReadyIn.nil
                obtain ⟨g', cap', rfl⟩ := ownsRow_succ hown'
                have hg2 : (W.alloc (.cells #[.int .u8 117] 5)).grownBy w1 v.ownBlock := ⟨hgrow.os, hgrow.tape, hgrow.output, hgrow.size, hgrow.block⟩
                obtain ⟨hv1, _⟩ := hv.appended (by decide) hrow hB.size (Nat.le_add_right _ 1) hown' hg2
                have hc1 := hv1.cell
                have hf1 := hv1.frozen
                refine hK _ _ ?_
                clear hK K
                refine wpAnyIn_ready (rs := [6]) (by kernel_rfl) (by simp) ?_
                refine AllReadyIn.cons rfl (fun K hK => ?_) AllReadyIn.nil
                go_simp
                refine hK _ _ ?_
                clear hK K
                refine wpAnyIn_done (by kernel_rfl) ?_ _
                exact body_end (x := (i, ⟨100, by simp⟩)) hO2 hv hrow hB h2 h3 hown' hg2 _
              exact AllReadyIn.nil
            exact AllReadyIn.nil
          exact AllReadyIn.nil
        refine AllReadyIn.cons rfl (fun K hK => ?_) ?_
        · go_simp
          gi_wp2_with (refine ⟨trivial, ?_⟩; gi_at_call 58; refine (CallsIn.inRound l (callsIn_wide.2 (hIB _))).mono ?_; rintro e w' ⟨rfl, rfl⟩)
          try (refine hK _ _ ?_; clear hK K)
          refine wpAnyIn_ready (rs := [0, 3]) (by kernel_rfl) (by simp) ?_
          refine AllReadyIn.cons rfl (fun K hK => ?_) ?_
          · go_simp
            try (refine hK _ _ ?_; clear hK K)
            refine wpAnyIn_ready (rs := [3]) (by kernel_rfl) (by simp) ?_
            refine AllReadyIn.cons rfl (fun K hK => ?_) ?_
            · go_simp
              try (refine hK _ _ ?_; clear hK K)
              refine wpAnyIn_ready (rs := [4]) (by kernel_rfl) (by simp) ?_
              refine AllReadyIn.cons rfl (fun K hK => ?_) ?_
              · go_simp
                try (refine hK _ _ ?_; clear hK K)
                refine wpAnyIn_ready (rs := [5]) (by kernel_rfl) (by simp) ?_
                refine AllReadyIn.cons rfl (fun K hK => stepIn_append_own _ rfl _ _ 67 rfl w.heap.size 5 i0 (.int .u8 0) 1 1 Tryd.underlying67 hi hz0 hz1 hz2 rfl (by decide) v pre.length (opL pre) rfl (hrow.alloc (.cells #[.int .u8 117] 5)) ⟨W.heap.size, 0, none⟩ 1 1 [.int .u8 117] rfl rfl (cell_one_new _ _ _) (by simp [Value.oneCell']) (by rw [show maxLen = 9223372036854775807 by decide]; omega) (by omega) (by have := hB.size; simp; omega) (fun v' w1 hown' hgrow _ => ?_)) AllReadyIn.nil
                obtain ⟨g', cap', rfl⟩ := ownsRow_succ hown'
                have hg2 : (W.alloc (.cells #[.int .u8 117] 5)).grownBy w1 v.ownBlock := ⟨hgrow.os, hgrow.tape, hgrow.output, hgrow.size, hgrow.block⟩
                obtain ⟨hv1, _⟩ := hv.appended (by decide) hrow hB.size (Nat.le_add_right _ 1) hown' hg2
                have hc1 := hv1.cell
                have hf1 := hv1.frozen
                refine hK _ _ ?_
                clear hK K
                refine wpAnyIn_ready (rs := [6]) (by kernel_rfl) (by simp) ?_
                refine AllReadyIn.cons rfl (fun K hK => ?_) AllReadyIn.nil
                go_simp
                refine hK _ _ ?_
                clear hK K
                refine wpAnyIn_done (by kernel_rfl) ?_ _
                exact body_end (x := (i, ⟨100, by simp⟩)) hO2 hv hrow hB h2 h3 hown' hg2 _
              exact AllReadyIn.nil
            exact AllReadyIn.nil
          refine AllReadyIn.cons rfl (fun K hK => ?_) ?_
          · go_simp
            try (refine hK _ _ ?_; clear hK K)
            refine wpAnyIn_ready (rs := [0, 4]) (by kernel_rfl) (by simp) ?_
            refine AllReadyIn.cons rfl (fun K hK => ?_) ?_
            · go_simp
              try (refine hK _ _ ?_; clear hK K)
              refine wpAnyIn_ready (rs := [4]) (by kernel_rfl) (by simp) ?_
              refine AllReadyIn.cons rfl (fun K hK => ?_) ?_
              · go_simp
                try (refine hK _ _ ?_; clear hK K)
                refine wpAnyIn_ready (rs := [5]) (by kernel_rfl) (by simp) ?_
                refine AllReadyIn.cons rfl (fun K hK => stepIn_append_own _ rfl _ _ 67 rfl w.heap.size 5 i0 (.int .u8 0) 1 1 Tryd.underlying67 hi hz0 hz1 hz2 rfl (by decide) v pre.length (opL pre) rfl (hrow.alloc (.cells #[.int .u8 117] 5)) ⟨W.heap.size, 0, none⟩ 1 1 [.int .u8 117] rfl rfl (cell_one_new _ _ _) (by simp [Value.oneCell']) (by rw [show maxLen = 9223372036854775807 by decide]; omega) (by omega) (by have := hB.size; simp; omega) (fun v' w1 hown' hgrow _ => ?_)) AllReadyIn.nil
                obtain ⟨g', cap', rfl⟩ := ownsRow_succ hown'
                have hg2 : (W.alloc (.cells #[.int .u8 117] 5)).grownBy w1 v.ownBlock := ⟨hgrow.os, hgrow.tape, hgrow.output, hgrow.size, hgrow.block⟩
                obtain ⟨hv1, _⟩ := hv.appended (by decide) hrow hB.size (Nat.le_add_right _ 1) hown' hg2
                have hc1 := hv1.cell
                have hf1 := hv1.frozen
                refine hK _ _ ?_
                clear hK K
                refine wpAnyIn_ready (rs := [6]) (by kernel_rfl) (by simp) ?_
                refine AllReadyIn.cons rfl (fun K hK => ?_) AllReadyIn.nil
                go_simp
                refine hK _ _ ?_
                clear hK K
                refine wpAnyIn_done (by kernel_rfl) ?_ _
                exact body_end (x := (i, ⟨100, by simp⟩)) hO2 hv hrow hB h2 h3 hown' hg2 _
              exact AllReadyIn.nil
            refine AllReadyIn.cons rfl (fun K hK => ?_) ?_
            · go_simp
              try (refine hK _ _ ?_; clear hK K)
              refine wpAnyIn_ready (rs := [0]) (by kernel_rfl) (by simp) ?_
              refine AllReadyIn.cons rfl (fun K hK => ?_) ?_
              · go_simp
                try (refine hK _ _ ?_; clear hK K)
                refine wpAnyIn_ready (rs := [5]) (by kernel_rfl) (by simp) ?_
                refine AllReadyIn.cons rfl (fun K hK => stepIn_append_own _ rfl _ _ 67 rfl w.heap.size 5 i0 (.int .u8 0) 1 1 Tryd.underlying67 hi hz0 hz1 hz2 rfl (by decide) v pre.length (opL pre) rfl (hrow.alloc (.cells #[.int .u8 117] 5)) ⟨W.heap.size, 0, none⟩ 1 1 [.int .u8 117] rfl rfl (cell_one_new _ _ _) (by simp [Value.oneCell']) (by rw [show maxLen = 9223372036854775807 by decide]; omega) (by omega) (by have := hB.size; simp; omega) (fun v' w1 hown' hgrow _ => ?_)) AllReadyIn.nil
                obtain ⟨g', cap', rfl⟩ := ownsRow_succ hown'
                have hg2 : (W.alloc (.cells #[.int .u8 117] 5)).grownBy w1 v.ownBlock := ⟨hgrow.os, hgrow.tape, hgrow.output, hgrow.size, hgrow.block⟩
                obtain ⟨hv1, _⟩ := hv.appended (by decide) hrow hB.size (Nat.le_add_right _ 1) hown' hg2
                have hc1 := hv1.cell
                have hf1 := hv1.frozen
                refine hK _ _ ?_
                clear hK K
                refine wpAnyIn_ready (rs := [6]) (by kernel_rfl) (by simp) ?_
                refine AllReadyIn.cons rfl (fun K hK => ?_) AllReadyIn.nil
                go_simp
                refine hK _ _ ?_
                clear hK K
                refine wpAnyIn_done (by kernel_rfl) ?_ _
                exact body_end (x := (i, ⟨100, by simp⟩)) hO2 hv hrow hB h2 h3 hown' hg2 _
              exact AllReadyIn.nil
            exact AllReadyIn.nil
          exact AllReadyIn.nil
        exact AllReadyIn.nil
      exact AllReadyIn.nil
  case done =>
    rintro D ys W hD hys ⟨⟨⟨v, hv, hrow, hnil⟩, hB⟩, h2, h3⟩ hK
    have hc := hv.cell
    obtain ⟨g, cp, cur, rfl, hge, hgb, hle, _, hcs, htk⟩ : ∃ g cap cur, v = .slice (some ⟨g, 0, none⟩) ys.length cap ∧ w.heap.size ≤ g ∧ W.heap[g]? = some (.cells cur 5 (0, 0)) ∧ ys.length ≤ cap ∧ cap ≤ maxLen ∧ cur.size = cap * 1 ∧ cur.toList.take (ys.length * 1) = opL ys := by
      rcases hrow.2 with ⟨e, _⟩ | h
      · exact absurd e hnil
      · exact h
    have hys2 : (ys.map fun x => opB x.2.1) = zs.reverse.map fun x => opB x.1 := by
      rw [← hys, List.map_map]
      rfl
    have hyl : ys.length = ((ys.map fun x => opB x.2.1)).length := by simp
    have hcb : (convert 67 9 (.slice (some ⟨g, 0, none⟩) ys.length cp)).run Tryd.prog W = .ok (.string ⟨(ys.map fun x => opB x.2.1).toArray⟩) W := by
      conv => lhs; rw [hyl]
      refine run_convert_bytes_back W 67 9 5 ⟨g, 0, none⟩ cp (ys.map fun x => opB x.2.1) Tryd.underlying67 Tryd.underlying5 Tryd.underlying9 (fun j hj => ?_)
      rw [List.length_map] at hj
      have e1 : cur.toList[j]? = some (.int .u8 ((opB ys[j].2.1).toNat : Int)) := by
        have : (cur.toList.take (ys.length * 1))[j]? = some (.int .u8 ((opB ys[j].2.1).toNat : Int)) := by
          rw [htk, opL, List.getElem?_map, List.getElem?_eq_getElem hj]
          rfl
        rwa [List.getElem?_take_of_lt (by omega)] at this
      have e2 := World.news_of_block hgb j _ e1
      simpa using e2
    have hyz : ys.length = zs.length := by
      have := congrArg List.length hys
      simpa using this
    rw [hys2, hyz] at hcb
    clear hyl
    rw [hyz] at hc
    gi_wp2
    refine ⟨by simp, .inl ⟨_, _, rfl, run_takeDeferred hK, ?_⟩⟩
    exact ⟨_, results_tmp rfl _ _ _, by rw [List.map_reverse]; rfl, hB.trans (belowK_b (w := w) (Nat.le_refl _) W D _ _ (by omega) hK rfl rfl)⟩
  case stop =>
    rintro D c pre W _ _ h _
    exact h.elim
end Go.Proofs.YthgpjndildlgpaaDoorEv
namespace Go.Proofs.YthgpjndildlgpaaDoorEv
open Go Go.Proofs
set_option maxRecDepth 10000
set_option maxHeartbeats 1000000
def bsR (l : List UInt8) : List V := l.map fun b => .int .u8 b.toNat
@[simp] theorem bsR_len (l : List UInt8) : (bsR l).length = l.length := by simp [bsR]
theorem unBs_bsR : ∀ l : List UInt8, unBs (bsR l) = some l
  | [] => rfl
  | b :: l => by
    have hb := UInt8.toNat_lt b
    have ih := unBs_bsR l
    simp only [bsR, List.map_cons, unBs] at ih ⊢
    rw [if_pos (by omega), ih]
    simp
@[simp] theorem unBs_app (l : List UInt8) (n : Int) (b : UInt8) (h : n = b.toNat) : bsR l ++ [.int .u8 n] = bsR (l ++ [b]) := by
  subst h
  simp [bsR]
def opW (s : ByteArray) : ByteArray := ⟨(s.data.toList.reverse.map opB).toArray⟩
def opR (l : List UInt8) (m : Nat) : List UInt8 := (l.drop m).reverse.map opB
theorem opR_step {l : List UInt8} {m : Nat} {x : UInt8} (h : l[m]? = some x) : opR l m = opR l (m + 1) ++ [opB x] := by
  obtain ⟨hm, e⟩ := List.getElem?_eq_some_iff.1 h
  rw [opR, List.drop_eq_getElem_cons hm, e, List.reverse_cons, List.map_append]
  rfl
theorem opR_len (l : List UInt8) (m : Nat) : (opR l m).length = l.length - m := by simp [opR]
theorem opR_zero (s : ByteArray) : (⟨(opR s.data.toList 0).toArray⟩ : ByteArray) = opW s := rfl
theorem opB_eq {x : UInt8} : opB x = if x = 114 then 108 else if x = 108 then 114 else if x = 117 then 100 else 117 := by
  unfold opB
  by_cases h1 : x = 114
  · rw [if_pos h1, if_pos h1]
  · rw [if_neg h1, if_neg h1]
    by_cases h2 : x = 108
    · subst h2; rfl
    · rw [if_neg h2, if_neg h2]
theorem s_sopp (s : ByteArray) (hs : s.size ≤ 1048576) : Sp Tryd.prog 42 [aS s] (.v (.str (opW s))) [] := by
  have hsz := Lib.size_eq s
  refine sp_of (m := no) mixed Tryd.func42 k42 ?_
  simp -dsimp [q]
  refine awp_it (true :: false :: false :: true :: true :: []) (fun m : Nat => [(4, vi ((m : Int) - 1))]) (fun m => [(0, .row 0 5 (bsR (opR s.data.toList m)))]) (fun m => m ≤ s.size) (fun m => m) s.size ?_
  intro s0 e
  simp -dsimp at e
  subst e
  refine ⟨?_, ?_⟩
  · simp -dsimp [bsR, opR]
    exact w64 (by omega) (by omega)
  intro m hm
  cases m with
  | zero =>
    simp -dsimp [unBs_bsR]
    exact opR_zero s
  | succ m =>
    have e1 : ((m + 1 : Nat) : Int) - 1 = (m : Int) := by omega
    have hol := opR_len s.data.toList (m + 1)
    simp -dsimp [e1]
    refine ⟨by omega, fun x hx => ?_⟩
    have hst := opR_step (l := s.data.toList) (m := m) (x := x) (by rw [Array.getElem?_toList]; exact hx)
    have e2 := u8_eq x 114 (by omega)
    have e3 := u8_eq x 117 (by omega)
    have e4 := u8_eq x 108 (by omega)
    have hw : IntKind.i64.wrap ((m : Int) - 1) = (m : Int) - 1 := w64 (by omega) (by omega)
    have fin : ∀ (n : Int) (c : UInt8), n = c.toNat → opB x = c → ∃ y : Nat, (IntKind.i64.wrap ((m : Int) - 1) = (y : Int) - 1 ∧ bsR (opR s.data.toList (m + 1)) ++ [V.int IntKind.u8 n] = bsR (opR s.data.toList y)) ∧ y ≤ s.size ∧ y < m + 1 := fun n c hn hc => ⟨m, ⟨hw, by rw [unBs_app _ n c hn, ← hc, ← hst]⟩, by omega, by omega⟩
    refine ⟨fun h => ?_, fun h1 => ⟨fun h => ?_, fun h2 => ⟨fun h => ?_, fun h3 => ?_⟩⟩⟩
    · exact ⟨by omega, fin 108 108 rfl (by rw [opB_eq, if_pos (show x = 114 from e2.1 h)])⟩
    · exact ⟨by omega, fin 114 114 rfl (by rw [opB_eq, if_neg (show ¬ x = 114 from fun e => h1 (e2.2 e)), if_pos (show x = 108 from e4.1 h)])⟩
    · exact ⟨by omega, fin 100 100 rfl (by rw [opB_eq, if_neg (show ¬ x = 114 from fun e => h1 (e2.2 e)), if_neg (show ¬ x = 108 from fun e => h2 (e4.2 e)), if_pos (show x = 117 from e3.1 h)])⟩
    · exact ⟨by omega, fin 117 117 rfl (by rw [opB_eq, if_neg (show ¬ x = 114 from fun e => h1 (e2.2 e)), if_neg (show ¬ x = 108 from fun e => h2 (e4.2 e)), if_neg (show ¬ x = 117 from fun e => h3 (e3.2 e))])⟩
end Go.Proofs.YthgpjndildlgpaaDoorEv
namespace Go.Proofs.YthgpjndildlgpaaDoorEv
open Go Go.Proofs
set_option maxRecDepth 10000
set_option maxHeartbeats 1000000
theorem lu_of : ∀ (l : List UInt8), l.all isL = true → ∃ zs : List LU, zs.map (·.1) = l
  | [], _ => ⟨[], rfl⟩
  | x :: l, h => by
    simp only [List.all_cons, Bool.and_eq_true] at h
    obtain ⟨zs, hz⟩ := lu_of l h.2
    exact ⟨⟨x, isL_iff.1 h.1⟩ :: zs, by rw [List.map_cons, hz]⟩
theorem s_opp (s : ByteArray) (hs : s.size ≤ 1048576) (ha : s.data.toList.all isL = true) : Sp Tryd.prog 43 [aS s] (.v (.str (opW s))) [] := by
  obtain ⟨zs, hz⟩ := lu_of _ ha
  have hl : zs.length ≤ 1048576 := by
    have := congrArg List.length hz
    rw [List.length_map] at this
    rw [this, ← Lib.size_eq]
    exact hs
  have he : (⟨(zs.reverse.map fun x => opB x.1).toArray⟩ : ByteArray) = opW s := by
    rw [opW, ← hz, ← List.map_reverse, List.map_map]
    rfl
  refine sp_below Tryd.func43 (by kernel_rfl) (by decide) (us := [.string s]) (u := .string (opW s)) (fun μ S w us' h => by
    simp only [ARs, AR, Rep] at h
    obtain ⟨u, us, rfl, rfl, rfl⟩ := h
    rfl) (fun S w => rfl) (fun w => ?_)
  rw [← he]
  exact callsIn_wide.1 (opp_in s zs hz w hl)
theorem s_oW (s : ByteArray) (hs : s.size ≤ 1048576) : Sp Tryd.prog 20 [aS s] (.tu [.v (.str (if okW s = true then opW s else ⟨#[]⟩)), vi (if okW s = true then 0 else 1)]) [] := by
  have w1 := s_isW s (by omega)
  refine sp_of (m := no) mixed Tryd.func20 k20 ?_
  simp -dsimp [q]
  cases h : okW s with
  | false =>
    rw [h] at w1
    refine call_of (w1) rfl (by simp) ?_
    try simp -dsimp
    try (first | exact fp_one (by decide) | refine fp_and (by decide) ?_)
  | true =>
    have ha : s.data.toList.all isL = true := by
      simp only [okW, Bool.and_eq_true] at h
      exact h.2
    rw [h] at w1
    refine call_of (w1) rfl (by simp) ?_
    try simp -dsimp
    try (first | exact fp_one (by decide) | refine fp_and (by decide) ?_)
    refine call_of (s_opp s hs ha) rfl (by simp) ?_
    try simp -dsimp
    try (first | exact fp_one (by decide) | refine fp_and (by decide) ?_)
theorem s_soW (s : ByteArray) (hs : s.size ≤ 1048576) : Sp Tryd.prog 19 [aS s] (.tu [.v (.str (if okW s = true then opW s else ⟨#[]⟩)), vi (if okW s = true then 0 else 1)]) [] := by
  have w1 := s_sisW s (by omega)
  refine sp_of (m := no) mixed Tryd.func19 k19 ?_
  simp -dsimp [q]
  cases h : okW s with
  | false =>
    rw [h] at w1
    refine call_of (w1) rfl (by simp) ?_
    try simp -dsimp
    try (first | exact fp_one (by decide) | refine fp_and (by decide) ?_)
  | true =>
    rw [h] at w1
    refine call_of (w1) rfl (by simp) ?_
    try simp -dsimp
    try (first | exact fp_one (by decide) | refine fp_and (by decide) ?_)
    refine call_of (s_sopp s hs) rfl (by simp) ?_
    try simp -dsimp
    try (first | exact fp_one (by decide) | refine fp_and (by decide) ?_)
end Go.Proofs.YthgpjndildlgpaaDoorEv
namespace Go.Proofs.YthgpjndildlgpaaDoorEv
open Go Go.Proofs
set_option maxRecDepth 10000
set_option maxHeartbeats 1000000
def pt (l : List UInt8) : Int × Int := l.foldl (fun p x => (p.1 + (stp x).1, p.2 + (stp x).2)) (0, 0)
theorem pt_succ {l : List UInt8} {i : Nat} {x : UInt8} (h : l[i]? = some x) : pt (l.take (i + 1)) = ((pt (l.take i)).1 + (stp x).1, (pt (l.take i)).2 + (stp x).2) := by
  simp [pt, List.take_add_one, h, List.foldl_append]
theorem stp_bd (x : UInt8) : (-1 ≤ (stp x).1 ∧ (stp x).1 ≤ 1) ∧ -1 ≤ (stp x).2 ∧ (stp x).2 ≤ 1 := by
  unfold stp
  repeat' split
  all_goals decide
theorem pt_bd (l : List UInt8) : ∀ i : Nat, (-(i : Int) ≤ (pt (l.take i)).1 ∧ (pt (l.take i)).1 ≤ i) ∧ -(i : Int) ≤ (pt (l.take i)).2 ∧ (pt (l.take i)).2 ≤ i
  | 0 => by simp [pt]
  | i + 1 => by
    have ih := pt_bd l i
    cases h : l[i]? with
    | none =>
      rw [List.take_add_one, h]
      simp only [Option.toList_none, List.append_nil]
      omega
    | some x =>
      have := stp_bd x
      rw [pt_succ h]
      simp only
      omega
def wy (l : List UInt8) (n : Nat) : List (Int × Int) := (List.range (n + 1)).map fun i => pt (l.take i)
theorem wy_len (l : List UInt8) (n : Nat) : (wy l n).length = n + 1 := by simp [wy]
theorem wy_succ (l : List UInt8) (n : Nat) : wy l (n + 1) = wy l n ++ [pt (l.take (n + 1))] := by
  simp [wy, List.range_succ]
theorem wy_get {l : List UInt8} {n i : Nat} (h : i ≤ n) : (wy l n)[i]? = some (pt (l.take i)) := by
  rw [wy, List.getElem?_map, List.getElem?_range (by omega)]
  rfl
theorem wy_at {l : List UInt8} {n i : Nat} (h : i ≤ n) {a b : Int} (hab : (wy l n)[i]? = some (a, b)) : a = (pt (l.take i)).1 ∧ b = (pt (l.take i)).2 := by
  rw [wy_get h] at hab
  have := Option.some.inj hab
  rw [this]
  exact ⟨rfl, rfl⟩
theorem vs_wy {l : List UInt8} {n i : Nat} (h : i ≤ n) : (vs (wy l n))[i]? = some (.ag [.int .i64 (pt (l.take i)).1, .int .i64 (pt (l.take i)).2]) := by
  rw [vs, List.getElem?_map, wy_get h]
  rfl
theorem vs_wyI {l : List UInt8} {n i : Nat} (h : i ≤ n) : (vs (wy l n))[((i : Nat) : Int).toNat]? = some (.ag [.int .i64 (pt (l.take i)).1, .int .i64 (pt (l.take i)).2]) := by
  rw [Int.toNat_natCast, vs_wy h]
theorem s_way (s : ByteArray) (hs : s.size ≤ 1048576) : Sp Tryd.prog 37 [aS s] (.sli 0) [.row 2 24 (vs (wy s.data.toList s.size))] := by
  refine sp_of (m := no) mixed Tryd.func37 k37 ?_
  simp -dsimp [q]
  refine awp_it (true :: false :: false :: true :: false :: false :: false :: false :: true :: true :: []) (fun i : Nat => [(9, vi i)]) (fun i => [(0, .row 2 24 (vs (wy s.data.toList i)))]) (fun i => i ≤ s.size) (fun i => s.size - i) 0 ?_
  intro s0 e
  simp -dsimp at e
  subst e
  refine ⟨?_, ?_⟩
  · simp [wy, pt, vs, vv]
  intro i hi
  have hl := wy_len s.data.toList i
  have hg2 := vs_wyI (l := s.data.toList) (Nat.le_refl i)
  have hb := pt_bd s.data.toList i
  simp -dsimp [hl, ↓hg2, -Prod.forall, -Prod.exists]
  refine ⟨fun h5 => ?_, fun h5 => ?_⟩
  · refine ⟨by omega, h5, fun x hx => ?_⟩
    have hb2 := stp_bd x
    have hp := pt_succ (l := s.data.toList) (i := i) (x := x) (by rw [Array.getElem?_toList]; exact hx)
    have hw := wy_succ s.data.toList i
    refine call_of (s_step x) rfl (by simp) ?_
    try simp -dsimp
    try (first | exact fp_one (by decide) | refine fp_and (by decide) ?_)
    refine call_of (s_add (pt (s.data.toList.take i)).1 (pt (s.data.toList.take i)).2 (stp x).1 (stp x).2 (by omega) (by omega) (by omega) (by omega)) rfl (by simp) ?_
    try simp -dsimp
    try (first | exact fp_one (by decide) | refine fp_and (by decide) ?_)
    refine ⟨⟨by omega, by omega⟩, by decide, i + 1, ⟨by rw [w64 (by omega) (by omega)]; simp, by rw [hw, hp]⟩, by omega, by omega⟩
  · rw [show s.size = i by omega]
theorem s_sway (s : ByteArray) (hs : s.size ≤ 1048576) (ha : s.data.toList.all isL = true) : Sp Tryd.prog 34 [aS s] (.sli 0) [.row 2 24 (vs (wy s.data.toList s.size))] := by
  refine sp_of (m := no) mixed Tryd.func34 k34 ?_
  simp -dsimp [q]
  refine awp_it (true :: false :: false :: true :: true :: []) (fun i : Nat => [(4, vi i)]) (fun i => [(0, .row 2 24 (vs (wy s.data.toList i)))]) (fun i => i ≤ s.size) (fun i => s.size - i) 0 ?_
  intro s0 e
  simp -dsimp at e
  subst e
  refine ⟨?_, ?_⟩
  · simp [wy, pt, vs, vv]
  intro i hi
  have hl := wy_len s.data.toList i
  have hg2 := vs_wyI (l := s.data.toList) (Nat.le_refl i)
  have hb := pt_bd s.data.toList i
  simp -dsimp [hl, ↓hg2, -Prod.forall, -Prod.exists]
  refine ⟨fun h5 => ?_, fun h5 => ?_⟩
  · refine ⟨h5, fun x hx => ?_⟩
    have hx2 : s.data.toList[i]? = some x := by rw [Array.getElem?_toList]; exact hx
    have hb2 := stp_bd x
    have hp := pt_succ hx2
    have hw := wy_succ s.data.toList i
    have hL : isL x = true := List.all_eq_true.1 ha x (List.mem_of_getElem? hx2)
    obtain ⟨v, hv, w1⟩ := s_sstep x _ rfl
    rw [hv hL] at w1
    refine call_of (w1) rfl (by simp) ?_
    try simp -dsimp
    try (first | exact fp_one (by decide) | refine fp_and (by decide) ?_)
    refine ⟨by rw [wy_len]; omega, fun a b hab => ?_⟩
    obtain ⟨ea, eb⟩ := wy_at (Nat.le_refl i) hab
    refine call_of (s_sadd a b (stp x).1 (stp x).2 (by omega) (by omega) (by omega) (by omega)) rfl (by simp) ?_
    try simp -dsimp
    try (first | exact fp_one (by decide) | refine fp_and (by decide) ?_)
    refine ⟨⟨by omega, by omega⟩, by decide, i + 1, ⟨by rw [w64 (by omega) (by omega)]; simp, by rw [hw, hp, ea, eb]⟩, by omega, by omega⟩
  · rw [show s.size = i by omega]
theorem take_all (s : ByteArray) : s.data.toList.take s.size = s.data.toList := List.take_of_length_le (by rw [← Lib.size_eq]; exact Nat.le_refl _)
theorem s_end (s : ByteArray) (hs : s.size ≤ 1048576) : Sp Tryd.prog 35 [aS s] (aV (pt s.data.toList).1 (pt s.data.toList).2) [] := by
  refine sp_of (m := no) mixed Tryd.func35 k35 ?_
  simp -dsimp [q]
  refine call_of (s_way s hs) rfl (by simp) ?_
  try simp -dsimp
  try (first | exact fp_one (by decide) | refine fp_and (by decide) ?_)
  refine ⟨by rw [wy_len]; omega, fun a b hab => ?_⟩
  have := wy_at (Nat.le_refl _) hab
  rw [take_all] at this
  exact this
theorem s_eW (s : ByteArray) (hs : s.size ≤ 1048576) : Sp Tryd.prog 13 [aS s] (.tu [aV (if okW s = true then (pt s.data.toList).1 else 0) (if okW s = true then (pt s.data.toList).2 else 0), vi (if okW s = true then 0 else 1)]) [] := by
  have w1 := s_isW s (by omega)
  refine sp_of (m := no) mixed Tryd.func13 k13 ?_
  simp -dsimp [q]
  cases h : okW s with
  | false =>
    rw [h] at w1
    refine call_of (w1) rfl (by simp) ?_
    try simp -dsimp
    try (first | exact fp_one (by decide) | refine fp_and (by decide) ?_)
  | true =>
    rw [h] at w1
    refine call_of (w1) rfl (by simp) ?_
    try simp -dsimp
    try (first | exact fp_one (by decide) | refine fp_and (by decide) ?_)
    refine call_of (s_end s hs) rfl (by simp) ?_
    try simp -dsimp
    try (first | exact fp_one (by decide) | refine fp_and (by decide) ?_)
theorem s_seW (s : ByteArray) (hs : s.size ≤ 1048576) : Sp Tryd.prog 12 [aS s] (.tu [aV (if okW s = true then (pt s.data.toList).1 else 0) (if okW s = true then (pt s.data.toList).2 else 0), vi (if okW s = true then 0 else 1)]) [] := by
  have w1 := s_sisW s (by omega)
  refine sp_of (m := no) mixed Tryd.func12 k12 ?_
  simp -dsimp [q]
  cases h : okW s with
  | false =>
    rw [h] at w1
    refine call_of (w1) rfl (by simp) ?_
    try simp -dsimp
    try (first | exact fp_one (by decide) | refine fp_and (by decide) ?_)
  | true =>
    have ha : s.data.toList.all isL = true := by
      simp only [okW, Bool.and_eq_true] at h
      exact h.2
    rw [h] at w1
    refine call_of (w1) rfl (by simp) ?_
    try simp -dsimp
    try (first | exact fp_one (by decide) | refine fp_and (by decide) ?_)
    refine call_of (s_sway s hs ha) rfl (by simp) ?_
    try simp -dsimp
    try (first | exact fp_one (by decide) | refine fp_and (by decide) ?_)
    refine ⟨by rw [wy_len]; omega, fun a b hab => ?_⟩
    have := wy_at (Nat.le_refl _) hab
    rw [take_all] at this
    exact this
end Go.Proofs.YthgpjndildlgpaaDoorEv
namespace Go.Proofs.YthgpjndildlgpaaDoorEv
open Go Go.Proofs
set_option maxRecDepth 10000
set_option maxHeartbeats 1000000
theorem mget_enc {α : Type} [DecidableEq α] (enc : α → V) (hi : ∀ x y, enc x = enc y → x = y) (S : List α) (x : α) : mget (enc x) (S.map fun y => (enc y, V.bool true)) = if x ∈ S then some (.bool true) else none := by
  induction S with
  | nil => rfl
  | cons y S ih =>
    simp only [List.map_cons, mget]
    by_cases h : enc y = enc x
    · rw [if_pos (by rw [cdec_true]; exact h), if_pos (by rw [hi _ _ h]; simp)]
    · rw [if_neg (by rw [cdec_true]; exact h), ih]
      have : x ≠ y := fun e => h (by rw [e])
      simp [this]
theorem mput_enc {α : Type} [DecidableEq α] (enc : α → V) (hi : ∀ x y, enc x = enc y → x = y) (S : List α) (x : α) : mput (enc x) (.bool true) (S.map fun y => (enc y, V.bool true)) = (if x ∈ S then S else S ++ [x]).map fun y => (enc y, V.bool true) := by
  induction S with
  | nil => rfl
  | cons y S ih =>
    simp only [List.map_cons, mput]
    by_cases h : enc y = enc x
    · rw [if_pos (by rw [cdec_true]; exact h), if_pos (by rw [hi _ _ h]; simp), List.map_cons, h]
    · rw [if_neg (by rw [cdec_true]; exact h), ih]
      have : x ≠ y := fun e => h (by rw [e])
      by_cases hx : x ∈ S <;> simp [this, hx]
def sE (S : List (Int × Int)) : List (V × V) := S.map fun y => (vv y, V.bool true)
theorem vv_inj (x y : Int × Int) (h : vv x = vv y) : x = y := by
  obtain ⟨a, b⟩ := x
  obtain ⟨c, d⟩ := y
  simp only [vv, V.ag.injEq, List.cons.injEq, V.int.injEq, true_and, and_true] at h
  rw [h.1, h.2]
@[simp] theorem sE_nil : sE [] = [] := rfl
@[simp] theorem sE_len (S : List (Int × Int)) : (sE S).length = S.length := by simp [sE]
@[simp] theorem sE_get (S : List (Int × Int)) (x y : Int) : lkA (.bool false) false (mget (.ag [.int .i64 x, .int .i64 y]) (sE S)) = .v (.bool (decide ((x, y) ∈ S))) := by
  have := mget_enc vv vv_inj S (x, y)
  rw [show V.ag [.int .i64 x, .int .i64 y] = vv (x, y) from rfl, sE, this]
  by_cases h : (x, y) ∈ S <;> simp [h, lkA]
@[simp] theorem sE_put (S : List (Int × Int)) (x y : Int) : mput (.ag [.int .i64 x, .int .i64 y]) (.bool true) (sE S) = sE (if (x, y) ∈ S then S else S ++ [(x, y)]) := by
  have := mput_enc vv vv_inj S (x, y)
  rw [show V.ag [.int .i64 x, .int .i64 y] = vv (x, y) from rfl, sE, this, sE]
  by_cases h : (x, y) ∈ S <;> simp [h]
@[simp] theorem sE_keyed (S : List (Int × Int)) (x y : Int) : keyed 2 [1, 1] (.ag [.int .i64 x, .int .i64 y]) (sE S) ↔ True := by
  simp only [keyed, iff_true]
  refine ⟨rfl, rfl, fun p hp => ?_⟩
  obtain ⟨v, _, rfl⟩ := List.mem_map.1 hp
  exact ⟨rfl, rfl⟩
/-! sets of points -/
def ins (S : List (Int × Int)) (x : Int × Int) : List (Int × Int) := if x ∈ S then S else S ++ [x]
theorem ins_len : ∀ (l S : List (Int × Int)), (l.foldl ins S).length ≤ S.length + l.length ∧ ((l.foldl ins S).length = S.length + l.length ↔ (l.Nodup ∧ ∀ x ∈ l, x ∉ S))
  | [], S => by simp
  | x :: l, S => by
    by_cases h : x ∈ S
    · have ih := (ins_len l S).1
      have e : ((x :: l).foldl ins S) = l.foldl ins S := by simp only [List.foldl_cons, ins, if_pos h]
      rw [e, List.length_cons]
      refine ⟨by omega, fun e => by omega, fun e => absurd h (e.2 x List.mem_cons_self)⟩
    · have ih := ins_len l (S ++ [x])
      have e : ((x :: l).foldl ins S) = l.foldl ins (S ++ [x]) := by simp only [List.foldl_cons, ins, if_neg h]
      rw [List.length_append, List.length_singleton] at ih
      rw [e, List.length_cons]
      refine ⟨by omega, ?_⟩
      rw [show S.length + (l.length + 1) = S.length + 1 + l.length by omega, ih.2]
      simp only [List.nodup_cons, List.mem_append, not_or, List.mem_cons, forall_eq_or_imp]
      constructor
      · rintro ⟨h1, h2⟩
        exact ⟨⟨fun hm => (h2 x hm).2.1 rfl, h1⟩, h, fun y hy => (h2 y hy).1⟩
      · rintro ⟨⟨h1, h2⟩, h3, h4⟩
        exact ⟨h2, fun y hy => ⟨h4 y hy, fun e => h1 (e ▸ hy), List.not_mem_nil⟩⟩
def hdP (l : List UInt8) (n : Nat) : List (Int × Int) := (List.range n).map fun i => pt (l.take i)
def tlP (l : List UInt8) (n : Nat) : List (Int × Int) := (List.range n).map fun i => pt (l.take (i + 1))
theorem hdP_succ (l : List UInt8) (n : Nat) : hdP l (n + 1) = hdP l n ++ [pt (l.take n)] := by simp [hdP, List.range_succ]
theorem tlP_succ (l : List UInt8) (n : Nat) : tlP l (n + 1) = tlP l n ++ [pt (l.take (n + 1))] := by simp [tlP, List.range_succ]
theorem hdP_cons (l : List UInt8) (n : Nat) : hdP l (n + 1) = pt [] :: tlP l n := by
  induction n with
  | zero => simp [hdP, tlP]
  | succ n ih => rw [hdP_succ, ih, tlP_succ]; rfl
theorem wy_take {l : List UInt8} {n i : Nat} (h : i ≤ n + 1) : (wy l n).take i = hdP l i := by
  rw [wy, hdP, ← List.map_take, List.take_range, Nat.min_eq_left h]
theorem wy_drop (l : List UInt8) (n : Nat) : (wy l n).drop 1 = tlP l n := by
  have : wy l n = hdP l (n + 1) := rfl
  rw [this, hdP_cons]
  rfl
theorem loop_nodup {l : List UInt8} {n : Nat} (h : pt (l.take n) = pt []) : (hdP l n).Nodup ↔ (tlP l n).Nodup := by
  cases n with
  | zero => simp [hdP, tlP]
  | succ n =>
    rw [hdP_cons, tlP_succ, h]
    exact (List.perm_append_comm (l₁ := [pt []]) (l₂ := tlP l n)).nodup_iff
def okLp (s : ByteArray) : Bool := okW s && decide (4 ≤ s.size) && decide (pt s.data.toList = (0, 0)) && decide (tlP s.data.toList s.size).Nodup
theorem mem_tk {α : Type} {l : List α} {i : Nat} {z x : α} (hz : l[i]? = some z) (hx : x ∈ l.take (i + 1)) : x ∈ l.take i ∨ x = z := by
  rw [List.take_add_one, hz] at hx
  rcases List.mem_append.1 hx with h | h
  · exact .inl h
  · exact .inr (by simpa using h)
theorem okLp_w {s : ByteArray} (h : okW s = false) : okLp s = false := by simp only [okLp, h, Bool.false_and]
theorem okLp_4 {s : ByteArray} (h : ¬ 4 ≤ s.size) : okLp s = false := by simp only [okLp, decide_eq_false h, Bool.false_and, Bool.and_false]
theorem okLp_0 {s : ByteArray} (h : ¬ pt s.data.toList = (0, 0)) : okLp s = false := by simp only [okLp, decide_eq_false h, Bool.false_and, Bool.and_false]
theorem okLp_n {s : ByteArray} (h : ¬ (tlP s.data.toList s.size).Nodup) : okLp s = false := by simp only [okLp, decide_eq_false h, Bool.and_false]
theorem cdec_dec (p : Prop) [Decidable p] : cdec p = decide p := by
  by_cases h : p
  · rw [decide_eq_true h, cdec_true.2 h]
  · rw [decide_eq_false h, cdec_false.2 h]
theorem nd_snoc {l : List (Int × Int)} {x : Int × Int} : (l ++ [x]).Nodup ↔ x ∉ l ∧ l.Nodup := by
  rw [(List.perm_append_comm (l₁ := l) (l₂ := [x])).nodup_iff]
  exact List.nodup_cons
theorem hdP_take (l : List UInt8) {n i : Nat} (h : i ≤ n) : (hdP l n).take i = hdP l i := by
  rw [hdP, hdP, ← List.map_take, List.take_range, Nat.min_eq_left h]
theorem pt_all (s : ByteArray) : pt (s.data.toList.take s.size) = pt s.data.toList := by rw [take_all]
theorem okLp_dup {s : ByteArray} {i : Nat} (hi : i < s.size) (h : pt (s.data.toList.take i) ∈ hdP s.data.toList i) : okLp s = false := by
  by_cases hz : pt s.data.toList = (0, 0)
  case neg => exact okLp_0 hz
  refine okLp_n (fun hn => ?_)
  have h1 := (loop_nodup (by rw [pt_all, hz]; rfl)).2 hn
  have h2 : (hdP s.data.toList (i + 1)).Nodup := by
    rw [← hdP_take s.data.toList (show i + 1 ≤ s.size by omega)]
    exact h1.sublist (List.take_sublist _ _)
  rw [hdP_succ, nd_snoc] at h2
  exact h2.1 h
theorem okLp_end {s : ByteArray} (h : okW s = true) (h4 : 4 ≤ s.size) (hn : (hdP s.data.toList s.size).Nodup) : okLp s = decide (pt s.data.toList = (0, 0)) := by
  by_cases hz : pt s.data.toList = (0, 0)
  · have h1 := (loop_nodup (l := s.data.toList) (n := s.size) (by rw [pt_all, hz]; rfl)).1 hn
    simp only [okLp, h, decide_eq_true h4, decide_eq_true hz, decide_eq_true h1, Bool.true_and]
  · rw [okLp_0 hz, decide_eq_false hz]
theorem okLp_tl {s : ByteArray} (h : okW s = true) (h4 : 4 ≤ s.size) (hz : pt s.data.toList = (0, 0)) : okLp s = decide (tlP s.data.toList s.size).Nodup := by
  simp only [okLp, h, decide_eq_true h4, decide_eq_true hz, Bool.true_and]
theorem s_hasV (l : List (Int × Int)) (x y : Int) (h : l.length ≤ 1048576) : Sp Tryd.prog 36 [.v (.sl 2 (vs l)), aV x y] (vb (decide ((x, y) ∈ l))) [] := by
  refine sp_of (m := no) mixed Tryd.func36 k36 ?_
  simp -dsimp [q]
  refine awp_it (true :: false :: false :: true :: false :: true :: []) (fun i : Nat => [(5, vi i)]) (fun i => []) (fun i => i ≤ l.length ∧ (x, y) ∉ l.take i) (fun i => l.length - i) 0 ?_
  intro s0 e
  simp -dsimp at e
  subst e
  refine ⟨?_, ?_⟩
  · simp
  rintro i ⟨hi, hno⟩
  simp -dsimp
  refine ⟨fun h1 => ⟨h1, fun a b ha => ?_⟩, fun h1 => ?_⟩
  · refine ⟨?_, fun hn => ⟨i + 1, by rw [w64 (by omega) (by omega)]; simp, ⟨by omega, fun hm => ?_⟩, by omega⟩⟩
    · rintro rfl rfl
      exact List.mem_of_getElem? ha
    · rcases mem_tk ha hm with e | e
      · exact hno e
      · cases e; exact hn rfl rfl
  · rw [List.take_of_length_le h1] at hno
    exact hno
theorem s_loop (s : ByteArray) (hs : s.size ≤ 1048576) : Sp Tryd.prog 16 [aS s] (vb (okLp s)) [] := by
  have w1 := s_isW s (by omega)
  refine sp_of (m := no) mixed Tryd.func16 k16 ?_
  simp -dsimp [q]
  cases h : okW s with
  | false =>
    rw [h] at w1
    refine call_of (w1) rfl (by simp) ?_
    try simp -dsimp
    try (first | exact fp_one (by decide) | refine fp_and (by decide) ?_)
    exact okLp_w h
  | true =>
    rw [h] at w1
    refine call_of (w1) rfl (by simp) ?_
    try simp -dsimp
    try (first | exact fp_one (by decide) | refine fp_and (by decide) ?_)
    refine ⟨fun h4 => ?_, fun h4 => okLp_4 (by omega)⟩
    refine call_of (s_end s hs) rfl (by simp) ?_
    try simp -dsimp
    try (first | exact fp_one (by decide) | refine fp_and (by decide) ?_)
    refine ⟨fun e => okLp_0 (fun e2 => e (by rw [e2]) (by rw [e2])), fun e0 e1 => ?_⟩
    have hz : pt s.data.toList = (0, 0) := Prod.ext e0 e1
    refine call_of (s_way s hs) rfl (by simp) ?_
    try simp -dsimp
    try (first | exact fp_one (by decide) | refine fp_and (by decide) ?_)
    have hl := wy_len s.data.toList s.size
    simp -dsimp [hl]
    refine ⟨by omega, by omega, ?_⟩
    refine awp_it (true :: false :: false :: true :: false :: false :: false :: false :: false :: false :: false :: false :: false :: false :: false :: false :: false :: false :: false :: false :: false :: false :: false :: true :: true :: true :: []) (fun i : Nat => [(25, vi i)]) (fun i => [(0, .map [] (sE ((tlP s.data.toList i).foldl ins [])))]) (fun i => i ≤ s.size) (fun i => s.size - i) 0 ?_
    intro s0 e
    simp -dsimp at e
    subst e
    refine ⟨?_, ?_⟩
    · simp [tlP]
    intro i hi
    have hin := ins_len (tlP s.data.toList i) []
    simp -dsimp [hl]
    have hhl : (tlP s.data.toList i).length = i := by simp [tlP]
    refine ⟨fun h5 => ?_, fun h5 => ?_⟩
    · refine ⟨by omega, h5, by omega, fun a b hab => ?_⟩
      rw [show (1 + (i : Int)).toNat = i + 1 by omega] at hab
      obtain ⟨ea, eb⟩ := wy_at (by omega) hab
      have hab2 : pt (s.data.toList.take (i + 1)) = (a, b) := by rw [ea, eb]
      refine ⟨i + 1, ⟨by rw [w64 (by omega) (by omega)]; simp, ?_⟩, by omega, by omega⟩
      rw [tlP_succ, List.foldl_append, hab2]
      rfl
    · obtain rfl : i = s.size := by omega
      rw [okLp_tl h (by omega) hz, decide_eq_decide]
      rw [hhl] at hin
      simp only [List.length_nil, Nat.zero_add, List.not_mem_nil, not_false_eq_true, implies_true, and_true] at hin
      rw [← hin.2]
      omega
theorem s_sloop (s : ByteArray) (hs : s.size ≤ 1048576) : Sp Tryd.prog 15 [aS s] (vb (okLp s)) [] := by
  have w1 := s_sisW s (by omega)
  refine sp_of (m := no) mixed Tryd.func15 k15 ?_
  simp -dsimp [q]
  cases h : okW s with
  | false =>
    rw [h] at w1
    refine call_of (w1) rfl (by simp) ?_
    try simp -dsimp
    try (first | exact fp_one (by decide) | refine fp_and (by decide) ?_)
    exact okLp_w h
  | true =>
    rw [h] at w1
    have ha : s.data.toList.all isL = true := by
      simp only [okW, Bool.and_eq_true] at h
      exact h.2
    refine call_of (w1) rfl (by simp) ?_
    try simp -dsimp
    try (first | exact fp_one (by decide) | refine fp_and (by decide) ?_)
    refine ⟨fun h4 => okLp_4 (by omega), fun h4 => ?_⟩
    refine call_of (s_sway s hs ha) rfl (by simp) ?_
    try simp -dsimp
    try (first | exact fp_one (by decide) | refine fp_and (by decide) ?_)
    refine awp_it (true :: false :: false :: true :: true :: []) (fun i : Nat => [(4, vi i)]) (fun i => []) (fun i => i ≤ s.size ∧ (hdP s.data.toList i).Nodup) (fun i => s.size - i) 0 ?_
    intro s0 e
    simp -dsimp at e
    subst e
    refine ⟨?_, ?_⟩
    · exact ⟨by simp, by simp, by simp [hdP]⟩
    rintro i ⟨hi, hno⟩
    have hl := wy_len s.data.toList s.size
    by_cases h5 : i < s.size
    · have hvw : ((vs (wy s.data.toList s.size)).drop 0).take i = vs (hdP s.data.toList i) := by
        rw [List.drop_zero, vs, ← List.map_take, wy_take (by omega)]
        rfl
      have hhl : (hdP s.data.toList i).length = i := by simp [hdP]
      simp -dsimp [hl, h5]
      refine ⟨by omega, by omega, by omega, fun a b hab => ?_⟩
      obtain ⟨ea, eb⟩ := wy_at (by omega) hab
      refine call_of (s_hasV (hdP s.data.toList i) a b (by omega)) (rd := [0]) ?_ (by simp) ?_
      · simp only [toArgs, toArg, toArg1, List.getElem?_cons_zero]
        rw [if_pos ⟨trivial, by simp [vs, hl]; omega⟩, hvw]
        rfl
      · simp -dsimp
        refine ⟨fun e => okLp_dup h5 (by rw [ea, eb] at e; exact e), fun e => ⟨i + 1, by rw [w64 (by omega) (by omega)]; simp, ⟨by omega, ?_⟩, by omega⟩⟩
        rw [hdP_succ, nd_snoc]
        rw [ea, eb] at e
        exact ⟨e, hno⟩
    · obtain rfl : i = s.size := by omega
      have hg2 := vs_wyI (l := s.data.toList) (Nat.le_refl s.size)
      rw [take_all] at hg2
      simp -dsimp [hl, ↓hg2]
      refine ⟨by omega, ?_⟩
      rw [okLp_end h (by omega) hno, cdec_dec]
      rw [decide_eq_decide]
      exact ⟨fun e => Prod.ext e.1 e.2, fun e => by rw [e]; exact ⟨rfl, rfl⟩⟩
end Go.Proofs.YthgpjndildlgpaaDoorEv
namespace Go.Proofs.YthgpjndildlgpaaDoorEv
open Go Go.Proofs
set_option maxRecDepth 10000
set_option maxHeartbeats 1000000
def lpC (s : ByteArray) : Int := if okW s = true then (if okLp s = true then 0 else 5) else 1
theorem s_lpc (s : ByteArray) (hs : s.size ≤ 1048576) : Sp Tryd.prog 40 [aS s] (vi (lpC s)) [] := by
  have w1 := s_isW s (by omega)
  have w2 := s_loop s hs
  refine sp_of (m := no) mixed Tryd.func40 k40 ?_
  simp -dsimp [q, lpC]
  cases h : okW s <;> rw [h] at w1
  · refine call_of (w1) rfl (by simp) ?_
    try simp -dsimp
    try (first | exact fp_one (by decide) | refine fp_and (by decide) ?_)
  · cases h2 : okLp s <;> rw [h2] at w2
    · refine call_of (w1) rfl (by simp) ?_
      try simp -dsimp
      try (first | exact fp_one (by decide) | refine fp_and (by decide) ?_)
      refine call_of (w2) rfl (by simp) ?_
      try simp -dsimp
      try (first | exact fp_one (by decide) | refine fp_and (by decide) ?_)
    · refine call_of (w1) rfl (by simp) ?_
      try simp -dsimp
      try (first | exact fp_one (by decide) | refine fp_and (by decide) ?_)
      refine call_of (w2) rfl (by simp) ?_
      try simp -dsimp
      try (first | exact fp_one (by decide) | refine fp_and (by decide) ?_)
theorem s_slpc (s : ByteArray) (hs : s.size ≤ 1048576) : Sp Tryd.prog 38 [aS s] (vi (lpC s)) [] := by
  have w1 := s_sisW s (by omega)
  have w2 := s_sloop s hs
  refine sp_of (m := no) mixed Tryd.func38 k38 ?_
  simp -dsimp [q, lpC]
  cases h : okW s <;> rw [h] at w1
  · refine call_of (w1) rfl (by simp) ?_
    try simp -dsimp
    try (first | exact fp_one (by decide) | refine fp_and (by decide) ?_)
  · cases h2 : okLp s <;> rw [h2] at w2
    · refine call_of (w1) rfl (by simp) ?_
      try simp -dsimp
      try (first | exact fp_one (by decide) | refine fp_and (by decide) ?_)
      refine call_of (w2) rfl (by simp) ?_
      try simp -dsimp
      try (first | exact fp_one (by decide) | refine fp_and (by decide) ?_)
    · refine call_of (w1) rfl (by simp) ?_
      try simp -dsimp
      try (first | exact fp_one (by decide) | refine fp_and (by decide) ?_)
      refine call_of (w2) rfl (by simp) ?_
      try simp -dsimp
      try (first | exact fp_one (by decide) | refine fp_and (by decide) ?_)
theorem lpC_zero {s : ByteArray} (h : lpC s = 0) : okW s = true ∧ okLp s = true ∧ s.size ≤ 40 ∧ s.data.toList.all isL = true ∧ 4 ≤ s.size := by
  unfold lpC at h
  split at h
  · rename_i h1
    split at h
    · rename_i h2
      have h3 := h1
      simp only [okW, Bool.and_eq_true, decide_eq_true_eq] at h3
      have h4 := h2
      simp only [okLp, Bool.and_eq_true, decide_eq_true_eq] at h4
      exact ⟨h1, h2, h3.1, h3.2, h4.1.1.2⟩
    · cases h
  · cases h
def arL (l : List UInt8) : Nat → Int
  | 0 => 0
  | i + 1 => arL l i + (pt (l.take i)).1 * ((pt (l.take (i + 1))).2 - (pt (l.take i)).2)
theorem ar_step {l : List UInt8} {i : Nat} (hi : i < l.length) (h40 : i ≤ 40) : -40 ≤ (pt (l.take i)).1 * ((pt (l.take (i + 1))).2 - (pt (l.take i)).2) ∧ (pt (l.take i)).1 * ((pt (l.take (i + 1))).2 - (pt (l.take i)).2) ≤ 40 := by
  have hb := pt_bd l i
  rw [pt_succ (List.getElem?_eq_getElem hi)]
  have h2 := (stp_bd l[i]).2
  simp only
  rw [show (pt (l.take i)).2 + (stp l[i]).2 - (pt (l.take i)).2 = (stp l[i]).2 by omega]
  generalize (stp l[i]).2 = d at *
  generalize (pt (l.take i)).1 = x at *
  have : d = -1 ∨ d = 0 ∨ d = 1 := by omega
  rcases this with rfl | rfl | rfl <;> omega
theorem ar_bd {l : List UInt8} : ∀ i : Nat, i ≤ l.length → i ≤ 40 → -40 * (i : Int) ≤ arL l i ∧ arL l i ≤ 40 * i
  | 0, _, _ => by simp [arL]
  | i + 1, h1, h2 => by
    have ih := ar_bd (l := l) i (by omega) (by omega)
    have hs := ar_step (l := l) (i := i) (by omega) (by omega)
    rw [arL]
    omega
theorem s_area (s : ByteArray) (h40 : s.size ≤ 40) : Sp Tryd.prog 41 [aS s] (vi (arL s.data.toList s.size)) [] := by
  have hsz := Lib.size_eq s
  refine sp_of (m := no) mixed Tryd.func41 k41 ?_
  simp -dsimp [q]
  refine call_of (s_way s (by omega)) rfl (by simp) ?_
  try simp -dsimp
  try (first | exact fp_one (by decide) | refine fp_and (by decide) ?_)
  refine awp_it (true :: false :: false :: true :: true :: false :: false :: false :: false :: true :: true :: []) (fun i : Nat => [(3, vi (arL s.data.toList i)), (10, vi i)]) (fun i => []) (fun i => i ≤ s.size) (fun i => s.size - i) 0 ?_
  intro s0 e
  simp -dsimp at e
  subst e
  refine ⟨?_, ?_⟩
  · simp [arL]
  intro i hi
  have hl := wy_len s.data.toList s.size
  simp -dsimp [hl]
  refine ⟨fun h5 => ?_, fun h5 => ?_⟩
  · refine ⟨by omega, by omega, fun a b hab => ⟨h5, fun x hx => ?_⟩⟩
    obtain ⟨ea, eb⟩ := wy_at (by omega) hab
    have hx2 : s.data.toList[i]? = some x := by rw [Array.getElem?_toList]; exact hx
    have hp := pt_succ hx2
    have hst := ar_step (l := s.data.toList) (i := i) (by omega) (by omega)
    have hbd := ar_bd (l := s.data.toList) i (by omega) (by omega)
    have hdd : (pt (s.data.toList.take (i + 1))).2 - (pt (s.data.toList.take i)).2 = (stp x).2 := by rw [hp]; simp only; omega
    rw [hdd, ← ea] at hst
    have har : arL s.data.toList (i + 1) = arL s.data.toList i + a * (stp x).2 := by rw [arL, hdd, ← ea]
    refine call_of (s_step x) rfl (by simp) ?_
    try simp -dsimp
    try (first | exact fp_one (by decide) | refine fp_and (by decide) ?_)
    refine ⟨i + 1, ⟨?_, by rw [w64 (by omega) (by omega)]; simp⟩, by omega, by omega⟩
    rw [har, w64 (n := a * (stp x).2) (by omega) (by omega), w64 (by omega) (by omega)]
  · rw [show s.size = i by omega]
theorem s_sarea (s : ByteArray) (h40 : s.size ≤ 40) (ha : s.data.toList.all isL = true) : Sp Tryd.prog 39 [aS s] (vi (arL s.data.toList s.size)) [] := by
  have hsz := Lib.size_eq s
  refine sp_of (m := no) mixed Tryd.func39 k39 ?_
  simp -dsimp [q]
  refine call_of (s_sway s (by omega) ha) rfl (by simp) ?_
  try simp -dsimp
  try (first | exact fp_one (by decide) | refine fp_and (by decide) ?_)
  refine awp_it (true :: false :: false :: true :: true :: true :: []) (fun i : Nat => [(4, vi (arL s.data.toList i)), (5, vi i)]) (fun i => []) (fun i => i ≤ s.size) (fun i => s.size - i) 0 ?_
  intro s0 e
  simp -dsimp at e
  subst e
  refine ⟨?_, ?_⟩
  · simp [arL]
  intro i hi
  have hl := wy_len s.data.toList s.size
  simp -dsimp [hl]
  refine ⟨fun h5 => ?_, fun h5 => ?_⟩
  · have e7 : IntKind.i64.wrap ((i : Int) + 1) = (i : Int) + 1 := w64 (by omega) (by omega)
    rw [e7]
    refine ⟨by omega, by omega, fun a b hab => ⟨⟨by omega, by omega⟩, by omega, fun a2 b2 hab2 => ⟨by omega, by omega, fun a3 b3 hab3 => ?_⟩⟩⟩
    obtain ⟨ea, eb⟩ := wy_at (by omega) hab
    obtain ⟨ea3, eb3⟩ := wy_at (by omega) hab3
    rw [show ((i : Int) + 1).toNat = i + 1 by omega] at hab2
    obtain ⟨ea2, eb2⟩ := wy_at (by omega) hab2
    have hst := ar_step (l := s.data.toList) (i := i) (by omega) (by omega)
    have hbd := ar_bd (l := s.data.toList) i (by omega) (by omega)
    have hb := pt_bd s.data.toList i
    have hb2 := pt_bd s.data.toList (i + 1)
    rw [← eb2, ← eb3, ← ea] at hst
    have har : arL s.data.toList (i + 1) = arL s.data.toList i + a * (b2 - b3) := by rw [arL, ← eb2, ← eb3, ← ea]
    refine ⟨i + 1, ⟨?_, by simp⟩, by omega, by omega⟩
    rw [har, w64 (n := b2 - b3) (by omega) (by omega), w64 (n := a * (b2 - b3)) (by omega) (by omega), w64 (by omega) (by omega)]
  · rw [show s.size = i by omega]
theorem area_both (s : ByteArray) (hs : s.size ≤ 1048576) : ∃ n k, Sp Tryd.prog 17 [aS s] (.tu [vi n, vi k]) [] ∧ Sp Tryd.prog 18 [aS s] (.tu [vi n, vi k]) [] := by
  have w1 := s_lpc s hs
  have w2 := s_slpc s hs
  by_cases h : lpC s = 0
  · obtain ⟨_, _, h40, ha, _⟩ := lpC_zero h
    rw [h] at w1 w2
    refine ⟨arL s.data.toList s.size, 0, ?_, ?_⟩
    · refine sp_of (m := no) mixed Tryd.func17 k17 ?_
      simp -dsimp [q]
      refine call_of (w2) rfl (by simp) ?_
      try simp -dsimp
      try (first | exact fp_one (by decide) | refine fp_and (by decide) ?_)
      refine call_of (s_sarea s h40 ha) rfl (by simp) ?_
      try simp -dsimp
      try (first | exact fp_one (by decide) | refine fp_and (by decide) ?_)
    · refine sp_of (m := no) mixed Tryd.func18 k18 ?_
      simp -dsimp [q]
      refine call_of (w1) rfl (by simp) ?_
      try simp -dsimp
      try (first | exact fp_one (by decide) | refine fp_and (by decide) ?_)
      refine call_of (s_area s h40) rfl (by simp) ?_
      try simp -dsimp
      try (first | exact fp_one (by decide) | refine fp_and (by decide) ?_)
  · refine ⟨0, lpC s, ?_, ?_⟩
    · refine sp_of (m := no) mixed Tryd.func17 k17 ?_
      simp -dsimp [q]
      refine call_of (w2) rfl (by simp) ?_
      try simp -dsimp
      try (first | exact fp_one (by decide) | refine fp_and (by decide) ?_)
      exact fun e => absurd e h
    · refine sp_of (m := no) mixed Tryd.func18 k18 ?_
      simp -dsimp [q]
      refine call_of (w1) rfl (by simp) ?_
      try simp -dsimp
      try (first | exact fp_one (by decide) | refine fp_and (by decide) ?_)
      exact fun e => absurd e h
end Go.Proofs.YthgpjndildlgpaaDoorEv
namespace Go.Proofs.YthgpjndildlgpaaDoorEv
open Go Go.Proofs
set_option maxRecDepth 10000
theorem toArgs_shut {h : List Ck} : ∀ {cs : List A}, cs.all A.shut = true → toArgs h cs = some (cs, [])
  | [], _ => rfl
  | c :: cs, hc => by
    simp only [List.all_cons, Bool.and_eq_true] at hc
    have := toArgs_shut (h := h) hc.2
    cases c <;> first | (simp [toArgs, toArg, toArg1, this]; done) | (have := hc.1; cases this)
theorem s_nw (n lo hi : Int) : Sp Tryd.prog 70 [vi n, .fq [.int .i64 lo], .fq [.int .i64 hi]] (vb (!decide (lo ≤ n ∧ n ≤ hi))) [] := by
  refine sp_of (m := no) mixed Tryd.func70 k70 ?_
  simp -dsimp [q]
  exact call_of (s_within n lo hi) rfl (by simp) (by simp -dsimp)
theorem s_fi (l : List Int) (f : Nat) (cs : List A) (p : Int → Bool) (h : l.length ≤ 1048576) (hc : cs.all A.shut = true) (hf : ∀ n ∈ l, Sp Tryd.prog f (vi n :: cs) (vb (p n)) []) : Sp Tryd.prog 75 [.v (vis l), .fn f cs] (vi (if l.any p = true then l.findIdx p else -1)) [] := by
  refine sp_of (m := no) mixed Tryd.func75 k75 ?_
  simp -dsimp [q]
  refine awp_it (true :: true :: false :: false :: false :: false :: false :: true :: true :: []) (fun i : Nat => [(8, vi i)]) (fun i => []) (fun i => i ≤ l.length ∧ (l.take i).any p = false) (fun i => l.length - i) 0 ?_
  intro s0 e
  simp -dsimp [hc] at e
  subst e
  refine ⟨?_, ?_⟩
  · simp [hc]
  intro i hi
  simp -dsimp [hc]
  refine ⟨fun h1 => ⟨h1, fun a ha => call_of (rd := []) (hf a (List.mem_of_getElem? ha)) (by simp [toArgs_shut hc]) (by simp) ?_⟩, fun h1 => ?_⟩
  · simp -dsimp [hc]
    have hi2 : ∀ x ∈ l.take i, p x = false := fun x hx => by
      have := List.any_eq_false.1 hi.2 x hx
      simpa using this
    obtain ⟨_, hal⟩ := List.getElem?_eq_some_iff.1 ha
    refine ⟨fun hp => ?_, fun hp => ⟨i + 1, by rw [w64 (by omega) (by omega)]; simp, ⟨by omega, fun x hx => ?_⟩, by omega⟩⟩
    · rw [if_pos ⟨a, List.mem_of_getElem? ha, hp⟩, (List.findIdx_eq h1).2 ⟨by rw [hal]; exact hp, fun j hj => hi2 _ (List.mem_iff_getElem.2 ⟨j, by simp; omega, by simp⟩)⟩]
    · rw [List.take_add_one, ha] at hx
      rcases List.mem_append.1 hx with hx | hx
      · exact hi2 x hx
      · simp at hx; rw [hx]; exact hp
  · have := hi.2
    rw [List.take_of_length_le h1] at this
    intro x hx
    simpa using List.any_eq_false.1 this x hx
theorem s_has (l : List Int) (f : Nat) (cs : List A) (p : Int → Bool) (h : l.length ≤ 1048576) (hc : cs.all A.shut = true) (hf : ∀ n ∈ l, Sp Tryd.prog f (vi n :: cs) (vb (p n)) []) : Sp Tryd.prog 69 [.v (vis l), .fn f cs] (vb (l.any p)) [] := by
  refine sp_of (m := no) mixed Tryd.func69 k69 ?_
  simp -dsimp [q]
  refine call_of (rd := []) (s_fi l f cs p h hc hf) (by simp [hc]) (by simp) ?_
  simp -dsimp
  by_cases hp : l.any p = true
  · rw [hp, if_pos (by simpa using hp)]
    simp
  · rw [if_neg (by simpa using hp)]
    simp at hp
    simpa using hp
theorem s_all (l : List Int) (lo hi : Int) (h : l.length ≤ 1048576) : Sp Tryd.prog 60 [.v (vis l), vi lo, vi hi] (vb (l.all fun n => decide (lo ≤ n ∧ n ≤ hi))) [] := by
  refine sp_of (m := no) mixed Tryd.func60 k60 ?_
  simp -dsimp [q]
  refine call_of (rd := []) (s_has l _ _ _ h rfl fun n _ => s_nw n lo hi) rfl (by simp) ?_
  simp -dsimp
  induction l with
  | nil => rfl
  | cons x l ih => simp [ih (by simp at h; omega)]
theorem s_sall (l : List Int) (n lo hi : Int) (h : l.length ≤ 1048576) : Sp Tryd.prog 62 [.v (vis l), vi n, vi lo, vi hi] (vb ((l.all fun n => decide (lo ≤ n ∧ n ≤ hi)) && decide ((l.length : Int) ≤ n))) [] := by
  refine sp_of (m := no) mixed Tryd.func62 k62 ?_
  simp -dsimp [q]
  refine awp_it (true :: true :: true :: true :: false :: false :: false :: false :: false :: true :: []) (fun i : Nat => [(9, vi i)]) (fun i => []) (fun i => i ≤ l.length ∧ ∀ x ∈ l.take i, lo ≤ x ∧ x ≤ hi) (fun i => l.length - i) 0 ?_
  intro s0 e
  simp -dsimp at e
  subst e
  refine ⟨?_, ?_⟩
  · simp
  intro i hk
  simp -dsimp
  refine ⟨fun h1 => ⟨h1, fun a ha => call_of (rd := []) (s_in a lo hi) (by simp) (by simp) ?_⟩, fun h1 => ?_⟩
  · generalize hb : decide (lo ≤ a ∧ a ≤ hi) = b
    cases b
    · simp -dsimp
      have hn := of_decide_eq_false hb
      intro hall
      exact absurd (hall a (List.mem_of_getElem? ha)) hn
    · simp -dsimp
      have hn := of_decide_eq_true hb
      refine ⟨i + 1, by rw [w64 (by omega) (by omega)]; simp, ⟨by omega, fun x hx => ?_⟩, by omega⟩
      rw [List.take_add_one, ha] at hx
      rcases List.mem_append.1 hx with hx | hx
      · exact hk.2 x hx
      · simp at hx; rw [hx]; exact hn
  · have h2 := hk.2
    rw [List.take_of_length_le h1] at h2
    exact fun _ => h2
end Go.Proofs.YthgpjndildlgpaaDoorEv
namespace Go.Proofs.YthgpjndildlgpaaDoorEv
open Go Go.Proofs
set_option maxRecDepth 10000
set_option maxHeartbeats 1000000
def arW (s : ByteArray) (f0 : Int) : ByteArray := s.extract f0.toNat s.size ++ s.extract 0 f0.toNat
def fOk (n : Nat) (f0 f1 f2 f3 : Int) : Prop := (0 ≤ f0 ∧ f0 ≤ (n : Int) - 1) ∧ ((0 ≤ f1 ∧ f1 ≤ (n : Int) / 2) ∧ (0 ≤ f2 ∧ f2 ≤ (n : Int) / 2) ∧ (0 ≤ f3 ∧ f3 ≤ (n : Int) / 2)) ∧ f1 + f2 + f3 = (n : Int) / 2
theorem al_ext {t : ByteArray} (h : t.data.toList.all isL = true) (i j : Nat) : (t.extract i j).data.toList.all isL = true := by
  rw [List.all_eq_true] at h ⊢
  intro x hx
  refine h x ?_
  have e : t.extract i j = (⟨t.data.toList.toArray⟩ : ByteArray).extract i j := by rw [ba_eq]
  rw [e, Lib.extract_mk] at hx
  exact List.mem_of_mem_drop (List.mem_of_mem_take hx)
theorem al_app {t u : ByteArray} (h : t.data.toList.all isL = true) (k : u.data.toList.all isL = true) : (t ++ u).data.toList.all isL = true := by
  rw [ByteArray.data_append, Array.toList_append, List.all_append, h, k]
  rfl
theorem arW_all {s : ByteArray} (h : s.data.toList.all isL = true) (f0 : Int) : (arW s f0).data.toList.all isL = true := al_app (al_ext h _ _) (al_ext h _ _)
theorem arW_size {s : ByteArray} {f0 : Int} (h : 0 ≤ f0 ∧ f0 ≤ (s.size : Int) - 1) : (arW s f0).size = s.size := by
  simp only [arW, ByteArray.size_append, ByteArray.size_extract]
  omega
theorem opW_size (t : ByteArray) : (opW t).size = t.size := by
  rw [opW, Lib.size_mk, List.length_map, List.length_reverse, ← Lib.size_eq]
def fwB (s : ByteArray) (f0 f1 f2 : Int) : Bool := decide ((arW s f0).extract (s.size / 2) s.size = opW ((arW s f0).extract 0 f1.toNat) ++ opW ((arW s f0).extract f1.toNat (f1 + f2).toNat) ++ opW ((arW s f0).extract (f1 + f2).toNat (s.size / 2)))
theorem s_fw (s : ByteArray) (f0 f1 f2 f3 : Int) (hs : s.size ≤ 40) (ha : s.data.toList.all isL = true) (hf : fOk s.size f0 f1 f2 f3) : Sp Tryd.prog 45 [aS s, .v (vis [f0, f1, f2, f3])] (.tu [.v (.str ((arW s f0).extract 0 f1.toNat)), .v (.str ((arW s f0).extract f1.toNat (f1 + f2).toNat)), .v (.str ((arW s f0).extract (f1 + f2).toNat (s.size / 2))), vb (fwB s f0 f1 f2)]) [] := by
  obtain ⟨g0, ⟨g1, g2, g3⟩, g4⟩ := hf
  have w1 := s_within f0 0 ((s.size : Int) - 1)
  rw [decide_eq_true g0] at w1
  refine sp_of (m := no) mixed Tryd.func45 k45 ?_
  have e1 : IntKind.i64.wrap ((s.size : Int) / 2) = (s.size : Int) / 2 := w64 (by omega) (by omega)
  have e2 : IntKind.i64.wrap ((s.size : Int) - 1) = (s.size : Int) - 1 := w64 (by omega) (by omega)
  have e3 : IntKind.i64.wrap (f1 + f2) = f1 + f2 := w64 (by omega) (by omega)
  have e4 : IntKind.i64.wrap (f1 + f2 + f3) = f1 + f2 + f3 := w64 (by omega) (by omega)
  have w2 := s_all [f1, f2, f3] 0 ((s.size : Int) / 2) (by simp)
  rw [show ([f1, f2, f3].all fun n => decide (0 ≤ n ∧ n ≤ (s.size : Int) / 2)) = true by simp [g1, g2, g3]] at w2
  have hA : s.extract f0.toNat s.size ++ s.extract 0 f0.toNat = arW s f0 := rfl
  have hAs := arW_size g0
  have hAa := arW_all ha f0
  have hh : ((s.size : Int) / 2).toNat = s.size / 2 := by omega
  simp -dsimp [q, is, e1, e2]
  refine call_of (w1) rfl (by simp) ?_
  try simp -dsimp
  try (first | exact fp_one (by decide) | refine fp_and (by decide) ?_)
  simp -dsimp [is]
  refine call_of (w2) rfl (by simp) ?_
  try simp -dsimp
  try (first | exact fp_one (by decide) | refine fp_and (by decide) ?_)
  simp -dsimp [is, e1, e2, e3, e4, ↓hA, hAs, hh]
  refine ⟨fun e => absurd g4 e, fun _ => ⟨by omega, by omega, by omega, by omega, by omega, by omega, ?_⟩⟩
  refine call_of (s_opp ((arW s f0).extract 0 f1.toNat) (by simp [hAs]; omega) (al_ext hAa _ _)) rfl (by simp) ?_
  try simp -dsimp
  try (first | exact fp_one (by decide) | refine fp_and (by decide) ?_)
  refine call_of (s_opp ((arW s f0).extract f1.toNat (f1 + f2).toNat) (by simp [hAs]; omega) (al_ext hAa _ _)) rfl (by simp) ?_
  try simp -dsimp
  try (first | exact fp_one (by decide) | refine fp_and (by decide) ?_)
  refine ⟨by simp only [opW_size, ByteArray.size_extract, hAs]; omega, ?_⟩
  refine call_of (s_opp ((arW s f0).extract (f1 + f2).toNat (s.size / 2)) (by simp [hAs]; omega) (al_ext hAa _ _)) rfl (by simp) ?_
  try simp -dsimp
  try (first | exact fp_one (by decide) | refine fp_and (by decide) ?_)
  refine ⟨by simp only [ByteArray.size_append, opW_size, ByteArray.size_extract, hAs]; omega, ?_⟩
  rfl
theorem s_sfw (s : ByteArray) (f0 f1 f2 f3 : Int) (hs : s.size ≤ 40) (he : s.size % 2 = 0) (hf : fOk s.size f0 f1 f2 f3) : Sp Tryd.prog 46 [aS s, .v (vis [f0, f1, f2, f3])] (vb (fwB s f0 f1 f2)) [] := by
  obtain ⟨g0, ⟨g1, g2, g3⟩, g4⟩ := hf
  have w1 := s_in f0 0 ((s.size : Int) - 1)
  rw [decide_eq_true g0] at w1
  have w2 := s_sall [f1, f2, f3] 3 0 (s.size : Int) (by simp)
  rw [show (([f1, f2, f3].all fun n => decide (0 ≤ n ∧ n ≤ (s.size : Int))) && decide ((([f1, f2, f3] : List Int).length : Int) ≤ 3)) = true by simp; omega] at w2
  refine sp_of (m := no) mixed Tryd.func46 k46 ?_
  have e1 : IntKind.i64.wrap ((s.size : Int) / 2) = (s.size : Int) / 2 := w64 (by omega) (by omega)
  have e2 : IntKind.i64.wrap ((s.size : Int) - 1) = (s.size : Int) - 1 := w64 (by omega) (by omega)
  have e3 : IntKind.i64.wrap (f1 + f2) = f1 + f2 := w64 (by omega) (by omega)
  have e4 : IntKind.i64.wrap (f1 + f2 + f3) = f1 + f2 + f3 := w64 (by omega) (by omega)
  have e5 : IntKind.i64.wrap (2 * (f1 + f2 + f3)) = (s.size : Int) := by rw [w64 (by omega) (by omega)]; omega
  have hA : s.extract f0.toNat s.size ++ s.extract 0 f0.toNat = arW s f0 := rfl
  have hAs := arW_size g0
  have hh : ((s.size : Int) / 2).toNat = s.size / 2 := by omega
  simp -dsimp [q, is, e1, e2]
  refine call_of (w1) rfl (by simp) ?_
  try simp -dsimp
  try (first | exact fp_one (by decide) | refine fp_and (by decide) ?_)
  simp -dsimp [is]
  refine call_of (w2) rfl (by simp) ?_
  try simp -dsimp
  try (first | exact fp_one (by decide) | refine fp_and (by decide) ?_)
  simp -dsimp [is, e1, e2, e3, e4, e5, ↓hA, hAs, hh]
  refine ⟨by omega, by omega, by omega, by omega, by omega, by omega, ?_⟩
  refine call_of (s_sopp ((arW s f0).extract 0 f1.toNat) (by simp [hAs]; omega)) rfl (by simp) ?_
  try simp -dsimp
  try (first | exact fp_one (by decide) | refine fp_and (by decide) ?_)
  refine call_of (s_sopp ((arW s f0).extract f1.toNat (f1 + f2).toNat) (by simp [hAs]; omega)) rfl (by simp) ?_
  try simp -dsimp
  try (first | exact fp_one (by decide) | refine fp_and (by decide) ?_)
  refine ⟨by simp only [opW_size, ByteArray.size_extract, hAs]; omega, ?_⟩
  refine call_of (s_sopp ((arW s f0).extract (f1 + f2).toNat (s.size / 2)) (by simp [hAs]; omega)) rfl (by simp) ?_
  try simp -dsimp
  try (first | exact fp_one (by decide) | refine fp_and (by decide) ?_)
  refine ⟨by simp only [ByteArray.size_append, opW_size, ByteArray.size_extract, hAs]; omega, ?_⟩
  rfl
end Go.Proofs.YthgpjndildlgpaaDoorEv
namespace Go.Proofs.YthgpjndildlgpaaDoorEv
open Go Go.Proofs
set_option maxRecDepth 10000
set_option maxHeartbeats 1000000
theorem least (p : Nat → Prop) : ∀ n, (∃ k, k < n ∧ p k ∧ ∀ j, j < k → ¬ p j) ∨ ∀ k, k < n → ¬ p k
  | 0 => .inr (fun k h => absurd h (Nat.not_lt_zero k))
  | n + 1 => by
    rcases least p n with ⟨k, h1, h2, h3⟩ | h
    · exact .inl ⟨k, by omega, h2, h3⟩
    · by_cases hp : p n
      · exact .inl ⟨n, by omega, hp, h⟩
      · refine .inr (fun k hk => ?_)
        by_cases e : k = n
        · rw [e]; exact hp
        · exact h k (by omega)
def fstT (n h : Nat) (p : Nat → Nat → Nat → Bool) (t0 t1 t2 : Nat) : Prop := (t0 < n ∧ t1 + t2 ≤ h ∧ p t0 t1 t2 = true) ∧ ∀ i a b, i < n → a + b ≤ h → (i < t0 ∨ (i = t0 ∧ (a < t1 ∨ (a = t1 ∧ b < t2)))) → p i a b = false
theorem first_or (n h : Nat) (p : Nat → Nat → Nat → Bool) : (∃ t0 t1 t2, fstT n h p t0 t1 t2) ∨ ∀ i a b, i < n → a + b ≤ h → p i a b = false := by
  rcases least (fun i => ∃ a b, a + b ≤ h ∧ p i a b = true) n with ⟨t0, h0, ⟨a', b', hab, hp⟩, hm⟩ | hno
  · rcases least (fun a => ∃ b, a + b ≤ h ∧ p t0 a b = true) (h + 1) with ⟨t1, h1, ⟨b2, hb2, hp2⟩, hm1⟩ | hno
    · rcases least (fun b => t1 + b ≤ h ∧ p t0 t1 b = true) (h + 1) with ⟨t2, h2, ⟨h3, h4⟩, hm2⟩ | hno
      · refine .inl ⟨t0, t1, t2, ⟨h0, h3, h4⟩, fun i a b hi hab' hlt => ?_⟩
        cases hq : p i a b with
        | false => rfl
        | true =>
          rcases hlt with hlt | ⟨rfl, hlt | ⟨rfl, hlt⟩⟩
          · exact absurd ⟨a, b, hab', hq⟩ (hm i hlt)
          · exact absurd ⟨b, hab', hq⟩ (hm1 a hlt)
          · exact absurd ⟨hab', hq⟩ (hm2 b hlt)
      · exact absurd ⟨hb2, hp2⟩ (hno b2 (by omega))
    · exact absurd ⟨b', hab, hp⟩ (hno a' (by omega))
  · refine .inr (fun i a b hi hab => ?_)
    cases hq : p i a b with
    | false => rfl
    | true => exact absurd ⟨a, b, hab, hq⟩ (hno i hi)
abbrev hitF (s : ByteArray) (i a b : Nat) : Bool := fwB s (i : Int) (a : Int) (b : Int)
theorem pt_par (l : List UInt8) : ∀ i : Nat, i ≤ l.length → ((pt (l.take i)).1 + (pt (l.take i)).2 - i) % 2 = 0
  | 0, _ => by simp [pt]
  | i + 1, h => by
    have ih := pt_par l i (by omega)
    rw [pt_succ (List.getElem?_eq_getElem (by omega))]
    have : ((stp l[i]).1 + (stp l[i]).2 - 1) % 2 = 0 := by
      unfold stp
      repeat' split
      all_goals decide
    simp only
    omega
theorem loop_even {s : ByteArray} (h : okLp s = true) : s.size % 2 = 0 := by
  simp only [okLp, Bool.and_eq_true, decide_eq_true_eq] at h
  have h1 := pt_par s.data.toList s.size (by rw [← Lib.size_eq]; exact Nat.le_refl _)
  rw [take_all, h.1.2] at h1
  simp only at h1
  omega
theorem s_fac (s : ByteArray) (hs : s.size ≤ 40) (ha : s.data.toList.all isL = true) (hc : lpC s = 0) {t0 t1 t2 : Nat} (hT : fstT s.size (s.size / 2) (hitF s) t0 t1 t2) : Sp Tryd.prog 22 [aS s] (.tu [.sli 0, vi 0]) [.row 0 2 (is [(t0 : Int), t1, t2, (s.size : Int) / 2 - t1 - t2])] := by
  have w1 := s_lpc s (by omega)
  rw [hc] at w1
  obtain ⟨⟨T0, T1, T2⟩, hno⟩ := hT
  have e1 : IntKind.i64.wrap ((s.size : Int) / 2) = (s.size : Int) / 2 := w64 (by omega) (by omega)
  have e2 : IntKind.i64.wrap ((s.size : Int) / 2 + 1) = (s.size : Int) / 2 + 1 := w64 (by omega) (by omega)
  refine sp_of (m := no) mixed Tryd.func22 k22 ?_
  simp -dsimp [q]
  refine call_of (w1) rfl (by simp) ?_
  try simp -dsimp
  try (first | exact fp_one (by decide) | refine fp_and (by decide) ?_)
  simp -dsimp [e1]
  refine awp_it (true :: false :: false :: false :: false :: true :: false :: false :: false :: false :: false :: false :: false :: false :: false :: false :: false :: false :: false :: false :: false :: false :: false :: true :: true :: []) (fun i : Nat => [(24, vi i)]) (fun i => []) (fun i => i ≤ t0) (fun i => s.size - i) 0 ?_
  intro s0 e
  simp -dsimp at e
  subst e
  refine ⟨?_, ?_⟩
  · simp
  intro i hi
  simp -dsimp [e1, e2]
  refine ⟨fun h5 => ?_, by omega⟩
  refine awp_it (true :: false :: false :: false :: false :: true :: true :: false :: false :: false :: false :: false :: false :: false :: false :: false :: false :: false :: false :: false :: false :: false :: false :: true :: true :: false :: false :: false :: true :: true :: []) (fun a : Nat => [(29, vi a)]) (fun a => []) (fun a => a ≤ s.size / 2 + 1 ∧ (i = t0 → a ≤ t1)) (fun a => s.size / 2 + 1 - a) 0 ?_
  intro s0 e
  simp -dsimp at e
  subst e
  refine ⟨?_, ?_⟩
  · simp
  rintro a ⟨ha1, ha2⟩
  have e3 : IntKind.i64.wrap ((s.size : Int) / 2 - a) = (s.size : Int) / 2 - a := w64 (by omega) (by omega)
  have e4 : IntKind.i64.wrap ((s.size : Int) / 2 - a + 1) = (s.size : Int) / 2 - a + 1 := w64 (by omega) (by omega)
  simp -dsimp [e1, e2, e3, e4]
  refine ⟨fun h6 => ?_, fun h6 => ⟨i + 1, by rw [w64 (by omega) (by omega)]; simp, by omega, by omega⟩⟩
  refine awp_it (true :: false :: false :: false :: false :: true :: true :: true :: false :: false :: false :: false :: false :: false :: false :: false :: false :: false :: false :: false :: false :: false :: false :: true :: true :: false :: false :: false :: true :: true :: false :: false :: false :: false :: false :: true :: true :: []) (fun b : Nat => [(36, vi b)]) (fun b => []) (fun b => a + b ≤ s.size / 2 + 1 ∧ (i = t0 → a = t1 → b ≤ t2)) (fun b => s.size / 2 + 1 - b) 0 ?_
  intro s0 e
  simp -dsimp at e
  subst e
  refine ⟨?_, ?_⟩
  · simp; omega
  rintro b ⟨hb1, hb2⟩
  have e5 : IntKind.i64.wrap ((s.size : Int) / 2 - a - b) = (s.size : Int) / 2 - a - b := w64 (by omega) (by omega)
  simp -dsimp [e3, e5]
  refine ⟨fun h7 => ?_, fun h7 => ⟨a + 1, by rw [w64 (by omega) (by omega)]; simp, by omega, by omega⟩⟩
  refine call_of (s_fw s i a b ((s.size : Int) / 2 - a - b) hs ha ⟨⟨by omega, by omega⟩, ⟨⟨by omega, by omega⟩, ⟨by omega, by omega⟩, by omega, by omega⟩, by omega⟩) rfl (by simp) ?_
  try simp -dsimp
  try (first | exact fp_one (by decide) | refine fp_and (by decide) ?_)
  refine ⟨fun e => ?_, fun e => ⟨b + 1, by rw [w64 (by omega) (by omega)]; simp, ⟨by omega, fun x y => ?_⟩, by omega⟩⟩
  · have hq : i = t0 ∧ a = t1 ∧ b = t2 := by
      by_cases hlt : i < t0 ∨ (i = t0 ∧ (a < t1 ∨ (a = t1 ∧ b < t2)))
      · have := hno i a b h5 (by omega) hlt
        rw [hitF, e] at this
        cases this
      · omega
    obtain ⟨rfl, rfl, rfl⟩ := hq
    rfl
  · have hne : b ≠ t2 := by
      rintro rfl
      rw [hitF, ← x, ← y, e] at T2
      cases T2
    have := hb2 x y
    omega
theorem s_fac0 (s : ByteArray) (hs : s.size ≤ 40) (ha : s.data.toList.all isL = true) (hc : lpC s = 0) (hno : ∀ i a b, i < s.size → a + b ≤ s.size / 2 → hitF s i a b = false) : Sp Tryd.prog 22 [aS s] (.tu [.nil 0, vi 4]) [] := by
  have w1 := s_lpc s (by omega)
  rw [hc] at w1
  have e1 : IntKind.i64.wrap ((s.size : Int) / 2) = (s.size : Int) / 2 := w64 (by omega) (by omega)
  have e2 : IntKind.i64.wrap ((s.size : Int) / 2 + 1) = (s.size : Int) / 2 + 1 := w64 (by omega) (by omega)
  refine sp_of (m := no) mixed Tryd.func22 k22 ?_
  simp -dsimp [q]
  refine call_of (w1) rfl (by simp) ?_
  try simp -dsimp
  try (first | exact fp_one (by decide) | refine fp_and (by decide) ?_)
  simp -dsimp [e1]
  refine awp_it (true :: false :: false :: false :: false :: true :: false :: false :: false :: false :: false :: false :: false :: false :: false :: false :: false :: false :: false :: false :: false :: false :: false :: true :: true :: []) (fun i : Nat => [(24, vi i)]) (fun i => []) (fun i => i ≤ s.size) (fun i => s.size - i) 0 ?_
  intro s0 e
  simp -dsimp at e
  subst e
  refine ⟨?_, ?_⟩
  · simp
  intro i hi
  simp -dsimp [e1, e2]
  refine fun h5 => ?_
  refine awp_it (true :: false :: false :: false :: false :: true :: true :: false :: false :: false :: false :: false :: false :: false :: false :: false :: false :: false :: false :: false :: false :: false :: false :: true :: true :: false :: false :: false :: true :: true :: []) (fun a : Nat => [(29, vi a)]) (fun a => []) (fun a => a ≤ s.size / 2 + 1) (fun a => s.size / 2 + 1 - a) 0 ?_
  intro s0 e
  simp -dsimp at e
  subst e
  refine ⟨?_, ?_⟩
  · simp
  intro a ha1
  have e3 : IntKind.i64.wrap ((s.size : Int) / 2 - a) = (s.size : Int) / 2 - a := w64 (by omega) (by omega)
  have e4 : IntKind.i64.wrap ((s.size : Int) / 2 - a + 1) = (s.size : Int) / 2 - a + 1 := w64 (by omega) (by omega)
  simp -dsimp [e1, e2, e3, e4]
  refine ⟨fun h6 => ?_, fun h6 => ⟨i + 1, by rw [w64 (by omega) (by omega)]; simp, by omega, by omega⟩⟩
  refine awp_it (true :: false :: false :: false :: false :: true :: true :: true :: false :: false :: false :: false :: false :: false :: false :: false :: false :: false :: false :: false :: false :: false :: false :: true :: true :: false :: false :: false :: true :: true :: false :: false :: false :: false :: false :: true :: true :: []) (fun b : Nat => [(36, vi b)]) (fun b => []) (fun b => a + b ≤ s.size / 2 + 1) (fun b => s.size / 2 + 1 - b) 0 ?_
  intro s0 e
  simp -dsimp at e
  subst e
  refine ⟨?_, ?_⟩
  · simp; omega
  intro b hb1
  have e5 : IntKind.i64.wrap ((s.size : Int) / 2 - a - b) = (s.size : Int) / 2 - a - b := w64 (by omega) (by omega)
  simp -dsimp [e3, e5]
  refine ⟨fun h7 => ?_, fun h7 => ⟨a + 1, by rw [w64 (by omega) (by omega)]; simp, by omega, by omega⟩⟩
  refine call_of (s_fw s i a b ((s.size : Int) / 2 - a - b) hs ha ⟨⟨by omega, by omega⟩, ⟨⟨by omega, by omega⟩, ⟨by omega, by omega⟩, by omega, by omega⟩, by omega⟩) rfl (by simp) ?_
  try simp -dsimp
  try (first | exact fp_one (by decide) | refine fp_and (by decide) ?_)
  have e := hno i a b h5 (by omega)
  rw [hitF] at e
  exact ⟨e, fun _ => ⟨b + 1, by rw [w64 (by omega) (by omega)]; simp, by omega, by omega⟩⟩
theorem s_sfac (s : ByteArray) (hs : s.size ≤ 40) (he : s.size % 2 = 0) {t0 t1 t2 : Nat} (hT : fstT s.size (s.size / 2) (hitF s) t0 t1 t2) : Sp Tryd.prog 44 [aS s] (.tu [.sli 0, vb true]) [.row 0 2 (is [(t0 : Int), t1, t2, (s.size : Int) / 2 - t1 - t2])] := by
  obtain ⟨⟨T0, T1, T2⟩, hno⟩ := hT
  have e1 : IntKind.i64.wrap ((s.size : Int) / 2) = (s.size : Int) / 2 := w64 (by omega) (by omega)
  have e2 : IntKind.i64.wrap ((s.size : Int) / 2 + 1) = (s.size : Int) / 2 + 1 := w64 (by omega) (by omega)
  refine sp_of (m := no) mixed Tryd.func44 k44 ?_
  simp -dsimp [q, e1]
  refine awp_it (true :: false :: false :: false :: true :: true :: []) (fun i : Nat => [(5, vi i)]) (fun i => []) (fun i => i ≤ t0) (fun i => s.size - i) 0 ?_
  intro s0 e
  simp -dsimp at e
  subst e
  refine ⟨?_, ?_⟩
  · simp
  intro i hi
  simp -dsimp [e1, e2]
  refine ⟨fun h5 => ?_, by omega⟩
  refine awp_it (true :: false :: false :: false :: true :: true :: true :: []) (fun a : Nat => [(6, vi a)]) (fun a => []) (fun a => a ≤ s.size / 2 + 1 ∧ (i = t0 → a ≤ t1)) (fun a => s.size / 2 + 1 - a) 0 ?_
  intro s0 e
  simp -dsimp at e
  subst e
  refine ⟨?_, ?_⟩
  · simp
  rintro a ⟨ha1, ha2⟩
  have e3 : IntKind.i64.wrap ((s.size : Int) / 2 - a) = (s.size : Int) / 2 - a := w64 (by omega) (by omega)
  have e4 : IntKind.i64.wrap ((s.size : Int) / 2 - a + 1) = (s.size : Int) / 2 - a + 1 := w64 (by omega) (by omega)
  simp -dsimp [e1, e2, e3, e4]
  refine ⟨fun h6 => ?_, fun h6 => ⟨i + 1, by rw [w64 (by omega) (by omega)]; simp, by omega, by omega⟩⟩
  refine awp_it (true :: false :: false :: false :: true :: true :: true :: true :: []) (fun b : Nat => [(7, vi b)]) (fun b => []) (fun b => a + b ≤ s.size / 2 + 1 ∧ (i = t0 → a = t1 → b ≤ t2)) (fun b => s.size / 2 + 1 - b) 0 ?_
  intro s0 e
  simp -dsimp at e
  subst e
  refine ⟨?_, ?_⟩
  · simp; omega
  rintro b ⟨hb1, hb2⟩
  have e5 : IntKind.i64.wrap ((s.size : Int) / 2 - a - b) = (s.size : Int) / 2 - a - b := w64 (by omega) (by omega)
  have e6 : IntKind.i64.wrap ((a : Int) + b) = (a : Int) + b := w64 (by omega) (by omega)
  simp -dsimp [e3, e5, e6]
  refine ⟨fun h7 => ?_, fun h7 => ⟨a + 1, by rw [w64 (by omega) (by omega)]; simp, by omega, by omega⟩⟩
  refine call_of (s_sfw s i a b ((s.size : Int) / 2 - a - b) hs he ⟨⟨by omega, by omega⟩, ⟨⟨by omega, by omega⟩, ⟨by omega, by omega⟩, by omega, by omega⟩, by omega⟩) rfl (by simp) ?_
  try simp -dsimp
  try (first | exact fp_one (by decide) | refine fp_and (by decide) ?_)
  refine ⟨fun e => ?_, fun e => ⟨b + 1, by rw [w64 (by omega) (by omega)]; simp, ⟨by omega, fun x y => ?_⟩, by omega⟩⟩
  · have hq : i = t0 ∧ a = t1 ∧ b = t2 := by
      by_cases hlt : i < t0 ∨ (i = t0 ∧ (a < t1 ∨ (a = t1 ∧ b < t2)))
      · have := hno i a b h5 (by omega) hlt
        rw [hitF, e] at this
        cases this
      · omega
    obtain ⟨rfl, rfl, rfl⟩ := hq
    rfl
  · have hne : b ≠ t2 := by
      rintro rfl
      rw [hitF, ← x, ← y, e] at T2
      cases T2
    have := hb2 x y
    omega
theorem s_sfac0 (s : ByteArray) (hs : s.size ≤ 40) (he : s.size % 2 = 0) (hno : ∀ i a b, i < s.size → a + b ≤ s.size / 2 → hitF s i a b = false) : Sp Tryd.prog 44 [aS s] (.tu [.nil 0, vb false]) [] := by
  have e1 : IntKind.i64.wrap ((s.size : Int) / 2) = (s.size : Int) / 2 := w64 (by omega) (by omega)
  have e2 : IntKind.i64.wrap ((s.size : Int) / 2 + 1) = (s.size : Int) / 2 + 1 := w64 (by omega) (by omega)
  refine sp_of (m := no) mixed Tryd.func44 k44 ?_
  simp -dsimp [q, e1]
  refine awp_it (true :: false :: false :: false :: true :: true :: []) (fun i : Nat => [(5, vi i)]) (fun i => []) (fun i => i ≤ s.size) (fun i => s.size - i) 0 ?_
  intro s0 e
  simp -dsimp at e
  subst e
  refine ⟨?_, ?_⟩
  · simp
  intro i hi
  simp -dsimp [e1, e2]
  refine fun h5 => ?_
  refine awp_it (true :: false :: false :: false :: true :: true :: true :: []) (fun a : Nat => [(6, vi a)]) (fun a => []) (fun a => a ≤ s.size / 2 + 1) (fun a => s.size / 2 + 1 - a) 0 ?_
  intro s0 e
  simp -dsimp at e
  subst e
  refine ⟨?_, ?_⟩
  · simp
  intro a ha1
  have e3 : IntKind.i64.wrap ((s.size : Int) / 2 - a) = (s.size : Int) / 2 - a := w64 (by omega) (by omega)
  have e4 : IntKind.i64.wrap ((s.size : Int) / 2 - a + 1) = (s.size : Int) / 2 - a + 1 := w64 (by omega) (by omega)
  simp -dsimp [e1, e2, e3, e4]
  refine ⟨fun h6 => ?_, fun h6 => ⟨i + 1, by rw [w64 (by omega) (by omega)]; simp, by omega, by omega⟩⟩
  refine awp_it (true :: false :: false :: false :: true :: true :: true :: true :: []) (fun b : Nat => [(7, vi b)]) (fun b => []) (fun b => a + b ≤ s.size / 2 + 1) (fun b => s.size / 2 + 1 - b) 0 ?_
  intro s0 e
  simp -dsimp at e
  subst e
  refine ⟨?_, ?_⟩
  · simp; omega
  intro b hb1
  have e5 : IntKind.i64.wrap ((s.size : Int) / 2 - a - b) = (s.size : Int) / 2 - a - b := w64 (by omega) (by omega)
  have e6 : IntKind.i64.wrap ((a : Int) + b) = (a : Int) + b := w64 (by omega) (by omega)
  simp -dsimp [e3, e5, e6]
  refine ⟨fun h7 => ?_, fun h7 => ⟨a + 1, by rw [w64 (by omega) (by omega)]; simp, by omega, by omega⟩⟩
  refine call_of (s_sfw s i a b ((s.size : Int) / 2 - a - b) hs he ⟨⟨by omega, by omega⟩, ⟨⟨by omega, by omega⟩, ⟨by omega, by omega⟩, by omega, by omega⟩, by omega⟩) rfl (by simp) ?_
  try simp -dsimp
  try (first | exact fp_one (by decide) | refine fp_and (by decide) ?_)
  have e := hno i a b h5 (by omega)
  rw [hitF] at e
  exact ⟨e, fun _ => ⟨b + 1, by rw [w64 (by omega) (by omega)]; simp, by omega, by omega⟩⟩
end Go.Proofs.YthgpjndildlgpaaDoorEv
namespace Go.Proofs.YthgpjndildlgpaaDoorEv
open Go Go.Proofs
set_option maxRecDepth 10000
set_option maxHeartbeats 1000000
abbrev noS : V := .str ⟨#[]⟩
theorem s_fwLen (s : ByteArray) (f : List Int) (hf : f.length ≤ 1048576) (hn : f.length ≠ 4) : Sp Tryd.prog 45 [aS s, .v (vis f)] (.tu [.v noS, .v noS, .v noS, vb false]) [] := by
  refine sp_of (m := no) mixed Tryd.func45 k45 ?_
  have hi : (is f).length = f.length := by simp [is]
  simp -dsimp [q, hi]
  exact fun e => absurd e (by omega)
theorem s_fwBad (s : ByteArray) (f0 f1 f2 f3 : Int) (hs : s.size ≤ 40) (hf : ¬ fOk s.size f0 f1 f2 f3) : Sp Tryd.prog 45 [aS s, .v (vis [f0, f1, f2, f3])] (.tu [.v noS, .v noS, .v noS, vb false]) [] := by
  have e1 : IntKind.i64.wrap ((s.size : Int) / 2) = (s.size : Int) / 2 := w64 (by omega) (by omega)
  have e2 : IntKind.i64.wrap ((s.size : Int) - 1) = (s.size : Int) - 1 := w64 (by omega) (by omega)
  have w1 := s_within f0 0 ((s.size : Int) - 1)
  have w2 := s_all [f1, f2, f3] 0 ((s.size : Int) / 2) (by simp)
  refine sp_of (m := no) mixed Tryd.func45 k45 ?_
  simp -dsimp [q, is, e1, e2]
  by_cases g0 : 0 ≤ f0 ∧ f0 ≤ (s.size : Int) - 1
  case neg =>
    rw [decide_eq_false g0] at w1
    refine call_of (w1) rfl (by simp) ?_
    try simp -dsimp
    try (first | exact fp_one (by decide) | refine fp_and (by decide) ?_)
  rw [decide_eq_true g0] at w1
  refine call_of (w1) rfl (by simp) ?_
  try simp -dsimp
  try (first | exact fp_one (by decide) | refine fp_and (by decide) ?_)
  by_cases ga : (0 ≤ f1 ∧ f1 ≤ (s.size : Int) / 2) ∧ (0 ≤ f2 ∧ f2 ≤ (s.size : Int) / 2) ∧ (0 ≤ f3 ∧ f3 ≤ (s.size : Int) / 2)
  case neg =>
    rw [show ([f1, f2, f3].all fun n => decide (0 ≤ n ∧ n ≤ (s.size : Int) / 2)) = false by
      cases h : ([f1, f2, f3].all fun n => decide (0 ≤ n ∧ n ≤ (s.size : Int) / 2)) with
      | false => rfl
      | true => exact absurd (by simpa using h) ga] at w2
    simp -dsimp [is]
    refine call_of (w2) rfl (by simp) ?_
    try simp -dsimp
    try (first | exact fp_one (by decide) | refine fp_and (by decide) ?_)
  obtain ⟨g1, g2, g3⟩ := ga
  rw [show ([f1, f2, f3].all fun n => decide (0 ≤ n ∧ n ≤ (s.size : Int) / 2)) = true by simp [g1, g2, g3]] at w2
  have e3 : IntKind.i64.wrap (f1 + f2) = f1 + f2 := w64 (by omega) (by omega)
  have e4 : IntKind.i64.wrap (f1 + f2 + f3) = f1 + f2 + f3 := w64 (by omega) (by omega)
  have hne : ¬ (f1 + f2 + f3 = (s.size : Int) / 2) := fun e => hf ⟨g0, ⟨g1, g2, g3⟩, e⟩
  simp -dsimp [is]
  refine call_of (w2) rfl (by simp) ?_
  try simp -dsimp
  try (first | exact fp_one (by decide) | refine fp_and (by decide) ?_)
  simp -dsimp [is, e3, e4, hne]
theorem s_sfwLen (s : ByteArray) (f : List Int) (hf : f.length ≤ 1048576) (hn : f.length ≠ 4) : Sp Tryd.prog 46 [aS s, .v (vis f)] (vb false) [] := by
  refine sp_of (m := no) mixed Tryd.func46 k46 ?_
  have hi : (is f).length = f.length := by simp [is]
  simp -dsimp [q, hi]
  exact fun e => absurd e (by omega)
theorem s_sfwBad (s : ByteArray) (f0 f1 f2 f3 : Int) (hs : s.size ≤ 40) (he : s.size % 2 = 0) (hf : ¬ fOk s.size f0 f1 f2 f3) : Sp Tryd.prog 46 [aS s, .v (vis [f0, f1, f2, f3])] (vb false) [] := by
  have e2 : IntKind.i64.wrap ((s.size : Int) - 1) = (s.size : Int) - 1 := w64 (by omega) (by omega)
  have w1 := s_in f0 0 ((s.size : Int) - 1)
  have w2 := s_sall [f1, f2, f3] 3 0 (s.size : Int) (by simp)
  refine sp_of (m := no) mixed Tryd.func46 k46 ?_
  simp -dsimp [q, is, e2]
  by_cases g0 : 0 ≤ f0 ∧ f0 ≤ (s.size : Int) - 1
  case neg =>
    rw [decide_eq_false g0] at w1
    refine call_of (w1) rfl (by simp) ?_
    try simp -dsimp
    try (first | exact fp_one (by decide) | refine fp_and (by decide) ?_)
  rw [decide_eq_true g0] at w1
  refine call_of (w1) rfl (by simp) ?_
  try simp -dsimp
  try (first | exact fp_one (by decide) | refine fp_and (by decide) ?_)
  by_cases ga : (0 ≤ f1 ∧ f1 ≤ (s.size : Int)) ∧ (0 ≤ f2 ∧ f2 ≤ (s.size : Int)) ∧ (0 ≤ f3 ∧ f3 ≤ (s.size : Int))
  case neg =>
    rw [show (([f1, f2, f3].all fun n => decide (0 ≤ n ∧ n ≤ (s.size : Int))) && decide ((([f1, f2, f3] : List Int).length : Int) ≤ 3)) = false by
      cases h : ([f1, f2, f3].all fun n => decide (0 ≤ n ∧ n ≤ (s.size : Int))) with
      | false => rfl
      | true => exact absurd (by simpa using h) ga] at w2
    simp -dsimp [is]
    refine call_of (w2) rfl (by simp) ?_
    try simp -dsimp
    try (first | exact fp_one (by decide) | refine fp_and (by decide) ?_)
  obtain ⟨g1, g2, g3⟩ := ga
  rw [show (([f1, f2, f3].all fun n => decide (0 ≤ n ∧ n ≤ (s.size : Int))) && decide ((([f1, f2, f3] : List Int).length : Int) ≤ 3)) = true by simp [g1, g2, g3]] at w2
  have e3 : IntKind.i64.wrap (f1 + f2) = f1 + f2 := w64 (by omega) (by omega)
  have e4 : IntKind.i64.wrap (f1 + f2 + f3) = f1 + f2 + f3 := w64 (by omega) (by omega)
  have e5 : IntKind.i64.wrap (2 * (f1 + f2 + f3)) = 2 * (f1 + f2 + f3) := w64 (by omega) (by omega)
  have hne : ¬ (2 * (f1 + f2 + f3) = (s.size : Int)) := fun e => hf ⟨g0, ⟨⟨by omega, by omega⟩, ⟨by omega, by omega⟩, by omega, by omega⟩, by omega⟩
  simp -dsimp [is]
  refine call_of (w2) rfl (by simp) ?_
  try simp -dsimp
  try (first | exact fp_one (by decide) | refine fp_and (by decide) ?_)
  simp -dsimp [is, e3, e4, e5, hne]
end Go.Proofs.YthgpjndildlgpaaDoorEv
namespace Go.Proofs.YthgpjndildlgpaaDoorEv
open Go Go.Proofs
set_option maxRecDepth 10000
set_option maxHeartbeats 1000000
theorem ext_list (t : ByteArray) (i j : Nat) : (t.extract i j).data.toList = (t.data.toList.drop i).take (j - i) := by
  have e : t.extract i j = (⟨t.data.toList.toArray⟩ : ByteArray).extract i j := by rw [ba_eq]
  rw [e, Lib.extract_mk]
theorem ba_ext2 {t u : ByteArray} (h : t.data.toList = u.data.toList) : t = u := by rw [← ba_eq t, h, ba_eq]
theorem ext_app (t : ByteArray) {i j k : Nat} (h1 : i ≤ j) (h2 : j ≤ k) : t.extract i j ++ t.extract j k = t.extract i k := by
  apply ba_ext2
  rw [ByteArray.data_append, Array.toList_append, ext_list, ext_list, ext_list, show t.data.toList.drop j = (t.data.toList.drop i).drop (j - i) by rw [List.drop_drop]; congr 1; omega, show k - i = (j - i) + (k - j) by omega, List.take_add]
def stW (s : ByteArray) (f0 f1 f2 f3 : Int) : List (Int × Int) := [pt ((arW s f0).extract 0 (f1 + f2).toNat).data.toList, pt ((arW s f0).extract f1.toNat (f1 + f2 + f3).toNat).data.toList]
theorem s_steps (s : ByteArray) (f0 f1 f2 f3 : Int) (hs : s.size ≤ 40) (ha : s.data.toList.all isL = true) (hc : lpC s = 0) (hf : fOk s.size f0 f1 f2 f3) (hb : fwB s f0 f1 f2 = true) : Sp Tryd.prog 28 [aS s, .v (vis [f0, f1, f2, f3])] (.tu [.sli 0, vi 0]) [.row 2 24 (vs (stW s f0 f1 f2 f3))] := by
  have w1 := s_lpc s (by omega)
  have w2 := s_fw s f0 f1 f2 f3 hs ha hf
  rw [hc] at w1
  rw [hb] at w2
  obtain ⟨g0, ⟨g1, g2, g3⟩, g4⟩ := hf
  have hAs := arW_size g0
  have x1 := ext_app (arW s f0) (i := 0) (j := f1.toNat) (k := (f1 + f2).toNat) (by omega) (by omega)
  have x2 := ext_app (arW s f0) (i := f1.toNat) (j := (f1 + f2).toNat) (k := s.size / 2) (by omega) (by omega)
  have x3 : (f1 + f2 + f3).toNat = s.size / 2 := by omega
  refine sp_of (m := no) mixed Tryd.func28 k28 ?_
  simp -dsimp [q]
  have m1 : max f1.toNat (f1 + f2).toNat = (f1 + f2).toNat := Nat.max_eq_right (by omega)
  have m2 : max (f1 + f2).toNat (s.size / 2) = s.size / 2 := Nat.max_eq_right (by omega)
  have m3 : min f1.toNat (f1 + f2).toNat = f1.toNat := Nat.min_eq_left (by omega)
  refine call_of (w1) rfl (by simp) ?_
  try simp -dsimp
  try (first | exact fp_one (by decide) | refine fp_and (by decide) ?_)
  refine call_of (w2) rfl (by simp) ?_
  try simp -dsimp
  try (first | exact fp_one (by decide) | refine fp_and (by decide) ?_)
  refine ⟨by omega, ?_⟩
  have su : ((arW s f0).extract 0 (f1 + f2).toNat).size ≤ 1048576 := by rw [ByteArray.size_extract, hAs]; omega
  have sv : ((arW s f0).extract f1.toNat (s.size / 2)).size ≤ 1048576 := by rw [ByteArray.size_extract, hAs]; omega
  rw [stW, x3]
  simp only [m1]
  generalize (arW s f0).extract 0 (f1 + f2).toNat = u at *
  refine call_of (s_end u su) rfl (by simp) ?_
  try simp -dsimp
  try (first | exact fp_one (by decide) | refine fp_and (by decide) ?_)
  refine ⟨by omega, ?_⟩
  simp only [m2, m3]
  generalize hv : (arW s f0).extract f1.toNat (s.size / 2) = v at *
  refine call_of (s_end v sv) rfl (by simp) ?_
  try simp -dsimp
  try (first | exact fp_one (by decide) | refine fp_and (by decide) ?_)
  rw [← ext_list, hv]
  rfl
theorem s_ssteps (s : ByteArray) (f0 f1 f2 f3 : Int) (hs : s.size ≤ 40) (ha : s.data.toList.all isL = true) (hc : lpC s = 0) (hf : fOk s.size f0 f1 f2 f3) (he : s.size % 2 = 0) (hb : fwB s f0 f1 f2 = true) : Sp Tryd.prog 26 [aS s, .v (vis [f0, f1, f2, f3])] (.tu [.sli 0, vi 0]) [.row 2 24 (vs (stW s f0 f1 f2 f3))] := by
  have w1 := s_slpc s (by omega)
  have w2 := s_sfw s f0 f1 f2 f3 hs he hf
  rw [hc] at w1
  rw [hb] at w2
  obtain ⟨g0, ⟨g1, g2, g3⟩, g4⟩ := hf
  have hAs := arW_size g0
  have hAa := arW_all ha f0
  have e3 : IntKind.i64.wrap (f1 + f2) = f1 + f2 := w64 (by omega) (by omega)
  have e4 : IntKind.i64.wrap (f1 + f2 + f3) = f1 + f2 + f3 := w64 (by omega) (by omega)
  have hA : s.extract f0.toNat s.size ++ s.extract 0 f0.toNat = arW s f0 := rfl
  refine sp_of (m := no) mixed Tryd.func26 k26 ?_
  simp -dsimp [q]
  refine call_of (w1) rfl (by simp) ?_
  try simp -dsimp
  try (first | exact fp_one (by decide) | refine fp_and (by decide) ?_)
  refine call_of (w2) rfl (by simp) ?_
  try simp -dsimp
  try (first | exact fp_one (by decide) | refine fp_and (by decide) ?_)
  simp -dsimp [is, e3, e4, ↓hA, hAs]
  refine ⟨by omega, by omega, by omega, by omega, ?_⟩
  have su : ((arW s f0).extract 0 (f1 + f2).toNat).size ≤ 1048576 := by rw [ByteArray.size_extract, hAs]; omega
  have sv : ((arW s f0).extract f1.toNat (f1 + f2 + f3).toNat).size ≤ 1048576 := by rw [ByteArray.size_extract, hAs]; omega
  have au := al_ext hAa 0 (f1 + f2).toNat
  have av := al_ext hAa f1.toNat (f1 + f2 + f3).toNat
  rw [stW]
  generalize (arW s f0).extract 0 (f1 + f2).toNat = u at *
  generalize (arW s f0).extract f1.toNat (f1 + f2 + f3).toNat = v at *
  refine call_of (s_sway u su au) rfl (by simp) ?_
  try simp -dsimp
  try (first | exact fp_one (by decide) | refine fp_and (by decide) ?_)
  refine ⟨by rw [wy_len]; omega, fun x1 y1 h1 => ?_⟩
  have k1 := wy_at (Nat.le_refl _) h1
  rw [take_all] at k1
  refine call_of (s_sway v sv av) rfl (by simp) ?_
  try simp -dsimp
  try (first | exact fp_one (by decide) | refine fp_and (by decide) ?_)
  refine ⟨by rw [wy_len]; omega, fun x2 y2 h2 => ?_⟩
  have k2 := wy_at (Nat.le_refl _) h2
  rw [take_all] at k2
  refine ⟨by decide, ?_⟩
  rw [k1.1, k1.2, k2.1, k2.2]
  rfl
theorem steps_both (s : ByteArray) (f : List Int) (hs : s.size ≤ 1048576) (hf : f.length ≤ 1048576) : (∃ l : List (Int × Int), l.length = 2 ∧ Sp Tryd.prog 26 [aS s, .v (vis f)] (.tu [.sli 0, vi 0]) [.row 2 24 (vs l)] ∧ Sp Tryd.prog 28 [aS s, .v (vis f)] (.tu [.sli 0, vi 0]) [.row 2 24 (vs l)]) ∨
    ∃ k, Sp Tryd.prog 26 [aS s, .v (vis f)] (.tu [.nil 2, vi k]) [] ∧ Sp Tryd.prog 28 [aS s, .v (vis f)] (.tu [.nil 2, vi k]) [] := by
  have w1 := s_lpc s hs
  have w2 := s_slpc s hs
  by_cases hc : lpC s = 0
  case neg =>
    refine .inr ⟨lpC s, ?_, ?_⟩
    · refine sp_of (m := no) mixed Tryd.func26 k26 ?_
      simp -dsimp [q]
      refine call_of (w2) rfl (by simp) ?_
      try simp -dsimp
      try (first | exact fp_one (by decide) | refine fp_and (by decide) ?_)
      refine ⟨fun e => absurd e hc, fun e => ?_⟩
      all_goals trace_state
      all_goals exact fun e' => absurd e' hc
    · refine sp_of (m := no) mixed Tryd.func28 k28 ?_
      simp -dsimp [q]
      refine call_of (w1) rfl (by simp) ?_
      try simp -dsimp
      try (first | exact fp_one (by decide) | refine fp_and (by decide) ?_)
      exact fun e => absurd e hc
  obtain ⟨_, hl, h40, ha, _⟩ := lpC_zero hc
  have he := loop_even hl
  have bad : Sp Tryd.prog 45 [aS s, .v (vis f)] (.tu [.v noS, .v noS, .v noS, vb false]) [] → Sp Tryd.prog 46 [aS s, .v (vis f)] (vb false) [] → ∃ k, Sp Tryd.prog 26 [aS s, .v (vis f)] (.tu [.nil 2, vi k]) [] ∧ Sp Tryd.prog 28 [aS s, .v (vis f)] (.tu [.nil 2, vi k]) [] := fun u1 u2 => by
    rw [hc] at w1 w2
    refine ⟨2, ?_, ?_⟩
    · refine sp_of (m := no) mixed Tryd.func26 k26 ?_
      simp -dsimp [q]
      refine call_of (w2) rfl (by simp) ?_
      try simp -dsimp
      try (first | exact fp_one (by decide) | refine fp_and (by decide) ?_)
      refine call_of (u2) rfl (by simp) ?_
      try simp -dsimp
      try (first | exact fp_one (by decide) | refine fp_and (by decide) ?_)
    · refine sp_of (m := no) mixed Tryd.func28 k28 ?_
      simp -dsimp [q]
      refine call_of (w1) rfl (by simp) ?_
      try simp -dsimp
      try (first | exact fp_one (by decide) | refine fp_and (by decide) ?_)
      refine call_of (u1) rfl (by simp) ?_
      try simp -dsimp
      try (first | exact fp_one (by decide) | refine fp_and (by decide) ?_)
  by_cases h4 : f.length = 4
  case neg => exact .inr (bad (s_fwLen s f hf h4) (s_sfwLen s f hf h4))
  obtain ⟨f0, f1, f2, f3, rfl⟩ : ∃ f0 f1 f2 f3, f = [f0, f1, f2, f3] := by
    match f, h4 with
    | [a, b, c, d], _ => exact ⟨a, b, c, d, rfl⟩
  by_cases hk : fOk s.size f0 f1 f2 f3
  case neg => exact .inr (bad (s_fwBad s f0 f1 f2 f3 h40 hk) (s_sfwBad s f0 f1 f2 f3 h40 he hk))
  cases hb : fwB s f0 f1 f2 with
  | true => exact .inl ⟨_, rfl, s_ssteps s f0 f1 f2 f3 h40 ha hc hk he hb, s_steps s f0 f1 f2 f3 h40 ha hc hk hb⟩
  | false =>
    have u1 := s_fw s f0 f1 f2 f3 h40 ha hk
    have u2 := s_sfw s f0 f1 f2 f3 h40 he hk
    rw [hb] at u1 u2
    rw [hc] at w1 w2
    refine .inr ⟨2, ?_, ?_⟩
    · refine sp_of (m := no) mixed Tryd.func26 k26 ?_
      simp -dsimp [q]
      refine call_of (w2) rfl (by simp) ?_
      try simp -dsimp
      try (first | exact fp_one (by decide) | refine fp_and (by decide) ?_)
      refine call_of (u2) rfl (by simp) ?_
      try simp -dsimp
      try (first | exact fp_one (by decide) | refine fp_and (by decide) ?_)
    · refine sp_of (m := no) mixed Tryd.func28 k28 ?_
      simp -dsimp [q]
      refine call_of (w1) rfl (by simp) ?_
      try simp -dsimp
      try (first | exact fp_one (by decide) | refine fp_and (by decide) ?_)
      refine call_of (u1) rfl (by simp) ?_
      try simp -dsimp
      try (first | exact fp_one (by decide) | refine fp_and (by decide) ?_)
end Go.Proofs.YthgpjndildlgpaaDoorEv
namespace Go.Proofs.YthgpjndildlgpaaDoorEv
open Go Go.Proofs
set_option maxRecDepth 10000
set_option maxHeartbeats 1000000
abbrev vvs' (l : List (Int × Int)) : V := .sl 2 (vs l)
theorem s_eqV (x y x' y' : Int) : Sp Tryd.prog 14 [aV x y, aV x' y'] (vb (decide (x = x' ∧ y = y'))) [] := by
  refine sp_of (m := no) mixed Tryd.func14 k14 ?_
  simp -dsimp [q]
  refine ⟨fun h e => absurd e h, fun h => ⟨fun h2 _ => h2, fun h2 => ⟨h, h2⟩⟩⟩
theorem s_eqVS (xs ys : List (Int × Int)) (hx : xs.length ≤ 1048576) : Sp Tryd.prog 29 [.v (vvs' xs), .v (vvs' ys)] (vb (decide (xs = ys))) [] := by
  refine sp_of (m := no) mixed Tryd.func29 k29 ?_
  simp -dsimp [q]
  refine ⟨fun h e => h (by rw [e]), fun hl => ?_⟩
  refine awp_it (true :: true :: false :: false :: false :: true :: []) (fun i : Nat => [(5, vi i)]) (fun i => []) (fun i => i ≤ xs.length ∧ xs.take i = ys.take i) (fun i => xs.length - i) 0 ?_
  intro s0 e
  simp -dsimp at e
  subst e
  refine ⟨?_, ?_⟩
  · simp
  intro i hi
  simp -dsimp
  obtain ⟨hi, ht⟩ := hi
  refine ⟨fun h1 => ⟨h1, fun a a' ha => ⟨by omega, fun b b' hb => ?_⟩⟩, fun h1 => ?_⟩
  · refine call_of (s_eqV a a' b b') rfl (by simp) ?_
    try simp -dsimp
    try (first | exact fp_one (by decide) | refine fp_and (by decide) ?_)
    refine ⟨fun hn e => ?_, fun e e' => ⟨i + 1, by rw [w64 (by omega) (by omega)]; simp, ⟨by omega, ?_⟩, by omega⟩⟩
    · subst e
      rw [ha] at hb
      cases hb
      rcases hn with h | h <;> exact h rfl
    · subst e e'
      rw [List.take_add_one, List.take_add_one, ht, ha, hb]
  · have h2 : i = xs.length := by omega
    subst h2
    rw [List.take_length, List.take_of_length_le (by omega)] at ht
    exact ht
def mkV (k : Int) (n : Nat) : List (Int × Int) := (List.range n).map fun i : Nat => (k + 2 * i, k + 2 * i + 1)
theorem s_markVS (l : List (Int × Int)) (k : Int) (t : Nat) (hx : l.length ≤ 1048576) (hk : 0 ≤ k ∧ k ≤ 1000000000) : SpG Tryd.prog 30 [.sli 0, vi k] [.row 2 t (vs l)] (vi (k + 2 * l.length)) [.row 2 t (vs (mkV k l.length))] := by
  refine sg_of (m := no) mixed Tryd.func30 k30 ?_
  simp -dsimp [q]
  refine awp_it (true :: true :: false :: false :: false :: true :: []) (fun i : Nat => [(1, vi (k + 2 * i)), (5, vi i)]) (fun i => [(0, .row 2 t (vs (mkV k i ++ l.drop i)))]) (fun i => i ≤ l.length) (fun i => l.length - i) 0 ?_
  intro s0 e
  simp -dsimp at e
  subst e
  refine ⟨?_, ?_⟩
  · simp [mkV]
  intro i hi
  simp -dsimp [mkV]
  have hlen : ((List.range i).map fun i : Nat => (k + 2 * (i : Int), k + 2 * (i : Int) + 1)).length = i := by simp
  have hsnoc : ((List.range (i + 1)).map fun i : Nat => (k + 2 * (i : Int), k + 2 * (i : Int) + 1)) = ((List.range i).map fun i : Nat => (k + 2 * (i : Int), k + 2 * (i : Int) + 1)) ++ [(k + 2 * (i : Int), k + 2 * (i : Int) + 1)] := by rw [List.range_succ, List.map_append]; rfl
  generalize hM : ((List.range i).map fun i : Nat => (k + 2 * (i : Int), k + 2 * (i : Int) + 1)) = M at *
  refine ⟨fun h1 => ?_, fun h1 => ?_⟩
  · have hd := List.drop_eq_getElem_cons (show i < l.length by omega)
    rw [hd]
    refine ⟨h1, by omega, fun a b hab => ⟨h1, by omega, fun a' b' hab' => ⟨i + 1, ⟨⟨?_, by rw [w64 (by omega) (by omega)]; simp⟩, ?_⟩, by omega, by omega⟩⟩⟩
    · rw [w64 (n := k + 2 * (i : Int) + 1) (by omega) (by omega), w64 (by omega) (by omega)]; omega
    · rw [List.set_cons_zero, List.getElem?_append_right (by omega), hlen] at hab'
      simp only [Nat.sub_self, List.getElem?_cons_zero, Option.some.injEq, Prod.mk.injEq] at hab'
      rw [w64 (by omega) (by omega), ← hab'.1, hsnoc]
      simp
      rw [hd, List.set_cons_zero]
  · have : i = l.length := by omega
    subst this
    simp [← hM]
/-! marks on patterns -/
theorem s_markN (k : Int) : SpG Tryd.prog 24 [.nil 0, vi k] [] (vi k) [] := by
  refine sg_of (m := no) mixed Tryd.func24 k24 ?_
  simp -dsimp [q]
  refine awp_it (true :: true :: false :: false :: false :: true :: []) (fun i : Nat => [(5, vi i)]) (fun i => []) (fun i => i = 0) (fun i => 0) 0 ?_
  intro s0 e
  simp -dsimp at e
  subst e
  refine ⟨?_, ?_⟩
  · simp
  rintro i rfl
  simp -dsimp
theorem s_heldN (k : Int) : SpG Tryd.prog 25 [.nil 0, vi k] [] (vi k) [] := by
  refine sg_of (m := no) mixed Tryd.func25 k25 ?_
  simp -dsimp [q]
  refine awp_it (true :: true :: false :: false :: false :: true :: []) (fun i : Nat => [(5, vi i)]) (fun i => []) (fun i => i = 0) (fun i => 0) 0 ?_
  intro s0 e
  simp -dsimp at e
  subst e
  refine ⟨?_, ?_⟩
  · simp
  rintro i rfl
  simp -dsimp
theorem mkV_get {k : Int} {n i : Nat} (h : i < n) : (mkV k n)[i]? = some (k + 2 * i, k + 2 * i + 1) := by
  simp [mkV, h]
theorem s_heldVS (l : List (Int × Int)) (k : Int) (t : Nat) (hx : l.length ≤ 1048576) (hk : 0 ≤ k ∧ k ≤ 1000000000) (hh : l = mkV k l.length) : SpG Tryd.prog 31 [.sli 0, vi k] [.row 2 t (vs l)] (vi (k + 2 * l.length)) [.row 2 t (vs l)] := by
  refine sg_of (m := no) mixed Tryd.func31 k31 ?_
  simp -dsimp [q]
  refine awp_it (true :: true :: false :: false :: false :: true :: []) (fun i : Nat => [(1, vi (k + 2 * i)), (5, vi i)]) (fun i => []) (fun i => i ≤ l.length) (fun i => l.length - i) 0 ?_
  intro s0 e
  simp -dsimp at e
  subst e
  refine ⟨?_, ?_⟩
  · simp
  intro i hi
  by_cases h1 : i < l.length
  case neg =>
    have : i = l.length := by omega
    subst this
    simp -dsimp
  have hg : l[i]? = some (k + 2 * i, k + 2 * i + 1) := by
    have := mkV_get (k := k) (n := l.length) h1
    rwa [← hh] at this
  have hg2 : (vs l)[((i : Nat) : Int).toNat]? = some (.ag [.int .i64 (k + 2 * i), .int .i64 (k + 2 * i + 1)]) := by
    rw [Int.toNat_natCast]
    simp [vs, hg, vv]
  have hg3 : (vs l)[i]? = some (.ag [.int .i64 (k + 2 * i), .int .i64 (k + 2 * i + 1)]) := by
    simp [vs, hg, vv]
  have e1 : IntKind.i64.wrap (k + 2 * (i : Int) + 1) = k + 2 * i + 1 := w64 (by omega) (by omega)
  have e2 : IntKind.i64.wrap (k + 2 * (i : Int) + 1 + 1) = k + 2 * (i + 1) := by rw [w64 (by omega) (by omega)]; omega
  have e7 : IntKind.i64.wrap ((i : Int) + 1) = (i : Int) + 1 := w64 (by omega) (by omega)
  clear hh hg
  simp -dsimp [↓hg2, ↓hg3, e1, e2, e7, h1]
  exact ⟨i + 1, ⟨by omega, by omega⟩, by omega, by omega⟩
theorem s_markVN (k : Int) : SpG Tryd.prog 30 [.nil 2, vi k] [] (vi k) [] := by
  refine sg_of (m := no) mixed Tryd.func30 k30 ?_
  simp -dsimp [q]
  refine awp_it (true :: true :: false :: false :: false :: true :: []) (fun i : Nat => [(5, vi i)]) (fun i => []) (fun i => i = 0) (fun i => 0) 0 ?_
  intro s0 e
  simp -dsimp at e
  subst e
  refine ⟨?_, ?_⟩
  · simp
  rintro i rfl
  simp -dsimp
theorem s_heldVN (k : Int) : SpG Tryd.prog 31 [.nil 2, vi k] [] (vi k) [] := by
  refine sg_of (m := no) mixed Tryd.func31 k31 ?_
  simp -dsimp [q]
  refine awp_it (true :: true :: false :: false :: false :: true :: []) (fun i : Nat => [(5, vi i)]) (fun i => []) (fun i => i = 0) (fun i => 0) 0 ?_
  intro s0 e
  simp -dsimp at e
  subst e
  refine ⟨?_, ?_⟩
  · simp
  rintro i rfl
  simp -dsimp
end Go.Proofs.YthgpjndildlgpaaDoorEv
namespace Go.Proofs.YthgpjndildlgpaaDoorEv
open Go Go.Proofs
set_option maxRecDepth 10000
set_option maxHeartbeats 2000000
theorem law_FnExactStepsOfFactors (a0 : ByteArray) (a1 : List (Int)) (wf0 : a0.size ≤ maxLen) (wf1 : (a1.length ≤ maxLen ∧ ∀ y ∈ a1, (Lit.int .i64 y).wf = true)) : Sp Tryd.prog 9 [.v (.str a0), .v (.sl 0 (a1.map fun y => .int .i64 y))] (.v (.bool true)) [] := by
  have hl := wf1.1
  rw [mLen] at wf0 hl
  clear wf1
  show Sp Tryd.prog 9 [aS a0, .v (vis a1)] (vb true) []
  have hi1 : (is a1).length = a1.length := by simp [is]
  refine sp_of (m := fun f => f == 24 || f == 30 || f == 31) mixed Tryd.func9 k9 ?_
  simp -dsimp [q, hi1]
  intro h hc'
  have hc : a1.length ≤ 1048576 := by omega
  rcases steps_both a0 a1 (by omega) hc with ⟨r, hr, hs, hi⟩ | ⟨k, hs, hi⟩
  · have hr1 : r.length ≤ 1048576 := by omega
    have hq := s_heldVS (mkV 1 r.length) 1 24 (by simp [mkV]; omega) (by omega) (by simp [mkV])
    rw [show (mkV 1 r.length).length = r.length by simp [mkV]] at hq
    repeat ((first | refine call_of (s_to a1 hc) rfl (by simp) ?_ | refine call_of (hs) rfl (by simp) ?_ | refine call_of (hi) rfl (by simp) ?_ | refine call_of (s_eqVS r r hr1) rfl (by simp) ?_ | refine call_of (s_eq a1 a1 hc) rfl (by simp) ?_ | refine callM_of rfl (s_mark a1 1 hc (by omega) 2) (by simp) ?_ | refine callM_of rfl (s_markVS r 1 _ hr1 (by omega)) (by simp) ?_ | refine callM_of rfl (hq) (by simp) ?_ | exact fp_one (by decide) | refine fp_and (by decide) ?_ | refine br_l (by omega) (by omega) ?_ | refine br_r (by omega) (by omega) ?_ | refine br_p (by omega) (by omega) ?_ | refine br_q (by omega) (by omega) ?_); try simp -dsimp)
    all_goals omega
  · repeat ((first | refine call_of (s_to a1 hc) rfl (by simp) ?_ | refine call_of (hs) rfl (by simp) ?_ | refine call_of (hi) rfl (by simp) ?_ | refine call_of (s_eqVS [] [] (by simp)) rfl (by simp) ?_ | refine call_of (s_eq a1 a1 hc) rfl (by simp) ?_ | refine callM_of rfl (s_mark a1 1 hc (by omega) 2) (by simp) ?_ | refine callM_of rfl (s_markVN 1) (by simp) ?_ | refine callM_of rfl (s_heldVN 1) (by simp) ?_ | exact fp_one (by decide) | refine fp_and (by decide) ?_ | refine br_l (by omega) (by omega) ?_ | refine br_r (by omega) (by omega) ?_ | refine br_p (by omega) (by omega) ?_ | refine br_q (by omega) (by omega) ?_); try simp -dsimp)
end Go.Proofs.YthgpjndildlgpaaDoorEv
namespace Go.Proofs.YthgpjndildlgpaaDoorEv
open Go Go.ChangeShapes Go.WideShapes Go.RowKit Go.Deep

abbrev below (W : World) : Nat → Prop := fun b => b < W.heap.size
def OpC {α : Type} (P : Program) (t : TypeId) (encs : α → List V) (wf : α → Prop) : Prop :=
  ∀ (H : Type) (enc : TypeId × Value → H) (W : World) (spare : Nat → Bool) (held : Bool) (fuel : Nat) (cs : List Value) (x : DataW H × List MemPlace),
    DataW.trod enc P W 0 spare held fuel t cs = some x → ∃ a, RepL (below W) W (encs a) cs ∧ wf a
theorem opc_int {P : Program} {t : TypeId} {k : IntKind} (hu : P.underlying t = some (.int k)) : OpC P t (fun n => [V.int k n]) (fun n => (Lit.int k n).wf = true) := by
  intro H enc W spare held fuel cs x h
  obtain ⟨n, rfl, _, hw⟩ := DataW.trod_int hu h
  exact ⟨n, ⟨_, [], rfl, rfl, rfl, rfl⟩, hw⟩
theorem opc_bool {P : Program} {t : TypeId} (hu : P.underlying t = some .bool) : OpC P t (fun b => [V.bool b]) (fun _ => True) := by
  intro H enc W spare held fuel cs x h
  obtain ⟨n, rfl, _⟩ := DataW.trod_bool hu h
  exact ⟨n, ⟨_, [], rfl, rfl, rfl, rfl⟩, trivial⟩
theorem opc_string {P : Program} {t : TypeId} (hu : P.underlying t = some .string) : OpC P t (fun s => [V.str s]) (fun s => s.size ≤ maxLen) := by
  intro H enc W spare held fuel cs x h
  obtain ⟨n, rfl, _, hs⟩ := DataW.trod_string hu h
  exact ⟨n, ⟨_, [], rfl, rfl, rfl, rfl⟩, hs⟩
theorem list_of {α : Type} {n : Nat} {p : Nat → α → Prop} (h : ∀ i, i < n → ∃ x, p i x) : ∃ l : List α, l.length = n ∧ ∀ i (hi : i < l.length), p i l[i] := by
  induction n with
  | zero => exact ⟨[], rfl, fun i hi => absurd hi (Nat.not_lt_zero _)⟩
  | succ n ih =>
    obtain ⟨l, hl, hp⟩ := ih (fun i hi => h i (Nat.lt_succ_of_lt hi))
    obtain ⟨x, hx⟩ := h n (Nat.lt_succ_self n)
    refine ⟨l ++ [x], by simp [hl], fun i hi => ?_⟩
    by_cases e : i < l.length
    · rw [List.getElem_append_left e]; exact hp i e
    · have : i = n := by simp at hi; omega
      subst this
      rw [List.getElem_append_right (by omega)]
      simpa [hl] using hx
def mkE (k : Nat) (cs : List V) : V := if k = 0 then cs.headD default else .ag cs
theorem repAt_of {S : Nat → Prop} {w : World} {Ad : Option Addr} {e : Nat} : ∀ (xs : List V) (i : Nat), (∀ j x, xs[j]? = some x → ∃ b u, Ad = some b ∧ S b.block ∧ Rep S w x u ∧ u.cells.size = cz e ∧ x.isAg = (e != 0) ∧ ∀ (k : Nat) y, u.cells[k]? = some y → w.cell? (b.add ((i + j) * cz e + k)) = some y) → RepAt S w Ad e i xs
  | [], _, _ => trivial
  | x :: xs, i, h => by
    refine ⟨by simpa using h 0 x rfl, repAt_of xs (i + 1) (fun j y hy => ?_)⟩
    obtain ⟨b, u, h1, h2, h3, h4, h5, h6⟩ := h (j + 1) y (by simpa using hy)
    exact ⟨b, u, h1, h2, h3, h4, h5, fun k z hz => by rw [show i + 1 + j = i + (j + 1) by omega]; exact h6 k z hz⟩
theorem mkE_rep {S : Nat → Prop} {w : World} {k : Nat} {ds : List V} {cs : List Value} (h : RepL S w ds cs) (hl : cs.length = cz k) : ∃ u, Rep S w (mkE k ds) u ∧ u.cells.toList = cs ∧ (mkE k ds).isAg = (k != 0) := by
  unfold mkE
  by_cases hk : k = 0
  · subst hk
    rw [if_pos rfl]
    match ds, cs, h, hl with
    | [d], [c], ⟨u, us', h1, h2, h3, h4⟩, _ =>
      cases h1
      have := h3.cellsNe h2
      exact ⟨c, h3, by rw [this.2], h2⟩
    | [], [], _, hl => cases hl
    | _ :: _ :: _, [], h, _ => obtain ⟨_, _, h1, _⟩ := h; cases h1
    | [_], [], h, _ => obtain ⟨_, _, h1, _⟩ := h; cases h1
    | [_], _ :: _ :: _, _, hl => cases hl
    | [], _ :: _, h, _ => simp [RepL] at h
    | _ :: _ :: _, [_], h, _ => obtain ⟨_, _, h1, _, _, _, _, h2, _⟩ := h; cases h1; cases h2
    | _ :: _ :: _, _ :: _ :: _, _, hl => cases hl
  · rw [if_neg hk]
    exact ⟨.agg cs.toArray, ⟨cs, rfl, h⟩, by simp [Value.cells], by simp [V.isAg, hk]⟩
theorem opc_slice {α : Type} {P : Program} {t e : TypeId} {k : Nat} {encs : α → List V} {wf : α → Prop} (hu : P.underlying t = some (.slice e)) (hk : kindOf P e = some k) (h : OpC P e encs wf) :
    OpC P t (fun l : List α => [V.sl k (l.map fun a => mkE k (encs a))]) (fun l => l.length ≤ maxLen ∧ ∀ x ∈ l, wf x) := by
  intro H enc W spare held fuel cs x hx
  have hsz : P.cellsOf e = cz k := by
    obtain ⟨_, i, _, h1, h2, _⟩ := kindOf_spec hk
    simp [Program.cellsOf, h1, h2]
  rcases open_slice hu hx with ⟨rfl, _⟩ | ⟨a, len, cap, m, n, D, Pl, rfl, _, hl, hm, hmm, _, hel⟩
  · exact ⟨[], ⟨_, [], rfl, rfl, ⟨none, 0, rfl, Nat.le_refl _, Nat.zero_le _, trivial⟩, rfl⟩, Nat.zero_le _, fun x hx => absurd hx (by simp)⟩
  · have hle : len ≤ m := by rw [hmm]; split <;> omega
    obtain ⟨l, hlen, hp⟩ := list_of (p := fun i y => ∃ cs', W.cells? 0 (a.add (i * P.cellsOf e)) (P.cellsOf e) = some cs' ∧ RepL (below W) W (encs y) cs' ∧ wf y) (n := len) (fun i hi => by
      obtain ⟨cs', h1, h2⟩ := hel i (by omega)
      obtain ⟨y, hK, hw⟩ := h H enc W spare held n cs' _ h2
      exact ⟨y, cs', h1, hK, hw⟩)
    subst hlen
    refine ⟨l, ⟨_, [], rfl, rfl, ⟨some a, cap, by simp, by simpa using hl, hm, repAt_of _ 0 (fun j x hj => ?_)⟩, rfl⟩, Nat.le_trans hl hm, fun y hy => ?_⟩
    · simp only [List.getElem?_map, Option.map_eq_some_iff] at hj
      obtain ⟨y, hj, rfl⟩ := hj
      obtain ⟨hj', rfl⟩ := List.getElem?_eq_some_iff.1 hj
      obtain ⟨cs', h1, hK, _⟩ := hp j hj'
      obtain ⟨_, hcl, hcell⟩ := World.cells?_some h1
      rw [hsz] at hcl hcell
      obtain ⟨u, h2, h3, h4⟩ := mkE_rep hK hcl
      have hus : u.cells.size = cz k := by rw [← hcl, ← h3]; simp
      have cell : ∀ (i : Nat) y, u.cells[i]? = some y → W.cell? (a.add (j * cz k + i)) = some y := by
        intro i y hy
        have hi : i < cz k := by have := (Array.getElem?_eq_some_iff.1 hy).1; omega
        have := hcell i hi
        rw [Go.Deep.add_add] at this
        rw [this, ← h3]
        simpa using hy
      refine ⟨a, u, rfl, ?_, h2, hus, h4, fun i y hy => by simpa using cell i y hy⟩
      have h0 : 0 < u.cells.size := by rw [hus]; exact cz_pos k
      have := World.block_lt_of_cell? W _ (cell 0 _ (Array.getElem?_eq_getElem h0))
      rwa [add_block] at this
    · obtain ⟨j, hj, rfl⟩ := List.mem_iff_getElem.1 hy
      obtain ⟨_, _, _, hw⟩ := hp j hj
      exact hw
theorem RepL.append {S : Nat → Prop} {w : World} : ∀ {az bs : List V} {us vs : List Value}, RepL S w az us → RepL S w bs vs → RepL S w (az ++ bs) (us ++ vs)
  | [], _, us, _, h, k => by simp only [RepL] at h; subst h; exact k
  | a :: az, _, us, vs, ⟨u, us', h1, h2, h3, h4⟩, k => by subst h1; exact ⟨u, us' ++ vs, rfl, h2, h3, h4.append k⟩
/-- The fields of a struct, from a place on. -/
def OpF {α : Type} (P : Program) (fs : List Field) (off n : Nat) (encs : α → List V) (wf : α → Prop) : Prop :=
  ∀ (H : Type) (enc : TypeId × Value → H) (W : World) (spare : Nat → Bool) (held : Bool) (fuel : Nat) (cs : List Value), cs.length = off + n →
    (∀ f ∈ fs, ∃ y, DataW.trod enc P W 0 spare held fuel f.type ((cs.drop f.offset).take (P.cellsOf f.type)) = some y) → ∃ a, RepL (below W) W (encs a) (cs.drop off) ∧ wf a
theorem opf_one {α : Type} {P : Program} {f : Field} {off n : Nat} {encs : α → List V} {wf : α → Prop} (ho : f.offset = off) (hc : P.cellsOf f.type = n) (h : OpC P f.type encs wf) : OpF P [f] off n encs wf := by
  intro H enc W spare held fuel cs hl hf
  obtain ⟨y, hy⟩ := hf f (by simp)
  rw [ho, hc, List.take_of_length_le (by rw [List.length_drop]; omega)] at hy
  exact h H enc W spare held fuel _ _ hy
theorem opf_cons {α β : Type} {P : Program} {f : Field} {fs : List Field} {off n m : Nat} {encs : α → List V} {encs1 : β → List V} {wf : α → Prop} {wf1 : β → Prop} (ho : f.offset = off) (hc : P.cellsOf f.type = n) (h : OpC P f.type encs wf) (h1 : OpF P fs (off + n) m encs1 wf1) :
    OpF P (f :: fs) off (n + m) (fun a : α × β => encs a.1 ++ encs1 a.2) (fun a => wf a.1 ∧ wf1 a.2) := by
  intro H enc W spare held fuel cs hl hf
  obtain ⟨y, hy⟩ := hf f (by simp)
  rw [ho, hc] at hy
  obtain ⟨a, hK, hw⟩ := h H enc W spare held fuel _ _ hy
  obtain ⟨b, hK1, hw1⟩ := h1 H enc W spare held fuel cs (by omega) (fun g hg => hf g (by simp [hg]))
  refine ⟨(a, b), ?_, hw, hw1⟩
  have := hK.append hK1
  rwa [← List.drop_drop, List.take_append_drop] at this
theorem opc_struct {α : Type} {P : Program} {t : TypeId} {fs : Array Field} {n : Nat} {encs : α → List V} {wf : α → Prop} (hu : P.underlying t = some (.struct fs)) (hc : P.cellsOf t = n) (h : OpF P fs.toList 0 n encs wf) : OpC P t encs wf := by
  intro H enc W spare held fuel cs x hx
  obtain ⟨xs, m, _, _, hl, hlen, hf⟩ := DataW.trod_struct hu hx
  have := h H enc W spare held m cs (by omega) (fun f hf' => by
    obtain ⟨i, hi, rfl⟩ := List.mem_iff_getElem.1 hf'
    have h2 := hf i fs.toList[i] (by simp at hi ⊢)
    rw [List.getElem?_eq_getElem (by simp at hi; omega)] at h2
    exact ⟨_, h2⟩)
  simpa using this
theorem agg_of {P : Program} {W : World} {r : Reach} {base : Nat} {t : TypeId} {fs : Array Field} {v : Value} (hu : P.underlying t = some (.struct fs)) (hv : Value.okWide P W r base t v) : ∃ cs : Array Value, v = .agg cs := by
  obtain ⟨cs, rfl, _⟩ := okWide_struct hu hv
  exact ⟨cs, rfl⟩
/-- A law's call comes back with true, and what was there is there. -/
theorem law_calls {P : Program} {f : Nat} {az : List A} (h : Sp P f az (.v (.bool true)) []) (W : World) (hT : Tbl W (fun _ => False) (below W)) (us : List Value) (hus : ARs (fun _ => none) (fun _ => (0, 0)) (below W) W az us) :
    Calls P f us.toArray W fun e w' => e = .returned (.bool true) ∧ Below W.heap.size W w' := by
  have R0 : Rl W (fun _ => False) (below W) (fun i => ([] : List Ck)[i]?) (fun _ => (0, 0)) (below W) W :=
    ⟨hT, rfl, rfl, rfl, Nat.le_refl _, fun _ _ _ => rfl, fun _ h => h, fun _ h => .inl h, fun _ h => h, fun i => trivial, fun i c hc => (by cases hc), fun i j c d hc => (by cases hc)⟩
  refine (h.2 (below W) W us (fun _ => False) (fun _ => (0, 0)) R0 hus).mono ?_
  rintro e w' ⟨u, S', μ', rfl, R, _, hu⟩
  have : u = .bool true := hu
  exact ⟨by rw [this], R.os, R.tape, R.output, R.size, fun k hk => R.keep k hk (fun h => h)⟩
theorem ar_agg {S : Nat → Prop} {w : World} {ds : List V} {cs : Array Value} (h : RepL S w ds cs.toList) : AR (fun _ => none) (fun _ => (0, 0)) S w (.v (.ag ds)) (.agg cs) := ⟨cs.toList, by simp, h⟩
theorem ar_one {S : Nat → Prop} {w : World} {d : V} {v : Value} (h : RepL S w [d] [v]) : AR (fun _ => none) (fun _ => (0, 0)) S w (.v d) v := by
  obtain ⟨u, us', h1, h2, h3, h4⟩ := h
  cases h1
  exact h3
end Go.Proofs.YthgpjndildlgpaaDoorEv
