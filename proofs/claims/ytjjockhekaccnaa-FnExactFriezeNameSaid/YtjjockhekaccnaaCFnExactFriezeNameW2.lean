/- Part of the proof of the law FnExactFriezeName: each function of the code computes what its plain function says. No condition of its own. -/
import Derived.Test.YtjjockhekaccnaaCFnExactFriezeNameW1
set_option maxHeartbeats 8000000
set_option maxRecDepth 100000
namespace Go.Proofs.Ytjjockhekaccnaa.X
open Go.RowKit Go.Proofs.YtjjockhekaccnaaW.PrintWords Go.Proofs.YtjjockhekaccnaaW.PrintLast Go.Proofs.YtjjockhekaccnaaW.PrintMore
attribute [local go_sem] max2_int min2_int max_two min_two max_three min_three max_four min_four   -- for this text's walks alone
set_option linter.unusedVariables false
set_option linter.unusedSimpArgs false
theorem yS.calls (a0 : Int) (a1 : Int) (a2 : Int) (r : Bool) (w : World) (h : yS.f a0 a1 a2 = some r) :
  Calls Try.prog 69 #[.int .i64 a0, .int .i64 a1, .int .i64 a2] w fun e w' => e = .returned (.bool r) ∧ Drawn0 w w' := by
 have H : (if a0 ≥ a1 then (some (decide (a0 ≤ a2))) else (some false)) = some r := h
 clear h
 by_cases c4 : a0 ≥ a1
 ·
  rw [if_pos c4] at H
  have c4b0 : decide (a1 ≤ a0) = true := decide_eq_true c4
  clear c4
  obtain rfl := Option.some.inj H
  go_enter Try.func69, Try.ntmps69
  go_wp2
  go_ret
  exact ⟨by first | rfl | (simp; done) | (simp [*]; done), by repeat (first | exact Drawn0.refl _ | apply Drawn0.step)⟩
 ·
  rw [if_neg c4] at H
  have c4b0 : decide (a1 ≤ a0) = false := decide_eq_false c4
  clear c4
  obtain rfl := Option.some.inj H
  go_enter Try.func69, Try.ntmps69
  go_wp2
  go_ret
  exact ⟨by first | rfl | (simp; done) | (simp [*]; done), by repeat (first | exact Drawn0.refl _ | apply Drawn0.step)⟩
set_option maxHeartbeats 2000000 in
theorem IndexFunc_i64 (p : Int → Bool) (g : Nat) (lb : Array Value) (eg : ∀ args w, (callFunc g args).run Try.prog w = .ok (.enter g args) w) (A : Option Addr) (c : Nat) (xs : List Int) (w : World)
  (hp : ∀ W x, Below w.heap.size w W → Calls Try.prog g (#[.int .i64 x] ++ lb) W fun e W' => e = .returned (.bool (p x)) ∧ Below W.heap.size W W')
  (hr : Kd.C (Kd.int .i64) w A xs.length xs) :
  Calls Try.prog 119 #[.slice A xs.length c, .func (.func g) #[] lb] w fun e w' => e = .returned (.int .i64 (fidx p xs)) ∧ Below w.heap.size w w' := by
 have HR := zB.mk hr
 have HP := zB.mk hp
 have hm : xs.length ≤ 9223372036854775807 := hr.2.1
 clear hr hp
 go_enter Try.func119, Try.ntmps119
 go_wp2
 go_loopg [5, 8] xs.length (fun gg _ s8 wr => ∃ kk : Nat, kk ≤ xs.length ∧ xs.length - kk ≤ gg ∧ s8 = .int .i64 kk ∧ zB (∀ j, j < kk → p (xs.getD j 0) = false) ∧ Below w.heap.size w wr)
 case atStart => exact ⟨0, Nat.zero_le _, by omega, rfl, ⟨fun j hj => absurd hj (Nat.not_lt_zero _)⟩, Below.refl _ _⟩
 case round =>
  obtain ⟨kk, hkk, hg, rfl, AF, hB⟩ := hrel
  have HB := zB.mk hB
  clear hB
  by_cases hlt : kk < xs.length
  ·
   have hltz : (kk : Int) < (xs.length : Int) := by omega
   obtain ⟨ad, e, hx⟩ := Kd.at_int HR.out (kk : Int) (by omega) hltz
   cases e
   replace hx := (HB.out.cell (World.block_lt_of_cell? w _ hx)).trans hx
   simp only [Int.toNat_natCast] at hx
   obtain ⟨y, hy⟩ : ∃ y, rd xs (kk : Int) = y := ⟨_, rfl⟩
   rw [hy] at hx
   have HY := zB.mk hy
   clear hy
   cases hq : p y with
   | true =>
    have HQ := zB.mk hq
    clear hq
    go_wp2_with fail
    refine (HP.out _ y HB.out).mono ?_
    rintro e w' ⟨rfl, hb2⟩
    rw [HQ.out]
    have HB2 := zB.mk (HB.out.trans (hb2.mono HB.out.size))
    clear hb2
    go_wp2
    go_ret
    exact ⟨by rw [fidx_hit p xs 0 kk hlt AF.out (by have h_ := HY.out; unfold rd at h_; rw [Int.toNat_natCast] at h_; rw [h_]; exact HQ.out)]; rfl, HB2.out⟩
   | false =>
    have HQ := zB.mk hq
    clear hq
    go_wp2_with fail
    refine (HP.out _ y HB.out).mono ?_
    rintro e w' ⟨rfl, hb2⟩
    rw [HQ.out]
    have HB2 := zB.mk (HB.out.trans (hb2.mono HB.out.size))
    clear hb2
    go_wp2
    go_roundg (xs.length - (kk + 1))
    case measure => omega
    case rel => exact ⟨kk + 1, by omega, by omega, by go_num, ⟨fun j hj => by
     by_cases e : j = kk
     ·
      subst e
      have h_ := HY.out
      unfold rd at h_
      rw [Int.toNat_natCast] at h_
      rw [h_]
      exact HQ.out
     ·
      exact AF.out j (by omega)⟩, HB2.out⟩
  ·
   have hltz : ¬ (kk : Int) < (xs.length : Int) := by omega
   go_wp2
   go_ret
   exact ⟨by rw [fidx_miss p xs 0 (fun j hj => AF.out j (by omega))]; rfl, HB.out⟩
set_option maxHeartbeats 1000000 in
theorem ContainsFunc_i64 (p : Int → Bool) (g : Nat) (lb : Array Value) (eg : ∀ args w, (callFunc g args).run Try.prog w = .ok (.enter g args) w) (A : Option Addr) (c : Nat) (xs : List Int) (w : World)
  (hp : ∀ W x, Below w.heap.size w W → Calls Try.prog g (#[.int .i64 x] ++ lb) W fun e W' => e = .returned (.bool (p x)) ∧ Below W.heap.size W W')
  (hr : Kd.C (Kd.int .i64) w A xs.length xs) :
  Calls Try.prog 107 #[.slice A xs.length c, .func (.func g) #[] lb] w fun e w' => e = .returned (.bool (xs.any p)) ∧ Below w.heap.size w w' := by
 have H := zB.mk (IndexFunc_i64 p g lb eg A c xs w hp hr)
 have HN := zB.mk (fidx_nonneg p xs)
 generalize fidx p xs = r at H HN
 clear hp hr eg
 go_enter Try.func107, Try.ntmps107
 go_wp2_with fail
 refine H.out.mono ?_
 rintro e w' ⟨rfl, hb⟩
 have HB := zB.mk hb
 clear hb
 go_wp2
 go_ret
 exact ⟨by rw [← HN.out]; rfl, HB.out⟩
set_option maxHeartbeats 1000000 in
theorem impl_allWithin_1.walk (x lo hi : Int) (b c : Nat) (W : World) (hb : W.cell? ⟨b, 0, none⟩ = some (.int .i64 lo)) (hc : W.cell? ⟨c, 0, none⟩ = some (.int .i64 hi)) :
  Calls Try.prog 108 #[.int .i64 x, .pointer (some ⟨b, 0, none⟩), .pointer (some ⟨c, 0, none⟩)] W fun e W' => e = .returned (.bool (!(decide (lo ≤ x) && decide (x ≤ hi)))) ∧ Drawn0 W W' := by
 by_cases h1 : lo ≤ x
 ·
  by_cases h2 : x ≤ hi
  all_goals
   go_enter Try.func108, Try.ntmps108
   go_wp2
   go_ret
   exact ⟨by simp [h1, h2], Drawn0.refl _⟩
 ·
  go_enter Try.func108, Try.ntmps108
  go_wp2
  go_ret
  exact ⟨by simp [h1], Drawn0.refl _⟩
set_option maxHeartbeats 1000000 in
theorem yT.calls (A0 : Option Addr) (c0 : Nat) (l0 : List Int) (a1 : Int) (a2 : Int) (r : Bool) (w : World) (hr0 : Kd.C (Kd.int .i64) w A0 l0.length l0) (hc0 : l0.length ≤ c0) (h : yT.f l0 a1 a2 = some r) :
  Calls Try.prog 88 #[.slice A0 l0.length c0, .int .i64 a1, .int .i64 a2] w fun e w' => e = .returned (.bool r) ∧ Below w.heap.size w w' := by
 have HC := zB.mk (fun (W : World) (h1 : W.cell? ⟨w.heap.size, 0, none⟩ = some (.int .i64 a1)) (h2 : W.cell? ⟨w.heap.size + 1, 0, none⟩ = some (.int .i64 a2)) (hz : w.heap.size + 1 < W.heap.size) (hr : Kd.C (Kd.int .i64) W A0 l0.length l0) =>
  ContainsFunc_i64 (fun n => !(decide (a1 ≤ n) && decide (n ≤ a2))) 108 #[.pointer (some ⟨w.heap.size, 0, none⟩), .pointer (some ⟨w.heap.size + 1, 0, none⟩)] (enters_of Try.func108 (by kernel_rfl) rfl) A0 c0 l0 W
   (fun W1 x hb => (impl_allWithin_1.walk x a1 a2 _ _ W1 ((hb.cell (p := ⟨w.heap.size, 0, none⟩) (Nat.lt_of_succ_lt hz)).trans h1) ((hb.cell (p := ⟨w.heap.size + 1, 0, none⟩) hz).trans h2)).mono (fun e w' ⟨a, b⟩ => ⟨a, b.below⟩)) hr)
 have HR := zB.mk hr0
 have HE := zB.mk (show (!(l0.any fun n => !(decide (a1 ≤ n) && decide (n ≤ a2)))) = r by
  rw [← Option.some.inj h, List.not_any_eq_all_not]
  simp)
 clear hr0 hc0 h
 generalize (l0.any fun n => !(decide (a1 ≤ n) && decide (n ≤ a2))) = q at HC HE
 go_enter Try.func88, Try.ntmps88
 go_wp2_with fail
 refine (HC.out _ (by simp) (by simp) (by simp) (Kd.C_alloc (Kd.C_alloc HR.out _) _)).mono ?_
 rintro e w' ⟨rfl, hb⟩
 have HB := zB.mk ((((Below.refl _ w).alloc (Nat.le_refl _) _).alloc (by simp) _).trans (hb.mono (by simp; omega)))
 clear hb
 go_wp2
 go_ret
 exact ⟨by rw [← HE.out]; rfl, HB.out⟩
theorem yW.calls (a0_0 : Int) (a0_1 : Int) (A0_2 : Option Addr) (c0_2 : Nat) (l0_2 : List Int) (r : Bool) (w : World) (hr0_2 : Kd.C (Kd.int .i64) w A0_2 l0_2.length l0_2) (hc0_2 : l0_2.length ≤ c0_2) (h : yW.f a0_0 a0_1 l0_2 = some r) :
  Calls Try.prog 47 #[.agg #[.int .i64 a0_0, .int .i64 a0_1, .slice A0_2 l0_2.length c0_2]] w fun e w' => e = .returned (.bool r) ∧ Below w.heap.size w w' := by
 have hu28 := Try.underlying28
 have HR0_2 := zB.mk hr0_2
 have HC0_2 := zB.mk hc0_2
 clear hr0_2 hc0_2
 have HB := zB.mk (Below.refl w.heap.size w)
 have H : ((yS.f a0_0 1 6).bind fun t137 => (if t137 = true then ((yS.f a0_1 1 24).bind fun t138 => (if t138 = true then (if (l0_2.length : Int) = (wrap64 (a0_0 * a0_1)) then ((yT.f l0_2 0 9).bind fun t139 => (some t139)) else (some false)) else (some false))) else (some false))) = some r := h
 clear h
 replace H := Option.bind_eq_some_iff.mp H
 obtain ⟨t137, A20, H⟩ := H
 replace H : (if t137 = true then ((yS.f a0_1 1 24).bind fun t138 => (if t138 = true then (if (l0_2.length : Int) = (wrap64 (a0_0 * a0_1)) then ((yT.f l0_2 0 9).bind fun t139 => (some t139)) else (some false)) else (some false))) else (some false)) = some r := H
 have A2 := zB.mk A20
 clear A20
 by_cases c3 : t137 = true
 ·
  subst c3
  have H1 : ((yS.f a0_1 1 24).bind fun t138 => (if t138 = true then (if (l0_2.length : Int) = (wrap64 (a0_0 * a0_1)) then ((yT.f l0_2 0 9).bind fun t139 => (some t139)) else (some false)) else (some false))) = some r := by rw [if_pos rfl] at H; exact H
  clear H
  have H := H1
  clear H1
  replace H := Option.bind_eq_some_iff.mp H
  obtain ⟨t138, A40, H⟩ := H
  replace H : (if t138 = true then (if (l0_2.length : Int) = (wrap64 (a0_0 * a0_1)) then ((yT.f l0_2 0 9).bind fun t139 => (some t139)) else (some false)) else (some false)) = some r := H
  have A4 := zB.mk A40
  clear A40
  by_cases c5 : t138 = true
  ·
   subst c5
   have H1 : (if (l0_2.length : Int) = (wrap64 (a0_0 * a0_1)) then ((yT.f l0_2 0 9).bind fun t139 => (some t139)) else (some false)) = some r := by rw [if_pos rfl] at H; exact H
   clear H
   have H := H1
   clear H1
   by_cases c6 : (l0_2.length : Int) = (wrap64 (a0_0 * a0_1))
   ·
    rw [if_pos c6] at H
    have c6b0 : ((l0_2.length : Int) == (wrap64 (a0_0 * a0_1))) = true := beq_iff_eq.mpr c6
    have c6b1 : ((l0_2.length : Int) != (wrap64 (a0_0 * a0_1))) = false := bne_eq_false_iff_eq.mpr c6
    clear c6
    replace H := Option.bind_eq_some_iff.mp H
    obtain ⟨t139, A70, H⟩ := H
    replace H : (some t139) = some r := H
    have A7 := zB.mk A70
    clear A70
    obtain rfl := Option.some.inj H
    go_enter Try.func47, Try.ntmps47
    go_wp2_with (first | ((with_reducible refine zP (N := 1) rfl ?_); (try (refine gate_guard (by rfl) ?_; dsimp only)); refine zO ?hg (N := 1) ?hd (cs := #[.int .i64 a0_0, .int .i64 a0_1, .slice A0_2 l0_2.length c0_2]) (t := 28) ?hr ?_; (case hd => rfl); (case hg => rfl); (case hr => first | (go_simp; done) | (go_simp; rfl)); intro gb136 hg w8 hbox hb; have n0_ := zB.mk (zK (by repeat (first | (with_reducible first | exact HB.out | apply zF | apply zA | apply zE) | exact HB.out)) hb); have n1_ := zB.mk (hbox); have n2_ := zB.mk ((by rw [hg]; exact (zM (by repeat (first | (with_reducible first | exact HB.out | apply zF | apply zA | apply zE) | exact HB.out))) : w.heap.size ≤ gb136)); have n3_ := n2_; clear HB; have HB := n0_; have BK136 := n1_; have GW136 := n2_; have GE136 := n3_; clear n0_ n1_ n2_ n3_; clear hb hbox hg; have hcz9_0 : w8.cell? ⟨gb136, 0, none⟩ = some (.int .i64 a0_0) := zJ BK136.out 0; have hcz9_1 : w8.cell? ⟨gb136, 1, none⟩ = some (.int .i64 a0_1) := zJ BK136.out 1; have hcz9_2 : w8.cell? ⟨gb136, 2, none⟩ = some (.slice A0_2 l0_2.length c0_2) := zJ BK136.out 2; have hfz9_0 := zI BK136.out 0; have hfz9_1 := zI BK136.out 1; have hfz9_2 := zI BK136.out 2) | ((with_reducible refine zR (f := 69) rfl ?_); refine zV (some 5) rfl rfl Try.func69 (by kernel_rfl) rfl #[.int .i64 a0_0, .int .i64 1, .int .i64 6] rfl (by (try simp only [List.map_toArray, List.map_cons, List.map_nil]); first | done | rfl) ?_; (with_reducible refine (yS.calls a0_0 1 6 true _ A2.out).mono ?_); rintro e w' ⟨rfl, ⟨nd, rfl⟩⟩; refine ⟨_, rfl, ?_⟩) | (go_at_call 69; (with_reducible refine (yS.calls a0_1 1 24 true _ A4.out).mono ?_); rintro e w' ⟨rfl, ⟨nd, rfl⟩⟩) | (go_at_call 88; (with_reducible refine (yT.calls _ _ l0_2 0 9 t139 _ ?side1 ?side2 A7.out).mono ?_); (case side1 => repeat (first | exact (Kd.C_below HR0_2.out (by repeat (first | (with_reducible first | exact HB.out | apply zF | apply zA | apply zE | refine zH ?_ GE136.out) | exact HB.out))) | (with_reducible refine Kd.C_alloc ?_ _) | (with_reducible refine Kd.C_drewN ?_ _) | (with_reducible refine Kd.C_drew ?_))); (case side2 => exact HC0_2.out); rintro e w10 ⟨rfl, hb⟩; have n0_ := zB.mk (zN (g := gb136) (o := .cells #[.int .i64 a0_0, .int .i64 a0_1, .slice A0_2 l0_2.length c0_2] 28 (0, 0)) (by (with_reducible repeat (first | refine zC ?_ _ | refine zG ?_ | refine zD ?_ _)); exact BK136.out) hb); have n1_ := zB.mk (zK (by repeat (first | (with_reducible first | exact HB.out | apply zF | apply zA | apply zE | refine zH ?_ GE136.out) | exact HB.out)) hb); clear BK136; clear HB; have BK136 := n0_; have HB := n1_; clear n0_ n1_; (try clear hb)))
    go_ret
    exact ⟨by first | rfl | (simp [*, errW_none, errW_some] <;> rfl), by repeat (first | (with_reducible first | exact HB.out | apply zF | apply zA | apply zE | refine zH ?_ GE136.out) | exact HB.out)⟩
   ·
    rw [if_neg c6] at H
    have c6b0 : ((l0_2.length : Int) == (wrap64 (a0_0 * a0_1))) = false := beq_eq_false_iff_ne.mpr c6
    have c6b1 : ((l0_2.length : Int) != (wrap64 (a0_0 * a0_1))) = true := bne_iff_ne.mpr c6
    obtain rfl := Option.some.inj H
    go_enter Try.func47, Try.ntmps47
    go_wp2_with (first | ((with_reducible refine zP (N := 1) rfl ?_); (try (refine gate_guard (by rfl) ?_; dsimp only)); refine zO ?hg (N := 1) ?hd (cs := #[.int .i64 a0_0, .int .i64 a0_1, .slice A0_2 l0_2.length c0_2]) (t := 28) ?hr ?_; (case hd => rfl); (case hg => rfl); (case hr => first | (go_simp; done) | (go_simp; rfl)); intro gb136 hg w11 hbox hb; have n0_ := zB.mk (zK (by repeat (first | (with_reducible first | exact HB.out | apply zF | apply zA | apply zE) | exact HB.out)) hb); have n1_ := zB.mk (hbox); have n2_ := zB.mk ((by rw [hg]; exact (zM (by repeat (first | (with_reducible first | exact HB.out | apply zF | apply zA | apply zE) | exact HB.out))) : w.heap.size ≤ gb136)); have n3_ := n2_; clear HB; have HB := n0_; have BK136 := n1_; have GW136 := n2_; have GE136 := n3_; clear n0_ n1_ n2_ n3_; clear hb hbox hg; have hcz12_0 : w11.cell? ⟨gb136, 0, none⟩ = some (.int .i64 a0_0) := zJ BK136.out 0; have hcz12_1 : w11.cell? ⟨gb136, 1, none⟩ = some (.int .i64 a0_1) := zJ BK136.out 1; have hcz12_2 : w11.cell? ⟨gb136, 2, none⟩ = some (.slice A0_2 l0_2.length c0_2) := zJ BK136.out 2; have hfz12_0 := zI BK136.out 0; have hfz12_1 := zI BK136.out 1; have hfz12_2 := zI BK136.out 2) | ((with_reducible refine zR (f := 69) rfl ?_); refine zV (some 5) rfl rfl Try.func69 (by kernel_rfl) rfl #[.int .i64 a0_0, .int .i64 1, .int .i64 6] rfl (by (try simp only [List.map_toArray, List.map_cons, List.map_nil]); first | done | rfl) ?_; (with_reducible refine (yS.calls a0_0 1 6 true _ A2.out).mono ?_); rintro e w' ⟨rfl, ⟨nd, rfl⟩⟩; refine ⟨_, rfl, ?_⟩) | (go_at_call 69; (with_reducible refine (yS.calls a0_1 1 24 true _ A4.out).mono ?_); rintro e w' ⟨rfl, ⟨nd, rfl⟩⟩))
    go_ret
    exact ⟨by first | rfl | (simp [*, errW_none, errW_some] <;> rfl), by repeat (first | (with_reducible first | exact HB.out | apply zF | apply zA | apply zE | refine zH ?_ GE136.out) | exact HB.out)⟩
  ·
   replace c5 := Bool.eq_false_iff.mpr c5
   subst c5
   have H1 : (some false) = some r := by rw [if_neg (show ¬ (false = true) by decide)] at H; exact H
   clear H
   have H := H1
   clear H1
   obtain rfl := Option.some.inj H
   go_enter Try.func47, Try.ntmps47
   go_wp2_with (first | ((with_reducible refine zP (N := 1) rfl ?_); (try (refine gate_guard (by rfl) ?_; dsimp only)); refine zO ?hg (N := 1) ?hd (cs := #[.int .i64 a0_0, .int .i64 a0_1, .slice A0_2 l0_2.length c0_2]) (t := 28) ?hr ?_; (case hd => rfl); (case hg => rfl); (case hr => first | (go_simp; done) | (go_simp; rfl)); intro gb136 hg w13 hbox hb; have n0_ := zB.mk (zK (by repeat (first | (with_reducible first | exact HB.out | apply zF | apply zA | apply zE) | exact HB.out)) hb); have n1_ := zB.mk (hbox); have n2_ := zB.mk ((by rw [hg]; exact (zM (by repeat (first | (with_reducible first | exact HB.out | apply zF | apply zA | apply zE) | exact HB.out))) : w.heap.size ≤ gb136)); have n3_ := n2_; clear HB; have HB := n0_; have BK136 := n1_; have GW136 := n2_; have GE136 := n3_; clear n0_ n1_ n2_ n3_; clear hb hbox hg; have hcz14_0 : w13.cell? ⟨gb136, 0, none⟩ = some (.int .i64 a0_0) := zJ BK136.out 0; have hcz14_1 : w13.cell? ⟨gb136, 1, none⟩ = some (.int .i64 a0_1) := zJ BK136.out 1; have hcz14_2 : w13.cell? ⟨gb136, 2, none⟩ = some (.slice A0_2 l0_2.length c0_2) := zJ BK136.out 2; have hfz14_0 := zI BK136.out 0; have hfz14_1 := zI BK136.out 1; have hfz14_2 := zI BK136.out 2) | ((with_reducible refine zR (f := 69) rfl ?_); refine zV (some 5) rfl rfl Try.func69 (by kernel_rfl) rfl #[.int .i64 a0_0, .int .i64 1, .int .i64 6] rfl (by (try simp only [List.map_toArray, List.map_cons, List.map_nil]); first | done | rfl) ?_; (with_reducible refine (yS.calls a0_0 1 6 true _ A2.out).mono ?_); rintro e w' ⟨rfl, ⟨nd, rfl⟩⟩; refine ⟨_, rfl, ?_⟩) | (go_at_call 69; (with_reducible refine (yS.calls a0_1 1 24 false _ A4.out).mono ?_); rintro e w' ⟨rfl, ⟨nd, rfl⟩⟩))
   go_ret
   exact ⟨by first | rfl | (simp [*, errW_none, errW_some] <;> rfl), by repeat (first | (with_reducible first | exact HB.out | apply zF | apply zA | apply zE | refine zH ?_ GE136.out) | exact HB.out)⟩
 ·
  replace c3 := Bool.eq_false_iff.mpr c3
  subst c3
  have H1 : (some false) = some r := by rw [if_neg (show ¬ (false = true) by decide)] at H; exact H
  clear H
  have H := H1
  clear H1
  obtain rfl := Option.some.inj H
  go_enter Try.func47, Try.ntmps47
  go_wp2_with (first | ((with_reducible refine zP (N := 1) rfl ?_); (try (refine gate_guard (by rfl) ?_; dsimp only)); refine zO ?hg (N := 1) ?hd (cs := #[.int .i64 a0_0, .int .i64 a0_1, .slice A0_2 l0_2.length c0_2]) (t := 28) ?hr ?_; (case hd => rfl); (case hg => rfl); (case hr => first | (go_simp; done) | (go_simp; rfl)); intro gb136 hg w15 hbox hb; have n0_ := zB.mk (zK (by repeat (first | (with_reducible first | exact HB.out | apply zF | apply zA | apply zE) | exact HB.out)) hb); have n1_ := zB.mk (hbox); have n2_ := zB.mk ((by rw [hg]; exact (zM (by repeat (first | (with_reducible first | exact HB.out | apply zF | apply zA | apply zE) | exact HB.out))) : w.heap.size ≤ gb136)); have n3_ := n2_; clear HB; have HB := n0_; have BK136 := n1_; have GW136 := n2_; have GE136 := n3_; clear n0_ n1_ n2_ n3_; clear hb hbox hg; have hcz16_0 : w15.cell? ⟨gb136, 0, none⟩ = some (.int .i64 a0_0) := zJ BK136.out 0; have hcz16_1 : w15.cell? ⟨gb136, 1, none⟩ = some (.int .i64 a0_1) := zJ BK136.out 1; have hcz16_2 : w15.cell? ⟨gb136, 2, none⟩ = some (.slice A0_2 l0_2.length c0_2) := zJ BK136.out 2; have hfz16_0 := zI BK136.out 0; have hfz16_1 := zI BK136.out 1; have hfz16_2 := zI BK136.out 2) | ((with_reducible refine zR (f := 69) rfl ?_); refine zV (some 5) rfl rfl Try.func69 (by kernel_rfl) rfl #[.int .i64 a0_0, .int .i64 1, .int .i64 6] rfl (by (try simp only [List.map_toArray, List.map_cons, List.map_nil]); first | done | rfl) ?_; (with_reducible refine (yS.calls a0_0 1 6 false _ A2.out).mono ?_); rintro e w' ⟨rfl, ⟨nd, rfl⟩⟩; refine ⟨_, rfl, ?_⟩))
  go_ret
  exact ⟨by first | rfl | (simp [*, errW_none, errW_some] <;> rfl), by repeat (first | (with_reducible first | exact HB.out | apply zF | apply zA | apply zE | refine zH ?_ GE136.out) | exact HB.out)⟩
theorem yR.calls (a0 : Int) (a1 : Int) (r : Int) (w : World) (h : yR.f a0 a1 = some r) :
  Calls Try.prog 105 #[.int .i64 a0, .int .i64 a1] w fun e w' => e = .returned (.int .i64 r) ∧ Drawn0 w w' := by
 have H : (if a1 = 0 then (none) else (some (Int.tmod (wrap64 ((Int.tmod a0 a1) + a1)) a1))) = some r := h
 clear h
 by_cases c3 : a1 = 0
 ·
  rw [if_pos c3] at H
  exact absurd H (by simp)
 ·
  rw [if_neg c3] at H
  have c3b0 : (a1 == 0) = false := beq_eq_false_iff_ne.mpr c3
  have c3b1 : (a1 != 0) = true := bne_iff_ne.mpr c3
  obtain rfl := Option.some.inj H
  go_enter Try.func105, Try.ntmps105
  go_wp2
  go_ret
  exact ⟨by first | rfl | (simp; done) | (simp [*]; done), by repeat (first | exact Drawn0.refl _ | apply Drawn0.step)⟩
theorem yV.calls (a0_0 : Int) (a0_1 : Int) (A0_2 : Option Addr) (c0_2 : Nat) (l0_2 : List Int) (a1_0 : Bool) (a1_1 : Bool) (a1_2 : Int) (a2 : Int) (a3 : Int) (r1 : Int) (r2 : Int) (w : World) (hr0_2 : Kd.C (Kd.int .i64) w A0_2 l0_2.length l0_2) (hc0_2 : l0_2.length ≤ c0_2) (h : yV.f a0_0 a0_1 l0_2 a1_0 a1_1 a1_2 a2 a3 = some (r1, r2)) :
  Calls Try.prog 70 #[.agg #[.int .i64 a0_0, .int .i64 a0_1, .slice A0_2 l0_2.length c0_2], .agg #[.bool a1_0, .bool a1_1, .int .i64 a1_2], .int .i64 a2, .int .i64 a3] w fun e w' => e = .returned (.tuple #[.int .i64 r1, .int .i64 r2]) ∧ Below w.heap.size w w' := by
 have hu28 := Try.underlying28
 have hu36 := Try.underlying36
 have HR0_2 := zB.mk hr0_2
 have HC0_2 := zB.mk hc0_2
 clear hr0_2 hc0_2
 have HB := zB.mk (Below.refl w.heap.size w)
 have H : (if a1_0 = true then (if a1_1 = true then ((yR.f (wrap64 ((wrap64 (-a2)) + a1_2)) a0_1).bind fun t142 => (some (t142, wrap64 ((wrap64 (a0_0 - 1)) - a3)))) else ((yR.f (wrap64 ((wrap64 (-a2)) + a1_2)) a0_1).bind fun t143 => (some (t143, a3)))) else (if a1_1 = true then ((yR.f (wrap64 (a2 + a1_2)) a0_1).bind fun t144 => (some (t144, wrap64 ((wrap64 (a0_0 - 1)) - a3)))) else ((yR.f (wrap64 (a2 + a1_2)) a0_1).bind fun t145 => (some (t145, a3))))) = some (r1, r2) := h
 clear h
 by_cases c5 : a1_0 = true
 ·
  subst c5
  have H1 : (if a1_1 = true then ((yR.f (wrap64 ((wrap64 (-a2)) + a1_2)) a0_1).bind fun t142 => (some (t142, wrap64 ((wrap64 (a0_0 - 1)) - a3)))) else ((yR.f (wrap64 ((wrap64 (-a2)) + a1_2)) a0_1).bind fun t143 => (some (t143, a3)))) = some (r1, r2) := by rw [if_pos rfl] at H; exact H
  clear H
  have H := H1
  clear H1
  by_cases c6 : a1_1 = true
  ·
   subst c6
   have H1 : ((yR.f (wrap64 ((wrap64 (-a2)) + a1_2)) a0_1).bind fun t142 => (some (t142, wrap64 ((wrap64 (a0_0 - 1)) - a3)))) = some (r1, r2) := by rw [if_pos rfl] at H; exact H
   clear H
   have H := H1
   clear H1
   replace H := Option.bind_eq_some_iff.mp H
   obtain ⟨t142, A70, H⟩ := H
   replace H : (some (t142, wrap64 ((wrap64 (a0_0 - 1)) - a3))) = some (r1, r2) := H
   have A7 := zB.mk A70
   clear A70
   simp only [Option.some.injEq, Prod.mk.injEq] at H
   obtain ⟨rfl, rfl⟩ := H
   go_enter Try.func70, Try.ntmps70
   go_wp2_with (first | ((with_reducible refine zP (N := 4) rfl ?_); refine zO ?hg (N := 4) ?hd (cs := #[.int .i64 a0_0, .int .i64 a0_1, .slice A0_2 l0_2.length c0_2]) (t := 28) ?hr ?_; (case hd => rfl); (case hg => rfl); (case hr => first | (go_simp; done) | (go_simp; rfl)); intro gb140 hg w8 hbox hb; have n0_ := zB.mk (zK (by repeat (first | (with_reducible first | exact HB.out | apply zF | apply zA | apply zE) | exact HB.out)) hb); have n1_ := zB.mk (hbox); have n2_ := zB.mk ((by rw [hg]; exact (zM (by repeat (first | (with_reducible first | exact HB.out | apply zF | apply zA | apply zE) | exact HB.out))) : w.heap.size ≤ gb140)); have n3_ := n2_; clear HB; have HB := n0_; have BK140 := n1_; have GW140 := n2_; have GE140 := n3_; clear n0_ n1_ n2_ n3_; clear hb hbox hg) | ((with_reducible refine zP (N := 5) rfl ?_); refine zO ?hg (N := 5) ?hd (cs := #[.bool true, .bool true, .int .i64 a1_2]) (t := 36) ?hr ?_; (case hd => rfl); (case hg => rfl); (case hr => first | (go_simp; done) | (go_simp; rfl)); intro gb141 hg w9 hbox hb; have n0_ := zB.mk (zN (g := gb140) (o := .cells #[.int .i64 a0_0, .int .i64 a0_1, .slice A0_2 l0_2.length c0_2] 28 (0, 0)) (by (with_reducible repeat (first | refine zC ?_ _ | refine zG ?_ | refine zD ?_ _)); exact BK140.out) hb); have n1_ := zB.mk (zK (by repeat (first | (with_reducible first | exact HB.out | apply zF | apply zA | apply zE | refine zH ?_ GE140.out) | exact HB.out)) hb); have n2_ := zB.mk (hbox); have n3_ := zB.mk ((by rw [hg]; exact (zM (by repeat (first | (with_reducible first | exact HB.out | apply zF | apply zA | apply zE | refine zH ?_ GE140.out) | exact HB.out))) : w.heap.size ≤ gb141)); have n4_ := n3_; have n5_ := zB.mk ((by rw [hg]; exact Nat.ne_of_lt (zQ (by (with_reducible repeat (first | refine zC ?_ _ | refine zG ?_ | refine zD ?_ _)); exact BK140.out)) : gb140 ≠ gb141)); have n6_ := zB.mk n5_.out.symm; clear BK140; clear HB; have BK140 := n0_; have HB := n1_; have BK141 := n2_; have GW141 := n3_; have GE141 := n4_; have NB140_141 := n5_; have NB141_140 := n6_; clear n0_ n1_ n2_ n3_ n4_ n5_ n6_; clear hb hbox hg; have hnb10 := NB141_140.out; have hnc10 := NB140_141.out; have hcz11_0 : w9.cell? ⟨gb141, 0, none⟩ = some (.bool true) := zJ BK141.out 0; have hcz11_1 : w9.cell? ⟨gb141, 1, none⟩ = some (.bool true) := zJ BK141.out 1; have hcz11_2 : w9.cell? ⟨gb141, 2, none⟩ = some (.int .i64 a1_2) := zJ BK141.out 2; have hfz11_0 := zI BK141.out 0; have hfz11_1 := zI BK141.out 1; have hfz11_2 := zI BK141.out 2; have hcz12_0 : w9.cell? ⟨gb140, 0, none⟩ = some (.int .i64 a0_0) := zJ BK140.out 0; have hcz12_1 : w9.cell? ⟨gb140, 1, none⟩ = some (.int .i64 a0_1) := zJ BK140.out 1; have hcz12_2 : w9.cell? ⟨gb140, 2, none⟩ = some (.slice A0_2 l0_2.length c0_2) := zJ BK140.out 2; have hfz12_0 := zI BK140.out 0; have hfz12_1 := zI BK140.out 1; have hfz12_2 := zI BK140.out 2) | ((with_reducible refine zR (f := 105) rfl ?_); refine zV (some 27) rfl rfl Try.func105 (by kernel_rfl) rfl #[.int .i64 (wrap64 ((wrap64 (-a2)) + a1_2)), .int .i64 a0_1] rfl (by (try simp only [List.map_toArray, List.map_cons, List.map_nil]); first | done | rfl) ?_; (with_reducible refine (yR.calls (wrap64 ((wrap64 (-a2)) + a1_2)) a0_1 t142 _ A7.out).mono ?_); rintro e w' ⟨rfl, ⟨nd, rfl⟩⟩; refine ⟨_, rfl, ?_⟩))
   go_ret2
   exact ⟨by first | rfl | (simp [*, errW_none, errW_some] <;> rfl), by repeat (first | (with_reducible first | exact HB.out | apply zF | apply zA | apply zE | refine zH ?_ GE140.out | refine zH ?_ GE141.out) | exact HB.out)⟩
  ·
   replace c6 := Bool.eq_false_iff.mpr c6
   subst c6
   have H1 : ((yR.f (wrap64 ((wrap64 (-a2)) + a1_2)) a0_1).bind fun t143 => (some (t143, a3))) = some (r1, r2) := by rw [if_neg (show ¬ (false = true) by decide)] at H; exact H
   clear H
   have H := H1
   clear H1
   replace H := Option.bind_eq_some_iff.mp H
   obtain ⟨t143, A130, H⟩ := H
   replace H : (some (t143, a3)) = some (r1, r2) := H
   have A13 := zB.mk A130
   clear A130
   simp only [Option.some.injEq, Prod.mk.injEq] at H
   obtain ⟨rfl, rfl⟩ := H
   go_enter Try.func70, Try.ntmps70
   go_wp2_with (first | ((with_reducible refine zP (N := 4) rfl ?_); refine zO ?hg (N := 4) ?hd (cs := #[.int .i64 a0_0, .int .i64 a0_1, .slice A0_2 l0_2.length c0_2]) (t := 28) ?hr ?_; (case hd => rfl); (case hg => rfl); (case hr => first | (go_simp; done) | (go_simp; rfl)); intro gb140 hg w14 hbox hb; have n0_ := zB.mk (zK (by repeat (first | (with_reducible first | exact HB.out | apply zF | apply zA | apply zE) | exact HB.out)) hb); have n1_ := zB.mk (hbox); have n2_ := zB.mk ((by rw [hg]; exact (zM (by repeat (first | (with_reducible first | exact HB.out | apply zF | apply zA | apply zE) | exact HB.out))) : w.heap.size ≤ gb140)); have n3_ := n2_; clear HB; have HB := n0_; have BK140 := n1_; have GW140 := n2_; have GE140 := n3_; clear n0_ n1_ n2_ n3_; clear hb hbox hg) | ((with_reducible refine zP (N := 5) rfl ?_); refine zO ?hg (N := 5) ?hd (cs := #[.bool true, .bool false, .int .i64 a1_2]) (t := 36) ?hr ?_; (case hd => rfl); (case hg => rfl); (case hr => first | (go_simp; done) | (go_simp; rfl)); intro gb141 hg w15 hbox hb; have n0_ := zB.mk (zN (g := gb140) (o := .cells #[.int .i64 a0_0, .int .i64 a0_1, .slice A0_2 l0_2.length c0_2] 28 (0, 0)) (by (with_reducible repeat (first | refine zC ?_ _ | refine zG ?_ | refine zD ?_ _)); exact BK140.out) hb); have n1_ := zB.mk (zK (by repeat (first | (with_reducible first | exact HB.out | apply zF | apply zA | apply zE | refine zH ?_ GE140.out) | exact HB.out)) hb); have n2_ := zB.mk (hbox); have n3_ := zB.mk ((by rw [hg]; exact (zM (by repeat (first | (with_reducible first | exact HB.out | apply zF | apply zA | apply zE | refine zH ?_ GE140.out) | exact HB.out))) : w.heap.size ≤ gb141)); have n4_ := n3_; have n5_ := zB.mk ((by rw [hg]; exact Nat.ne_of_lt (zQ (by (with_reducible repeat (first | refine zC ?_ _ | refine zG ?_ | refine zD ?_ _)); exact BK140.out)) : gb140 ≠ gb141)); have n6_ := zB.mk n5_.out.symm; clear BK140; clear HB; have BK140 := n0_; have HB := n1_; have BK141 := n2_; have GW141 := n3_; have GE141 := n4_; have NB140_141 := n5_; have NB141_140 := n6_; clear n0_ n1_ n2_ n3_ n4_ n5_ n6_; clear hb hbox hg; have hnb16 := NB141_140.out; have hnc16 := NB140_141.out; have hcz17_0 : w15.cell? ⟨gb141, 0, none⟩ = some (.bool true) := zJ BK141.out 0; have hcz17_1 : w15.cell? ⟨gb141, 1, none⟩ = some (.bool false) := zJ BK141.out 1; have hcz17_2 : w15.cell? ⟨gb141, 2, none⟩ = some (.int .i64 a1_2) := zJ BK141.out 2; have hfz17_0 := zI BK141.out 0; have hfz17_1 := zI BK141.out 1; have hfz17_2 := zI BK141.out 2; have hcz18_0 : w15.cell? ⟨gb140, 0, none⟩ = some (.int .i64 a0_0) := zJ BK140.out 0; have hcz18_1 : w15.cell? ⟨gb140, 1, none⟩ = some (.int .i64 a0_1) := zJ BK140.out 1; have hcz18_2 : w15.cell? ⟨gb140, 2, none⟩ = some (.slice A0_2 l0_2.length c0_2) := zJ BK140.out 2; have hfz18_0 := zI BK140.out 0; have hfz18_1 := zI BK140.out 1; have hfz18_2 := zI BK140.out 2) | ((with_reducible refine zR (f := 105) rfl ?_); refine zV (some 27) rfl rfl Try.func105 (by kernel_rfl) rfl #[.int .i64 (wrap64 ((wrap64 (-a2)) + a1_2)), .int .i64 a0_1] rfl (by (try simp only [List.map_toArray, List.map_cons, List.map_nil]); first | done | rfl) ?_; (with_reducible refine (yR.calls (wrap64 ((wrap64 (-a2)) + a1_2)) a0_1 t143 _ A13.out).mono ?_); rintro e w' ⟨rfl, ⟨nd, rfl⟩⟩; refine ⟨_, rfl, ?_⟩))
   go_ret2
   exact ⟨by first | rfl | (simp [*, errW_none, errW_some] <;> rfl), by repeat (first | (with_reducible first | exact HB.out | apply zF | apply zA | apply zE | refine zH ?_ GE140.out | refine zH ?_ GE141.out) | exact HB.out)⟩
 ·
  replace c5 := Bool.eq_false_iff.mpr c5
  subst c5
  have H1 : (if a1_1 = true then ((yR.f (wrap64 (a2 + a1_2)) a0_1).bind fun t144 => (some (t144, wrap64 ((wrap64 (a0_0 - 1)) - a3)))) else ((yR.f (wrap64 (a2 + a1_2)) a0_1).bind fun t145 => (some (t145, a3)))) = some (r1, r2) := by rw [if_neg (show ¬ (false = true) by decide)] at H; exact H
  clear H
  have H := H1
  clear H1
  by_cases c19 : a1_1 = true
  ·
   subst c19
   have H1 : ((yR.f (wrap64 (a2 + a1_2)) a0_1).bind fun t144 => (some (t144, wrap64 ((wrap64 (a0_0 - 1)) - a3)))) = some (r1, r2) := by rw [if_pos rfl] at H; exact H
   clear H
   have H := H1
   clear H1
   replace H := Option.bind_eq_some_iff.mp H
   obtain ⟨t144, A200, H⟩ := H
   replace H : (some (t144, wrap64 ((wrap64 (a0_0 - 1)) - a3))) = some (r1, r2) := H
   have A20 := zB.mk A200
   clear A200
   simp only [Option.some.injEq, Prod.mk.injEq] at H
   obtain ⟨rfl, rfl⟩ := H
   go_enter Try.func70, Try.ntmps70
   go_wp2_with (first | ((with_reducible refine zP (N := 4) rfl ?_); refine zO ?hg (N := 4) ?hd (cs := #[.int .i64 a0_0, .int .i64 a0_1, .slice A0_2 l0_2.length c0_2]) (t := 28) ?hr ?_; (case hd => rfl); (case hg => rfl); (case hr => first | (go_simp; done) | (go_simp; rfl)); intro gb140 hg w21 hbox hb; have n0_ := zB.mk (zK (by repeat (first | (with_reducible first | exact HB.out | apply zF | apply zA | apply zE) | exact HB.out)) hb); have n1_ := zB.mk (hbox); have n2_ := zB.mk ((by rw [hg]; exact (zM (by repeat (first | (with_reducible first | exact HB.out | apply zF | apply zA | apply zE) | exact HB.out))) : w.heap.size ≤ gb140)); have n3_ := n2_; clear HB; have HB := n0_; have BK140 := n1_; have GW140 := n2_; have GE140 := n3_; clear n0_ n1_ n2_ n3_; clear hb hbox hg) | ((with_reducible refine zP (N := 5) rfl ?_); refine zO ?hg (N := 5) ?hd (cs := #[.bool false, .bool true, .int .i64 a1_2]) (t := 36) ?hr ?_; (case hd => rfl); (case hg => rfl); (case hr => first | (go_simp; done) | (go_simp; rfl)); intro gb141 hg w22 hbox hb; have n0_ := zB.mk (zN (g := gb140) (o := .cells #[.int .i64 a0_0, .int .i64 a0_1, .slice A0_2 l0_2.length c0_2] 28 (0, 0)) (by (with_reducible repeat (first | refine zC ?_ _ | refine zG ?_ | refine zD ?_ _)); exact BK140.out) hb); have n1_ := zB.mk (zK (by repeat (first | (with_reducible first | exact HB.out | apply zF | apply zA | apply zE | refine zH ?_ GE140.out) | exact HB.out)) hb); have n2_ := zB.mk (hbox); have n3_ := zB.mk ((by rw [hg]; exact (zM (by repeat (first | (with_reducible first | exact HB.out | apply zF | apply zA | apply zE | refine zH ?_ GE140.out) | exact HB.out))) : w.heap.size ≤ gb141)); have n4_ := n3_; have n5_ := zB.mk ((by rw [hg]; exact Nat.ne_of_lt (zQ (by (with_reducible repeat (first | refine zC ?_ _ | refine zG ?_ | refine zD ?_ _)); exact BK140.out)) : gb140 ≠ gb141)); have n6_ := zB.mk n5_.out.symm; clear BK140; clear HB; have BK140 := n0_; have HB := n1_; have BK141 := n2_; have GW141 := n3_; have GE141 := n4_; have NB140_141 := n5_; have NB141_140 := n6_; clear n0_ n1_ n2_ n3_ n4_ n5_ n6_; clear hb hbox hg; have hnb23 := NB141_140.out; have hnc23 := NB140_141.out; have hcz24_0 : w22.cell? ⟨gb141, 0, none⟩ = some (.bool false) := zJ BK141.out 0; have hcz24_1 : w22.cell? ⟨gb141, 1, none⟩ = some (.bool true) := zJ BK141.out 1; have hcz24_2 : w22.cell? ⟨gb141, 2, none⟩ = some (.int .i64 a1_2) := zJ BK141.out 2; have hfz24_0 := zI BK141.out 0; have hfz24_1 := zI BK141.out 1; have hfz24_2 := zI BK141.out 2; have hcz25_0 : w22.cell? ⟨gb140, 0, none⟩ = some (.int .i64 a0_0) := zJ BK140.out 0; have hcz25_1 : w22.cell? ⟨gb140, 1, none⟩ = some (.int .i64 a0_1) := zJ BK140.out 1; have hcz25_2 : w22.cell? ⟨gb140, 2, none⟩ = some (.slice A0_2 l0_2.length c0_2) := zJ BK140.out 2; have hfz25_0 := zI BK140.out 0; have hfz25_1 := zI BK140.out 1; have hfz25_2 := zI BK140.out 2) | ((with_reducible refine zR (f := 105) rfl ?_); refine zV (some 27) rfl rfl Try.func105 (by kernel_rfl) rfl #[.int .i64 (wrap64 (a2 + a1_2)), .int .i64 a0_1] rfl (by (try simp only [List.map_toArray, List.map_cons, List.map_nil]); first | done | rfl) ?_; (with_reducible refine (yR.calls (wrap64 (a2 + a1_2)) a0_1 t144 _ A20.out).mono ?_); rintro e w' ⟨rfl, ⟨nd, rfl⟩⟩; refine ⟨_, rfl, ?_⟩))
   go_ret2
   exact ⟨by first | rfl | (simp [*, errW_none, errW_some] <;> rfl), by repeat (first | (with_reducible first | exact HB.out | apply zF | apply zA | apply zE | refine zH ?_ GE140.out | refine zH ?_ GE141.out) | exact HB.out)⟩
  ·
   replace c19 := Bool.eq_false_iff.mpr c19
   subst c19
   have H1 : ((yR.f (wrap64 (a2 + a1_2)) a0_1).bind fun t145 => (some (t145, a3))) = some (r1, r2) := by rw [if_neg (show ¬ (false = true) by decide)] at H; exact H
   clear H
   have H := H1
   clear H1
   replace H := Option.bind_eq_some_iff.mp H
   obtain ⟨t145, A260, H⟩ := H
   replace H : (some (t145, a3)) = some (r1, r2) := H
   have A26 := zB.mk A260
   clear A260
   simp only [Option.some.injEq, Prod.mk.injEq] at H
   obtain ⟨rfl, rfl⟩ := H
   go_enter Try.func70, Try.ntmps70
   go_wp2_with (first | ((with_reducible refine zP (N := 4) rfl ?_); refine zO ?hg (N := 4) ?hd (cs := #[.int .i64 a0_0, .int .i64 a0_1, .slice A0_2 l0_2.length c0_2]) (t := 28) ?hr ?_; (case hd => rfl); (case hg => rfl); (case hr => first | (go_simp; done) | (go_simp; rfl)); intro gb140 hg w27 hbox hb; have n0_ := zB.mk (zK (by repeat (first | (with_reducible first | exact HB.out | apply zF | apply zA | apply zE) | exact HB.out)) hb); have n1_ := zB.mk (hbox); have n2_ := zB.mk ((by rw [hg]; exact (zM (by repeat (first | (with_reducible first | exact HB.out | apply zF | apply zA | apply zE) | exact HB.out))) : w.heap.size ≤ gb140)); have n3_ := n2_; clear HB; have HB := n0_; have BK140 := n1_; have GW140 := n2_; have GE140 := n3_; clear n0_ n1_ n2_ n3_; clear hb hbox hg) | ((with_reducible refine zP (N := 5) rfl ?_); refine zO ?hg (N := 5) ?hd (cs := #[.bool false, .bool false, .int .i64 a1_2]) (t := 36) ?hr ?_; (case hd => rfl); (case hg => rfl); (case hr => first | (go_simp; done) | (go_simp; rfl)); intro gb141 hg w28 hbox hb; have n0_ := zB.mk (zN (g := gb140) (o := .cells #[.int .i64 a0_0, .int .i64 a0_1, .slice A0_2 l0_2.length c0_2] 28 (0, 0)) (by (with_reducible repeat (first | refine zC ?_ _ | refine zG ?_ | refine zD ?_ _)); exact BK140.out) hb); have n1_ := zB.mk (zK (by repeat (first | (with_reducible first | exact HB.out | apply zF | apply zA | apply zE | refine zH ?_ GE140.out) | exact HB.out)) hb); have n2_ := zB.mk (hbox); have n3_ := zB.mk ((by rw [hg]; exact (zM (by repeat (first | (with_reducible first | exact HB.out | apply zF | apply zA | apply zE | refine zH ?_ GE140.out) | exact HB.out))) : w.heap.size ≤ gb141)); have n4_ := n3_; have n5_ := zB.mk ((by rw [hg]; exact Nat.ne_of_lt (zQ (by (with_reducible repeat (first | refine zC ?_ _ | refine zG ?_ | refine zD ?_ _)); exact BK140.out)) : gb140 ≠ gb141)); have n6_ := zB.mk n5_.out.symm; clear BK140; clear HB; have BK140 := n0_; have HB := n1_; have BK141 := n2_; have GW141 := n3_; have GE141 := n4_; have NB140_141 := n5_; have NB141_140 := n6_; clear n0_ n1_ n2_ n3_ n4_ n5_ n6_; clear hb hbox hg; have hnb29 := NB141_140.out; have hnc29 := NB140_141.out; have hcz30_0 : w28.cell? ⟨gb141, 0, none⟩ = some (.bool false) := zJ BK141.out 0; have hcz30_1 : w28.cell? ⟨gb141, 1, none⟩ = some (.bool false) := zJ BK141.out 1; have hcz30_2 : w28.cell? ⟨gb141, 2, none⟩ = some (.int .i64 a1_2) := zJ BK141.out 2; have hfz30_0 := zI BK141.out 0; have hfz30_1 := zI BK141.out 1; have hfz30_2 := zI BK141.out 2; have hcz31_0 : w28.cell? ⟨gb140, 0, none⟩ = some (.int .i64 a0_0) := zJ BK140.out 0; have hcz31_1 : w28.cell? ⟨gb140, 1, none⟩ = some (.int .i64 a0_1) := zJ BK140.out 1; have hcz31_2 : w28.cell? ⟨gb140, 2, none⟩ = some (.slice A0_2 l0_2.length c0_2) := zJ BK140.out 2; have hfz31_0 := zI BK140.out 0; have hfz31_1 := zI BK140.out 1; have hfz31_2 := zI BK140.out 2) | ((with_reducible refine zR (f := 105) rfl ?_); refine zV (some 27) rfl rfl Try.func105 (by kernel_rfl) rfl #[.int .i64 (wrap64 (a2 + a1_2)), .int .i64 a0_1] rfl (by (try simp only [List.map_toArray, List.map_cons, List.map_nil]); first | done | rfl) ?_; (with_reducible refine (yR.calls (wrap64 (a2 + a1_2)) a0_1 t145 _ A26.out).mono ?_); rintro e w' ⟨rfl, ⟨nd, rfl⟩⟩; refine ⟨_, rfl, ?_⟩))
   go_ret2
   exact ⟨by first | rfl | (simp [*, errW_none, errW_some] <;> rfl), by repeat (first | (with_reducible first | exact HB.out | apply zF | apply zA | apply zE | refine zH ?_ GE140.out | refine zH ?_ GE141.out) | exact HB.out)⟩
theorem yQ.calls (a0_0 : Int) (a0_1 : Int) (A0_2 : Option Addr) (c0_2 : Nat) (l0_2 : List Int) (a1 : Int) (a2 : Int) (r : Int) (w : World) (hr0_2 : Kd.C (Kd.int .i64) w A0_2 l0_2.length l0_2) (hc0_2 : l0_2.length ≤ c0_2) (h : yQ.f a0_0 a0_1 l0_2 a1 a2 = some r) :
  Calls Try.prog 71 #[.agg #[.int .i64 a0_0, .int .i64 a0_1, .slice A0_2 l0_2.length c0_2], .int .i64 a1, .int .i64 a2] w fun e w' => e = .returned (.int .i64 r) ∧ Below w.heap.size w w' := by
 have hu28 := Try.underlying28
 have HR0_2 := zB.mk hr0_2
 have HC0_2 := zB.mk hc0_2
 clear hr0_2 hc0_2
 have HB := zB.mk (Below.refl w.heap.size w)
 have H : ((yR.f a1 a0_1).bind fun t147 => (if 0 ≤ (wrap64 ((wrap64 (a2 * a0_1)) + t147)) then (if (wrap64 ((wrap64 (a2 * a0_1)) + t147)) < (l0_2.length : Int) then (some (rd l0_2 (wrap64 ((wrap64 (a2 * a0_1)) + t147)))) else (none)) else (none))) = some r := h
 clear h
 replace H := Option.bind_eq_some_iff.mp H
 obtain ⟨t147, A40, H⟩ := H
 replace H : (if 0 ≤ (wrap64 ((wrap64 (a2 * a0_1)) + t147)) then (if (wrap64 ((wrap64 (a2 * a0_1)) + t147)) < (l0_2.length : Int) then (some (rd l0_2 (wrap64 ((wrap64 (a2 * a0_1)) + t147)))) else (none)) else (none)) = some r := H
 have A4 := zB.mk A40
 clear A40
 obtain ⟨ji5, hji5⟩ : ∃ j_ : Int, (wrap64 ((wrap64 (a2 * a0_1)) + t147)) = j_ := ⟨_, rfl⟩
 replace H : (if 0 ≤ (ji5) then (if (ji5) < (l0_2.length : Int) then (some (rd l0_2 (ji5))) else (none)) else (none)) = some r := by first | (rw [hji5] at H; exact H) | (simp only [hji5] at H ⊢; exact H)
 (try rw [hji5] at A4)
 have hji5w : (IntKind.i64.wrap ((wrap64 (a2 * a0_1)) + t147)) = ji5 := (zS _).trans hji5
 by_cases c6 : 0 ≤ (ji5)
 ·
  rw [if_pos c6] at H
  have c6b0 : decide (0 ≤ (ji5)) = true := decide_eq_true c6
  clear c6
  by_cases c7 : (ji5) < (l0_2.length : Int)
  ·
   rw [if_pos c7] at H
   have c7b0 : decide ((ji5) < (l0_2.length : Int)) = true := decide_eq_true c7
   clear c7
   obtain rfl := Option.some.inj H
   go_enter Try.func71, Try.ntmps71
   go_wp2_with (first | ((with_reducible refine zP (N := 3) rfl ?_); refine zO ?hg (N := 3) ?hd (cs := #[.int .i64 a0_0, .int .i64 a0_1, .slice A0_2 l0_2.length c0_2]) (t := 28) ?hr ?_; (case hd => rfl); (case hg => rfl); (case hr => first | (go_simp; done) | (go_simp; rfl)); intro gb146 hg w8 hbox hb; have n0_ := zB.mk (zK (by repeat (first | (with_reducible first | exact HB.out | apply zF | apply zA | apply zE) | exact HB.out)) hb); have n1_ := zB.mk (hbox); have n2_ := zB.mk ((by rw [hg]; exact (zM (by repeat (first | (with_reducible first | exact HB.out | apply zF | apply zA | apply zE) | exact HB.out))) : w.heap.size ≤ gb146)); have n3_ := n2_; clear HB; have HB := n0_; have BK146 := n1_; have GW146 := n2_; have GE146 := n3_; clear n0_ n1_ n2_ n3_; clear hb hbox hg; have hcz9_0 : w8.cell? ⟨gb146, 0, none⟩ = some (.int .i64 a0_0) := zJ BK146.out 0; have hcz9_1 : w8.cell? ⟨gb146, 1, none⟩ = some (.int .i64 a0_1) := zJ BK146.out 1; have hcz9_2 : w8.cell? ⟨gb146, 2, none⟩ = some (.slice A0_2 l0_2.length c0_2) := zJ BK146.out 2; have hfz9_0 := zI BK146.out 0; have hfz9_1 := zI BK146.out 1; have hfz9_2 := zI BK146.out 2; have p148 : 0 ≤ ((ji5) : Int) := of_decide_eq_true (by first | (with_reducible assumption) | assumption); have q148 : (ji5) < (l0_2.length : Int) := of_decide_eq_true (by first | (with_reducible assumption) | assumption); obtain ⟨ad148, e148, hx148_0⟩ := Kd.at_int HR0_2.out (ji5) p148 q148; cases e148; replace hx148_0 := (HB.out.cell (World.block_lt_of_cell? w _ hx148_0)).trans hx148_0; replace p148 := eq_true p148; replace q148 := eq_true q148) | (go_at_call 105; (with_reducible refine (yR.calls a1 a0_1 t147 _ A4.out).mono ?_); rintro e w' ⟨rfl, ⟨nd, rfl⟩⟩; (try first | exact ⟨rfl, _, World.drewN_drewN _ _ _⟩ | exact ⟨rfl, _, Eq.trans (World.drewN_drewN _ _ _) (congrArg (World.drewN _) (Nat.add_assoc _ _ _))⟩)))
   repeat (go_quiet (first | ((with_reducible refine zP (N := 3) rfl ?_); refine zO ?hg (N := 3) ?hd (cs := #[.int .i64 a0_0, .int .i64 a0_1, .slice A0_2 l0_2.length c0_2]) (t := 28) ?hr ?_; (case hd => rfl); (case hg => rfl); (case hr => first | (go_simp; done) | (go_simp; rfl)); intro gb146 hg w8 hbox hb; have n0_ := zB.mk (zK (by repeat (first | (with_reducible first | exact HB.out | apply zF | apply zA | apply zE) | exact HB.out)) hb); have n1_ := zB.mk (hbox); have n2_ := zB.mk ((by rw [hg]; exact (zM (by repeat (first | (with_reducible first | exact HB.out | apply zF | apply zA | apply zE) | exact HB.out))) : w.heap.size ≤ gb146)); have n3_ := n2_; clear HB; have HB := n0_; have BK146 := n1_; have GW146 := n2_; have GE146 := n3_; clear n0_ n1_ n2_ n3_; clear hb hbox hg; have hcz9_0 : w8.cell? ⟨gb146, 0, none⟩ = some (.int .i64 a0_0) := zJ BK146.out 0; have hcz9_1 : w8.cell? ⟨gb146, 1, none⟩ = some (.int .i64 a0_1) := zJ BK146.out 1; have hcz9_2 : w8.cell? ⟨gb146, 2, none⟩ = some (.slice A0_2 l0_2.length c0_2) := zJ BK146.out 2; have hfz9_0 := zI BK146.out 0; have hfz9_1 := zI BK146.out 1; have hfz9_2 := zI BK146.out 2; have p148 : 0 ≤ ((ji5) : Int) := of_decide_eq_true (by first | (with_reducible assumption) | assumption); have q148 : (ji5) < (l0_2.length : Int) := of_decide_eq_true (by first | (with_reducible assumption) | assumption); obtain ⟨ad148, e148, hx148_0⟩ := Kd.at_int HR0_2.out (ji5) p148 q148; cases e148; replace hx148_0 := (HB.out.cell (World.block_lt_of_cell? w _ hx148_0)).trans hx148_0; replace p148 := eq_true p148; replace q148 := eq_true q148) | (go_at_call 105; (with_reducible refine (yR.calls a1 a0_1 t147 _ A4.out).mono ?_); rintro e w' ⟨rfl, ⟨nd, rfl⟩⟩; (try first | exact ⟨rfl, _, World.drewN_drewN _ _ _⟩ | exact ⟨rfl, _, Eq.trans (World.drewN_drewN _ _ _) (congrArg (World.drewN _) (Nat.add_assoc _ _ _))⟩))); try go_wp2_with (first | ((with_reducible refine zP (N := 3) rfl ?_); refine zO ?hg (N := 3) ?hd (cs := #[.int .i64 a0_0, .int .i64 a0_1, .slice A0_2 l0_2.length c0_2]) (t := 28) ?hr ?_; (case hd => rfl); (case hg => rfl); (case hr => first | (go_simp; done) | (go_simp; rfl)); intro gb146 hg w8 hbox hb; have n0_ := zB.mk (zK (by repeat (first | (with_reducible first | exact HB.out | apply zF | apply zA | apply zE) | exact HB.out)) hb); have n1_ := zB.mk (hbox); have n2_ := zB.mk ((by rw [hg]; exact (zM (by repeat (first | (with_reducible first | exact HB.out | apply zF | apply zA | apply zE) | exact HB.out))) : w.heap.size ≤ gb146)); have n3_ := n2_; clear HB; have HB := n0_; have BK146 := n1_; have GW146 := n2_; have GE146 := n3_; clear n0_ n1_ n2_ n3_; clear hb hbox hg; have hcz9_0 : w8.cell? ⟨gb146, 0, none⟩ = some (.int .i64 a0_0) := zJ BK146.out 0; have hcz9_1 : w8.cell? ⟨gb146, 1, none⟩ = some (.int .i64 a0_1) := zJ BK146.out 1; have hcz9_2 : w8.cell? ⟨gb146, 2, none⟩ = some (.slice A0_2 l0_2.length c0_2) := zJ BK146.out 2; have hfz9_0 := zI BK146.out 0; have hfz9_1 := zI BK146.out 1; have hfz9_2 := zI BK146.out 2; have p148 : 0 ≤ ((ji5) : Int) := of_decide_eq_true (by first | (with_reducible assumption) | assumption); have q148 : (ji5) < (l0_2.length : Int) := of_decide_eq_true (by first | (with_reducible assumption) | assumption); obtain ⟨ad148, e148, hx148_0⟩ := Kd.at_int HR0_2.out (ji5) p148 q148; cases e148; replace hx148_0 := (HB.out.cell (World.block_lt_of_cell? w _ hx148_0)).trans hx148_0; replace p148 := eq_true p148; replace q148 := eq_true q148) | (go_at_call 105; (with_reducible refine (yR.calls a1 a0_1 t147 _ A4.out).mono ?_); rintro e w' ⟨rfl, ⟨nd, rfl⟩⟩; (try first | exact ⟨rfl, _, World.drewN_drewN _ _ _⟩ | exact ⟨rfl, _, Eq.trans (World.drewN_drewN _ _ _) (congrArg (World.drewN _) (Nat.add_assoc _ _ _))⟩))))
   go_ret
   exact ⟨by first | rfl | (simp [errW_none, errW_some] <;> rfl) | (simp only [← hji5]; first | rfl | (simp [errW_none, errW_some] <;> rfl)) | (simp [*, errW_none, errW_some] <;> rfl), by repeat (first | (with_reducible first | exact HB.out | apply zF | apply zA | apply zE | refine zH ?_ GE146.out) | exact HB.out)⟩
  ·
   rw [if_neg c7] at H
   exact absurd H (by simp)
 ·
  rw [if_neg c6] at H
  exact absurd H (by simp)
def zZ.T8 : Bool × List (List Nat × List Nat) := (true, [([], []), ([], []), ([], []), ([0, 1, 2], [0, 1, 2]), ([], []), ([], []), ([], []), ([4, 5, 6, 3], [4, 5, 6]), ([3, 7], [3, 7])])
def zZ.B8 : List Nat := [0, 0, 0, 7, 0, 0, 0, 127, 255]
theorem zZ.tab8 : rtab .any (opsOf Try.f104 8) = zZ.T8 := by kernel_rfl
theorem zZ.bits8 : waitsOk zZ.T8.2 zZ.B8 = true := by kernel_rfl
theorem zZ.calls (k : Nat) (a0_0 : Int) (a0_1 : Int) (A0_2 : Option Addr) (c0_2 : Nat) (l0_2 : List Int) (a1_0 : Bool) (a1_1 : Bool) (a1_2 : Int) (r : Bool) (w : World) (hr0_2 : Kd.C (Kd.int .i64) w A0_2 l0_2.length l0_2) (hc0_2 : l0_2.length ≤ c0_2) (h : zZ.f k a0_0 a0_1 l0_2 a1_0 a1_1 a1_2 = some r) :
  Calls Try.prog 104 #[.agg #[.int .i64 a0_0, .int .i64 a0_1, .slice A0_2 l0_2.length c0_2], .agg #[.bool a1_0, .bool a1_1, .int .i64 a1_2]] w fun e w' => e = .returned (.bool r) ∧ Below w.heap.size w w' := by
 have hu28 := Try.underlying28
 have hu36 := Try.underlying36
 have HR0_2 := zB.mk hr0_2
 have HC0_2 := zB.mk hc0_2
 clear hr0_2 hc0_2
 have HB := zB.mk (Below.refl w.heap.size w)
 have H : (zZ.l0 k a0_0 0 a0_0 a0_1 l0_2 a1_0 a1_1 a1_2) = some r := h
 clear h
 have H' := zB.mk H
 clear H
 go_enter Try.func104, Try.ntmps104
 go_wp2_with (first | ((with_reducible refine zP (N := 2) rfl ?_); refine zO ?hg (N := 2) ?hd (cs := #[.int .i64 a0_0, .int .i64 a0_1, .slice A0_2 l0_2.length c0_2]) (t := 28) ?hr ?_; (case hd => rfl); (case hg => rfl); (case hr => first | (go_simp; done) | (go_simp; rfl)); intro gb149 hg w3 hbox hb; have n0_ := zB.mk (zK (by repeat (first | (with_reducible first | exact HB.out | apply zF | apply zA | apply zE) | exact HB.out)) hb); have n1_ := zB.mk (hbox); have n2_ := zB.mk ((by rw [hg]; exact (zM (by repeat (first | (with_reducible first | exact HB.out | apply zF | apply zA | apply zE) | exact HB.out))) : w.heap.size ≤ gb149)); have n3_ := n2_; clear HB; have HB := n0_; have BK149 := n1_; have GW149 := n2_; have GE149 := n3_; clear n0_ n1_ n2_ n3_; clear hb hbox hg) | ((with_reducible refine zP (N := 3) rfl ?_); refine zO ?hg (N := 3) ?hd (cs := #[.bool a1_0, .bool a1_1, .int .i64 a1_2]) (t := 36) ?hr ?_; (case hd => rfl); (case hg => rfl); (case hr => first | (go_simp; done) | (go_simp; rfl)); intro gb150 hg w4 hbox hb; have n0_ := zB.mk (zN (g := gb149) (o := .cells #[.int .i64 a0_0, .int .i64 a0_1, .slice A0_2 l0_2.length c0_2] 28 (0, 0)) (by (with_reducible repeat (first | refine zC ?_ _ | refine zG ?_ | refine zD ?_ _)); exact BK149.out) hb); have n1_ := zB.mk (zK (by repeat (first | (with_reducible first | exact HB.out | apply zF | apply zA | apply zE | refine zH ?_ GE149.out) | exact HB.out)) hb); have n2_ := zB.mk (hbox); have n3_ := zB.mk ((by rw [hg]; exact (zM (by repeat (first | (with_reducible first | exact HB.out | apply zF | apply zA | apply zE | refine zH ?_ GE149.out) | exact HB.out))) : w.heap.size ≤ gb150)); have n4_ := n3_; have n5_ := zB.mk ((by rw [hg]; exact Nat.ne_of_lt (zQ (by (with_reducible repeat (first | refine zC ?_ _ | refine zG ?_ | refine zD ?_ _)); exact BK149.out)) : gb149 ≠ gb150)); have n6_ := zB.mk n5_.out.symm; clear BK149; clear HB; have BK149 := n0_; have HB := n1_; have BK150 := n2_; have GW150 := n3_; have GE150 := n4_; have NB149_150 := n5_; have NB150_149 := n6_; clear n0_ n1_ n2_ n3_ n4_ n5_ n6_; clear hb hbox hg; have hnb5 := NB149_150.out; have hnc5 := NB150_149.out; have hcz6_0 : w4.cell? ⟨gb149, 0, none⟩ = some (.int .i64 a0_0) := zJ BK149.out 0; have hcz6_1 : w4.cell? ⟨gb149, 1, none⟩ = some (.int .i64 a0_1) := zJ BK149.out 1; have hcz6_2 : w4.cell? ⟨gb149, 2, none⟩ = some (.slice A0_2 l0_2.length c0_2) := zJ BK149.out 2; have hfz6_0 := zI BK149.out 0; have hfz6_1 := zI BK149.out 1; have hfz6_2 := zI BK149.out 2))
 go_loopg [11] k (fun kq v11 w' => ∃ (x11_1 : Int), v11 = .int .i64 x11_1 ∧ zB (zZ.l0 kq a0_0 x11_1 a0_0 a0_1 l0_2 a1_0 a1_1 a1_2 = some r) ∧ zB (kq ≤ k) ∧ zB (w'.heap[gb149]? = some (.cells #[.int .i64 a0_0, .int .i64 a0_1, (.slice A0_2 l0_2.length c0_2)] 28 (0, 0))) ∧ zB (w'.heap[gb150]? = some (.cells #[.bool a1_0, .bool a1_1, .int .i64 a1_2] 36 (0, 0))) ∧ zB (Below w.heap.size w w'))
 case atStart => exact ⟨(0), (by first | rfl | (simp; done) | (simp [*]; done)), H', ⟨Nat.le_refl _⟩, ⟨by (with_reducible repeat (first | refine zC ?_ _ | refine zG ?_ | refine zD ?_ _)); exact BK149.out⟩, ⟨by (with_reducible repeat (first | refine zC ?_ _ | refine zG ?_ | refine zD ?_ _)); exact BK150.out⟩, ⟨by repeat (first | (with_reducible first | exact HB.out | apply zF | apply zA | apply zE | refine zH ?_ GE149.out | refine zH ?_ GE150.out) | exact HB.out)⟩⟩
 case round =>
  clear H'
  try clear c1
  try clear p2
  try clear c5
  try clear hcz6_0
  try clear hcz6_1
  try clear hcz6_2
  try clear hfz6_0
  try clear hfz6_1
  try clear hfz6_2
  obtain ⟨x11_1, rfl, HA, HK1, BK149, BK150, HB⟩ := hrel
  cases gk with
  | zero => exact absurd HA.out (by simp [zZ.l0])
  | succ k1 =>
   have H := HA.out
   clear HA
   simp only [zZ.l0] at H
   by_cases c7 : x11_1 < a0_0
   ·
    rw [if_pos c7] at H
    have c7b0 : decide (x11_1 < a0_0) = true := decide_eq_true c7
    clear c7
    have H' := zB.mk H
    clear H
    have hnb8 := NB149_150.out
    have hnc8 := NB150_149.out
    have hcz9_0 : wr.cell? ⟨gb149, 0, none⟩ = some (.int .i64 a0_0) := zJ BK149.out 0
    have hcz9_1 : wr.cell? ⟨gb149, 1, none⟩ = some (.int .i64 a0_1) := zJ BK149.out 1
    have hcz9_2 : wr.cell? ⟨gb149, 2, none⟩ = some (.slice A0_2 l0_2.length c0_2) := zJ BK149.out 2
    have hfz9_0 := zI BK149.out 0
    have hfz9_1 := zI BK149.out 1
    have hfz9_2 := zI BK149.out 2
    go_wp2
    go_loopg [16] k1 (fun kq v16 w' => ∃ (x16_2 : Int), v16 = .int .i64 x16_2 ∧ zB (zZ.l1 kq x11_1 a0_0 x11_1 a0_1 x16_2 a0_0 a0_1 l0_2 a1_0 a1_1 a1_2 = some r) ∧ zB (kq ≤ k1) ∧ zB (w'.heap[gb149]? = some (.cells #[.int .i64 a0_0, .int .i64 a0_1, (.slice A0_2 l0_2.length c0_2)] 28 (0, 0))) ∧ zB (w'.heap[gb150]? = some (.cells #[.bool a1_0, .bool a1_1, .int .i64 a1_2] 36 (0, 0))) ∧ zB (Below w.heap.size w w'))
    case atStart => exact ⟨(0), (by first | rfl | (simp; done) | (simp [*]; done)), H', ⟨Nat.le_refl _⟩, ⟨by (with_reducible repeat (first | refine zC ?_ _ | refine zG ?_ | refine zD ?_ _)); exact BK149.out⟩, ⟨by (with_reducible repeat (first | refine zC ?_ _ | refine zG ?_ | refine zD ?_ _)); exact BK150.out⟩, ⟨by repeat (first | (with_reducible first | exact HB.out | apply zF | apply zA | apply zE | refine zH ?_ GE149.out | refine zH ?_ GE150.out) | exact HB.out)⟩⟩
    case round =>
     clear H'
     try clear c1
     try clear p2
     try clear c5
     try clear c7
     try clear c7b0
     try clear c8
     try clear hcz6_0
     try clear hcz6_1
     try clear hcz6_2
     try clear hcz9_0
     try clear hcz9_1
     try clear hcz9_2
     try clear hfz6_0
     try clear hfz6_1
     try clear hfz6_2
     try clear hfz9_0
     try clear hfz9_1
     try clear hfz9_2
     try clear p2
     obtain ⟨x16_2, rfl, HA, HK2, BK149, BK150, HB⟩ := hrel
     cases gk with
     | zero => exact absurd HA.out (by simp [zZ.l1])
     | succ k2 =>
      have H := HA.out
      clear HA
      simp only [zZ.l1] at H
      by_cases c10 : x16_2 < a0_1
      ·
       rw [if_pos c10] at H
       have c10b0 : decide (x16_2 < a0_1) = true := decide_eq_true c10
       clear c10
       replace H := Option.bind_eq_some_iff.mp H
       obtain ⟨⟨t151, t152⟩, A110, H⟩ := H
       replace H : ((yQ.f a0_0 a0_1 l0_2 t151 t152).bind fun t153 => ((yQ.f a0_0 a0_1 l0_2 x16_2 x11_1).bind fun t154 => (if t153 = t154 then (zZ.l1 k2 x11_1 a0_0 x11_1 a0_1 (wrap64 (x16_2 + 1)) a0_0 a0_1 l0_2 a1_0 a1_1 a1_2) else (some false)))) = some r := H
       have A11 := zB.mk A110
       clear A110
       replace H := Option.bind_eq_some_iff.mp H
       obtain ⟨t153, A120, H⟩ := H
       replace H : ((yQ.f a0_0 a0_1 l0_2 x16_2 x11_1).bind fun t154 => (if t153 = t154 then (zZ.l1 k2 x11_1 a0_0 x11_1 a0_1 (wrap64 (x16_2 + 1)) a0_0 a0_1 l0_2 a1_0 a1_1 a1_2) else (some false))) = some r := H
       have A12 := zB.mk A120
       clear A120
       replace H := Option.bind_eq_some_iff.mp H
       obtain ⟨t154, A130, H⟩ := H
       replace H : (if t153 = t154 then (zZ.l1 k2 x11_1 a0_0 x11_1 a0_1 (wrap64 (x16_2 + 1)) a0_0 a0_1 l0_2 a1_0 a1_1 a1_2) else (some false)) = some r := H
       have A13 := zB.mk A130
       clear A130
       by_cases c14 : t153 = t154
       ·
        rw [if_pos c14] at H
        have c14b0 : (t153 == t154) = true := beq_iff_eq.mpr c14
        have c14b1 : (t153 != t154) = false := bne_eq_false_iff_eq.mpr c14
        clear c14
        have H' := zB.mk H
        clear H
        have hnb15 := NB149_150.out
        have hnc15 := NB150_149.out
        have hcz16_0 : wr.cell? ⟨gb149, 0, none⟩ = some (.int .i64 a0_0) := zJ BK149.out 0
        have hcz16_1 : wr.cell? ⟨gb149, 1, none⟩ = some (.int .i64 a0_1) := zJ BK149.out 1
        have hcz16_2 : wr.cell? ⟨gb149, 2, none⟩ = some (.slice A0_2 l0_2.length c0_2) := zJ BK149.out 2
        have hfz16_0 := zI BK149.out 0
        have hfz16_1 := zI BK149.out 1
        have hfz16_2 := zI BK149.out 2
        have hcz17_0 : wr.cell? ⟨gb150, 0, none⟩ = some (.bool a1_0) := zJ BK150.out 0
        have hcz17_1 : wr.cell? ⟨gb150, 1, none⟩ = some (.bool a1_1) := zJ BK150.out 1
        have hcz17_2 : wr.cell? ⟨gb150, 2, none⟩ = some (.int .i64 a1_2) := zJ BK150.out 2
        have hfz17_0 := zI BK150.out 0
        have hfz17_1 := zI BK150.out 1
        have hfz17_2 := zI BK150.out 2
        try go_wp2_with (first | ((with_reducible refine zR (f := 70) rfl ?_); refine zV (some 24) rfl rfl Try.func70 (by kernel_rfl) rfl #[.agg #[.int .i64 a0_0, .int .i64 a0_1, .slice A0_2 l0_2.length c0_2], .agg #[.bool a1_0, .bool a1_1, .int .i64 a1_2], .int .i64 x16_2, .int .i64 x11_1] rfl (by (try simp only [List.map_toArray, List.map_cons, List.map_nil]); first | done | rfl) ?_; (with_reducible refine (yV.calls a0_0 a0_1 _ _ l0_2 a1_0 a1_1 a1_2 x16_2 x11_1 t151 t152 _ ?side1 ?side2 A11.out).mono ?_); (case side1 => repeat (first | exact (Kd.C_below HR0_2.out HB.out) | (with_reducible refine Kd.C_alloc ?_ _) | (with_reducible refine Kd.C_drewN ?_ _) | (with_reducible refine Kd.C_drew ?_))); (case side2 => exact HC0_2.out); rintro e w18 ⟨rfl, hb⟩; refine ⟨_, rfl, ?_⟩; have n0_ := zB.mk (zN (g := gb149) (o := .cells #[.int .i64 a0_0, .int .i64 a0_1, .slice A0_2 l0_2.length c0_2] 28 (0, 0)) (by (with_reducible repeat (first | refine zC ?_ _ | refine zG ?_ | refine zD ?_ _)); exact BK149.out) hb); have n1_ := zB.mk (zN (g := gb150) (o := .cells #[.bool a1_0, .bool a1_1, .int .i64 a1_2] 36 (0, 0)) (by (with_reducible repeat (first | refine zC ?_ _ | refine zG ?_ | refine zD ?_ _)); exact BK150.out) hb); have n2_ := zB.mk (zK (by repeat (first | (with_reducible first | exact HB.out | apply zF | apply zA | apply zE | refine zH ?_ GE149.out | refine zH ?_ GE150.out) | exact HB.out)) hb); clear BK149; clear BK150; clear HB; have BK149 := n0_; have BK150 := n1_; have HB := n2_; clear n0_ n1_ n2_; (try clear hb)))
        have n0_ := zB.mk (zG BK149.out)
        have n1_ := zB.mk (zG BK150.out)
        have n2_ := zB.mk (zE HB.out)
        clear BK149
        clear BK150
        clear HB
        have BK149 := n0_
        have BK150 := n1_
        have HB := n2_
        clear n0_ n1_ n2_
        refine start_ (n := 9) (S := fun w' => w'.cell? ⟨gb149, 0, none⟩ = some (.int .i64 a0_0) ∧ w'.cell? ⟨gb149, 1, none⟩ = some (.int .i64 a0_1) ∧ w'.cell? ⟨gb149, 2, none⟩ = some (.slice A0_2 l0_2.length c0_2)) (ds := []) #[false, false, false, false, false, false, false, false, false] (by kernel_rfl) rfl rfl ⟨zJ BK149.out 0, zJ BK149.out 1, zJ BK149.out 2⟩ (fun hHeld => ?_); refine with_tabW zZ.tab8 zZ.bits8 (fun HT_ HW_ => ?_)
        generalize w18.drew = w19 at BK149 BK150 HB hHeld ⊢
        refine pure_ (i := 1) (N := some 28) (v := ?_) (a' := ?_) #[false, true, false, false, false, false, false, false, false] rfl rfl (zU HT_.out (by kernel_rfl)) (fun _ _ _ h => h) (Or.inl ⟨by rfl, ?_⟩) ?_ ?_
        rotate_left
        ·
         intro w'
         go_simp
         with_reducible rfl
        rotate_left
        ·
         simp only [Act.put, List.setIfInBounds_toArray, List.set_cons_zero, List.set_cons_succ, zS, zT]
         rfl
        refine pure_ (i := 2) (N := some 29) (v := ?_) (a' := ?_) #[false, true, true, false, false, false, false, false, false] rfl rfl (zU HT_.out (by kernel_rfl)) (fun _ _ _ h => h) (Or.inl ⟨by rfl, ?_⟩) ?_ ?_
        rotate_left
        ·
         intro w'
         go_simp
         with_reducible rfl
        rotate_left
        ·
         simp only [Act.put, List.setIfInBounds_toArray, List.set_cons_zero, List.set_cons_succ, zS, zT]
         rfl
        refine pure_ (i := 5) (N := some 32) (v := ?_) (a' := ?_) #[false, true, true, false, false, true, false, false, false] rfl rfl (zU HT_.out (by kernel_rfl)) (fun _ _ _ h => h) (Or.inl ⟨by rfl, ?_⟩) ?_ ?_
        rotate_left
        ·
         intro w'
         go_simp
         with_reducible rfl
        rotate_left
        ·
         simp only [Act.put, List.setIfInBounds_toArray, List.set_cons_zero, List.set_cons_succ, zS, zT]
         rfl
        refine pure_ (i := 6) (N := some 33) (v := ?_) (a' := ?_) #[false, true, true, false, false, true, true, false, false] rfl rfl (zU HT_.out (by kernel_rfl)) (fun _ _ _ h => h) (Or.inl ⟨by rfl, ?_⟩) ?_ ?_
        rotate_left
        ·
         intro w'
         go_simp
         with_reducible rfl
        rotate_left
        ·
         simp only [Act.put, List.setIfInBounds_toArray, List.set_cons_zero, List.set_cons_succ, zS, zT]
         rfl
        refine take_ (i := 0) (N := some 27) (v := ?_) (a' := ?_) #[true, true, true, false, false, true, true, false, false] rfl rfl (take_ofW HT_.out HW_.out (by kernel_rfl)) (fun _ _ _ h => h) (Or.inl ⟨by rfl, ?_⟩) hHeld ?_ ?_
        rotate_left
        ·
         rintro w' ⟨s0, s1, s2⟩
         go_simp
         with_reducible rfl
        rotate_left
        ·
         simp only [Act.put, List.setIfInBounds_toArray, List.set_cons_zero, List.set_cons_succ, zS, zT]
         rfl
        refine take_ (i := 4) (N := some 31) (v := ?_) (a' := ?_) #[true, true, true, false, true, true, true, false, false] rfl rfl (take_ofW HT_.out HW_.out (by kernel_rfl)) (fun _ _ _ h => h) (Or.inl ⟨by rfl, ?_⟩) hHeld ?_ ?_
        rotate_left
        ·
         rintro w' ⟨s0, s1, s2⟩
         go_simp
         with_reducible rfl
        rotate_left
        ·
         simp only [Act.put, List.setIfInBounds_toArray, List.set_cons_zero, List.set_cons_succ, zS, zT]
         rfl
        refine one_ (i := 3) (N := some 30) #[true, true, true, true, true, true, true, false, false] rfl rfl (one_of HT_.out (by kernel_rfl)) (by decide) (fun K hK => ?_)
        refine goes_ Try.func71 (by kernel_rfl) rfl #[.agg #[.int .i64 a0_0, .int .i64 a0_1, .slice A0_2 l0_2.length c0_2], .int .i64 t151, .int .i64 t152] (by rfl) rfl rfl (by (try simp only [List.map_toArray, List.map_cons, List.map_nil]); first | done | rfl) ?_
        with_reducible refine (yQ.calls a0_0 a0_1 _ _ l0_2 t151 t152 t153 _ ?side1 ?side2 A12.out).mono ?_
        (case side1 => repeat (first | exact (Kd.C_below HR0_2.out HB.out) | (with_reducible refine Kd.C_alloc ?_ _) | (with_reducible refine Kd.C_drewN ?_ _) | (with_reducible refine Kd.C_drew ?_)))
        (case side2 => exact HC0_2.out)
        rintro e w20 ⟨rfl, hb⟩
        refine ⟨_, rfl, ?_⟩
        have n0_ := zB.mk (zN (g := gb149) (o := .cells #[.int .i64 a0_0, .int .i64 a0_1, .slice A0_2 l0_2.length c0_2] 28 (0, 0)) (by (with_reducible repeat (first | refine zC ?_ _ | refine zG ?_ | refine zD ?_ _)); exact BK149.out) hb)
        have n1_ := zB.mk (zN (g := gb150) (o := .cells #[.bool a1_0, .bool a1_1, .int .i64 a1_2] 36 (0, 0)) (by (with_reducible repeat (first | refine zC ?_ _ | refine zG ?_ | refine zD ?_ _)); exact BK150.out) hb)
        have n2_ := zB.mk (zK (by repeat (first | (with_reducible first | exact HB.out | apply zF | apply zA | apply zE | refine zH ?_ GE149.out | refine zH ?_ GE150.out) | exact HB.out)) hb)
        clear BK149
        clear BK150
        clear HB
        have BK149 := n0_
        have BK150 := n1_
        have HB := n2_
        clear n0_ n1_ n2_
        (try clear hb)
        refine hK.out _ _ ⟨zJ BK149.out 0, zJ BK149.out 1, zJ BK149.out 2⟩ (fun hHeld => ?_)
        clear hK K
        refine norm_ (a' := ?_) ?_ ?_
        rotate_left
        ·
         show Act.put _ (some 30) _ = _
         simp only [Act.put, List.setIfInBounds_toArray, List.set_cons_zero, List.set_cons_succ, zS, zT]
         rfl
        refine one_ (i := 7) (N := some 34) #[true, true, true, true, true, true, true, true, false] rfl rfl (one_of HT_.out (by kernel_rfl)) (by decide) (fun K hK => ?_)
        refine goes_ Try.func71 (by kernel_rfl) rfl #[.agg #[.int .i64 a0_0, .int .i64 a0_1, .slice A0_2 l0_2.length c0_2], .int .i64 x16_2, .int .i64 x11_1] (by rfl) rfl rfl (by (try simp only [List.map_toArray, List.map_cons, List.map_nil]); first | done | rfl) ?_
        with_reducible refine (yQ.calls a0_0 a0_1 _ _ l0_2 x16_2 x11_1 t154 _ ?side1 ?side2 A13.out).mono ?_
        (case side1 => repeat (first | exact (Kd.C_below HR0_2.out HB.out) | (with_reducible refine Kd.C_alloc ?_ _) | (with_reducible refine Kd.C_drewN ?_ _) | (with_reducible refine Kd.C_drew ?_)))
        (case side2 => exact HC0_2.out)
        rintro e w21 ⟨rfl, hb⟩
        refine ⟨_, rfl, ?_⟩
        have n0_ := zB.mk (zN (g := gb149) (o := .cells #[.int .i64 a0_0, .int .i64 a0_1, .slice A0_2 l0_2.length c0_2] 28 (0, 0)) (by (with_reducible repeat (first | refine zC ?_ _ | refine zG ?_ | refine zD ?_ _)); exact BK149.out) hb)
        have n1_ := zB.mk (zN (g := gb150) (o := .cells #[.bool a1_0, .bool a1_1, .int .i64 a1_2] 36 (0, 0)) (by (with_reducible repeat (first | refine zC ?_ _ | refine zG ?_ | refine zD ?_ _)); exact BK150.out) hb)
        have n2_ := zB.mk (zK (by repeat (first | (with_reducible first | exact HB.out | apply zF | apply zA | apply zE | refine zH ?_ GE149.out | refine zH ?_ GE150.out) | exact HB.out)) hb)
        clear BK149
        clear BK150
        clear HB
        have BK149 := n0_
        have BK150 := n1_
        have HB := n2_
        clear n0_ n1_ n2_
        (try clear hb)
        refine hK.out _ _ ⟨zJ BK149.out 0, zJ BK149.out 1, zJ BK149.out 2⟩ (fun hHeld => ?_)
        clear hK K
        refine norm_ (a' := ?_) ?_ ?_
        rotate_left
        ·
         show Act.put _ (some 34) _ = _
         simp only [Act.put, List.setIfInBounds_toArray, List.set_cons_zero, List.set_cons_succ, zS, zT]
         rfl
        refine pure_ (i := 8) (N := some 35) (v := ?_) (a' := ?_) #[true, true, true, true, true, true, true, true, true] rfl rfl (zU HT_.out (by kernel_rfl)) (fun _ _ _ h => h) (Or.inl ⟨by rfl, ?_⟩) ?_ ?_
        rotate_left
        ·
         intro w'
         go_simp
         with_reducible rfl
        rotate_left
        ·
         simp only [Act.put, List.setIfInBounds_toArray, List.set_cons_zero, List.set_cons_succ, zS, zT]
         rfl
        refine done_ (done_of HT_.out (by kernel_rfl)) ?_
        try go_wp2
        go_roundg k2
        case measure => have := HK1.out; have := HK2.out; omega
        case rel => exact ⟨(wrap64 (x16_2 + 1)), (by first | rfl | (simp; done) | (simp [*]; done)), H', ⟨by have := HK1.out; have := HK2.out; omega⟩, ⟨by (with_reducible repeat (first | refine zC ?_ _ | refine zG ?_ | refine zD ?_ _)); exact BK149.out⟩, ⟨by (with_reducible repeat (first | refine zC ?_ _ | refine zG ?_ | refine zD ?_ _)); exact BK150.out⟩, ⟨by repeat (first | (with_reducible first | exact HB.out | apply zF | apply zA | apply zE | refine zH ?_ GE149.out | refine zH ?_ GE150.out) | exact HB.out)⟩⟩
       ·
        rw [if_neg c14] at H
        have c14b0 : (t153 == t154) = false := beq_eq_false_iff_ne.mpr c14
        have c14b1 : (t153 != t154) = true := bne_iff_ne.mpr c14
        obtain rfl := Option.some.inj H
        have hnb22 := NB149_150.out
        have hnc22 := NB150_149.out
        have hcz23_0 : wr.cell? ⟨gb149, 0, none⟩ = some (.int .i64 a0_0) := zJ BK149.out 0
        have hcz23_1 : wr.cell? ⟨gb149, 1, none⟩ = some (.int .i64 a0_1) := zJ BK149.out 1
        have hcz23_2 : wr.cell? ⟨gb149, 2, none⟩ = some (.slice A0_2 l0_2.length c0_2) := zJ BK149.out 2
        have hfz23_0 := zI BK149.out 0
        have hfz23_1 := zI BK149.out 1
        have hfz23_2 := zI BK149.out 2
        have hcz24_0 : wr.cell? ⟨gb150, 0, none⟩ = some (.bool a1_0) := zJ BK150.out 0
        have hcz24_1 : wr.cell? ⟨gb150, 1, none⟩ = some (.bool a1_1) := zJ BK150.out 1
        have hcz24_2 : wr.cell? ⟨gb150, 2, none⟩ = some (.int .i64 a1_2) := zJ BK150.out 2
        have hfz24_0 := zI BK150.out 0
        have hfz24_1 := zI BK150.out 1
        have hfz24_2 := zI BK150.out 2
        try go_wp2_with (first | ((with_reducible refine zR (f := 70) rfl ?_); refine zV (some 24) rfl rfl Try.func70 (by kernel_rfl) rfl #[.agg #[.int .i64 a0_0, .int .i64 a0_1, .slice A0_2 l0_2.length c0_2], .agg #[.bool a1_0, .bool a1_1, .int .i64 a1_2], .int .i64 x16_2, .int .i64 x11_1] rfl (by (try simp only [List.map_toArray, List.map_cons, List.map_nil]); first | done | rfl) ?_; (with_reducible refine (yV.calls a0_0 a0_1 _ _ l0_2 a1_0 a1_1 a1_2 x16_2 x11_1 t151 t152 _ ?side1 ?side2 A11.out).mono ?_); (case side1 => repeat (first | exact (Kd.C_below HR0_2.out HB.out) | (with_reducible refine Kd.C_alloc ?_ _) | (with_reducible refine Kd.C_drewN ?_ _) | (with_reducible refine Kd.C_drew ?_))); (case side2 => exact HC0_2.out); rintro e w25 ⟨rfl, hb⟩; refine ⟨_, rfl, ?_⟩; have n0_ := zB.mk (zN (g := gb149) (o := .cells #[.int .i64 a0_0, .int .i64 a0_1, .slice A0_2 l0_2.length c0_2] 28 (0, 0)) (by (with_reducible repeat (first | refine zC ?_ _ | refine zG ?_ | refine zD ?_ _)); exact BK149.out) hb); have n1_ := zB.mk (zN (g := gb150) (o := .cells #[.bool a1_0, .bool a1_1, .int .i64 a1_2] 36 (0, 0)) (by (with_reducible repeat (first | refine zC ?_ _ | refine zG ?_ | refine zD ?_ _)); exact BK150.out) hb); have n2_ := zB.mk (zK (by repeat (first | (with_reducible first | exact HB.out | apply zF | apply zA | apply zE | refine zH ?_ GE149.out | refine zH ?_ GE150.out) | exact HB.out)) hb); clear BK149; clear BK150; clear HB; have BK149 := n0_; have BK150 := n1_; have HB := n2_; clear n0_ n1_ n2_; (try clear hb)))
        have n0_ := zB.mk (zG BK149.out)
        have n1_ := zB.mk (zG BK150.out)
        have n2_ := zB.mk (zE HB.out)
        clear BK149
        clear BK150
        clear HB
        have BK149 := n0_
        have BK150 := n1_
        have HB := n2_
        clear n0_ n1_ n2_
        refine start_ (n := 9) (S := fun w' => w'.cell? ⟨gb149, 0, none⟩ = some (.int .i64 a0_0) ∧ w'.cell? ⟨gb149, 1, none⟩ = some (.int .i64 a0_1) ∧ w'.cell? ⟨gb149, 2, none⟩ = some (.slice A0_2 l0_2.length c0_2)) (ds := []) #[false, false, false, false, false, false, false, false, false] (by kernel_rfl) rfl rfl ⟨zJ BK149.out 0, zJ BK149.out 1, zJ BK149.out 2⟩ (fun hHeld => ?_); refine with_tabW zZ.tab8 zZ.bits8 (fun HT_ HW_ => ?_)
        generalize w25.drew = w26 at BK149 BK150 HB hHeld ⊢
        refine pure_ (i := 1) (N := some 28) (v := ?_) (a' := ?_) #[false, true, false, false, false, false, false, false, false] rfl rfl (zU HT_.out (by kernel_rfl)) (fun _ _ _ h => h) (Or.inl ⟨by rfl, ?_⟩) ?_ ?_
        rotate_left
        ·
         intro w'
         go_simp
         with_reducible rfl
        rotate_left
        ·
         simp only [Act.put, List.setIfInBounds_toArray, List.set_cons_zero, List.set_cons_succ, zS, zT]
         rfl
        refine pure_ (i := 2) (N := some 29) (v := ?_) (a' := ?_) #[false, true, true, false, false, false, false, false, false] rfl rfl (zU HT_.out (by kernel_rfl)) (fun _ _ _ h => h) (Or.inl ⟨by rfl, ?_⟩) ?_ ?_
        rotate_left
        ·
         intro w'
         go_simp
         with_reducible rfl
        rotate_left
        ·
         simp only [Act.put, List.setIfInBounds_toArray, List.set_cons_zero, List.set_cons_succ, zS, zT]
         rfl
        refine pure_ (i := 5) (N := some 32) (v := ?_) (a' := ?_) #[false, true, true, false, false, true, false, false, false] rfl rfl (zU HT_.out (by kernel_rfl)) (fun _ _ _ h => h) (Or.inl ⟨by rfl, ?_⟩) ?_ ?_
        rotate_left
        ·
         intro w'
         go_simp
         with_reducible rfl
        rotate_left
        ·
         simp only [Act.put, List.setIfInBounds_toArray, List.set_cons_zero, List.set_cons_succ, zS, zT]
         rfl
        refine pure_ (i := 6) (N := some 33) (v := ?_) (a' := ?_) #[false, true, true, false, false, true, true, false, false] rfl rfl (zU HT_.out (by kernel_rfl)) (fun _ _ _ h => h) (Or.inl ⟨by rfl, ?_⟩) ?_ ?_
        rotate_left
        ·
         intro w'
         go_simp
         with_reducible rfl
        rotate_left
        ·
         simp only [Act.put, List.setIfInBounds_toArray, List.set_cons_zero, List.set_cons_succ, zS, zT]
         rfl
        refine take_ (i := 0) (N := some 27) (v := ?_) (a' := ?_) #[true, true, true, false, false, true, true, false, false] rfl rfl (take_ofW HT_.out HW_.out (by kernel_rfl)) (fun _ _ _ h => h) (Or.inl ⟨by rfl, ?_⟩) hHeld ?_ ?_
        rotate_left
        ·
         rintro w' ⟨s0, s1, s2⟩
         go_simp
         with_reducible rfl
        rotate_left
        ·
         simp only [Act.put, List.setIfInBounds_toArray, List.set_cons_zero, List.set_cons_succ, zS, zT]
         rfl
        refine take_ (i := 4) (N := some 31) (v := ?_) (a' := ?_) #[true, true, true, false, true, true, true, false, false] rfl rfl (take_ofW HT_.out HW_.out (by kernel_rfl)) (fun _ _ _ h => h) (Or.inl ⟨by rfl, ?_⟩) hHeld ?_ ?_
        rotate_left
        ·
         rintro w' ⟨s0, s1, s2⟩
         go_simp
         with_reducible rfl
        rotate_left
        ·
         simp only [Act.put, List.setIfInBounds_toArray, List.set_cons_zero, List.set_cons_succ, zS, zT]
         rfl
        refine one_ (i := 3) (N := some 30) #[true, true, true, true, true, true, true, false, false] rfl rfl (one_of HT_.out (by kernel_rfl)) (by decide) (fun K hK => ?_)
        refine goes_ Try.func71 (by kernel_rfl) rfl #[.agg #[.int .i64 a0_0, .int .i64 a0_1, .slice A0_2 l0_2.length c0_2], .int .i64 t151, .int .i64 t152] (by rfl) rfl rfl (by (try simp only [List.map_toArray, List.map_cons, List.map_nil]); first | done | rfl) ?_
        with_reducible refine (yQ.calls a0_0 a0_1 _ _ l0_2 t151 t152 t153 _ ?side1 ?side2 A12.out).mono ?_
        (case side1 => repeat (first | exact (Kd.C_below HR0_2.out HB.out) | (with_reducible refine Kd.C_alloc ?_ _) | (with_reducible refine Kd.C_drewN ?_ _) | (with_reducible refine Kd.C_drew ?_)))
        (case side2 => exact HC0_2.out)
        rintro e w27 ⟨rfl, hb⟩
        refine ⟨_, rfl, ?_⟩
        have n0_ := zB.mk (zN (g := gb149) (o := .cells #[.int .i64 a0_0, .int .i64 a0_1, .slice A0_2 l0_2.length c0_2] 28 (0, 0)) (by (with_reducible repeat (first | refine zC ?_ _ | refine zG ?_ | refine zD ?_ _)); exact BK149.out) hb)
        have n1_ := zB.mk (zN (g := gb150) (o := .cells #[.bool a1_0, .bool a1_1, .int .i64 a1_2] 36 (0, 0)) (by (with_reducible repeat (first | refine zC ?_ _ | refine zG ?_ | refine zD ?_ _)); exact BK150.out) hb)
        have n2_ := zB.mk (zK (by repeat (first | (with_reducible first | exact HB.out | apply zF | apply zA | apply zE | refine zH ?_ GE149.out | refine zH ?_ GE150.out) | exact HB.out)) hb)
        clear BK149
        clear BK150
        clear HB
        have BK149 := n0_
        have BK150 := n1_
        have HB := n2_
        clear n0_ n1_ n2_
        (try clear hb)
        refine hK.out _ _ ⟨zJ BK149.out 0, zJ BK149.out 1, zJ BK149.out 2⟩ (fun hHeld => ?_)
        clear hK K
        refine norm_ (a' := ?_) ?_ ?_
        rotate_left
        ·
         show Act.put _ (some 30) _ = _
         simp only [Act.put, List.setIfInBounds_toArray, List.set_cons_zero, List.set_cons_succ, zS, zT]
         rfl
        refine one_ (i := 7) (N := some 34) #[true, true, true, true, true, true, true, true, false] rfl rfl (one_of HT_.out (by kernel_rfl)) (by decide) (fun K hK => ?_)
        refine goes_ Try.func71 (by kernel_rfl) rfl #[.agg #[.int .i64 a0_0, .int .i64 a0_1, .slice A0_2 l0_2.length c0_2], .int .i64 x16_2, .int .i64 x11_1] (by rfl) rfl rfl (by (try simp only [List.map_toArray, List.map_cons, List.map_nil]); first | done | rfl) ?_
        with_reducible refine (yQ.calls a0_0 a0_1 _ _ l0_2 x16_2 x11_1 t154 _ ?side1 ?side2 A13.out).mono ?_
        (case side1 => repeat (first | exact (Kd.C_below HR0_2.out HB.out) | (with_reducible refine Kd.C_alloc ?_ _) | (with_reducible refine Kd.C_drewN ?_ _) | (with_reducible refine Kd.C_drew ?_)))
        (case side2 => exact HC0_2.out)
        rintro e w28 ⟨rfl, hb⟩
        refine ⟨_, rfl, ?_⟩
        have n0_ := zB.mk (zN (g := gb149) (o := .cells #[.int .i64 a0_0, .int .i64 a0_1, .slice A0_2 l0_2.length c0_2] 28 (0, 0)) (by (with_reducible repeat (first | refine zC ?_ _ | refine zG ?_ | refine zD ?_ _)); exact BK149.out) hb)
        have n1_ := zB.mk (zN (g := gb150) (o := .cells #[.bool a1_0, .bool a1_1, .int .i64 a1_2] 36 (0, 0)) (by (with_reducible repeat (first | refine zC ?_ _ | refine zG ?_ | refine zD ?_ _)); exact BK150.out) hb)
        have n2_ := zB.mk (zK (by repeat (first | (with_reducible first | exact HB.out | apply zF | apply zA | apply zE | refine zH ?_ GE149.out | refine zH ?_ GE150.out) | exact HB.out)) hb)
        clear BK149
        clear BK150
        clear HB
        have BK149 := n0_
        have BK150 := n1_
        have HB := n2_
        clear n0_ n1_ n2_
        (try clear hb)
        refine hK.out _ _ ⟨zJ BK149.out 0, zJ BK149.out 1, zJ BK149.out 2⟩ (fun hHeld => ?_)
        clear hK K
        refine norm_ (a' := ?_) ?_ ?_
        rotate_left
        ·
         show Act.put _ (some 34) _ = _
         simp only [Act.put, List.setIfInBounds_toArray, List.set_cons_zero, List.set_cons_succ, zS, zT]
         rfl
        refine pure_ (i := 8) (N := some 35) (v := ?_) (a' := ?_) #[true, true, true, true, true, true, true, true, true] rfl rfl (zU HT_.out (by kernel_rfl)) (fun _ _ _ h => h) (Or.inl ⟨by rfl, ?_⟩) ?_ ?_
        rotate_left
        ·
         intro w'
         go_simp
         with_reducible rfl
        rotate_left
        ·
         simp only [Act.put, List.setIfInBounds_toArray, List.set_cons_zero, List.set_cons_succ, zS, zT]
         rfl
        refine done_ (done_of HT_.out (by kernel_rfl)) ?_
        try go_wp2
        go_ret
        exact ⟨by first | rfl | (simp [*, errW_none, errW_some] <;> rfl), by repeat (first | (with_reducible first | exact HB.out | apply zF | apply zA | apply zE | refine zH ?_ GE149.out | refine zH ?_ GE150.out) | exact HB.out)⟩
      ·
       rw [if_neg c10] at H
       have c10b0 : decide (x16_2 < a0_1) = false := decide_eq_false c10
       clear c10
       have H' := zB.mk H
       clear H
       go_wp2
       go_roundg k2
       case measure => have := HK1.out; have := HK2.out; omega
       case rel => exact ⟨(wrap64 (x11_1 + 1)), (by first | rfl | (simp; done) | (simp [*]; done)), H', ⟨by have := HK1.out; have := HK2.out; omega⟩, ⟨by (with_reducible repeat (first | refine zC ?_ _ | refine zG ?_ | refine zD ?_ _)); exact BK149.out⟩, ⟨by (with_reducible repeat (first | refine zC ?_ _ | refine zG ?_ | refine zD ?_ _)); exact BK150.out⟩, ⟨by repeat (first | (with_reducible first | exact HB.out | apply zF | apply zA | apply zE | refine zH ?_ GE149.out | refine zH ?_ GE150.out) | exact HB.out)⟩⟩
   ·
    rw [if_neg c7] at H
    have c7b0 : decide (x11_1 < a0_0) = false := decide_eq_false c7
    clear c7
    obtain rfl := Option.some.inj H
    go_wp2
    go_ret
    exact ⟨by first | rfl | (simp [*, errW_none, errW_some] <;> rfl), by repeat (first | (with_reducible first | exact HB.out | apply zF | apply zA | apply zE | refine zH ?_ GE149.out | refine zH ?_ GE150.out) | exact HB.out)⟩
theorem yC.calls (k : Nat) (a0_0 : Int) (a0_1 : Int) (A0_2 : Option Addr) (c0_2 : Nat) (l0_2 : List Int) (r : Int) (w : World) (hr0_2 : Kd.C (Kd.int .i64) w A0_2 l0_2.length l0_2) (hc0_2 : l0_2.length ≤ c0_2) (h : yC.f k a0_0 a0_1 l0_2 = some r) :
  Calls Try.prog 63 #[.agg #[.int .i64 a0_0, .int .i64 a0_1, .slice A0_2 l0_2.length c0_2]] w fun e w' => e = .returned (.int .i64 r) ∧ Below w.heap.size w w' := by
 have hu28 := Try.underlying28
 have hu36 := Try.underlying36
 have HR0_2 := zB.mk hr0_2
 have HC0_2 := zB.mk hc0_2
 clear hr0_2 hc0_2
 have HB := zB.mk (Below.refl w.heap.size w)
 have H : (yC.l0 k 1 a0_0 a0_1 l0_2) = some r := h
 clear h
 have H' := zB.mk H
 clear H
 go_enter Try.func63, Try.ntmps63
 go_wp2_with (first | ((with_reducible refine zP (N := 1) rfl ?_); refine zO ?hg (N := 1) ?hd (cs := #[.int .i64 a0_0, .int .i64 a0_1, .slice A0_2 l0_2.length c0_2]) (t := 28) ?hr ?_; (case hd => rfl); (case hg => rfl); (case hr => first | (go_simp; done) | (go_simp; rfl)); intro gb155 hg w2 hbox hb; have n0_ := zB.mk (zK (by repeat (first | (with_reducible first | exact HB.out | apply zF | apply zA | apply zE) | exact HB.out)) hb); have n1_ := zB.mk (hbox); have n2_ := zB.mk ((by rw [hg]; exact (zM (by repeat (first | (with_reducible first | exact HB.out | apply zF | apply zA | apply zE) | exact HB.out))) : w.heap.size ≤ gb155)); have n3_ := n2_; clear HB; have HB := n0_; have BK155 := n1_; have GW155 := n2_; have GE155 := n3_; clear n0_ n1_ n2_ n3_; clear hb hbox hg))
 go_loopg [3] k (fun kq v3 w' => ∃ (x3_1 : Int), v3 = .int .i64 x3_1 ∧ zB (yC.l0 kq x3_1 a0_0 a0_1 l0_2 = some r) ∧ zB (kq ≤ k) ∧ zB (w'.heap[gb155]? = some (.cells #[.int .i64 a0_0, .int .i64 a0_1, (.slice A0_2 l0_2.length c0_2)] 28 (0, 0))) ∧ zB (Below w.heap.size w w'))
 case atStart => exact ⟨(1), (by first | rfl | (simp; done) | (simp [*]; done)), H', ⟨Nat.le_refl _⟩, ⟨by (with_reducible repeat (first | refine zC ?_ _ | refine zG ?_ | refine zD ?_ _)); exact BK155.out⟩, ⟨by repeat (first | (with_reducible first | exact HB.out | apply zF | apply zA | apply zE | refine zH ?_ GE155.out) | exact HB.out)⟩⟩
 case round =>
  clear H'
  try clear p2
  obtain ⟨x3_1, rfl, HA, HK1, BK155, HB⟩ := hrel
  cases gk with
  | zero => exact absurd HA.out (by simp [yC.l0])
  | succ k1 =>
   have H := HA.out
   clear HA
   simp only [yC.l0] at H
   replace H := Option.bind_eq_some_iff.mp H
   obtain ⟨t156, A30, H⟩ := H
   replace H : (if t156 = true then (some x3_1) else (yC.l0 k1 (wrap64 (x3_1 + 1)) a0_0 a0_1 l0_2)) = some r := H
   have A3 := zB.mk A30
   clear A30
   by_cases c4 : t156 = true
   ·
    subst c4
    have H1 : (some x3_1) = some r := by rw [if_pos rfl] at H; exact H
    clear H
    have H := H1
    clear H1
    obtain rfl := Option.some.inj H
    have hcz5_0 : wr.cell? ⟨gb155, 0, none⟩ = some (.int .i64 a0_0) := zJ BK155.out 0
    have hcz5_1 : wr.cell? ⟨gb155, 1, none⟩ = some (.int .i64 a0_1) := zJ BK155.out 1
    have hcz5_2 : wr.cell? ⟨gb155, 2, none⟩ = some (.slice A0_2 l0_2.length c0_2) := zJ BK155.out 2
    have hfz5_0 := zI BK155.out 0
    have hfz5_1 := zI BK155.out 1
    have hfz5_2 := zI BK155.out 2
    go_wp2_with (first | ((with_reducible refine zR (f := 104) rfl ?_); refine zV (some 7) rfl rfl Try.func104 (by kernel_rfl) rfl #[.agg #[.int .i64 a0_0, .int .i64 a0_1, .slice A0_2 l0_2.length c0_2], .agg #[.bool false, .bool false, .int .i64 x3_1]] rfl (by (try simp only [List.map_toArray, List.map_cons, List.map_nil]); first | done | rfl) ?_; (with_reducible refine (zZ.calls k1 a0_0 a0_1 _ _ l0_2 false false x3_1 true _ ?side1 ?side2 A3.out).mono ?_); (case side1 => repeat (first | exact (Kd.C_below HR0_2.out HB.out) | (with_reducible refine Kd.C_alloc ?_ _) | (with_reducible refine Kd.C_drewN ?_ _) | (with_reducible refine Kd.C_drew ?_))); (case side2 => exact HC0_2.out); rintro e w6 ⟨rfl, hb⟩; refine ⟨_, rfl, ?_⟩; have n0_ := zB.mk (zN (g := gb155) (o := .cells #[.int .i64 a0_0, .int .i64 a0_1, .slice A0_2 l0_2.length c0_2] 28 (0, 0)) (by (with_reducible repeat (first | refine zC ?_ _ | refine zG ?_ | refine zD ?_ _)); exact BK155.out) hb); have n1_ := zB.mk (zK (by repeat (first | (with_reducible first | exact HB.out | apply zF | apply zA | apply zE | refine zH ?_ GE155.out) | exact HB.out)) hb); clear BK155; clear HB; have BK155 := n0_; have HB := n1_; clear n0_ n1_; (try clear hb)))
    go_ret
    exact ⟨by first | rfl | (simp [*, errW_none, errW_some] <;> rfl), by repeat (first | (with_reducible first | exact HB.out | apply zF | apply zA | apply zE | refine zH ?_ GE155.out) | exact HB.out)⟩
   ·
    replace c4 := Bool.eq_false_iff.mpr c4
    subst c4
    have H1 : (yC.l0 k1 (wrap64 (x3_1 + 1)) a0_0 a0_1 l0_2) = some r := by rw [if_neg (show ¬ (false = true) by decide)] at H; exact H
    clear H
    have H := H1
    clear H1
    have H' := zB.mk H
    clear H
    have hcz7_0 : wr.cell? ⟨gb155, 0, none⟩ = some (.int .i64 a0_0) := zJ BK155.out 0
    have hcz7_1 : wr.cell? ⟨gb155, 1, none⟩ = some (.int .i64 a0_1) := zJ BK155.out 1
    have hcz7_2 : wr.cell? ⟨gb155, 2, none⟩ = some (.slice A0_2 l0_2.length c0_2) := zJ BK155.out 2
    have hfz7_0 := zI BK155.out 0
    have hfz7_1 := zI BK155.out 1
    have hfz7_2 := zI BK155.out 2
    go_wp2_with (first | ((with_reducible refine zR (f := 104) rfl ?_); refine zV (some 7) rfl rfl Try.func104 (by kernel_rfl) rfl #[.agg #[.int .i64 a0_0, .int .i64 a0_1, .slice A0_2 l0_2.length c0_2], .agg #[.bool false, .bool false, .int .i64 x3_1]] rfl (by (try simp only [List.map_toArray, List.map_cons, List.map_nil]); first | done | rfl) ?_; (with_reducible refine (zZ.calls k1 a0_0 a0_1 _ _ l0_2 false false x3_1 false _ ?side1 ?side2 A3.out).mono ?_); (case side1 => repeat (first | exact (Kd.C_below HR0_2.out HB.out) | (with_reducible refine Kd.C_alloc ?_ _) | (with_reducible refine Kd.C_drewN ?_ _) | (with_reducible refine Kd.C_drew ?_))); (case side2 => exact HC0_2.out); rintro e w8 ⟨rfl, hb⟩; refine ⟨_, rfl, ?_⟩; have n0_ := zB.mk (zN (g := gb155) (o := .cells #[.int .i64 a0_0, .int .i64 a0_1, .slice A0_2 l0_2.length c0_2] 28 (0, 0)) (by (with_reducible repeat (first | refine zC ?_ _ | refine zG ?_ | refine zD ?_ _)); exact BK155.out) hb); have n1_ := zB.mk (zK (by repeat (first | (with_reducible first | exact HB.out | apply zF | apply zA | apply zE | refine zH ?_ GE155.out) | exact HB.out)) hb); clear BK155; clear HB; have BK155 := n0_; have HB := n1_; clear n0_ n1_; (try clear hb)))
    go_roundg k1
    case measure => have := HK1.out; omega
    case rel => exact ⟨(wrap64 (x3_1 + 1)), (by first | rfl | (simp; done) | (simp [*]; done)), H', ⟨by have := HK1.out; omega⟩, ⟨by (with_reducible repeat (first | refine zC ?_ _ | refine zG ?_ | refine zD ?_ _)); exact BK155.out⟩, ⟨by repeat (first | (with_reducible first | exact HB.out | apply zF | apply zA | apply zE | refine zH ?_ GE155.out) | exact HB.out)⟩⟩
theorem zY.calls (k : Nat) (a0_0 : Int) (a0_1 : Int) (A0_2 : Option Addr) (c0_2 : Nat) (l0_2 : List Int) (r : List (S36)) (w : World) (hr0_2 : Kd.C (Kd.int .i64) w A0_2 l0_2.length l0_2) (hc0_2 : l0_2.length ≤ c0_2) (h : zY.f k a0_0 a0_1 l0_2 = some r) :
  Calls Try.prog 75 #[.agg #[.int .i64 a0_0, .int .i64 a0_1, .slice A0_2 l0_2.length c0_2]] w fun e w' => ∃ v0_ : Value, e = .returned (v0_) ∧ Kd.R k36 36 w' w.heap.size (fun _ => True) v0_ r ∧ Below w.heap.size w w' := by
 have hu28 := Try.underlying28
 have hu36 := Try.underlying36
 have HR0_2 := zB.mk hr0_2
 have HC0_2 := zB.mk hc0_2
 clear hr0_2 hc0_2
 have HB := zB.mk (Below.refl w.heap.size w)
 have H : (zY.l0 k (([] : List (S36))) 0 a0_0 a0_1 l0_2) = some r := h
 clear h
 obtain ⟨y382, hy382⟩ : ∃ y_ : List (S36), y_ = (([] : List (S36))) := ⟨_, rfl⟩
 replace H : (zY.l0 k y382 0 a0_0 a0_1 l0_2) = some r := by first | (rw [hy382]; with_reducible exact H) | (have H2_ := (Option.bind_some _ _).symm.trans H; rw [hy382]; with_reducible exact H2_) | (have H2_ := (Option.bind_some _ _).symm.trans H; with_reducible exact H2_) | with_reducible exact H | (rw [hy382]; exact H) | exact H
 have Ny382 := zB.mk hy382
 clear hy382
 have H' := zB.mk H
 clear H
 go_enter Try.func75, Try.ntmps75
 go_wp2_with (first | ((with_reducible refine zP (N := 1) rfl ?_); refine zO ?hg (N := 1) ?hd (cs := #[.int .i64 a0_0, .int .i64 a0_1, .slice A0_2 l0_2.length c0_2]) (t := 28) ?hr ?_; (case hd => rfl); (case hg => rfl); (case hr => first | (go_simp; done) | (go_simp; rfl)); intro gb381 hg w2 hbox hb; have n0_ := zB.mk (zK (by repeat (first | (with_reducible first | exact HB.out | apply zF | apply zA | apply zE) | exact HB.out)) hb); have n1_ := zB.mk (hbox); have n2_ := zB.mk ((by rw [hg]; exact (zM (by repeat (first | (with_reducible first | exact HB.out | apply zF | apply zA | apply zE) | exact HB.out))) : w.heap.size ≤ gb381)); have n3_ := n2_; clear HB; have HB := n0_; have BK381 := n1_; have GW381 := n2_; have GE381 := n3_; clear n0_ n1_ n2_ n3_; clear hb hbox hg) | ((with_reducible refine zP (N := 7) rfl ?_); refine Kd.R_lit k36 _ 36 ?hg (N := 7) ?hd (xs := ([] : List (S36))) (inner := []) (ok := fun _ => True) (okp := fun _ => True) ?hr ?hp (fun _ hk => hk) trivial (Below.refl _ _) (Nat.le_refl _) (by simp) ?_; (case hd => rfl); (case hg => rfl); (case hr => first | (go_simp; done) | (go_simp; rfl)); (case hp => exact (Reps.none _ _)); intro v383 w3 ho4 hb hg_ hnew_; clear hg_ hnew_; (first | rw [← Ny382.out] at ho4 | (simp only [Int.reduceToNat] at ho4; rw [← Ny382.out] at ho4)); have n0_ := zB.mk (Kd.R_lower ho4 (zM (by repeat (first | (with_reducible first | exact HB.out | apply zF | apply zA | apply zE | refine zH ?_ GE381.out) | exact HB.out)))); have n1_ := zB.mk (zN (g := gb381) (o := .cells #[.int .i64 a0_0, .int .i64 a0_1, .slice A0_2 l0_2.length c0_2] 28 (0, 0)) (by (with_reducible repeat (first | refine zC ?_ _ | refine zG ?_ | refine zD ?_ _)); exact BK381.out) hb); have n2_ := zB.mk (zK (by repeat (first | (with_reducible first | exact HB.out | apply zF | apply zA | apply zE | refine zH ?_ GE381.out) | exact HB.out)) hb); clear BK381; clear HB; have HO384 := n0_; have BK381 := n1_; have HB := n2_; clear n0_ n1_ n2_; clear hb ho4))
 go_loopg [3, 8] k (fun kq v3 v8 w' => ∃ (x3_1 : List (S36)) (x8_1 : Int), v8 = .int .i64 x8_1 ∧ zB (zY.l0 kq x3_1 x8_1 a0_0 a0_1 l0_2 = some r) ∧ zB (kq ≤ k) ∧ zB (Kd.R k36 36 w' w.heap.size (fun _ => True) v3 x3_1) ∧ zB (w'.heap[gb381]? = some (.cells #[.int .i64 a0_0, .int .i64 a0_1, (.slice A0_2 l0_2.length c0_2)] 28 (0, 0))) ∧ zB (Below w.heap.size w w'))
 case atStart => exact ⟨(y382), (0), (by first | rfl | (simp; done) | (simp [*]; done)), H', ⟨Nat.le_refl _⟩, ⟨by (with_reducible repeat (first | apply Kd.R_alloc | apply Kd.R_drewN | apply Kd.R_drew)); exact HO384.out⟩, ⟨by (with_reducible repeat (first | refine zC ?_ _ | refine zG ?_ | refine zD ?_ _)); exact BK381.out⟩, ⟨by repeat (first | (with_reducible first | exact HB.out | apply zF | apply zA | apply zE | refine zH ?_ GE381.out) | exact HB.out)⟩⟩
 case round =>
  clear H'
  try clear p2
  obtain ⟨x3_1, x8_1, rfl, HA, HK1, HO_3, BK381, HB⟩ := hrel
  cases gk with
  | zero => exact absurd HA.out (by simp [zY.l0])
  | succ k1 =>
   have H := HA.out
   clear HA
   simp only [zY.l0] at H
   by_cases c5 : x8_1 < 4
   ·
    rw [if_pos c5] at H
    have c5b0 : decide (x8_1 < 4) = true := decide_eq_true c5
    clear c5
    replace H := Option.bind_eq_some_iff.mp H
    obtain ⟨t385, A60, H⟩ := H
    replace H : (zY.l1 k1 x3_1 x8_1 x8_1 t385 0 a0_0 a0_1 l0_2) = some r := H
    have A6 := zB.mk A60
    clear A60
    have H' := zB.mk H
    clear H
    have hcz7_0 : wr.cell? ⟨gb381, 0, none⟩ = some (.int .i64 a0_0) := zJ BK381.out 0
    have hcz7_1 : wr.cell? ⟨gb381, 1, none⟩ = some (.int .i64 a0_1) := zJ BK381.out 1
    have hcz7_2 : wr.cell? ⟨gb381, 2, none⟩ = some (.slice A0_2 l0_2.length c0_2) := zJ BK381.out 2
    have hfz7_0 := zI BK381.out 0
    have hfz7_1 := zI BK381.out 1
    have hfz7_2 := zI BK381.out 2
    go_wp2_with (first | ((with_reducible refine zR (f := 63) rfl ?_); refine zV (some 12) rfl rfl Try.func63 (by kernel_rfl) rfl #[.agg #[.int .i64 a0_0, .int .i64 a0_1, .slice A0_2 l0_2.length c0_2]] rfl (by (try simp only [List.map_toArray, List.map_cons, List.map_nil]); first | done | rfl) ?_; (with_reducible refine (yC.calls k1 a0_0 a0_1 _ _ l0_2 t385 _ ?side1 ?side2 A6.out).mono ?_); (case side1 => repeat (first | exact (Kd.C_below HR0_2.out HB.out) | (with_reducible refine Kd.C_alloc ?_ _) | (with_reducible refine Kd.C_drewN ?_ _) | (with_reducible refine Kd.C_drew ?_))); (case side2 => exact HC0_2.out); rintro e w8 ⟨rfl, hb⟩; refine ⟨_, rfl, ?_⟩; have n0_ := zB.mk (Kd.R_below (by (with_reducible repeat (first | apply Kd.R_alloc | apply Kd.R_drewN | apply Kd.R_drew)); exact HO_3.out) hb); have n1_ := zB.mk (zN (g := gb381) (o := .cells #[.int .i64 a0_0, .int .i64 a0_1, .slice A0_2 l0_2.length c0_2] 28 (0, 0)) (by (with_reducible repeat (first | refine zC ?_ _ | refine zG ?_ | refine zD ?_ _)); exact BK381.out) hb); have n2_ := zB.mk (zK (by repeat (first | (with_reducible first | exact HB.out | apply zF | apply zA | apply zE | refine zH ?_ GE381.out) | exact HB.out)) hb); clear HO_3; clear BK381; clear HB; have HO_3 := n0_; have BK381 := n1_; have HB := n2_; clear n0_ n1_ n2_; (try clear hb)))
    go_loopg [3, 13] k1 (fun kq v3 v13 w' => ∃ (x3_2 : List (S36)) (x13_2 : Int), v13 = .int .i64 x13_2 ∧ zB (zY.l1 kq x3_2 x8_1 x8_1 t385 x13_2 a0_0 a0_1 l0_2 = some r) ∧ zB (kq ≤ k1) ∧ zB (Kd.R k36 36 w' w.heap.size (fun _ => True) v3 x3_2) ∧ zB (w'.heap[gb381]? = some (.cells #[.int .i64 a0_0, .int .i64 a0_1, (.slice A0_2 l0_2.length c0_2)] 28 (0, 0))) ∧ zB (Below w.heap.size w w'))
    case atStart => exact ⟨(x3_1), (0), (by first | rfl | (simp; done) | (simp [*]; done)), H', ⟨Nat.le_refl _⟩, ⟨by (with_reducible repeat (first | apply Kd.R_alloc | apply Kd.R_drewN | apply Kd.R_drew)); exact HO_3.out⟩, ⟨by (with_reducible repeat (first | refine zC ?_ _ | refine zG ?_ | refine zD ?_ _)); exact BK381.out⟩, ⟨by repeat (first | (with_reducible first | exact HB.out | apply zF | apply zA | apply zE | refine zH ?_ GE381.out) | exact HB.out)⟩⟩
    case round =>
     clear H'
     try clear p2
     try clear c5
     try clear c5b0
     try clear c6
     try clear c7
     try clear hcz7_0
     try clear hcz7_1
     try clear hcz7_2
     try clear hfz7_0
     try clear hfz7_1
     try clear hfz7_2
     try clear p2
     obtain ⟨x3_2, x13_2, rfl, HA, HK2, HO_3, BK381, HB⟩ := hrel
     cases gk with
     | zero => exact absurd HA.out (by simp [zY.l1])
     | succ k2 =>
      have H := HA.out
      clear HA
      simp only [zY.l1] at H
      by_cases c9 : x13_2 < t385
      ·
       rw [if_pos c9] at H
       have c9b0 : decide (x13_2 < t385) = true := decide_eq_true c9
       clear c9
       replace H := Option.bind_eq_some_iff.mp H
       obtain ⟨t387, A100, H⟩ := H
       replace H : (if t387 = true then (if x3_2.length < 8796093022208 then (zY.l1 k2 (x3_2 ++ [(⟨decide (x8_1 ≥ 2), ((Int.tmod x8_1 2) == 1), x13_2⟩ : S36)]) x8_1 x8_1 t385 (wrap64 (x13_2 + 1)) a0_0 a0_1 l0_2) else (none)) else (zY.l1 k2 x3_2 x8_1 x8_1 t385 (wrap64 (x13_2 + 1)) a0_0 a0_1 l0_2)) = some r := H
       have A10 := zB.mk A100
       clear A100
       by_cases c11 : t387 = true
       ·
        subst c11
        have H1 : (if x3_2.length < 8796093022208 then (zY.l1 k2 (x3_2 ++ [(⟨decide (x8_1 ≥ 2), ((Int.tmod x8_1 2) == 1), x13_2⟩ : S36)]) x8_1 x8_1 t385 (wrap64 (x13_2 + 1)) a0_0 a0_1 l0_2) else (none)) = some r := by rw [if_pos rfl] at H; exact H
        clear H
        have H := H1
        clear H1
        by_cases c12 : x3_2.length < 8796093022208
        ·
         rw [if_pos c12] at H
         have LMc12 := zB.mk c12
         clear c12
         obtain ⟨y388, hy388⟩ : ∃ y_ : List (S36), y_ = (x3_2 ++ [(⟨decide (x8_1 ≥ 2), ((Int.tmod x8_1 2) == 1), x13_2⟩ : S36)]) := ⟨_, rfl⟩
         replace H : (zY.l1 k2 y388 x8_1 x8_1 t385 (wrap64 (x13_2 + 1)) a0_0 a0_1 l0_2) = some r := by first | (rw [hy388]; with_reducible exact H) | (have H2_ := (Option.bind_some _ _).symm.trans H; rw [hy388]; with_reducible exact H2_) | (have H2_ := (Option.bind_some _ _).symm.trans H; with_reducible exact H2_) | with_reducible exact H | (rw [hy388]; exact H) | exact H
         have Ny388 := zB.mk hy388
         clear hy388
         have H' := zB.mk H
         clear H
         go_wp2_with (first | ((with_reducible refine zP (N := 6) rfl ?_); refine zO ?hg (N := 6) ?hd (cs := #[.bool false, .bool false, .int .i64 0]) (t := 36) ?hr ?_; (case hd => rfl); (case hg => rfl); (case hr => first | (go_simp; done) | (go_simp; rfl)); intro gb386 hg w13 hbox hb; have n0_ := zB.mk (Kd.R_below (Kd.R_elderB (by (with_reducible repeat (first | apply Kd.R_alloc | apply Kd.R_drewN | apply Kd.R_drew)); exact HO_3.out) gb386 (Nat.le_of_eq hg.symm)) hb); have n1_ := zB.mk (zN (g := gb381) (o := .cells #[.int .i64 a0_0, .int .i64 a0_1, .slice A0_2 l0_2.length c0_2] 28 (0, 0)) (by (with_reducible repeat (first | refine zC ?_ _ | refine zG ?_ | refine zD ?_ _)); exact BK381.out) hb); have n2_ := zB.mk (zK (by repeat (first | (with_reducible first | exact HB.out | apply zF | apply zA | apply zE | refine zH ?_ GE381.out) | exact HB.out)) hb); have n3_ := zB.mk (hbox); have n4_ := zB.mk ((by rw [hg]; exact (zM (by repeat (first | (with_reducible first | exact HB.out | apply zF | apply zA | apply zE | refine zH ?_ GE381.out) | exact HB.out))) : w.heap.size ≤ gb386)); have n5_ := n4_; have n6_ := zB.mk ((by rw [hg]; exact Nat.ne_of_lt (zQ (by (with_reducible repeat (first | refine zC ?_ _ | refine zG ?_ | refine zD ?_ _)); exact BK381.out)) : gb381 ≠ gb386)); have n7_ := zB.mk n6_.out.symm; clear HO_3; clear BK381; clear HB; have HO_3 := n0_; have BK381 := n1_; have HB := n2_; have BK386 := n3_; have GW386 := n4_; have GE386 := n5_; have NB381_386 := n6_; have NB386_381 := n7_; clear n0_ n1_ n2_ n3_ n4_ n5_ n6_ n7_; clear hb hbox hg; have hnb14 := NB386_381.out; have hnc14 := NB381_386.out; have hcz15_0 : w13.cell? ⟨gb386, 0, none⟩ = some (.bool false) := zJ BK386.out 0; have hcz15_1 : w13.cell? ⟨gb386, 1, none⟩ = some (.bool false) := zJ BK386.out 1; have hcz15_2 : w13.cell? ⟨gb386, 2, none⟩ = some (.int .i64 0) := zJ BK386.out 2; have hfz15_0 := zI BK386.out 0; have hfz15_1 := zI BK386.out 1; have hfz15_2 := zI BK386.out 2; have hcz16_0 : w13.cell? ⟨gb381, 0, none⟩ = some (.int .i64 a0_0) := zJ BK381.out 0; have hcz16_1 : w13.cell? ⟨gb381, 1, none⟩ = some (.int .i64 a0_1) := zJ BK381.out 1; have hcz16_2 : w13.cell? ⟨gb381, 2, none⟩ = some (.slice A0_2 l0_2.length c0_2) := zJ BK381.out 2; have hfz16_0 := zI BK381.out 0; have hfz16_1 := zI BK381.out 1; have hfz16_2 := zI BK381.out 2) | ((with_reducible refine zR (f := 104) rfl ?_); refine zV (some 25) rfl rfl Try.func104 (by kernel_rfl) rfl #[.agg #[.int .i64 a0_0, .int .i64 a0_1, .slice A0_2 l0_2.length c0_2], .agg #[.bool (decide (x8_1 ≥ 2)), .bool ((Int.tmod x8_1 2) == 1), .int .i64 x13_2]] rfl (by (try simp only [List.map_toArray, List.map_cons, List.map_nil]); first | done | rfl) ?_; (with_reducible refine (zZ.calls k2 a0_0 a0_1 _ _ l0_2 (decide (x8_1 ≥ 2)) ((Int.tmod x8_1 2) == 1) x13_2 true _ ?side1 ?side2 A10.out).mono ?_); (case side1 => exact Kd.C_below HR0_2.out (by repeat (first | (with_reducible first | exact HB.out | apply zF | apply zA | apply zE | refine zH ?_ GE381.out | refine zH ?_ GE386.out) | exact HB.out))); (case side2 => exact HC0_2.out); rintro e w17 ⟨rfl, hb⟩; refine ⟨_, rfl, ?_⟩; have n0_ := zB.mk (Kd.R_below (by (with_reducible repeat (first | apply Kd.R_alloc | apply Kd.R_drewN | apply Kd.R_drew)); exact (Kd.R_mono (Kd.R_far (p := ⟨gb386, 2, none⟩) (Kd.R_far (p := ⟨gb386, 1, none⟩) (Kd.R_far (p := ⟨gb386, 0, none⟩) (Kd.R_mono HO_3.out (fun k_ hk => (⟨hk, hk.2⟩ : _ ∧ k_ ≠ gb386))) (fun _ hk => hk.2) (.bool (decide (x8_1 ≥ 2)))) (fun _ hk => hk.2) (.bool ((Int.tmod x8_1 2) == 1))) (fun _ hk => hk.2) (.int .i64 x13_2)) (fun _ h_ => h_.1))) hb); have n1_ := zB.mk (zN (g := gb381) (o := .cells #[.int .i64 a0_0, .int .i64 a0_1, .slice A0_2 l0_2.length c0_2] 28 (0, 0)) (by (with_reducible repeat (first | refine zC ?_ _ | refine zG ?_ | refine zD ?_ _)); refine zL ?_ NB381_386.out _; (with_reducible repeat (first | refine zC ?_ _ | refine zG ?_ | refine zD ?_ _)); refine zL ?_ NB381_386.out _; (with_reducible repeat (first | refine zC ?_ _ | refine zG ?_ | refine zD ?_ _)); refine zL ?_ NB381_386.out _; (with_reducible repeat (first | refine zC ?_ _ | refine zG ?_ | refine zD ?_ _)); exact BK381.out) hb); have n2_ := zB.mk (zN (g := gb386) (o := .cells #[.bool (decide (x8_1 ≥ 2)), .bool ((Int.tmod x8_1 2) == 1), .int .i64 x13_2] 36 (0, 0)) (by (with_reducible repeat (first | refine zC ?_ _ | refine zG ?_ | refine zD ?_ _)); refine blk_put (cs := #[.bool (decide (x8_1 ≥ 2)), .bool ((Int.tmod x8_1 2) == 1), .int .i64 0]) ?_ 2 _ rfl; (with_reducible repeat (first | refine zC ?_ _ | refine zG ?_ | refine zD ?_ _)); refine blk_put (cs := #[.bool (decide (x8_1 ≥ 2)), .bool false, .int .i64 0]) ?_ 1 _ rfl; (with_reducible repeat (first | refine zC ?_ _ | refine zG ?_ | refine zD ?_ _)); refine blk_put (cs := #[.bool false, .bool false, .int .i64 0]) ?_ 0 _ rfl; (with_reducible repeat (first | refine zC ?_ _ | refine zG ?_ | refine zD ?_ _)); exact BK386.out) hb); have n3_ := zB.mk (zK (by repeat (first | (with_reducible first | exact HB.out | apply zF | apply zA | apply zE | refine zH ?_ GE381.out | refine zH ?_ GE386.out) | exact HB.out)) hb); clear HO_3; clear BK381; clear BK386; clear HB; have HO_3 := n0_; have BK381 := n1_; have BK386 := n2_; have HB := n3_; clear n0_ n1_ n2_ n3_; (try clear hb); have hcz18_0 : w17.cell? ⟨gb386, 0, none⟩ = some (.bool (decide (x8_1 ≥ 2))) := zJ BK386.out 0; have hcz18_1 : w17.cell? ⟨gb386, 1, none⟩ = some (.bool ((Int.tmod x8_1 2) == 1)) := zJ BK386.out 1; have hcz18_2 : w17.cell? ⟨gb386, 2, none⟩ = some (.int .i64 x13_2) := zJ BK386.out 2; have hfz18_0 := zI BK386.out 0; have hfz18_1 := zI BK386.out 1; have hfz18_2 := zI BK386.out 2) | ((with_reducible refine gate_builtin (b := .append) (xs := #[.tmp 26, .tmp 28]) rfl ?_); at_builtin; refine Kd.R_append k36 (w0 := w) w.heap.size rfl (.tmp 26) (.tmp 28) 43 36 (.agg #[(.bool false), (.bool false), (.int .i64 0)]) 16 rfl Try.underlying43 info36 rfl (by decide) (by omega) u3 x3_2 (⟨decide (x8_1 ≥ 2), ((Int.tmod x8_1 2) == 1), x13_2⟩ : S36) [.bool (decide (x8_1 ≥ 2)), .bool ((Int.tmod x8_1 2) == 1), .int .i64 x13_2] (fun k_ => k_ ≠ gb386) (fun _ => False) rfl rfl ?aP (fun _ hk => hk.elim) ?aF ?aO ?aB ?aS ?aL ?_; (case aP => exact k36_mkM _ _ _ (⟨decide (x8_1 ≥ 2), ((Int.tmod x8_1 2) == 1), x13_2⟩ : S36)); (case aB => exact (by repeat (first | (with_reducible first | exact HB.out | apply zF | apply zA | apply zE | refine zH ?_ GE381.out | refine zH ?_ GE386.out) | exact HB.out))); (case aF => exact (fun k_ hk => Kd.freshB (g := gb386) (o := .cells #[.bool (decide (x8_1 ≥ 2)), .bool ((Int.tmod x8_1 2) == 1), .int .i64 x13_2] 36 (0, 0)) (by (with_reducible repeat (first | refine zC ?_ _ | refine zG ?_ | refine zD ?_ _)); exact BK386.out) k_ hk)); (case aO => exact (by (with_reducible repeat (first | apply Kd.R_alloc | apply Kd.R_drewN | apply Kd.R_drew)); exact Kd.R_mono HO_3.out (fun _ hk => hk.2))); (case aS => exact (zM (by repeat (first | (with_reducible first | exact HB.out | apply zF | apply zA | apply zE | refine zH ?_ GE381.out | refine zH ?_ GE386.out) | exact HB.out)))); (case aL => have := LMc12.out; omega); intro v389 w19 ho hb hg hat; rw [← Ny388.out] at ho; have n0_ := zB.mk (blk_grown (g := gb381) (o := .cells #[.int .i64 a0_0, .int .i64 a0_1, .slice A0_2 l0_2.length c0_2] 28 (0, 0)) (by (with_reducible repeat (first | refine zC ?_ _ | refine zG ?_ | refine zD ?_ _)); exact BK381.out) hg (Kd.R_ne HO_3.out BK381.out (by decide))); have n1_ := zB.mk (blk_grown (g := gb386) (o := .cells #[.bool (decide (x8_1 ≥ 2)), .bool ((Int.tmod x8_1 2) == 1), .int .i64 x13_2] 36 (0, 0)) (by (with_reducible repeat (first | refine zC ?_ _ | refine zG ?_ | refine zD ?_ _)); exact BK386.out) hg (Kd.R_away HO_3.out (fun _ hk => hk.2))); have n2_ := zB.mk (hb); have n3_ := zB.mk (ho); clear BK381; clear BK386; clear HB; clear HO_3; have BK381 := n0_; have BK386 := n1_; have HB := n2_; have HO390 := n3_; clear n0_ n1_ n2_ n3_; clear ho hb hg hat))
         go_roundg k2
         case measure => have := HK1.out; have := HK2.out; omega
         case rel => exact ⟨(y388), (wrap64 (x13_2 + 1)), (by first | rfl | (simp; done) | (simp [*]; done)), H', ⟨by have := HK1.out; have := HK2.out; omega⟩, ⟨by (with_reducible repeat (first | apply Kd.R_alloc | apply Kd.R_drewN | apply Kd.R_drew)); exact Kd.R_mono HO390.out (fun _ hk => trivial)⟩, ⟨by (with_reducible repeat (first | refine zC ?_ _ | refine zG ?_ | refine zD ?_ _)); exact BK381.out⟩, ⟨by repeat (first | (with_reducible first | exact HB.out | apply zF | apply zA | apply zE | refine zH ?_ GE381.out | refine zH ?_ GE386.out) | exact HB.out)⟩⟩
        ·
         rw [if_neg c12] at H
         exact absurd H (by simp)
       ·
        replace c11 := Bool.eq_false_iff.mpr c11
        subst c11
        have H1 : (zY.l1 k2 x3_2 x8_1 x8_1 t385 (wrap64 (x13_2 + 1)) a0_0 a0_1 l0_2) = some r := by rw [if_neg (show ¬ (false = true) by decide)] at H; exact H
        clear H
        have H := H1
        clear H1
        have H' := zB.mk H
        clear H
        go_wp2_with (first | ((with_reducible refine zP (N := 6) rfl ?_); refine zO ?hg (N := 6) ?hd (cs := #[.bool false, .bool false, .int .i64 0]) (t := 36) ?hr ?_; (case hd => rfl); (case hg => rfl); (case hr => first | (go_simp; done) | (go_simp; rfl)); intro gb386 hg w20 hbox hb; have n0_ := zB.mk (Kd.R_below (Kd.R_elderB (by (with_reducible repeat (first | apply Kd.R_alloc | apply Kd.R_drewN | apply Kd.R_drew)); exact HO_3.out) gb386 (Nat.le_of_eq hg.symm)) hb); have n1_ := zB.mk (zN (g := gb381) (o := .cells #[.int .i64 a0_0, .int .i64 a0_1, .slice A0_2 l0_2.length c0_2] 28 (0, 0)) (by (with_reducible repeat (first | refine zC ?_ _ | refine zG ?_ | refine zD ?_ _)); exact BK381.out) hb); have n2_ := zB.mk (zK (by repeat (first | (with_reducible first | exact HB.out | apply zF | apply zA | apply zE | refine zH ?_ GE381.out) | exact HB.out)) hb); have n3_ := zB.mk (hbox); have n4_ := zB.mk ((by rw [hg]; exact (zM (by repeat (first | (with_reducible first | exact HB.out | apply zF | apply zA | apply zE | refine zH ?_ GE381.out) | exact HB.out))) : w.heap.size ≤ gb386)); have n5_ := n4_; have n6_ := zB.mk ((by rw [hg]; exact Nat.ne_of_lt (zQ (by (with_reducible repeat (first | refine zC ?_ _ | refine zG ?_ | refine zD ?_ _)); exact BK381.out)) : gb381 ≠ gb386)); have n7_ := zB.mk n6_.out.symm; clear HO_3; clear BK381; clear HB; have HO_3 := n0_; have BK381 := n1_; have HB := n2_; have BK386 := n3_; have GW386 := n4_; have GE386 := n5_; have NB381_386 := n6_; have NB386_381 := n7_; clear n0_ n1_ n2_ n3_ n4_ n5_ n6_ n7_; clear hb hbox hg; have hnb21 := NB386_381.out; have hnc21 := NB381_386.out; have hcz22_0 : w20.cell? ⟨gb386, 0, none⟩ = some (.bool false) := zJ BK386.out 0; have hcz22_1 : w20.cell? ⟨gb386, 1, none⟩ = some (.bool false) := zJ BK386.out 1; have hcz22_2 : w20.cell? ⟨gb386, 2, none⟩ = some (.int .i64 0) := zJ BK386.out 2; have hfz22_0 := zI BK386.out 0; have hfz22_1 := zI BK386.out 1; have hfz22_2 := zI BK386.out 2; have hcz23_0 : w20.cell? ⟨gb381, 0, none⟩ = some (.int .i64 a0_0) := zJ BK381.out 0; have hcz23_1 : w20.cell? ⟨gb381, 1, none⟩ = some (.int .i64 a0_1) := zJ BK381.out 1; have hcz23_2 : w20.cell? ⟨gb381, 2, none⟩ = some (.slice A0_2 l0_2.length c0_2) := zJ BK381.out 2; have hfz23_0 := zI BK381.out 0; have hfz23_1 := zI BK381.out 1; have hfz23_2 := zI BK381.out 2) | ((with_reducible refine zR (f := 104) rfl ?_); refine zV (some 25) rfl rfl Try.func104 (by kernel_rfl) rfl #[.agg #[.int .i64 a0_0, .int .i64 a0_1, .slice A0_2 l0_2.length c0_2], .agg #[.bool (decide (x8_1 ≥ 2)), .bool ((Int.tmod x8_1 2) == 1), .int .i64 x13_2]] rfl (by (try simp only [List.map_toArray, List.map_cons, List.map_nil]); first | done | rfl) ?_; (with_reducible refine (zZ.calls k2 a0_0 a0_1 _ _ l0_2 (decide (x8_1 ≥ 2)) ((Int.tmod x8_1 2) == 1) x13_2 false _ ?side1 ?side2 A10.out).mono ?_); (case side1 => exact Kd.C_below HR0_2.out (by repeat (first | (with_reducible first | exact HB.out | apply zF | apply zA | apply zE | refine zH ?_ GE381.out | refine zH ?_ GE386.out) | exact HB.out))); (case side2 => exact HC0_2.out); rintro e w24 ⟨rfl, hb⟩; refine ⟨_, rfl, ?_⟩; have n0_ := zB.mk (Kd.R_below (by (with_reducible repeat (first | apply Kd.R_alloc | apply Kd.R_drewN | apply Kd.R_drew)); exact (Kd.R_mono (Kd.R_far (p := ⟨gb386, 2, none⟩) (Kd.R_far (p := ⟨gb386, 1, none⟩) (Kd.R_far (p := ⟨gb386, 0, none⟩) (Kd.R_mono HO_3.out (fun k_ hk => (⟨hk, hk.2⟩ : _ ∧ k_ ≠ gb386))) (fun _ hk => hk.2) (.bool (decide (x8_1 ≥ 2)))) (fun _ hk => hk.2) (.bool ((Int.tmod x8_1 2) == 1))) (fun _ hk => hk.2) (.int .i64 x13_2)) (fun _ h_ => h_.1))) hb); have n1_ := zB.mk (zN (g := gb381) (o := .cells #[.int .i64 a0_0, .int .i64 a0_1, .slice A0_2 l0_2.length c0_2] 28 (0, 0)) (by (with_reducible repeat (first | refine zC ?_ _ | refine zG ?_ | refine zD ?_ _)); refine zL ?_ NB381_386.out _; (with_reducible repeat (first | refine zC ?_ _ | refine zG ?_ | refine zD ?_ _)); refine zL ?_ NB381_386.out _; (with_reducible repeat (first | refine zC ?_ _ | refine zG ?_ | refine zD ?_ _)); refine zL ?_ NB381_386.out _; (with_reducible repeat (first | refine zC ?_ _ | refine zG ?_ | refine zD ?_ _)); exact BK381.out) hb); have n2_ := zB.mk (zN (g := gb386) (o := .cells #[.bool (decide (x8_1 ≥ 2)), .bool ((Int.tmod x8_1 2) == 1), .int .i64 x13_2] 36 (0, 0)) (by (with_reducible repeat (first | refine zC ?_ _ | refine zG ?_ | refine zD ?_ _)); refine blk_put (cs := #[.bool (decide (x8_1 ≥ 2)), .bool ((Int.tmod x8_1 2) == 1), .int .i64 0]) ?_ 2 _ rfl; (with_reducible repeat (first | refine zC ?_ _ | refine zG ?_ | refine zD ?_ _)); refine blk_put (cs := #[.bool (decide (x8_1 ≥ 2)), .bool false, .int .i64 0]) ?_ 1 _ rfl; (with_reducible repeat (first | refine zC ?_ _ | refine zG ?_ | refine zD ?_ _)); refine blk_put (cs := #[.bool false, .bool false, .int .i64 0]) ?_ 0 _ rfl; (with_reducible repeat (first | refine zC ?_ _ | refine zG ?_ | refine zD ?_ _)); exact BK386.out) hb); have n3_ := zB.mk (zK (by repeat (first | (with_reducible first | exact HB.out | apply zF | apply zA | apply zE | refine zH ?_ GE381.out | refine zH ?_ GE386.out) | exact HB.out)) hb); clear HO_3; clear BK381; clear BK386; clear HB; have HO_3 := n0_; have BK381 := n1_; have BK386 := n2_; have HB := n3_; clear n0_ n1_ n2_ n3_; (try clear hb)))
        go_roundg k2
        case measure => have := HK1.out; have := HK2.out; omega
        case rel => exact ⟨(x3_2), (wrap64 (x13_2 + 1)), (by first | rfl | (simp; done) | (simp [*]; done)), H', ⟨by have := HK1.out; have := HK2.out; omega⟩, ⟨by (with_reducible repeat (first | apply Kd.R_alloc | apply Kd.R_drewN | apply Kd.R_drew)); exact Kd.R_mono HO_3.out (fun _ hk => trivial)⟩, ⟨by (with_reducible repeat (first | refine zC ?_ _ | refine zG ?_ | refine zD ?_ _)); exact BK381.out⟩, ⟨by repeat (first | (with_reducible first | exact HB.out | apply zF | apply zA | apply zE | refine zH ?_ GE381.out | refine zH ?_ GE386.out) | exact HB.out)⟩⟩
      ·
       rw [if_neg c9] at H
       have c9b0 : decide (x13_2 < t385) = false := decide_eq_false c9
       clear c9
       have H' := zB.mk H
       clear H
       go_wp2
       go_roundg k2
       case measure => have := HK1.out; have := HK2.out; omega
       case rel => exact ⟨(x3_2), (wrap64 (x8_1 + 1)), (by first | rfl | (simp; done) | (simp [*]; done)), H', ⟨by have := HK1.out; have := HK2.out; omega⟩, ⟨by (with_reducible repeat (first | apply Kd.R_alloc | apply Kd.R_drewN | apply Kd.R_drew)); exact HO_3.out⟩, ⟨by (with_reducible repeat (first | refine zC ?_ _ | refine zG ?_ | refine zD ?_ _)); exact BK381.out⟩, ⟨by repeat (first | (with_reducible first | exact HB.out | apply zF | apply zA | apply zE | refine zH ?_ GE381.out) | exact HB.out)⟩⟩
   ·
    rw [if_neg c5] at H
    have c5b0 : decide (x8_1 < 4) = false := decide_eq_false c5
    clear c5
    obtain rfl := Option.some.inj H
    go_wp2
    go_ret
    exact ⟨_, by first | rfl | (simp [*, errW_none, errW_some] <;> rfl), by (with_reducible repeat (first | apply Kd.R_alloc | apply Kd.R_drewN | apply Kd.R_drew)); exact HO_3.out, by repeat (first | (with_reducible first | exact HB.out | apply zF | apply zA | apply zE | refine zH ?_ GE381.out) | exact HB.out)⟩
end Go.Proofs.Ytjjockhekaccnaa.X
