/-
  AscentNext: for every two windows and every time: the next meeting is the same whichever window is named first, it is a meeting, none comes before it, it comes again after the least common multiple of the periods and is less than that far away; there is none just if they never meet. No condition.
-/
import Derived.Test.YtffbipcdlnfihaaAlive04
import Derived.Test.YtffbipcdlnfihaaNextN
import Derived.Test.YtffbipcdlnfihaaNextOut
import Derived.Test.YtffbipcdlnfihaaOpenAll
import Derived.Test.YtffbipcdlnfihaaRows
namespace Go.Proofs.Ytffbipcdlnfihaa
open Go.RowKit
set_option maxRecDepth 100000
set_option maxHeartbeats 8000000
theorem nextO_any (P F L Q G M t : Int) (w : World) :
    Calls Try.prog 6 #[.agg #[.int .i64 P, .int .i64 F, .int .i64 L], .agg #[.int .i64 Q, .int .i64 G, .int .i64 M], .int .i64 t] w fun e w' => e = .returned (.tuple #[.int .i64 (nextV P F L Q G M t), .int .i64 (nextE P F L Q G M t)]) ∧ Grew w w' := by
  cases h : nextG P F L Q G M t
  · exact next_bad P F L Q G M t h w
  · have h' := h
    simp only [nextG, pairB, Bool.and_eq_true] at h'
    exact next_good P F L Q G M t h'.1.1 h'.1.2 h'.2 w
theorem pairB_sym (P F L Q G M : Int) : pairB Q G M P F L = pairB P F L Q G M := Bool.and_comm _ _
theorem nextG_sym (P F L Q G M t : Int) : nextG Q G M P F L t = nextG P F L Q G M t := by unfold nextG; rw [pairB_sym]
theorem pairE_sym (P F L Q G M : Int) : pairE Q G M P F L = pairE P F L Q G M := by unfold pairE; rw [pairB_sym]
theorem nextZ_symB {P F L Q G M : Int} (h : pairB P F L Q G M = true) (t : Int) : nextZ Q G M P F L t = nextZ P F L Q G M t := by
  simp only [pairB, Bool.and_eq_true] at h
  obtain ⟨p1, p2, f1, f2, l1, l2⟩ := (validB_iff P F L).1 h.1
  obtain ⟨q1, q2, g1, g2, m1, m2⟩ := (validB_iff Q G M).1 h.2
  exact (next_sym (by omega) (by omega) l1 l2 m1 m2 t).symm
theorem nextV_sym (P F L Q G M t : Int) : nextV Q G M P F L t = nextV P F L Q G M t := by
  unfold nextV
  rw [nextG_sym]
  cases h : nextG P F L Q G M t
  · rfl
  · rw [nextZ_symB (by simp only [nextG, Bool.and_eq_true] at h; exact h.1)]
theorem nextE_sym (P F L Q G M t : Int) : nextE Q G M P F L t = nextE P F L Q G M t := by
  unfold nextE
  rw [nextG_sym]
  cases h : nextG P F L Q G M t
  · rfl
  · rw [nextZ_symB (by simp only [nextG, Bool.and_eq_true] at h; exact h.1)]
theorem oftenV_sym (P F L Q G M : Int) : oftenV Q G M P F L = oftenV P F L Q G M := by
  unfold oftenV
  rw [pairB_sym]
  cases h : pairB P F L Q G M
  · rfl
  · simp only [pairB, Bool.and_eq_true] at h
    obtain ⟨p, l, rfl, rfl, p1, p2, p3, -⟩ := valid_nat h.1
    obtain ⟨q, m, rfl, rfl, q1, q2, q3, -⟩ := valid_nat h.2
    simp only [Int.toNat_natCast]
    rw [often_sym (p := p) (q := q) (by omega) (by omega) (by omega) (by omega)]
theorem gcd_shift {p q g : Nat} (h : p.gcd q = g) (_h0 : 0 < q) : q.gcd (p % q) = g := by rw [gcd_step, h]
theorem next_walk (P F L Q G M t : Int) (w : World) : Calls Try.prog 3 #[.agg #[.int .i64 P, .int .i64 F, .int .i64 L], .agg #[.int .i64 Q, .int .i64 G, .int .i64 M], .int .i64 t] w fun e w' => e = .returned (.bool true) ∧ Grew w w' := by
  have HN1 := Lib.hid (fun w => nextO_any P F L Q G M t w)
  have HN2 := Lib.hid (fun w => nextO_any Q G M P F L t w)
  have HO1 := Lib.hid (fun w => often_any P F L Q G M w)
  have HO2 := Lib.hid (fun w => often_any Q G M P F L w)
  rw [nextV_sym P F L Q G M t, nextE_sym P F L Q G M t] at HN2
  rw [oftenV_sym P F L Q G M, pairE_sym P F L Q G M] at HO2
  cases hG : nextG P F L Q G M t
  · have hE : nextE P F L Q G M t = 2 := by simp [nextE, hG]
    rw [hE] at HN1 HN2
    generalize nextV P F L Q G M t = X at *
    generalize oftenV P F L Q G M = N at *
    generalize pairE P F L Q G M = E at *
    clear hG hE
    go_enter Try.func3, Try.ntmps3
    go_wp2_with (first | (go_at_call 5; (with_reducible refine call_later (l4Alive_any _) ?_); intro u) | (go_at_call 6; (with_reducible refine call_later (HN1.out _) ?_); intro u) | (go_at_call 6; (with_reducible refine call_later (HN2.out _) ?_); intro u) | (go_at_call 7; (with_reducible refine call_later (HO1.out _) ?_); intro u) | (go_at_call 7; (with_reducible refine call_later (HO2.out _) ?_); intro u) | ((with_reducible refine wp_region_later ?_ ?_ ?_); (· kernel_rfl); (· kernel_rfl); (try simp only [List.append_eq, List.cons_append, List.nil_append]); (repeat (go_big_quiet_step ((first | (go_at_call 5; (with_reducible exact call_quiet (l4Alive_any _))) | (go_at_call 6; (with_reducible exact call_quiet (HN1.out _))) | (go_at_call 6; (with_reducible exact call_quiet (HN2.out _))) | (go_at_call 7; (with_reducible exact call_quiet (HO1.out _))) | (go_at_call 7; (with_reducible exact call_quiet (HO2.out _))))))); refine wpQuiet_nil ?_; rintro _ ⟨u, rfl⟩))
    all_goals go_ret
    all_goals exact ⟨rfl, gw⟩
  have hpb : pairB P F L Q G M = true := by simp only [nextG, Bool.and_eq_true] at hG; exact hG.1
  have hlt : limB t = true := by simp only [nextG, Bool.and_eq_true] at hG; exact hG.2
  obtain ⟨t1, t2⟩ := limB_bd hlt
  have hv := hpb
  simp only [pairB, Bool.and_eq_true] at hv
  have HC1 := Lib.hid (fun x w => contains_any P F L x w)
  have HC2 := Lib.hid (fun x w => contains_any Q G M x w)
  have hc1 : ∀ x, containsB P F L x = decide ((x - F) % P < L) := fun x => by unfold containsB; rw [hv.1]; rfl
  have hc2 : ∀ x, containsB Q G M x = decide ((x - G) % Q < M) := fun x => by unfold containsB; rw [hv.2]; rfl
  have hN : oftenV P F L Q G M = (oftenN P.toNat L.toNat Q.toNat M.toNat F G : Nat) := by unfold oftenV; rw [if_pos hpb]
  have hE : pairE P F L Q G M = 0 := by unfold pairE; rw [if_pos hpb]
  have hX : nextV P F L Q G M t = (nextZ P F L Q G M t).getD 0 := by unfold nextV; rw [if_pos hG]
  have hX2 : nextE P F L Q G M t = if (nextZ P F L Q G M t).isSome then 0 else 7 := by unfold nextE; rw [if_pos hG]
  rw [hN, hE] at HO1 HO2
  rw [hX, hX2] at HN1 HN2
  clear hN hE hX hX2 hG hpb hlt
  obtain ⟨p, l, rfl, rfl, p1, p2, p3, f1, f2⟩ := valid_nat hv.1
  obtain ⟨q, m, rfl, rfl, q1, q2, q3, g1, g2⟩ := valid_nat hv.2
  clear hv
  simp only [Int.toNat_natCast] at HO1 HO2
  obtain ⟨n, hn⟩ : ∃ n : Int, n = (oftenN p l q m F G : Nat) := ⟨_, rfl⟩
  obtain ⟨A, hA⟩ : ∃ A : Int, A = (p.lcm q : Nat) := ⟨_, rfl⟩
  have n1 : n = 0 ↔ nextZ p F l q G m t = none := by
    rw [← often_none (F := F) (G := G) (p := p) (q := q) (l := l) (m := m) (by omega) (by omega) (by omega) (by omega) t]
    omega
  have n2 : 0 ≤ n ∧ n ≤ A := by
    have := often_le (F := F) (G := G) (p := p) (q := q) (l := l) (m := m) (by omega) (by omega) (by omega) (by omega)
    omega
  have n3 : A ≤ 1152921504606846976 := by
    have h1 := lcm_le p q
    have h2 := prod_bd2 (u := (p : Int)) (v := (q : Int)) (U := 1073741824) (V := 1073741824) (by omega) (by omega) (by omega) (by omega)
    have h3 : ((p * q : Nat) : Int) = (p : Int) * q := Int.natCast_mul p q
    omega
  have n4 : 1 ≤ A := by
    have : 0 < p.lcm q := Nat.lcm_pos (by omega) (by omega)
    omega
  have Hf := Lib.hid (fun x (h : nextZ p F l q G m t = some x) => next_facts (F := F) (G := G) (p := p) (q := q) (l := l) (m := m) (t := t) (x := x) (by omega) (by omega) (by omega) (by omega) h)
  have hl := lcm_div p q p1
  rw [← hn] at HO1 HO2
  rw [← hA] at Hf hl
  clear hn hA
  have hg : 0 < p.gcd q := Nat.gcd_pos_of_pos_left _ p1
  have hgp : p.gcd q ≤ p := Nat.le_of_dvd p1 (Nat.gcd_dvd_left p q)
  have HS := Lib.hid (fun (a b : Nat) (h : a.gcd b = p.gcd q) (h0 : 0 < b) => gcd_shift h h0)
  have H0 := Lib.hid (show ∀ a : Nat, a.gcd 0 = p.gcd q → a = p.gcd q from fun a h => by rw [← h, Nat.gcd_zero_right])
  have HG := Lib.hid (show p.gcd q = p.gcd q from rfl)
  have x4 := Int.ediv_nonneg (show (0 : Int) ≤ p by omega) (show (0 : Int) ≤ (p.gcd q : Nat) by omega)
  have x5 : (p : Int) / (p.gcd q : Nat) ≤ p := Int.ediv_le_self _ (by omega)
  obtain ⟨a7, a8⟩ := prod_bd2 (u := (p : Int) / (p.gcd q : Nat)) (v := (q : Int)) (U := 1073741824) (V := 1073741824) x4 (by omega) (by omega) (by omega)
  obtain ⟨g, hgg⟩ : ∃ g, p.gcd q = g := ⟨_, rfl⟩
  rw [hgg] at hg hgp HS H0 x4 x5 a7 a8 hl
  replace HG := Lib.hid hgg
  clear hgg
  have p1' : (1 : Int) ≤ p := by omega
  have p2' : (p : Int) ≤ 1073741824 := by omega
  have q1' : (1 : Int) ≤ q := by omega
  have q2' : (q : Int) ≤ 1073741824 := by omega
  cases hz : nextZ p F l q G m t with
  | none =>
    rw [hz] at HN1 HN2
    obtain rfl : n = 0 := n1.2 hz
    clear Hf n1 hz hc1 hc2 HC1 HC2
    simp only [Option.getD_none, Option.isSome_none] at HN1 HN2
    have nA : decide (A < 0) = false := by simp; omega
    go_enter Try.func3, Try.ntmps3
    go_wp2_with (first | (go_at_call 5; (with_reducible refine call_later (l4Alive_any _) ?_); intro u) | (go_at_call 6; (with_reducible refine call_later (HN1.out _) ?_); intro u) | (go_at_call 6; (with_reducible refine call_later (HN2.out _) ?_); intro u) | (go_at_call 7; (with_reducible refine call_later (HO1.out _) ?_); intro u) | (go_at_call 7; (with_reducible refine call_later (HO2.out _) ?_); intro u) | ((with_reducible refine wp_region_later ?_ ?_ ?_); (· kernel_rfl); (· kernel_rfl); (try simp only [List.append_eq, List.cons_append, List.nil_append]); (repeat (go_big_quiet_step ((first | (go_at_call 5; (with_reducible exact call_quiet (l4Alive_any _))) | (go_at_call 6; (with_reducible exact call_quiet (HN1.out _))) | (go_at_call 6; (with_reducible exact call_quiet (HN2.out _))) | (go_at_call 7; (with_reducible exact call_quiet (HO1.out _))) | (go_at_call 7; (with_reducible exact call_quiet (HO2.out _))))))); refine wpQuiet_nil ?_; rintro _ ⟨u, rfl⟩))
    go_loopw [16, 17] (fun x y wr => ∃ a b : Nat, x = .int .i64 a ∧ y = .int .i64 b ∧ a ≤ 1073741824 ∧ b ≤ 1073741824 ∧ Hid (a.gcd b = g) ∧ Grew u.world wr) (fun _ y _ => (intOf y).toNat)
    case atStart => exact ⟨p, q, rfl, rfl, p2, q2, HG, Grew.refl _⟩
    case round =>
    obtain ⟨a, b, rfl, rfl, ha, hb, Hg, hgr⟩ := hrel
    obtain ⟨z, rfl⟩ := later_of hgr
    clear hgr
    by_cases h0 : 0 < b
    · have hm := Nat.mod_lt a h0
      have h0' : (1 : Int) ≤ b := by omega
      go_wp2_with (first | ((with_reducible refine wp_region_later ?_ ?_ ?_); (· kernel_rfl); (· kernel_rfl); (try simp only [List.append_eq, List.cons_append, List.nil_append]); (repeat (go_big_quiet_step (fail))); refine wpQuiet_nil ?_; rintro _ ⟨u, rfl⟩))
      go_roundw
      case rel => exact ⟨b, a % b, rfl, cast_mod a b, by omega, by omega, Lib.hid (HS.out a b Hg.out h0), gw⟩
      case measure => simp [intOf]; omega
    obtain rfl : b = 0 := by omega
    obtain rfl := H0.out a Hg.out
    · go_wp2_with (first | ((with_reducible refine wp_region_later ?_ ?_ ?_); (· kernel_rfl); (· kernel_rfl); (try simp only [List.append_eq, List.cons_append, List.nil_append]); (repeat (go_big_quiet_step (fail))); refine wpQuiet_nil ?_; rintro _ ⟨u, rfl⟩))
      go_ret
      exact ⟨rfl, gw⟩
  | some x =>
    have hf := Hf.out x hz
    rw [hz] at HN1 HN2
    obtain ⟨e1, e2, e3, e4, e5⟩ := hf
    simp only [Option.getD_some, Option.isSome_some] at HN1 HN2
    have hnz : n ≠ 0 := fun h => by rw [n1.1 h] at hz; cases hz
    have hx : ∀ y, bothW p F l q G m y → containsB p F l y = true ∧ containsB q G m y = true := fun y h => by rw [hc1, hc2]; exact ⟨by simpa using h.1, by simpa using h.2⟩
    have E5 := Lib.hid (show ∀ i : Int, 0 ≤ i → i < x - t → containsB p F l (t + i) = true → containsB q G m (t + i) = false from fun i h1 h2 h3 => by
      have := e5 i h1 h2
      rw [hc1] at h3
      rw [hc2, decide_eq_false_iff_not]
      exact fun h4 => this ⟨by simpa using h3, h4⟩)
    have C1 := (hx x e3).1
    have C2 := (hx x e3).2
    have C3 := (hx (x - A) e4).1
    have C4 := (hx (x - A) e4).2
    have D1 := Lib.hid (fun w => is_bool C1 (HC1.out x w))
    have D2 := Lib.hid (fun w => is_bool C2 (HC2.out x w))
    have D3 := Lib.hid (fun w => is_bool C3 (HC1.out (x - A) w))
    have D4 := Lib.hid (fun w => is_bool C4 (HC2.out (x - A) w))
    clear C1 C2 C3 C4
    have t1' : (n == 0) = false := by simp [hnz]
    have t2' : decide (n < 0) = false := by simp; omega
    have t3' : decide (A < n) = false := by simp; omega
    have t4' : decide (x < t) = false := by simp; omega
    have t5' : decide (A ≤ x - t) = false := by simp; omega
    clear Hf n1 hz hc1 hc2 hx e3 e4 e5 hnz
    go_enter Try.func3, Try.ntmps3
    go_wp2_with (first | (go_at_call 5; (with_reducible refine call_later (l4Alive_any _) ?_); intro u) | (go_at_call 6; (with_reducible refine call_later (HN1.out _) ?_); intro u) | (go_at_call 6; (with_reducible refine call_later (HN2.out _) ?_); intro u) | (go_at_call 7; (with_reducible refine call_later (HO1.out _) ?_); intro u) | (go_at_call 7; (with_reducible refine call_later (HO2.out _) ?_); intro u) | ((with_reducible refine wp_region_later ?_ ?_ ?_); (· kernel_rfl); (· kernel_rfl); (try simp only [List.append_eq, List.cons_append, List.nil_append]); (repeat (go_big_quiet_step ((first | (go_at_call 5; (with_reducible exact call_quiet (l4Alive_any _))) | (go_at_call 6; (with_reducible exact call_quiet (HN1.out _))) | (go_at_call 6; (with_reducible exact call_quiet (HN2.out _))) | (go_at_call 7; (with_reducible exact call_quiet (HO1.out _))) | (go_at_call 7; (with_reducible exact call_quiet (HO2.out _))))))); refine wpQuiet_nil ?_; rintro _ ⟨u, rfl⟩))
    go_loopw [16, 17] (fun x y wr => ∃ a b : Nat, x = .int .i64 a ∧ y = .int .i64 b ∧ a ≤ 1073741824 ∧ b ≤ 1073741824 ∧ Hid (a.gcd b = g) ∧ Grew u.world wr) (fun _ y _ => (intOf y).toNat)
    case atStart => exact ⟨p, q, rfl, rfl, p2, q2, HG, Grew.refl _⟩
    case round =>
    obtain ⟨a, b, rfl, rfl, ha, hb, Hg, hgr⟩ := hrel
    obtain ⟨z, rfl⟩ := later_of hgr
    clear hgr
    by_cases h0 : 0 < b
    · have hm := Nat.mod_lt a h0
      have h0' : (1 : Int) ≤ b := by omega
      go_wp2_with (first | ((with_reducible refine wp_region_later ?_ ?_ ?_); (· kernel_rfl); (· kernel_rfl); (try simp only [List.append_eq, List.cons_append, List.nil_append]); (repeat (go_big_quiet_step (fail))); refine wpQuiet_nil ?_; rintro _ ⟨u, rfl⟩))
      go_roundw
      case rel => exact ⟨b, a % b, rfl, cast_mod a b, by omega, by omega, Lib.hid (HS.out a b Hg.out h0), gw⟩
      case measure => simp [intOf]; omega
    obtain rfl : b = 0 := by omega
    obtain rfl := H0.out a Hg.out
    · go_wp2_with (first | (go_at_call 8; (with_reducible refine call_later (D1.out _) ?_); intro u) | (go_at_call 8; (with_reducible refine call_later (D2.out _) ?_); intro u) | (go_at_call 8; (with_reducible refine call_later (D3.out _) ?_); intro u) | (go_at_call 8; (with_reducible refine call_later (D4.out _) ?_); intro u) | ((with_reducible refine wp_region_later ?_ ?_ ?_); (· kernel_rfl); (· kernel_rfl); (try simp only [List.append_eq, List.cons_append, List.nil_append]); (repeat (go_big_quiet_step ((first | (go_at_call 8; (with_reducible exact call_quiet (D1.out _))) | (go_at_call 8; (with_reducible exact call_quiet (D2.out _))) | (go_at_call 8; (with_reducible exact call_quiet (D3.out _))) | (go_at_call 8; (with_reducible exact call_quiet (D4.out _))))))); refine wpQuiet_nil ?_; rintro _ ⟨u, rfl⟩))
      obtain ⟨M, hM⟩ : ∃ M, min 3000 (x - t) = M := ⟨_, rfl⟩
      rw [hM]
      have M1 : 0 ≤ M ∧ M ≤ 3000 ∧ M ≤ x - t := by omega
      clear hM
      go_loopw [156] (fun j wr => ∃ k : Nat, j = .int .i64 k ∧ (k : Int) ≤ M ∧ Grew u.world wr) (fun j _ => (M - intOf j).toNat)
      case atStart => exact ⟨0, rfl, by omega, Grew.refl _⟩
      case round =>
        obtain ⟨k, rfl, hk, hgr⟩ := hrel
        obtain ⟨z, rfl⟩ := later_of hgr
        clear hgr
        by_cases hlt : (k : Int) < M
        · have E6 := Lib.hid (E5.out k (by omega) (by omega))
          have F1 := Lib.hid (fun w => HC1.out (t + k) w)
          have F2 := Lib.hid (fun w => HC2.out (t + k) w)
          generalize containsB p F l (t + k) = c1 at *
          generalize containsB q G m (t + k) = c2 at *
          cases c1
          · go_wp2_with (first | (go_at_call 8; (with_reducible refine call_later (F1.out _) ?_); intro u) | ((with_reducible refine wp_region_later ?_ ?_ ?_); (· kernel_rfl); (· kernel_rfl); (try simp only [List.append_eq, List.cons_append, List.nil_append]); (repeat (go_big_quiet_step ((first | (go_at_call 8; (with_reducible exact call_quiet (F1.out _))))))); refine wpQuiet_nil ?_; rintro _ ⟨u, rfl⟩))
            go_roundw
            case rel => exact ⟨k + 1, by go_num, by omega, gw⟩
            case measure => simp [intOf]; omega
          · obtain rfl := E6.out rfl
            go_wp2_with (first | (go_at_call 8; (with_reducible refine call_later (F1.out _) ?_); intro u) | (go_at_call 8; (with_reducible refine call_later (F2.out _) ?_); intro u) | ((with_reducible refine wp_region_later ?_ ?_ ?_); (· kernel_rfl); (· kernel_rfl); (try simp only [List.append_eq, List.cons_append, List.nil_append]); (repeat (go_big_quiet_step ((first | (go_at_call 8; (with_reducible exact call_quiet (F1.out _))) | (go_at_call 8; (with_reducible exact call_quiet (F2.out _))))))); refine wpQuiet_nil ?_; rintro _ ⟨u, rfl⟩))
            go_roundw
            case rel => exact ⟨k + 1, by go_num, by omega, gw⟩
            case measure => simp [intOf]; omega
        · go_wp2
          go_ret
          exact ⟨rfl, gw⟩
namespace ascentNextRow
open Go.ChangeShapes Go.WideShapes Go.ChangeAt Go.RowKit
theorem own : ownKnob Try.prog.godebug = none := by kernel_rfl
theorem lifted (os : Os) (started : os.Started) (H : Type) (enc : TypeId × Value → H) :
    ReturnsInHanded {} Try.checked os 3 .any (Rows.ascentNextSpec.pre6 enc Try.prog Try.f3 Rows.ascentNextRow.domain false) (Rows.ascentNextSpec.post enc Try.prog Try.f3 false true false false) := by
  refine returnsInHanded_of_change (C := Try.checked) own started (by kernel_rfl) Try.func3
    (ChangeSpec.witness6 (enc := enc) (C := Try.checked) false ⟨#[], #[.agg #[.int .i64 0, .int .i64 0, .int .i64 0], .agg #[.int .i64 0, .int .i64 0, .int .i64 0], .int .i64 0], []⟩ 8 (by as_aux_lemma => kernel_rfl) (by as_aux_lemma => kernel_rfl) (by as_aux_lemma => kernel_rfl) (by as_aux_lemma => kernel_rfl)) ?_
  intro W base args ds gs before hval0 hW _ _
  have hval : ∀ (j : Nat) t v, Try.f3.params[j]? = some t → args[j]? = some v → Value.okWide Try.prog W .any base t v := hval0
  have hW' := hW
  obtain ⟨p, q, hA0, hV, rfl, hfz, hnd⟩ := hW
  have hA : DataW.TrodAll enc Try.prog W 0 (fun _ => true) true Try.f3.params.toList args.toList ds p := hA0
  rw [Try.params3] at hA hval
  obtain ⟨v0, vs0, d0, ds0, p0, q0, hargs, rfl, rfl, h0, r0⟩ := trodAll_cons hA
  obtain ⟨v1, vs1, d1, ds1, p1, q1, rfl, rfl, rfl, h1, r1⟩ := trodAll_cons r0
  obtain ⟨v2, vs2, d2, ds2, p2, q2, rfl, rfl, rfl, h2, r2⟩ := trodAll_cons r1
  obtain ⟨rfl, rfl, rfl⟩ := trodAll_nil r2
  obtain rfl : args = #[v0, v1, v2] := by cases args; simp_all
  obtain ⟨rfl, rfl⟩ := trodVars_none hV
  obtain ⟨ns0, rfl, hl0, -⟩ := open_flat 3 (by kernel_rfl) Try.underlying23 (hval 0 23 v0 rfl rfl) h0
  obtain ⟨ns1, rfl, hl1, -⟩ := open_flat 3 (by kernel_rfl) Try.underlying23 (hval 1 23 v1 rfl rfl) h1
  obtain ⟨t, rfl, -, -⟩ := open_num Try.underlying3 (hval 2 3 v2 rfl rfl) h2
  obtain ⟨P, F, L, rfl⟩ := list3 hl0
  obtain ⟨Q, G, M, rfl⟩ := list3 hl1
  refine (next_walk P F L Q G M t W).mono fun e W' ⟨he, hg⟩ => ?_
  subst he
  exact ⟨_, rfl, law_post (by kernel_rfl) (by kernel_rfl) rfl rfl Try.underlying4 hW' rfl hg⟩
theorem proved : Rows.AscentNextSaid :=
  OpenClaim.holds_of_wide 3 Try.f3 rfl rfl rfl rfl rfl rfl rfl ⟨rfl, rfl, rfl, rfl, rfl⟩ rfl rfl rfl rfl rfl (by as_aux_lemma => kernel_rfl) Try.func3 (by as_aux_lemma => kernel_rfl)
    (of_decide_eq_true (by as_aux_lemma => kernel_rfl)) (by unfold Func.isWrapper; first | (rw [if_pos (by decide +kernel)]; kernel_rfl) | (rw [if_neg (by decide +kernel)]; exact ⟨rfl, rfl⟩))
    (fun os started H enc _ => lifted os started H enc)
end ascentNextRow
end Go.Proofs.Ytffbipcdlnfihaa
