/-
  Contracts: gcd, shared, Often (ascent, ullageref04), Brief.
-/
import Derived.Test.YtffbipcdlnfihaaTimes
import Derived.Test.YtffbipcdlnfihaaWinLaw
import Derived.Test.YtffbipcdlnfihaaNextLaw
namespace Go.Proofs.Ytffbipcdlnfihaa
open Go.RowKit
set_option maxRecDepth 100000
set_option maxHeartbeats 1000000
theorem gcd_step (p q : Nat) : q.gcd (p % q) = p.gcd q := by
  rw [Nat.gcd_comm q (p % q), ← Nat.gcd_rec, Nat.gcd_comm]
theorem cast_mod (p q : Nat) : Value.int .i64 ((p : Int) % q) = .int .i64 ((p % q : Nat) : Int) := by rw [Int.natCast_emod]
theorem gcdP_any (a b : Nat) (ha : a ≤ 1073741824) (hb : b ≤ 1073741824) (w : World) : Calls Try.prog 24 #[.int .i64 a, .int .i64 b] w fun e w' => e = .returned (.int .i64 (a.gcd b : Nat)) ∧ Grew w w' := by
  go_enter Try.func24, Try.ntmps24
  go_wp2
  go_loopw [0, 1] (fun x y wr => ∃ p q : Nat, x = .int .i64 p ∧ y = .int .i64 q ∧ p ≤ 1073741824 ∧ q ≤ 1073741824 ∧ Hid (p.gcd q = a.gcd b) ∧ Grew w wr) (fun _ y _ => (intOf y).toNat)
  case atStart => exact ⟨a, b, rfl, rfl, ha, hb, Lib.hid rfl, Grew.refl _⟩
  case round =>
    obtain ⟨p, q, rfl, rfl, hp, hq, Hg, hgr⟩ := hrel
    obtain ⟨z, rfl⟩ := later_of hgr
    clear hgr
    by_cases h0 : 0 < q
    · have hm := Nat.mod_lt p h0
      have h0' : (1 : Int) ≤ q := by omega
      go_wp2_with (first | ((with_reducible refine wp_region_later ?_ ?_ ?_); (· kernel_rfl); (· kernel_rfl); (try simp only [List.append_eq, List.cons_append, List.nil_append]); (repeat (go_big_quiet_step (fail))); refine wpQuiet_nil ?_; rintro _ ⟨u, rfl⟩))
      go_roundw
      case rel => exact ⟨q, p % q, rfl, cast_mod p q, by omega, by omega, Lib.hid (by rw [gcd_step, Hg.out]), gw⟩
      case measure => simp [intOf]; omega
    · obtain rfl : q = 0 := by omega
      go_wp2
      go_ret
      exact ⟨ret_int (by rw [← Hg.out, Nat.gcd_zero_right]), gw⟩
theorem sharedN_le (a m n g : Nat) : sharedN a m n g ≤ m + m := by unfold sharedN; omega
theorem shared_any (F G : Int) (m n g : Nat) (hF : -1073741824 ≤ F ∧ F ≤ 1073741824) (hG : -1073741824 ≤ G ∧ G ≤ 1073741824) (hm : m ≤ 1073741824) (hn : n ≤ 1073741824) (hg : 1 ≤ g) (hg2 : g ≤ 1073741824) (w : World) :
    Calls Try.prog 25 #[.int .i64 F, .int .i64 m, .int .i64 G, .int .i64 n, .int .i64 g] w fun e w' => e = .returned (.int .i64 (sharedN (plc g F G) m n g : Nat)) ∧ Grew w w' := by
  obtain ⟨hF1, hF2⟩ := hF
  obtain ⟨hG1, hG2⟩ := hG
  have b1 := Int.emod_nonneg (G - F) (show (g : Int) ≠ 0 by omega)
  have b2 := Int.emod_lt_of_pos (G - F) (show (0 : Int) < g by omega)
  have hg' : (1 : Int) ≤ g := by omega
  have hg2' : (g : Int) ≤ 1073741824 := by omega
  go_enter Try.func25, Try.ntmps25
  go_wp2_with (first | (go_at_call 22; (with_reducible refine call_later (mod_any _ _ _ hg' hg2') ?_); intro u))
  all_goals go_ret
  all_goals exact ⟨ret_int (by unfold sharedN plc; omega), gw⟩
def lcmZ (P Q : Int) : Int := (P.toNat.lcm Q.toNat : Nat)
def pairB (P F L Q G M : Int) : Bool := validB P F L && validB Q G M
def briefB (P F L Q G M : Int) : Bool := if pairB P F L Q G M then decide (lcmZ P Q ≤ 20000) else true
def oftenV (P F L Q G M : Int) : Int := if pairB P F L Q G M then (oftenN P.toNat L.toNat Q.toNat M.toNat F G : Nat) else 0
def pairE (P F L Q G M : Int) : Int := if pairB P F L Q G M then 0 else 2
theorem ret_ii {k k' : IntKind} {x y a b : Int} (h : x = y) (h' : a = b) : Ending.returned (.tuple #[.int k x, .int k' a]) = .returned (.tuple #[.int k y, .int k' b]) := by rw [h, h']
theorem prod_bd2 {u v U V : Int} (h1 : 0 ≤ u) (h2 : u ≤ U) (h3 : 0 ≤ v) (h4 : v ≤ V) : 0 ≤ u * v ∧ u * v ≤ U * V := by
  refine ⟨Int.mul_nonneg h1 h3, ?_⟩
  have a : u * v ≤ U * v := Int.mul_le_mul_of_nonneg_right h2 h3
  have b : U * v ≤ U * V := Int.mul_le_mul_of_nonneg_left h4 (by omega)
  omega
/-- What a valid window is, in natural numbers. -/
theorem valid_nat {P F L : Int} (h : validB P F L = true) : ∃ p l : Nat, P = p ∧ L = l ∧ 1 ≤ p ∧ p ≤ 1073741824 ∧ l ≤ p ∧ -1073741824 ≤ F ∧ F ≤ 1073741824 := by
  obtain ⟨h1, h2, h3, h4, h5, h6⟩ := (validB_iff P F L).1 h
  exact ⟨P.toNat, L.toNat, by omega, by omega, by omega, by omega, by omega, h3, h4⟩
theorem often_any (P F L Q G M : Int) (w : World) :
    Calls Try.prog 7 #[.agg #[.int .i64 P, .int .i64 F, .int .i64 L], .agg #[.int .i64 Q, .int .i64 G, .int .i64 M]] w fun e w' => e = .returned (.tuple #[.int .i64 (oftenV P F L Q G M), .int .i64 (pairE P F L Q G M)]) ∧ Grew w w' := by
  cases h1 : validB P F L
  · have hE := Lib.hid (show pairE P F L Q G M = 2 by simp [pairE, pairB, h1])
    have hV := Lib.hid (show oftenV P F L Q G M = 0 by simp [oftenV, pairB, h1])
    go_enter Try.func7, Try.ntmps7
    go_wp2_with (first | (go_at_call 18; (with_reducible refine call_later (is_bool h1 (valid_any P F L _)) ?_); intro u) | ((with_reducible refine wp_region_later ?_ ?_ ?_); (· kernel_rfl); (· kernel_rfl); (try simp only [List.append_eq, List.cons_append, List.nil_append]); (repeat (go_big_quiet_step ((first | (go_at_call 18; (with_reducible exact call_quiet (is_bool h1 (valid_any P F L _)))))))); refine wpQuiet_nil ?_; rintro _ ⟨u, rfl⟩))
    go_ret2
    exact ⟨ret_ii hV.out.symm hE.out.symm, gw⟩
  · cases h2 : validB Q G M
    · have hE := Lib.hid (show pairE P F L Q G M = 2 by simp [pairE, pairB, h1, h2])
      have hV := Lib.hid (show oftenV P F L Q G M = 0 by simp [oftenV, pairB, h1, h2])
      go_enter Try.func7, Try.ntmps7
      go_wp2_with (first | (go_at_call 18; (with_reducible refine call_later (is_bool h1 (valid_any P F L _)) ?_); intro u) | (go_at_call 18; (with_reducible refine call_later (is_bool h2 (valid_any Q G M _)) ?_); intro u) | ((with_reducible refine wp_region_later ?_ ?_ ?_); (· kernel_rfl); (· kernel_rfl); (try simp only [List.append_eq, List.cons_append, List.nil_append]); (repeat (go_big_quiet_step ((first | (go_at_call 18; (with_reducible exact call_quiet (is_bool h1 (valid_any P F L _)))) | (go_at_call 18; (with_reducible exact call_quiet (is_bool h2 (valid_any Q G M _)))))))); refine wpQuiet_nil ?_; rintro _ ⟨u, rfl⟩))
      go_ret2
      exact ⟨ret_ii hV.out.symm hE.out.symm, gw⟩
    · have hE := Lib.hid (show pairE P F L Q G M = 0 by simp [pairE, pairB, h1, h2])
      have hV := Lib.hid (show oftenV P F L Q G M = (oftenN P.toNat L.toNat Q.toNat M.toNat F G : Nat) by simp [oftenV, pairB, h1, h2])
      obtain ⟨p, l, rfl, rfl, p1, p2, p3, f1, f2⟩ := valid_nat h1
      obtain ⟨q, m, rfl, rfl, q1, q2, q3, g1, g2⟩ := valid_nat h2
      simp only [Int.toNat_natCast] at hV
      have hg : 0 < p.gcd q := Nat.gcd_pos_of_pos_left _ p1
      have hgp : p.gcd q ≤ p := Nat.le_of_dvd p1 (Nat.gcd_dvd_left p q)
      have Hgcd := Lib.hid (fun w => gcdP_any p q p2 q2 w)
      have x1 := Int.mul_ediv_add_emod l (p.gcd q : Nat)
      have y1 := Int.mul_ediv_add_emod m (p.gcd q : Nat)
      have Hfin := Lib.hid (show ((oftenN p l q m F G : Nat) : Int) = (p.gcd q : Nat) * ((l : Int) / (p.gcd q : Nat)) * ((m : Int) / (p.gcd q : Nat)) + (l : Int) / (p.gcd q : Nat) * ((m : Int) % (p.gcd q : Nat)) + (m : Int) / (p.gcd q : Nat) * ((l : Int) % (p.gcd q : Nat)) + (sharedN (plc (p.gcd q : Nat) F G) (l % p.gcd q) (m % p.gcd q) (p.gcd q) : Nat) by
        unfold oftenN; simp only [Int.natCast_add, Int.natCast_mul, Int.natCast_ediv, Int.natCast_emod])
      have Hsh := Lib.hid (fun (g m n : Nat) (w : World) h1 h2 h3 h4 => shared_any F G m n g ⟨f1, f2⟩ ⟨g1, g2⟩ h1 h2 h3 h4 w)
      have hsb := sharedN_le (plc (p.gcd q : Nat) F G) (l % p.gcd q) (m % p.gcd q) (p.gcd q)
      generalize p.gcd q = g at *
      have x2 := Int.emod_nonneg l (show (g : Int) ≠ 0 by omega)
      have x3 := Int.emod_lt_of_pos l (show (0 : Int) < g by omega)
      have y2 := Int.emod_nonneg m (show (g : Int) ≠ 0 by omega)
      have y3 := Int.emod_lt_of_pos m (show (0 : Int) < g by omega)
      have x4 := Int.ediv_nonneg (show (0 : Int) ≤ l by omega) (show (0 : Int) ≤ g by omega)
      have y4 := Int.ediv_nonneg (show (0 : Int) ≤ m by omega) (show (0 : Int) ≤ g by omega)
      have x5 : (l : Int) / g ≤ l := Int.ediv_le_self _ (by omega)
      have y5 : (m : Int) / g ≤ m := Int.ediv_le_self _ (by omega)
      obtain ⟨a1, a2⟩ := prod_bd2 (u := (g : Int) * ((l : Int) / g)) (v := (m : Int) / g) (U := 1073741824) (V := 1073741824) (Int.mul_nonneg (by omega) x4) (by omega) y4 (by omega)
      obtain ⟨a3, a4⟩ := prod_bd2 (u := (l : Int) / g) (v := (m : Int) % g) (U := 1073741824) (V := 1073741824) x4 (by omega) y2 (by omega)
      obtain ⟨a5, a6⟩ := prod_bd2 (u := (m : Int) / g) (v := (l : Int) % g) (U := 1073741824) (V := 1073741824) y4 (by omega) x2 (by omega)
      obtain ⟨a7, a8⟩ := prod_bd2 (u := (g : Int)) (v := (l : Int) / g) (U := 1073741824) (V := 1073741824) (by omega) (by omega) x4 (by omega)
      have hlg : l % g < g := Nat.mod_lt _ hg
      have hmg : m % g < g := Nat.mod_lt _ hg
      have hsb2 : (sharedN (plc g F G) (l % g) (m % g) g : Int) ≤ 2147483648 := by omega
      have Hsh2 := Lib.hid (show ∀ w, Calls Try.prog 25 #[.int .i64 F, .int .i64 ((l : Int) % g), .int .i64 G, .int .i64 ((m : Int) % g), .int .i64 g] w fun e w' => e = .returned (.int .i64 (sharedN (plc g F G) (l % g) (m % g) g : Nat)) ∧ Grew w w' from fun w => by
        have := Hsh.out g (l % g) (m % g) w (by omega) (by omega) (by omega) (by omega)
        rw [Int.natCast_emod, Int.natCast_emod] at this
        exact this)
      have hs0 : (0 : Int) ≤ (sharedN (plc g F G) (l % g) (m % g) g : Nat) := by omega
      clear x1 y1 hsb Hsh
      go_enter Try.func7, Try.ntmps7
      go_wp2_with (first | (go_at_call 18; (with_reducible refine call_later (is_bool h1 (valid_any (p : Int) F l _)) ?_); intro u) | (go_at_call 18; (with_reducible refine call_later (is_bool h2 (valid_any (q : Int) G m _)) ?_); intro u) | (go_at_call 24; (with_reducible refine call_later (Hgcd.out _) ?_); intro u) | (go_at_call 25; (with_reducible refine call_later (Hsh2.out _) ?_); intro u) | ((with_reducible refine wp_region_later ?_ ?_ ?_); (· kernel_rfl); (· kernel_rfl); (try simp only [List.append_eq, List.cons_append, List.nil_append]); (repeat (go_big_quiet_step ((first | (go_at_call 18; (with_reducible exact call_quiet (is_bool h1 (valid_any (p : Int) F l _)))) | (go_at_call 18; (with_reducible exact call_quiet (is_bool h2 (valid_any (q : Int) G m _)))) | (go_at_call 24; (with_reducible exact call_quiet (Hgcd.out _))) | (go_at_call 25; (with_reducible exact call_quiet (Hsh2.out _))))))); refine wpQuiet_nil ?_; rintro _ ⟨u, rfl⟩))
      go_ret2
      exact ⟨ret_ii (by rw [hV.out, Hfin.out]) hE.out.symm, gw⟩
/-! The reference. -/
theorem lcm_div (p q : Nat) (hp : 0 < p) : (p : Int) / (p.gcd q : Nat) * q = (p.lcm q : Nat) := by
  have h1 : p / p.gcd q * q = p.lcm q := by
    obtain ⟨k, hk⟩ := Nat.gcd_dvd_left p q
    have hg : 0 < p.gcd q := Nat.gcd_pos_of_pos_left _ hp
    unfold Nat.lcm
    generalize p.gcd q = g at *
    subst hk
    rw [Nat.mul_div_cancel_left _ hg, Nat.mul_assoc, Nat.mul_div_cancel_left _ hg]
  rw [← h1]; simp
theorem lcm_le (p q : Nat) : p.lcm q ≤ p * q := by unfold Nat.lcm; exact Nat.div_le_self _ _
/-- The number of meetings among the first k times. -/
def meetN (P F L Q G M t : Int) (k : Nat) : Nat := sumN k (fun i => ind ((t + i - F) % P < L ∧ (t + i - G) % Q < M))
theorem meetN_le (P F L Q G M t : Int) (k : Nat) : meetN P F L Q G M t k ≤ k := by
  unfold meetN
  have := sumN_le (n := k) (f := fun i => ind ((t + (i : Nat) - F) % P < L ∧ (t + (i : Nat) - G) % Q < M)) (g := fun _ => 1) (fun i _ => ind_le _)
  rw [sumN_const] at this
  omega
theorem meetN_succ (P F L Q G M t : Int) (k : Nat) : meetN P F L Q G M t (k + 1) = meetN P F L Q G M t k + (if decide ((t + k - F) % P < L) && decide ((t + k - G) % Q < M) then 1 else 0) := by
  unfold meetN
  rw [sumN]
  congr 1
  unfold ind
  by_cases h1 : (t + k - F) % P < L <;> by_cases h2 : (t + k - G) % Q < M <;> simp [h1, h2]
theorem meet_often (p l q m : Nat) (F G : Int) (hp : 1 ≤ p) (hq : 1 ≤ q) (hl : l ≤ p) (hm : m ≤ q) : meetN p F l q G m 0 (p.lcm q) = oftenN p l q m F G := by
  rw [← often_law p l q m F G hp hq hl hm]
  unfold meetN
  refine sumN_congr fun i _ => ind_congr ?_
  have a1 := Int.emod_nonneg ((i : Int) - F) (show (p : Int) ≠ 0 by omega)
  have a2 := Int.emod_nonneg ((i : Int) - G) (show (q : Int) ≠ 0 by omega)
  unfold plc
  rw [Int.zero_add]
  omega
theorem brief_le {P F L Q G M : Int} (h : pairB P F L Q G M = true) (hb : briefB P F L Q G M = true) : lcmZ P Q ≤ 20000 := by
  unfold briefB at hb
  rw [if_pos h] at hb
  simpa using hb
end Go.Proofs.Ytffbipcdlnfihaa
