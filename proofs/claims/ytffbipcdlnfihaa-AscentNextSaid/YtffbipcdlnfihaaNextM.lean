/-
  Contracts: first, meets, Next (ascent, ullageref04).
-/
import Derived.Test.YtffbipcdlnfihaaOften
namespace Go.Proofs.Ytffbipcdlnfihaa
open Go.RowKit
set_option maxRecDepth 100000
set_option maxHeartbeats 1000000
theorem firstZ_bd (a m lo hi : Int) (h1 : 0 ≤ lo) (h2 : lo ≤ hi) (h3 : hi < m) (h4 : 0 ≤ a) (h5 : a < m) : -1 ≤ firstZ a m lo hi ∧ firstZ a m lo hi < m := by
  rcases first_law _ a m lo hi (Nat.le_refl _) h1 h2 h3 h4 h5 with ⟨e, -⟩ | ⟨e1, e2, -⟩ <;> omega
theorem firstZ_lo (a m hi : Int) : firstZ a m 0 hi = 0 := by unfold firstZ; rfl
theorem firstZ_none (a m lo hi : Int) (h : lo ≠ 0) (ha : a ≤ 0) : firstZ a m lo hi = -1 := by unfold firstZ; rw [if_neg h, dif_pos ha]
theorem firstZ_fits (a m lo hi : Int) (h : lo ≠ 0) (ha : ¬ a ≤ 0) (hk : (lo + a - 1) / a * a ≤ hi) : firstZ a m lo hi = (lo + a - 1) / a := by unfold firstZ; rw [if_neg h, dif_neg ha, if_pos hk]
theorem firstZ_goes (a m lo hi : Int) (h : lo ≠ 0) (ha : ¬ a ≤ 0) (hk : ¬ (lo + a - 1) / a * a ≤ hi) : firstZ a m lo hi = if firstZ (m % a) a (-hi % a) (-lo % a) < 0 then -1 else (lo + m * firstZ (m % a) a (-hi % a) (-lo % a) + a - 1) / a := by
  conv => lhs; unfold firstZ
  rw [if_neg h, dif_neg ha, if_neg hk]
/-- Where no multiple of a lies in a range, the range of rests rises. -/
theorem rests_rise (a lo hi : Int) (h2 : lo ≤ hi) (ha : 0 < a) (hk : ¬ (lo + a - 1) / a * a ≤ hi) : -hi % a ≤ -lo % a := by
  obtain ⟨c1, c2⟩ := ceil_law lo a (by omega)
  rw [Int.mul_comm] at hk
  generalize (lo + a - 1) / a = k at *
  have hak : a * (k - 1) = a * k - a := by rw [Int.mul_sub, Int.mul_one]
  rw [emod_of (x := -hi) (q := -k) (r := a * k - hi) (by omega) (by omega) (by rw [Int.mul_neg]; omega), emod_of (x := -lo) (q := -k) (r := a * k - lo) (by omega) (by omega) (by rw [Int.mul_neg]; omega)]
  omega
theorem first_any : ∀ (n : Nat) (a m lo hi : Int) (w : World), a.toNat ≤ n → 0 ≤ lo → lo ≤ hi → hi < m → 0 ≤ a → a < m → m ≤ 1073741824 →
    Calls Try.prog 23 #[.int .i64 a, .int .i64 m, .int .i64 lo, .int .i64 hi] w fun e w' => e = .returned (.int .i64 (firstZ a m lo hi)) ∧ Grew w w' := by
  intro n
  induction n with
  | zero =>
    intro a m lo hi w hn h1 h2 h3 h4 h5 h6
    obtain rfl : a = 0 := by omega
    by_cases hl : lo = 0
    · subst hl
      go_enter Try.func23, Try.ntmps23
      go_wp2_with fail
      go_ret
      exact ⟨ret_int (firstZ_lo _ _ _).symm, gw⟩
    · have hl' : (lo == 0) = false := by simp [hl]
      have HF := Lib.hid (firstZ_none 0 m lo hi hl (by omega))
      clear hl
      go_enter Try.func23, Try.ntmps23
      go_wp2_with fail
      go_ret
      exact ⟨ret_int HF.out.symm, gw⟩
  | succ n ih =>
    intro a m lo hi w hn h1 h2 h3 h4 h5 h6
    by_cases hl : lo = 0
    · subst hl
      go_enter Try.func23, Try.ntmps23
      go_wp2_with fail
      go_ret
      exact ⟨ret_int (firstZ_lo _ _ _).symm, gw⟩
    have hl' : (lo == 0) = false := by simp [hl]
    by_cases ha : a ≤ 0
    · obtain rfl : a = 0 := by omega
      have HF := Lib.hid (firstZ_none 0 m lo hi hl (by omega))
      clear hl
      go_enter Try.func23, Try.ntmps23
      go_wp2_with fail
      go_ret
      exact ⟨ret_int HF.out.symm, gw⟩
    have ha' : (a == 0) = false := by simp; omega
    have ha1 : 1 ≤ a := by omega
    obtain ⟨c1, c2⟩ := ceil_law lo a (by omega)
    rw [Int.mul_comm] at c1 c2
    by_cases hk : (lo + a - 1) / a * a ≤ hi
    · have HF := Lib.hid (firstZ_fits a m lo hi hl ha hk)
      clear hl ha
      go_enter Try.func23, Try.ntmps23
      go_wp2_with fail
      go_ret
      exact ⟨ret_int HF.out.symm, gw⟩
    have HF := Lib.hid (firstZ_goes a m lo hi hl ha hk)
    have q1 := Int.emod_nonneg m (show a ≠ 0 by omega)
    have q2 := Int.emod_lt_of_pos m (show 0 < a by omega)
    have q3 := Int.emod_nonneg (-hi) (show a ≠ 0 by omega)
    have q4 := Int.emod_lt_of_pos (-lo) (show 0 < a by omega)
    have q5 := rests_rise a lo hi h2 (by omega) hk
    have HI := Lib.hid (fun w => ih (m % a) a (-hi % a) (-lo % a) w (by omega) q3 q5 q4 q1 q2 (by omega))
    obtain ⟨y1, y2⟩ := firstZ_bd (m % a) a (-hi % a) (-lo % a) q3 q5 q4 q1 q2
    have hk' : decide ((lo + a - 1) / a * a ≤ hi) = false := by simp; omega
    clear hl ha ih
    generalize firstZ (m % a) a (-hi % a) (-lo % a) = y at *
    by_cases hy : y < 0
    · go_enter Try.func23, Try.ntmps23
      go_wp2_with (first | (go_at_call 22; (with_reducible refine call_later (mod_any _ _ _ ha1 (by omega)) ?_); intro u) | (go_at_call 23; (with_reducible refine call_later (HI.out _) ?_); intro u) | ((with_reducible refine wp_region_later ?_ ?_ ?_); (· kernel_rfl); (· kernel_rfl); (try simp only [List.append_eq, List.cons_append, List.nil_append]); (repeat (go_big_quiet_step ((first | (go_at_call 22; (with_reducible exact call_quiet (mod_any _ _ _ ha1 (by omega)))) | (go_at_call 23; (with_reducible exact call_quiet (HI.out _))))))); refine wpQuiet_nil ?_; rintro _ ⟨u, rfl⟩))
      go_ret
      exact ⟨ret_int (by rw [HF.out, if_pos hy]), gw⟩
    · obtain ⟨p1, p2⟩ := prod_bd2 (u := m) (v := y) (U := 1073741824) (V := 1073741824) (by omega) h6 (by omega) (by omega)
      go_enter Try.func23, Try.ntmps23
      go_wp2_with (first | (go_at_call 22; (with_reducible refine call_later (mod_any _ _ _ ha1 (by omega)) ?_); intro u) | (go_at_call 23; (with_reducible refine call_later (HI.out _) ?_); intro u) | ((with_reducible refine wp_region_later ?_ ?_ ?_); (· kernel_rfl); (· kernel_rfl); (try simp only [List.append_eq, List.cons_append, List.nil_append]); (repeat (go_big_quiet_step ((first | (go_at_call 22; (with_reducible exact call_quiet (mod_any _ _ _ ha1 (by omega)))) | (go_at_call 23; (with_reducible exact call_quiet (HI.out _))))))); refine wpQuiet_nil ?_; rintro _ ⟨u, rfl⟩))
      go_ret
      exact ⟨ret_int (by rw [HF.out, if_neg (by omega)]), gw⟩
theorem ret_ibM {k : IntKind} {x y : Int} {a b : Bool} (h : x = y) (h' : a = b) : Ending.returned (.tuple #[.int k x, .bool a]) = .returned (.tuple #[.int k y, .bool b]) := by rw [h, h']
def meetB (L M B x : Int) : Bool := decide (0 < M) && decide (x < B + L)
def lastOf (B t : Int) : Int := if B < t then t else B
theorem meets_any (P F L Q G M B t : Int) (hQ : 1 ≤ Q) (hQ2 : Q ≤ 1073741824) (hL : 0 ≤ L) (hL2 : L ≤ 1073741824) (hB : -4611686018427387904 ≤ B ∧ B ≤ 4611686018427387904) (ht : -4611686018427387904 ≤ t ∧ t ≤ 4611686018427387904) (w : World) :
    Calls Try.prog 21 #[.agg #[.int .i64 P, .int .i64 F, .int .i64 L], .agg #[.int .i64 Q, .int .i64 G, .int .i64 M], .int .i64 B, .int .i64 t] w fun e w' => e = .returned (.tuple #[.int .i64 (meetX Q G M (lastOf B t)), .bool (meetB L M B (meetX Q G M (lastOf B t)))]) ∧ Grew w w' := by
  obtain ⟨hB1, hB2⟩ := hB
  obtain ⟨ht1, ht2⟩ := ht
  rcases Int.lt_or_le B t with h | h
  · rw [show lastOf B t = t by unfold lastOf; exact if_pos h]
    have b1 := Int.emod_nonneg (t - G) (show Q ≠ 0 by omega)
    have b2 := Int.emod_lt_of_pos (t - G) (show 0 < Q by omega)
    rcases bool_or (decide (0 < M)) with c | c
    all_goals
      have hX := Lib.hid (show meetX Q G M t = if M ≤ (t - G) % Q then t + (Q - (t - G) % Q) else t from rfl)
      rcases Int.lt_or_le ((t - G) % Q) M with d | d
      · have HX := Lib.hid (show meetX Q G M t = t by rw [hX.out, if_neg (by omega)])
        have HB := Lib.hid (show meetB L M B (meetX Q G M t) = (decide (0 < M) && decide (t < B + L)) by rw [HX.out]; rfl)
        rw [c] at HB
        clear hX
        go_enter Try.func21, Try.ntmps21
        go_wp2_with (first | (go_at_call 20; (with_reducible refine call_later (place_any _ _ _ _ _ hQ hQ2) ?_); intro u) | ((with_reducible refine wp_region_later ?_ ?_ ?_); (· kernel_rfl); (· kernel_rfl); (try simp only [List.append_eq, List.cons_append, List.nil_append]); (repeat (go_big_quiet_step ((first | (go_at_call 20; (with_reducible exact call_quiet (place_any _ _ _ _ _ hQ hQ2))))))); refine wpQuiet_nil ?_; rintro _ ⟨u, rfl⟩))
        go_ret2
        exact ⟨ret_ibM HX.out.symm HB.out.symm, gw⟩
      · have HX := Lib.hid (show meetX Q G M t = t + (Q - (t - G) % Q) by rw [hX.out, if_pos d])
        have HB := Lib.hid (show meetB L M B (meetX Q G M t) = (decide (0 < M) && decide (t + (Q - (t - G) % Q) < B + L)) by rw [HX.out]; rfl)
        rw [c] at HB
        clear hX
        go_enter Try.func21, Try.ntmps21
        go_wp2_with (first | (go_at_call 20; (with_reducible refine call_later (place_any _ _ _ _ _ hQ hQ2) ?_); intro u) | ((with_reducible refine wp_region_later ?_ ?_ ?_); (· kernel_rfl); (· kernel_rfl); (try simp only [List.append_eq, List.cons_append, List.nil_append]); (repeat (go_big_quiet_step ((first | (go_at_call 20; (with_reducible exact call_quiet (place_any _ _ _ _ _ hQ hQ2))))))); refine wpQuiet_nil ?_; rintro _ ⟨u, rfl⟩))
        go_ret2
        exact ⟨ret_ibM HX.out.symm HB.out.symm, gw⟩
  · rw [show lastOf B t = B by unfold lastOf; exact if_neg (by omega)]
    have b1 := Int.emod_nonneg (B - G) (show Q ≠ 0 by omega)
    have b2 := Int.emod_lt_of_pos (B - G) (show 0 < Q by omega)
    rcases bool_or (decide (0 < M)) with c | c
    all_goals
      have hX := Lib.hid (show meetX Q G M B = if M ≤ (B - G) % Q then B + (Q - (B - G) % Q) else B from rfl)
      rcases Int.lt_or_le ((B - G) % Q) M with d | d
      · have HX := Lib.hid (show meetX Q G M B = B by rw [hX.out, if_neg (by omega)])
        have HB := Lib.hid (show meetB L M B (meetX Q G M B) = (decide (0 < M) && decide (B < B + L)) by rw [HX.out]; rfl)
        rw [c] at HB
        clear hX
        go_enter Try.func21, Try.ntmps21
        go_wp2_with (first | (go_at_call 20; (with_reducible refine call_later (place_any _ _ _ _ _ hQ hQ2) ?_); intro u) | ((with_reducible refine wp_region_later ?_ ?_ ?_); (· kernel_rfl); (· kernel_rfl); (try simp only [List.append_eq, List.cons_append, List.nil_append]); (repeat (go_big_quiet_step ((first | (go_at_call 20; (with_reducible exact call_quiet (place_any _ _ _ _ _ hQ hQ2))))))); refine wpQuiet_nil ?_; rintro _ ⟨u, rfl⟩))
        go_ret2
        exact ⟨ret_ibM HX.out.symm HB.out.symm, gw⟩
      · have HX := Lib.hid (show meetX Q G M B = B + (Q - (B - G) % Q) by rw [hX.out, if_pos d])
        have HB := Lib.hid (show meetB L M B (meetX Q G M B) = (decide (0 < M) && decide (B + (Q - (B - G) % Q) < B + L)) by rw [HX.out]; rfl)
        rw [c] at HB
        clear hX
        go_enter Try.func21, Try.ntmps21
        go_wp2_with (first | (go_at_call 20; (with_reducible refine call_later (place_any _ _ _ _ _ hQ hQ2) ?_); intro u) | ((with_reducible refine wp_region_later ?_ ?_ ?_); (· kernel_rfl); (· kernel_rfl); (try simp only [List.append_eq, List.cons_append, List.nil_append]); (repeat (go_big_quiet_step ((first | (go_at_call 20; (with_reducible exact call_quiet (place_any _ _ _ _ _ hQ hQ2))))))); refine wpQuiet_nil ?_; rintro _ ⟨u, rfl⟩))
        go_ret2
        exact ⟨ret_ibM HX.out.symm (by rw [HB.out, Bool.eq_iff_iff]; simp <;> omega), gw⟩
end Go.Proofs.Ytffbipcdlnfihaa
