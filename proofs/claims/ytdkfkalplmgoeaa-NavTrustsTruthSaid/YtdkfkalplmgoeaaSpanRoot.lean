/-
  Contracts: span's root, Root, Abs.
-/
import Derived.Test.YtdkfkalplmgoeaaSpanAdd
namespace Go.Proofs.Ytdkfkalplmgoeaa
open Go.RowKit
set_option maxRecDepth 100000
set_option maxHeartbeats 1000000
theorem rootAt_bd (k : Nat) (r x : Int) (h0 : 0 ≤ r) (hk : k ≤ 49) (h1 : r + 2 ^ k ≤ 562949953421312) : 0 ≤ rootAt k r x ∧ rootAt k r x < 562949953421312 := by
  induction k generalizing r with
  | zero => unfold rootAt; simp at h1; omega
  | succ k ih =>
    unfold rootAt
    have hp : (0 : Int) < 2 ^ k := Int.pow_pos (by omega)
    have e : (2 : Int) ^ (k + 1) = 2 ^ k * 2 := by rw [Int.pow_succ]
    rw [e] at h1
    split
    · exact ih _ (by omega) (by omega) (by omega)
    · exact ih _ h0 (by omega) (by omega)
theorem rootZ_bd (x : Int) : 0 ≤ rootZ x ∧ rootZ x < 562949953421312 := rootAt_bd 49 0 x (by omega) (by omega) (by decide +kernel)
def rootSq (x : Int) : Bool := decide (rootZ x * rootZ x = x)
theorem up32_m (a : Big) : (up32B a).m = a.m * 4294967296 := mkBig_m _ _
theorem ret_ib {k : IntKind} {x y : Int} {a b : Bool} (h : x = y) (h' : a = b) : Ending.returned (.tuple #[.int k x, .bool a]) = .returned (.tuple #[.int k y, .bool b]) := by rw [h, h']
theorem sq_cmp (p x : Int) : (p / 18446744073709551616 < x / 18446744073709551616 ∨ p / 18446744073709551616 = x / 18446744073709551616 ∧ p % 18446744073709551616 ≤ x % 18446744073709551616) ↔ p ≤ x := by omega
theorem sq_eq (p x : Int) : (x % 18446744073709551616 = p % 18446744073709551616 ∧ p / 18446744073709551616 = x / 18446744073709551616) ↔ p = x := by omega
set_option maxHeartbeats 2000000 in
theorem root_any (n : Int) (h0 : 0 ≤ n) (h1 : n ≤ 9223372036854775807) (w : World) : Calls Try.prog 119 #[.int .i64 n] w fun e w' => e = .returned (.tuple #[.int .u64 (rootZ (n * 4294967296)), .bool (rootSq (n * 4294967296))]) ∧ Grew w w' := by
  have hn : I64 n := ⟨by omega, h1⟩
  have Hn := Lib.hid hn
  clear hn
  have H1 := Lib.hid (ofB_ok n Hn.out)
  have H2 := Lib.hid (show (ofB n).m < 79228162514264337593543950336 by rw [ofB_m]; omega)
  have hup : up32B (ofB n) = ⟨false, n * 4294967296 / 18446744073709551616, n * 4294967296 % 18446744073709551616⟩ := by
    unfold up32B ofB
    rw [mkBig_m, mkBig_neg, show (n.natAbs : Int) = n by omega, decide_eq_false (show ¬ n < 0 by omega)]
    rfl
  have Hup := Lib.hid (fun w => hup ▸ big_up32_any (ofB n) H1.out H2.out w)
  clear hup
  have hX0 : 0 ≤ n * 4294967296 := by omega
  have hX1 : n * 4294967296 < 39614081257132168796771975168 := by omega
  go_enter Try.func119, Try.ntmps119
  go_wp2_with (first | (go_at_call 84; (with_reducible refine call_later (big_of_any _ Hn.out _) ?_); intro u) | (go_at_call 122; (with_reducible refine call_later (Hup.out _) ?_); intro u) | ((with_reducible refine wp_region_later ?_ ?_ ?_); (· kernel_rfl); (· kernel_rfl); (try simp only [List.append_eq, List.cons_append, List.nil_append]); (repeat (go_big_quiet_step ((first | (go_at_call 84; (with_reducible exact call_quiet (big_of_any _ Hn.out _))) | (go_at_call 122; (with_reducible exact call_quiet (Hup.out _))))))); refine wpQuiet_nil ?_; rintro _ ⟨u, rfl⟩))
  clear Hup H1 H2
  generalize hX : n * 4294967296 = X at *
  have HX := Lib.hid hX
  clear hX
  go_loopw [2, 5] (fun r t wr => ∃ (k : Nat) (q : Int), t = .int .u64 (2 ^ k / 2) ∧ r = .int .u64 q ∧ k ≤ 49 ∧ 0 ≤ q ∧ q + 2 ^ k ≤ 562949953421312 ∧ Hid (q % 2 ^ k = 0) ∧ Hid (rootAt k q X = rootZ X) ∧
    Grew (u.world.alloc (.cells #[.bool false, .int .u64 (X / 18446744073709551616), .int .u64 (X % 18446744073709551616)] 139)) wr) (fun _ t _ => (intOf t).toNat)
  case atStart => exact ⟨49, 0, (by rw [show ((2 : Int) ^ 49 / 2) = 281474976710656 from by decide +kernel]), rfl, by omega, by omega, by decide +kernel, Lib.hid (by decide +kernel), Lib.hid rfl, Grew.refl _⟩
  case round =>
    obtain ⟨k, q, rfl, rfl, hk, hq0, hq1, Hm, Hr, hg⟩ := hrel
    obtain ⟨z, rfl⟩ := later_of hg
    clear hg
    cases k with
    | zero =>
      have hr : q = rootZ X := Hr.out
      have hb := rootZ_bd X
      rw [← hr] at hb
      obtain ⟨hb1, hb2⟩ := hb
      have Hq := Lib.hid hr
      clear hr
      have hu : U64 q := ⟨by omega, by omega⟩
      rw [show ((2 : Int) ^ 0 / 2) = 0 from by decide +kernel]
      rcases bool_or (q * q / 18446744073709551616 == X / 18446744073709551616) with hs | hs
      all_goals
        go_wp2_with (first | (go_at_call 100; (with_reducible refine call_later (mul64_any _ _ hu hu _) ?_); intro u) | ((with_reducible refine wp_region_later ?_ ?_ ?_); (· kernel_rfl); (· kernel_rfl); (try simp only [List.append_eq, List.cons_append, List.nil_append]); (repeat (go_big_quiet_step ((first | (go_at_call 100; (with_reducible exact call_quiet (mul64_any _ _ hu hu _))))))); refine wpQuiet_nil ?_; rintro _ ⟨u, rfl⟩))
        go_ret2
        exact ⟨ret_ib (by rw [HX.out]; exact Hq.out) (by
          rw [HX.out]
          have h := sq_eq (q * q) X
          unfold rootSq
          rw [← Hq.out, Bool.eq_iff_iff]
          simp at hs ⊢
          omega), gw⟩
    | succ j =>
      have hp : (0 : Int) < 2 ^ j := Int.pow_pos (by omega)
      have e : (2 : Int) ^ (j + 1) = 2 ^ j * 2 := by rw [Int.pow_succ]
      have e2 : (2 : Int) ^ (j + 1) / 2 = 2 ^ j := by omega
      have Hor := u64_join (j + 1) q (2 ^ j) hq0 (by omega) Hm.out (by omega) (by omega) (by omega)
      have hm : q % 2 ^ j = 0 := by
        have h1 := Hm.out
        rw [e] at h1
        exact Int.emod_eq_zero_of_dvd (Int.dvd_trans ⟨2, rfl⟩ (Int.dvd_of_emod_eq_zero h1))
      have hm2 : (q + 2 ^ j) % 2 ^ j = 0 := by rw [Int.add_emod_right]; exact hm
      have hstep : rootAt (j + 1) q X = rootAt j (if (q + 2 ^ j) * (q + 2 ^ j) ≤ X then q + 2 ^ j else q) X := rfl
      have hcmp := sq_cmp ((q + 2 ^ j) * (q + 2 ^ j)) X
      rw [e2]
      rw [Hr.out] at hstep
      rw [e] at hq1
      have Hstep := Lib.hid hstep
      have Hm1 := Lib.hid hm
      have Hm2 := Lib.hid hm2
      have Hcmp := Lib.hid hcmp
      clear hstep hm hm2 e e2 Hr Hm hcmp
      have He := Lib.hid (show ∀ a : Int, a = 2 ^ j / 2 → Value.int .u64 a = .int .u64 (2 ^ j / 2) from fun a h => by rw [h])
      have Hj := Lib.hid (show ∀ t : Int, rootAt j t X = rootAt j t X from fun _ => rfl)
      have hu : U64 (q + 2 ^ j) := ⟨by omega, by omega⟩
      go_wp2_with (first | (go_at_call 100; (with_reducible refine call_later (mul64_any _ _ hu hu _) ?_); intro u) | ((with_reducible refine wp_region_later ?_ ?_ ?_); (· kernel_rfl); (· kernel_rfl); (try simp only [List.append_eq, List.cons_append, List.nil_append]); (repeat (go_big_quiet_step ((first | (go_at_call 100; (with_reducible exact call_quiet (mul64_any _ _ hu hu _))))))); refine wpQuiet_nil ?_; rintro _ ⟨u, rfl⟩))
      all_goals
        have hcmp := Hcmp.out
        clear Hcmp
        go_roundw
        case rel =>
          first
          | exact ⟨j, q + 2 ^ j, rfl, rfl, by omega, by omega, by omega, Hm2, Lib.hid (by rw [Hstep.out, if_pos (by omega)]), gw⟩
          | exact ⟨j, q, rfl, rfl, by omega, by omega, by omega, Hm1, Lib.hid (by rw [Hstep.out, if_neg (by omega)]), gw⟩
        case measure => simp [intOf]; omega
theorem spAbs_any (a : Sp) [ha : S64 a] (w : World) : Calls Try.prog 117 #[.agg #[.int .i64 a.lo, .int .i64 a.hi]] w fun e w' => e = .returned (.tuple #[.agg #[.int .i64 (absR a).s.lo, .int .i64 (absR a).s.hi], .int .i64 (absR a).e]) ∧ Grew w w' := by
  cases hk : a.okB
  · have Hf := Lib.hid (show errR 2 = absR a by unfold absR; rw [hk]; rfl)
    go_enter Try.func117, Try.ntmps117
    go_wp2_with (first | (go_at_call 32; (with_reducible refine call_later (spCheck_no a hk _) ?_); intro u))
    refine bodyPost_ret (by (simp [results, Try.results117, go_sem] <;> rfl)) rfl ?_
    exact ⟨ret_err Hf.out rfl, gw⟩
  · have hf : absR a = ⟨absS a, 0⟩ := by unfold absR; rw [hk]; rfl
    have h1 := okB_num hk
    have h2 := ha.lo.2
    have h3 := ha.hi.2
    have Hn := Lib.hid (show negR a = ⟨negS a, 0⟩ by unfold negR; rw [hk]; rfl)
    by_cases c1 : 0 ≤ a.lo
    · have Hf := Lib.hid (show (⟨⟨a.lo, a.hi⟩, 0⟩ : Res) = absR a by rw [hf]; unfold absS; rw [if_pos c1])
      clear hf
      go_enter Try.func117, Try.ntmps117
      go_wp2_with (first | (go_at_call 32; (with_reducible refine call_later (spCheck_yes a hk _) ?_); intro u))
      refine bodyPost_ret (by (simp [results, Try.results117, go_sem] <;> rfl)) rfl ?_
      exact ⟨ret_res Hf.out, gw⟩
    · by_cases c2 : a.hi ≤ 0
      · have Hf := Lib.hid (show (⟨negS a, 0⟩ : Res) = absR a by rw [hf]; unfold absS; rw [if_neg c1, if_pos c2])
        clear hf
        go_enter Try.func117, Try.ntmps117
        go_wp2_with (first | (go_at_call 32; (with_reducible refine call_later (spCheck_yes a hk _) ?_); intro u) | (go_at_call 124; (with_reducible refine call_later (is_res Hn.out (spNeg_any a _)) ?_); intro u))
        refine bodyPost_ret (by (simp [results, Try.results117, go_sem] <;> rfl)) rfl ?_
        exact ⟨ret_res Hf.out, gw⟩
      · have Hf := Lib.hid (show (⟨⟨0, imax (-a.lo) a.hi⟩, 0⟩ : Res) = absR a by rw [hf]; unfold absS; rw [if_neg c1, if_neg c2])
        clear hf
        go_enter Try.func117, Try.ntmps117
        go_wp2_with (first | (go_at_call 32; (with_reducible refine call_later (spCheck_yes a hk _) ?_); intro u))
        all_goals
          refine bodyPost_ret (by (simp [results, Try.results117, go_sem] <;> rfl)) rfl ?_
          exact ⟨ret_res (by rw [← Hf.out]; unfold imax; first | (rw [if_pos (by omega)]; done) | (rw [if_neg (by omega)]; done) | (congr 2; split <;> omega)), gw⟩
end Go.Proofs.Ytdkfkalplmgoeaa
