/-
  Contracts: integers of 128 bits (ullageref01): bits, long division.
-/
import Derived.Test.YtochpnomfedhoaaGreatWide2
namespace Go.Proofs.YtochpnomfedhoaaGreat
open Go.RowKit
set_option maxRecDepth 100000
set_option maxHeartbeats 1000000
def bitZ (x : Int) (i : Nat) : Int := x / 2 ^ i % 2
theorem and_one_u64 (a : Int) (h : U64 a) : bits .and .u64 a 1 = a % 2 := by
  unfold U64 at h
  obtain ⟨a, rfl⟩ := Int.eq_ofNat_of_zero_le h.1
  have := bits_and_u64_nat a 1 (by omega) (by omega)
  rw [Nat.and_one_is_mod] at this
  rw [show (1 : Int) = ((1 : Nat) : Int) from rfl, this]
  omega
theorem and_one_i64 (a : Int) (h0 : 0 ≤ a) (h1 : a ≤ 9223372036854775807) : bits .and .i64 a 1 = a % 2 := by
  obtain ⟨a, rfl⟩ := Int.eq_ofNat_of_zero_le h0
  show IntKind.i64.wrap ((BitVec.ofInt 64 (a : Int) &&& BitVec.ofInt 64 1).toNat : Int) = _
  rw [BitVec.toNat_and, ofInt_u64 a (by omega), show (BitVec.ofInt 64 1).toNat = 1 by decide, Nat.and_one_is_mod]
  simp [IntKind.wrap, IntKind.bits, IntKind.signed]
  omega
theorem bit_high (x : Int) (i : Nat) (hi : 64 ≤ i) : x / 18446744073709551616 / 2 ^ (i - 64) % 2 = bitZ x i := by
  unfold bitZ
  rw [Int.ediv_ediv_of_nonneg (by omega), show (18446744073709551616 : Int) = 2 ^ 64 from by decide +kernel, ← Int.pow_add, show 64 + (i - 64) = i by omega]
theorem bit_low (h l : Int) (i : Nat) (hi : i < 64) : l / 2 ^ i % 2 = bitZ (h * 18446744073709551616 + l) i := by
  unfold bitZ
  have hp : (0 : Int) < 2 ^ i := Int.pow_pos (by omega)
  have e : h * 18446744073709551616 = 2 ^ i * (h * 2 ^ (63 - i) * 2) := by
    rw [show (18446744073709551616 : Int) = 2 ^ 64 from by decide +kernel, show (64 : Nat) = i + (63 - i) + 1 by omega, Int.pow_succ, Int.pow_add]
    rw [← Int.mul_assoc, ← Int.mul_assoc, Int.mul_comm h (2 ^ i), Int.mul_assoc (2 ^ i) h, Int.mul_assoc (2 ^ i) (h * _)]
  rw [e, Int.add_comm, Int.add_mul_ediv_left _ _ (by omega)]
  omega
theorem wBit_any (x : Int) (i : Nat) (hx0 : 0 ≤ x) (hx : R128 x) (hi : i ≤ 127) (w : World) : Calls Tryz.prog 188 #[.agg #[.int .i64 (mkW x).h, .int .u64 (mkW x).l], .int .i64 i] w fun e w' => e = .returned (.bool (decide (bitZ x i = 1))) ∧ Grew w w' := by
  obtain ⟨x1, x2, x3⟩ := mkW_parts x hx
  have Hx := Lib.hid x3
  have hh : (mkW x).h = x / 18446744073709551616 := rfl
  have h0 : 0 ≤ (mkW x).h := by rw [hh]; omega
  by_cases hlt : i < 64
  · have hb := bit_low (mkW x).h (mkW x).l i hlt
    rw [x3] at hb
    have Hb := Lib.hid hb
    clear x3 hh hb
    generalize (mkW x).h = xh at *
    generalize (mkW x).l = xl at *
    have hp : (0 : Int) < 2 ^ i := Int.pow_pos (by omega)
    have hq0 : 0 ≤ xl / 2 ^ i := Int.ediv_nonneg x2.1 (by omega)
    have hq1 : xl / 2 ^ i ≤ xl := Int.ediv_le_self _ x2.1
    have ha := and_one_u64 (xl / 2 ^ i) ⟨hq0, Int.le_trans hq1 x2.2⟩
    obtain ⟨x21, x22⟩ := x2
    go_enter Tryz.func188, Tryz.ntmps188
    go_wp2
    all_goals go_ret
    all_goals
      refine ⟨ret_bool ?_, (by repeat (first | with_reducible exact Grew.refl _ | with_reducible apply Grew.alloc | with_reducible apply Grew.later | with_reducible apply Grew.drew | with_reducible apply Grew.store | with_reducible assumption))⟩
      have l := Hb.out
      rw [Bool.eq_iff_iff]
      simp
      omega
  · have hb := bit_high x i (by omega)
    rw [← hh] at hb
    have Hb := Lib.hid hb
    have hi64 : ((i : Int) - 64).toNat = i - 64 := by omega
    clear x3 hh hb
    generalize (mkW x).h = xh at *
    generalize (mkW x).l = xl at *
    have hp : (0 : Int) < 2 ^ (i - 64) := Int.pow_pos (by omega)
    have hq0 : 0 ≤ xh / 2 ^ (i - 64) := Int.ediv_nonneg h0 (by omega)
    have hq1 : xh / 2 ^ (i - 64) ≤ xh := Int.ediv_le_self _ h0
    have hx7 := x1.2
    have ha := and_one_i64 (xh / 2 ^ (i - 64)) hq0 (by omega)
    go_enter Tryz.func188, Tryz.ntmps188
    go_wp2
    all_goals go_ret
    all_goals
      refine ⟨ret_bool ?_, (by repeat (first | with_reducible exact Grew.refl _ | with_reducible apply Grew.alloc | with_reducible apply Grew.later | with_reducible apply Grew.drew | with_reducible apply Grew.store | with_reducible assumption))⟩
      have l := Hb.out
      rw [Bool.eq_iff_iff]
      simp
      omega
theorem wRoot_any (x : Int) (h0 : 0 ≤ x) (h1 : x < 79228162514264337593543950336) (w : World) : Calls Tryz.prog 141 #[.agg #[.int .i64 (mkW x).h, .int .u64 (mkW x).l]] w fun e w' => e = .returned (.int .i64 (rootZ x)) ∧ Grew w w' := by
  have hR := Lib.hid (show R128 x by unfold R128; omega)
  go_enter Tryz.func141, Tryz.ntmps141
  go_wp2
  go_loopw [3, 4] (fun r t wr => ∃ (k : Nat) (q : Int), t = .int .i64 (2 ^ k / 2) ∧ r = .int .i64 q ∧ k ≤ 49 ∧ 0 ≤ q ∧ q + 2 ^ k ≤ 562949953421312 ∧ Hid (rootAt k q x = rootZ x) ∧ Grew (w.alloc (.cells #[.int .i64 (mkW x).h, .int .u64 (mkW x).l] 159)) wr) (fun _ t _ => (intOf t).toNat)
  case atStart => exact ⟨49, 0, (by rw [show ((2 : Int) ^ 49 / 2) = 281474976710656 from by decide +kernel]), rfl, by omega, by omega, by decide +kernel, Lib.hid rfl, Grew.refl _⟩
  case round =>
    obtain ⟨k, q, rfl, rfl, hk, hq0, hq1, Hr, hg⟩ := hrel
    obtain ⟨z, rfl⟩ := later_of hg
    clear hg
    cases k with
    | zero =>
      rw [show ((2 : Int) ^ 0 / 2) = 0 from by decide +kernel]
      go_wp2
      go_ret
      exact ⟨ret_int Hr.out, (by repeat (first | with_reducible exact Grew.refl _ | with_reducible apply Grew.alloc | with_reducible apply Grew.later | with_reducible apply Grew.drew | with_reducible apply Grew.store | with_reducible assumption))⟩
    | succ j =>
      have hp : (0 : Int) < 2 ^ j := Int.pow_pos (by omega)
      have e : (2 : Int) ^ (j + 1) = 2 ^ j * 2 := by rw [Int.pow_succ]
      have e2 : (2 : Int) ^ (j + 1) / 2 = 2 ^ j := by omega
      have hstep : rootAt (j + 1) q x = rootAt j (if (q + 2 ^ j) * (q + 2 ^ j) ≤ x then q + 2 ^ j else q) x := rfl
      rw [e2]
      rw [Hr.out] at hstep
      rw [e] at hq1
      have Hstep := Lib.hid hstep
      clear hstep e e2 Hr
      have hI := Lib.hid (show I64 (q + 2 ^ j) from ⟨by omega, by omega⟩)
      have hsq := prod_bd (u := q + 2 ^ j) (v := q + 2 ^ j) (U := 562949953421312) (V := 562949953421312) (by omega) (by omega) (by omega) (by omega)
      have hS := Lib.hid (show R128 ((q + 2 ^ j) * (q + 2 ^ j)) by unfold R128; omega)
      clear hsq
      rcases bool_or (decide (x < (q + 2 ^ j) * (q + 2 ^ j))) with hc | hc
      · have Hc := Lib.hid hc
        clear hc
        go_wp2_with (first | (go_at_call 143; (with_reducible refine call_later (wTimes_any _ _ hI.out hI.out _) ?_); intro u) | (go_at_call 142; (with_reducible refine call_later (is_bool Hc.out (wLess_any _ _ hR.out hS.out _)) ?_); intro u) | ((with_reducible refine wp_region_later ?_ ?_ ?_); (· kernel_rfl); (· kernel_rfl); (repeat (go_big_quiet_step ((first | (go_at_call 143; (with_reducible exact call_quiet (wTimes_any _ _ hI.out hI.out _))) | (go_at_call 142; (with_reducible exact call_quiet (is_bool Hc.out (wLess_any _ _ hR.out hS.out _)))))))); refine wpQuiet_nil ?_; rintro _ ⟨u, rfl⟩))
        go_roundw
        case rel => exact ⟨j, q + 2 ^ j, by first | rfl | (congr 1; omega), rfl, by omega, by omega, by omega, Lib.hid (by have := Hc.out; rw [Hstep.out, if_pos (by simpa using this)]), (by repeat (first | with_reducible exact Grew.refl _ | with_reducible apply Grew.alloc | with_reducible apply Grew.later | with_reducible apply Grew.drew | with_reducible apply Grew.store | with_reducible assumption))⟩
        case measure => simp [intOf]; omega
      · have Hc := Lib.hid hc
        clear hc
        go_wp2_with (first | (go_at_call 143; (with_reducible refine call_later (wTimes_any _ _ hI.out hI.out _) ?_); intro u) | (go_at_call 142; (with_reducible refine call_later (is_bool Hc.out (wLess_any _ _ hR.out hS.out _)) ?_); intro u) | ((with_reducible refine wp_region_later ?_ ?_ ?_); (· kernel_rfl); (· kernel_rfl); (repeat (go_big_quiet_step ((first | (go_at_call 143; (with_reducible exact call_quiet (wTimes_any _ _ hI.out hI.out _))) | (go_at_call 142; (with_reducible exact call_quiet (is_bool Hc.out (wLess_any _ _ hR.out hS.out _)))))))); refine wpQuiet_nil ?_; rintro _ ⟨u, rfl⟩))
        go_roundw
        case rel => exact ⟨j, q, by first | rfl | (congr 1; omega), rfl, by omega, by omega, by omega, Lib.hid (by have := Hc.out; rw [Hstep.out, if_neg (by simpa using this)]), (by repeat (first | with_reducible exact Grew.refl _ | with_reducible apply Grew.alloc | with_reducible apply Grew.later | with_reducible apply Grew.drew | with_reducible apply Grew.store | with_reducible assumption))⟩
        case measure => simp [intOf]; omega
end Go.Proofs.YtochpnomfedhoaaGreat
