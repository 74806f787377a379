/-
  Contracts: span's big (less, up, divide, fit, hull).
-/
import Derived.Test.YtffbipcdlnfihaaDiv64
namespace Go.Proofs.Ytffbipcdlnfihaa
open Go.RowKit
set_option maxRecDepth 100000
set_option maxHeartbeats 1000000
/-- Times 2^32. -/
def up32B (a : Big) : Big := mkBig a.neg (a.m * 4294967296)
theorem big_up32_any (a : Big) (ha : a.ok) (hm : a.m < 79228162514264337593543950336) (w : World) : Calls Try.prog 93 #[.agg #[.bool a.neg, .int .u64 a.hi, .int .u64 a.lo], .int .u64 32] w fun e w' => e = .returned (.agg #[.bool (up32B a).neg, .int .u64 (up32B a).hi, .int .u64 (up32B a).lo]) ∧ Grew w w' := by
  obtain ⟨h1, h2⟩ := ha
  have e1 : bits .or .u64 (a.hi * 4294967296) (a.lo / 4294967296) = a.hi * 4294967296 + a.lo / 4294967296 :=
    u64_join 32 _ _ (by unfold U64 at *; omega) (by unfold U64 Big.m at *; omega) (by show a.hi * 4294967296 % 4294967296 = 0; omega) (by unfold U64 at *; omega) (by unfold U64 at *; omega) (by show a.lo / 4294967296 < 4294967296; unfold U64 at *; omega)
  have E1 := Lib.hid e1
  clear e1
  go_enter Try.func93, Try.ntmps93
  go_wp2
  refine bodyPost_ret (by (simp [results, Try.results93, go_sem] <;> rfl)) rfl ?_
  refine ⟨ret_big ?_, gw⟩
  rw [IntKind.wrap_u64, IntKind.wrap_u64, show a.hi * 4294967296 % 18446744073709551616 = a.hi * 4294967296 by unfold U64 Big.m at *; omega, E1.out]
  exact big_eq (by unfold U64 Big.m at *; omega) (by unfold U64 at *; omega) (by unfold U64 Big.m at *; omega)
theorem less_law (a b : Big) (ha : a.ok) (hb : b.ok) :
    (decide (a.val < 0) = true → decide (b.val < 0) = false → a.val < b.val) ∧ (decide (a.val < 0) = false → decide (b.val < 0) = true → ¬ a.val < b.val) ∧
    (decide (a.val < 0) = true → decide (b.val < 0) = true → (a.val < b.val ↔ b.hi < a.hi ∨ b.hi = a.hi ∧ b.lo < a.lo)) ∧
    (decide (a.val < 0) = false → decide (b.val < 0) = false → (a.val < b.val ↔ a.hi < b.hi ∨ a.hi = b.hi ∧ a.lo < b.lo)) := by
  obtain ⟨ha1, ha2⟩ := ha
  obtain ⟨hb1, hb2⟩ := hb
  obtain ⟨n1, x1, y1⟩ := a
  obtain ⟨n2, x2, y2⟩ := b
  unfold U64 at *
  simp only [] at *
  cases n1 <;> cases n2 <;> simp [Big.val, Big.m] <;> (try refine ⟨?_, ?_, ?_, ?_⟩) <;> (try refine ⟨?_, ?_, ?_⟩) <;> (try intros) <;> omega
theorem big_less_any (a b : Big) (ha : a.ok) (hb : b.ok) (w : World) : Calls Try.prog 74 #[.agg #[.bool a.neg, .int .u64 a.hi, .int .u64 a.lo], .agg #[.bool b.neg, .int .u64 b.hi, .int .u64 b.lo]] w fun e w' => e = .returned (.bool (decide (a.val < b.val))) ∧ Grew w w' := by
  obtain ⟨l1, l2, l3, l4⟩ := less_law a b ha hb
  cases h1 : decide (a.val < 0) <;> cases h2 : decide (b.val < 0)
  · have L := Lib.hid (l4 h1 h2)
    clear l1 l2 l3 l4
    go_enter Try.func74, Try.ntmps74
    go_wp2_with (first | (go_at_call 91; (with_reducible refine call_later (is_bool h1 (big_below_any a ha _)) ?_); intro u) | (go_at_call 91; (with_reducible refine call_later (is_bool h2 (big_below_any b hb _)) ?_); intro u) | ((with_reducible refine wp_region_later ?_ ?_ ?_); (· kernel_rfl); (· kernel_rfl); (try simp only [List.append_eq, List.cons_append, List.nil_append]); (repeat (go_big_quiet_step ((first | (go_at_call 91; (with_reducible exact call_quiet (is_bool h1 (big_below_any a ha _)))) | (go_at_call 91; (with_reducible exact call_quiet (is_bool h2 (big_below_any b hb _)))))))); refine wpQuiet_nil ?_; rintro _ ⟨u, rfl⟩))
    all_goals go_ret
    all_goals refine ⟨ret_bool (by have l := L.out; rw [Bool.eq_iff_iff]; first | omega | (simp; done) | (simp; omega)), ?_⟩
    all_goals exact gw
  · have L := Lib.hid (l2 h1 h2)
    clear l1 l2 l3 l4
    go_enter Try.func74, Try.ntmps74
    go_wp2_with (first | (go_at_call 91; (with_reducible refine call_later (is_bool h1 (big_below_any a ha _)) ?_); intro u) | (go_at_call 91; (with_reducible refine call_later (is_bool h2 (big_below_any b hb _)) ?_); intro u) | ((with_reducible refine wp_region_later ?_ ?_ ?_); (· kernel_rfl); (· kernel_rfl); (try simp only [List.append_eq, List.cons_append, List.nil_append]); (repeat (go_big_quiet_step ((first | (go_at_call 91; (with_reducible exact call_quiet (is_bool h1 (big_below_any a ha _)))) | (go_at_call 91; (with_reducible exact call_quiet (is_bool h2 (big_below_any b hb _)))))))); refine wpQuiet_nil ?_; rintro _ ⟨u, rfl⟩))
    all_goals go_ret
    all_goals exact ⟨ret_bool (by have l := L.out; rw [Bool.eq_iff_iff]; first | omega | (simp; done) | (simp; omega)), gw⟩
  · have L := Lib.hid (l1 h1 h2)
    clear l1 l2 l3 l4
    go_enter Try.func74, Try.ntmps74
    go_wp2_with (first | (go_at_call 91; (with_reducible refine call_later (is_bool h1 (big_below_any a ha _)) ?_); intro u) | (go_at_call 91; (with_reducible refine call_later (is_bool h2 (big_below_any b hb _)) ?_); intro u) | ((with_reducible refine wp_region_later ?_ ?_ ?_); (· kernel_rfl); (· kernel_rfl); (try simp only [List.append_eq, List.cons_append, List.nil_append]); (repeat (go_big_quiet_step ((first | (go_at_call 91; (with_reducible exact call_quiet (is_bool h1 (big_below_any a ha _)))) | (go_at_call 91; (with_reducible exact call_quiet (is_bool h2 (big_below_any b hb _)))))))); refine wpQuiet_nil ?_; rintro _ ⟨u, rfl⟩))
    all_goals go_ret
    all_goals exact ⟨ret_bool (by have l := L.out; rw [Bool.eq_iff_iff]; first | omega | (simp; done) | (simp; omega)), gw⟩
  · have L := Lib.hid (l3 h1 h2)
    clear l1 l2 l3 l4
    go_enter Try.func74, Try.ntmps74
    go_wp2_with (first | (go_at_call 91; (with_reducible refine call_later (is_bool h1 (big_below_any a ha _)) ?_); intro u) | (go_at_call 91; (with_reducible refine call_later (is_bool h2 (big_below_any b hb _)) ?_); intro u) | ((with_reducible refine wp_region_later ?_ ?_ ?_); (· kernel_rfl); (· kernel_rfl); (try simp only [List.append_eq, List.cons_append, List.nil_append]); (repeat (go_big_quiet_step ((first | (go_at_call 91; (with_reducible exact call_quiet (is_bool h1 (big_below_any a ha _)))) | (go_at_call 91; (with_reducible exact call_quiet (is_bool h2 (big_below_any b hb _)))))))); refine wpQuiet_nil ?_; rintro _ ⟨u, rfl⟩))
    all_goals go_ret
    all_goals refine ⟨ret_bool (by have l := L.out; rw [Bool.eq_iff_iff]; first | omega | (simp; done) | (simp; omega)), ?_⟩
    all_goals exact gw
theorem ofB_ok (a : Int) (ha : I64 a) : (ofB a).ok := mkBig_ok _ _ (by unfold I64 at ha; unfold B128; omega)
theorem ofB_m (a : Int) : (ofB a).m = a.natAbs := mkBig_m _ _
theorem ofB_val (a : Int) : (ofB a).val = a := by
  unfold ofB
  rw [mkBig_val]
  by_cases h : a < 0 <;> simp [h] <;> omega
theorem ofB_sum (a b : Int) (ha : I64 a) (hb : I64 b) : B128 ((ofB a).m + (ofB b).m) := by
  rw [ofB_m, ofB_m]
  unfold I64 at ha hb
  unfold B128
  omega
theorem timesB_ok (a b : Int) (ha : I64 a) (hb : I64 b) : (timesB a b).ok := by
  refine mkBig_ok _ _ ?_
  unfold I64 at ha hb
  have h1 : (a.natAbs : Int) * b.natAbs ≤ 9223372036854775808 * b.natAbs := Int.mul_le_mul_of_nonneg_right (by omega) (by omega)
  have h2 : 0 ≤ (a.natAbs : Int) * b.natAbs := Int.mul_nonneg (by omega) (by omega)
  unfold B128
  omega
theorem timesB_val (a b : Int) : (timesB a b).val = a * b := by
  unfold timesB
  rw [mkBig_val]
  rcases Int.natAbs_eq a with h1 | h1 <;> rcases Int.natAbs_eq b with h2 | h2
  all_goals
    generalize a.natAbs = x at *
    generalize b.natAbs = y at *
    subst h1
    subst h2
    by_cases hx : x = 0 <;> by_cases hy : y = 0 <;> simp [hx, hy, Int.neg_mul, Int.mul_neg] <;> omega
theorem big_fit_any (a b : Big) (ha : a.ok) (hb : b.ok) (w : World) : Calls Try.prog 66 #[.agg #[.bool a.neg, .int .u64 a.hi, .int .u64 a.lo], .agg #[.bool b.neg, .int .u64 b.hi, .int .u64 b.lo]] w fun e w' => e = .returned (.tuple #[.agg #[.int .i64 (fitR a.val b.val).s.lo, .int .i64 (fitR a.val b.val).s.hi], .int .i64 (fitR a.val b.val).e]) ∧ Grew w w' := by
  cases h1 : a.numB <;> cases h2 : b.numB
  all_goals
    go_enter Try.func66, Try.ntmps66
    go_wp2_with (first | (go_at_call 78; (with_reducible refine call_later (big_num_any _ (by assumption) _) ?_); intro u))
    refine bodyPost_ret (by (simp [results, Try.results66, go_sem] <;> rfl)) rfl ?_
    exact ⟨ret_res (by rw [fit_law a b ha hb, h1, h2]; rfl), gw⟩
/-- A quotient by an integer below 2^64: rounded down, and up. -/
def divDown (a : Big) (d : Int) : Big := if a.neg then mkBig true (upZ a.m d) else mkBig false (downZ a.m d)
def divUp (a : Big) (d : Int) : Big := if a.neg then mkBig true (downZ a.m d) else mkBig false (upZ a.m d)
theorem up_law (m d : Int) (hd : 1 ≤ d) : upZ m d = if m % d = 0 then m / d else m / d + 1 := by
  unfold upZ
  have h1 := Int.mul_ediv_add_emod m d
  have h2 := Int.emod_nonneg m (show d ≠ 0 by omega)
  have h3 := Int.emod_lt_of_pos m (show 0 < d by omega)
  split
  · rename_i h
    have : -m = d * (-(m / d)) := by rw [Int.mul_neg]; omega
    rw [this, Int.mul_ediv_cancel_left _ (by omega)]; omega
  · have : -m = (d - m % d) + d * (-(m / d) - 1) := by rw [Int.mul_sub, Int.mul_neg]; omega
    rw [this, Int.add_mul_ediv_left _ _ (by omega), Int.ediv_eq_zero_of_lt (by omega) (by omega)]; omega
/-- What the two steps of the division make. -/
theorem quot_law (hi lo d : Int) (h1 : U64 hi) (h2 : U64 lo) (hd : 1 ≤ d) (hd2 : d ≤ 18446744073709551615) :
    U64 (hi / d) ∧ U64 ((hi % d * 18446744073709551616 + lo) / d) ∧ 0 ≤ (hi % d * 18446744073709551616 + lo) % d ∧ (hi % d * 18446744073709551616 + lo) % d < d ∧
    hi / d * 18446744073709551616 + (hi % d * 18446744073709551616 + lo) / d = (hi * 18446744073709551616 + lo) / d ∧ (hi % d * 18446744073709551616 + lo) % d = (hi * 18446744073709551616 + lo) % d := by
  unfold U64 at *
  have e := Int.mul_ediv_add_emod hi d
  have a1 := Int.emod_nonneg hi (show d ≠ 0 by omega)
  have a2 := Int.emod_lt_of_pos hi (show 0 < d by omega)
  have e2 : hi * 18446744073709551616 + lo = (hi % d * 18446744073709551616 + lo) + d * (hi / d * 18446744073709551616) := by
    rw [← Int.mul_assoc]; omega
  refine ⟨⟨Int.ediv_nonneg h1.1 (by omega), Int.le_trans (Int.ediv_le_self _ h1.1) h1.2⟩, ⟨Int.ediv_nonneg (by omega) (by omega), ?_⟩, Int.emod_nonneg _ (by omega), Int.emod_lt_of_pos _ (by omega), ?_, ?_⟩
  · apply Int.le_of_lt_add_one
    apply Int.ediv_lt_of_lt_mul (by omega)
    have : (hi % d + 1) * 18446744073709551616 ≤ d * 18446744073709551616 := Int.mul_le_mul_of_nonneg_right (by omega) (by omega)
    omega
  · rw [e2, Int.add_mul_ediv_left _ _ (by omega)]; omega
  · rw [e2, Int.add_mul_emod_self_left]
theorem ret_big2 {n n' : Bool} {x y x' y' : Int} {r r' : Big} (h : (⟨n, x, y⟩ : Big) = r) (h' : (⟨n', x', y'⟩ : Big) = r') :
    Ending.returned (.tuple #[.agg #[.bool n, .int .u64 x, .int .u64 y], .agg #[.bool n', .int .u64 x', .int .u64 y']]) = .returned (.tuple #[.agg #[.bool r.neg, .int .u64 r.hi, .int .u64 r.lo], .agg #[.bool (r').neg, .int .u64 (r').hi, .int .u64 (r').lo]]) := by rw [← h, ← h']
theorem plusB_one (x y m : Int) (hm : x * 18446744073709551616 + y = m) : plusB ⟨false, x, y⟩ ⟨false, 0, 1⟩ = mkBig false (m + 1) := by
  subst hm
  rfl
theorem big_ok0 (x : Int) (h : 0 ≤ x) (h2 : x ≤ 18446744073709551615) : (⟨false, 0, x⟩ : Big).ok := ⟨⟨Int.le_refl _, show (0 : Int) ≤ 18446744073709551615 by omega⟩, ⟨h, h2⟩⟩
theorem divide_any (a b : Big) (ha : a.ok) (hb : b.ok) (hh : b.hi = 0) (hl : 1 ≤ b.lo) (hn : b.neg = false) (w : World) :
    Calls Try.prog 65 #[.agg #[.bool a.neg, .int .u64 a.hi, .int .u64 a.lo], .agg #[.bool b.neg, .int .u64 b.hi, .int .u64 b.lo]] w fun e w' => e = .returned (.tuple #[.agg #[.bool (divDown a b.lo).neg, .int .u64 (divDown a b.lo).hi, .int .u64 (divDown a b.lo).lo], .agg #[.bool (divUp a b.lo).neg, .int .u64 (divUp a b.lo).hi, .int .u64 (divUp a b.lo).lo]]) ∧ Grew w w' := by
  obtain ⟨ha1, ha2⟩ := ha
  obtain ⟨hb1, hb2⟩ := hb
  obtain ⟨bn, bh, bl⟩ := b
  simp only [] at hh hl hn hb1 hb2
  subst hh
  subst hn
  obtain ⟨q1, q2, q3, q4, q5, q6⟩ := quot_law a.hi a.lo bl ha1 ha2 hl hb2.2
  have hbl := hb2.2
  have hne : (bl == 0) = false := by rw [beq_eq_false_iff_ne]; omega
  have hm1 : 0 ≤ a.hi % bl := Int.emod_nonneg _ (by omega)
  have hm2 : a.hi % bl < bl := Int.emod_lt_of_pos _ (by omega)
  obtain ⟨a1, a2⟩ := ha1
  obtain ⟨a3, a4⟩ := ha2
  have Q5 := Lib.hid q5
  have hup := up_law a.m bl hl
  rw [show a.m = a.hi * 18446744073709551616 + a.lo from rfl] at hup
  have hdd : divDown a bl = if a.neg then mkBig true (upZ (a.hi * 18446744073709551616 + a.lo) bl) else mkBig false ((a.hi * 18446744073709551616 + a.lo) / bl) := rfl
  have hdu : divUp a bl = if a.neg then mkBig true ((a.hi * 18446744073709551616 + a.lo) / bl) else mkBig false (upZ (a.hi * 18446744073709551616 + a.lo) bl) := rfl
  rw [hup, ← q6, ← q5] at hdd hdu
  clear hup q5 q6
  have Hd := Lib.hid hdd
  have Hu := Lib.hid hdu
  clear hdd hdu
  have Hr := Lib.hid (big_ok0 ((a.hi % bl * 18446744073709551616 + a.lo) % bl) q3 (by omega))
  have Hq := Lib.hid (show (⟨false, a.hi / bl, (a.hi % bl * 18446744073709551616 + a.lo) / bl⟩ : Big).ok from ⟨q1, q2⟩)
  have Hone := Lib.hid (big_ok0 1 (by omega) (by omega))
  by_cases hz : (a.hi % bl * 18446744073709551616 + a.lo) % bl = 0
  · have Hz := Lib.hid (show decide ((⟨false, 0, (a.hi % bl * 18446744073709551616 + a.lo) % bl⟩ : Big).m = 0) = true by simp [Big.m, hz])
    have Hz2 := Lib.hid hz
    clear hz
    cases hng : a.neg
    all_goals
      go_enter Try.func65, Try.ntmps65
      go_wp2_with (first | (go_at_call 75; (with_reducible refine call_later (div64_any _ _ bl (by unfold U64; omega) (by unfold U64; omega) (by unfold U64; omega) hm2 _) ?_); intro u) | (go_at_call 77; (with_reducible refine call_later (is_bool Hz.out (big_zero_any ⟨false, 0, (a.hi % bl * 18446744073709551616 + a.lo) % bl⟩ Hr.out _)) ?_); intro u) | go_region | ((with_reducible refine wp_region_later ?_ ?_ ?_); (· kernel_rfl); (· kernel_rfl); (try simp only [List.append_eq, List.cons_append, List.nil_append]); (repeat (go_big_quiet_step ((first | (go_at_call 75; (with_reducible exact call_quiet (div64_any _ _ bl (by unfold U64; omega) (by unfold U64; omega) (by unfold U64; omega) hm2 _))) | (go_at_call 77; (with_reducible exact call_quiet (is_bool Hz.out (big_zero_any ⟨false, 0, (a.hi % bl * 18446744073709551616 + a.lo) % bl⟩ Hr.out _)))))))); refine wpQuiet_nil ?_; rintro _ ⟨u, rfl⟩))
      refine bodyPost_ret (by (simp [results, Try.results65, go_sem] <;> rfl)) rfl ?_
      refine ⟨ret_big2 ?_ ?_, gw⟩
      all_goals (first | rw [Hd.out] | rw [Hu.out])
      all_goals (first | rw [if_pos hng] | rw [if_neg (by simp [hng])])
      all_goals (try first | rw [if_pos Hz2.out] | rw [if_neg Hz2.out])
      all_goals first | exact big_eq q1 q2 rfl | (rw [plusB_one _ _ _ rfl]; done) | (rw [plusB_one _ _ _ rfl]; rfl)
  · have Hz := Lib.hid (show decide ((⟨false, 0, (a.hi % bl * 18446744073709551616 + a.lo) % bl⟩ : Big).m = 0) = false by simp [Big.m, hz])
    have hb2 : 2 ≤ bl := by omega
    have Hz2 := Lib.hid hz
    clear hz
    have hbig : B128 ((⟨false, a.hi / bl, (a.hi % bl * 18446744073709551616 + a.lo) / bl⟩ : Big).m + (⟨false, 0, 1⟩ : Big).m) := by
      unfold B128 Big.m
      simp only []
      have h1 := Int.mul_ediv_add_emod a.hi bl
      have h2 : a.hi / bl * 2 ≤ a.hi := by
        have : a.hi / bl * 2 ≤ a.hi / bl * bl := Int.mul_le_mul_of_nonneg_left hb2 q1.1
        rw [Int.mul_comm] at h1
        omega
      have := q1.1
      have := q2.1
      have := q2.2
      omega
    have Hbig := Lib.hid hbig
    clear hbig
    cases hng : a.neg
    all_goals
      go_enter Try.func65, Try.ntmps65
      go_wp2_with (first | (go_at_call 75; (with_reducible refine call_later (div64_any _ _ bl (by unfold U64; omega) (by unfold U64; omega) (by unfold U64; omega) hm2 _) ?_); intro u) | (go_at_call 77; (with_reducible refine call_later (is_bool Hz.out (big_zero_any ⟨false, 0, (a.hi % bl * 18446744073709551616 + a.lo) % bl⟩ Hr.out _)) ?_); intro u) | (go_at_call 68; (with_reducible refine call_later (plus_any ⟨false, a.hi / bl, (a.hi % bl * 18446744073709551616 + a.lo) / bl⟩ ⟨false, 0, 1⟩ _ Hq.out Hone.out Hbig.out) ?_); intro u) | go_region | ((with_reducible refine wp_region_later ?_ ?_ ?_); (· kernel_rfl); (· kernel_rfl); (try simp only [List.append_eq, List.cons_append, List.nil_append]); (repeat (go_big_quiet_step ((first | (go_at_call 75; (with_reducible exact call_quiet (div64_any _ _ bl (by unfold U64; omega) (by unfold U64; omega) (by unfold U64; omega) hm2 _))) | (go_at_call 77; (with_reducible exact call_quiet (is_bool Hz.out (big_zero_any ⟨false, 0, (a.hi % bl * 18446744073709551616 + a.lo) % bl⟩ Hr.out _)))) | (go_at_call 68; (with_reducible exact call_quiet (plus_any ⟨false, a.hi / bl, (a.hi % bl * 18446744073709551616 + a.lo) / bl⟩ ⟨false, 0, 1⟩ _ Hq.out Hone.out Hbig.out))))))); refine wpQuiet_nil ?_; rintro _ ⟨u, rfl⟩))
      refine bodyPost_ret (by (simp [results, Try.results65, go_sem] <;> rfl)) rfl ?_
      refine ⟨ret_big2 ?_ ?_, gw⟩
      all_goals (first | rw [Hd.out] | rw [Hu.out])
      all_goals (first | rw [if_pos hng] | rw [if_neg (by simp [hng])])
      all_goals (try first | rw [if_pos Hz2.out] | rw [if_neg Hz2.out])
      all_goals first | exact big_eq q1 q2 rfl | (rw [plusB_one _ _ _ rfl]; done) | (rw [plusB_one _ _ _ rfl]; rfl)
end Go.Proofs.Ytffbipcdlnfihaa
