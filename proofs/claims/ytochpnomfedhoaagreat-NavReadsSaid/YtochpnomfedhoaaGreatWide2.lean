/-
  Contracts: integers of 128 bits (ullageref01): products, quotients.
-/
import Derived.Test.YtochpnomfedhoaaGreatWide
import Derived.Test.YtochpnomfedhoaaGreatLex
namespace Go.Proofs.YtochpnomfedhoaaGreat
open Go.RowKit
set_option maxRecDepth 100000
set_option maxHeartbeats 1000000
theorem prod_bd {u v U V : Int} (h1 : 0 ≤ u) (h2 : u ≤ U) (h3 : 0 ≤ v) (h4 : v ≤ V) : 0 ≤ u * v ∧ u * v ≤ U * V := by
  refine ⟨Int.mul_nonneg h1 h3, ?_⟩
  have a : u * v ≤ U * v := Int.mul_le_mul_of_nonneg_right h2 h3
  have b : U * v ≤ U * V := Int.mul_le_mul_of_nonneg_left h4 (by omega)
  omega
theorem mul_halves (x y : Int) : x / 4294967296 * (y / 4294967296) * 18446744073709551616 + (x / 4294967296 * (y % 4294967296) + x % 4294967296 * (y / 4294967296)) * 4294967296 + x % 4294967296 * (y % 4294967296) = x * y := by
  have e1 := Int.mul_ediv_add_emod x 4294967296
  have e2 := Int.mul_ediv_add_emod y 4294967296
  generalize x / 4294967296 = a at *
  generalize x % 4294967296 = b at *
  generalize y / 4294967296 = c at *
  generalize y % 4294967296 = d at *
  subst e1
  subst e2
  have e : (4294967296 * a + b) * (4294967296 * c + d) = 4294967296 * a * (4294967296 * c) + 4294967296 * a * d + (b * (4294967296 * c) + b * d) := by
    rw [Int.add_mul, Int.mul_add, Int.mul_add]
  rw [e, show 4294967296 * a * (4294967296 * c) = a * c * 18446744073709551616 by rw [Int.mul_assoc, Int.mul_left_comm a, ← Int.mul_assoc, Int.mul_comm (4294967296 * 4294967296)]; rfl,
    show 4294967296 * a * d = a * d * 4294967296 by rw [Int.mul_assoc, Int.mul_comm], show b * (4294967296 * c) = b * c * 4294967296 by rw [Int.mul_left_comm, Int.mul_comm]]
  omega
theorem natAbs_mul_sign (a b : Int) : a * b = if decide (a < 0) != decide (b < 0) then -((a.natAbs : Int) * b.natAbs) else (a.natAbs : Int) * b.natAbs := by
  by_cases h1 : a < 0 <;> by_cases h2 : b < 0 <;> simp [h1, h2]
  · rw [show (a.natAbs : Int) = -a by omega, show (b.natAbs : Int) = -b by omega, Int.neg_mul_neg]
  · rw [show (a.natAbs : Int) = -a by omega, show (b.natAbs : Int) = b by omega, Int.neg_mul, Int.neg_neg]
  · rw [show (a.natAbs : Int) = a by omega, show (b.natAbs : Int) = -b by omega, Int.mul_neg, Int.neg_neg]
  · rw [show (a.natAbs : Int) = a by omega, show (b.natAbs : Int) = b by omega]
theorem wTimes_any (a b : Int) (ha : I64 a) (hb : I64 b) (w : World) : Calls Tryz.prog 143 #[.int .i64 a, .int .i64 b] w fun e w' => e = .returned (.agg #[.int .i64 (mkW (a * b)).h, .int .u64 (mkW (a * b)).l]) ∧ Grew w w' := by
  have Hs := Lib.hid (natAbs_mul_sign a b)
  have Ha := Lib.hid ha
  have Hb := Lib.hid hb
  obtain ⟨x, hx⟩ : ∃ x : Int, x = a.natAbs := ⟨_, rfl⟩
  obtain ⟨y, hy⟩ : ∃ y : Int, y = b.natAbs := ⟨_, rfl⟩
  have hx0 : 0 ≤ x := by omega
  have hy0 : 0 ≤ y := by omega
  have hx1 : x ≤ 9223372036854775808 := by unfold I64 at ha; omega
  have hy1 : y ≤ 9223372036854775808 := by unfold I64 at hb; omega
  have hsx : ∀ w, Calls Tryz.prog 169 #[.int .i64 a] w fun e w' => e = .returned (.int .u64 x) ∧ Grew w w' := fun w => by rw [hx]; exact wSize_any a Ha.out w
  have hsy : ∀ w, Calls Tryz.prog 169 #[.int .i64 b] w fun e w' => e = .returned (.int .u64 y) ∧ Grew w w' := fun w => by rw [hy]; exact wSize_any b Hb.out w
  have Hx := Lib.hid hsx
  have Hy := Lib.hid hsy
  clear hsx hsy
  rw [← hx, ← hy] at Hs
  clear hx hy ha hb
  have p0 := prod_bd (u := x % 4294967296) (v := y % 4294967296) (U := 4294967295) (V := 4294967295) (by omega) (by omega) (by omega) (by omega)
  have p1 := prod_bd (u := x / 4294967296) (v := y % 4294967296) (U := 2147483648) (V := 4294967295) (by omega) (by omega) (by omega) (by omega)
  have p2 := prod_bd (u := x % 4294967296) (v := y / 4294967296) (U := 4294967295) (V := 2147483648) (by omega) (by omega) (by omega) (by omega)
  have p3 := prod_bd (u := x / 4294967296) (v := y / 4294967296) (U := 2147483648) (V := 2147483648) (by omega) (by omega) (by omega) (by omega)
  obtain ⟨p00, p01⟩ := p0
  obtain ⟨p10, p11⟩ := p1
  obtain ⟨p20, p21⟩ := p2
  obtain ⟨p30, p31⟩ := p3
  have hm := mul_halves x y
  generalize hq0 : x % 4294967296 * (y % 4294967296) = q0 at *
  generalize hq1 : x / 4294967296 * (y % 4294967296) = q1 at *
  generalize hq2 : x % 4294967296 * (y / 4294967296) = q2 at *
  generalize hq3 : x / 4294967296 * (y / 4294967296) = q3 at *
  have Hm := Lib.hid hm
  have hS : R128 ((q1 + q2) * 4294967296 + q0) := by unfold R128; omega
  have hplus : ∀ w, Calls Tryz.prog 138 #[.agg #[.int .i64 ((q1 + q2) / 4294967296), .int .u64 ((q1 + q2) % 4294967296 * 4294967296)], .agg #[.int .i64 0, .int .u64 q0]] w fun e w' => e = .returned (.agg #[.int .i64 (mkW ((q1 + q2) * 4294967296 + q0)).h, .int .u64 (mkW ((q1 + q2) * 4294967296 + q0)).l]) ∧ Grew w w' := fun w => by
    have := wPlus_any ((q1 + q2) * 4294967296) q0 (by unfold R128; omega) (by unfold R128; omega) hS w
    rw [show mkW ((q1 + q2) * 4294967296) = ⟨(q1 + q2) / 4294967296, (q1 + q2) % 4294967296 * 4294967296⟩ from (mkW_of (by unfold U64; omega) (by omega)).symm,
      show mkW q0 = ⟨0, q0⟩ from (mkW_of (by unfold U64; omega) (by omega)).symm] at this
    exact this
  have Hplus := Lib.hid hplus
  obtain ⟨t1, t2, t3⟩ := mkW_parts _ hS
  have hfin : (⟨(mkW ((q1 + q2) * 4294967296 + q0)).h + q3, (mkW ((q1 + q2) * 4294967296 + q0)).l⟩ : W) = mkW (x * y) := mkW_of t2 (by omega)
  have Hfin := Lib.hid hfin
  have hR : R128 (x * y) := by unfold R128; omega
  have hR2 : R128 (-(x * y)) := by unfold R128; omega
  have hb3 : -9223372036854775808 ≤ (mkW ((q1 + q2) * 4294967296 + q0)).h + q3 ∧ (mkW ((q1 + q2) * 4294967296 + q0)).h + q3 ≤ 9223372036854775807 := by
    have := Hm.out
    unfold U64 at t2
    omega
  obtain ⟨b31, b32⟩ := hb3
  have hminus : ∀ w, Calls Tryz.prog 159 #[.agg #[.int .i64 ((mkW ((q1 + q2) * 4294967296 + q0)).h + q3), .int .u64 (mkW ((q1 + q2) * 4294967296 + q0)).l]] w fun e w' => e = .returned (.agg #[.int .i64 (mkW (-(x * y))).h, .int .u64 (mkW (-(x * y))).l]) ∧ Grew w w' := fun w => by
    have := wMinus_any (x * y) hR hR2 w
    rw [← Hfin.out] at this
    exact this
  have Hminus := Lib.hid hminus
  clear hm hS hplus t1 t2 t3 hfin hR hR2 hminus Hm
  have e0 := hq0
  have e1 := hq1
  have e2 := hq2
  have e3 := hq3
  clear hq0 hq1 hq2 hq3
  rcases Int.lt_or_le a 0 with sa | sa <;> rcases Int.lt_or_le b 0 with sb | sb
  · have na : decide (a < 0) = true := by simp; omega
    have nb : decide (b < 0) = true := by simp; omega
    have hs2 := Hs.out
    rw [na, nb, if_neg (by simp)] at hs2
    have Hs3 := Lib.hid hs2
    clear hs2
    go_enter Tryz.func143, Tryz.ntmps143
    go_wp2_with (first | (go_at_call 169; (with_reducible refine call_later (Hx.out _) ?_); intro u) | (go_at_call 169; (with_reducible refine call_later (Hy.out _) ?_); intro u) | (go_at_call 138; (with_reducible refine call_later (Hplus.out _) ?_); intro u) | (go_at_call 159; (with_reducible refine call_later (Hminus.out _) ?_); intro u))
    refine bodyPost_ret (by (simp [results, Tryz.results143, go_sem] <;> rfl)) rfl ?_
    exact ⟨ret_w (by rw [Hs3.out]; exact Hfin.out), (by repeat (first | with_reducible exact Grew.refl _ | with_reducible apply Grew.alloc | with_reducible apply Grew.later | with_reducible apply Grew.drew | with_reducible apply Grew.store | with_reducible assumption))⟩
  · have na : decide (a < 0) = true := by simp; omega
    have nb : decide (b < 0) = false := by simp; omega
    have hs2 := Hs.out
    rw [na, nb, if_pos (by decide)] at hs2
    have Hs3 := Lib.hid hs2
    clear hs2
    go_enter Tryz.func143, Tryz.ntmps143
    go_wp2_with (first | (go_at_call 169; (with_reducible refine call_later (Hx.out _) ?_); intro u) | (go_at_call 169; (with_reducible refine call_later (Hy.out _) ?_); intro u) | (go_at_call 138; (with_reducible refine call_later (Hplus.out _) ?_); intro u) | (go_at_call 159; (with_reducible refine call_later (Hminus.out _) ?_); intro u))
    refine bodyPost_ret (by (simp [results, Tryz.results143, go_sem] <;> rfl)) rfl ?_
    exact ⟨ret_w (by rw [Hs3.out]), (by repeat (first | with_reducible exact Grew.refl _ | with_reducible apply Grew.alloc | with_reducible apply Grew.later | with_reducible apply Grew.drew | with_reducible apply Grew.store | with_reducible assumption))⟩
  · have na : decide (a < 0) = false := by simp; omega
    have nb : decide (b < 0) = true := by simp; omega
    have hs2 := Hs.out
    rw [na, nb, if_pos (by decide)] at hs2
    have Hs3 := Lib.hid hs2
    clear hs2
    go_enter Tryz.func143, Tryz.ntmps143
    go_wp2_with (first | (go_at_call 169; (with_reducible refine call_later (Hx.out _) ?_); intro u) | (go_at_call 169; (with_reducible refine call_later (Hy.out _) ?_); intro u) | (go_at_call 138; (with_reducible refine call_later (Hplus.out _) ?_); intro u) | (go_at_call 159; (with_reducible refine call_later (Hminus.out _) ?_); intro u))
    refine bodyPost_ret (by (simp [results, Tryz.results143, go_sem] <;> rfl)) rfl ?_
    exact ⟨ret_w (by rw [Hs3.out]), (by repeat (first | with_reducible exact Grew.refl _ | with_reducible apply Grew.alloc | with_reducible apply Grew.later | with_reducible apply Grew.drew | with_reducible apply Grew.store | with_reducible assumption))⟩
  · have na : decide (a < 0) = false := by simp; omega
    have nb : decide (b < 0) = false := by simp; omega
    have hs2 := Hs.out
    rw [na, nb, if_neg (by simp)] at hs2
    have Hs3 := Lib.hid hs2
    clear hs2
    go_enter Tryz.func143, Tryz.ntmps143
    go_wp2_with (first | (go_at_call 169; (with_reducible refine call_later (Hx.out _) ?_); intro u) | (go_at_call 169; (with_reducible refine call_later (Hy.out _) ?_); intro u) | (go_at_call 138; (with_reducible refine call_later (Hplus.out _) ?_); intro u) | (go_at_call 159; (with_reducible refine call_later (Hminus.out _) ?_); intro u))
    refine bodyPost_ret (by (simp [results, Tryz.results143, go_sem] <;> rfl)) rfl ?_
    exact ⟨ret_w (by rw [Hs3.out]; exact Hfin.out), (by repeat (first | with_reducible exact Grew.refl _ | with_reducible apply Grew.alloc | with_reducible apply Grew.later | with_reducible apply Grew.drew | with_reducible apply Grew.store | with_reducible assumption))⟩
theorem wDown32_any (x : Int) (hx : R128 x) (w : World) : Calls Tryz.prog 158 #[.agg #[.int .i64 (mkW x).h, .int .u64 (mkW x).l]] w fun e w' => e = .returned (.agg #[.int .i64 (mkW (x / 4294967296)).h, .int .u64 (mkW (x / 4294967296)).l]) ∧ Grew w w' := by
  obtain ⟨x1, x2, x3⟩ := mkW_parts x hx
  have Hx := Lib.hid x3
  clear x3 hx
  generalize (mkW x).h = xh at *
  generalize (mkW x).l = xl at *
  unfold I64 at x1
  unfold U64 at x2
  rcases Int.lt_or_le xh 0 with hs | hs
  · have t1 : xh.tdiv 4294967296 = -((-xh) / 4294967296) := by
      rw [show xh.tdiv 4294967296 = (-(-xh)).tdiv 4294967296 by rw [Int.neg_neg], Int.neg_tdiv, Int.tdiv_eq_ediv_of_nonneg (by omega)]
    have t2 : xh.tmod 4294967296 = -((-xh) % 4294967296) := by
      rw [show xh.tmod 4294967296 = (-(-xh)).tmod 4294967296 by rw [Int.neg_neg], Int.neg_tmod, Int.tmod_eq_emod_of_nonneg (by omega)]
    go_enter Tryz.func158, Tryz.ntmps158
    go_wp2
    all_goals
      refine bodyPost_ret (by (simp [results, Tryz.results158, go_sem] <;> rfl)) rfl ?_
      refine ⟨ret_w (mkW_of ?_ ?_), (by repeat (first | with_reducible exact Grew.refl _ | with_reducible apply Grew.alloc | with_reducible apply Grew.later | with_reducible apply Grew.drew | with_reducible apply Grew.store | with_reducible assumption))⟩
      all_goals
        have h1 := Hx.out
        try simp only [IntKind.wrap_u64] at *
        try unfold U64
        try unfold wrap64 at *
        omega
  · go_enter Tryz.func158, Tryz.ntmps158
    go_wp2
    all_goals
      refine bodyPost_ret (by (simp [results, Tryz.results158, go_sem] <;> rfl)) rfl ?_
      refine ⟨ret_w (mkW_of ?_ ?_), (by repeat (first | with_reducible exact Grew.refl _ | with_reducible apply Grew.alloc | with_reducible apply Grew.later | with_reducible apply Grew.drew | with_reducible apply Grew.store | with_reducible assumption))⟩
      all_goals
        have h1 := Hx.out
        try simp only [IntKind.wrap_u64] at *
        try unfold U64
        try unfold wrap64 at *
        omega
theorem wide_any (n : Int) (hn : I64 n) (w : World) : Calls Tryz.prog 139 #[.int .i64 n] w fun e w' => e = .returned (.agg #[.int .i64 (mkW n).h, .int .u64 (mkW n).l]) ∧ Grew w w' := by
  go_enter Tryz.func139, Tryz.ntmps139
  go_wp2_with (first | (go_at_call 161; (with_reducible refine call_later (wOf_any n hn _) ?_); intro u) | ((with_reducible refine wp_region_later ?_ ?_ ?_); (· kernel_rfl); (· kernel_rfl); (repeat (go_big_quiet_step ((first | (go_at_call 161; (with_reducible exact call_quiet (wOf_any n hn _))))))); refine wpQuiet_nil ?_; rintro _ ⟨u, rfl⟩))
  refine bodyPost_ret (by (simp [results, Tryz.results139, go_sem] <;> rfl)) rfl ?_
  exact ⟨rfl, (by repeat (first | with_reducible exact Grew.refl _ | with_reducible apply Grew.alloc | with_reducible apply Grew.later | with_reducible apply Grew.drew | with_reducible apply Grew.store | with_reducible assumption))⟩
end Go.Proofs.YtochpnomfedhoaaGreat
