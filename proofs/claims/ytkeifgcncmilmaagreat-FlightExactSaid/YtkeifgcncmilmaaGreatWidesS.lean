/-
  Contracts: integers of 128 bits (ullageref01).
  Contracts: integers of 128 bits (ullageref01): products, quotients.
  Contracts: integers of 128 bits (ullageref01): bits, long division.
-/
import Derived.Test.YtkeifgcncmilmaaGreatDiv64S
import Derived.Test.YtkeifgcncmilmaaGreatNumAllS
import Derived.Deep.RegionHeld3
import Derived.Test.YtkeifgcncmilmaaGreatLexAllS
namespace Go.Proofs.YtkeifgcncmilmaaGreat
open Go.RowKit
set_option maxRecDepth 100000
set_option maxHeartbeats 1000000
theorem wOf_any (n : Int) (hn : I64 n) (w : World) : Calls Tryz.prog 50 #[.int .i64 n] w fun e w' => e = .returned (.agg #[.int .i64 (mkW n).h, .int .u64 (mkW n).l]) ∧ Grew w w' := by
  unfold I64 at hn
  go_enter Tryz.func50, Tryz.ntmps50
  go_wp2
  all_goals
    refine bodyPost_ret (by (simp [results, Tryz.results50, go_sem] <;> rfl)) rfl ?_
    refine ⟨ret_w (mkW_of (by unfold U64; (try rw [IntKind.wrap_u64]); omega) (by (try rw [IntKind.wrap_u64]); omega)), gw⟩
theorem wPlus_any (x y : Int) (hx : R128 x) (hy : R128 y) (hs : R128 (x + y)) (w : World) : Calls Tryz.prog 48 #[.agg #[.int .i64 (mkW x).h, .int .u64 (mkW x).l], .agg #[.int .i64 (mkW y).h, .int .u64 (mkW y).l]] w fun e w' => e = .returned (.agg #[.int .i64 (mkW (x + y)).h, .int .u64 (mkW (x + y)).l]) ∧ Grew w w' := by
  obtain ⟨x1, x2, x3⟩ := mkW_parts x hx
  obtain ⟨y1, y2, y3⟩ := mkW_parts y hy
  have Hx := Lib.hid x3
  have Hy := Lib.hid y3
  have Hs := Lib.hid hs
  clear x3 y3 hx hy hs
  generalize (mkW x).h = xh at *
  generalize (mkW x).l = xl at *
  generalize (mkW y).h = yh at *
  generalize (mkW y).l = yl at *
  unfold I64 at x1 y1
  unfold U64 at x2 y2
  go_enter Tryz.func48, Tryz.ntmps48
  go_wp2
  all_goals
    refine bodyPost_ret (by (simp [results, Tryz.results48, go_sem] <;> rfl)) rfl ?_
    refine ⟨ret_w (mkW_of ?_ ?_), gw⟩
    all_goals
      have h1 := Hx.out
      have h2 := Hy.out
      have h3 := Hs.out
      clear Hx Hy Hs
      unfold R128 at h3
      simp only [IntKind.wrap_u64] at *
      try unfold U64
      try unfold wrap64
      omega
theorem i64_xor_not (a : Int) (h : I64 a) : bits .xor .i64 (-1) a = -a - 1 := by
  unfold I64 at h
  show IntKind.i64.wrap ((BitVec.ofInt 64 (-1) ^^^ BitVec.ofInt 64 a).toNat : Int) = _
  have h1 : BitVec.ofInt 64 (-1) = BitVec.allOnes 64 := by decide
  rw [h1, BitVec.allOnes_xor, BitVec.toNat_not, BitVec.toNat_ofInt]
  simp [IntKind.wrap, IntKind.bits, IntKind.signed]
  omega
theorem u64_xor_not (a : Int) (h : U64 a) : bits .xor .u64 IntKind.u64.max a = 18446744073709551615 - a := by
  unfold U64 at h
  show IntKind.u64.wrap ((BitVec.ofInt 64 IntKind.u64.max ^^^ BitVec.ofInt 64 a).toNat : Int) = _
  have h1 : BitVec.ofInt 64 IntKind.u64.max = BitVec.allOnes 64 := by decide
  rw [h1, BitVec.allOnes_xor, BitVec.toNat_not, BitVec.toNat_ofInt]
  simp [IntKind.wrap, IntKind.bits, IntKind.signed]
  omega
theorem wMinus_any (x : Int) (hx : R128 x) (hs : R128 (-x)) (w : World) : Calls Tryz.prog 92 #[.agg #[.int .i64 (mkW x).h, .int .u64 (mkW x).l]] w fun e w' => e = .returned (.agg #[.int .i64 (mkW (-x)).h, .int .u64 (mkW (-x)).l]) ∧ Grew w w' := by
  obtain ⟨x1, x2, x3⟩ := mkW_parts x hx
  have Hx := Lib.hid x3
  have Hs := Lib.hid hs
  clear x3
  have h1 := Lib.hid (show mkW (-x - 1) = ⟨-(mkW x).h - 1, 18446744073709551615 - (mkW x).l⟩ from (mkW_of (by unfold U64 at *; omega) (by have := Hx.out; omega)).symm)
  have h2 := Lib.hid (show R128 (-x - 1) by unfold R128 at *; omega)
  have h3 := Lib.hid (show R128 (-x - 1 + 1) by rw [show -x - 1 + 1 = -x by omega]; exact Hs.out)
  clear hx hs
  have k1 := i64_xor_not _ x1
  have k2 := u64_xor_not _ x2
  have k3 : IntKind.i64.signed = true := rfl
  have k4 : IntKind.u64.signed = false := rfl
  have hc : ∀ w, Calls Tryz.prog 48 #[.agg #[.int .i64 (-(mkW x).h - 1), .int .u64 (18446744073709551615 - (mkW x).l)], .agg #[.int .i64 0, .int .u64 1]] w fun e w' => e = .returned (.agg #[.int .i64 (mkW (-x)).h, .int .u64 (mkW (-x)).l]) ∧ Grew w w' := fun w => by
    have := wPlus_any (-x - 1) 1 h2.out (by unfold R128; omega) h3.out w
    rw [h1.out, show -x - 1 + 1 = -x by omega] at this
    exact this
  have Hc := Lib.hid hc
  clear hc
  go_enter Tryz.func92, Tryz.ntmps92
  go_wp2_with (first | (go_at_call 48; (with_reducible refine call_later (Hc.out _) ?_); intro u))
  refine bodyPost_ret (by (simp [results, Tryz.results92, go_sem] <;> rfl)) rfl ?_
  exact ⟨rfl, gw⟩
theorem wLess_any (x y : Int) (hx : R128 x) (hy : R128 y) (w : World) : Calls Tryz.prog 93 #[.agg #[.int .i64 (mkW x).h, .int .u64 (mkW x).l], .agg #[.int .i64 (mkW y).h, .int .u64 (mkW y).l]] w fun e w' => e = .returned (.bool (decide (x < y))) ∧ Grew w w' := by
  obtain ⟨x1, x2, x3⟩ := mkW_parts x hx
  obtain ⟨y1, y2, y3⟩ := mkW_parts y hy
  have L := Lib.hid (show ((mkW x).h < (mkW y).h ∨ (mkW x).h = (mkW y).h ∧ (mkW x).l < (mkW y).l) ↔ x < y by unfold I64 U64 at *; omega)
  clear x3 y3 hx hy
  generalize (mkW x).h = xh at *
  generalize (mkW x).l = xl at *
  generalize (mkW y).h = yh at *
  generalize (mkW y).l = yl at *
  go_enter Tryz.func93, Tryz.ntmps93
  go_wp2
  all_goals go_ret
  all_goals exact ⟨ret_bool (by have l := L.out; rw [Bool.eq_iff_iff]; first | omega | (simp; done) | (simp; omega)), gw⟩
theorem wSize_any (n : Int) (hn : I64 n) (w : World) : Calls Tryz.prog 91 #[.int .i64 n] w fun e w' => e = .returned (.int .u64 n.natAbs) ∧ Grew w w' := by
  unfold I64 at hn
  go_enter Tryz.func91, Tryz.ntmps91
  go_wp2
  all_goals go_ret
  all_goals exact ⟨ret_int (by first | (rw [IntKind.wrap_u64, IntKind.wrap_u64]; omega) | (rw [IntKind.wrap_u64]; omega) | omega), Grew.refl _⟩
end Go.Proofs.YtkeifgcncmilmaaGreat
namespace Go.Proofs.YtkeifgcncmilmaaGreat
open Go.RowKit
set_option maxRecDepth 100000
set_option maxHeartbeats 1000000
theorem prod_bd {u v U V : Int} (h1 : 0 ≤ u) (h2 : u ≤ U) (h3 : 0 ≤ v) (h4 : v ≤ V) : 0 ≤ u * v ∧ u * v ≤ U * V := by
  refine ⟨Int.mul_nonneg h1 h3, ?_⟩
  have a : u * v ≤ U * v := Int.mul_le_mul_of_nonneg_right h2 h3
  have b : U * v ≤ U * V := Int.mul_le_mul_of_nonneg_left h4 (by omega)
  omega
theorem mul_halves (x y : Int) : x / 4294967296 * (y / 4294967296) * 18446744073709551616 + (x / 4294967296 * (y % 4294967296) + x % 4294967296 * (y / 4294967296)) * 4294967296 + x % 4294967296 * (y % 4294967296) = x * y := by
  have e1 := Int.mul_ediv_add_emod x 4294967296
  have e2 := Int.mul_ediv_add_emod y 4294967296
  generalize x / 4294967296 = a at *
  generalize x % 4294967296 = b at *
  generalize y / 4294967296 = c at *
  generalize y % 4294967296 = d at *
  subst e1
  subst e2
  have e : (4294967296 * a + b) * (4294967296 * c + d) = 4294967296 * a * (4294967296 * c) + 4294967296 * a * d + (b * (4294967296 * c) + b * d) := by
    rw [Int.add_mul, Int.mul_add, Int.mul_add]
  rw [e, show 4294967296 * a * (4294967296 * c) = a * c * 18446744073709551616 by rw [Int.mul_assoc, Int.mul_left_comm a, ← Int.mul_assoc, Int.mul_comm (4294967296 * 4294967296)]; rfl,
    show 4294967296 * a * d = a * d * 4294967296 by rw [Int.mul_assoc, Int.mul_comm], show b * (4294967296 * c) = b * c * 4294967296 by rw [Int.mul_left_comm, Int.mul_comm]]
  omega
theorem natAbs_mul_sign (a b : Int) : a * b = if decide (a < 0) != decide (b < 0) then -((a.natAbs : Int) * b.natAbs) else (a.natAbs : Int) * b.natAbs := by
  by_cases h1 : a < 0 <;> by_cases h2 : b < 0 <;> simp [h1, h2]
  · rw [show (a.natAbs : Int) = -a by omega, show (b.natAbs : Int) = -b by omega, Int.neg_mul_neg]
  · rw [show (a.natAbs : Int) = -a by omega, show (b.natAbs : Int) = b by omega, Int.neg_mul, Int.neg_neg]
  · rw [show (a.natAbs : Int) = a by omega, show (b.natAbs : Int) = -b by omega, Int.mul_neg, Int.neg_neg]
  · rw [show (a.natAbs : Int) = a by omega, show (b.natAbs : Int) = b by omega]
theorem wTimes_any (a b : Int) (ha : I64 a) (hb : I64 b) (w : World) : Calls Tryz.prog 51 #[.int .i64 a, .int .i64 b] w fun e w' => e = .returned (.agg #[.int .i64 (mkW (a * b)).h, .int .u64 (mkW (a * b)).l]) ∧ Grew w w' := by
  have Hs := Lib.hid (natAbs_mul_sign a b)
  have Ha := Lib.hid ha
  have Hb := Lib.hid hb
  obtain ⟨x, hx⟩ : ∃ x : Int, x = a.natAbs := ⟨_, rfl⟩
  obtain ⟨y, hy⟩ : ∃ y : Int, y = b.natAbs := ⟨_, rfl⟩
  have hx0 : 0 ≤ x := by omega
  have hy0 : 0 ≤ y := by omega
  have hx1 : x ≤ 9223372036854775808 := by unfold I64 at ha; omega
  have hy1 : y ≤ 9223372036854775808 := by unfold I64 at hb; omega
  have hsx : ∀ w, Calls Tryz.prog 91 #[.int .i64 a] w fun e w' => e = .returned (.int .u64 x) ∧ Grew w w' := fun w => by rw [hx]; exact wSize_any a Ha.out w
  have hsy : ∀ w, Calls Tryz.prog 91 #[.int .i64 b] w fun e w' => e = .returned (.int .u64 y) ∧ Grew w w' := fun w => by rw [hy]; exact wSize_any b Hb.out w
  have Hx := Lib.hid hsx
  have Hy := Lib.hid hsy
  clear hsx hsy
  rw [← hx, ← hy] at Hs
  clear hx hy ha hb
  have p0 := prod_bd (u := x % 4294967296) (v := y % 4294967296) (U := 4294967295) (V := 4294967295) (by omega) (by omega) (by omega) (by omega)
  have p1 := prod_bd (u := x / 4294967296) (v := y % 4294967296) (U := 2147483648) (V := 4294967295) (by omega) (by omega) (by omega) (by omega)
  have p2 := prod_bd (u := x % 4294967296) (v := y / 4294967296) (U := 4294967295) (V := 2147483648) (by omega) (by omega) (by omega) (by omega)
  have p3 := prod_bd (u := x / 4294967296) (v := y / 4294967296) (U := 2147483648) (V := 2147483648) (by omega) (by omega) (by omega) (by omega)
  obtain ⟨p00, p01⟩ := p0
  obtain ⟨p10, p11⟩ := p1
  obtain ⟨p20, p21⟩ := p2
  obtain ⟨p30, p31⟩ := p3
  have hm := mul_halves x y
  generalize hq0 : x % 4294967296 * (y % 4294967296) = q0 at *
  generalize hq1 : x / 4294967296 * (y % 4294967296) = q1 at *
  generalize hq2 : x % 4294967296 * (y / 4294967296) = q2 at *
  generalize hq3 : x / 4294967296 * (y / 4294967296) = q3 at *
  have Hm := Lib.hid hm
  have hS : R128 ((q1 + q2) * 4294967296 + q0) := by unfold R128; omega
  have hplus : ∀ w, Calls Tryz.prog 48 #[.agg #[.int .i64 ((q1 + q2) / 4294967296), .int .u64 ((q1 + q2) % 4294967296 * 4294967296)], .agg #[.int .i64 0, .int .u64 q0]] w fun e w' => e = .returned (.agg #[.int .i64 (mkW ((q1 + q2) * 4294967296 + q0)).h, .int .u64 (mkW ((q1 + q2) * 4294967296 + q0)).l]) ∧ Grew w w' := fun w => by
    have := wPlus_any ((q1 + q2) * 4294967296) q0 (by unfold R128; omega) (by unfold R128; omega) hS w
    rw [show mkW ((q1 + q2) * 4294967296) = ⟨(q1 + q2) / 4294967296, (q1 + q2) % 4294967296 * 4294967296⟩ from (mkW_of (by unfold U64; omega) (by omega)).symm,
      show mkW q0 = ⟨0, q0⟩ from (mkW_of (by unfold U64; omega) (by omega)).symm] at this
    exact this
  have Hplus := Lib.hid hplus
  obtain ⟨t1, t2, t3⟩ := mkW_parts _ hS
  have hfin : (⟨(mkW ((q1 + q2) * 4294967296 + q0)).h + q3, (mkW ((q1 + q2) * 4294967296 + q0)).l⟩ : W) = mkW (x * y) := mkW_of t2 (by omega)
  have Hfin := Lib.hid hfin
  have hR : R128 (x * y) := by unfold R128; omega
  have hR2 : R128 (-(x * y)) := by unfold R128; omega
  have hb3 : -9223372036854775808 ≤ (mkW ((q1 + q2) * 4294967296 + q0)).h + q3 ∧ (mkW ((q1 + q2) * 4294967296 + q0)).h + q3 ≤ 9223372036854775807 := by
    have := Hm.out
    unfold U64 at t2
    omega
  obtain ⟨b31, b32⟩ := hb3
  have hminus : ∀ w, Calls Tryz.prog 92 #[.agg #[.int .i64 ((mkW ((q1 + q2) * 4294967296 + q0)).h + q3), .int .u64 (mkW ((q1 + q2) * 4294967296 + q0)).l]] w fun e w' => e = .returned (.agg #[.int .i64 (mkW (-(x * y))).h, .int .u64 (mkW (-(x * y))).l]) ∧ Grew w w' := fun w => by
    have := wMinus_any (x * y) hR hR2 w
    rw [← Hfin.out] at this
    exact this
  have Hminus := Lib.hid hminus
  clear hm hS hplus t1 t2 t3 hfin hR hR2 hminus Hm
  have e0 := hq0
  have e1 := hq1
  have e2 := hq2
  have e3 := hq3
  clear hq0 hq1 hq2 hq3
  rcases Int.lt_or_le a 0 with sa | sa <;> rcases Int.lt_or_le b 0 with sb | sb
  · have na : decide (a < 0) = true := by simp; omega
    have nb : decide (b < 0) = true := by simp; omega
    have hs2 := Hs.out
    rw [na, nb, if_neg (by simp)] at hs2
    have Hs3 := Lib.hid hs2
    clear hs2
    go_enter Tryz.func51, Tryz.ntmps51
    go_wp2_with (first | (go_at_call 91; (with_reducible refine call_later (Hx.out _) ?_); intro u) | (go_at_call 91; (with_reducible refine call_later (Hy.out _) ?_); intro u) | (go_at_call 48; (with_reducible refine call_later (Hplus.out _) ?_); intro u) | (go_at_call 92; (with_reducible refine call_later (Hminus.out _) ?_); intro u))
    refine bodyPost_ret (by (simp [results, Tryz.results51, go_sem] <;> rfl)) rfl ?_
    exact ⟨ret_w (by rw [Hs3.out]; exact Hfin.out), gw⟩
  · have na : decide (a < 0) = true := by simp; omega
    have nb : decide (b < 0) = false := by simp; omega
    have hs2 := Hs.out
    rw [na, nb, if_pos (by decide)] at hs2
    have Hs3 := Lib.hid hs2
    clear hs2
    go_enter Tryz.func51, Tryz.ntmps51
    go_wp2_with (first | (go_at_call 91; (with_reducible refine call_later (Hx.out _) ?_); intro u) | (go_at_call 91; (with_reducible refine call_later (Hy.out _) ?_); intro u) | (go_at_call 48; (with_reducible refine call_later (Hplus.out _) ?_); intro u) | (go_at_call 92; (with_reducible refine call_later (Hminus.out _) ?_); intro u))
    refine bodyPost_ret (by (simp [results, Tryz.results51, go_sem] <;> rfl)) rfl ?_
    exact ⟨ret_w (by rw [Hs3.out]), gw⟩
  · have na : decide (a < 0) = false := by simp; omega
    have nb : decide (b < 0) = true := by simp; omega
    have hs2 := Hs.out
    rw [na, nb, if_pos (by decide)] at hs2
    have Hs3 := Lib.hid hs2
    clear hs2
    go_enter Tryz.func51, Tryz.ntmps51
    go_wp2_with (first | (go_at_call 91; (with_reducible refine call_later (Hx.out _) ?_); intro u) | (go_at_call 91; (with_reducible refine call_later (Hy.out _) ?_); intro u) | (go_at_call 48; (with_reducible refine call_later (Hplus.out _) ?_); intro u) | (go_at_call 92; (with_reducible refine call_later (Hminus.out _) ?_); intro u))
    refine bodyPost_ret (by (simp [results, Tryz.results51, go_sem] <;> rfl)) rfl ?_
    exact ⟨ret_w (by rw [Hs3.out]), gw⟩
  · have na : decide (a < 0) = false := by simp; omega
    have nb : decide (b < 0) = false := by simp; omega
    have hs2 := Hs.out
    rw [na, nb, if_neg (by simp)] at hs2
    have Hs3 := Lib.hid hs2
    clear hs2
    go_enter Tryz.func51, Tryz.ntmps51
    go_wp2_with (first | (go_at_call 91; (with_reducible refine call_later (Hx.out _) ?_); intro u) | (go_at_call 91; (with_reducible refine call_later (Hy.out _) ?_); intro u) | (go_at_call 48; (with_reducible refine call_later (Hplus.out _) ?_); intro u) | (go_at_call 92; (with_reducible refine call_later (Hminus.out _) ?_); intro u))
    refine bodyPost_ret (by (simp [results, Tryz.results51, go_sem] <;> rfl)) rfl ?_
    exact ⟨ret_w (by rw [Hs3.out]; exact Hfin.out), gw⟩
end Go.Proofs.YtkeifgcncmilmaaGreat
namespace Go.Proofs.YtkeifgcncmilmaaGreat
open Go.RowKit
set_option maxRecDepth 100000
set_option maxHeartbeats 1000000
def bitZ (x : Int) (i : Nat) : Int := x / 2 ^ i % 2
end Go.Proofs.YtkeifgcncmilmaaGreat
