/-
  Contracts: integers of 128 bits (ullageref01).
-/
import Derived.Test.YtochpnomfedhoaaGreatDiv64
import Derived.Test.YtochpnomfedhoaaGreatI64
import Derived.Deep.RegionHeld3
namespace Go.Proofs.YtochpnomfedhoaaGreat
open Go.RowKit
set_option maxRecDepth 100000
set_option maxHeartbeats 1000000
theorem wOf_any (n : Int) (hn : I64 n) (w : World) : Calls Tryz.prog 161 #[.int .i64 n] w fun e w' => e = .returned (.agg #[.int .i64 (mkW n).h, .int .u64 (mkW n).l]) ∧ Grew w w' := by
  unfold I64 at hn
  go_enter Tryz.func161, Tryz.ntmps161
  go_wp2
  all_goals
    refine bodyPost_ret (by (simp [results, Tryz.results161, go_sem] <;> rfl)) rfl ?_
    refine ⟨ret_w (mkW_of (by unfold U64; (try rw [IntKind.wrap_u64]); omega) (by (try rw [IntKind.wrap_u64]); omega)), (by repeat (first | with_reducible exact Grew.refl _ | with_reducible apply Grew.alloc | with_reducible apply Grew.later | with_reducible apply Grew.drew | with_reducible apply Grew.store | with_reducible assumption))⟩
theorem wPlus_any (x y : Int) (hx : R128 x) (hy : R128 y) (hs : R128 (x + y)) (w : World) : Calls Tryz.prog 138 #[.agg #[.int .i64 (mkW x).h, .int .u64 (mkW x).l], .agg #[.int .i64 (mkW y).h, .int .u64 (mkW y).l]] w fun e w' => e = .returned (.agg #[.int .i64 (mkW (x + y)).h, .int .u64 (mkW (x + y)).l]) ∧ Grew w w' := by
  obtain ⟨x1, x2, x3⟩ := mkW_parts x hx
  obtain ⟨y1, y2, y3⟩ := mkW_parts y hy
  have Hx := Lib.hid x3
  have Hy := Lib.hid y3
  have Hs := Lib.hid hs
  clear x3 y3 hx hy hs
  generalize (mkW x).h = xh at *
  generalize (mkW x).l = xl at *
  generalize (mkW y).h = yh at *
  generalize (mkW y).l = yl at *
  unfold I64 at x1 y1
  unfold U64 at x2 y2
  go_enter Tryz.func138, Tryz.ntmps138
  go_wp2
  all_goals
    refine bodyPost_ret (by (simp [results, Tryz.results138, go_sem] <;> rfl)) rfl ?_
    refine ⟨ret_w (mkW_of ?_ ?_), (by repeat (first | with_reducible exact Grew.refl _ | with_reducible apply Grew.alloc | with_reducible apply Grew.later | with_reducible apply Grew.drew | with_reducible apply Grew.store | with_reducible assumption))⟩
    all_goals
      have h1 := Hx.out
      have h2 := Hy.out
      have h3 := Hs.out
      clear Hx Hy Hs
      unfold R128 at h3
      simp only [IntKind.wrap_u64] at *
      try unfold U64
      try unfold wrap64
      omega
theorem i64_xor_not (a : Int) (h : I64 a) : bits .xor .i64 (-1) a = -a - 1 := by
  unfold I64 at h
  show IntKind.i64.wrap ((BitVec.ofInt 64 (-1) ^^^ BitVec.ofInt 64 a).toNat : Int) = _
  have h1 : BitVec.ofInt 64 (-1) = BitVec.allOnes 64 := by decide
  rw [h1, BitVec.allOnes_xor, BitVec.toNat_not, BitVec.toNat_ofInt]
  simp [IntKind.wrap, IntKind.bits, IntKind.signed]
  omega
theorem u64_xor_not (a : Int) (h : U64 a) : bits .xor .u64 IntKind.u64.max a = 18446744073709551615 - a := by
  unfold U64 at h
  show IntKind.u64.wrap ((BitVec.ofInt 64 IntKind.u64.max ^^^ BitVec.ofInt 64 a).toNat : Int) = _
  have h1 : BitVec.ofInt 64 IntKind.u64.max = BitVec.allOnes 64 := by decide
  rw [h1, BitVec.allOnes_xor, BitVec.toNat_not, BitVec.toNat_ofInt]
  simp [IntKind.wrap, IntKind.bits, IntKind.signed]
  omega
theorem wMinus_any (x : Int) (hx : R128 x) (hs : R128 (-x)) (w : World) : Calls Tryz.prog 159 #[.agg #[.int .i64 (mkW x).h, .int .u64 (mkW x).l]] w fun e w' => e = .returned (.agg #[.int .i64 (mkW (-x)).h, .int .u64 (mkW (-x)).l]) ∧ Grew w w' := by
  obtain ⟨x1, x2, x3⟩ := mkW_parts x hx
  have Hx := Lib.hid x3
  have Hs := Lib.hid hs
  clear x3
  have h1 := Lib.hid (show mkW (-x - 1) = ⟨-(mkW x).h - 1, 18446744073709551615 - (mkW x).l⟩ from (mkW_of (by unfold U64 at *; omega) (by have := Hx.out; omega)).symm)
  have h2 := Lib.hid (show R128 (-x - 1) by unfold R128 at *; omega)
  have h3 := Lib.hid (show R128 (-x - 1 + 1) by rw [show -x - 1 + 1 = -x by omega]; exact Hs.out)
  clear hx hs
  have k1 := i64_xor_not _ x1
  have k2 := u64_xor_not _ x2
  have k3 : IntKind.i64.signed = true := rfl
  have k4 : IntKind.u64.signed = false := rfl
  have hc : ∀ w, Calls Tryz.prog 138 #[.agg #[.int .i64 (-(mkW x).h - 1), .int .u64 (18446744073709551615 - (mkW x).l)], .agg #[.int .i64 0, .int .u64 1]] w fun e w' => e = .returned (.agg #[.int .i64 (mkW (-x)).h, .int .u64 (mkW (-x)).l]) ∧ Grew w w' := fun w => by
    have := wPlus_any (-x - 1) 1 h2.out (by unfold R128; omega) h3.out w
    rw [h1.out, show -x - 1 + 1 = -x by omega] at this
    exact this
  have Hc := Lib.hid hc
  clear hc
  go_enter Tryz.func159, Tryz.ntmps159
  go_wp2_with (first | (go_at_call 138; (with_reducible refine call_later (Hc.out _) ?_); intro u) | ((with_reducible refine wp_region_later ?_ ?_ ?_); (· kernel_rfl); (· kernel_rfl); (repeat (go_big_quiet_step ((first | (go_at_call 138; (with_reducible exact call_quiet (Hc.out _))))))); refine wpQuiet_nil ?_; rintro _ ⟨u, rfl⟩))
  refine bodyPost_ret (by (simp [results, Tryz.results159, go_sem] <;> rfl)) rfl ?_
  exact ⟨rfl, (by repeat (first | with_reducible exact Grew.refl _ | with_reducible apply Grew.alloc | with_reducible apply Grew.later | with_reducible apply Grew.drew | with_reducible apply Grew.store | with_reducible assumption))⟩
theorem wLess_any (x y : Int) (hx : R128 x) (hy : R128 y) (w : World) : Calls Tryz.prog 142 #[.agg #[.int .i64 (mkW x).h, .int .u64 (mkW x).l], .agg #[.int .i64 (mkW y).h, .int .u64 (mkW y).l]] w fun e w' => e = .returned (.bool (decide (x < y))) ∧ Grew w w' := by
  obtain ⟨x1, x2, x3⟩ := mkW_parts x hx
  obtain ⟨y1, y2, y3⟩ := mkW_parts y hy
  have L := Lib.hid (show ((mkW x).h < (mkW y).h ∨ (mkW x).h = (mkW y).h ∧ (mkW x).l < (mkW y).l) ↔ x < y by unfold I64 U64 at *; omega)
  clear x3 y3 hx hy
  generalize (mkW x).h = xh at *
  generalize (mkW x).l = xl at *
  generalize (mkW y).h = yh at *
  generalize (mkW y).l = yl at *
  go_enter Tryz.func142, Tryz.ntmps142
  go_wp2
  all_goals go_ret
  all_goals exact ⟨ret_bool (by have l := L.out; rw [Bool.eq_iff_iff]; first | omega | (simp; done) | (simp; omega)), (by repeat (first | with_reducible exact Grew.refl _ | with_reducible apply Grew.alloc | with_reducible apply Grew.later | with_reducible apply Grew.drew | with_reducible apply Grew.store | with_reducible assumption))⟩
theorem wSame_any (x y : Int) (hx : R128 x) (hy : R128 y) (w : World) : Calls Tryz.prog 186 #[.agg #[.int .i64 (mkW x).h, .int .u64 (mkW x).l], .agg #[.int .i64 (mkW y).h, .int .u64 (mkW y).l]] w fun e w' => e = .returned (.bool (decide (x = y))) ∧ Grew w w' := by
  obtain ⟨x1, x2, x3⟩ := mkW_parts x hx
  obtain ⟨y1, y2, y3⟩ := mkW_parts y hy
  have L := Lib.hid (show ((mkW x).h = (mkW y).h ∧ (mkW x).l = (mkW y).l) ↔ x = y by unfold I64 U64 at *; omega)
  clear x3 y3 hx hy
  generalize (mkW x).h = xh at *
  generalize (mkW x).l = xl at *
  generalize (mkW y).h = yh at *
  generalize (mkW y).l = yl at *
  go_enter Tryz.func186, Tryz.ntmps186
  go_wp2
  all_goals go_ret
  all_goals exact ⟨ret_bool (by have l := L.out; rw [Bool.eq_iff_iff]; first | omega | (simp; done) | (simp; omega)), (by repeat (first | with_reducible exact Grew.refl _ | with_reducible apply Grew.alloc | with_reducible apply Grew.later | with_reducible apply Grew.drew | with_reducible apply Grew.store | with_reducible assumption))⟩
theorem wTwice_any (x : Int) (hx : R128 x) (hs : R128 (x + x)) (w : World) : Calls Tryz.prog 189 #[.agg #[.int .i64 (mkW x).h, .int .u64 (mkW x).l]] w fun e w' => e = .returned (.agg #[.int .i64 (mkW (x + x)).h, .int .u64 (mkW (x + x)).l]) ∧ Grew w w' := by
  go_enter Tryz.func189, Tryz.ntmps189
  go_wp2_with (first | (go_at_call 138; (with_reducible refine call_later (wPlus_any _ _ hx hx hs _) ?_); intro u) | ((with_reducible refine wp_region_later ?_ ?_ ?_); (· kernel_rfl); (· kernel_rfl); (repeat (go_big_quiet_step ((first | (go_at_call 138; (with_reducible exact call_quiet (wPlus_any _ _ hx hx hs _))))))); refine wpQuiet_nil ?_; rintro _ ⟨u, rfl⟩))
  refine bodyPost_ret (by (simp [results, Tryz.results189, go_sem] <;> rfl)) rfl ?_
  exact ⟨rfl, (by repeat (first | with_reducible exact Grew.refl _ | with_reducible apply Grew.alloc | with_reducible apply Grew.later | with_reducible apply Grew.drew | with_reducible apply Grew.store | with_reducible assumption))⟩
theorem wUp32_any (x : Int) (hx : -39614081257132168796771975168 ≤ x ∧ x ≤ 39614081257132168796771975167) (w : World) : Calls Tryz.prog 140 #[.agg #[.int .i64 (mkW x).h, .int .u64 (mkW x).l], .int .i64 32] w fun e w' => e = .returned (.agg #[.int .i64 (mkW (x * 4294967296)).h, .int .u64 (mkW (x * 4294967296)).l]) ∧ Grew w w' := by
  obtain ⟨x1, x2, x3⟩ := mkW_parts x (by unfold R128; omega)
  have Hx := Lib.hid x3
  clear x3
  generalize (mkW x).h = xh at *
  generalize (mkW x).l = xl at *
  unfold I64 at x1
  unfold U64 at x2
  go_enter Tryz.func140, Tryz.ntmps140
  go_wp2
  go_region
  go_wp2
  refine bodyPost_ret (by (simp [results, Tryz.results140, go_sem] <;> rfl)) rfl ?_
  refine ⟨ret_w (mkW_of ?_ ?_), (by repeat (first | with_reducible exact Grew.refl _ | with_reducible apply Grew.alloc | with_reducible apply Grew.later | with_reducible apply Grew.drew | with_reducible apply Grew.store | with_reducible assumption))⟩
  all_goals
    have h1 := Hx.out
    simp only [IntKind.wrap_u64]
    try unfold U64
    try unfold wrap64
    omega
theorem wSize_any (n : Int) (hn : I64 n) (w : World) : Calls Tryz.prog 169 #[.int .i64 n] w fun e w' => e = .returned (.int .u64 n.natAbs) ∧ Grew w w' := by
  unfold I64 at hn
  go_enter Tryz.func169, Tryz.ntmps169
  go_wp2
  all_goals go_ret
  all_goals exact ⟨ret_int (by first | (rw [IntKind.wrap_u64, IntKind.wrap_u64]; omega) | (rw [IntKind.wrap_u64]; omega) | omega), Grew.refl _⟩
end Go.Proofs.YtochpnomfedhoaaGreat
