/-
  Contracts: ullageref01's operations on spans.
-/
import Derived.Test.YtochpnomfedhoaaGreatWide3
import Derived.Test.YtochpnomfedhoaaGreatSpanAdd
namespace Go.Proofs.YtochpnomfedhoaaGreat
open Go.RowKit
set_option maxRecDepth 100000
set_option maxHeartbeats 2000000
theorem ret_resI {x y e : Int} {r : Res} (h1 : x = r.s.lo) (h2 : y = r.s.hi) (h3 : e = r.e) : Ending.returned (.tuple #[.agg #[.int .i64 x, .int .i64 y], .int .i64 e]) = .returned (.tuple #[.agg #[.int .i64 r.s.lo, .int .i64 r.s.hi], .int .i64 r.e]) := by rw [h1, h2, h3]
theorem rOut_any (x y : Int) (hx : R128 x) (hy : R128 y) (w : World) : Calls Tryz.prog 137 #[.agg #[.int .i64 (mkW x).h, .int .u64 (mkW x).l], .agg #[.int .i64 (mkW y).h, .int .u64 (mkW y).l]] w fun e w' => e = .returned (.tuple #[.agg #[.int .i64 (fitR x y).s.lo, .int .i64 (fitR x y).s.hi], .int .i64 (fitR x y).e]) ∧ Grew w w' := by
  have Hx := Lib.hid hx
  have Hy := Lib.hid hy
  have hm1 := Lib.hid (show R128 (-9223372036854775807) by unfold R128; omega)
  have hm2 := Lib.hid (show R128 9223372036854775807 by unfold R128; omega)
  have ho1 := Lib.hid (fun w => wOf_any (-9223372036854775807) (by unfold I64; omega) w)
  have ho2 := Lib.hid (fun w => wOf_any 9223372036854775807 (by unfold I64; omega) w)
  have hf : isNum x = (!decide (x < -9223372036854775807) && !decide (9223372036854775807 < x)) := by unfold isNum; rw [Bool.eq_iff_iff]; simp
  have hg : isNum y = (!decide (y < -9223372036854775807) && !decide (9223372036854775807 < y)) := by unfold isNum; rw [Bool.eq_iff_iff]; simp
  have hfit : fitR x y = if ((!decide (x < -9223372036854775807) && !decide (9223372036854775807 < x)) && (!decide (y < -9223372036854775807) && !decide (9223372036854775807 < y))) = true then ⟨⟨x, y⟩, 0⟩ else errR 4 := by unfold fitR; rw [hf, hg]
  have hpx : (mkW x).l = x % 18446744073709551616 := rfl
  have hpy : (mkW y).l = y % 18446744073709551616 := rfl
  have Hpx := Lib.hid hpx
  have Hpy := Lib.hid hpy
  clear hx hy hf hg hpx hpy
  rcases bool_or' (decide (x < -9223372036854775807)) with c1 | c1
  · have Hf := Lib.hid (show errR 4 = fitR x y by rw [hfit]; simp only [*]; rfl)
    clear hfit
    have C := Lib.hid (And.intro trivial trivial)
    have HL := Lib.hid (fun w => wLess_any x (-9223372036854775807) Hx.out hm1.out w)
    have HM := Lib.hid (fun w => wLess_any 9223372036854775807 x hm2.out Hx.out w)
    have HN := Lib.hid (fun w => wLess_any y (-9223372036854775807) Hy.out hm1.out w)
    have HO := Lib.hid (fun w => wLess_any 9223372036854775807 y hm2.out Hy.out w)
    simp only [*] at HL HM HN HO
    go_enter Tryz.func137, Tryz.ntmps137
    go_wp2_with (first | (go_at_call 161; (with_reducible refine call_later (ho1.out _) ?_); intro u) | (go_at_call 161; (with_reducible refine call_later (ho2.out _) ?_); intro u) | (go_at_call 142; (with_reducible refine call_later (HL.out _) ?_); intro u) | (go_at_call 142; (with_reducible refine call_later (HM.out _) ?_); intro u) | (go_at_call 142; (with_reducible refine call_later (HN.out _) ?_); intro u) | (go_at_call 142; (with_reducible refine call_later (HO.out _) ?_); intro u) | ((with_reducible refine wp_region_later ?_ ?_ ?_); (· kernel_rfl); (· kernel_rfl); (repeat (go_big_quiet_step ((first | (go_at_call 161; (with_reducible exact call_quiet (ho1.out _))) | (go_at_call 161; (with_reducible exact call_quiet (ho2.out _))) | (go_at_call 142; (with_reducible exact call_quiet (HL.out _))) | (go_at_call 142; (with_reducible exact call_quiet (HM.out _))) | (go_at_call 142; (with_reducible exact call_quiet (HN.out _))) | (go_at_call 142; (with_reducible exact call_quiet (HO.out _))))))); refine wpQuiet_nil ?_; rintro _ ⟨u, rfl⟩))
    refine bodyPost_ret (by (simp [results, Tryz.results137, go_sem] <;> rfl)) rfl ?_
    exact ⟨ret_err Hf.out rfl, (by repeat (first | with_reducible exact Grew.refl _ | with_reducible apply Grew.alloc | with_reducible apply Grew.later | with_reducible apply Grew.drew | with_reducible apply Grew.store | with_reducible assumption))⟩
  · skip
    rcases bool_or' (decide (9223372036854775807 < x)) with c2 | c2
    · have Hf := Lib.hid (show errR 4 = fitR x y by rw [hfit]; simp only [*]; rfl)
      clear hfit
      have C := Lib.hid (And.intro trivial trivial)
      have HL := Lib.hid (fun w => wLess_any x (-9223372036854775807) Hx.out hm1.out w)
      have HM := Lib.hid (fun w => wLess_any 9223372036854775807 x hm2.out Hx.out w)
      have HN := Lib.hid (fun w => wLess_any y (-9223372036854775807) Hy.out hm1.out w)
      have HO := Lib.hid (fun w => wLess_any 9223372036854775807 y hm2.out Hy.out w)
      simp only [*] at HL HM HN HO
      go_enter Tryz.func137, Tryz.ntmps137
      go_wp2_with (first | (go_at_call 161; (with_reducible refine call_later (ho1.out _) ?_); intro u) | (go_at_call 161; (with_reducible refine call_later (ho2.out _) ?_); intro u) | (go_at_call 142; (with_reducible refine call_later (HL.out _) ?_); intro u) | (go_at_call 142; (with_reducible refine call_later (HM.out _) ?_); intro u) | (go_at_call 142; (with_reducible refine call_later (HN.out _) ?_); intro u) | (go_at_call 142; (with_reducible refine call_later (HO.out _) ?_); intro u) | ((with_reducible refine wp_region_later ?_ ?_ ?_); (· kernel_rfl); (· kernel_rfl); (repeat (go_big_quiet_step ((first | (go_at_call 161; (with_reducible exact call_quiet (ho1.out _))) | (go_at_call 161; (with_reducible exact call_quiet (ho2.out _))) | (go_at_call 142; (with_reducible exact call_quiet (HL.out _))) | (go_at_call 142; (with_reducible exact call_quiet (HM.out _))) | (go_at_call 142; (with_reducible exact call_quiet (HN.out _))) | (go_at_call 142; (with_reducible exact call_quiet (HO.out _))))))); refine wpQuiet_nil ?_; rintro _ ⟨u, rfl⟩))
      refine bodyPost_ret (by (simp [results, Tryz.results137, go_sem] <;> rfl)) rfl ?_
      exact ⟨ret_err Hf.out rfl, (by repeat (first | with_reducible exact Grew.refl _ | with_reducible apply Grew.alloc | with_reducible apply Grew.later | with_reducible apply Grew.drew | with_reducible apply Grew.store | with_reducible assumption))⟩
    · skip
      rcases bool_or' (decide (y < -9223372036854775807)) with c3 | c3
      · have Hf := Lib.hid (show errR 4 = fitR x y by rw [hfit]; simp only [*]; rfl)
        clear hfit
        have C := Lib.hid (And.intro trivial trivial)
        have HL := Lib.hid (fun w => wLess_any x (-9223372036854775807) Hx.out hm1.out w)
        have HM := Lib.hid (fun w => wLess_any 9223372036854775807 x hm2.out Hx.out w)
        have HN := Lib.hid (fun w => wLess_any y (-9223372036854775807) Hy.out hm1.out w)
        have HO := Lib.hid (fun w => wLess_any 9223372036854775807 y hm2.out Hy.out w)
        simp only [*] at HL HM HN HO
        go_enter Tryz.func137, Tryz.ntmps137
        go_wp2_with (first | (go_at_call 161; (with_reducible refine call_later (ho1.out _) ?_); intro u) | (go_at_call 161; (with_reducible refine call_later (ho2.out _) ?_); intro u) | (go_at_call 142; (with_reducible refine call_later (HL.out _) ?_); intro u) | (go_at_call 142; (with_reducible refine call_later (HM.out _) ?_); intro u) | (go_at_call 142; (with_reducible refine call_later (HN.out _) ?_); intro u) | (go_at_call 142; (with_reducible refine call_later (HO.out _) ?_); intro u) | ((with_reducible refine wp_region_later ?_ ?_ ?_); (· kernel_rfl); (· kernel_rfl); (repeat (go_big_quiet_step ((first | (go_at_call 161; (with_reducible exact call_quiet (ho1.out _))) | (go_at_call 161; (with_reducible exact call_quiet (ho2.out _))) | (go_at_call 142; (with_reducible exact call_quiet (HL.out _))) | (go_at_call 142; (with_reducible exact call_quiet (HM.out _))) | (go_at_call 142; (with_reducible exact call_quiet (HN.out _))) | (go_at_call 142; (with_reducible exact call_quiet (HO.out _))))))); refine wpQuiet_nil ?_; rintro _ ⟨u, rfl⟩))
        refine bodyPost_ret (by (simp [results, Tryz.results137, go_sem] <;> rfl)) rfl ?_
        exact ⟨ret_err Hf.out rfl, (by repeat (first | with_reducible exact Grew.refl _ | with_reducible apply Grew.alloc | with_reducible apply Grew.later | with_reducible apply Grew.drew | with_reducible apply Grew.store | with_reducible assumption))⟩
      · skip
        rcases bool_or' (decide (9223372036854775807 < y)) with c4 | c4
        · have Hf := Lib.hid (show errR 4 = fitR x y by rw [hfit]; simp only [*]; rfl)
          clear hfit
          have C := Lib.hid (And.intro trivial trivial)
          have HL := Lib.hid (fun w => wLess_any x (-9223372036854775807) Hx.out hm1.out w)
          have HM := Lib.hid (fun w => wLess_any 9223372036854775807 x hm2.out Hx.out w)
          have HN := Lib.hid (fun w => wLess_any y (-9223372036854775807) Hy.out hm1.out w)
          have HO := Lib.hid (fun w => wLess_any 9223372036854775807 y hm2.out Hy.out w)
          simp only [*] at HL HM HN HO
          go_enter Tryz.func137, Tryz.ntmps137
          go_wp2_with (first | (go_at_call 161; (with_reducible refine call_later (ho1.out _) ?_); intro u) | (go_at_call 161; (with_reducible refine call_later (ho2.out _) ?_); intro u) | (go_at_call 142; (with_reducible refine call_later (HL.out _) ?_); intro u) | (go_at_call 142; (with_reducible refine call_later (HM.out _) ?_); intro u) | (go_at_call 142; (with_reducible refine call_later (HN.out _) ?_); intro u) | (go_at_call 142; (with_reducible refine call_later (HO.out _) ?_); intro u) | ((with_reducible refine wp_region_later ?_ ?_ ?_); (· kernel_rfl); (· kernel_rfl); (repeat (go_big_quiet_step ((first | (go_at_call 161; (with_reducible exact call_quiet (ho1.out _))) | (go_at_call 161; (with_reducible exact call_quiet (ho2.out _))) | (go_at_call 142; (with_reducible exact call_quiet (HL.out _))) | (go_at_call 142; (with_reducible exact call_quiet (HM.out _))) | (go_at_call 142; (with_reducible exact call_quiet (HN.out _))) | (go_at_call 142; (with_reducible exact call_quiet (HO.out _))))))); refine wpQuiet_nil ?_; rintro _ ⟨u, rfl⟩))
          refine bodyPost_ret (by (simp [results, Tryz.results137, go_sem] <;> rfl)) rfl ?_
          exact ⟨ret_err Hf.out rfl, (by repeat (first | with_reducible exact Grew.refl _ | with_reducible apply Grew.alloc | with_reducible apply Grew.later | with_reducible apply Grew.drew | with_reducible apply Grew.store | with_reducible assumption))⟩
        · skip
          have Hf := Lib.hid (show (⟨⟨x, y⟩, 0⟩ : Res) = fitR x y by rw [hfit]; simp only [*]; rfl)
          clear hfit
          have Hr := Lib.hid (show -9223372036854775807 ≤ x ∧ x ≤ 9223372036854775807 ∧ -9223372036854775807 ≤ y ∧ y ≤ 9223372036854775807 by simp at c1 c2 c3 c4; omega)
          have HL := Lib.hid (fun w => wLess_any x (-9223372036854775807) Hx.out hm1.out w)
          have HM := Lib.hid (fun w => wLess_any 9223372036854775807 x hm2.out Hx.out w)
          have HN := Lib.hid (fun w => wLess_any y (-9223372036854775807) Hy.out hm1.out w)
          have HO := Lib.hid (fun w => wLess_any 9223372036854775807 y hm2.out Hy.out w)
          simp only [*] at HL HM HN HO
          go_enter Tryz.func137, Tryz.ntmps137
          go_wp2_with (first | (go_at_call 161; (with_reducible refine call_later (ho1.out _) ?_); intro u) | (go_at_call 161; (with_reducible refine call_later (ho2.out _) ?_); intro u) | (go_at_call 142; (with_reducible refine call_later (HL.out _) ?_); intro u) | (go_at_call 142; (with_reducible refine call_later (HM.out _) ?_); intro u) | (go_at_call 142; (with_reducible refine call_later (HN.out _) ?_); intro u) | (go_at_call 142; (with_reducible refine call_later (HO.out _) ?_); intro u) | ((with_reducible refine wp_region_later ?_ ?_ ?_); (· kernel_rfl); (· kernel_rfl); (repeat (go_big_quiet_step ((first | (go_at_call 161; (with_reducible exact call_quiet (ho1.out _))) | (go_at_call 161; (with_reducible exact call_quiet (ho2.out _))) | (go_at_call 142; (with_reducible exact call_quiet (HL.out _))) | (go_at_call 142; (with_reducible exact call_quiet (HM.out _))) | (go_at_call 142; (with_reducible exact call_quiet (HN.out _))) | (go_at_call 142; (with_reducible exact call_quiet (HO.out _))))))); refine wpQuiet_nil ?_; rintro _ ⟨u, rfl⟩))
          refine bodyPost_ret (by (simp [results, Tryz.results137, go_sem] <;> rfl)) rfl ?_
          exact ⟨ret_resI (by rw [← Hf.out, Hpx.out]; have := Hr.out; simp; try (unfold wrap64); omega) (by rw [← Hf.out, Hpy.out]; have := Hr.out; simp; try (unfold wrap64); omega) (by rw [← Hf.out]), (by repeat (first | with_reducible exact Grew.refl _ | with_reducible apply Grew.alloc | with_reducible apply Grew.later | with_reducible apply Grew.drew | with_reducible apply Grew.store | with_reducible assumption))⟩
theorem rBoth_yes (a b : Sp) (hk : (a.okB && b.okB) = true) (w : World) : Calls Tryz.prog 80 #[.agg #[.int .i64 a.lo, .int .i64 a.hi], .agg #[.int .i64 b.lo, .int .i64 b.hi]] w fun e w' => e = .returned (.int .i64 0) ∧ Grew w w' := is_int (by rw [hk]; rfl) (rBoth_any a b w)
theorem rBoth_no (a b : Sp) (hk : (a.okB && b.okB) = false) (w : World) : Calls Tryz.prog 80 #[.agg #[.int .i64 a.lo, .int .i64 a.hi], .agg #[.int .i64 b.lo, .int .i64 b.hi]] w fun e w' => e = .returned (.int .i64 2) ∧ Grew w w' := is_int (by rw [hk]; rfl) (rBoth_any a b w)
theorem rCheck_yes (a : Sp) (hk : a.okB = true) (w : World) : Calls Tryz.prog 33 #[.agg #[.int .i64 a.lo, .int .i64 a.hi]] w fun e w' => e = .returned (.int .i64 0) ∧ Grew w w' := is_int (by rw [hk]; rfl) (rCheck_any a w)
theorem rCheck_no (a : Sp) (hk : a.okB = false) (w : World) : Calls Tryz.prog 33 #[.agg #[.int .i64 a.lo, .int .i64 a.hi]] w fun e w' => e = .returned (.int .i64 2) ∧ Grew w w' := is_int (by rw [hk]; rfl) (rCheck_any a w)
theorem r128_of {a : Int} (h : I64 a) : R128 a := by unfold I64 at h; unfold R128; omega
theorem r128_sum {a b : Int} (h : I64 a) (k : I64 b) : R128 (a + b) := by unfold I64 at h k; unfold R128; omega
theorem r128_neg {a : Int} (h : I64 a) : R128 (-a) := by unfold I64 at h; unfold R128; omega
theorem wideN (n : Int) [h : N64 n] (w : World) : Calls Tryz.prog 139 #[.int .i64 n] w fun e w' => e = .returned (.agg #[.int .i64 (mkW n).h, .int .u64 (mkW n).l]) ∧ Grew w w' := wide_any n h.is w
theorem plusN (a b : Int) [ha : N64 a] [hb : N64 b] (w : World) : Calls Tryz.prog 138 #[.agg #[.int .i64 (mkW a).h, .int .u64 (mkW a).l], .agg #[.int .i64 (mkW b).h, .int .u64 (mkW b).l]] w fun e w' => e = .returned (.agg #[.int .i64 (mkW (a + b)).h, .int .u64 (mkW (a + b)).l]) ∧ Grew w w' := wPlus_any a b (r128_of ha.is) (r128_of hb.is) (r128_sum ha.is hb.is) w
theorem outSum (a b c d : Int) [ha : N64 a] [hb : N64 b] [hc : N64 c] [hd : N64 d] (w : World) : Calls Tryz.prog 137 #[.agg #[.int .i64 (mkW (a + b)).h, .int .u64 (mkW (a + b)).l], .agg #[.int .i64 (mkW (c + d)).h, .int .u64 (mkW (c + d)).l]] w fun e w' => e = .returned (.tuple #[.agg #[.int .i64 (fitR (a + b) (c + d)).s.lo, .int .i64 (fitR (a + b) (c + d)).s.hi], .int .i64 (fitR (a + b) (c + d)).e]) ∧ Grew w w' := rOut_any _ _ (r128_sum ha.is hb.is) (r128_sum hc.is hd.is) w
theorem rAdd_any (a b : Sp) [ha : S64 a] [hb : S64 b] (w : World) : Calls Tryz.prog 103 #[.agg #[.int .i64 a.lo, .int .i64 a.hi], .agg #[.int .i64 b.lo, .int .i64 b.hi]] w fun e w' => e = .returned (.tuple #[.agg #[.int .i64 (addR a b).s.lo, .int .i64 (addR a b).s.hi], .int .i64 (addR a b).e]) ∧ Grew w w' := by
  cases hk : (a.okB && b.okB)
  · have Hf := Lib.hid (show errR 2 = addR a b by unfold addR; rw [hk]; rfl)
    go_enter Tryz.func103, Tryz.ntmps103
    go_wp2_with (first | (go_at_call 80; (with_reducible refine call_later (rBoth_no a b hk _) ?_); intro u) | ((with_reducible refine wp_region_later ?_ ?_ ?_); (· kernel_rfl); (· kernel_rfl); (repeat (go_big_quiet_step ((first | (go_at_call 80; (with_reducible exact call_quiet (rBoth_no a b hk _))))))); refine wpQuiet_nil ?_; rintro _ ⟨u, rfl⟩))
    refine bodyPost_ret (by (simp [results, Tryz.results103, go_sem] <;> rfl)) rfl ?_
    exact ⟨ret_err Hf.out rfl, (by repeat (first | with_reducible exact Grew.refl _ | with_reducible apply Grew.alloc | with_reducible apply Grew.later | with_reducible apply Grew.drew | with_reducible apply Grew.store | with_reducible assumption))⟩
  · have Hf := Lib.hid (show fitR (a.lo + b.lo) (a.hi + b.hi) = addR a b by unfold addR; rw [hk]; rfl)
    go_enter Tryz.func103, Tryz.ntmps103
    go_wp2_with (first | (go_at_call 80; (with_reducible refine call_later (rBoth_yes a b hk _) ?_); intro u) | ((with_reducible refine wp_region_later ?_ ?_ ?_); (· kernel_rfl); (· kernel_rfl); (repeat (go_big_quiet_step ((first | (go_at_call 80; (with_reducible exact call_quiet (rBoth_yes a b hk _))))))); refine wpQuiet_nil ?_; rintro _ ⟨u, rfl⟩))
    go_region_held3 (fun w' => w'.cell? ⟨w.heap.size, 0, none⟩ = some (.int .i64 a.lo) ∧ w'.cell? ⟨w.heap.size, 1, none⟩ = some (.int .i64 a.hi) ∧ w'.cell? ⟨w.heap.size + 1, 0, none⟩ = some (.int .i64 b.lo) ∧ w'.cell? ⟨w.heap.size + 1, 1, none⟩ = some (.int .i64 b.hi)) (first | exact ⟨(by go_simp), (by go_simp), (by go_simp), (by go_simp)⟩) (first | (go_at_call 139; refine call_later (wideN _ _) ?_; intro u) | (go_at_call 138; refine call_later (plusN _ _ _) ?_; intro u) | (go_at_call 137; refine call_later (outSum _ _ _ _ _) ?_; intro u))
    go_wp2
    refine bodyPost_ret (by (simp [results, Tryz.results103, go_sem] <;> rfl)) rfl ?_
    exact ⟨ret_res (by rw [← Hf.out]), (by repeat (first | with_reducible exact Grew.refl _ | with_reducible apply Grew.alloc | with_reducible apply Grew.later | with_reducible apply Grew.drew | with_reducible apply Grew.store | with_reducible assumption))⟩
theorem rNeg_any (a : Sp) [ha : S64 a] (w : World) : Calls Tryz.prog 132 #[.agg #[.int .i64 a.lo, .int .i64 a.hi]] w fun e w' => e = .returned (.tuple #[.agg #[.int .i64 (negR a).s.lo, .int .i64 (negR a).s.hi], .int .i64 (negR a).e]) ∧ Grew w w' := by
  cases hk : a.okB
  · have Hf := Lib.hid (show errR 2 = negR a by unfold negR; rw [hk]; rfl)
    go_enter Tryz.func132, Tryz.ntmps132
    go_wp2_with (first | (go_at_call 33; (with_reducible refine call_later (rCheck_no a hk _) ?_); intro u) | ((with_reducible refine wp_region_later ?_ ?_ ?_); (· kernel_rfl); (· kernel_rfl); (repeat (go_big_quiet_step ((first | (go_at_call 33; (with_reducible exact call_quiet (rCheck_no a hk _))))))); refine wpQuiet_nil ?_; rintro _ ⟨u, rfl⟩))
    refine bodyPost_ret (by (simp [results, Tryz.results132, go_sem] <;> rfl)) rfl ?_
    exact ⟨ret_err Hf.out rfl, (by repeat (first | with_reducible exact Grew.refl _ | with_reducible apply Grew.alloc | with_reducible apply Grew.later | with_reducible apply Grew.drew | with_reducible apply Grew.store | with_reducible assumption))⟩
  · have Hf := Lib.hid (show (⟨⟨-a.hi, -a.lo⟩, 0⟩ : Res) = negR a by unfold negR; rw [hk]; rfl)
    have h1 := okB_num hk
    have h2 := ha.lo.2
    have h3 := ha.hi.2
    go_enter Tryz.func132, Tryz.ntmps132
    go_wp2_with (first | (go_at_call 33; (with_reducible refine call_later (rCheck_yes a hk _) ?_); intro u) | ((with_reducible refine wp_region_later ?_ ?_ ?_); (· kernel_rfl); (· kernel_rfl); (repeat (go_big_quiet_step ((first | (go_at_call 33; (with_reducible exact call_quiet (rCheck_yes a hk _))))))); refine wpQuiet_nil ?_; rintro _ ⟨u, rfl⟩))
    refine bodyPost_ret (by (simp [results, Tryz.results132, go_sem] <;> rfl)) rfl ?_
    exact ⟨ret_res (by rw [← Hf.out]), (by repeat (first | with_reducible exact Grew.refl _ | with_reducible apply Grew.alloc | with_reducible apply Grew.later | with_reducible apply Grew.drew | with_reducible apply Grew.store | with_reducible assumption))⟩
theorem rSub_any (a b : Sp) [ha : S64 a] [hb : S64 b] (w : World) : Calls Tryz.prog 94 #[.agg #[.int .i64 a.lo, .int .i64 a.hi], .agg #[.int .i64 b.lo, .int .i64 b.hi]] w fun e w' => e = .returned (.tuple #[.agg #[.int .i64 (subR a b).s.lo, .int .i64 (subR a b).s.hi], .int .i64 (subR a b).e]) ∧ Grew w w' := by
  cases hk : b.okB
  · have Hf := Lib.hid (show errR 2 = subR a b by unfold subR; rw [hk]; rfl)
    have Hn := Lib.hid (show negR b = errR 2 by unfold negR; rw [hk]; rfl)
    go_enter Tryz.func94, Tryz.ntmps94
    go_wp2_with (first | (go_at_call 132; (with_reducible refine call_later (is_res Hn.out (rNeg_any b _)) ?_); intro u) | ((with_reducible refine wp_region_later ?_ ?_ ?_); (· kernel_rfl); (· kernel_rfl); (repeat (go_big_quiet_step ((first | (go_at_call 132; (with_reducible exact call_quiet (is_res Hn.out (rNeg_any b _)))))))); refine wpQuiet_nil ?_; rintro _ ⟨u, rfl⟩))
    refine bodyPost_ret (by (simp [results, Tryz.results94, go_sem] <;> rfl)) rfl ?_
    exact ⟨ret_err Hf.out rfl, (by repeat (first | with_reducible exact Grew.refl _ | with_reducible apply Grew.alloc | with_reducible apply Grew.later | with_reducible apply Grew.drew | with_reducible apply Grew.store | with_reducible assumption))⟩
  · have Hf := Lib.hid (show addR a (negS b) = subR a b by unfold subR; rw [hk]; rfl)
    have Hn := Lib.hid (show negR b = ⟨negS b, 0⟩ by unfold negR; rw [hk]; rfl)
    have hn := s64_neg hk
    go_enter Tryz.func94, Tryz.ntmps94
    go_wp2_with (first | (go_at_call 132; (with_reducible refine call_later (is_res Hn.out (rNeg_any b _)) ?_); intro u) | (go_at_call 103; (with_reducible refine call_later (rAdd_any a (negS b) _) ?_); intro u) | ((with_reducible refine wp_region_later ?_ ?_ ?_); (· kernel_rfl); (· kernel_rfl); (repeat (go_big_quiet_step ((first | (go_at_call 132; (with_reducible exact call_quiet (is_res Hn.out (rNeg_any b _)))) | (go_at_call 103; (with_reducible exact call_quiet (rAdd_any a (negS b) _))))))); refine wpQuiet_nil ?_; rintro _ ⟨u, rfl⟩))
    refine bodyPost_ret (by (simp [results, Tryz.results94, go_sem] <;> rfl)) rfl ?_
    exact ⟨ret_res (by rw [← Hf.out]), (by repeat (first | with_reducible exact Grew.refl _ | with_reducible apply Grew.alloc | with_reducible apply Grew.later | with_reducible apply Grew.drew | with_reducible apply Grew.store | with_reducible assumption))⟩
theorem rAbs_any (a : Sp) [ha : S64 a] (w : World) : Calls Tryz.prog 136 #[.agg #[.int .i64 a.lo, .int .i64 a.hi]] w fun e w' => e = .returned (.tuple #[.agg #[.int .i64 (absR a).s.lo, .int .i64 (absR a).s.hi], .int .i64 (absR a).e]) ∧ Grew w w' := by
  cases hk : a.okB
  · have Hf := Lib.hid (show errR 2 = absR a by unfold absR; rw [hk]; rfl)
    go_enter Tryz.func136, Tryz.ntmps136
    go_wp2_with (first | (go_at_call 33; (with_reducible refine call_later (rCheck_no a hk _) ?_); intro u) | ((with_reducible refine wp_region_later ?_ ?_ ?_); (· kernel_rfl); (· kernel_rfl); (repeat (go_big_quiet_step ((first | (go_at_call 33; (with_reducible exact call_quiet (rCheck_no a hk _))))))); refine wpQuiet_nil ?_; rintro _ ⟨u, rfl⟩))
    refine bodyPost_ret (by (simp [results, Tryz.results136, go_sem] <;> rfl)) rfl ?_
    exact ⟨ret_err Hf.out rfl, (by repeat (first | with_reducible exact Grew.refl _ | with_reducible apply Grew.alloc | with_reducible apply Grew.later | with_reducible apply Grew.drew | with_reducible apply Grew.store | with_reducible assumption))⟩
  · have hf : absR a = ⟨absS a, 0⟩ := by unfold absR; rw [hk]; rfl
    have h1 := okB_num hk
    have h2 := ha.lo.2
    have h3 := ha.hi.2
    have Hn := Lib.hid (show negR a = ⟨negS a, 0⟩ by unfold negR; rw [hk]; rfl)
    by_cases c1 : 0 ≤ a.lo
    · have Hf := Lib.hid (show (⟨⟨a.lo, a.hi⟩, 0⟩ : Res) = absR a by rw [hf]; unfold absS; rw [if_pos c1])
      clear hf
      go_enter Tryz.func136, Tryz.ntmps136
      go_wp2_with (first | (go_at_call 33; (with_reducible refine call_later (rCheck_yes a hk _) ?_); intro u) | ((with_reducible refine wp_region_later ?_ ?_ ?_); (· kernel_rfl); (· kernel_rfl); (repeat (go_big_quiet_step ((first | (go_at_call 33; (with_reducible exact call_quiet (rCheck_yes a hk _))))))); refine wpQuiet_nil ?_; rintro _ ⟨u, rfl⟩))
      refine bodyPost_ret (by (simp [results, Tryz.results136, go_sem] <;> rfl)) rfl ?_
      exact ⟨ret_res Hf.out, (by repeat (first | with_reducible exact Grew.refl _ | with_reducible apply Grew.alloc | with_reducible apply Grew.later | with_reducible apply Grew.drew | with_reducible apply Grew.store | with_reducible assumption))⟩
    · by_cases c2 : a.hi ≤ 0
      · have Hf := Lib.hid (show (⟨negS a, 0⟩ : Res) = absR a by rw [hf]; unfold absS; rw [if_neg c1, if_pos c2])
        clear hf
        go_enter Tryz.func136, Tryz.ntmps136
        go_wp2_with (first | (go_at_call 33; (with_reducible refine call_later (rCheck_yes a hk _) ?_); intro u) | (go_at_call 132; (with_reducible refine call_later (is_res Hn.out (rNeg_any a _)) ?_); intro u) | ((with_reducible refine wp_region_later ?_ ?_ ?_); (· kernel_rfl); (· kernel_rfl); (repeat (go_big_quiet_step ((first | (go_at_call 33; (with_reducible exact call_quiet (rCheck_yes a hk _))) | (go_at_call 132; (with_reducible exact call_quiet (is_res Hn.out (rNeg_any a _)))))))); refine wpQuiet_nil ?_; rintro _ ⟨u, rfl⟩))
        refine bodyPost_ret (by (simp [results, Tryz.results136, go_sem] <;> rfl)) rfl ?_
        exact ⟨ret_res Hf.out, (by repeat (first | with_reducible exact Grew.refl _ | with_reducible apply Grew.alloc | with_reducible apply Grew.later | with_reducible apply Grew.drew | with_reducible apply Grew.store | with_reducible assumption))⟩
      · have Hf := Lib.hid (show (⟨⟨0, imax (-a.lo) a.hi⟩, 0⟩ : Res) = absR a by rw [hf]; unfold absS; rw [if_neg c1, if_neg c2])
        clear hf
        go_enter Tryz.func136, Tryz.ntmps136
        go_wp2_with (first | (go_at_call 33; (with_reducible refine call_later (rCheck_yes a hk _) ?_); intro u) | ((with_reducible refine wp_region_later ?_ ?_ ?_); (· kernel_rfl); (· kernel_rfl); (repeat (go_big_quiet_step ((first | (go_at_call 33; (with_reducible exact call_quiet (rCheck_yes a hk _))))))); refine wpQuiet_nil ?_; rintro _ ⟨u, rfl⟩))
        all_goals
          refine bodyPost_ret (by (simp [results, Tryz.results136, go_sem] <;> rfl)) rfl ?_
          exact ⟨ret_res (by rw [← Hf.out]; unfold imax; first | rw [if_pos (by omega)] | rw [if_neg (by omega)]), (by repeat (first | with_reducible exact Grew.refl _ | with_reducible apply Grew.alloc | with_reducible apply Grew.later | with_reducible apply Grew.drew | with_reducible apply Grew.store | with_reducible assumption))⟩
theorem rMeet_any (a b : Sp) (w : World) : Calls Tryz.prog 163 #[.agg #[.int .i64 a.lo, .int .i64 a.hi], .agg #[.int .i64 b.lo, .int .i64 b.hi]] w fun e w' => e = .returned (.tuple #[.agg #[.int .i64 (meetR a b).s.lo, .int .i64 (meetR a b).s.hi], .int .i64 (meetR a b).e]) ∧ Grew w w' := by
  cases hk : (a.okB && b.okB)
  · have Hf := Lib.hid (show errR 2 = meetR a b by unfold meetR; rw [hk]; rfl)
    go_enter Tryz.func163, Tryz.ntmps163
    go_wp2_with (first | (go_at_call 80; (with_reducible refine call_later (rBoth_no a b hk _) ?_); intro u) | ((with_reducible refine wp_region_later ?_ ?_ ?_); (· kernel_rfl); (· kernel_rfl); (repeat (go_big_quiet_step ((first | (go_at_call 80; (with_reducible exact call_quiet (rBoth_no a b hk _))))))); refine wpQuiet_nil ?_; rintro _ ⟨u, rfl⟩))
    refine bodyPost_ret (by (simp [results, Tryz.results163, go_sem] <;> rfl)) rfl ?_
    exact ⟨ret_err Hf.out rfl, (by repeat (first | with_reducible exact Grew.refl _ | with_reducible apply Grew.alloc | with_reducible apply Grew.later | with_reducible apply Grew.drew | with_reducible apply Grew.store | with_reducible assumption))⟩
  · have Hf := Lib.hid (show (if (meetS a b).hi < (meetS a b).lo then errR 7 else ⟨meetS a b, 0⟩) = meetR a b by unfold meetR; rw [hk]; rfl)
    go_enter Tryz.func163, Tryz.ntmps163
    go_wp2_with (first | (go_at_call 80; (with_reducible refine call_later (rBoth_yes a b hk _) ?_); intro u) | ((with_reducible refine wp_region_later ?_ ?_ ?_); (· kernel_rfl); (· kernel_rfl); (repeat (go_big_quiet_step ((first | (go_at_call 80; (with_reducible exact call_quiet (rBoth_yes a b hk _))))))); refine wpQuiet_nil ?_; rintro _ ⟨u, rfl⟩))
    all_goals
      refine bodyPost_ret (by (simp [results, Tryz.results163, go_sem] <;> rfl)) rfl ?_
      first
      | exact ⟨ret_err (by rw [← Hf.out]; unfold meetS imin imax; simp only []; rw [if_pos (by (repeat' split) <;> omega)]) rfl, (by repeat (first | with_reducible exact Grew.refl _ | with_reducible apply Grew.alloc | with_reducible apply Grew.later | with_reducible apply Grew.drew | with_reducible apply Grew.store | with_reducible assumption))⟩
      | exact ⟨ret_res (by rw [← Hf.out]; unfold meetS imin imax; simp only []; rw [if_neg (by (repeat' split) <;> omega)]; congr 2 <;> (repeat' split) <;> omega), (by repeat (first | with_reducible exact Grew.refl _ | with_reducible apply Grew.alloc | with_reducible apply Grew.later | with_reducible apply Grew.drew | with_reducible apply Grew.store | with_reducible assumption))⟩
end Go.Proofs.YtochpnomfedhoaaGreat
