/-
  Contracts: what is valid (ullageref03), the steps of an arc.
-/
import Derived.Test.YtochpnomfedhoaaGreatArcOk
namespace Go.Proofs.YtochpnomfedhoaaGreat
open Go.RowKit
set_option maxRecDepth 100000
set_option maxHeartbeats 1000000

theorem Planet.okB' (p : Planet) : p.okB = (p.pull.okB && p.mu.leastB 0 && p.radius.leastB 0 && p.oblate.okB && p.spin.okB) := by
  simp only [Planet.okB, Sp.leastB]
  cases p.pull.okB <;> cases p.mu.okB <;> cases p.radius.okB <;> cases p.oblate.okB <;> cases p.spin.okB <;> simp
theorem State.okB' (s : State) : s.okB = (numB s.t && s.p.okB && s.v.okB && s.m.leastB 1) := by
  simp only [State.okB, Sp.leastB]
  cases numB s.t <;> cases s.p.okB <;> cases s.v.okB <;> cases s.m.okB <;> simp
theorem Tube.okB' (t : Tube) : t.okB = (numB t.a && numB t.z && decide (t.a ≤ t.z) && t.p.okB && t.v.okB && t.m.leastB 1) := by
  simp only [Tube.okB, Sp.leastB]
  cases numB t.a <;> cases numB t.z <;> cases t.p.okB <;> cases t.v.okB <;> cases t.m.okB <;> simp
theorem r3Valid_any (a : Sp) (w : World) : Calls Tryz.prog 93 #[.agg #[.int .i64 a.lo, .int .i64 a.hi]] w fun e w' => e = .returned (.bool a.okB) ∧ Grew w w' := by
  cases h : a.okB
  all_goals
    go_enter Tryz.func93, Tryz.ntmps93
    go_wp2_with (first | (go_at_call 33; (with_reducible refine call_later (rCheck_any _ _) ?_); intro u) | ((with_reducible refine wp_region_later ?_ ?_ ?_); (· kernel_rfl); (· kernel_rfl); (repeat (go_big_quiet_step ((first | (go_at_call 33; (with_reducible exact call_quiet (rCheck_any _ _))))))); refine wpQuiet_nil ?_; rintro _ ⟨u, rfl⟩))
    go_ret
    exact ⟨ret_bool (by simp), (by repeat (first | with_reducible exact Grew.refl _ | with_reducible apply Grew.alloc | with_reducible apply Grew.later | with_reducible apply Grew.drew | with_reducible apply Grew.store | with_reducible assumption))⟩
theorem r3Least_any (a : Sp) (n : Int) (w : World) : Calls Tryz.prog 76 #[.agg #[.int .i64 a.lo, .int .i64 a.hi], .int .i64 n] w fun e w' => e = .returned (.bool (a.leastB n)) ∧ Grew w w' := by
  rcases bool_or (a.okB) with h1 | h1
  · go_enter Tryz.func76, Tryz.ntmps76
    go_wp2_with (first | (go_at_call 33; (with_reducible refine call_later (rCheck_any _ _) ?_); intro u) | ((with_reducible refine wp_region_later ?_ ?_ ?_); (· kernel_rfl); (· kernel_rfl); (repeat (go_big_quiet_step ((first | (go_at_call 33; (with_reducible exact call_quiet (rCheck_any _ _))))))); refine wpQuiet_nil ?_; rintro _ ⟨u, rfl⟩))
    go_ret
    exact ⟨ret_bool (by (first | (simp [Sp.leastB, *]; done) | (simp [Sp.leastB, *] <;> omega) | (simp [Sp.leastB, *]; omega))), (by repeat (first | with_reducible exact Grew.refl _ | with_reducible apply Grew.alloc | with_reducible apply Grew.later | with_reducible apply Grew.drew | with_reducible apply Grew.store | with_reducible assumption))⟩
  · skip
    rcases prop_or (n ≤ a.lo) with h2 | h2
    · go_enter Tryz.func76, Tryz.ntmps76
      go_wp2_with (first | (go_at_call 33; (with_reducible refine call_later (rCheck_any _ _) ?_); intro u) | ((with_reducible refine wp_region_later ?_ ?_ ?_); (· kernel_rfl); (· kernel_rfl); (repeat (go_big_quiet_step ((first | (go_at_call 33; (with_reducible exact call_quiet (rCheck_any _ _))))))); refine wpQuiet_nil ?_; rintro _ ⟨u, rfl⟩))
      go_ret
      exact ⟨ret_bool (by (first | (simp [Sp.leastB, *]; done) | (simp [Sp.leastB, *] <;> omega) | (simp [Sp.leastB, *]; omega))), (by repeat (first | with_reducible exact Grew.refl _ | with_reducible apply Grew.alloc | with_reducible apply Grew.later | with_reducible apply Grew.drew | with_reducible apply Grew.store | with_reducible assumption))⟩
    · skip
      go_enter Tryz.func76, Tryz.ntmps76
      go_wp2_with (first | (go_at_call 33; (with_reducible refine call_later (rCheck_any _ _) ?_); intro u) | ((with_reducible refine wp_region_later ?_ ?_ ?_); (· kernel_rfl); (· kernel_rfl); (repeat (go_big_quiet_step ((first | (go_at_call 33; (with_reducible exact call_quiet (rCheck_any _ _))))))); refine wpQuiet_nil ?_; rintro _ ⟨u, rfl⟩))
      go_ret
      exact ⟨ret_bool (by (first | (simp [Sp.leastB, *]; done) | (simp [Sp.leastB, *] <;> omega) | (simp [Sp.leastB, *]; omega))), (by repeat (first | with_reducible exact Grew.refl _ | with_reducible apply Grew.alloc | with_reducible apply Grew.later | with_reducible apply Grew.drew | with_reducible apply Grew.store | with_reducible assumption))⟩
theorem boxB_no (d : Bx) (k : Nat) (hk : k < 3) (h : (d.at k).okB = false) : d.okB = false := by
  match k, hk with
  | 0, _ => simp only [Bx.at] at h; simp [Bx.okB, h]
  | 1, _ => simp only [Bx.at] at h; simp [Bx.okB, h]
  | 2, _ => simp only [Bx.at] at h; simp [Bx.okB, h]
theorem r3Box_any (b : Bx) (w : World) : Calls Tryz.prog 32 #[.agg #[.int .i64 b.x.lo, .int .i64 b.x.hi, .int .i64 b.y.lo, .int .i64 b.y.hi, .int .i64 b.z.lo, .int .i64 b.z.hi]] w fun e w' => e = .returned (.bool b.okB) ∧ Grew w w' := by
  go_enter Tryz.func32, Tryz.ntmps32
  go_wp2
  go_loopw [3] (fun t wr => ∃ k : Nat, t = .int .i64 k ∧ k ≤ 3 ∧ (∀ j, j < k → (b.at j).okB = true) ∧ Grew (w.alloc (.cells #[.int .i64 b.x.lo, .int .i64 b.x.hi, .int .i64 b.y.lo, .int .i64 b.y.hi, .int .i64 b.z.lo, .int .i64 b.z.hi] 26)) wr) (fun t _ => 3 - (intOf t).toNat)
  case atStart => exact ⟨0, rfl, by omega, fun j hj => by omega, (by repeat (first | with_reducible exact Grew.refl _ | with_reducible apply Grew.alloc | with_reducible apply Grew.later | with_reducible apply Grew.drew | with_reducible apply Grew.store | with_reducible assumption))⟩
  case round =>
    obtain ⟨k, rfl, hk, hall, hg⟩ := hrel
    obtain ⟨x, rfl⟩ := later_of hg
    clear hg
    have Hall := Lib.hid hall
    clear hall
    by_cases hlt : k < 3
    · have hkk : k = 0 ∨ k = 1 ∨ k = 2 := by omega
      rcases hkk with rfl | rfl | rfl
      · cases h : b.x.okB
        · go_wp2_with (first | (go_at_call 33; (with_reducible refine call_later (rCheck_any _ _) ?_); intro u) | ((with_reducible refine wp_region_later ?_ ?_ ?_); (· kernel_rfl); (· kernel_rfl); (repeat (go_big_quiet_step ((first | (go_at_call 33; (with_reducible exact call_quiet (rCheck_any _ _))))))); refine wpQuiet_nil ?_; rintro _ ⟨u, rfl⟩))
          go_ret
          exact ⟨ret_bool (by rw [boxB_no b 0 (by omega) h]), (by repeat (first | with_reducible exact Grew.refl _ | with_reducible apply Grew.alloc | with_reducible apply Grew.later | with_reducible apply Grew.drew | with_reducible apply Grew.store | with_reducible assumption))⟩
        · go_wp2_with (first | (go_at_call 33; (with_reducible refine call_later (rCheck_any _ _) ?_); intro u) | ((with_reducible refine wp_region_later ?_ ?_ ?_); (· kernel_rfl); (· kernel_rfl); (repeat (go_big_quiet_step ((first | (go_at_call 33; (with_reducible exact call_quiet (rCheck_any _ _))))))); refine wpQuiet_nil ?_; rintro _ ⟨u, rfl⟩))
          go_roundw
          case rel => exact ⟨0 + 1, rfl, by omega, fun j hj => by rcases Nat.lt_succ_iff_lt_or_eq.1 hj with hj | rfl; exact Hall.out j hj; exact h, (by repeat (first | with_reducible exact Grew.refl _ | with_reducible apply Grew.alloc | with_reducible apply Grew.later | with_reducible apply Grew.drew | with_reducible apply Grew.store | with_reducible assumption))⟩
          case measure => simp [intOf]
      · cases h : b.y.okB
        · go_wp2_with (first | (go_at_call 33; (with_reducible refine call_later (rCheck_any _ _) ?_); intro u) | ((with_reducible refine wp_region_later ?_ ?_ ?_); (· kernel_rfl); (· kernel_rfl); (repeat (go_big_quiet_step ((first | (go_at_call 33; (with_reducible exact call_quiet (rCheck_any _ _))))))); refine wpQuiet_nil ?_; rintro _ ⟨u, rfl⟩))
          go_ret
          exact ⟨ret_bool (by rw [boxB_no b 1 (by omega) h]), (by repeat (first | with_reducible exact Grew.refl _ | with_reducible apply Grew.alloc | with_reducible apply Grew.later | with_reducible apply Grew.drew | with_reducible apply Grew.store | with_reducible assumption))⟩
        · go_wp2_with (first | (go_at_call 33; (with_reducible refine call_later (rCheck_any _ _) ?_); intro u) | ((with_reducible refine wp_region_later ?_ ?_ ?_); (· kernel_rfl); (· kernel_rfl); (repeat (go_big_quiet_step ((first | (go_at_call 33; (with_reducible exact call_quiet (rCheck_any _ _))))))); refine wpQuiet_nil ?_; rintro _ ⟨u, rfl⟩))
          go_roundw
          case rel => exact ⟨1 + 1, rfl, by omega, fun j hj => by rcases Nat.lt_succ_iff_lt_or_eq.1 hj with hj | rfl; exact Hall.out j hj; exact h, (by repeat (first | with_reducible exact Grew.refl _ | with_reducible apply Grew.alloc | with_reducible apply Grew.later | with_reducible apply Grew.drew | with_reducible apply Grew.store | with_reducible assumption))⟩
          case measure => simp [intOf]
      · cases h : b.z.okB
        · go_wp2_with (first | (go_at_call 33; (with_reducible refine call_later (rCheck_any _ _) ?_); intro u) | ((with_reducible refine wp_region_later ?_ ?_ ?_); (· kernel_rfl); (· kernel_rfl); (repeat (go_big_quiet_step ((first | (go_at_call 33; (with_reducible exact call_quiet (rCheck_any _ _))))))); refine wpQuiet_nil ?_; rintro _ ⟨u, rfl⟩))
          go_ret
          exact ⟨ret_bool (by rw [boxB_no b 2 (by omega) h]), (by repeat (first | with_reducible exact Grew.refl _ | with_reducible apply Grew.alloc | with_reducible apply Grew.later | with_reducible apply Grew.drew | with_reducible apply Grew.store | with_reducible assumption))⟩
        · go_wp2_with (first | (go_at_call 33; (with_reducible refine call_later (rCheck_any _ _) ?_); intro u) | ((with_reducible refine wp_region_later ?_ ?_ ?_); (· kernel_rfl); (· kernel_rfl); (repeat (go_big_quiet_step ((first | (go_at_call 33; (with_reducible exact call_quiet (rCheck_any _ _))))))); refine wpQuiet_nil ?_; rintro _ ⟨u, rfl⟩))
          go_roundw
          case rel => exact ⟨2 + 1, rfl, by omega, fun j hj => by rcases Nat.lt_succ_iff_lt_or_eq.1 hj with hj | rfl; exact Hall.out j hj; exact h, (by repeat (first | with_reducible exact Grew.refl _ | with_reducible apply Grew.alloc | with_reducible apply Grew.later | with_reducible apply Grew.drew | with_reducible apply Grew.store | with_reducible assumption))⟩
          case measure => simp [intOf]
    · obtain rfl : k = 3 := by omega
      rw [show ((3 : Nat) : Int) = 3 from rfl]
      go_wp2
      go_ret
      exact ⟨ret_bool (by
        have h0 := Hall.out 0 (by omega)
        have h1 := Hall.out 1 (by omega)
        have h2 := Hall.out 2 (by omega)
        simp only [Bx.at] at h0 h1 h2
        simp [Bx.okB, h0, h1, h2]), (by repeat (first | with_reducible exact Grew.refl _ | with_reducible apply Grew.alloc | with_reducible apply Grew.later | with_reducible apply Grew.drew | with_reducible apply Grew.store | with_reducible assumption))⟩
theorem r3Planet_any (p : Planet) (w : World) : Calls Tryz.prog 44 #[.agg #[.int .i64 p.mu.lo, .int .i64 p.mu.hi, .int .i64 p.radius.lo, .int .i64 p.radius.hi, .int .i64 p.oblate.lo, .int .i64 p.oblate.hi, .int .i64 p.spin.lo, .int .i64 p.spin.hi, .int .i64 p.pull.x.lo, .int .i64 p.pull.x.hi, .int .i64 p.pull.y.lo, .int .i64 p.pull.y.hi, .int .i64 p.pull.z.lo, .int .i64 p.pull.z.hi]] w fun e w' => e = .returned (.int .i64 (codeB p.okB 2)) ∧ Grew w w' := by
  rcases bool_or (p.pull.okB) with h1 | h1
  · go_enter Tryz.func44, Tryz.ntmps44
    go_wp2_with (first | (go_at_call 32; (with_reducible refine call_later (r3Box_any _ _) ?_); intro u) | (go_at_call 76; (with_reducible refine call_later (r3Least_any _ _ _) ?_); intro u) | (go_at_call 93; (with_reducible refine call_later (r3Valid_any _ _) ?_); intro u) | ((with_reducible refine wp_region_later ?_ ?_ ?_); (· kernel_rfl); (· kernel_rfl); (repeat (go_big_quiet_step ((first | (go_at_call 32; (with_reducible exact call_quiet (r3Box_any _ _))) | (go_at_call 76; (with_reducible exact call_quiet (r3Least_any _ _ _))) | (go_at_call 93; (with_reducible exact call_quiet (r3Valid_any _ _))))))); refine wpQuiet_nil ?_; rintro _ ⟨u, rfl⟩))
    all_goals go_ret
    all_goals exact ⟨ret_int (by (first | (rw [show p.okB = true from by simp [Planet.okB', *]]; rfl) | (rw [show p.okB = false from by simp [Planet.okB', *] <;> omega]; rfl) | (rw [show p.okB = true from by simp [Planet.okB', *] <;> omega]; rfl))), (by repeat (first | with_reducible exact Grew.refl _ | with_reducible apply Grew.alloc | with_reducible apply Grew.later | with_reducible apply Grew.drew | with_reducible apply Grew.store | with_reducible assumption))⟩
  · skip
    rcases bool_or (p.mu.leastB 0) with h2 | h2
    · go_enter Tryz.func44, Tryz.ntmps44
      go_wp2_with (first | (go_at_call 32; (with_reducible refine call_later (r3Box_any _ _) ?_); intro u) | (go_at_call 76; (with_reducible refine call_later (r3Least_any _ _ _) ?_); intro u) | (go_at_call 93; (with_reducible refine call_later (r3Valid_any _ _) ?_); intro u) | ((with_reducible refine wp_region_later ?_ ?_ ?_); (· kernel_rfl); (· kernel_rfl); (repeat (go_big_quiet_step ((first | (go_at_call 32; (with_reducible exact call_quiet (r3Box_any _ _))) | (go_at_call 76; (with_reducible exact call_quiet (r3Least_any _ _ _))) | (go_at_call 93; (with_reducible exact call_quiet (r3Valid_any _ _))))))); refine wpQuiet_nil ?_; rintro _ ⟨u, rfl⟩))
      all_goals go_ret
      all_goals exact ⟨ret_int (by (first | (rw [show p.okB = true from by simp [Planet.okB', *]]; rfl) | (rw [show p.okB = false from by simp [Planet.okB', *] <;> omega]; rfl) | (rw [show p.okB = true from by simp [Planet.okB', *] <;> omega]; rfl))), (by repeat (first | with_reducible exact Grew.refl _ | with_reducible apply Grew.alloc | with_reducible apply Grew.later | with_reducible apply Grew.drew | with_reducible apply Grew.store | with_reducible assumption))⟩
    · skip
      rcases bool_or (p.radius.leastB 0) with h3 | h3
      · go_enter Tryz.func44, Tryz.ntmps44
        go_wp2_with (first | (go_at_call 32; (with_reducible refine call_later (r3Box_any _ _) ?_); intro u) | (go_at_call 76; (with_reducible refine call_later (r3Least_any _ _ _) ?_); intro u) | (go_at_call 93; (with_reducible refine call_later (r3Valid_any _ _) ?_); intro u) | ((with_reducible refine wp_region_later ?_ ?_ ?_); (· kernel_rfl); (· kernel_rfl); (repeat (go_big_quiet_step ((first | (go_at_call 32; (with_reducible exact call_quiet (r3Box_any _ _))) | (go_at_call 76; (with_reducible exact call_quiet (r3Least_any _ _ _))) | (go_at_call 93; (with_reducible exact call_quiet (r3Valid_any _ _))))))); refine wpQuiet_nil ?_; rintro _ ⟨u, rfl⟩))
        all_goals go_ret
        all_goals exact ⟨ret_int (by (first | (rw [show p.okB = true from by simp [Planet.okB', *]]; rfl) | (rw [show p.okB = false from by simp [Planet.okB', *] <;> omega]; rfl) | (rw [show p.okB = true from by simp [Planet.okB', *] <;> omega]; rfl))), (by repeat (first | with_reducible exact Grew.refl _ | with_reducible apply Grew.alloc | with_reducible apply Grew.later | with_reducible apply Grew.drew | with_reducible apply Grew.store | with_reducible assumption))⟩
      · skip
        rcases bool_or (p.oblate.okB) with h4 | h4
        · go_enter Tryz.func44, Tryz.ntmps44
          go_wp2_with (first | (go_at_call 32; (with_reducible refine call_later (r3Box_any _ _) ?_); intro u) | (go_at_call 76; (with_reducible refine call_later (r3Least_any _ _ _) ?_); intro u) | (go_at_call 93; (with_reducible refine call_later (r3Valid_any _ _) ?_); intro u) | ((with_reducible refine wp_region_later ?_ ?_ ?_); (· kernel_rfl); (· kernel_rfl); (repeat (go_big_quiet_step ((first | (go_at_call 32; (with_reducible exact call_quiet (r3Box_any _ _))) | (go_at_call 76; (with_reducible exact call_quiet (r3Least_any _ _ _))) | (go_at_call 93; (with_reducible exact call_quiet (r3Valid_any _ _))))))); refine wpQuiet_nil ?_; rintro _ ⟨u, rfl⟩))
          all_goals go_ret
          all_goals exact ⟨ret_int (by (first | (rw [show p.okB = true from by simp [Planet.okB', *]]; rfl) | (rw [show p.okB = false from by simp [Planet.okB', *] <;> omega]; rfl) | (rw [show p.okB = true from by simp [Planet.okB', *] <;> omega]; rfl))), (by repeat (first | with_reducible exact Grew.refl _ | with_reducible apply Grew.alloc | with_reducible apply Grew.later | with_reducible apply Grew.drew | with_reducible apply Grew.store | with_reducible assumption))⟩
        · skip
          rcases bool_or (p.spin.okB) with h5 | h5
          · go_enter Tryz.func44, Tryz.ntmps44
            go_wp2_with (first | (go_at_call 32; (with_reducible refine call_later (r3Box_any _ _) ?_); intro u) | (go_at_call 76; (with_reducible refine call_later (r3Least_any _ _ _) ?_); intro u) | (go_at_call 93; (with_reducible refine call_later (r3Valid_any _ _) ?_); intro u) | ((with_reducible refine wp_region_later ?_ ?_ ?_); (· kernel_rfl); (· kernel_rfl); (repeat (go_big_quiet_step ((first | (go_at_call 32; (with_reducible exact call_quiet (r3Box_any _ _))) | (go_at_call 76; (with_reducible exact call_quiet (r3Least_any _ _ _))) | (go_at_call 93; (with_reducible exact call_quiet (r3Valid_any _ _))))))); refine wpQuiet_nil ?_; rintro _ ⟨u, rfl⟩))
            all_goals go_ret
            all_goals exact ⟨ret_int (by (first | (rw [show p.okB = true from by simp [Planet.okB', *]]; rfl) | (rw [show p.okB = false from by simp [Planet.okB', *] <;> omega]; rfl) | (rw [show p.okB = true from by simp [Planet.okB', *] <;> omega]; rfl))), (by repeat (first | with_reducible exact Grew.refl _ | with_reducible apply Grew.alloc | with_reducible apply Grew.later | with_reducible apply Grew.drew | with_reducible apply Grew.store | with_reducible assumption))⟩
          · skip
            go_enter Tryz.func44, Tryz.ntmps44
            go_wp2_with (first | (go_at_call 32; (with_reducible refine call_later (r3Box_any _ _) ?_); intro u) | (go_at_call 76; (with_reducible refine call_later (r3Least_any _ _ _) ?_); intro u) | (go_at_call 93; (with_reducible refine call_later (r3Valid_any _ _) ?_); intro u) | ((with_reducible refine wp_region_later ?_ ?_ ?_); (· kernel_rfl); (· kernel_rfl); (repeat (go_big_quiet_step ((first | (go_at_call 32; (with_reducible exact call_quiet (r3Box_any _ _))) | (go_at_call 76; (with_reducible exact call_quiet (r3Least_any _ _ _))) | (go_at_call 93; (with_reducible exact call_quiet (r3Valid_any _ _))))))); refine wpQuiet_nil ?_; rintro _ ⟨u, rfl⟩))
            all_goals go_ret
            all_goals exact ⟨ret_int (by (first | (rw [show p.okB = true from by simp [Planet.okB', *]]; rfl) | (rw [show p.okB = false from by simp [Planet.okB', *] <;> omega]; rfl) | (rw [show p.okB = true from by simp [Planet.okB', *] <;> omega]; rfl))), (by repeat (first | with_reducible exact Grew.refl _ | with_reducible apply Grew.alloc | with_reducible apply Grew.later | with_reducible apply Grew.drew | with_reducible apply Grew.store | with_reducible assumption))⟩
theorem r3State_any (s : State) (w : World) : Calls Tryz.prog 29 #[.agg #[.int .i64 s.t, .int .i64 s.p.x.lo, .int .i64 s.p.x.hi, .int .i64 s.p.y.lo, .int .i64 s.p.y.hi, .int .i64 s.p.z.lo, .int .i64 s.p.z.hi, .int .i64 s.v.x.lo, .int .i64 s.v.x.hi, .int .i64 s.v.y.lo, .int .i64 s.v.y.hi, .int .i64 s.v.z.lo, .int .i64 s.v.z.hi, .int .i64 s.m.lo, .int .i64 s.m.hi]] w fun e w' => e = .returned (.int .i64 (codeB s.okB 2)) ∧ Grew w w' := by
  rcases bool_or (numB s.t) with h1 | h1
  · go_enter Tryz.func29, Tryz.ntmps29
    go_wp2_with (first | (go_at_call 75; (with_reducible refine call_later (rNumber_any _ _) ?_); intro u) | (go_at_call 32; (with_reducible refine call_later (r3Box_any _ _) ?_); intro u) | (go_at_call 76; (with_reducible refine call_later (r3Least_any _ _ _) ?_); intro u) | ((with_reducible refine wp_region_later ?_ ?_ ?_); (· kernel_rfl); (· kernel_rfl); (repeat (go_big_quiet_step ((first | (go_at_call 75; (with_reducible exact call_quiet (rNumber_any _ _))) | (go_at_call 32; (with_reducible exact call_quiet (r3Box_any _ _))) | (go_at_call 76; (with_reducible exact call_quiet (r3Least_any _ _ _))))))); refine wpQuiet_nil ?_; rintro _ ⟨u, rfl⟩))
    all_goals go_ret
    all_goals exact ⟨ret_int (by (first | (rw [show s.okB = true from by simp [State.okB', *]]; rfl) | (rw [show s.okB = false from by simp [State.okB', *] <;> omega]; rfl) | (rw [show s.okB = true from by simp [State.okB', *] <;> omega]; rfl))), (by repeat (first | with_reducible exact Grew.refl _ | with_reducible apply Grew.alloc | with_reducible apply Grew.later | with_reducible apply Grew.drew | with_reducible apply Grew.store | with_reducible assumption))⟩
  · skip
    rcases bool_or (s.p.okB) with h2 | h2
    · go_enter Tryz.func29, Tryz.ntmps29
      go_wp2_with (first | (go_at_call 75; (with_reducible refine call_later (rNumber_any _ _) ?_); intro u) | (go_at_call 32; (with_reducible refine call_later (r3Box_any _ _) ?_); intro u) | (go_at_call 76; (with_reducible refine call_later (r3Least_any _ _ _) ?_); intro u) | ((with_reducible refine wp_region_later ?_ ?_ ?_); (· kernel_rfl); (· kernel_rfl); (repeat (go_big_quiet_step ((first | (go_at_call 75; (with_reducible exact call_quiet (rNumber_any _ _))) | (go_at_call 32; (with_reducible exact call_quiet (r3Box_any _ _))) | (go_at_call 76; (with_reducible exact call_quiet (r3Least_any _ _ _))))))); refine wpQuiet_nil ?_; rintro _ ⟨u, rfl⟩))
      all_goals go_ret
      all_goals exact ⟨ret_int (by (first | (rw [show s.okB = true from by simp [State.okB', *]]; rfl) | (rw [show s.okB = false from by simp [State.okB', *] <;> omega]; rfl) | (rw [show s.okB = true from by simp [State.okB', *] <;> omega]; rfl))), (by repeat (first | with_reducible exact Grew.refl _ | with_reducible apply Grew.alloc | with_reducible apply Grew.later | with_reducible apply Grew.drew | with_reducible apply Grew.store | with_reducible assumption))⟩
    · skip
      rcases bool_or (s.v.okB) with h3 | h3
      · go_enter Tryz.func29, Tryz.ntmps29
        go_wp2_with (first | (go_at_call 75; (with_reducible refine call_later (rNumber_any _ _) ?_); intro u) | (go_at_call 32; (with_reducible refine call_later (r3Box_any _ _) ?_); intro u) | (go_at_call 76; (with_reducible refine call_later (r3Least_any _ _ _) ?_); intro u) | ((with_reducible refine wp_region_later ?_ ?_ ?_); (· kernel_rfl); (· kernel_rfl); (repeat (go_big_quiet_step ((first | (go_at_call 75; (with_reducible exact call_quiet (rNumber_any _ _))) | (go_at_call 32; (with_reducible exact call_quiet (r3Box_any _ _))) | (go_at_call 76; (with_reducible exact call_quiet (r3Least_any _ _ _))))))); refine wpQuiet_nil ?_; rintro _ ⟨u, rfl⟩))
        all_goals go_ret
        all_goals exact ⟨ret_int (by (first | (rw [show s.okB = true from by simp [State.okB', *]]; rfl) | (rw [show s.okB = false from by simp [State.okB', *] <;> omega]; rfl) | (rw [show s.okB = true from by simp [State.okB', *] <;> omega]; rfl))), (by repeat (first | with_reducible exact Grew.refl _ | with_reducible apply Grew.alloc | with_reducible apply Grew.later | with_reducible apply Grew.drew | with_reducible apply Grew.store | with_reducible assumption))⟩
      · skip
        rcases bool_or (s.m.leastB 1) with h4 | h4
        · go_enter Tryz.func29, Tryz.ntmps29
          go_wp2_with (first | (go_at_call 75; (with_reducible refine call_later (rNumber_any _ _) ?_); intro u) | (go_at_call 32; (with_reducible refine call_later (r3Box_any _ _) ?_); intro u) | (go_at_call 76; (with_reducible refine call_later (r3Least_any _ _ _) ?_); intro u) | ((with_reducible refine wp_region_later ?_ ?_ ?_); (· kernel_rfl); (· kernel_rfl); (repeat (go_big_quiet_step ((first | (go_at_call 75; (with_reducible exact call_quiet (rNumber_any _ _))) | (go_at_call 32; (with_reducible exact call_quiet (r3Box_any _ _))) | (go_at_call 76; (with_reducible exact call_quiet (r3Least_any _ _ _))))))); refine wpQuiet_nil ?_; rintro _ ⟨u, rfl⟩))
          all_goals go_ret
          all_goals exact ⟨ret_int (by (first | (rw [show s.okB = true from by simp [State.okB', *]]; rfl) | (rw [show s.okB = false from by simp [State.okB', *] <;> omega]; rfl) | (rw [show s.okB = true from by simp [State.okB', *] <;> omega]; rfl))), (by repeat (first | with_reducible exact Grew.refl _ | with_reducible apply Grew.alloc | with_reducible apply Grew.later | with_reducible apply Grew.drew | with_reducible apply Grew.store | with_reducible assumption))⟩
        · skip
          go_enter Tryz.func29, Tryz.ntmps29
          go_wp2_with (first | (go_at_call 75; (with_reducible refine call_later (rNumber_any _ _) ?_); intro u) | (go_at_call 32; (with_reducible refine call_later (r3Box_any _ _) ?_); intro u) | (go_at_call 76; (with_reducible refine call_later (r3Least_any _ _ _) ?_); intro u) | ((with_reducible refine wp_region_later ?_ ?_ ?_); (· kernel_rfl); (· kernel_rfl); (repeat (go_big_quiet_step ((first | (go_at_call 75; (with_reducible exact call_quiet (rNumber_any _ _))) | (go_at_call 32; (with_reducible exact call_quiet (r3Box_any _ _))) | (go_at_call 76; (with_reducible exact call_quiet (r3Least_any _ _ _))))))); refine wpQuiet_nil ?_; rintro _ ⟨u, rfl⟩))
          all_goals go_ret
          all_goals exact ⟨ret_int (by (first | (rw [show s.okB = true from by simp [State.okB', *]]; rfl) | (rw [show s.okB = false from by simp [State.okB', *] <;> omega]; rfl) | (rw [show s.okB = true from by simp [State.okB', *] <;> omega]; rfl))), (by repeat (first | with_reducible exact Grew.refl _ | with_reducible apply Grew.alloc | with_reducible apply Grew.later | with_reducible apply Grew.drew | with_reducible apply Grew.store | with_reducible assumption))⟩
theorem r3Tube_any (t : Tube) (w : World) : Calls Tryz.prog 60 #[.agg #[.int .i64 t.a, .int .i64 t.z, .int .i64 t.p.x.lo, .int .i64 t.p.x.hi, .int .i64 t.p.y.lo, .int .i64 t.p.y.hi, .int .i64 t.p.z.lo, .int .i64 t.p.z.hi, .int .i64 t.v.x.lo, .int .i64 t.v.x.hi, .int .i64 t.v.y.lo, .int .i64 t.v.y.hi, .int .i64 t.v.z.lo, .int .i64 t.v.z.hi, .int .i64 t.m.lo, .int .i64 t.m.hi]] w fun e w' => e = .returned (.int .i64 (codeB t.okB 2)) ∧ Grew w w' := by
  rcases bool_or (numB t.a) with h1 | h1
  · go_enter Tryz.func60, Tryz.ntmps60
    go_wp2_with (first | (go_at_call 75; (with_reducible refine call_later (rNumber_any _ _) ?_); intro u) | (go_at_call 32; (with_reducible refine call_later (is_bool h4 (r3Box_any t.p _)) ?_); intro u) | (go_at_call 32; (with_reducible refine call_later (r3Box_any _ _) ?_); intro u) | (go_at_call 76; (with_reducible refine call_later (r3Least_any _ _ _) ?_); intro u) | ((with_reducible refine wp_region_later ?_ ?_ ?_); (· kernel_rfl); (· kernel_rfl); (repeat (go_big_quiet_step ((first | (go_at_call 75; (with_reducible exact call_quiet (rNumber_any _ _))) | (go_at_call 32; (with_reducible exact call_quiet (is_bool h4 (r3Box_any t.p _)))) | (go_at_call 32; (with_reducible exact call_quiet (r3Box_any _ _))) | (go_at_call 76; (with_reducible exact call_quiet (r3Least_any _ _ _))))))); refine wpQuiet_nil ?_; rintro _ ⟨u, rfl⟩))
    all_goals go_ret
    all_goals exact ⟨ret_int (by (first | (rw [show t.okB = true from by simp [Tube.okB', *]]; rfl) | (rw [show t.okB = false from by simp [Tube.okB', *] <;> omega]; rfl) | (rw [show t.okB = true from by simp [Tube.okB', *] <;> omega]; rfl))), (by repeat (first | with_reducible exact Grew.refl _ | with_reducible apply Grew.alloc | with_reducible apply Grew.later | with_reducible apply Grew.drew | with_reducible apply Grew.store | with_reducible assumption))⟩
  · skip
    rcases bool_or (numB t.z) with h2 | h2
    · go_enter Tryz.func60, Tryz.ntmps60
      go_wp2_with (first | (go_at_call 75; (with_reducible refine call_later (rNumber_any _ _) ?_); intro u) | (go_at_call 32; (with_reducible refine call_later (is_bool h4 (r3Box_any t.p _)) ?_); intro u) | (go_at_call 32; (with_reducible refine call_later (r3Box_any _ _) ?_); intro u) | (go_at_call 76; (with_reducible refine call_later (r3Least_any _ _ _) ?_); intro u) | ((with_reducible refine wp_region_later ?_ ?_ ?_); (· kernel_rfl); (· kernel_rfl); (repeat (go_big_quiet_step ((first | (go_at_call 75; (with_reducible exact call_quiet (rNumber_any _ _))) | (go_at_call 32; (with_reducible exact call_quiet (is_bool h4 (r3Box_any t.p _)))) | (go_at_call 32; (with_reducible exact call_quiet (r3Box_any _ _))) | (go_at_call 76; (with_reducible exact call_quiet (r3Least_any _ _ _))))))); refine wpQuiet_nil ?_; rintro _ ⟨u, rfl⟩))
      all_goals go_ret
      all_goals exact ⟨ret_int (by (first | (rw [show t.okB = true from by simp [Tube.okB', *]]; rfl) | (rw [show t.okB = false from by simp [Tube.okB', *] <;> omega]; rfl) | (rw [show t.okB = true from by simp [Tube.okB', *] <;> omega]; rfl))), (by repeat (first | with_reducible exact Grew.refl _ | with_reducible apply Grew.alloc | with_reducible apply Grew.later | with_reducible apply Grew.drew | with_reducible apply Grew.store | with_reducible assumption))⟩
    · skip
      rcases prop_or (t.a ≤ t.z) with h3 | h3
      · go_enter Tryz.func60, Tryz.ntmps60
        go_wp2_with (first | (go_at_call 75; (with_reducible refine call_later (rNumber_any _ _) ?_); intro u) | (go_at_call 32; (with_reducible refine call_later (is_bool h4 (r3Box_any t.p _)) ?_); intro u) | (go_at_call 32; (with_reducible refine call_later (r3Box_any _ _) ?_); intro u) | (go_at_call 76; (with_reducible refine call_later (r3Least_any _ _ _) ?_); intro u) | ((with_reducible refine wp_region_later ?_ ?_ ?_); (· kernel_rfl); (· kernel_rfl); (repeat (go_big_quiet_step ((first | (go_at_call 75; (with_reducible exact call_quiet (rNumber_any _ _))) | (go_at_call 32; (with_reducible exact call_quiet (is_bool h4 (r3Box_any t.p _)))) | (go_at_call 32; (with_reducible exact call_quiet (r3Box_any _ _))) | (go_at_call 76; (with_reducible exact call_quiet (r3Least_any _ _ _))))))); refine wpQuiet_nil ?_; rintro _ ⟨u, rfl⟩))
        all_goals go_ret
        all_goals exact ⟨ret_int (by (first | (rw [show t.okB = true from by simp [Tube.okB', *]]; rfl) | (rw [show t.okB = false from by simp [Tube.okB', *] <;> omega]; rfl) | (rw [show t.okB = true from by simp [Tube.okB', *] <;> omega]; rfl))), (by repeat (first | with_reducible exact Grew.refl _ | with_reducible apply Grew.alloc | with_reducible apply Grew.later | with_reducible apply Grew.drew | with_reducible apply Grew.store | with_reducible assumption))⟩
      · skip
        rcases bool_or (t.p.okB) with h4 | h4
        · go_enter Tryz.func60, Tryz.ntmps60
          go_wp2_with (first | (go_at_call 75; (with_reducible refine call_later (rNumber_any _ _) ?_); intro u) | (go_at_call 32; (with_reducible refine call_later (is_bool h4 (r3Box_any t.p _)) ?_); intro u) | (go_at_call 32; (with_reducible refine call_later (r3Box_any _ _) ?_); intro u) | (go_at_call 76; (with_reducible refine call_later (r3Least_any _ _ _) ?_); intro u) | ((with_reducible refine wp_region_later ?_ ?_ ?_); (· kernel_rfl); (· kernel_rfl); (repeat (go_big_quiet_step ((first | (go_at_call 75; (with_reducible exact call_quiet (rNumber_any _ _))) | (go_at_call 32; (with_reducible exact call_quiet (is_bool h4 (r3Box_any t.p _)))) | (go_at_call 32; (with_reducible exact call_quiet (r3Box_any _ _))) | (go_at_call 76; (with_reducible exact call_quiet (r3Least_any _ _ _))))))); refine wpQuiet_nil ?_; rintro _ ⟨u, rfl⟩))
          all_goals go_ret
          all_goals exact ⟨ret_int (by (first | (rw [show t.okB = true from by simp [Tube.okB', *]]; rfl) | (rw [show t.okB = false from by simp [Tube.okB', *] <;> omega]; rfl) | (rw [show t.okB = true from by simp [Tube.okB', *] <;> omega]; rfl))), (by repeat (first | with_reducible exact Grew.refl _ | with_reducible apply Grew.alloc | with_reducible apply Grew.later | with_reducible apply Grew.drew | with_reducible apply Grew.store | with_reducible assumption))⟩
        · skip
          rcases bool_or (t.v.okB) with h5 | h5
          · go_enter Tryz.func60, Tryz.ntmps60
            go_wp2_with (first | (go_at_call 75; (with_reducible refine call_later (rNumber_any _ _) ?_); intro u) | (go_at_call 32; (with_reducible refine call_later (is_bool h4 (r3Box_any t.p _)) ?_); intro u) | (go_at_call 32; (with_reducible refine call_later (r3Box_any _ _) ?_); intro u) | (go_at_call 76; (with_reducible refine call_later (r3Least_any _ _ _) ?_); intro u) | ((with_reducible refine wp_region_later ?_ ?_ ?_); (· kernel_rfl); (· kernel_rfl); (repeat (go_big_quiet_step ((first | (go_at_call 75; (with_reducible exact call_quiet (rNumber_any _ _))) | (go_at_call 32; (with_reducible exact call_quiet (is_bool h4 (r3Box_any t.p _)))) | (go_at_call 32; (with_reducible exact call_quiet (r3Box_any _ _))) | (go_at_call 76; (with_reducible exact call_quiet (r3Least_any _ _ _))))))); refine wpQuiet_nil ?_; rintro _ ⟨u, rfl⟩))
            all_goals go_ret
            all_goals exact ⟨ret_int (by (first | (rw [show t.okB = true from by simp [Tube.okB', *]]; rfl) | (rw [show t.okB = false from by simp [Tube.okB', *] <;> omega]; rfl) | (rw [show t.okB = true from by simp [Tube.okB', *] <;> omega]; rfl))), (by repeat (first | with_reducible exact Grew.refl _ | with_reducible apply Grew.alloc | with_reducible apply Grew.later | with_reducible apply Grew.drew | with_reducible apply Grew.store | with_reducible assumption))⟩
          · skip
            rcases bool_or (t.m.leastB 1) with h6 | h6
            · go_enter Tryz.func60, Tryz.ntmps60
              go_wp2_with (first | (go_at_call 75; (with_reducible refine call_later (rNumber_any _ _) ?_); intro u) | (go_at_call 32; (with_reducible refine call_later (is_bool h4 (r3Box_any t.p _)) ?_); intro u) | (go_at_call 32; (with_reducible refine call_later (r3Box_any _ _) ?_); intro u) | (go_at_call 76; (with_reducible refine call_later (r3Least_any _ _ _) ?_); intro u) | ((with_reducible refine wp_region_later ?_ ?_ ?_); (· kernel_rfl); (· kernel_rfl); (repeat (go_big_quiet_step ((first | (go_at_call 75; (with_reducible exact call_quiet (rNumber_any _ _))) | (go_at_call 32; (with_reducible exact call_quiet (is_bool h4 (r3Box_any t.p _)))) | (go_at_call 32; (with_reducible exact call_quiet (r3Box_any _ _))) | (go_at_call 76; (with_reducible exact call_quiet (r3Least_any _ _ _))))))); refine wpQuiet_nil ?_; rintro _ ⟨u, rfl⟩))
              all_goals go_ret
              all_goals exact ⟨ret_int (by (first | (rw [show t.okB = true from by simp [Tube.okB', *]]; rfl) | (rw [show t.okB = false from by simp [Tube.okB', *] <;> omega]; rfl) | (rw [show t.okB = true from by simp [Tube.okB', *] <;> omega]; rfl))), (by repeat (first | with_reducible exact Grew.refl _ | with_reducible apply Grew.alloc | with_reducible apply Grew.later | with_reducible apply Grew.drew | with_reducible apply Grew.store | with_reducible assumption))⟩
            · skip
              go_enter Tryz.func60, Tryz.ntmps60
              go_wp2_with (first | (go_at_call 75; (with_reducible refine call_later (rNumber_any _ _) ?_); intro u) | (go_at_call 32; (with_reducible refine call_later (is_bool h4 (r3Box_any t.p _)) ?_); intro u) | (go_at_call 32; (with_reducible refine call_later (r3Box_any _ _) ?_); intro u) | (go_at_call 76; (with_reducible refine call_later (r3Least_any _ _ _) ?_); intro u) | ((with_reducible refine wp_region_later ?_ ?_ ?_); (· kernel_rfl); (· kernel_rfl); (repeat (go_big_quiet_step ((first | (go_at_call 75; (with_reducible exact call_quiet (rNumber_any _ _))) | (go_at_call 32; (with_reducible exact call_quiet (is_bool h4 (r3Box_any t.p _)))) | (go_at_call 32; (with_reducible exact call_quiet (r3Box_any _ _))) | (go_at_call 76; (with_reducible exact call_quiet (r3Least_any _ _ _))))))); refine wpQuiet_nil ?_; rintro _ ⟨u, rfl⟩))
              all_goals go_ret
              all_goals exact ⟨ret_int (by (first | (rw [show t.okB = true from by simp [Tube.okB', *]]; rfl) | (rw [show t.okB = false from by simp [Tube.okB', *] <;> omega]; rfl) | (rw [show t.okB = true from by simp [Tube.okB', *] <;> omega]; rfl))), (by repeat (first | with_reducible exact Grew.refl _ | with_reducible apply Grew.alloc | with_reducible apply Grew.later | with_reducible apply Grew.drew | with_reducible apply Grew.store | with_reducible assumption))⟩
def stepsZ (a : Arc) : Int := (a.time - 1) / a.step + 1
def stepsCode (a : Arc) (l : List Pt) : Int := if a.okB l = true then (if stepsZ a ≤ 4096 then 0 else 3) else 2
def stepsNum (a : Arc) (l : List Pt) : Int := if stepsCode a l = 0 then stepsZ a else 0
theorem steps_bd (a : Arc) (h1 : 1 ≤ a.time) (h2 : 1 ≤ a.step) : 1 ≤ stepsZ a ∧ stepsZ a ≤ a.time := by
  unfold stepsZ
  have h3 : 0 ≤ (a.time - 1) / a.step := Int.ediv_nonneg (by omega) (by omega)
  have h4 : (a.time - 1) / a.step ≤ a.time - 1 := Int.ediv_le_self _ (by omega)
  omega
theorem steps_ceil (t s : Int) (h2 : 1 ≤ s) : (t - 1) / s + 1 = if t % s = 0 then t / s else t / s + 1 := by
  have e := Int.mul_ediv_add_emod t s
  have n1 := Int.emod_nonneg t (show s ≠ 0 by omega)
  have n2 := Int.emod_lt_of_pos t (show 0 < s by omega)
  split
  · rename_i h
    have : t - 1 = (s - 1) + s * (t / s - 1) := by rw [Int.mul_sub]; omega
    rw [this, Int.add_mul_ediv_left _ _ (by omega), Int.ediv_eq_zero_of_lt (by omega) (by omega)]
    omega
  · rename_i h
    have : t - 1 = (t % s - 1) + s * (t / s) := by omega
    rw [this, Int.add_mul_ediv_left _ _ (by omega), Int.ediv_eq_zero_of_lt (by omega) (by omega)]
    omega
theorem arc_pos {a : Arc} {l : List Pt} (h : a.okB l = true) : 1 ≤ a.time ∧ 1 ≤ a.step := by
  simp only [Arc.okB, Bool.and_eq_true, decide_eq_true_eq] at h
  exact ⟨h.1.1.2, h.1.2⟩
end Go.Proofs.YtochpnomfedhoaaGreat
