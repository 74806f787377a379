/-
  Contracts: what is valid (ullageref03), the steps of an arc.
-/
import Derived.Test.YtgjikdhidakloaaArcOk
namespace Go.Proofs.Ytgjikdhidakloaa
open Go.RowKit
set_option maxRecDepth 100000
set_option maxHeartbeats 1000000

theorem Planet.okB' (p : Planet) : p.okB = (p.pull.okB && p.mu.leastB 0 && p.radius.leastB 0 && p.oblate.okB && p.spin.okB) := by
  simp only [Planet.okB, Sp.leastB]
  cases p.pull.okB <;> cases p.mu.okB <;> cases p.radius.okB <;> cases p.oblate.okB <;> cases p.spin.okB <;> simp
theorem State.okB' (s : State) : s.okB = (numB s.t && s.p.okB && s.v.okB && s.m.leastB 1) := by
  simp only [State.okB, Sp.leastB]
  cases numB s.t <;> cases s.p.okB <;> cases s.v.okB <;> cases s.m.okB <;> simp
theorem Tube.okB' (t : Tube) : t.okB = (numB t.a && numB t.z && decide (t.a ≤ t.z) && t.p.okB && t.v.okB && t.m.leastB 1) := by
  simp only [Tube.okB, Sp.leastB]
  cases numB t.a <;> cases numB t.z <;> cases t.p.okB <;> cases t.v.okB <;> cases t.m.okB <;> simp
theorem r3Least_any (a : Sp) (n : Int) (w : World) : Calls Try.prog 82 #[.agg #[.int .i64 a.lo, .int .i64 a.hi], .int .i64 n] w fun e w' => e = .returned (.bool (a.leastB n)) ∧ Grew w w' := by
  rcases bool_or (a.okB) with h1 | h1
  · go_enter Try.func82, Try.ntmps82
    go_wp2_with (first | (go_at_call 90; (with_reducible refine call_later (rCheck_any _ _) ?_); intro u) | ((with_reducible refine wp_region_later ?_ ?_ ?_); (· kernel_rfl); (· kernel_rfl); (repeat (go_big_quiet_step ((first | (go_at_call 90; (with_reducible exact call_quiet (rCheck_any _ _))))))); refine wpQuiet_nil ?_; rintro _ ⟨u, rfl⟩))
    go_ret
    exact ⟨ret_bool (by (first | (simp [Sp.leastB, *]; done) | (simp [Sp.leastB, *] <;> omega) | (simp [Sp.leastB, *]; omega))), (by repeat (first | with_reducible exact Grew.refl _ | with_reducible apply Grew.alloc | with_reducible apply Grew.later | with_reducible apply Grew.drew | with_reducible apply Grew.store | with_reducible assumption))⟩
  · skip
    rcases prop_or (n ≤ a.lo) with h2 | h2
    · go_enter Try.func82, Try.ntmps82
      go_wp2_with (first | (go_at_call 90; (with_reducible refine call_later (rCheck_any _ _) ?_); intro u) | ((with_reducible refine wp_region_later ?_ ?_ ?_); (· kernel_rfl); (· kernel_rfl); (repeat (go_big_quiet_step ((first | (go_at_call 90; (with_reducible exact call_quiet (rCheck_any _ _))))))); refine wpQuiet_nil ?_; rintro _ ⟨u, rfl⟩))
      go_ret
      exact ⟨ret_bool (by (first | (simp [Sp.leastB, *]; done) | (simp [Sp.leastB, *] <;> omega) | (simp [Sp.leastB, *]; omega))), (by repeat (first | with_reducible exact Grew.refl _ | with_reducible apply Grew.alloc | with_reducible apply Grew.later | with_reducible apply Grew.drew | with_reducible apply Grew.store | with_reducible assumption))⟩
    · skip
      go_enter Try.func82, Try.ntmps82
      go_wp2_with (first | (go_at_call 90; (with_reducible refine call_later (rCheck_any _ _) ?_); intro u) | ((with_reducible refine wp_region_later ?_ ?_ ?_); (· kernel_rfl); (· kernel_rfl); (repeat (go_big_quiet_step ((first | (go_at_call 90; (with_reducible exact call_quiet (rCheck_any _ _))))))); refine wpQuiet_nil ?_; rintro _ ⟨u, rfl⟩))
      go_ret
      exact ⟨ret_bool (by (first | (simp [Sp.leastB, *]; done) | (simp [Sp.leastB, *] <;> omega) | (simp [Sp.leastB, *]; omega))), (by repeat (first | with_reducible exact Grew.refl _ | with_reducible apply Grew.alloc | with_reducible apply Grew.later | with_reducible apply Grew.drew | with_reducible apply Grew.store | with_reducible assumption))⟩
theorem boxB_no (d : Bx) (k : Nat) (hk : k < 3) (h : (d.at k).okB = false) : d.okB = false := by
  match k, hk with
  | 0, _ => simp only [Bx.at] at h; simp [Bx.okB, h]
  | 1, _ => simp only [Bx.at] at h; simp [Bx.okB, h]
  | 2, _ => simp only [Bx.at] at h; simp [Bx.okB, h]
theorem r3Box_any (b : Bx) (w : World) : Calls Try.prog 89 #[.agg #[.int .i64 b.x.lo, .int .i64 b.x.hi, .int .i64 b.y.lo, .int .i64 b.y.hi, .int .i64 b.z.lo, .int .i64 b.z.hi]] w fun e w' => e = .returned (.bool b.okB) ∧ Grew w w' := by
  go_enter Try.func89, Try.ntmps89
  go_wp2
  go_loopw [3] (fun t wr => ∃ k : Nat, t = .int .i64 k ∧ k ≤ 3 ∧ (∀ j, j < k → (b.at j).okB = true) ∧ Grew (w.alloc (.cells #[.int .i64 b.x.lo, .int .i64 b.x.hi, .int .i64 b.y.lo, .int .i64 b.y.hi, .int .i64 b.z.lo, .int .i64 b.z.hi] 69)) wr) (fun t _ => 3 - (intOf t).toNat)
  case atStart => exact ⟨0, rfl, by omega, fun j hj => by omega, (by repeat (first | with_reducible exact Grew.refl _ | with_reducible apply Grew.alloc | with_reducible apply Grew.later | with_reducible apply Grew.drew | with_reducible apply Grew.store | with_reducible assumption))⟩
  case round =>
    obtain ⟨k, rfl, hk, hall, hg⟩ := hrel
    obtain ⟨x, rfl⟩ := later_of hg
    clear hg
    have Hall := Lib.hid hall
    clear hall
    by_cases hlt : k < 3
    · have hkk : k = 0 ∨ k = 1 ∨ k = 2 := by omega
      rcases hkk with rfl | rfl | rfl
      · cases h : b.x.okB
        · go_wp2_with (first | (go_at_call 90; (with_reducible refine call_later (rCheck_any _ _) ?_); intro u) | ((with_reducible refine wp_region_later ?_ ?_ ?_); (· kernel_rfl); (· kernel_rfl); (repeat (go_big_quiet_step ((first | (go_at_call 90; (with_reducible exact call_quiet (rCheck_any _ _))))))); refine wpQuiet_nil ?_; rintro _ ⟨u, rfl⟩))
          go_ret
          exact ⟨ret_bool (by rw [boxB_no b 0 (by omega) h]), (by repeat (first | with_reducible exact Grew.refl _ | with_reducible apply Grew.alloc | with_reducible apply Grew.later | with_reducible apply Grew.drew | with_reducible apply Grew.store | with_reducible assumption))⟩
        · go_wp2_with (first | (go_at_call 90; (with_reducible refine call_later (rCheck_any _ _) ?_); intro u) | ((with_reducible refine wp_region_later ?_ ?_ ?_); (· kernel_rfl); (· kernel_rfl); (repeat (go_big_quiet_step ((first | (go_at_call 90; (with_reducible exact call_quiet (rCheck_any _ _))))))); refine wpQuiet_nil ?_; rintro _ ⟨u, rfl⟩))
          go_roundw
          case rel => exact ⟨0 + 1, rfl, by omega, fun j hj => by rcases Nat.lt_succ_iff_lt_or_eq.1 hj with hj | rfl; exact Hall.out j hj; exact h, (by repeat (first | with_reducible exact Grew.refl _ | with_reducible apply Grew.alloc | with_reducible apply Grew.later | with_reducible apply Grew.drew | with_reducible apply Grew.store | with_reducible assumption))⟩
          case measure => simp [intOf]
      · cases h : b.y.okB
        · go_wp2_with (first | (go_at_call 90; (with_reducible refine call_later (rCheck_any _ _) ?_); intro u) | ((with_reducible refine wp_region_later ?_ ?_ ?_); (· kernel_rfl); (· kernel_rfl); (repeat (go_big_quiet_step ((first | (go_at_call 90; (with_reducible exact call_quiet (rCheck_any _ _))))))); refine wpQuiet_nil ?_; rintro _ ⟨u, rfl⟩))
          go_ret
          exact ⟨ret_bool (by rw [boxB_no b 1 (by omega) h]), (by repeat (first | with_reducible exact Grew.refl _ | with_reducible apply Grew.alloc | with_reducible apply Grew.later | with_reducible apply Grew.drew | with_reducible apply Grew.store | with_reducible assumption))⟩
        · go_wp2_with (first | (go_at_call 90; (with_reducible refine call_later (rCheck_any _ _) ?_); intro u) | ((with_reducible refine wp_region_later ?_ ?_ ?_); (· kernel_rfl); (· kernel_rfl); (repeat (go_big_quiet_step ((first | (go_at_call 90; (with_reducible exact call_quiet (rCheck_any _ _))))))); refine wpQuiet_nil ?_; rintro _ ⟨u, rfl⟩))
          go_roundw
          case rel => exact ⟨1 + 1, rfl, by omega, fun j hj => by rcases Nat.lt_succ_iff_lt_or_eq.1 hj with hj | rfl; exact Hall.out j hj; exact h, (by repeat (first | with_reducible exact Grew.refl _ | with_reducible apply Grew.alloc | with_reducible apply Grew.later | with_reducible apply Grew.drew | with_reducible apply Grew.store | with_reducible assumption))⟩
          case measure => simp [intOf]
      · cases h : b.z.okB
        · go_wp2_with (first | (go_at_call 90; (with_reducible refine call_later (rCheck_any _ _) ?_); intro u) | ((with_reducible refine wp_region_later ?_ ?_ ?_); (· kernel_rfl); (· kernel_rfl); (repeat (go_big_quiet_step ((first | (go_at_call 90; (with_reducible exact call_quiet (rCheck_any _ _))))))); refine wpQuiet_nil ?_; rintro _ ⟨u, rfl⟩))
          go_ret
          exact ⟨ret_bool (by rw [boxB_no b 2 (by omega) h]), (by repeat (first | with_reducible exact Grew.refl _ | with_reducible apply Grew.alloc | with_reducible apply Grew.later | with_reducible apply Grew.drew | with_reducible apply Grew.store | with_reducible assumption))⟩
        · go_wp2_with (first | (go_at_call 90; (with_reducible refine call_later (rCheck_any _ _) ?_); intro u) | ((with_reducible refine wp_region_later ?_ ?_ ?_); (· kernel_rfl); (· kernel_rfl); (repeat (go_big_quiet_step ((first | (go_at_call 90; (with_reducible exact call_quiet (rCheck_any _ _))))))); refine wpQuiet_nil ?_; rintro _ ⟨u, rfl⟩))
          go_roundw
          case rel => exact ⟨2 + 1, rfl, by omega, fun j hj => by rcases Nat.lt_succ_iff_lt_or_eq.1 hj with hj | rfl; exact Hall.out j hj; exact h, (by repeat (first | with_reducible exact Grew.refl _ | with_reducible apply Grew.alloc | with_reducible apply Grew.later | with_reducible apply Grew.drew | with_reducible apply Grew.store | with_reducible assumption))⟩
          case measure => simp [intOf]
    · obtain rfl : k = 3 := by omega
      rw [show ((3 : Nat) : Int) = 3 from rfl]
      go_wp2
      go_ret
      exact ⟨ret_bool (by
        have h0 := Hall.out 0 (by omega)
        have h1 := Hall.out 1 (by omega)
        have h2 := Hall.out 2 (by omega)
        simp only [Bx.at] at h0 h1 h2
        simp [Bx.okB, h0, h1, h2]), (by repeat (first | with_reducible exact Grew.refl _ | with_reducible apply Grew.alloc | with_reducible apply Grew.later | with_reducible apply Grew.drew | with_reducible apply Grew.store | with_reducible assumption))⟩
theorem r3Arc_any (a : Arc) (l : List Pt) (w : World) (hd : DragAt w a l) : Calls Try.prog 61 #[.agg #[.int .i64 a.time, .int .i64 a.step, .int .i64 a.thrust.lo, .int .i64 a.thrust.hi, .int .i64 a.flow.lo, .int .i64 a.flow.hi, .int .i64 a.dir.x.lo, .int .i64 a.dir.x.hi, .int .i64 a.dir.y.lo, .int .i64 a.dir.y.hi, .int .i64 a.dir.z.lo, .int .i64 a.dir.z.hi, .slice a.drag.ao a.drag.n a.drag.cap, .int .i64 a.drop.lo, .int .i64 a.drop.hi]] w fun e w' => e = .returned (.int .i64 (codeB (a.okB l) 2)) ∧ Grew w w' := by
  have Hn := Lib.hid (drag_n hd)
  have Hd := Lib.hid hd
  clear hd
  go_enter Try.func61, Try.ntmps61
  go_wp2
  go_loopw [3] (fun t wr => ∃ k : Nat, t = .int .i64 k ∧ k ≤ 3 ∧ (∀ j, j < k → (a.dir.at j).inB unit = true) ∧ Grew (w.alloc (.cells #[.int .i64 a.time, .int .i64 a.step, .int .i64 a.thrust.lo, .int .i64 a.thrust.hi, .int .i64 a.flow.lo, .int .i64 a.flow.hi, .int .i64 a.dir.x.lo, .int .i64 a.dir.x.hi, .int .i64 a.dir.y.lo, .int .i64 a.dir.y.hi, .int .i64 a.dir.z.lo, .int .i64 a.dir.z.hi, .slice a.drag.ao a.drag.n a.drag.cap, .int .i64 a.drop.lo, .int .i64 a.drop.hi] 72)) wr) (fun t _ => 3 - (intOf t).toNat)
  case atStart => exact ⟨0, rfl, by omega, fun j hj => by omega, (by repeat (first | with_reducible exact Grew.refl _ | with_reducible apply Grew.alloc | with_reducible apply Grew.later | with_reducible apply Grew.drew | with_reducible apply Grew.store | with_reducible assumption))⟩
  case round =>
    obtain ⟨k, rfl, hk, hall, hg⟩ := hrel
    obtain ⟨x, rfl⟩ := later_of hg
    clear hg
    have Hall := Lib.hid hall
    clear hall
    by_cases hlt : k < 3
    · have hkk : k = 0 ∨ k = 1 ∨ k = 2 := by omega
      rcases hkk with rfl | rfl | rfl
      · cases h : (a.dir.x).inB unit
        · go_wp2_with (first | (go_at_call 81; (with_reducible refine call_later (rWithin_any _ unit _) ?_); intro u) | ((with_reducible refine wp_region_later ?_ ?_ ?_); (· kernel_rfl); (· kernel_rfl); (repeat (go_big_quiet_step ((first | (go_at_call 81; (with_reducible exact call_quiet (rWithin_any _ unit _))))))); refine wpQuiet_nil ?_; rintro _ ⟨u, rfl⟩))
          go_ret
          exact ⟨ret_int (by rw [show a.okB l = false by simp [Arc.okB, dirB, h]]; rfl), (by repeat (first | with_reducible exact Grew.refl _ | with_reducible apply Grew.alloc | with_reducible apply Grew.later | with_reducible apply Grew.drew | with_reducible apply Grew.store | with_reducible assumption))⟩
        · go_wp2_with (first | (go_at_call 81; (with_reducible refine call_later (rWithin_any _ unit _) ?_); intro u) | ((with_reducible refine wp_region_later ?_ ?_ ?_); (· kernel_rfl); (· kernel_rfl); (repeat (go_big_quiet_step ((first | (go_at_call 81; (with_reducible exact call_quiet (rWithin_any _ unit _))))))); refine wpQuiet_nil ?_; rintro _ ⟨u, rfl⟩))
          go_roundw
          case rel => exact ⟨0 + 1, rfl, by omega, fun j hj => by rcases Nat.lt_succ_iff_lt_or_eq.1 hj with hj | rfl; exact Hall.out j hj; exact h, (by repeat (first | with_reducible exact Grew.refl _ | with_reducible apply Grew.alloc | with_reducible apply Grew.later | with_reducible apply Grew.drew | with_reducible apply Grew.store | with_reducible assumption))⟩
          case measure => simp [intOf]
      · cases h : (a.dir.y).inB unit
        · go_wp2_with (first | (go_at_call 81; (with_reducible refine call_later (rWithin_any _ unit _) ?_); intro u) | ((with_reducible refine wp_region_later ?_ ?_ ?_); (· kernel_rfl); (· kernel_rfl); (repeat (go_big_quiet_step ((first | (go_at_call 81; (with_reducible exact call_quiet (rWithin_any _ unit _))))))); refine wpQuiet_nil ?_; rintro _ ⟨u, rfl⟩))
          go_ret
          exact ⟨ret_int (by rw [show a.okB l = false by simp [Arc.okB, dirB, h]]; rfl), (by repeat (first | with_reducible exact Grew.refl _ | with_reducible apply Grew.alloc | with_reducible apply Grew.later | with_reducible apply Grew.drew | with_reducible apply Grew.store | with_reducible assumption))⟩
        · go_wp2_with (first | (go_at_call 81; (with_reducible refine call_later (rWithin_any _ unit _) ?_); intro u) | ((with_reducible refine wp_region_later ?_ ?_ ?_); (· kernel_rfl); (· kernel_rfl); (repeat (go_big_quiet_step ((first | (go_at_call 81; (with_reducible exact call_quiet (rWithin_any _ unit _))))))); refine wpQuiet_nil ?_; rintro _ ⟨u, rfl⟩))
          go_roundw
          case rel => exact ⟨1 + 1, rfl, by omega, fun j hj => by rcases Nat.lt_succ_iff_lt_or_eq.1 hj with hj | rfl; exact Hall.out j hj; exact h, (by repeat (first | with_reducible exact Grew.refl _ | with_reducible apply Grew.alloc | with_reducible apply Grew.later | with_reducible apply Grew.drew | with_reducible apply Grew.store | with_reducible assumption))⟩
          case measure => simp [intOf]
      · cases h : (a.dir.z).inB unit
        · go_wp2_with (first | (go_at_call 81; (with_reducible refine call_later (rWithin_any _ unit _) ?_); intro u) | ((with_reducible refine wp_region_later ?_ ?_ ?_); (· kernel_rfl); (· kernel_rfl); (repeat (go_big_quiet_step ((first | (go_at_call 81; (with_reducible exact call_quiet (rWithin_any _ unit _))))))); refine wpQuiet_nil ?_; rintro _ ⟨u, rfl⟩))
          go_ret
          exact ⟨ret_int (by rw [show a.okB l = false by simp [Arc.okB, dirB, h]]; rfl), (by repeat (first | with_reducible exact Grew.refl _ | with_reducible apply Grew.alloc | with_reducible apply Grew.later | with_reducible apply Grew.drew | with_reducible apply Grew.store | with_reducible assumption))⟩
        · go_wp2_with (first | (go_at_call 81; (with_reducible refine call_later (rWithin_any _ unit _) ?_); intro u) | ((with_reducible refine wp_region_later ?_ ?_ ?_); (· kernel_rfl); (· kernel_rfl); (repeat (go_big_quiet_step ((first | (go_at_call 81; (with_reducible exact call_quiet (rWithin_any _ unit _))))))); refine wpQuiet_nil ?_; rintro _ ⟨u, rfl⟩))
          go_roundw
          case rel => exact ⟨2 + 1, rfl, by omega, fun j hj => by rcases Nat.lt_succ_iff_lt_or_eq.1 hj with hj | rfl; exact Hall.out j hj; exact h, (by repeat (first | with_reducible exact Grew.refl _ | with_reducible apply Grew.alloc | with_reducible apply Grew.later | with_reducible apply Grew.drew | with_reducible apply Grew.store | with_reducible assumption))⟩
          case measure => simp [intOf]
    · obtain rfl : k = 3 := by omega
      rw [show ((3 : Nat) : Int) = 3 from rfl]
      have Hdir := Lib.hid (show dirB a.dir = true by
        have h0 := Hall.out 0 (by omega)
        have h1 := Hall.out 1 (by omega)
        have h2 := Hall.out 2 (by omega)
        simp only [Bx.at] at h0 h1 h2
        simp [dirB, h0, h1, h2])
      clear Hall
      have hfin : a.okB l = ((a.thrust.leastB 0 && a.flow.leastB 0 && a.drop.leastB 0) && decide (1 ≤ a.time) && decide (1 ≤ a.step) && dragB l) := by
        simp [Arc.okB, Hdir.out, forcesB, Bool.and_assoc]
      have Hfin := Lib.hid hfin
      clear hfin Hdir
      have hdrag : (a.drag.n = 0 ∧ dragB l = true) ∨ (0 < a.drag.n ∧ dragB l = tableB l) := by
        have := Hn.out
        cases l with
        | nil => left; simp at this; exact ⟨this, rfl⟩
        | cons _ _ => right; simp at this; exact ⟨by omega, rfl⟩
      rcases hdrag with ⟨hz, hdr⟩ | ⟨hz, hdr⟩
      · have hz' : ((a.drag.n : Int) == 0) = true := by simp [hz]
        have Hdr := Lib.hid hdr
        clear hdr hz
        rcases bool_or (a.thrust.leastB 0) with h1 | h1
        · go_wp2_with (first | (go_at_call 82; (with_reducible refine call_later (r3Least_any _ _ _) ?_); intro u) | ((with_reducible refine wp_region_later ?_ ?_ ?_); (· kernel_rfl); (· kernel_rfl); (repeat (go_big_quiet_step ((first | (go_at_call 82; (with_reducible exact call_quiet (r3Least_any _ _ _))))))); refine wpQuiet_nil ?_; rintro _ ⟨u, rfl⟩))
          all_goals go_ret
          all_goals exact ⟨ret_int (by rw [Hfin.out, Hdr.out]; clear Hfin Hdr Hd Hn; (first | exact Eq.symm (codeB_eqc (by first | (simp [*]; done) | (simp [*]; omega))) | exact Eq.symm (codeB_eq0 (by first | (simp [*]; done) | (simp [*]; omega))))), (by repeat (first | with_reducible exact Grew.refl _ | with_reducible apply Grew.alloc | with_reducible apply Grew.later | with_reducible apply Grew.drew | with_reducible apply Grew.store | with_reducible assumption))⟩
        · skip
          rcases bool_or (a.flow.leastB 0) with h2 | h2
          · go_wp2_with (first | (go_at_call 82; (with_reducible refine call_later (r3Least_any _ _ _) ?_); intro u) | ((with_reducible refine wp_region_later ?_ ?_ ?_); (· kernel_rfl); (· kernel_rfl); (repeat (go_big_quiet_step ((first | (go_at_call 82; (with_reducible exact call_quiet (r3Least_any _ _ _))))))); refine wpQuiet_nil ?_; rintro _ ⟨u, rfl⟩))
            all_goals go_ret
            all_goals exact ⟨ret_int (by rw [Hfin.out, Hdr.out]; clear Hfin Hdr Hd Hn; (first | exact Eq.symm (codeB_eqc (by first | (simp [*]; done) | (simp [*]; omega))) | exact Eq.symm (codeB_eq0 (by first | (simp [*]; done) | (simp [*]; omega))))), (by repeat (first | with_reducible exact Grew.refl _ | with_reducible apply Grew.alloc | with_reducible apply Grew.later | with_reducible apply Grew.drew | with_reducible apply Grew.store | with_reducible assumption))⟩
          · skip
            rcases bool_or (a.drop.leastB 0) with h3 | h3
            · go_wp2_with (first | (go_at_call 82; (with_reducible refine call_later (r3Least_any _ _ _) ?_); intro u) | ((with_reducible refine wp_region_later ?_ ?_ ?_); (· kernel_rfl); (· kernel_rfl); (repeat (go_big_quiet_step ((first | (go_at_call 82; (with_reducible exact call_quiet (r3Least_any _ _ _))))))); refine wpQuiet_nil ?_; rintro _ ⟨u, rfl⟩))
              all_goals go_ret
              all_goals exact ⟨ret_int (by rw [Hfin.out, Hdr.out]; clear Hfin Hdr Hd Hn; (first | exact Eq.symm (codeB_eqc (by first | (simp [*]; done) | (simp [*]; omega))) | exact Eq.symm (codeB_eq0 (by first | (simp [*]; done) | (simp [*]; omega))))), (by repeat (first | with_reducible exact Grew.refl _ | with_reducible apply Grew.alloc | with_reducible apply Grew.later | with_reducible apply Grew.drew | with_reducible apply Grew.store | with_reducible assumption))⟩
            · skip
              go_wp2_with (first | (go_at_call 82; (with_reducible refine call_later (r3Least_any _ _ _) ?_); intro u) | ((with_reducible refine wp_region_later ?_ ?_ ?_); (· kernel_rfl); (· kernel_rfl); (repeat (go_big_quiet_step ((first | (go_at_call 82; (with_reducible exact call_quiet (r3Least_any _ _ _))))))); refine wpQuiet_nil ?_; rintro _ ⟨u, rfl⟩))
              all_goals go_ret
              all_goals exact ⟨ret_int (by rw [Hfin.out, Hdr.out]; clear Hfin Hdr Hd Hn; (first | exact Eq.symm (codeB_eqc (by first | (simp [*]; done) | (simp [*]; omega))) | exact Eq.symm (codeB_eq0 (by first | (simp [*]; done) | (simp [*]; omega))))), (by repeat (first | with_reducible exact Grew.refl _ | with_reducible apply Grew.alloc | with_reducible apply Grew.later | with_reducible apply Grew.drew | with_reducible apply Grew.store | with_reducible assumption))⟩
      · have hz' : ((a.drag.n : Int) == 0) = false := by rw [beq_eq_false_iff_ne]; omega
        have Hdr := Lib.hid hdr
        clear hdr hz
        rcases bool_or (a.thrust.leastB 0) with h1 | h1
        · go_wp2_with (first | (go_at_call 82; (with_reducible refine call_later (r3Least_any _ _ _) ?_); intro u) | (go_at_call 83; (with_reducible refine call_later (rTable_drag a l _ (Hd.out.grew (by repeat (first | with_reducible exact Grew.refl _ | with_reducible apply Grew.alloc | with_reducible apply Grew.later | with_reducible apply Grew.drew | with_reducible apply Grew.store | with_reducible assumption)))) ?_); intro u) | ((with_reducible refine wp_region_later ?_ ?_ ?_); (· kernel_rfl); (· kernel_rfl); (repeat (go_big_quiet_step ((first | (go_at_call 82; (with_reducible exact call_quiet (r3Least_any _ _ _))) | (go_at_call 83; (with_reducible exact call_quiet (rTable_drag a l _ (Hd.out.grew (by repeat (first | with_reducible exact Grew.refl _ | with_reducible apply Grew.alloc | with_reducible apply Grew.later | with_reducible apply Grew.drew | with_reducible apply Grew.store | with_reducible assumption)))))))))); refine wpQuiet_nil ?_; rintro _ ⟨u, rfl⟩))
          all_goals go_ret
          all_goals exact ⟨ret_int (by rw [Hfin.out, Hdr.out]; clear Hfin Hdr Hd Hn; (first | exact Eq.symm (codeB_eqc (by first | (simp [*]; done) | (simp [*]; omega))) | exact Eq.symm (codeB_eq0 (by first | (simp [*]; done) | (simp [*]; omega))))), (by repeat (first | with_reducible exact Grew.refl _ | with_reducible apply Grew.alloc | with_reducible apply Grew.later | with_reducible apply Grew.drew | with_reducible apply Grew.store | with_reducible assumption))⟩
        · skip
          rcases bool_or (a.flow.leastB 0) with h2 | h2
          · go_wp2_with (first | (go_at_call 82; (with_reducible refine call_later (r3Least_any _ _ _) ?_); intro u) | (go_at_call 83; (with_reducible refine call_later (rTable_drag a l _ (Hd.out.grew (by repeat (first | with_reducible exact Grew.refl _ | with_reducible apply Grew.alloc | with_reducible apply Grew.later | with_reducible apply Grew.drew | with_reducible apply Grew.store | with_reducible assumption)))) ?_); intro u) | ((with_reducible refine wp_region_later ?_ ?_ ?_); (· kernel_rfl); (· kernel_rfl); (repeat (go_big_quiet_step ((first | (go_at_call 82; (with_reducible exact call_quiet (r3Least_any _ _ _))) | (go_at_call 83; (with_reducible exact call_quiet (rTable_drag a l _ (Hd.out.grew (by repeat (first | with_reducible exact Grew.refl _ | with_reducible apply Grew.alloc | with_reducible apply Grew.later | with_reducible apply Grew.drew | with_reducible apply Grew.store | with_reducible assumption)))))))))); refine wpQuiet_nil ?_; rintro _ ⟨u, rfl⟩))
            all_goals go_ret
            all_goals exact ⟨ret_int (by rw [Hfin.out, Hdr.out]; clear Hfin Hdr Hd Hn; (first | exact Eq.symm (codeB_eqc (by first | (simp [*]; done) | (simp [*]; omega))) | exact Eq.symm (codeB_eq0 (by first | (simp [*]; done) | (simp [*]; omega))))), (by repeat (first | with_reducible exact Grew.refl _ | with_reducible apply Grew.alloc | with_reducible apply Grew.later | with_reducible apply Grew.drew | with_reducible apply Grew.store | with_reducible assumption))⟩
          · skip
            rcases bool_or (a.drop.leastB 0) with h3 | h3
            · go_wp2_with (first | (go_at_call 82; (with_reducible refine call_later (r3Least_any _ _ _) ?_); intro u) | (go_at_call 83; (with_reducible refine call_later (rTable_drag a l _ (Hd.out.grew (by repeat (first | with_reducible exact Grew.refl _ | with_reducible apply Grew.alloc | with_reducible apply Grew.later | with_reducible apply Grew.drew | with_reducible apply Grew.store | with_reducible assumption)))) ?_); intro u) | ((with_reducible refine wp_region_later ?_ ?_ ?_); (· kernel_rfl); (· kernel_rfl); (repeat (go_big_quiet_step ((first | (go_at_call 82; (with_reducible exact call_quiet (r3Least_any _ _ _))) | (go_at_call 83; (with_reducible exact call_quiet (rTable_drag a l _ (Hd.out.grew (by repeat (first | with_reducible exact Grew.refl _ | with_reducible apply Grew.alloc | with_reducible apply Grew.later | with_reducible apply Grew.drew | with_reducible apply Grew.store | with_reducible assumption)))))))))); refine wpQuiet_nil ?_; rintro _ ⟨u, rfl⟩))
              all_goals go_ret
              all_goals exact ⟨ret_int (by rw [Hfin.out, Hdr.out]; clear Hfin Hdr Hd Hn; (first | exact Eq.symm (codeB_eqc (by first | (simp [*]; done) | (simp [*]; omega))) | exact Eq.symm (codeB_eq0 (by first | (simp [*]; done) | (simp [*]; omega))))), (by repeat (first | with_reducible exact Grew.refl _ | with_reducible apply Grew.alloc | with_reducible apply Grew.later | with_reducible apply Grew.drew | with_reducible apply Grew.store | with_reducible assumption))⟩
            · skip
              rcases bool_or (tableB l) with h4 | h4
              · go_wp2_with (first | (go_at_call 82; (with_reducible refine call_later (r3Least_any _ _ _) ?_); intro u) | (go_at_call 83; (with_reducible refine call_later (rTable_drag a l _ (Hd.out.grew (by repeat (first | with_reducible exact Grew.refl _ | with_reducible apply Grew.alloc | with_reducible apply Grew.later | with_reducible apply Grew.drew | with_reducible apply Grew.store | with_reducible assumption)))) ?_); intro u) | ((with_reducible refine wp_region_later ?_ ?_ ?_); (· kernel_rfl); (· kernel_rfl); (repeat (go_big_quiet_step ((first | (go_at_call 82; (with_reducible exact call_quiet (r3Least_any _ _ _))) | (go_at_call 83; (with_reducible exact call_quiet (rTable_drag a l _ (Hd.out.grew (by repeat (first | with_reducible exact Grew.refl _ | with_reducible apply Grew.alloc | with_reducible apply Grew.later | with_reducible apply Grew.drew | with_reducible apply Grew.store | with_reducible assumption)))))))))); refine wpQuiet_nil ?_; rintro _ ⟨u, rfl⟩))
                all_goals go_ret
                all_goals exact ⟨ret_int (by rw [Hfin.out, Hdr.out]; clear Hfin Hdr Hd Hn; (first | exact Eq.symm (codeB_eqc (by first | (simp [*]; done) | (simp [*]; omega))) | exact Eq.symm (codeB_eq0 (by first | (simp [*]; done) | (simp [*]; omega))))), (by repeat (first | with_reducible exact Grew.refl _ | with_reducible apply Grew.alloc | with_reducible apply Grew.later | with_reducible apply Grew.drew | with_reducible apply Grew.store | with_reducible assumption))⟩
              · skip
                go_wp2_with (first | (go_at_call 82; (with_reducible refine call_later (r3Least_any _ _ _) ?_); intro u) | (go_at_call 83; (with_reducible refine call_later (rTable_drag a l _ (Hd.out.grew (by repeat (first | with_reducible exact Grew.refl _ | with_reducible apply Grew.alloc | with_reducible apply Grew.later | with_reducible apply Grew.drew | with_reducible apply Grew.store | with_reducible assumption)))) ?_); intro u) | ((with_reducible refine wp_region_later ?_ ?_ ?_); (· kernel_rfl); (· kernel_rfl); (repeat (go_big_quiet_step ((first | (go_at_call 82; (with_reducible exact call_quiet (r3Least_any _ _ _))) | (go_at_call 83; (with_reducible exact call_quiet (rTable_drag a l _ (Hd.out.grew (by repeat (first | with_reducible exact Grew.refl _ | with_reducible apply Grew.alloc | with_reducible apply Grew.later | with_reducible apply Grew.drew | with_reducible apply Grew.store | with_reducible assumption)))))))))); refine wpQuiet_nil ?_; rintro _ ⟨u, rfl⟩))
                all_goals go_ret
                all_goals exact ⟨ret_int (by rw [Hfin.out, Hdr.out]; clear Hfin Hdr Hd Hn; (first | exact Eq.symm (codeB_eqc (by first | (simp [*]; done) | (simp [*]; omega))) | exact Eq.symm (codeB_eq0 (by first | (simp [*]; done) | (simp [*]; omega))))), (by repeat (first | with_reducible exact Grew.refl _ | with_reducible apply Grew.alloc | with_reducible apply Grew.later | with_reducible apply Grew.drew | with_reducible apply Grew.store | with_reducible assumption))⟩

def stepsZ (a : Arc) : Int := (a.time - 1) / a.step + 1
def stepsCode (a : Arc) (l : List Pt) : Int := if a.okB l = true then (if stepsZ a ≤ 4096 then 0 else 3) else 2
def stepsNum (a : Arc) (l : List Pt) : Int := if stepsCode a l = 0 then stepsZ a else 0
theorem steps_bd (a : Arc) (h1 : 1 ≤ a.time) (h2 : 1 ≤ a.step) : 1 ≤ stepsZ a ∧ stepsZ a ≤ a.time := by
  unfold stepsZ
  have h3 : 0 ≤ (a.time - 1) / a.step := Int.ediv_nonneg (by omega) (by omega)
  have h4 : (a.time - 1) / a.step ≤ a.time - 1 := Int.ediv_le_self _ (by omega)
  omega
theorem steps_ceil (t s : Int) (h2 : 1 ≤ s) : (t - 1) / s + 1 = if t % s = 0 then t / s else t / s + 1 := by
  have e := Int.mul_ediv_add_emod t s
  have n1 := Int.emod_nonneg t (show s ≠ 0 by omega)
  have n2 := Int.emod_lt_of_pos t (show 0 < s by omega)
  split
  · rename_i h
    have : t - 1 = (s - 1) + s * (t / s - 1) := by rw [Int.mul_sub]; omega
    rw [this, Int.add_mul_ediv_left _ _ (by omega), Int.ediv_eq_zero_of_lt (by omega) (by omega)]
    omega
  · rename_i h
    have : t - 1 = (t % s - 1) + s * (t / s) := by omega
    rw [this, Int.add_mul_ediv_left _ _ (by omega), Int.ediv_eq_zero_of_lt (by omega) (by omega)]
    omega
theorem arc_pos {a : Arc} {l : List Pt} (h : a.okB l = true) : 1 ≤ a.time ∧ 1 ≤ a.step := by
  simp only [Arc.okB, Bool.and_eq_true, decide_eq_true_eq] at h
  exact ⟨h.1.1.2, h.1.2⟩
theorem flSteps_any (a : Arc) (l : List Pt) (w : World) (hd : DragAt w a l) (ht : a.time ≤ 9223372036854775807) (hs : a.step ≤ 9223372036854775807) : Calls Try.prog 65 #[.agg #[.int .i64 a.time, .int .i64 a.step, .int .i64 a.thrust.lo, .int .i64 a.thrust.hi, .int .i64 a.flow.lo, .int .i64 a.flow.hi, .int .i64 a.dir.x.lo, .int .i64 a.dir.x.hi, .int .i64 a.dir.y.lo, .int .i64 a.dir.y.hi, .int .i64 a.dir.z.lo, .int .i64 a.dir.z.hi, .slice a.drag.ao a.drag.n a.drag.cap, .int .i64 a.drop.lo, .int .i64 a.drop.hi]] w fun e w' => e = .returned (.tuple #[.int .i64 (stepsNum a l), .int .i64 (stepsCode a l)]) ∧ Grew w w' := by
  have Hd := Lib.hid hd
  clear hd
  cases h : a.okB l
  · go_enter Try.func65, Try.ntmps65
    go_wp2_with (first | (go_at_call 64; (with_reducible refine call_later (flArc_any a l _ (Hd.out.grew (by repeat (first | with_reducible exact Grew.refl _ | with_reducible apply Grew.alloc | with_reducible apply Grew.later | with_reducible apply Grew.drew | with_reducible apply Grew.store | with_reducible assumption)))) ?_); intro u) | ((with_reducible refine wp_region_later ?_ ?_ ?_); (· kernel_rfl); (· kernel_rfl); (repeat (go_big_quiet_step ((first | (go_at_call 64; (with_reducible exact call_quiet (flArc_any a l _ (Hd.out.grew (by repeat (first | with_reducible exact Grew.refl _ | with_reducible apply Grew.alloc | with_reducible apply Grew.later | with_reducible apply Grew.drew | with_reducible apply Grew.store | with_reducible assumption)))))))))); refine wpQuiet_nil ?_; rintro _ ⟨u, rfl⟩))
    go_ret2
    have hc : stepsCode a l = 2 := by simp [stepsCode, h]
    exact ⟨ret_two (by rw [show stepsNum a l = 0 by simp [stepsNum, hc]]) (by rw [hc]), (by repeat (first | with_reducible exact Grew.refl _ | with_reducible apply Grew.alloc | with_reducible apply Grew.later | with_reducible apply Grew.drew | with_reducible apply Grew.store | with_reducible assumption))⟩
  · have hp := arc_pos h
    obtain ⟨hp1, hp2⟩ := hp
    have hb := steps_bd a hp1 hp2
    obtain ⟨hb1, hb2⟩ := hb
    unfold stepsZ at hb1 hb2
    by_cases hl : (a.time - 1) / a.step + 1 ≤ 4096
    · go_enter Try.func65, Try.ntmps65
      go_wp2_with (first | (go_at_call 64; (with_reducible refine call_later (flArc_any a l _ (Hd.out.grew (by repeat (first | with_reducible exact Grew.refl _ | with_reducible apply Grew.alloc | with_reducible apply Grew.later | with_reducible apply Grew.drew | with_reducible apply Grew.store | with_reducible assumption)))) ?_); intro u) | ((with_reducible refine wp_region_later ?_ ?_ ?_); (· kernel_rfl); (· kernel_rfl); (repeat (go_big_quiet_step ((first | (go_at_call 64; (with_reducible exact call_quiet (flArc_any a l _ (Hd.out.grew (by repeat (first | with_reducible exact Grew.refl _ | with_reducible apply Grew.alloc | with_reducible apply Grew.later | with_reducible apply Grew.drew | with_reducible apply Grew.store | with_reducible assumption)))))))))); refine wpQuiet_nil ?_; rintro _ ⟨u, rfl⟩))
      go_ret2
      have hc : stepsCode a l = 0 := by rw [stepsCode, if_pos h, if_pos (by unfold stepsZ; omega)]
      exact ⟨ret_two (by rw [show stepsNum a l = stepsZ a by simp [stepsNum, hc]]; rfl) (by rw [hc]), (by repeat (first | with_reducible exact Grew.refl _ | with_reducible apply Grew.alloc | with_reducible apply Grew.later | with_reducible apply Grew.drew | with_reducible apply Grew.store | with_reducible assumption))⟩
    · go_enter Try.func65, Try.ntmps65
      go_wp2_with (first | (go_at_call 64; (with_reducible refine call_later (flArc_any a l _ (Hd.out.grew (by repeat (first | with_reducible exact Grew.refl _ | with_reducible apply Grew.alloc | with_reducible apply Grew.later | with_reducible apply Grew.drew | with_reducible apply Grew.store | with_reducible assumption)))) ?_); intro u) | ((with_reducible refine wp_region_later ?_ ?_ ?_); (· kernel_rfl); (· kernel_rfl); (repeat (go_big_quiet_step ((first | (go_at_call 64; (with_reducible exact call_quiet (flArc_any a l _ (Hd.out.grew (by repeat (first | with_reducible exact Grew.refl _ | with_reducible apply Grew.alloc | with_reducible apply Grew.later | with_reducible apply Grew.drew | with_reducible apply Grew.store | with_reducible assumption)))))))))); refine wpQuiet_nil ?_; rintro _ ⟨u, rfl⟩))
      go_ret2
      have hc : stepsCode a l = 3 := by rw [stepsCode, if_pos h, if_neg (by unfold stepsZ; omega)]
      exact ⟨ret_two (by rw [show stepsNum a l = 0 by simp [stepsNum, hc]]) (by rw [hc]), (by repeat (first | with_reducible exact Grew.refl _ | with_reducible apply Grew.alloc | with_reducible apply Grew.later | with_reducible apply Grew.drew | with_reducible apply Grew.store | with_reducible assumption))⟩
theorem r3Steps_any (a : Arc) (l : List Pt) (w : World) (hd : DragAt w a l) (ht : a.time ≤ 9223372036854775807) (hs : a.step ≤ 9223372036854775807) : Calls Try.prog 36 #[.agg #[.int .i64 a.time, .int .i64 a.step, .int .i64 a.thrust.lo, .int .i64 a.thrust.hi, .int .i64 a.flow.lo, .int .i64 a.flow.hi, .int .i64 a.dir.x.lo, .int .i64 a.dir.x.hi, .int .i64 a.dir.y.lo, .int .i64 a.dir.y.hi, .int .i64 a.dir.z.lo, .int .i64 a.dir.z.hi, .slice a.drag.ao a.drag.n a.drag.cap, .int .i64 a.drop.lo, .int .i64 a.drop.hi]] w fun e w' => e = .returned (.tuple #[.int .i64 (stepsNum a l), .int .i64 (stepsCode a l)]) ∧ Grew w w' := by
  have Hd := Lib.hid hd
  clear hd
  cases h : a.okB l
  · go_enter Try.func36, Try.ntmps36
    go_wp2_with (first | (go_at_call 61; (with_reducible refine call_later (r3Arc_any a l _ (Hd.out.grew (by repeat (first | with_reducible exact Grew.refl _ | with_reducible apply Grew.alloc | with_reducible apply Grew.later | with_reducible apply Grew.drew | with_reducible apply Grew.store | with_reducible assumption)))) ?_); intro u) | ((with_reducible refine wp_region_later ?_ ?_ ?_); (· kernel_rfl); (· kernel_rfl); (repeat (go_big_quiet_step ((first | (go_at_call 61; (with_reducible exact call_quiet (r3Arc_any a l _ (Hd.out.grew (by repeat (first | with_reducible exact Grew.refl _ | with_reducible apply Grew.alloc | with_reducible apply Grew.later | with_reducible apply Grew.drew | with_reducible apply Grew.store | with_reducible assumption)))))))))); refine wpQuiet_nil ?_; rintro _ ⟨u, rfl⟩))
    go_ret2
    have hc : stepsCode a l = 2 := by simp [stepsCode, h]
    exact ⟨ret_two (by rw [show stepsNum a l = 0 by simp [stepsNum, hc]]) (by rw [hc]), (by repeat (first | with_reducible exact Grew.refl _ | with_reducible apply Grew.alloc | with_reducible apply Grew.later | with_reducible apply Grew.drew | with_reducible apply Grew.store | with_reducible assumption))⟩
  · have hp := arc_pos h
    obtain ⟨hp1, hp2⟩ := hp
    have hb := steps_bd a hp1 hp2
    obtain ⟨hb1, hb2⟩ := hb
    have he := steps_ceil a.time a.step hp2
    have hq0 : 0 ≤ a.time / a.step := Int.ediv_nonneg (by omega) (by omega)
    have hq1 : a.time / a.step ≤ a.time := Int.ediv_le_self _ (by omega)
    rcases prop_or (a.time % a.step = 0) with hr | hr
    · rw [if_neg hr] at he
      have He := Lib.hid (show stepsZ a = a.time / a.step + 1 from he)
      have hq2 : a.time / a.step + 1 ≤ a.time := by rw [← He.out]; exact hb2
      clear he hb1 hb2
      by_cases hl : a.time / a.step + 1 ≤ 4096
      · go_enter Try.func36, Try.ntmps36
        go_wp2_with (first | (go_at_call 61; (with_reducible refine call_later (r3Arc_any a l _ (Hd.out.grew (by repeat (first | with_reducible exact Grew.refl _ | with_reducible apply Grew.alloc | with_reducible apply Grew.later | with_reducible apply Grew.drew | with_reducible apply Grew.store | with_reducible assumption)))) ?_); intro u) | ((with_reducible refine wp_region_later ?_ ?_ ?_); (· kernel_rfl); (· kernel_rfl); (repeat (go_big_quiet_step ((first | (go_at_call 61; (with_reducible exact call_quiet (r3Arc_any a l _ (Hd.out.grew (by repeat (first | with_reducible exact Grew.refl _ | with_reducible apply Grew.alloc | with_reducible apply Grew.later | with_reducible apply Grew.drew | with_reducible apply Grew.store | with_reducible assumption)))))))))); refine wpQuiet_nil ?_; rintro _ ⟨u, rfl⟩))
        go_ret2
        have hc : stepsCode a l = 0 := by rw [stepsCode, if_pos h, if_pos (by rw [He.out]; omega)]
        exact ⟨ret_two (by rw [show stepsNum a l = stepsZ a by simp [stepsNum, hc], He.out]) (by rw [hc]), (by repeat (first | with_reducible exact Grew.refl _ | with_reducible apply Grew.alloc | with_reducible apply Grew.later | with_reducible apply Grew.drew | with_reducible apply Grew.store | with_reducible assumption))⟩
      · go_enter Try.func36, Try.ntmps36
        go_wp2_with (first | (go_at_call 61; (with_reducible refine call_later (r3Arc_any a l _ (Hd.out.grew (by repeat (first | with_reducible exact Grew.refl _ | with_reducible apply Grew.alloc | with_reducible apply Grew.later | with_reducible apply Grew.drew | with_reducible apply Grew.store | with_reducible assumption)))) ?_); intro u) | ((with_reducible refine wp_region_later ?_ ?_ ?_); (· kernel_rfl); (· kernel_rfl); (repeat (go_big_quiet_step ((first | (go_at_call 61; (with_reducible exact call_quiet (r3Arc_any a l _ (Hd.out.grew (by repeat (first | with_reducible exact Grew.refl _ | with_reducible apply Grew.alloc | with_reducible apply Grew.later | with_reducible apply Grew.drew | with_reducible apply Grew.store | with_reducible assumption)))))))))); refine wpQuiet_nil ?_; rintro _ ⟨u, rfl⟩))
        go_ret2
        have hc : stepsCode a l = 3 := by rw [stepsCode, if_pos h, if_neg (by rw [He.out]; omega)]
        exact ⟨ret_two (by rw [show stepsNum a l = 0 by simp [stepsNum, hc]]) (by rw [hc]), (by repeat (first | with_reducible exact Grew.refl _ | with_reducible apply Grew.alloc | with_reducible apply Grew.later | with_reducible apply Grew.drew | with_reducible apply Grew.store | with_reducible assumption))⟩
    · rw [if_pos hr] at he
      have He := Lib.hid (show stepsZ a = a.time / a.step from he)
      clear he hb1 hb2
      have hr' : (a.time % a.step != 0) = false := by simp [hr]
      clear hr
      by_cases hl : a.time / a.step ≤ 4096
      · go_enter Try.func36, Try.ntmps36
        go_wp2_with (first | (go_at_call 61; (with_reducible refine call_later (r3Arc_any a l _ (Hd.out.grew (by repeat (first | with_reducible exact Grew.refl _ | with_reducible apply Grew.alloc | with_reducible apply Grew.later | with_reducible apply Grew.drew | with_reducible apply Grew.store | with_reducible assumption)))) ?_); intro u) | ((with_reducible refine wp_region_later ?_ ?_ ?_); (· kernel_rfl); (· kernel_rfl); (repeat (go_big_quiet_step ((first | (go_at_call 61; (with_reducible exact call_quiet (r3Arc_any a l _ (Hd.out.grew (by repeat (first | with_reducible exact Grew.refl _ | with_reducible apply Grew.alloc | with_reducible apply Grew.later | with_reducible apply Grew.drew | with_reducible apply Grew.store | with_reducible assumption)))))))))); refine wpQuiet_nil ?_; rintro _ ⟨u, rfl⟩))
        go_ret2
        have hc : stepsCode a l = 0 := by rw [stepsCode, if_pos h, if_pos (by rw [He.out]; omega)]
        exact ⟨ret_two (by rw [show stepsNum a l = stepsZ a by simp [stepsNum, hc], He.out]) (by rw [hc]), (by repeat (first | with_reducible exact Grew.refl _ | with_reducible apply Grew.alloc | with_reducible apply Grew.later | with_reducible apply Grew.drew | with_reducible apply Grew.store | with_reducible assumption))⟩
      · go_enter Try.func36, Try.ntmps36
        go_wp2_with (first | (go_at_call 61; (with_reducible refine call_later (r3Arc_any a l _ (Hd.out.grew (by repeat (first | with_reducible exact Grew.refl _ | with_reducible apply Grew.alloc | with_reducible apply Grew.later | with_reducible apply Grew.drew | with_reducible apply Grew.store | with_reducible assumption)))) ?_); intro u) | ((with_reducible refine wp_region_later ?_ ?_ ?_); (· kernel_rfl); (· kernel_rfl); (repeat (go_big_quiet_step ((first | (go_at_call 61; (with_reducible exact call_quiet (r3Arc_any a l _ (Hd.out.grew (by repeat (first | with_reducible exact Grew.refl _ | with_reducible apply Grew.alloc | with_reducible apply Grew.later | with_reducible apply Grew.drew | with_reducible apply Grew.store | with_reducible assumption)))))))))); refine wpQuiet_nil ?_; rintro _ ⟨u, rfl⟩))
        go_ret2
        have hc : stepsCode a l = 3 := by rw [stepsCode, if_pos h, if_neg (by rw [He.out]; omega)]
        exact ⟨ret_two (by rw [show stepsNum a l = 0 by simp [stepsNum, hc]]) (by rw [hc]), (by repeat (first | with_reducible exact Grew.refl _ | with_reducible apply Grew.alloc | with_reducible apply Grew.later | with_reducible apply Grew.drew | with_reducible apply Grew.store | with_reducible assumption))⟩
end Go.Proofs.Ytgjikdhidakloaa
