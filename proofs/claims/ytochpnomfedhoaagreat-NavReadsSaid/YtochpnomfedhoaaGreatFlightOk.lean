/-
  Contracts: what is valid (flight).
-/
import Derived.Test.YtochpnomfedhoaaGreatTable
namespace Go.Proofs.YtochpnomfedhoaaGreat
open Go.RowKit
set_option maxRecDepth 100000
set_option maxHeartbeats 1000000

theorem flValid_any (n : Int) (w : World) : Calls Tryz.prog 68 #[.int .i64 n] w fun e w' => e = .returned (.bool (numB n)) ∧ Grew w w' := by
  go_enter Tryz.func68, Tryz.ntmps68
  go_wp2
  go_ret
  exact ⟨ret_bool (by unfold numB; simp), Grew.refl _⟩
theorem flSpans_any (l : List Sp) (v : Value) (w : World) (h : SlAt w v l.length (l.flatMap Sp.cells)) : Calls Tryz.prog 69 #[v] w fun e w' => e = .returned (.bool (l.all Sp.okB)) ∧ Grew w w' := by
  obtain ⟨ao, cap, rfl, hm, hc⟩ := h
  unfold maxLen at hm
  have Hc := Lib.hid (SlAt.elem (f := Sp.cells) (c := 2) (fun _ => rfl) (by omega) hc)
  clear hc
  go_enter Tryz.func69, Tryz.ntmps69
  go_wp2
  go_loopw [7] (fun t wr => ∃ k : Nat, t = .int .i64 k ∧ k ≤ l.length ∧ (l.take k).all Sp.okB = true ∧ Grew w wr) (fun t _ => l.length - (intOf t).toNat)
  case atStart => exact ⟨0, rfl, by omega, rfl, Grew.refl _⟩
  case round =>
    obtain ⟨k, rfl, hk, hall, hg⟩ := hrel
    obtain ⟨x, rfl⟩ := later_of hg
    clear hg
    have Hall := Lib.hid hall
    clear hall
    by_cases hlt : k < l.length
    · obtain ⟨b1, o1, rfl, i1, hd1, hd2⟩ := Hc.out k hlt
      have hd1 := hd1 _ rfl
      have hd2 := hd2 1 _ rfl
      have i1 : BlockIn w b1 := ⟨i1⟩
      cases h : l[k].okB
      · go_wp2_with (first | (go_at_call 31; (with_reducible refine call_later (spCheck_any _ _) ?_); intro u) | ((with_reducible refine wp_region_later ?_ ?_ ?_); (· kernel_rfl); (· kernel_rfl); (repeat (go_big_quiet_step ((first | (go_at_call 31; (with_reducible exact call_quiet (spCheck_any _ _))))))); refine wpQuiet_nil ?_; rintro _ ⟨u, rfl⟩))
        go_ret
        exact ⟨ret_bool (by rw [all_false _ _ _ hlt h]), (by repeat (first | with_reducible exact Grew.refl _ | with_reducible apply Grew.alloc | with_reducible apply Grew.later | with_reducible apply Grew.drew | with_reducible apply Grew.store | with_reducible assumption))⟩
      · go_wp2_with (first | (go_at_call 31; (with_reducible refine call_later (spCheck_any _ _) ?_); intro u) | ((with_reducible refine wp_region_later ?_ ?_ ?_); (· kernel_rfl); (· kernel_rfl); (repeat (go_big_quiet_step ((first | (go_at_call 31; (with_reducible exact call_quiet (spCheck_any _ _))))))); refine wpQuiet_nil ?_; rintro _ ⟨u, rfl⟩))
        go_roundw
        case rel => exact ⟨k + 1, by go_num, by omega, all_take_succ _ _ _ hlt Hall.out h, (by repeat (first | with_reducible exact Grew.refl _ | with_reducible apply Grew.alloc | with_reducible apply Grew.later | with_reducible apply Grew.drew | with_reducible apply Grew.store | with_reducible assumption))⟩
        case measure => simp [intOf]; omega
    · go_wp2
      go_ret
      exact ⟨ret_bool (by rw [all_true _ _ _ (by omega) Hall.out]), x.grew⟩
theorem flSpans_one (a : Sp) (v : Value) (w : World) (h : SlAt w v 1 [.int .i64 a.lo, .int .i64 a.hi]) : Calls Tryz.prog 69 #[v] w fun e w' => e = .returned (.bool a.okB) ∧ Grew w w' := by
  have := flSpans_any [a] v w h
  simpa using this
theorem flSpans_box (b : Bx) (v : Value) (w : World) (h : SlAt w v 3 [.int .i64 b.x.lo, .int .i64 b.x.hi, .int .i64 b.y.lo, .int .i64 b.y.hi, .int .i64 b.z.lo, .int .i64 b.z.hi]) : Calls Tryz.prog 69 #[v] w fun e w' => e = .returned (.bool b.okB) ∧ Grew w w' := by
  have := flSpans_any [b.x, b.y, b.z] v w h
  simpa [Bx.okB, Bool.and_assoc] using this
theorem flSpans_four (a b c d : Sp) (v : Value) (w : World) (h : SlAt w v 4 [.int .i64 a.lo, .int .i64 a.hi, .int .i64 b.lo, .int .i64 b.hi, .int .i64 c.lo, .int .i64 c.hi, .int .i64 d.lo, .int .i64 d.hi]) : Calls Tryz.prog 69 #[v] w fun e w' => e = .returned (.bool (a.okB && b.okB && c.okB && d.okB)) ∧ Grew w w' := by
  have := flSpans_any [a, b, c, d] v w h
  simpa [Bool.and_assoc] using this
theorem flBoxes_any (l : List Bx) (v : Value) (w : World) (h : SlAt w v l.length (l.flatMap Bx.cells)) : Calls Tryz.prog 41 #[v] w fun e w' => e = .returned (.bool (l.all Bx.okB)) ∧ Grew w w' := by
  obtain ⟨ao, cap, rfl, hm, hc⟩ := h
  unfold maxLen at hm
  have Hc := Lib.hid (SlAt.elem (f := Bx.cells) (c := 6) (fun _ => rfl) (by omega) hc)
  clear hc
  go_enter Tryz.func41, Tryz.ntmps41
  go_wp2
  go_loopw [7] (fun t wr => ∃ k : Nat, t = .int .i64 k ∧ k ≤ l.length ∧ (l.take k).all Bx.okB = true ∧ Grew w wr) (fun t _ => l.length - (intOf t).toNat)
  case atStart => exact ⟨0, rfl, by omega, rfl, Grew.refl _⟩
  case round =>
    obtain ⟨k, rfl, hk, hall, hg⟩ := hrel
    obtain ⟨x, rfl⟩ := later_of hg
    clear hg
    have Hall := Lib.hid hall
    clear hall
    by_cases hlt : k < l.length
    · obtain ⟨b1, o1, rfl, i1, hd1, hd2⟩ := Hc.out k hlt
      have hc0 := hd1 _ rfl
      have hc1 := hd2 1 _ rfl
      have hc2 := hd2 2 _ rfl
      have hc3 := hd2 3 _ rfl
      have hc4 := hd2 4 _ rfl
      have hc5 := hd2 5 _ rfl
      clear hd1 hd2
      have i1 : BlockIn w b1 := ⟨i1⟩
      cases h : l[k].okB
      · go_wp2_with (first | (go_at_call 69; (with_reducible refine call_later (flSpans_box _ _ _ (SlAt.fresh _ _ _ _ (by simp [maxLen]))) ?_); intro u) | ((with_reducible refine wp_region_later ?_ ?_ ?_); (· kernel_rfl); (· kernel_rfl); (repeat (go_big_quiet_step ((first | (go_at_call 69; (with_reducible exact call_quiet (flSpans_box _ _ _ (SlAt.fresh _ _ _ _ (by simp [maxLen]))))))))); refine wpQuiet_nil ?_; rintro _ ⟨u, rfl⟩))
        go_ret
        exact ⟨ret_bool (by rw [all_false _ _ _ hlt h]), (by repeat (first | with_reducible exact Grew.refl _ | with_reducible apply Grew.alloc | with_reducible apply Grew.later | with_reducible apply Grew.drew | with_reducible apply Grew.store | with_reducible assumption))⟩
      · go_wp2_with (first | (go_at_call 69; (with_reducible refine call_later (flSpans_box _ _ _ (SlAt.fresh _ _ _ _ (by simp [maxLen]))) ?_); intro u) | ((with_reducible refine wp_region_later ?_ ?_ ?_); (· kernel_rfl); (· kernel_rfl); (repeat (go_big_quiet_step ((first | (go_at_call 69; (with_reducible exact call_quiet (flSpans_box _ _ _ (SlAt.fresh _ _ _ _ (by simp [maxLen]))))))))); refine wpQuiet_nil ?_; rintro _ ⟨u, rfl⟩))
        go_roundw
        case rel => exact ⟨k + 1, by go_num, by omega, all_take_succ _ _ _ hlt Hall.out h, (by repeat (first | with_reducible exact Grew.refl _ | with_reducible apply Grew.alloc | with_reducible apply Grew.later | with_reducible apply Grew.drew | with_reducible apply Grew.store | with_reducible assumption))⟩
        case measure => simp [intOf]; omega
    · go_wp2
      go_ret
      exact ⟨ret_bool (by rw [all_true _ _ _ (by omega) Hall.out]), x.grew⟩
theorem flBoxes_one (a : Bx) (v : Value) (w : World) (h : SlAt w v 1 [.int .i64 a.x.lo, .int .i64 a.x.hi, .int .i64 a.y.lo, .int .i64 a.y.hi, .int .i64 a.z.lo, .int .i64 a.z.hi]) : Calls Tryz.prog 41 #[v] w fun e w' => e = .returned (.bool a.okB) ∧ Grew w w' := by
  have := flBoxes_any [a] v w h
  simpa using this
theorem flBoxes_two (a b : Bx) (v : Value) (w : World) (h : SlAt w v 2 [.int .i64 a.x.lo, .int .i64 a.x.hi, .int .i64 a.y.lo, .int .i64 a.y.hi, .int .i64 a.z.lo, .int .i64 a.z.hi, .int .i64 b.x.lo, .int .i64 b.x.hi, .int .i64 b.y.lo, .int .i64 b.y.hi, .int .i64 b.z.lo, .int .i64 b.z.hi]) : Calls Tryz.prog 41 #[v] w fun e w' => e = .returned (.bool (a.okB && b.okB)) ∧ Grew w w' := by
  have := flBoxes_any [a, b] v w h
  simpa using this
theorem flPlanet_any (p : Planet) (w : World) : Calls Tryz.prog 40 #[.agg #[.int .i64 p.mu.lo, .int .i64 p.mu.hi, .int .i64 p.radius.lo, .int .i64 p.radius.hi, .int .i64 p.oblate.lo, .int .i64 p.oblate.hi, .int .i64 p.spin.lo, .int .i64 p.spin.hi, .int .i64 p.pull.x.lo, .int .i64 p.pull.x.hi, .int .i64 p.pull.y.lo, .int .i64 p.pull.y.hi, .int .i64 p.pull.z.lo, .int .i64 p.pull.z.hi]] w fun e w' => e = .returned (.int .i64 (codeB p.okB 2)) ∧ Grew w w' := by
  rcases bool_or (p.pull.okB) with h1 | h1
  · go_enter Tryz.func40, Tryz.ntmps40
    go_wp2_with (first | (go_at_call 41; (with_reducible refine call_later (flBoxes_one p.pull _ _ (SlAt.fresh _ _ _ _ (by simp [maxLen]))) ?_); intro u) | (go_at_call 69; (with_reducible refine call_later (flSpans_four p.mu p.radius p.oblate p.spin _ _ (SlAt.fresh _ _ _ _ (by simp [maxLen]))) ?_); intro u) | ((with_reducible refine wp_region_later ?_ ?_ ?_); (· kernel_rfl); (· kernel_rfl); (repeat (go_big_quiet_step ((first | (go_at_call 41; (with_reducible exact call_quiet (flBoxes_one p.pull _ _ (SlAt.fresh _ _ _ _ (by simp [maxLen]))))) | (go_at_call 69; (with_reducible exact call_quiet (flSpans_four p.mu p.radius p.oblate p.spin _ _ (SlAt.fresh _ _ _ _ (by simp [maxLen]))))))))); refine wpQuiet_nil ?_; rintro _ ⟨u, rfl⟩))
    go_ret
    exact ⟨ret_int (by (first | (rw [show p.okB = true from by simp [Planet.okB, *]]; rfl) | (rw [show p.okB = false from by simp [Planet.okB, *] <;> omega]; rfl) | (rw [show p.okB = true from by simp [Planet.okB, *] <;> omega]; rfl))), (by repeat (first | with_reducible exact Grew.refl _ | with_reducible apply Grew.alloc | with_reducible apply Grew.later | with_reducible apply Grew.drew | with_reducible apply Grew.store | with_reducible assumption))⟩
  · skip
    rcases bool_or ((p.mu.okB && p.radius.okB && p.oblate.okB && p.spin.okB)) with h2 | h2
    · go_enter Tryz.func40, Tryz.ntmps40
      go_wp2_with (first | (go_at_call 41; (with_reducible refine call_later (flBoxes_one p.pull _ _ (SlAt.fresh _ _ _ _ (by simp [maxLen]))) ?_); intro u) | (go_at_call 69; (with_reducible refine call_later (flSpans_four p.mu p.radius p.oblate p.spin _ _ (SlAt.fresh _ _ _ _ (by simp [maxLen]))) ?_); intro u) | ((with_reducible refine wp_region_later ?_ ?_ ?_); (· kernel_rfl); (· kernel_rfl); (repeat (go_big_quiet_step ((first | (go_at_call 41; (with_reducible exact call_quiet (flBoxes_one p.pull _ _ (SlAt.fresh _ _ _ _ (by simp [maxLen]))))) | (go_at_call 69; (with_reducible exact call_quiet (flSpans_four p.mu p.radius p.oblate p.spin _ _ (SlAt.fresh _ _ _ _ (by simp [maxLen]))))))))); refine wpQuiet_nil ?_; rintro _ ⟨u, rfl⟩))
      go_ret
      exact ⟨ret_int (by (first | (rw [show p.okB = true from by simp [Planet.okB, *]]; rfl) | (rw [show p.okB = false from by simp [Planet.okB, *] <;> omega]; rfl) | (rw [show p.okB = true from by simp [Planet.okB, *] <;> omega]; rfl))), (by repeat (first | with_reducible exact Grew.refl _ | with_reducible apply Grew.alloc | with_reducible apply Grew.later | with_reducible apply Grew.drew | with_reducible apply Grew.store | with_reducible assumption))⟩
    · skip
      rcases prop_or (0 ≤ p.mu.lo) with h3 | h3
      · go_enter Tryz.func40, Tryz.ntmps40
        go_wp2_with (first | (go_at_call 41; (with_reducible refine call_later (flBoxes_one p.pull _ _ (SlAt.fresh _ _ _ _ (by simp [maxLen]))) ?_); intro u) | (go_at_call 69; (with_reducible refine call_later (flSpans_four p.mu p.radius p.oblate p.spin _ _ (SlAt.fresh _ _ _ _ (by simp [maxLen]))) ?_); intro u) | ((with_reducible refine wp_region_later ?_ ?_ ?_); (· kernel_rfl); (· kernel_rfl); (repeat (go_big_quiet_step ((first | (go_at_call 41; (with_reducible exact call_quiet (flBoxes_one p.pull _ _ (SlAt.fresh _ _ _ _ (by simp [maxLen]))))) | (go_at_call 69; (with_reducible exact call_quiet (flSpans_four p.mu p.radius p.oblate p.spin _ _ (SlAt.fresh _ _ _ _ (by simp [maxLen]))))))))); refine wpQuiet_nil ?_; rintro _ ⟨u, rfl⟩))
        go_ret
        exact ⟨ret_int (by (first | (rw [show p.okB = true from by simp [Planet.okB, *]]; rfl) | (rw [show p.okB = false from by simp [Planet.okB, *] <;> omega]; rfl) | (rw [show p.okB = true from by simp [Planet.okB, *] <;> omega]; rfl))), (by repeat (first | with_reducible exact Grew.refl _ | with_reducible apply Grew.alloc | with_reducible apply Grew.later | with_reducible apply Grew.drew | with_reducible apply Grew.store | with_reducible assumption))⟩
      · skip
        rcases prop_or (0 ≤ p.radius.lo) with h4 | h4
        · go_enter Tryz.func40, Tryz.ntmps40
          go_wp2_with (first | (go_at_call 41; (with_reducible refine call_later (flBoxes_one p.pull _ _ (SlAt.fresh _ _ _ _ (by simp [maxLen]))) ?_); intro u) | (go_at_call 69; (with_reducible refine call_later (flSpans_four p.mu p.radius p.oblate p.spin _ _ (SlAt.fresh _ _ _ _ (by simp [maxLen]))) ?_); intro u) | ((with_reducible refine wp_region_later ?_ ?_ ?_); (· kernel_rfl); (· kernel_rfl); (repeat (go_big_quiet_step ((first | (go_at_call 41; (with_reducible exact call_quiet (flBoxes_one p.pull _ _ (SlAt.fresh _ _ _ _ (by simp [maxLen]))))) | (go_at_call 69; (with_reducible exact call_quiet (flSpans_four p.mu p.radius p.oblate p.spin _ _ (SlAt.fresh _ _ _ _ (by simp [maxLen]))))))))); refine wpQuiet_nil ?_; rintro _ ⟨u, rfl⟩))
          go_ret
          exact ⟨ret_int (by (first | (rw [show p.okB = true from by simp [Planet.okB, *]]; rfl) | (rw [show p.okB = false from by simp [Planet.okB, *] <;> omega]; rfl) | (rw [show p.okB = true from by simp [Planet.okB, *] <;> omega]; rfl))), (by repeat (first | with_reducible exact Grew.refl _ | with_reducible apply Grew.alloc | with_reducible apply Grew.later | with_reducible apply Grew.drew | with_reducible apply Grew.store | with_reducible assumption))⟩
        · skip
          go_enter Tryz.func40, Tryz.ntmps40
          go_wp2_with (first | (go_at_call 41; (with_reducible refine call_later (flBoxes_one p.pull _ _ (SlAt.fresh _ _ _ _ (by simp [maxLen]))) ?_); intro u) | (go_at_call 69; (with_reducible refine call_later (flSpans_four p.mu p.radius p.oblate p.spin _ _ (SlAt.fresh _ _ _ _ (by simp [maxLen]))) ?_); intro u) | ((with_reducible refine wp_region_later ?_ ?_ ?_); (· kernel_rfl); (· kernel_rfl); (repeat (go_big_quiet_step ((first | (go_at_call 41; (with_reducible exact call_quiet (flBoxes_one p.pull _ _ (SlAt.fresh _ _ _ _ (by simp [maxLen]))))) | (go_at_call 69; (with_reducible exact call_quiet (flSpans_four p.mu p.radius p.oblate p.spin _ _ (SlAt.fresh _ _ _ _ (by simp [maxLen]))))))))); refine wpQuiet_nil ?_; rintro _ ⟨u, rfl⟩))
          go_ret
          exact ⟨ret_int (by (first | (rw [show p.okB = true from by simp [Planet.okB, *]]; rfl) | (rw [show p.okB = false from by simp [Planet.okB, *] <;> omega]; rfl) | (rw [show p.okB = true from by simp [Planet.okB, *] <;> omega]; rfl))), (by repeat (first | with_reducible exact Grew.refl _ | with_reducible apply Grew.alloc | with_reducible apply Grew.later | with_reducible apply Grew.drew | with_reducible apply Grew.store | with_reducible assumption))⟩
theorem flState_any (s : State) (w : World) : Calls Tryz.prog 24 #[.agg #[.int .i64 s.t, .int .i64 s.p.x.lo, .int .i64 s.p.x.hi, .int .i64 s.p.y.lo, .int .i64 s.p.y.hi, .int .i64 s.p.z.lo, .int .i64 s.p.z.hi, .int .i64 s.v.x.lo, .int .i64 s.v.x.hi, .int .i64 s.v.y.lo, .int .i64 s.v.y.hi, .int .i64 s.v.z.lo, .int .i64 s.v.z.hi, .int .i64 s.m.lo, .int .i64 s.m.hi]] w fun e w' => e = .returned (.int .i64 (codeB s.okB 2)) ∧ Grew w w' := by
  rcases bool_or (numB s.t) with h1 | h1
  · go_enter Tryz.func24, Tryz.ntmps24
    go_wp2_with (first | (go_at_call 68; (with_reducible refine call_later (flValid_any _ _) ?_); intro u) | (go_at_call 41; (with_reducible refine call_later (flBoxes_two s.p s.v _ _ (SlAt.fresh _ _ _ _ (by simp [maxLen]))) ?_); intro u) | (go_at_call 69; (with_reducible refine call_later (flSpans_one s.m _ _ (SlAt.fresh _ _ _ _ (by simp [maxLen]))) ?_); intro u) | ((with_reducible refine wp_region_later ?_ ?_ ?_); (· kernel_rfl); (· kernel_rfl); (repeat (go_big_quiet_step ((first | (go_at_call 68; (with_reducible exact call_quiet (flValid_any _ _))) | (go_at_call 41; (with_reducible exact call_quiet (flBoxes_two s.p s.v _ _ (SlAt.fresh _ _ _ _ (by simp [maxLen]))))) | (go_at_call 69; (with_reducible exact call_quiet (flSpans_one s.m _ _ (SlAt.fresh _ _ _ _ (by simp [maxLen]))))))))); refine wpQuiet_nil ?_; rintro _ ⟨u, rfl⟩))
    go_ret
    exact ⟨ret_int (by (first | (rw [show s.okB = true from by simp [State.okB, *]]; rfl) | (rw [show s.okB = false from by simp [State.okB, *] <;> omega]; rfl) | (rw [show s.okB = true from by simp [State.okB, *] <;> omega]; rfl))), (by repeat (first | with_reducible exact Grew.refl _ | with_reducible apply Grew.alloc | with_reducible apply Grew.later | with_reducible apply Grew.drew | with_reducible apply Grew.store | with_reducible assumption))⟩
  · skip
    rcases bool_or ((s.p.okB && s.v.okB)) with h2 | h2
    · go_enter Tryz.func24, Tryz.ntmps24
      go_wp2_with (first | (go_at_call 68; (with_reducible refine call_later (flValid_any _ _) ?_); intro u) | (go_at_call 41; (with_reducible refine call_later (flBoxes_two s.p s.v _ _ (SlAt.fresh _ _ _ _ (by simp [maxLen]))) ?_); intro u) | (go_at_call 69; (with_reducible refine call_later (flSpans_one s.m _ _ (SlAt.fresh _ _ _ _ (by simp [maxLen]))) ?_); intro u) | ((with_reducible refine wp_region_later ?_ ?_ ?_); (· kernel_rfl); (· kernel_rfl); (repeat (go_big_quiet_step ((first | (go_at_call 68; (with_reducible exact call_quiet (flValid_any _ _))) | (go_at_call 41; (with_reducible exact call_quiet (flBoxes_two s.p s.v _ _ (SlAt.fresh _ _ _ _ (by simp [maxLen]))))) | (go_at_call 69; (with_reducible exact call_quiet (flSpans_one s.m _ _ (SlAt.fresh _ _ _ _ (by simp [maxLen]))))))))); refine wpQuiet_nil ?_; rintro _ ⟨u, rfl⟩))
      go_ret
      exact ⟨ret_int (by (first | (rw [show s.okB = true from by simp [State.okB, *]]; rfl) | (rw [show s.okB = false from by simp [State.okB, *] <;> omega]; rfl) | (rw [show s.okB = true from by simp [State.okB, *] <;> omega]; rfl))), (by repeat (first | with_reducible exact Grew.refl _ | with_reducible apply Grew.alloc | with_reducible apply Grew.later | with_reducible apply Grew.drew | with_reducible apply Grew.store | with_reducible assumption))⟩
    · skip
      rcases bool_or (s.m.okB) with h3 | h3
      · go_enter Tryz.func24, Tryz.ntmps24
        go_wp2_with (first | (go_at_call 68; (with_reducible refine call_later (flValid_any _ _) ?_); intro u) | (go_at_call 41; (with_reducible refine call_later (flBoxes_two s.p s.v _ _ (SlAt.fresh _ _ _ _ (by simp [maxLen]))) ?_); intro u) | (go_at_call 69; (with_reducible refine call_later (flSpans_one s.m _ _ (SlAt.fresh _ _ _ _ (by simp [maxLen]))) ?_); intro u) | ((with_reducible refine wp_region_later ?_ ?_ ?_); (· kernel_rfl); (· kernel_rfl); (repeat (go_big_quiet_step ((first | (go_at_call 68; (with_reducible exact call_quiet (flValid_any _ _))) | (go_at_call 41; (with_reducible exact call_quiet (flBoxes_two s.p s.v _ _ (SlAt.fresh _ _ _ _ (by simp [maxLen]))))) | (go_at_call 69; (with_reducible exact call_quiet (flSpans_one s.m _ _ (SlAt.fresh _ _ _ _ (by simp [maxLen]))))))))); refine wpQuiet_nil ?_; rintro _ ⟨u, rfl⟩))
        go_ret
        exact ⟨ret_int (by (first | (rw [show s.okB = true from by simp [State.okB, *]]; rfl) | (rw [show s.okB = false from by simp [State.okB, *] <;> omega]; rfl) | (rw [show s.okB = true from by simp [State.okB, *] <;> omega]; rfl))), (by repeat (first | with_reducible exact Grew.refl _ | with_reducible apply Grew.alloc | with_reducible apply Grew.later | with_reducible apply Grew.drew | with_reducible apply Grew.store | with_reducible assumption))⟩
      · skip
        rcases prop_or (1 ≤ s.m.lo) with h4 | h4
        · go_enter Tryz.func24, Tryz.ntmps24
          go_wp2_with (first | (go_at_call 68; (with_reducible refine call_later (flValid_any _ _) ?_); intro u) | (go_at_call 41; (with_reducible refine call_later (flBoxes_two s.p s.v _ _ (SlAt.fresh _ _ _ _ (by simp [maxLen]))) ?_); intro u) | (go_at_call 69; (with_reducible refine call_later (flSpans_one s.m _ _ (SlAt.fresh _ _ _ _ (by simp [maxLen]))) ?_); intro u) | ((with_reducible refine wp_region_later ?_ ?_ ?_); (· kernel_rfl); (· kernel_rfl); (repeat (go_big_quiet_step ((first | (go_at_call 68; (with_reducible exact call_quiet (flValid_any _ _))) | (go_at_call 41; (with_reducible exact call_quiet (flBoxes_two s.p s.v _ _ (SlAt.fresh _ _ _ _ (by simp [maxLen]))))) | (go_at_call 69; (with_reducible exact call_quiet (flSpans_one s.m _ _ (SlAt.fresh _ _ _ _ (by simp [maxLen]))))))))); refine wpQuiet_nil ?_; rintro _ ⟨u, rfl⟩))
          go_ret
          exact ⟨ret_int (by (first | (rw [show s.okB = true from by simp [State.okB, *]]; rfl) | (rw [show s.okB = false from by simp [State.okB, *] <;> omega]; rfl) | (rw [show s.okB = true from by simp [State.okB, *] <;> omega]; rfl))), (by repeat (first | with_reducible exact Grew.refl _ | with_reducible apply Grew.alloc | with_reducible apply Grew.later | with_reducible apply Grew.drew | with_reducible apply Grew.store | with_reducible assumption))⟩
        · skip
          go_enter Tryz.func24, Tryz.ntmps24
          go_wp2_with (first | (go_at_call 68; (with_reducible refine call_later (flValid_any _ _) ?_); intro u) | (go_at_call 41; (with_reducible refine call_later (flBoxes_two s.p s.v _ _ (SlAt.fresh _ _ _ _ (by simp [maxLen]))) ?_); intro u) | (go_at_call 69; (with_reducible refine call_later (flSpans_one s.m _ _ (SlAt.fresh _ _ _ _ (by simp [maxLen]))) ?_); intro u) | ((with_reducible refine wp_region_later ?_ ?_ ?_); (· kernel_rfl); (· kernel_rfl); (repeat (go_big_quiet_step ((first | (go_at_call 68; (with_reducible exact call_quiet (flValid_any _ _))) | (go_at_call 41; (with_reducible exact call_quiet (flBoxes_two s.p s.v _ _ (SlAt.fresh _ _ _ _ (by simp [maxLen]))))) | (go_at_call 69; (with_reducible exact call_quiet (flSpans_one s.m _ _ (SlAt.fresh _ _ _ _ (by simp [maxLen]))))))))); refine wpQuiet_nil ?_; rintro _ ⟨u, rfl⟩))
          go_ret
          exact ⟨ret_int (by (first | (rw [show s.okB = true from by simp [State.okB, *]]; rfl) | (rw [show s.okB = false from by simp [State.okB, *] <;> omega]; rfl) | (rw [show s.okB = true from by simp [State.okB, *] <;> omega]; rfl))), (by repeat (first | with_reducible exact Grew.refl _ | with_reducible apply Grew.alloc | with_reducible apply Grew.later | with_reducible apply Grew.drew | with_reducible apply Grew.store | with_reducible assumption))⟩
theorem flTube_any (t : Tube) (w : World) : Calls Tryz.prog 54 #[.agg #[.int .i64 t.a, .int .i64 t.z, .int .i64 t.p.x.lo, .int .i64 t.p.x.hi, .int .i64 t.p.y.lo, .int .i64 t.p.y.hi, .int .i64 t.p.z.lo, .int .i64 t.p.z.hi, .int .i64 t.v.x.lo, .int .i64 t.v.x.hi, .int .i64 t.v.y.lo, .int .i64 t.v.y.hi, .int .i64 t.v.z.lo, .int .i64 t.v.z.hi, .int .i64 t.m.lo, .int .i64 t.m.hi]] w fun e w' => e = .returned (.int .i64 (codeB t.okB 2)) ∧ Grew w w' := by
  rcases bool_or (numB t.a) with h1 | h1
  · go_enter Tryz.func54, Tryz.ntmps54
    go_wp2_with (first | (go_at_call 68; (with_reducible refine call_later (flValid_any _ _) ?_); intro u) | (go_at_call 41; (with_reducible refine call_later (flBoxes_two t.p t.v _ _ (SlAt.fresh _ _ _ _ (by simp [maxLen]))) ?_); intro u) | (go_at_call 69; (with_reducible refine call_later (flSpans_one t.m _ _ (SlAt.fresh _ _ _ _ (by simp [maxLen]))) ?_); intro u) | ((with_reducible refine wp_region_later ?_ ?_ ?_); (· kernel_rfl); (· kernel_rfl); (repeat (go_big_quiet_step ((first | (go_at_call 68; (with_reducible exact call_quiet (flValid_any _ _))) | (go_at_call 41; (with_reducible exact call_quiet (flBoxes_two t.p t.v _ _ (SlAt.fresh _ _ _ _ (by simp [maxLen]))))) | (go_at_call 69; (with_reducible exact call_quiet (flSpans_one t.m _ _ (SlAt.fresh _ _ _ _ (by simp [maxLen]))))))))); refine wpQuiet_nil ?_; rintro _ ⟨u, rfl⟩))
    go_ret
    exact ⟨ret_int (by (first | (rw [show t.okB = true from by simp [Tube.okB, *]]; rfl) | (rw [show t.okB = false from by simp [Tube.okB, *] <;> omega]; rfl) | (rw [show t.okB = true from by simp [Tube.okB, *] <;> omega]; rfl))), (by repeat (first | with_reducible exact Grew.refl _ | with_reducible apply Grew.alloc | with_reducible apply Grew.later | with_reducible apply Grew.drew | with_reducible apply Grew.store | with_reducible assumption))⟩
  · skip
    rcases bool_or (numB t.z) with h2 | h2
    · go_enter Tryz.func54, Tryz.ntmps54
      go_wp2_with (first | (go_at_call 68; (with_reducible refine call_later (flValid_any _ _) ?_); intro u) | (go_at_call 41; (with_reducible refine call_later (flBoxes_two t.p t.v _ _ (SlAt.fresh _ _ _ _ (by simp [maxLen]))) ?_); intro u) | (go_at_call 69; (with_reducible refine call_later (flSpans_one t.m _ _ (SlAt.fresh _ _ _ _ (by simp [maxLen]))) ?_); intro u) | ((with_reducible refine wp_region_later ?_ ?_ ?_); (· kernel_rfl); (· kernel_rfl); (repeat (go_big_quiet_step ((first | (go_at_call 68; (with_reducible exact call_quiet (flValid_any _ _))) | (go_at_call 41; (with_reducible exact call_quiet (flBoxes_two t.p t.v _ _ (SlAt.fresh _ _ _ _ (by simp [maxLen]))))) | (go_at_call 69; (with_reducible exact call_quiet (flSpans_one t.m _ _ (SlAt.fresh _ _ _ _ (by simp [maxLen]))))))))); refine wpQuiet_nil ?_; rintro _ ⟨u, rfl⟩))
      go_ret
      exact ⟨ret_int (by (first | (rw [show t.okB = true from by simp [Tube.okB, *]]; rfl) | (rw [show t.okB = false from by simp [Tube.okB, *] <;> omega]; rfl) | (rw [show t.okB = true from by simp [Tube.okB, *] <;> omega]; rfl))), (by repeat (first | with_reducible exact Grew.refl _ | with_reducible apply Grew.alloc | with_reducible apply Grew.later | with_reducible apply Grew.drew | with_reducible apply Grew.store | with_reducible assumption))⟩
    · skip
      rcases prop_or (t.a ≤ t.z) with h3 | h3
      · go_enter Tryz.func54, Tryz.ntmps54
        go_wp2_with (first | (go_at_call 68; (with_reducible refine call_later (flValid_any _ _) ?_); intro u) | (go_at_call 41; (with_reducible refine call_later (flBoxes_two t.p t.v _ _ (SlAt.fresh _ _ _ _ (by simp [maxLen]))) ?_); intro u) | (go_at_call 69; (with_reducible refine call_later (flSpans_one t.m _ _ (SlAt.fresh _ _ _ _ (by simp [maxLen]))) ?_); intro u) | ((with_reducible refine wp_region_later ?_ ?_ ?_); (· kernel_rfl); (· kernel_rfl); (repeat (go_big_quiet_step ((first | (go_at_call 68; (with_reducible exact call_quiet (flValid_any _ _))) | (go_at_call 41; (with_reducible exact call_quiet (flBoxes_two t.p t.v _ _ (SlAt.fresh _ _ _ _ (by simp [maxLen]))))) | (go_at_call 69; (with_reducible exact call_quiet (flSpans_one t.m _ _ (SlAt.fresh _ _ _ _ (by simp [maxLen]))))))))); refine wpQuiet_nil ?_; rintro _ ⟨u, rfl⟩))
        go_ret
        exact ⟨ret_int (by (first | (rw [show t.okB = true from by simp [Tube.okB, *]]; rfl) | (rw [show t.okB = false from by simp [Tube.okB, *] <;> omega]; rfl) | (rw [show t.okB = true from by simp [Tube.okB, *] <;> omega]; rfl))), (by repeat (first | with_reducible exact Grew.refl _ | with_reducible apply Grew.alloc | with_reducible apply Grew.later | with_reducible apply Grew.drew | with_reducible apply Grew.store | with_reducible assumption))⟩
      · skip
        rcases bool_or ((t.p.okB && t.v.okB)) with h4 | h4
        · go_enter Tryz.func54, Tryz.ntmps54
          go_wp2_with (first | (go_at_call 68; (with_reducible refine call_later (flValid_any _ _) ?_); intro u) | (go_at_call 41; (with_reducible refine call_later (flBoxes_two t.p t.v _ _ (SlAt.fresh _ _ _ _ (by simp [maxLen]))) ?_); intro u) | (go_at_call 69; (with_reducible refine call_later (flSpans_one t.m _ _ (SlAt.fresh _ _ _ _ (by simp [maxLen]))) ?_); intro u) | ((with_reducible refine wp_region_later ?_ ?_ ?_); (· kernel_rfl); (· kernel_rfl); (repeat (go_big_quiet_step ((first | (go_at_call 68; (with_reducible exact call_quiet (flValid_any _ _))) | (go_at_call 41; (with_reducible exact call_quiet (flBoxes_two t.p t.v _ _ (SlAt.fresh _ _ _ _ (by simp [maxLen]))))) | (go_at_call 69; (with_reducible exact call_quiet (flSpans_one t.m _ _ (SlAt.fresh _ _ _ _ (by simp [maxLen]))))))))); refine wpQuiet_nil ?_; rintro _ ⟨u, rfl⟩))
          go_ret
          exact ⟨ret_int (by (first | (rw [show t.okB = true from by simp [Tube.okB, *]]; rfl) | (rw [show t.okB = false from by simp [Tube.okB, *] <;> omega]; rfl) | (rw [show t.okB = true from by simp [Tube.okB, *] <;> omega]; rfl))), (by repeat (first | with_reducible exact Grew.refl _ | with_reducible apply Grew.alloc | with_reducible apply Grew.later | with_reducible apply Grew.drew | with_reducible apply Grew.store | with_reducible assumption))⟩
        · skip
          rcases bool_or (t.m.okB) with h5 | h5
          · go_enter Tryz.func54, Tryz.ntmps54
            go_wp2_with (first | (go_at_call 68; (with_reducible refine call_later (flValid_any _ _) ?_); intro u) | (go_at_call 41; (with_reducible refine call_later (flBoxes_two t.p t.v _ _ (SlAt.fresh _ _ _ _ (by simp [maxLen]))) ?_); intro u) | (go_at_call 69; (with_reducible refine call_later (flSpans_one t.m _ _ (SlAt.fresh _ _ _ _ (by simp [maxLen]))) ?_); intro u) | ((with_reducible refine wp_region_later ?_ ?_ ?_); (· kernel_rfl); (· kernel_rfl); (repeat (go_big_quiet_step ((first | (go_at_call 68; (with_reducible exact call_quiet (flValid_any _ _))) | (go_at_call 41; (with_reducible exact call_quiet (flBoxes_two t.p t.v _ _ (SlAt.fresh _ _ _ _ (by simp [maxLen]))))) | (go_at_call 69; (with_reducible exact call_quiet (flSpans_one t.m _ _ (SlAt.fresh _ _ _ _ (by simp [maxLen]))))))))); refine wpQuiet_nil ?_; rintro _ ⟨u, rfl⟩))
            go_ret
            exact ⟨ret_int (by (first | (rw [show t.okB = true from by simp [Tube.okB, *]]; rfl) | (rw [show t.okB = false from by simp [Tube.okB, *] <;> omega]; rfl) | (rw [show t.okB = true from by simp [Tube.okB, *] <;> omega]; rfl))), (by repeat (first | with_reducible exact Grew.refl _ | with_reducible apply Grew.alloc | with_reducible apply Grew.later | with_reducible apply Grew.drew | with_reducible apply Grew.store | with_reducible assumption))⟩
          · skip
            rcases prop_or (1 ≤ t.m.lo) with h6 | h6
            · go_enter Tryz.func54, Tryz.ntmps54
              go_wp2_with (first | (go_at_call 68; (with_reducible refine call_later (flValid_any _ _) ?_); intro u) | (go_at_call 41; (with_reducible refine call_later (flBoxes_two t.p t.v _ _ (SlAt.fresh _ _ _ _ (by simp [maxLen]))) ?_); intro u) | (go_at_call 69; (with_reducible refine call_later (flSpans_one t.m _ _ (SlAt.fresh _ _ _ _ (by simp [maxLen]))) ?_); intro u) | ((with_reducible refine wp_region_later ?_ ?_ ?_); (· kernel_rfl); (· kernel_rfl); (repeat (go_big_quiet_step ((first | (go_at_call 68; (with_reducible exact call_quiet (flValid_any _ _))) | (go_at_call 41; (with_reducible exact call_quiet (flBoxes_two t.p t.v _ _ (SlAt.fresh _ _ _ _ (by simp [maxLen]))))) | (go_at_call 69; (with_reducible exact call_quiet (flSpans_one t.m _ _ (SlAt.fresh _ _ _ _ (by simp [maxLen]))))))))); refine wpQuiet_nil ?_; rintro _ ⟨u, rfl⟩))
              go_ret
              exact ⟨ret_int (by (first | (rw [show t.okB = true from by simp [Tube.okB, *]]; rfl) | (rw [show t.okB = false from by simp [Tube.okB, *] <;> omega]; rfl) | (rw [show t.okB = true from by simp [Tube.okB, *] <;> omega]; rfl))), (by repeat (first | with_reducible exact Grew.refl _ | with_reducible apply Grew.alloc | with_reducible apply Grew.later | with_reducible apply Grew.drew | with_reducible apply Grew.store | with_reducible assumption))⟩
            · skip
              go_enter Tryz.func54, Tryz.ntmps54
              go_wp2_with (first | (go_at_call 68; (with_reducible refine call_later (flValid_any _ _) ?_); intro u) | (go_at_call 41; (with_reducible refine call_later (flBoxes_two t.p t.v _ _ (SlAt.fresh _ _ _ _ (by simp [maxLen]))) ?_); intro u) | (go_at_call 69; (with_reducible refine call_later (flSpans_one t.m _ _ (SlAt.fresh _ _ _ _ (by simp [maxLen]))) ?_); intro u) | ((with_reducible refine wp_region_later ?_ ?_ ?_); (· kernel_rfl); (· kernel_rfl); (repeat (go_big_quiet_step ((first | (go_at_call 68; (with_reducible exact call_quiet (flValid_any _ _))) | (go_at_call 41; (with_reducible exact call_quiet (flBoxes_two t.p t.v _ _ (SlAt.fresh _ _ _ _ (by simp [maxLen]))))) | (go_at_call 69; (with_reducible exact call_quiet (flSpans_one t.m _ _ (SlAt.fresh _ _ _ _ (by simp [maxLen]))))))))); refine wpQuiet_nil ?_; rintro _ ⟨u, rfl⟩))
              go_ret
              exact ⟨ret_int (by (first | (rw [show t.okB = true from by simp [Tube.okB, *]]; rfl) | (rw [show t.okB = false from by simp [Tube.okB, *] <;> omega]; rfl) | (rw [show t.okB = true from by simp [Tube.okB, *] <;> omega]; rfl))), (by repeat (first | with_reducible exact Grew.refl _ | with_reducible apply Grew.alloc | with_reducible apply Grew.later | with_reducible apply Grew.drew | with_reducible apply Grew.store | with_reducible assumption))⟩
end Go.Proofs.YtochpnomfedhoaaGreat
