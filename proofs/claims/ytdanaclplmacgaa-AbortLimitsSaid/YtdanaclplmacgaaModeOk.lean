/-
  Contracts: abort.CheckMode, ullageref11.CheckMode.
-/
import Derived.Test.YtdanaclplmacgaaFlightRefOk
namespace Go.Proofs.Ytdanaclplmacgaa
open Go.RowKit
set_option maxRecDepth 100000
set_option maxHeartbeats 2000000

abbrev Arcs := List (Arc × List Pt)
def arcCells (x : Arc × List Pt) : List Value := x.1.cells
/-- The arcs of a list lie in memory, with their drag tables. -/
def ArcsAt (w : World) (v : Value) (L : Arcs) : Prop :=
  SlAt w v L.length (L.flatMap arcCells) ∧ ∀ x ∈ L, DragAt w x.1 x.2 ∧ x.1.time ≤ 9223372036854775807 ∧ x.1.step ≤ 9223372036854775807
theorem ArcsAt.grew {w w' : World} {v : Value} {L : Arcs} (h : ArcsAt w v L) (g : Grew w w') : ArcsAt w' v L :=
  ⟨h.1.grew g, fun x hx => ⟨(h.2 x hx).1.grew g, (h.2 x hx).2⟩⟩
def ModeArcs (w : World) (m : Mode) (L : Arcs) : Prop := ArcsAt w (.slice m.arcs.ao m.arcs.n m.arcs.cap) L
/-- The steps of arcs, from a sum on, are at most so many together, and no arc has an error. -/
def fitB (most : Int) : Int → Arcs → Bool
  | _, [] => true
  | s, x :: r => decide (stepsCode x.1 x.2 = 0) && decide (s + stepsNum x.1 x.2 ≤ most) && fitB most (s + stepsNum x.1 x.2) r
def Mode.okB (m : Mode) (L : Arcs) : Bool :=
  m.height.okB && m.speed.okB && m.pressure.okB && numB m.a && numB m.z && numB m.floor && decide (m.a ≤ m.z) && decide (0 ≤ m.delay) && decide (0 ≤ m.load) && decide (0 ≤ m.touch) && decide (0 ≤ m.failures) && decide (m.failures ≤ 65535) && decide (L.length ≤ 32) && fitB 64 0 L
theorem stepsNum_bd (a : Arc) (l : List Pt) : 0 ≤ stepsNum a l ∧ stepsNum a l ≤ 4096 := by
  unfold stepsNum
  split
  · rename_i h
    unfold stepsCode at h
    split at h
    · rename_i hok
      split at h
      · have := arc_pos hok
        have := steps_bd a this.1 this.2
        omega
      · cases h
    · cases h
  · omega
theorem drop_cons (L : Arcs) (k : Nat) (h : k < L.length) : L.drop k = L[k] :: L.drop (k + 1) := List.drop_eq_getElem_cons h
theorem abValid_any (n : Int) (w : World) : Calls Try.prog 88 #[.int .i64 n] w fun e w' => e = .returned (.bool (numB n)) ∧ Grew w w' := by
  go_enter Try.func88, Try.ntmps88
  go_wp2
  go_ret
  exact ⟨ret_bool (by unfold numB; simp), Grew.refl _⟩

theorem abMode_any (m : Mode) (L : Arcs) (w : World) (hd : ModeArcs w m L) : Calls Try.prog 29 #[.agg #[.int .i64 m.height.lo, .int .i64 m.height.hi, .int .i64 m.speed.lo, .int .i64 m.speed.hi, .int .i64 m.pressure.lo, .int .i64 m.pressure.hi, .int .i64 m.a, .int .i64 m.z, .int .i64 m.failures, .int .i64 m.delay, .slice m.arcs.ao m.arcs.n m.arcs.cap, .int .i64 m.load, .int .i64 m.floor, .int .i64 m.touch]] w fun e w' => e = .returned (.int .i64 (codeB (m.okB L) 2)) ∧ Grew w w' := by
  have hn : m.arcs.n = L.length := by
    obtain ⟨⟨ao, cap, e, -⟩, -⟩ := hd
    simp at e
    exact e.2.1
  have Hn := Lib.hid hn
  have Hd := Lib.hid hd
  obtain ⟨⟨ao, cap, e, hm, hc⟩, hdr⟩ := hd
  obtain ⟨e1, -, -⟩ := by simpa using e
  rw [← e1] at hc
  clear e e1 hn
  unfold maxLen at hm
  have HcA := Lib.hid (SlAt.elem (f := arcCells) (c := 15) (fun _ => rfl) (by omega) hc)
  have Hdr := Lib.hid hdr
  clear hc hdr
  go_enter Try.func29, Try.ntmps29
  have hW := SlAt.fresh (w := w.alloc (.cells #[.int .i64 m.height.lo, .int .i64 m.height.hi, .int .i64 m.speed.lo, .int .i64 m.speed.hi, .int .i64 m.pressure.lo, .int .i64 m.pressure.hi, .int .i64 m.a, .int .i64 m.z, .int .i64 m.failures, .int .i64 m.delay, .slice m.arcs.ao m.arcs.n m.arcs.cap, .int .i64 m.load, .int .i64 m.floor, .int .i64 m.touch] 57)) [.int .i64 m.height.lo, .int .i64 m.height.hi, .int .i64 m.speed.lo, .int .i64 m.speed.hi, .int .i64 m.pressure.lo, .int .i64 m.pressure.hi] 54 3 3 (by simp [maxLen])
  obtain ⟨ao', cap', e, -, hc⟩ := hW
  cases e
  have Hc := Lib.hid (SlAt.elem (f := Sp.cells) (c := 2) (l := [m.height, m.speed, m.pressure]) (fun _ => rfl) (by omega) hc)
  clear hc
  go_wp2
  go_loopw [20] (fun t wr => ∃ k : Nat, t = .int .i64 k ∧ k ≤ 3 ∧ ([m.height, m.speed, m.pressure].take k).all Sp.okB = true ∧ Grew ((w.alloc (.cells #[.int .i64 m.height.lo, .int .i64 m.height.hi, .int .i64 m.speed.lo, .int .i64 m.speed.hi, .int .i64 m.pressure.lo, .int .i64 m.pressure.hi, .int .i64 m.a, .int .i64 m.z, .int .i64 m.failures, .int .i64 m.delay, .slice m.arcs.ao m.arcs.n m.arcs.cap, .int .i64 m.load, .int .i64 m.floor, .int .i64 m.touch] 57)).alloc (.cells #[.int .i64 m.height.lo, .int .i64 m.height.hi, .int .i64 m.speed.lo, .int .i64 m.speed.hi, .int .i64 m.pressure.lo, .int .i64 m.pressure.hi] 54)) wr) (fun t _ => 3 - (intOf t).toNat)
  case atStart => exact ⟨0, rfl, by omega, rfl, (by repeat (first | with_reducible exact Grew.refl _ | with_reducible apply Grew.alloc | with_reducible apply Grew.later | with_reducible apply Grew.drew | with_reducible apply Grew.store | with_reducible assumption))⟩
  case round =>
    obtain ⟨k, rfl, hk, hall, hg⟩ := hrel
    obtain ⟨y, rfl⟩ := later_of hg
    clear hg
    have Hall := Lib.hid hall
    clear hall
    by_cases hlt : k < 3
    · obtain ⟨b1, o1, e1, i1, hd1, hd2⟩ := Hc.out k hlt
      cases e1
      have hd1 := hd1 _ rfl
      have hd2 := hd2 1 _ rfl
      obtain ⟨s, hs⟩ : ∃ s, s = [m.height, m.speed, m.pressure][k] := ⟨_, rfl⟩
      rw [← hs] at hd1 hd2
      have Hno := Lib.hid (fun h : s.okB = false => show m.okB L = false by
        have := all_false Sp.okB [m.height, m.speed, m.pressure] k hlt (by rw [← hs]; exact h)
        simp only [List.all_cons, List.all_nil, Bool.and_true, ← Bool.and_assoc] at this
        simp only [Mode.okB, this, Bool.false_and])
      have Hs := Lib.hid hs
      clear hs
      simp only [Nat.zero_add] at hd1 hd2
      cases h : s.okB
      · go_wp2_with (first | (go_at_call 87; (with_reducible refine call_later (spCheck_any s _) ?_); intro u) | ((with_reducible refine wp_region_later ?_ ?_ ?_); (· kernel_rfl); (· kernel_rfl); (repeat (go_big_quiet_step ((first | (go_at_call 87; (with_reducible exact call_quiet (spCheck_any s _))))))); refine wpQuiet_nil ?_; rintro _ ⟨u, rfl⟩))
        go_ret
        exact ⟨ret_int (by rw [Hno.out h]; rfl), (by repeat (first | with_reducible exact Grew.refl _ | with_reducible apply Grew.alloc | with_reducible apply Grew.later | with_reducible apply Grew.drew | with_reducible apply Grew.store | with_reducible assumption))⟩
      · go_wp2_with (first | (go_at_call 87; (with_reducible refine call_later (spCheck_any s _) ?_); intro u) | ((with_reducible refine wp_region_later ?_ ?_ ?_); (· kernel_rfl); (· kernel_rfl); (repeat (go_big_quiet_step ((first | (go_at_call 87; (with_reducible exact call_quiet (spCheck_any s _))))))); refine wpQuiet_nil ?_; rintro _ ⟨u, rfl⟩))
        go_roundw
        case rel => exact ⟨k + 1, by go_num, by omega, all_take_succ Sp.okB [m.height, m.speed, m.pressure] k hlt Hall.out (by rw [← Hs.out]; exact h), (by repeat (first | with_reducible exact Grew.refl _ | with_reducible apply Grew.alloc | with_reducible apply Grew.later | with_reducible apply Grew.drew | with_reducible apply Grew.store | with_reducible assumption))⟩
        case measure => simp [intOf]; omega
    · obtain rfl : k = 3 := by omega
      rw [show ((3 : Nat) : Int) = 3 from rfl]
      have hfin : m.okB L = (numB m.a && numB m.z && numB m.floor && decide (m.a ≤ m.z) && decide (0 ≤ m.delay) && decide (0 ≤ m.load) && decide (0 ≤ m.touch) && decide (0 ≤ m.failures) && decide (m.failures ≤ 65535) && decide (L.length ≤ 32) && fitB 64 0 L) := by
        have := Hall.out
        simp only [List.take, List.all_cons, List.all_nil, Bool.and_true, Bool.and_eq_true] at this
        simp only [Mode.okB, this.1, this.2.1, this.2.2, Bool.true_and]
      have Hfin := Lib.hid hfin
      clear hfin Hall Hc
      rcases bool_or (numB m.a) with h1 | h1
      · have hno : m.okB L = false := by
          rw [Hfin.out]
          try rw [Hn.out] at h10
          first | (simp [*]; done) | (simp [*]; omega)
        have Hno := Lib.hid hno
        clear hno
        go_wp2_with (first | (go_at_call 88; (with_reducible refine call_later (abValid_any _ _) ?_); intro u) | ((with_reducible refine wp_region_later ?_ ?_ ?_); (· kernel_rfl); (· kernel_rfl); (repeat (go_big_quiet_step ((first | (go_at_call 88; (with_reducible exact call_quiet (abValid_any _ _))))))); refine wpQuiet_nil ?_; rintro _ ⟨u, rfl⟩))
        go_ret
        exact ⟨ret_int (by rw [Hno.out]; rfl), (by repeat (first | with_reducible exact Grew.refl _ | with_reducible apply Grew.alloc | with_reducible apply Grew.later | with_reducible apply Grew.drew | with_reducible apply Grew.store | with_reducible assumption))⟩
      · skip
        rcases bool_or (numB m.z) with h2 | h2
        · have hno : m.okB L = false := by
            rw [Hfin.out]
            try rw [Hn.out] at h10
            first | (simp [*]; done) | (simp [*]; omega)
          have Hno := Lib.hid hno
          clear hno
          go_wp2_with (first | (go_at_call 88; (with_reducible refine call_later (abValid_any _ _) ?_); intro u) | ((with_reducible refine wp_region_later ?_ ?_ ?_); (· kernel_rfl); (· kernel_rfl); (repeat (go_big_quiet_step ((first | (go_at_call 88; (with_reducible exact call_quiet (abValid_any _ _))))))); refine wpQuiet_nil ?_; rintro _ ⟨u, rfl⟩))
          go_ret
          exact ⟨ret_int (by rw [Hno.out]; rfl), (by repeat (first | with_reducible exact Grew.refl _ | with_reducible apply Grew.alloc | with_reducible apply Grew.later | with_reducible apply Grew.drew | with_reducible apply Grew.store | with_reducible assumption))⟩
        · skip
          rcases bool_or (numB m.floor) with h3 | h3
          · have hno : m.okB L = false := by
              rw [Hfin.out]
              try rw [Hn.out] at h10
              first | (simp [*]; done) | (simp [*]; omega)
            have Hno := Lib.hid hno
            clear hno
            go_wp2_with (first | (go_at_call 88; (with_reducible refine call_later (abValid_any _ _) ?_); intro u) | ((with_reducible refine wp_region_later ?_ ?_ ?_); (· kernel_rfl); (· kernel_rfl); (repeat (go_big_quiet_step ((first | (go_at_call 88; (with_reducible exact call_quiet (abValid_any _ _))))))); refine wpQuiet_nil ?_; rintro _ ⟨u, rfl⟩))
            go_ret
            exact ⟨ret_int (by rw [Hno.out]; rfl), (by repeat (first | with_reducible exact Grew.refl _ | with_reducible apply Grew.alloc | with_reducible apply Grew.later | with_reducible apply Grew.drew | with_reducible apply Grew.store | with_reducible assumption))⟩
          · skip
            rcases prop_or (m.a ≤ m.z) with h4 | h4
            · have hno : m.okB L = false := by
                rw [Hfin.out]
                try rw [Hn.out] at h10
                first | (simp [*]; done) | (simp [*]; omega)
              have Hno := Lib.hid hno
              clear hno
              go_wp2_with (first | (go_at_call 88; (with_reducible refine call_later (abValid_any _ _) ?_); intro u) | ((with_reducible refine wp_region_later ?_ ?_ ?_); (· kernel_rfl); (· kernel_rfl); (repeat (go_big_quiet_step ((first | (go_at_call 88; (with_reducible exact call_quiet (abValid_any _ _))))))); refine wpQuiet_nil ?_; rintro _ ⟨u, rfl⟩))
              go_ret
              exact ⟨ret_int (by rw [Hno.out]; rfl), (by repeat (first | with_reducible exact Grew.refl _ | with_reducible apply Grew.alloc | with_reducible apply Grew.later | with_reducible apply Grew.drew | with_reducible apply Grew.store | with_reducible assumption))⟩
            · skip
              rcases prop_or (0 ≤ m.delay) with h5 | h5
              · have hno : m.okB L = false := by
                  rw [Hfin.out]
                  try rw [Hn.out] at h10
                  first | (simp [*]; done) | (simp [*]; omega)
                have Hno := Lib.hid hno
                clear hno
                go_wp2_with (first | (go_at_call 88; (with_reducible refine call_later (abValid_any _ _) ?_); intro u) | ((with_reducible refine wp_region_later ?_ ?_ ?_); (· kernel_rfl); (· kernel_rfl); (repeat (go_big_quiet_step ((first | (go_at_call 88; (with_reducible exact call_quiet (abValid_any _ _))))))); refine wpQuiet_nil ?_; rintro _ ⟨u, rfl⟩))
                go_ret
                exact ⟨ret_int (by rw [Hno.out]; rfl), (by repeat (first | with_reducible exact Grew.refl _ | with_reducible apply Grew.alloc | with_reducible apply Grew.later | with_reducible apply Grew.drew | with_reducible apply Grew.store | with_reducible assumption))⟩
              · skip
                rcases prop_or (0 ≤ m.load) with h6 | h6
                · have hno : m.okB L = false := by
                    rw [Hfin.out]
                    try rw [Hn.out] at h10
                    first | (simp [*]; done) | (simp [*]; omega)
                  have Hno := Lib.hid hno
                  clear hno
                  go_wp2_with (first | (go_at_call 88; (with_reducible refine call_later (abValid_any _ _) ?_); intro u) | ((with_reducible refine wp_region_later ?_ ?_ ?_); (· kernel_rfl); (· kernel_rfl); (repeat (go_big_quiet_step ((first | (go_at_call 88; (with_reducible exact call_quiet (abValid_any _ _))))))); refine wpQuiet_nil ?_; rintro _ ⟨u, rfl⟩))
                  go_ret
                  exact ⟨ret_int (by rw [Hno.out]; rfl), (by repeat (first | with_reducible exact Grew.refl _ | with_reducible apply Grew.alloc | with_reducible apply Grew.later | with_reducible apply Grew.drew | with_reducible apply Grew.store | with_reducible assumption))⟩
                · skip
                  rcases prop_or (0 ≤ m.touch) with h7 | h7
                  · have hno : m.okB L = false := by
                      rw [Hfin.out]
                      try rw [Hn.out] at h10
                      first | (simp [*]; done) | (simp [*]; omega)
                    have Hno := Lib.hid hno
                    clear hno
                    go_wp2_with (first | (go_at_call 88; (with_reducible refine call_later (abValid_any _ _) ?_); intro u) | ((with_reducible refine wp_region_later ?_ ?_ ?_); (· kernel_rfl); (· kernel_rfl); (repeat (go_big_quiet_step ((first | (go_at_call 88; (with_reducible exact call_quiet (abValid_any _ _))))))); refine wpQuiet_nil ?_; rintro _ ⟨u, rfl⟩))
                    go_ret
                    exact ⟨ret_int (by rw [Hno.out]; rfl), (by repeat (first | with_reducible exact Grew.refl _ | with_reducible apply Grew.alloc | with_reducible apply Grew.later | with_reducible apply Grew.drew | with_reducible apply Grew.store | with_reducible assumption))⟩
                  · skip
                    rcases prop_or (0 ≤ m.failures) with h8 | h8
                    · have hno : m.okB L = false := by
                        rw [Hfin.out]
                        try rw [Hn.out] at h10
                        first | (simp [*]; done) | (simp [*]; omega)
                      have Hno := Lib.hid hno
                      clear hno
                      go_wp2_with (first | (go_at_call 88; (with_reducible refine call_later (abValid_any _ _) ?_); intro u) | ((with_reducible refine wp_region_later ?_ ?_ ?_); (· kernel_rfl); (· kernel_rfl); (repeat (go_big_quiet_step ((first | (go_at_call 88; (with_reducible exact call_quiet (abValid_any _ _))))))); refine wpQuiet_nil ?_; rintro _ ⟨u, rfl⟩))
                      go_ret
                      exact ⟨ret_int (by rw [Hno.out]; rfl), (by repeat (first | with_reducible exact Grew.refl _ | with_reducible apply Grew.alloc | with_reducible apply Grew.later | with_reducible apply Grew.drew | with_reducible apply Grew.store | with_reducible assumption))⟩
                    · skip
                      rcases prop_or (m.failures ≤ 65535) with h9 | h9
                      · have hno : m.okB L = false := by
                          rw [Hfin.out]
                          try rw [Hn.out] at h10
                          first | (simp [*]; done) | (simp [*]; omega)
                        have Hno := Lib.hid hno
                        clear hno
                        go_wp2_with (first | (go_at_call 88; (with_reducible refine call_later (abValid_any _ _) ?_); intro u) | ((with_reducible refine wp_region_later ?_ ?_ ?_); (· kernel_rfl); (· kernel_rfl); (repeat (go_big_quiet_step ((first | (go_at_call 88; (with_reducible exact call_quiet (abValid_any _ _))))))); refine wpQuiet_nil ?_; rintro _ ⟨u, rfl⟩))
                        go_ret
                        exact ⟨ret_int (by rw [Hno.out]; rfl), (by repeat (first | with_reducible exact Grew.refl _ | with_reducible apply Grew.alloc | with_reducible apply Grew.later | with_reducible apply Grew.drew | with_reducible apply Grew.store | with_reducible assumption))⟩
                      · skip
                        rcases prop_or (m.arcs.n ≤ 32) with h10 | h10
                        · have hno : m.okB L = false := by
                            rw [Hfin.out]
                            try rw [Hn.out] at h10
                            first | (simp [*]; done) | (simp [*]; omega)
                          have Hno := Lib.hid hno
                          clear hno
                          go_wp2_with (first | (go_at_call 88; (with_reducible refine call_later (abValid_any _ _) ?_); intro u) | ((with_reducible refine wp_region_later ?_ ?_ ?_); (· kernel_rfl); (· kernel_rfl); (repeat (go_big_quiet_step ((first | (go_at_call 88; (with_reducible exact call_quiet (abValid_any _ _))))))); refine wpQuiet_nil ?_; rintro _ ⟨u, rfl⟩))
                          go_ret
                          exact ⟨ret_int (by rw [Hno.out]; rfl), (by repeat (first | with_reducible exact Grew.refl _ | with_reducible apply Grew.alloc | with_reducible apply Grew.later | with_reducible apply Grew.drew | with_reducible apply Grew.store | with_reducible assumption))⟩
                        · skip
                          have Hfin2 := Lib.hid (show m.okB L = fitB 64 0 L by rw [Hfin.out]; rw [Hn.out] at h10; simp [*])
                          clear Hfin
                          go_wp2_with (first | (go_at_call 88; (with_reducible refine call_later (abValid_any _ _) ?_); intro u) | ((with_reducible refine wp_region_later ?_ ?_ ?_); (· kernel_rfl); (· kernel_rfl); (repeat (go_big_quiet_step ((first | (go_at_call 88; (with_reducible exact call_quiet (abValid_any _ _))))))); refine wpQuiet_nil ?_; rintro _ ⟨u, rfl⟩))
                          go_loopw [7, 86] (fun q t wr => ∃ (k : Nat) (s : Int), t = .int .i64 k ∧ q = .int .i64 s ∧ k ≤ L.length ∧ 0 ≤ s ∧ s ≤ 64 ∧ fitB 64 0 L = fitB 64 s (L.drop k) ∧ Grew u.world wr) (fun _ t _ => L.length - (intOf t).toNat)
                          case atStart => exact ⟨0, 0, rfl, rfl, by omega, by omega, by omega, rfl, Grew.refl _⟩
                          case round =>
                            obtain ⟨k, s, rfl, rfl, hk, hs1, hs2, hfit, hg⟩ := hrel
                            obtain ⟨z, rfl⟩ := later_of hg
                            clear hg
                            by_cases hlt : k < L.length
                            · obtain ⟨b1, o1, e1, i1, hd1, hd2⟩ := HcA.out k hlt
                              obtain ⟨hdr, ht, hst⟩ := Hdr.out _ (List.getElem_mem hlt)
                              have Hdr1 := Lib.hid hdr
                              clear hdr
                              have hc0 := hd1 _ rfl
                              have hc1 := hd2 1 _ rfl
                              have hc2 := hd2 2 _ rfl
                              have hc3 := hd2 3 _ rfl
                              have hc4 := hd2 4 _ rfl
                              have hc5 := hd2 5 _ rfl
                              have hc6 := hd2 6 _ rfl
                              have hc7 := hd2 7 _ rfl
                              have hc8 := hd2 8 _ rfl
                              have hc9 := hd2 9 _ rfl
                              have hc10 := hd2 10 _ rfl
                              have hc11 := hd2 11 _ rfl
                              have hc12 := hd2 12 _ rfl
                              have hc13 := hd2 13 _ rfl
                              have hc14 := hd2 14 _ rfl
                              clear hd1 hd2
                              have i1 : BlockIn w b1 := ⟨i1⟩
                              rw [drop_cons L k hlt, fitB] at hfit
                              have Hfit := Lib.hid hfit
                              clear hfit
                              have hb := stepsNum_bd L[k].1 L[k].2
                              obtain ⟨hb1, hb2⟩ := hb
                              have hlt' : k < m.arcs.n := by rw [Hn.out]; exact hlt
                              generalize hx : L[k] = x at *
                              have Hx := Lib.hid hx
                              clear hx
                              rcases prop_or (stepsCode x.1 x.2 = 0) with h11 | h11
                              · have h11' : (stepsCode x.1 x.2 != 0) = true := by simp [h11]
                                clear h11
                                go_wp2_with (first | (go_at_call 32; (with_reducible refine call_later (flSteps_any x.1 x.2 _ (Hdr1.out.grew (by repeat (first | with_reducible exact Grew.refl _ | with_reducible apply Grew.alloc | with_reducible apply Grew.later | with_reducible apply Grew.drew | with_reducible apply Grew.store | with_reducible assumption))) ht hst) ?_); intro u) | ((with_reducible refine wp_region_later ?_ ?_ ?_); (· kernel_rfl); (· kernel_rfl); (repeat (go_big_quiet_step ((first | (go_at_call 32; (with_reducible exact call_quiet (flSteps_any x.1 x.2 _ (Hdr1.out.grew (by repeat (first | with_reducible exact Grew.refl _ | with_reducible apply Grew.alloc | with_reducible apply Grew.later | with_reducible apply Grew.drew | with_reducible apply Grew.store | with_reducible assumption))) ht hst))))))); refine wpQuiet_nil ?_; rintro _ ⟨u, rfl⟩))
                                go_ret
                                exact ⟨ret_int (by
                                  have : ¬ stepsCode x.1 x.2 = 0 := by simpa using h11'
                                  rw [Hfin2.out, Hfit.out, decide_eq_false this]; rfl), (by repeat (first | with_reducible exact Grew.refl _ | with_reducible apply Grew.alloc | with_reducible apply Grew.later | with_reducible apply Grew.drew | with_reducible apply Grew.store | with_reducible assumption))⟩
                              · have h11' : (stepsCode x.1 x.2 != 0) = false := by simp [h11]
                                have H11 := Lib.hid h11
                                clear h11
                                rcases prop_or (s + stepsNum x.1 x.2 ≤ 64) with h12 | h12
                                · go_wp2_with (first | (go_at_call 32; (with_reducible refine call_later (flSteps_any x.1 x.2 _ (Hdr1.out.grew (by repeat (first | with_reducible exact Grew.refl _ | with_reducible apply Grew.alloc | with_reducible apply Grew.later | with_reducible apply Grew.drew | with_reducible apply Grew.store | with_reducible assumption))) ht hst) ?_); intro u) | ((with_reducible refine wp_region_later ?_ ?_ ?_); (· kernel_rfl); (· kernel_rfl); (repeat (go_big_quiet_step ((first | (go_at_call 32; (with_reducible exact call_quiet (flSteps_any x.1 x.2 _ (Hdr1.out.grew (by repeat (first | with_reducible exact Grew.refl _ | with_reducible apply Grew.alloc | with_reducible apply Grew.later | with_reducible apply Grew.drew | with_reducible apply Grew.store | with_reducible assumption))) ht hst))))))); refine wpQuiet_nil ?_; rintro _ ⟨u, rfl⟩))
                                  go_ret
                                  exact ⟨ret_int (by rw [Hfin2.out, Hfit.out, decide_eq_false (show ¬ s + stepsNum x.1 x.2 ≤ 64 by omega), Bool.and_false]; rfl), (by repeat (first | with_reducible exact Grew.refl _ | with_reducible apply Grew.alloc | with_reducible apply Grew.later | with_reducible apply Grew.drew | with_reducible apply Grew.store | with_reducible assumption))⟩
                                · go_wp2_with (first | (go_at_call 32; (with_reducible refine call_later (flSteps_any x.1 x.2 _ (Hdr1.out.grew (by repeat (first | with_reducible exact Grew.refl _ | with_reducible apply Grew.alloc | with_reducible apply Grew.later | with_reducible apply Grew.drew | with_reducible apply Grew.store | with_reducible assumption))) ht hst) ?_); intro u) | ((with_reducible refine wp_region_later ?_ ?_ ?_); (· kernel_rfl); (· kernel_rfl); (repeat (go_big_quiet_step ((first | (go_at_call 32; (with_reducible exact call_quiet (flSteps_any x.1 x.2 _ (Hdr1.out.grew (by repeat (first | with_reducible exact Grew.refl _ | with_reducible apply Grew.alloc | with_reducible apply Grew.later | with_reducible apply Grew.drew | with_reducible apply Grew.store | with_reducible assumption))) ht hst))))))); refine wpQuiet_nil ?_; rintro _ ⟨u, rfl⟩))
                                  rw [← e1]
                                  go_roundw
                                  case rel => exact ⟨k + 1, s + stepsNum x.1 x.2, by go_num, rfl, by omega, by omega, by omega, by rw [Hfit.out, decide_eq_true H11.out, decide_eq_true h12]; rfl, (by repeat (first | with_reducible exact Grew.refl _ | with_reducible apply Grew.alloc | with_reducible apply Grew.later | with_reducible apply Grew.drew | with_reducible apply Grew.store | with_reducible assumption))⟩
                                  case measure => simp [intOf]; omega
                            · have hk' : m.arcs.n ≤ k := by rw [Hn.out]; omega
                              have Hfit := Lib.hid hfit
                              clear hfit
                              go_wp2
                              go_ret
                              exact ⟨ret_int (by rw [Hfin2.out, Hfit.out, List.drop_eq_nil_of_le (by omega)]; rfl), (by repeat (first | with_reducible exact Grew.refl _ | with_reducible apply Grew.alloc | with_reducible apply Grew.later | with_reducible apply Grew.drew | with_reducible apply Grew.store | with_reducible assumption))⟩

theorem r11Mode_any (m : Mode) (L : Arcs) (w : World) (hd : ModeArcs w m L) : Calls Try.prog 30 #[.agg #[.int .i64 m.height.lo, .int .i64 m.height.hi, .int .i64 m.speed.lo, .int .i64 m.speed.hi, .int .i64 m.pressure.lo, .int .i64 m.pressure.hi, .int .i64 m.a, .int .i64 m.z, .int .i64 m.failures, .int .i64 m.delay, .slice m.arcs.ao m.arcs.n m.arcs.cap, .int .i64 m.load, .int .i64 m.floor, .int .i64 m.touch]] w fun e w' => e = .returned (.int .i64 (codeB (m.okB L) 2)) ∧ Grew w w' := by
  have hn : m.arcs.n = L.length := by
    obtain ⟨⟨ao, cap, e, -⟩, -⟩ := hd
    simp at e
    exact e.2.1
  have Hn := Lib.hid hn
  have Hd := Lib.hid hd
  obtain ⟨⟨ao, cap, e, hm, hc⟩, hdr⟩ := hd
  obtain ⟨e1, -, -⟩ := by simpa using e
  rw [← e1] at hc
  clear e e1 hn
  unfold maxLen at hm
  have HcA := Lib.hid (SlAt.elem (f := arcCells) (c := 15) (fun _ => rfl) (by omega) hc)
  have Hdr := Lib.hid hdr
  clear hc hdr
  rcases bool_or (m.height.okB) with g1 | g1
  · have hno : m.okB L = false := by
      try rw [Hn.out] at h10
      simp only [Mode.okB]
      first | (simp [*]; done) | (simp [*]; omega)
    have Hno := Lib.hid hno
    clear hno
    go_enter Try.func30, Try.ntmps30
    go_wp2_with (first | (go_at_call 89; (with_reducible refine call_later (rCheck_any _ _) ?_); intro u) | (go_at_call 90; (with_reducible refine call_later (rNumber_any _ _) ?_); intro u) | ((with_reducible refine wp_region_later ?_ ?_ ?_); (· kernel_rfl); (· kernel_rfl); (repeat (go_big_quiet_step ((first | (go_at_call 89; (with_reducible exact call_quiet (rCheck_any _ _))) | (go_at_call 90; (with_reducible exact call_quiet (rNumber_any _ _))))))); refine wpQuiet_nil ?_; rintro _ ⟨u, rfl⟩))
    all_goals go_ret
    all_goals exact ⟨ret_int (by rw [Hno.out]; rfl), (by repeat (first | with_reducible exact Grew.refl _ | with_reducible apply Grew.alloc | with_reducible apply Grew.later | with_reducible apply Grew.drew | with_reducible apply Grew.store | with_reducible assumption))⟩
  · skip
    rcases bool_or (m.speed.okB) with g2 | g2
    · have hno : m.okB L = false := by
        try rw [Hn.out] at h10
        simp only [Mode.okB]
        first | (simp [*]; done) | (simp [*]; omega)
      have Hno := Lib.hid hno
      clear hno
      go_enter Try.func30, Try.ntmps30
      go_wp2_with (first | (go_at_call 89; (with_reducible refine call_later (rCheck_any _ _) ?_); intro u) | (go_at_call 90; (with_reducible refine call_later (rNumber_any _ _) ?_); intro u) | ((with_reducible refine wp_region_later ?_ ?_ ?_); (· kernel_rfl); (· kernel_rfl); (repeat (go_big_quiet_step ((first | (go_at_call 89; (with_reducible exact call_quiet (rCheck_any _ _))) | (go_at_call 90; (with_reducible exact call_quiet (rNumber_any _ _))))))); refine wpQuiet_nil ?_; rintro _ ⟨u, rfl⟩))
      all_goals go_ret
      all_goals exact ⟨ret_int (by rw [Hno.out]; rfl), (by repeat (first | with_reducible exact Grew.refl _ | with_reducible apply Grew.alloc | with_reducible apply Grew.later | with_reducible apply Grew.drew | with_reducible apply Grew.store | with_reducible assumption))⟩
    · skip
      rcases bool_or (m.pressure.okB) with g3 | g3
      · have hno : m.okB L = false := by
          try rw [Hn.out] at h10
          simp only [Mode.okB]
          first | (simp [*]; done) | (simp [*]; omega)
        have Hno := Lib.hid hno
        clear hno
        go_enter Try.func30, Try.ntmps30
        go_wp2_with (first | (go_at_call 89; (with_reducible refine call_later (rCheck_any _ _) ?_); intro u) | (go_at_call 90; (with_reducible refine call_later (rNumber_any _ _) ?_); intro u) | ((with_reducible refine wp_region_later ?_ ?_ ?_); (· kernel_rfl); (· kernel_rfl); (repeat (go_big_quiet_step ((first | (go_at_call 89; (with_reducible exact call_quiet (rCheck_any _ _))) | (go_at_call 90; (with_reducible exact call_quiet (rNumber_any _ _))))))); refine wpQuiet_nil ?_; rintro _ ⟨u, rfl⟩))
        all_goals go_ret
        all_goals exact ⟨ret_int (by rw [Hno.out]; rfl), (by repeat (first | with_reducible exact Grew.refl _ | with_reducible apply Grew.alloc | with_reducible apply Grew.later | with_reducible apply Grew.drew | with_reducible apply Grew.store | with_reducible assumption))⟩
      · skip
        rcases bool_or (numB m.a) with h1 | h1
        · have hno : m.okB L = false := by
            try rw [Hn.out] at h10
            simp only [Mode.okB]
            first | (simp [*]; done) | (simp [*]; omega)
          have Hno := Lib.hid hno
          clear hno
          go_enter Try.func30, Try.ntmps30
          go_wp2_with (first | (go_at_call 89; (with_reducible refine call_later (rCheck_any _ _) ?_); intro u) | (go_at_call 90; (with_reducible refine call_later (rNumber_any _ _) ?_); intro u) | ((with_reducible refine wp_region_later ?_ ?_ ?_); (· kernel_rfl); (· kernel_rfl); (repeat (go_big_quiet_step ((first | (go_at_call 89; (with_reducible exact call_quiet (rCheck_any _ _))) | (go_at_call 90; (with_reducible exact call_quiet (rNumber_any _ _))))))); refine wpQuiet_nil ?_; rintro _ ⟨u, rfl⟩))
          all_goals go_ret
          all_goals exact ⟨ret_int (by rw [Hno.out]; rfl), (by repeat (first | with_reducible exact Grew.refl _ | with_reducible apply Grew.alloc | with_reducible apply Grew.later | with_reducible apply Grew.drew | with_reducible apply Grew.store | with_reducible assumption))⟩
        · skip
          rcases bool_or (numB m.z) with h2 | h2
          · have hno : m.okB L = false := by
              try rw [Hn.out] at h10
              simp only [Mode.okB]
              first | (simp [*]; done) | (simp [*]; omega)
            have Hno := Lib.hid hno
            clear hno
            go_enter Try.func30, Try.ntmps30
            go_wp2_with (first | (go_at_call 89; (with_reducible refine call_later (rCheck_any _ _) ?_); intro u) | (go_at_call 90; (with_reducible refine call_later (rNumber_any _ _) ?_); intro u) | ((with_reducible refine wp_region_later ?_ ?_ ?_); (· kernel_rfl); (· kernel_rfl); (repeat (go_big_quiet_step ((first | (go_at_call 89; (with_reducible exact call_quiet (rCheck_any _ _))) | (go_at_call 90; (with_reducible exact call_quiet (rNumber_any _ _))))))); refine wpQuiet_nil ?_; rintro _ ⟨u, rfl⟩))
            all_goals go_ret
            all_goals exact ⟨ret_int (by rw [Hno.out]; rfl), (by repeat (first | with_reducible exact Grew.refl _ | with_reducible apply Grew.alloc | with_reducible apply Grew.later | with_reducible apply Grew.drew | with_reducible apply Grew.store | with_reducible assumption))⟩
          · skip
            rcases bool_or (numB m.floor) with h3 | h3
            · have hno : m.okB L = false := by
                try rw [Hn.out] at h10
                simp only [Mode.okB]
                first | (simp [*]; done) | (simp [*]; omega)
              have Hno := Lib.hid hno
              clear hno
              go_enter Try.func30, Try.ntmps30
              go_wp2_with (first | (go_at_call 89; (with_reducible refine call_later (rCheck_any _ _) ?_); intro u) | (go_at_call 90; (with_reducible refine call_later (rNumber_any _ _) ?_); intro u) | ((with_reducible refine wp_region_later ?_ ?_ ?_); (· kernel_rfl); (· kernel_rfl); (repeat (go_big_quiet_step ((first | (go_at_call 89; (with_reducible exact call_quiet (rCheck_any _ _))) | (go_at_call 90; (with_reducible exact call_quiet (rNumber_any _ _))))))); refine wpQuiet_nil ?_; rintro _ ⟨u, rfl⟩))
              all_goals go_ret
              all_goals exact ⟨ret_int (by rw [Hno.out]; rfl), (by repeat (first | with_reducible exact Grew.refl _ | with_reducible apply Grew.alloc | with_reducible apply Grew.later | with_reducible apply Grew.drew | with_reducible apply Grew.store | with_reducible assumption))⟩
            · skip
              rcases prop_or (m.a ≤ m.z) with h4 | h4
              · have hno : m.okB L = false := by
                  try rw [Hn.out] at h10
                  simp only [Mode.okB]
                  first | (simp [*]; done) | (simp [*]; omega)
                have Hno := Lib.hid hno
                clear hno
                go_enter Try.func30, Try.ntmps30
                go_wp2_with (first | (go_at_call 89; (with_reducible refine call_later (rCheck_any _ _) ?_); intro u) | (go_at_call 90; (with_reducible refine call_later (rNumber_any _ _) ?_); intro u) | ((with_reducible refine wp_region_later ?_ ?_ ?_); (· kernel_rfl); (· kernel_rfl); (repeat (go_big_quiet_step ((first | (go_at_call 89; (with_reducible exact call_quiet (rCheck_any _ _))) | (go_at_call 90; (with_reducible exact call_quiet (rNumber_any _ _))))))); refine wpQuiet_nil ?_; rintro _ ⟨u, rfl⟩))
                all_goals go_ret
                all_goals exact ⟨ret_int (by rw [Hno.out]; rfl), (by repeat (first | with_reducible exact Grew.refl _ | with_reducible apply Grew.alloc | with_reducible apply Grew.later | with_reducible apply Grew.drew | with_reducible apply Grew.store | with_reducible assumption))⟩
              · skip
                rcases prop_or (0 ≤ m.delay) with h5 | h5
                · have hno : m.okB L = false := by
                    try rw [Hn.out] at h10
                    simp only [Mode.okB]
                    first | (simp [*]; done) | (simp [*]; omega)
                  have Hno := Lib.hid hno
                  clear hno
                  go_enter Try.func30, Try.ntmps30
                  go_wp2_with (first | (go_at_call 89; (with_reducible refine call_later (rCheck_any _ _) ?_); intro u) | (go_at_call 90; (with_reducible refine call_later (rNumber_any _ _) ?_); intro u) | ((with_reducible refine wp_region_later ?_ ?_ ?_); (· kernel_rfl); (· kernel_rfl); (repeat (go_big_quiet_step ((first | (go_at_call 89; (with_reducible exact call_quiet (rCheck_any _ _))) | (go_at_call 90; (with_reducible exact call_quiet (rNumber_any _ _))))))); refine wpQuiet_nil ?_; rintro _ ⟨u, rfl⟩))
                  all_goals go_ret
                  all_goals exact ⟨ret_int (by rw [Hno.out]; rfl), (by repeat (first | with_reducible exact Grew.refl _ | with_reducible apply Grew.alloc | with_reducible apply Grew.later | with_reducible apply Grew.drew | with_reducible apply Grew.store | with_reducible assumption))⟩
                · skip
                  rcases prop_or (0 ≤ m.load) with h6 | h6
                  · have hno : m.okB L = false := by
                      try rw [Hn.out] at h10
                      simp only [Mode.okB]
                      first | (simp [*]; done) | (simp [*]; omega)
                    have Hno := Lib.hid hno
                    clear hno
                    go_enter Try.func30, Try.ntmps30
                    go_wp2_with (first | (go_at_call 89; (with_reducible refine call_later (rCheck_any _ _) ?_); intro u) | (go_at_call 90; (with_reducible refine call_later (rNumber_any _ _) ?_); intro u) | ((with_reducible refine wp_region_later ?_ ?_ ?_); (· kernel_rfl); (· kernel_rfl); (repeat (go_big_quiet_step ((first | (go_at_call 89; (with_reducible exact call_quiet (rCheck_any _ _))) | (go_at_call 90; (with_reducible exact call_quiet (rNumber_any _ _))))))); refine wpQuiet_nil ?_; rintro _ ⟨u, rfl⟩))
                    all_goals go_ret
                    all_goals exact ⟨ret_int (by rw [Hno.out]; rfl), (by repeat (first | with_reducible exact Grew.refl _ | with_reducible apply Grew.alloc | with_reducible apply Grew.later | with_reducible apply Grew.drew | with_reducible apply Grew.store | with_reducible assumption))⟩
                  · skip
                    rcases prop_or (0 ≤ m.touch) with h7 | h7
                    · have hno : m.okB L = false := by
                        try rw [Hn.out] at h10
                        simp only [Mode.okB]
                        first | (simp [*]; done) | (simp [*]; omega)
                      have Hno := Lib.hid hno
                      clear hno
                      go_enter Try.func30, Try.ntmps30
                      go_wp2_with (first | (go_at_call 89; (with_reducible refine call_later (rCheck_any _ _) ?_); intro u) | (go_at_call 90; (with_reducible refine call_later (rNumber_any _ _) ?_); intro u) | ((with_reducible refine wp_region_later ?_ ?_ ?_); (· kernel_rfl); (· kernel_rfl); (repeat (go_big_quiet_step ((first | (go_at_call 89; (with_reducible exact call_quiet (rCheck_any _ _))) | (go_at_call 90; (with_reducible exact call_quiet (rNumber_any _ _))))))); refine wpQuiet_nil ?_; rintro _ ⟨u, rfl⟩))
                      all_goals go_ret
                      all_goals exact ⟨ret_int (by rw [Hno.out]; rfl), (by repeat (first | with_reducible exact Grew.refl _ | with_reducible apply Grew.alloc | with_reducible apply Grew.later | with_reducible apply Grew.drew | with_reducible apply Grew.store | with_reducible assumption))⟩
                    · skip
                      rcases prop_or (0 ≤ m.failures) with h8 | h8
                      · have hno : m.okB L = false := by
                          try rw [Hn.out] at h10
                          simp only [Mode.okB]
                          first | (simp [*]; done) | (simp [*]; omega)
                        have Hno := Lib.hid hno
                        clear hno
                        go_enter Try.func30, Try.ntmps30
                        go_wp2_with (first | (go_at_call 89; (with_reducible refine call_later (rCheck_any _ _) ?_); intro u) | (go_at_call 90; (with_reducible refine call_later (rNumber_any _ _) ?_); intro u) | ((with_reducible refine wp_region_later ?_ ?_ ?_); (· kernel_rfl); (· kernel_rfl); (repeat (go_big_quiet_step ((first | (go_at_call 89; (with_reducible exact call_quiet (rCheck_any _ _))) | (go_at_call 90; (with_reducible exact call_quiet (rNumber_any _ _))))))); refine wpQuiet_nil ?_; rintro _ ⟨u, rfl⟩))
                        all_goals go_ret
                        all_goals exact ⟨ret_int (by rw [Hno.out]; rfl), (by repeat (first | with_reducible exact Grew.refl _ | with_reducible apply Grew.alloc | with_reducible apply Grew.later | with_reducible apply Grew.drew | with_reducible apply Grew.store | with_reducible assumption))⟩
                      · skip
                        rcases prop_or (m.failures ≤ 65535) with h9 | h9
                        · have hno : m.okB L = false := by
                            try rw [Hn.out] at h10
                            simp only [Mode.okB]
                            first | (simp [*]; done) | (simp [*]; omega)
                          have Hno := Lib.hid hno
                          clear hno
                          go_enter Try.func30, Try.ntmps30
                          go_wp2_with (first | (go_at_call 89; (with_reducible refine call_later (rCheck_any _ _) ?_); intro u) | (go_at_call 90; (with_reducible refine call_later (rNumber_any _ _) ?_); intro u) | ((with_reducible refine wp_region_later ?_ ?_ ?_); (· kernel_rfl); (· kernel_rfl); (repeat (go_big_quiet_step ((first | (go_at_call 89; (with_reducible exact call_quiet (rCheck_any _ _))) | (go_at_call 90; (with_reducible exact call_quiet (rNumber_any _ _))))))); refine wpQuiet_nil ?_; rintro _ ⟨u, rfl⟩))
                          all_goals go_ret
                          all_goals exact ⟨ret_int (by rw [Hno.out]; rfl), (by repeat (first | with_reducible exact Grew.refl _ | with_reducible apply Grew.alloc | with_reducible apply Grew.later | with_reducible apply Grew.drew | with_reducible apply Grew.store | with_reducible assumption))⟩
                        · skip
                          rcases prop_or (m.arcs.n ≤ 32) with h10 | h10
                          · have hno : m.okB L = false := by
                              try rw [Hn.out] at h10
                              simp only [Mode.okB]
                              first | (simp [*]; done) | (simp [*]; omega)
                            have Hno := Lib.hid hno
                            clear hno
                            go_enter Try.func30, Try.ntmps30
                            go_wp2_with (first | (go_at_call 89; (with_reducible refine call_later (rCheck_any _ _) ?_); intro u) | (go_at_call 90; (with_reducible refine call_later (rNumber_any _ _) ?_); intro u) | ((with_reducible refine wp_region_later ?_ ?_ ?_); (· kernel_rfl); (· kernel_rfl); (repeat (go_big_quiet_step ((first | (go_at_call 89; (with_reducible exact call_quiet (rCheck_any _ _))) | (go_at_call 90; (with_reducible exact call_quiet (rNumber_any _ _))))))); refine wpQuiet_nil ?_; rintro _ ⟨u, rfl⟩))
                            all_goals go_ret
                            all_goals exact ⟨ret_int (by rw [Hno.out]; rfl), (by repeat (first | with_reducible exact Grew.refl _ | with_reducible apply Grew.alloc | with_reducible apply Grew.later | with_reducible apply Grew.drew | with_reducible apply Grew.store | with_reducible assumption))⟩
                          · skip
                            have Hfin2 := Lib.hid (show m.okB L = fitB 64 0 L by rw [Hn.out] at h10; simp [Mode.okB, *])
                            go_enter Try.func30, Try.ntmps30
                            go_wp2_with (first | (go_at_call 89; (with_reducible refine call_later (rCheck_any _ _) ?_); intro u) | (go_at_call 90; (with_reducible refine call_later (rNumber_any _ _) ?_); intro u) | ((with_reducible refine wp_region_later ?_ ?_ ?_); (· kernel_rfl); (· kernel_rfl); (repeat (go_big_quiet_step ((first | (go_at_call 89; (with_reducible exact call_quiet (rCheck_any _ _))) | (go_at_call 90; (with_reducible exact call_quiet (rNumber_any _ _))))))); refine wpQuiet_nil ?_; rintro _ ⟨u, rfl⟩))
                            go_loopw [5, 6] (fun q t wr => ∃ (k : Nat) (s : Int), t = .int .i64 k ∧ q = .int .i64 s ∧ k ≤ L.length ∧ 0 ≤ s ∧ s ≤ 64 ∧ fitB 64 0 L = fitB 64 s (L.drop k) ∧ Grew u.world wr) (fun _ t _ => L.length - (intOf t).toNat)
                            case atStart => exact ⟨0, 0, rfl, rfl, by omega, by omega, by omega, rfl, Grew.refl _⟩
                            case round =>
                              obtain ⟨k, s, rfl, rfl, hk, hs1, hs2, hfit, hg⟩ := hrel
                              obtain ⟨z, rfl⟩ := later_of hg
                              clear hg
                              by_cases hlt : k < L.length
                              · obtain ⟨b1, o1, e1, i1, hd1, hd2⟩ := HcA.out k hlt
                                obtain ⟨hdr, ht, hst⟩ := Hdr.out _ (List.getElem_mem hlt)
                                have Hdr1 := Lib.hid hdr
                                clear hdr
                                have hc0 := hd1 _ rfl
                                have hc1 := hd2 1 _ rfl
                                have hc2 := hd2 2 _ rfl
                                have hc3 := hd2 3 _ rfl
                                have hc4 := hd2 4 _ rfl
                                have hc5 := hd2 5 _ rfl
                                have hc6 := hd2 6 _ rfl
                                have hc7 := hd2 7 _ rfl
                                have hc8 := hd2 8 _ rfl
                                have hc9 := hd2 9 _ rfl
                                have hc10 := hd2 10 _ rfl
                                have hc11 := hd2 11 _ rfl
                                have hc12 := hd2 12 _ rfl
                                have hc13 := hd2 13 _ rfl
                                have hc14 := hd2 14 _ rfl
                                clear hd1 hd2
                                have i1 : BlockIn w b1 := ⟨i1⟩
                                rw [drop_cons L k hlt, fitB] at hfit
                                have Hfit := Lib.hid hfit
                                clear hfit
                                have hb := stepsNum_bd L[k].1 L[k].2
                                obtain ⟨hb1, hb2⟩ := hb
                                have hlt' : k < m.arcs.n := by rw [Hn.out]; exact hlt
                                generalize hx : L[k] = x at *
                                have Hx := Lib.hid hx
                                clear hx
                                rcases prop_or (stepsCode x.1 x.2 = 0) with h11 | h11
                                · have h11' : (stepsCode x.1 x.2 != 0) = true := by simp [h11]
                                  clear h11
                                  go_wp2_with (first | (go_at_call 33; (with_reducible refine call_later (r3Steps_any x.1 x.2 _ (Hdr1.out.grew (by repeat (first | with_reducible exact Grew.refl _ | with_reducible apply Grew.alloc | with_reducible apply Grew.later | with_reducible apply Grew.drew | with_reducible apply Grew.store | with_reducible assumption))) ht hst) ?_); intro u) | ((with_reducible refine wp_region_later ?_ ?_ ?_); (· kernel_rfl); (· kernel_rfl); (repeat (go_big_quiet_step ((first | (go_at_call 33; (with_reducible exact call_quiet (r3Steps_any x.1 x.2 _ (Hdr1.out.grew (by repeat (first | with_reducible exact Grew.refl _ | with_reducible apply Grew.alloc | with_reducible apply Grew.later | with_reducible apply Grew.drew | with_reducible apply Grew.store | with_reducible assumption))) ht hst))))))); refine wpQuiet_nil ?_; rintro _ ⟨u, rfl⟩))
                                  go_ret
                                  exact ⟨ret_int (by
                                    have : ¬ stepsCode x.1 x.2 = 0 := by simpa using h11'
                                    rw [Hfin2.out, Hfit.out, decide_eq_false this]; rfl), (by repeat (first | with_reducible exact Grew.refl _ | with_reducible apply Grew.alloc | with_reducible apply Grew.later | with_reducible apply Grew.drew | with_reducible apply Grew.store | with_reducible assumption))⟩
                                · have h11' : (stepsCode x.1 x.2 != 0) = false := by simp [h11]
                                  have H11 := Lib.hid h11
                                  clear h11
                                  rcases prop_or (s + stepsNum x.1 x.2 ≤ 64) with h12 | h12
                                  · go_wp2_with (first | (go_at_call 33; (with_reducible refine call_later (r3Steps_any x.1 x.2 _ (Hdr1.out.grew (by repeat (first | with_reducible exact Grew.refl _ | with_reducible apply Grew.alloc | with_reducible apply Grew.later | with_reducible apply Grew.drew | with_reducible apply Grew.store | with_reducible assumption))) ht hst) ?_); intro u) | ((with_reducible refine wp_region_later ?_ ?_ ?_); (· kernel_rfl); (· kernel_rfl); (repeat (go_big_quiet_step ((first | (go_at_call 33; (with_reducible exact call_quiet (r3Steps_any x.1 x.2 _ (Hdr1.out.grew (by repeat (first | with_reducible exact Grew.refl _ | with_reducible apply Grew.alloc | with_reducible apply Grew.later | with_reducible apply Grew.drew | with_reducible apply Grew.store | with_reducible assumption))) ht hst))))))); refine wpQuiet_nil ?_; rintro _ ⟨u, rfl⟩))
                                    go_ret
                                    exact ⟨ret_int (by rw [Hfin2.out, Hfit.out, decide_eq_false (show ¬ s + stepsNum x.1 x.2 ≤ 64 by omega), Bool.and_false]; rfl), (by repeat (first | with_reducible exact Grew.refl _ | with_reducible apply Grew.alloc | with_reducible apply Grew.later | with_reducible apply Grew.drew | with_reducible apply Grew.store | with_reducible assumption))⟩
                                  · go_wp2_with (first | (go_at_call 33; (with_reducible refine call_later (r3Steps_any x.1 x.2 _ (Hdr1.out.grew (by repeat (first | with_reducible exact Grew.refl _ | with_reducible apply Grew.alloc | with_reducible apply Grew.later | with_reducible apply Grew.drew | with_reducible apply Grew.store | with_reducible assumption))) ht hst) ?_); intro u) | ((with_reducible refine wp_region_later ?_ ?_ ?_); (· kernel_rfl); (· kernel_rfl); (repeat (go_big_quiet_step ((first | (go_at_call 33; (with_reducible exact call_quiet (r3Steps_any x.1 x.2 _ (Hdr1.out.grew (by repeat (first | with_reducible exact Grew.refl _ | with_reducible apply Grew.alloc | with_reducible apply Grew.later | with_reducible apply Grew.drew | with_reducible apply Grew.store | with_reducible assumption))) ht hst))))))); refine wpQuiet_nil ?_; rintro _ ⟨u, rfl⟩))
                                    rw [← e1]
                                    go_roundw
                                    case rel => exact ⟨k + 1, s + stepsNum x.1 x.2, by go_num, rfl, by omega, by omega, by omega, by rw [Hfit.out, decide_eq_true H11.out, decide_eq_true h12]; rfl, (by repeat (first | with_reducible exact Grew.refl _ | with_reducible apply Grew.alloc | with_reducible apply Grew.later | with_reducible apply Grew.drew | with_reducible apply Grew.store | with_reducible assumption))⟩
                                    case measure => simp [intOf]; omega
                              · have hk' : m.arcs.n ≤ k := by rw [Hn.out]; omega
                                have Hfit := Lib.hid hfit
                                clear hfit
                                go_wp2
                                go_ret
                                exact ⟨ret_int (by rw [Hfin2.out, Hfit.out, List.drop_eq_nil_of_le (by omega)]; rfl), (by repeat (first | with_reducible exact Grew.refl _ | with_reducible apply Grew.alloc | with_reducible apply Grew.later | with_reducible apply Grew.drew | with_reducible apply Grew.store | with_reducible assumption))⟩
end Go.Proofs.Ytdanaclplmacgaa
