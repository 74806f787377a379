/-
  Contracts: flight.CheckArc, flight.Steps.
-/
import Derived.Test.YtgjikdhidakloaaFlightOk
namespace Go.Proofs.Ytgjikdhidakloaa
open Go.RowKit
set_option maxRecDepth 100000
set_option maxHeartbeats 1000000

def dirB (d : Bx) : Bool := d.x.inB unit && d.y.inB unit && d.z.inB unit
def forcesB (a : Arc) : Bool := [a.thrust, a.flow, a.drop].all (fun s => s.leastB 0)
def dragB (l : List Pt) : Bool := l.isEmpty || tableB l
def Arc.okB (a : Arc) (l : List Pt) : Bool := dirB a.dir && forcesB a && decide (1 ≤ a.time) && decide (1 ≤ a.step) && dragB l
theorem drag_n {w : World} {a : Arc} {l : List Pt} (h : DragAt w a l) : a.drag.n = l.length := by
  obtain ⟨ao, cap, e, -⟩ := h
  simp at e
  exact e.2.1
theorem DragAt.grew {w w' : World} {a : Arc} {l : List Pt} (h : DragAt w a l) (g : Grew w w') : DragAt w' a l := SlAt.grew h g
theorem dirB_no (d : Bx) (k : Nat) (hk : k < 3) (h : (d.at k).inB unit = false) : dirB d = false := by
  match k, hk with
  | 0, _ => simp only [Bx.at] at h; simp [dirB, h]
  | 1, _ => simp only [Bx.at] at h; simp [dirB, h]
  | 2, _ => simp only [Bx.at] at h; simp [dirB, h]

theorem spTable_drag (a : Arc) (l : List Pt) (w : World) (h : DragAt w a l) : Calls Try.prog 87 #[.slice a.drag.ao a.drag.n a.drag.cap] w fun e w' => e = .returned (.int .i64 (codeB (tableB l) 2)) ∧ Grew w w' := spTable_any l _ w h
theorem rTable_drag (a : Arc) (l : List Pt) (w : World) (h : DragAt w a l) : Calls Try.prog 83 #[.slice a.drag.ao a.drag.n a.drag.cap] w fun e w' => e = .returned (.int .i64 (codeB (tableB l) 2)) ∧ Grew w w' := rTable_any l _ w h
theorem flArc_any (a : Arc) (l : List Pt) (w : World) (hd : DragAt w a l) : Calls Try.prog 64 #[.agg #[.int .i64 a.time, .int .i64 a.step, .int .i64 a.thrust.lo, .int .i64 a.thrust.hi, .int .i64 a.flow.lo, .int .i64 a.flow.hi, .int .i64 a.dir.x.lo, .int .i64 a.dir.x.hi, .int .i64 a.dir.y.lo, .int .i64 a.dir.y.hi, .int .i64 a.dir.z.lo, .int .i64 a.dir.z.hi, .slice a.drag.ao a.drag.n a.drag.cap, .int .i64 a.drop.lo, .int .i64 a.drop.hi]] w fun e w' => e = .returned (.int .i64 (codeB (a.okB l) 2)) ∧ Grew w w' := by
  have Hn := Lib.hid (drag_n hd)
  have Hd := Lib.hid hd
  clear hd
  have i0 : ∀ w, (Instr.index 69 (.agg #[.int .i64 a.dir.x.lo, .int .i64 a.dir.x.hi, .int .i64 a.dir.y.lo, .int .i64 a.dir.y.hi, .int .i64 a.dir.z.lo, .int .i64 a.dir.z.hi]) (.int .i64 0)).run Try.prog w = .ok (.agg #[.int .i64 a.dir.x.lo, .int .i64 a.dir.x.hi]) w := fun _ => by kernel_rfl
  have i1 : ∀ w, (Instr.index 69 (.agg #[.int .i64 a.dir.x.lo, .int .i64 a.dir.x.hi, .int .i64 a.dir.y.lo, .int .i64 a.dir.y.hi, .int .i64 a.dir.z.lo, .int .i64 a.dir.z.hi]) (.int .i64 1)).run Try.prog w = .ok (.agg #[.int .i64 a.dir.y.lo, .int .i64 a.dir.y.hi]) w := fun _ => by kernel_rfl
  have i2 : ∀ w, (Instr.index 69 (.agg #[.int .i64 a.dir.x.lo, .int .i64 a.dir.x.hi, .int .i64 a.dir.y.lo, .int .i64 a.dir.y.hi, .int .i64 a.dir.z.lo, .int .i64 a.dir.z.hi]) (.int .i64 2)).run Try.prog w = .ok (.agg #[.int .i64 a.dir.z.lo, .int .i64 a.dir.z.hi]) w := fun _ => by kernel_rfl
  go_enter Try.func64, Try.ntmps64
  go_wp2
  go_loopw [11] (fun t wr => ∃ k : Nat, t = .int .i64 k ∧ k ≤ 3 ∧ (∀ j, j < k → (a.dir.at j).inB unit = true) ∧ Grew ((w.alloc (.cells #[.int .i64 a.time, .int .i64 a.step, .int .i64 a.thrust.lo, .int .i64 a.thrust.hi, .int .i64 a.flow.lo, .int .i64 a.flow.hi, .int .i64 a.dir.x.lo, .int .i64 a.dir.x.hi, .int .i64 a.dir.y.lo, .int .i64 a.dir.y.hi, .int .i64 a.dir.z.lo, .int .i64 a.dir.z.hi, .slice a.drag.ao a.drag.n a.drag.cap, .int .i64 a.drop.lo, .int .i64 a.drop.hi] 72)).alloc (.cells #[.int .i64 (-4294967296), .int .i64 4294967296] 67)) wr) (fun t _ => 3 - (intOf t).toNat)
  case atStart => exact ⟨0, rfl, by omega, fun j hj => by omega, (by repeat (first | with_reducible exact Grew.refl _ | with_reducible apply Grew.alloc | with_reducible apply Grew.later | with_reducible apply Grew.drew | with_reducible apply Grew.store | with_reducible assumption))⟩
  case round =>
    obtain ⟨k, rfl, hk, hall, hg⟩ := hrel
    obtain ⟨x, rfl⟩ := later_of hg
    clear hg
    have Hall := Lib.hid hall
    clear hall
    by_cases hlt : k < 3
    · have hkk : k = 0 ∨ k = 1 ∨ k = 2 := by omega
      rcases hkk with rfl | rfl | rfl
      · cases h : (a.dir.x).inB unit
        · go_wp2_with (first | (go_at_call 85; (with_reducible refine call_later (spWithin_any _ unit _) ?_); intro u) | ((with_reducible refine wp_region_later ?_ ?_ ?_); (· kernel_rfl); (· kernel_rfl); (repeat (go_big_quiet_step ((first | (go_at_call 85; (with_reducible exact call_quiet (spWithin_any _ unit _))))))); refine wpQuiet_nil ?_; rintro _ ⟨u, rfl⟩))
          go_ret
          exact ⟨ret_int (by rw [show a.okB l = false by simp [Arc.okB, dirB, h]]; rfl), (by repeat (first | with_reducible exact Grew.refl _ | with_reducible apply Grew.alloc | with_reducible apply Grew.later | with_reducible apply Grew.drew | with_reducible apply Grew.store | with_reducible assumption))⟩
        · go_wp2_with (first | (go_at_call 85; (with_reducible refine call_later (spWithin_any _ unit _) ?_); intro u) | ((with_reducible refine wp_region_later ?_ ?_ ?_); (· kernel_rfl); (· kernel_rfl); (repeat (go_big_quiet_step ((first | (go_at_call 85; (with_reducible exact call_quiet (spWithin_any _ unit _))))))); refine wpQuiet_nil ?_; rintro _ ⟨u, rfl⟩))
          go_roundw
          case rel => exact ⟨0 + 1, rfl, by omega, fun j hj => by rcases Nat.lt_succ_iff_lt_or_eq.1 hj with hj | rfl; exact Hall.out j hj; exact h, (by repeat (first | with_reducible exact Grew.refl _ | with_reducible apply Grew.alloc | with_reducible apply Grew.later | with_reducible apply Grew.drew | with_reducible apply Grew.store | with_reducible assumption))⟩
          case measure => simp [intOf]
      · cases h : (a.dir.y).inB unit
        · go_wp2_with (first | (go_at_call 85; (with_reducible refine call_later (spWithin_any _ unit _) ?_); intro u) | ((with_reducible refine wp_region_later ?_ ?_ ?_); (· kernel_rfl); (· kernel_rfl); (repeat (go_big_quiet_step ((first | (go_at_call 85; (with_reducible exact call_quiet (spWithin_any _ unit _))))))); refine wpQuiet_nil ?_; rintro _ ⟨u, rfl⟩))
          go_ret
          exact ⟨ret_int (by rw [show a.okB l = false by simp [Arc.okB, dirB, h]]; rfl), (by repeat (first | with_reducible exact Grew.refl _ | with_reducible apply Grew.alloc | with_reducible apply Grew.later | with_reducible apply Grew.drew | with_reducible apply Grew.store | with_reducible assumption))⟩
        · go_wp2_with (first | (go_at_call 85; (with_reducible refine call_later (spWithin_any _ unit _) ?_); intro u) | ((with_reducible refine wp_region_later ?_ ?_ ?_); (· kernel_rfl); (· kernel_rfl); (repeat (go_big_quiet_step ((first | (go_at_call 85; (with_reducible exact call_quiet (spWithin_any _ unit _))))))); refine wpQuiet_nil ?_; rintro _ ⟨u, rfl⟩))
          go_roundw
          case rel => exact ⟨1 + 1, rfl, by omega, fun j hj => by rcases Nat.lt_succ_iff_lt_or_eq.1 hj with hj | rfl; exact Hall.out j hj; exact h, (by repeat (first | with_reducible exact Grew.refl _ | with_reducible apply Grew.alloc | with_reducible apply Grew.later | with_reducible apply Grew.drew | with_reducible apply Grew.store | with_reducible assumption))⟩
          case measure => simp [intOf]
      · cases h : (a.dir.z).inB unit
        · go_wp2_with (first | (go_at_call 85; (with_reducible refine call_later (spWithin_any _ unit _) ?_); intro u) | ((with_reducible refine wp_region_later ?_ ?_ ?_); (· kernel_rfl); (· kernel_rfl); (repeat (go_big_quiet_step ((first | (go_at_call 85; (with_reducible exact call_quiet (spWithin_any _ unit _))))))); refine wpQuiet_nil ?_; rintro _ ⟨u, rfl⟩))
          go_ret
          exact ⟨ret_int (by rw [show a.okB l = false by simp [Arc.okB, dirB, h]]; rfl), (by repeat (first | with_reducible exact Grew.refl _ | with_reducible apply Grew.alloc | with_reducible apply Grew.later | with_reducible apply Grew.drew | with_reducible apply Grew.store | with_reducible assumption))⟩
        · go_wp2_with (first | (go_at_call 85; (with_reducible refine call_later (spWithin_any _ unit _) ?_); intro u) | ((with_reducible refine wp_region_later ?_ ?_ ?_); (· kernel_rfl); (· kernel_rfl); (repeat (go_big_quiet_step ((first | (go_at_call 85; (with_reducible exact call_quiet (spWithin_any _ unit _))))))); refine wpQuiet_nil ?_; rintro _ ⟨u, rfl⟩))
          go_roundw
          case rel => exact ⟨2 + 1, rfl, by omega, fun j hj => by rcases Nat.lt_succ_iff_lt_or_eq.1 hj with hj | rfl; exact Hall.out j hj; exact h, (by repeat (first | with_reducible exact Grew.refl _ | with_reducible apply Grew.alloc | with_reducible apply Grew.later | with_reducible apply Grew.drew | with_reducible apply Grew.store | with_reducible assumption))⟩
          case measure => simp [intOf]
    · obtain rfl : k = 3 := by omega
      have Hdir := Lib.hid (show dirB a.dir = true by
        have h0 := Hall.out 0 (by omega)
        have h1 := Hall.out 1 (by omega)
        have h2 := Hall.out 2 (by omega)
        simp only [Bx.at] at h0 h1 h2
        simp [dirB, h0, h1, h2])
      clear Hall
      have hW := SlAt.fresh (w := x.world) [.int .i64 a.thrust.lo, .int .i64 a.thrust.hi, .int .i64 a.flow.lo, .int .i64 a.flow.hi, .int .i64 a.drop.lo, .int .i64 a.drop.hi] 67 3 3 (by simp [maxLen])
      obtain ⟨ao, cap, e, -, hc⟩ := hW
      cases e
      have Hc := Lib.hid (SlAt.elem (f := Sp.cells) (c := 2) (l := [a.thrust, a.flow, a.drop]) (fun _ => rfl) (by omega) hc)
      clear hc
      rw [show ((3 : Nat) : Int) = 3 from rfl]
      go_wp2_with fail
      go_loopw [27] (fun t wr => ∃ k : Nat, t = .int .i64 k ∧ k ≤ 3 ∧ ([a.thrust, a.flow, a.drop].take k).all (fun s => s.leastB 0) = true ∧ Grew (x.world.alloc (.cells #[.int .i64 a.thrust.lo, .int .i64 a.thrust.hi, .int .i64 a.flow.lo, .int .i64 a.flow.hi, .int .i64 a.drop.lo, .int .i64 a.drop.hi] 67)) wr) (fun t _ => 3 - (intOf t).toNat)
      case atStart => exact ⟨0, rfl, by omega, rfl, (by repeat (first | with_reducible exact Grew.refl _ | with_reducible apply Grew.alloc | with_reducible apply Grew.later | with_reducible apply Grew.drew | with_reducible apply Grew.store | with_reducible assumption))⟩
      case round =>
        obtain ⟨k, rfl, hk, hall, hg⟩ := hrel
        obtain ⟨y, rfl⟩ := later_of hg
        clear hg
        have Hall := Lib.hid hall
        clear hall
        by_cases hlt : k < 3
        · obtain ⟨b1, o1, e1, i1, hd1, hd2⟩ := Hc.out k hlt
          cases e1
          have hd1 := hd1 _ rfl
          have hd2 := hd2 1 _ rfl
          obtain ⟨s, hs⟩ : ∃ s, s = [a.thrust, a.flow, a.drop][k] := ⟨_, rfl⟩
          rw [← hs] at hd1 hd2
          have Hno := Lib.hid (fun h : s.leastB 0 = false => show a.okB l = false by simp only [Arc.okB, forcesB, all_false (fun s : Sp => s.leastB 0) [a.thrust, a.flow, a.drop] k hlt (by rw [← hs]; exact h), Bool.and_false, Bool.false_and])
          have Hs := Lib.hid hs
          clear hs
          simp only [Nat.zero_add] at hd1 hd2
          rcases chain2 s.okB (decide (0 ≤ s.lo)) with h1 | ⟨h1, h2⟩ | ⟨h1, h2⟩
          · go_wp2_with (first | (go_at_call 86; (with_reducible refine call_later (flSpans_one s _ _ (SlAt.fresh _ _ _ _ (by simp [maxLen]))) ?_); intro u) | ((with_reducible refine wp_region_later ?_ ?_ ?_); (· kernel_rfl); (· kernel_rfl); (repeat (go_big_quiet_step ((first | (go_at_call 86; (with_reducible exact call_quiet (flSpans_one s _ _ (SlAt.fresh _ _ _ _ (by simp [maxLen]))))))))); refine wpQuiet_nil ?_; rintro _ ⟨u, rfl⟩))
            go_ret
            exact ⟨ret_int (by rw [Hno.out (by simp [Sp.leastB, h1])]; rfl), (by repeat (first | with_reducible exact Grew.refl _ | with_reducible apply Grew.alloc | with_reducible apply Grew.later | with_reducible apply Grew.drew | with_reducible apply Grew.store | with_reducible assumption))⟩
          · have h3 : s.lo < 0 := by simpa using h2
            go_wp2_with (first | (go_at_call 86; (with_reducible refine call_later (flSpans_one s _ _ (SlAt.fresh _ _ _ _ (by simp [maxLen]))) ?_); intro u) | ((with_reducible refine wp_region_later ?_ ?_ ?_); (· kernel_rfl); (· kernel_rfl); (repeat (go_big_quiet_step ((first | (go_at_call 86; (with_reducible exact call_quiet (flSpans_one s _ _ (SlAt.fresh _ _ _ _ (by simp [maxLen]))))))))); refine wpQuiet_nil ?_; rintro _ ⟨u, rfl⟩))
            go_ret
            exact ⟨ret_int (by rw [Hno.out (by simp [Sp.leastB]; omega)]; rfl), (by repeat (first | with_reducible exact Grew.refl _ | with_reducible apply Grew.alloc | with_reducible apply Grew.later | with_reducible apply Grew.drew | with_reducible apply Grew.store | with_reducible assumption))⟩
          · have h3 : 0 ≤ s.lo := by simpa using h2
            go_wp2_with (first | (go_at_call 86; (with_reducible refine call_later (flSpans_one s _ _ (SlAt.fresh _ _ _ _ (by simp [maxLen]))) ?_); intro u) | ((with_reducible refine wp_region_later ?_ ?_ ?_); (· kernel_rfl); (· kernel_rfl); (repeat (go_big_quiet_step ((first | (go_at_call 86; (with_reducible exact call_quiet (flSpans_one s _ _ (SlAt.fresh _ _ _ _ (by simp [maxLen]))))))))); refine wpQuiet_nil ?_; rintro _ ⟨u, rfl⟩))
            go_roundw
            case rel => exact ⟨k + 1, by go_num, by omega, all_take_succ (fun s : Sp => s.leastB 0) [a.thrust, a.flow, a.drop] k hlt Hall.out (by rw [← Hs.out]; simp [Sp.leastB, h1, h3]), (by repeat (first | with_reducible exact Grew.refl _ | with_reducible apply Grew.alloc | with_reducible apply Grew.later | with_reducible apply Grew.drew | with_reducible apply Grew.store | with_reducible assumption))⟩
            case measure => simp [intOf]; omega
        · obtain rfl : k = 3 := by omega
          rw [show ((3 : Nat) : Int) = 3 from rfl]
          have Hf := Lib.hid (show forcesB a = true from Hall.out)
          clear Hall Hc
          have hfin : a.okB l = (decide (1 ≤ a.time) && decide (1 ≤ a.step) && dragB l) := by simp only [Arc.okB, Hdir.out, Hf.out, Bool.true_and]
          have Hfin := Lib.hid hfin
          clear hfin Hf Hdir
          rcases prop_or (1 ≤ a.time) with h1 | h1
          · go_wp2_with (first | (go_at_call 87; (with_reducible refine call_later (spTable_drag a l _ (Hd.out.grew (by repeat (first | with_reducible exact Grew.refl _ | with_reducible apply Grew.alloc | with_reducible apply Grew.later | with_reducible apply Grew.drew | with_reducible apply Grew.store | with_reducible assumption)))) ?_); intro u) | ((with_reducible refine wp_region_later ?_ ?_ ?_); (· kernel_rfl); (· kernel_rfl); (repeat (go_big_quiet_step ((first | (go_at_call 87; (with_reducible exact call_quiet (spTable_drag a l _ (Hd.out.grew (by repeat (first | with_reducible exact Grew.refl _ | with_reducible apply Grew.alloc | with_reducible apply Grew.later | with_reducible apply Grew.drew | with_reducible apply Grew.store | with_reducible assumption)))))))))); refine wpQuiet_nil ?_; rintro _ ⟨u, rfl⟩))
            go_ret
            exact ⟨ret_int (by rw [Hfin.out, decide_eq_false (by omega)]; rfl), (by repeat (first | with_reducible exact Grew.refl _ | with_reducible apply Grew.alloc | with_reducible apply Grew.later | with_reducible apply Grew.drew | with_reducible apply Grew.store | with_reducible assumption))⟩
          rcases prop_or (1 ≤ a.step) with h2 | h2
          · go_wp2_with (first | (go_at_call 87; (with_reducible refine call_later (spTable_drag a l _ (Hd.out.grew (by repeat (first | with_reducible exact Grew.refl _ | with_reducible apply Grew.alloc | with_reducible apply Grew.later | with_reducible apply Grew.drew | with_reducible apply Grew.store | with_reducible assumption)))) ?_); intro u) | ((with_reducible refine wp_region_later ?_ ?_ ?_); (· kernel_rfl); (· kernel_rfl); (repeat (go_big_quiet_step ((first | (go_at_call 87; (with_reducible exact call_quiet (spTable_drag a l _ (Hd.out.grew (by repeat (first | with_reducible exact Grew.refl _ | with_reducible apply Grew.alloc | with_reducible apply Grew.later | with_reducible apply Grew.drew | with_reducible apply Grew.store | with_reducible assumption)))))))))); refine wpQuiet_nil ?_; rintro _ ⟨u, rfl⟩))
            go_ret
            exact ⟨ret_int (by rw [Hfin.out, decide_eq_false (show ¬ 1 ≤ a.step by omega), Bool.and_false]; rfl), (by repeat (first | with_reducible exact Grew.refl _ | with_reducible apply Grew.alloc | with_reducible apply Grew.later | with_reducible apply Grew.drew | with_reducible apply Grew.store | with_reducible assumption))⟩
          rcases prop_or (a.drag.n = 0) with h3 | h3
          · have h3' : 0 < a.drag.n := by omega
            have Hl := Lib.hid (show l.isEmpty = false by have := Hn.out; cases l with | nil => exact absurd this h3 | cons _ _ => rfl)
            clear h3
            cases h4 : tableB l
            · go_wp2_with (first | (go_at_call 87; (with_reducible refine call_later (spTable_drag a l _ (Hd.out.grew (by repeat (first | with_reducible exact Grew.refl _ | with_reducible apply Grew.alloc | with_reducible apply Grew.later | with_reducible apply Grew.drew | with_reducible apply Grew.store | with_reducible assumption)))) ?_); intro u) | ((with_reducible refine wp_region_later ?_ ?_ ?_); (· kernel_rfl); (· kernel_rfl); (repeat (go_big_quiet_step ((first | (go_at_call 87; (with_reducible exact call_quiet (spTable_drag a l _ (Hd.out.grew (by repeat (first | with_reducible exact Grew.refl _ | with_reducible apply Grew.alloc | with_reducible apply Grew.later | with_reducible apply Grew.drew | with_reducible apply Grew.store | with_reducible assumption)))))))))); refine wpQuiet_nil ?_; rintro _ ⟨u, rfl⟩))
              go_ret
              exact ⟨ret_int (by rw [Hfin.out, dragB, Hl.out, h4, Bool.or_false, Bool.and_false]; rfl), (by repeat (first | with_reducible exact Grew.refl _ | with_reducible apply Grew.alloc | with_reducible apply Grew.later | with_reducible apply Grew.drew | with_reducible apply Grew.store | with_reducible assumption))⟩
            · go_wp2_with (first | (go_at_call 87; (with_reducible refine call_later (spTable_drag a l _ (Hd.out.grew (by repeat (first | with_reducible exact Grew.refl _ | with_reducible apply Grew.alloc | with_reducible apply Grew.later | with_reducible apply Grew.drew | with_reducible apply Grew.store | with_reducible assumption)))) ?_); intro u) | ((with_reducible refine wp_region_later ?_ ?_ ?_); (· kernel_rfl); (· kernel_rfl); (repeat (go_big_quiet_step ((first | (go_at_call 87; (with_reducible exact call_quiet (spTable_drag a l _ (Hd.out.grew (by repeat (first | with_reducible exact Grew.refl _ | with_reducible apply Grew.alloc | with_reducible apply Grew.later | with_reducible apply Grew.drew | with_reducible apply Grew.store | with_reducible assumption)))))))))); refine wpQuiet_nil ?_; rintro _ ⟨u, rfl⟩))
              go_ret
              exact ⟨ret_int (by rw [Hfin.out, dragB, h4, Bool.or_true, decide_eq_true h1, decide_eq_true h2]; rfl), (by repeat (first | with_reducible exact Grew.refl _ | with_reducible apply Grew.alloc | with_reducible apply Grew.later | with_reducible apply Grew.drew | with_reducible apply Grew.store | with_reducible assumption))⟩
          · have h3' : ¬ 0 < a.drag.n := by omega
            have Hl := Lib.hid (show l.isEmpty = true by have := Hn.out; cases l with | nil => rfl | cons _ _ => simp at this; omega)
            clear h3
            go_wp2_with (first | (go_at_call 87; (with_reducible refine call_later (spTable_drag a l _ (Hd.out.grew (by repeat (first | with_reducible exact Grew.refl _ | with_reducible apply Grew.alloc | with_reducible apply Grew.later | with_reducible apply Grew.drew | with_reducible apply Grew.store | with_reducible assumption)))) ?_); intro u) | ((with_reducible refine wp_region_later ?_ ?_ ?_); (· kernel_rfl); (· kernel_rfl); (repeat (go_big_quiet_step ((first | (go_at_call 87; (with_reducible exact call_quiet (spTable_drag a l _ (Hd.out.grew (by repeat (first | with_reducible exact Grew.refl _ | with_reducible apply Grew.alloc | with_reducible apply Grew.later | with_reducible apply Grew.drew | with_reducible apply Grew.store | with_reducible assumption)))))))))); refine wpQuiet_nil ?_; rintro _ ⟨u, rfl⟩))
            go_ret
            exact ⟨ret_int (by rw [Hfin.out, dragB, Hl.out, Bool.true_or, decide_eq_true h1, decide_eq_true h2]; rfl), (by repeat (first | with_reducible exact Grew.refl _ | with_reducible apply Grew.alloc | with_reducible apply Grew.later | with_reducible apply Grew.drew | with_reducible apply Grew.store | with_reducible assumption))⟩
end Go.Proofs.Ytgjikdhidakloaa
