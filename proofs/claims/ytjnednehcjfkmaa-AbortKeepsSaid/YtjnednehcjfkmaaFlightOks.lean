/-
  Contracts: tables (span.CheckTable, ullageref01.CheckTable).
  Contracts: what is valid (flight).
  Contracts: flight.CheckArc, flight.Steps.
  Contracts: what is valid (ullageref03), the steps of an arc.
-/
import Derived.Test.YtjnednehcjfkmaaChecks
namespace Go.Proofs.Ytjnednehcjfkmaa
open Go.RowKit
set_option maxRecDepth 100000
set_option maxHeartbeats 1000000

def partB (n : Int) : Bool := decide (-2305843009213693952 ≤ n) && decide (n ≤ 2305843009213693952)
/-- A point of a table that may stand behind another one. -/
def Pt.okB (p : Pt) : Bool := partB p.place && p.value.okB && partB p.value.lo && partB p.value.hi
/-- Point k of a list. -/
def ptAt (l : List Pt) (k : Nat) : Bool := match l[k]?, k with
  | some p, 0 => p.okB
  | some p, j + 1 => p.okB && (match l[j]? with | some q => decide (q.place < p.place) | none => false)
  | none, _ => false
def tableB (l : List Pt) : Bool := decide (1 ≤ l.length) && decide (l.length ≤ 64) && (List.range l.length).all (ptAt l)
theorem ptAt_zero (l : List Pt) (h : 0 < l.length) : ptAt l 0 = l[0].okB := by
  simp [ptAt, List.getElem?_eq_getElem h]
theorem ptAt_succ (l : List Pt) (k : Nat) (h : k + 1 < l.length) : ptAt l (k + 1) = (l[k + 1].okB && decide (l[k].place < l[k + 1].place)) := by
  simp [ptAt, List.getElem?_eq_getElem h, List.getElem?_eq_getElem (show k < l.length by omega)]
theorem range_all_false (f : Nat → Bool) (n k : Nat) (h : k < n) (h2 : f k = false) : (List.range n).all f = false := by
  rw [List.all_eq_false]
  exact ⟨k, by simpa using h, by simp [h2]⟩
theorem range_all_succ (f : Nat → Bool) (k : Nat) (h1 : (List.range k).all f = true) (h2 : f k = true) : (List.range (k + 1)).all f = true := by
  rw [List.range_succ, List.all_append, h1]
  simp [h2]
theorem smallSp (p : Pt) : Pt.okB p = (Sp.hasB ⟨-2305843009213693952, 2305843009213693952⟩ p.place && p.value.inB ⟨-2305843009213693952, 2305843009213693952⟩) := by
  rw [Bool.eq_iff_iff]
  simp only [Pt.okB, partB, Sp.hasB, Sp.inB, Sp.okB, numB]
  simp
  omega
end Go.Proofs.Ytjnednehcjfkmaa
namespace Go.Proofs.Ytjnednehcjfkmaa
open Go.RowKit
set_option maxRecDepth 100000
set_option maxHeartbeats 1000000

theorem flValid_any (n : Int) (w : World) : Calls Try.prog 80 #[.int .i64 n] w fun e w' => e = .returned (.bool (numB n)) ∧ Grew w w' := by
  go_enter Try.func80, Try.ntmps80
  go_wp2
  go_ret
  exact ⟨ret_bool (by unfold numB; simp), Grew.refl _⟩
theorem flSpans_any (l : List Sp) (v : Value) (w : World) (h : SlAt w v l.length (l.flatMap Sp.cells)) : Calls Try.prog 82 #[v] w fun e w' => e = .returned (.bool (l.all Sp.okB)) ∧ Grew w w' := by
  obtain ⟨ao, cap, rfl, hm, hc⟩ := h
  unfold maxLen at hm
  have Hc := Lib.hid (SlAt.elem (f := Sp.cells) (c := 2) (fun _ => rfl) (by omega) hc)
  clear hc
  go_enter Try.func82, Try.ntmps82
  go_wp2
  go_loopw [7] (fun t wr => ∃ k : Nat, t = .int .i64 k ∧ k ≤ l.length ∧ (l.take k).all Sp.okB = true ∧ Grew w wr) (fun t _ => l.length - (intOf t).toNat)
  case atStart => exact ⟨0, rfl, by omega, rfl, Grew.refl _⟩
  case round =>
    obtain ⟨k, rfl, hk, hall, hg⟩ := hrel
    obtain ⟨x, rfl⟩ := later_of hg
    clear hg
    have Hall := Lib.hid hall
    clear hall
    by_cases hlt : k < l.length
    · obtain ⟨b1, o1, rfl, i1, hd1, hd2⟩ := Hc.out k hlt
      have hd1 := hd1 _ rfl
      have hd2 := hd2 1 _ rfl
      have i1 : BlockIn w b1 := ⟨i1⟩
      cases h : l[k].okB
      · go_wp2_with (first | (go_at_call 49; (with_reducible refine call_later (spCheck_any _ _) ?_); intro u) | ((with_reducible refine wp_region_later ?_ ?_ ?_); (· kernel_rfl); (· kernel_rfl); (repeat (go_big_quiet_step ((first | (go_at_call 49; (with_reducible exact call_quiet (spCheck_any _ _))))))); refine wpQuiet_nil ?_; rintro _ ⟨u, rfl⟩))
        go_ret
        exact ⟨ret_bool (by rw [all_false _ _ _ hlt h]), (by repeat (first | with_reducible exact Grew.refl _ | with_reducible apply Grew.alloc | with_reducible apply Grew.later | with_reducible apply Grew.drew | with_reducible apply Grew.store | with_reducible assumption))⟩
      · go_wp2_with (first | (go_at_call 49; (with_reducible refine call_later (spCheck_any _ _) ?_); intro u) | ((with_reducible refine wp_region_later ?_ ?_ ?_); (· kernel_rfl); (· kernel_rfl); (repeat (go_big_quiet_step ((first | (go_at_call 49; (with_reducible exact call_quiet (spCheck_any _ _))))))); refine wpQuiet_nil ?_; rintro _ ⟨u, rfl⟩))
        go_roundw
        case rel => exact ⟨k + 1, by go_num, by omega, all_take_succ _ _ _ hlt Hall.out h, (by repeat (first | with_reducible exact Grew.refl _ | with_reducible apply Grew.alloc | with_reducible apply Grew.later | with_reducible apply Grew.drew | with_reducible apply Grew.store | with_reducible assumption))⟩
        case measure => simp [intOf]; omega
    · go_wp2
      go_ret
      exact ⟨ret_bool (by rw [all_true _ _ _ (by omega) Hall.out]), x.grew⟩
theorem flSpans_one (a : Sp) (v : Value) (w : World) (h : SlAt w v 1 [.int .i64 a.lo, .int .i64 a.hi]) : Calls Try.prog 82 #[v] w fun e w' => e = .returned (.bool a.okB) ∧ Grew w w' := by
  have := flSpans_any [a] v w h
  simpa using this
theorem flSpans_box (b : Bx) (v : Value) (w : World) (h : SlAt w v 3 [.int .i64 b.x.lo, .int .i64 b.x.hi, .int .i64 b.y.lo, .int .i64 b.y.hi, .int .i64 b.z.lo, .int .i64 b.z.hi]) : Calls Try.prog 82 #[v] w fun e w' => e = .returned (.bool b.okB) ∧ Grew w w' := by
  have := flSpans_any [b.x, b.y, b.z] v w h
  simpa [Bx.okB, Bool.and_assoc] using this
theorem flSpans_four (a b c d : Sp) (v : Value) (w : World) (h : SlAt w v 4 [.int .i64 a.lo, .int .i64 a.hi, .int .i64 b.lo, .int .i64 b.hi, .int .i64 c.lo, .int .i64 c.hi, .int .i64 d.lo, .int .i64 d.hi]) : Calls Try.prog 82 #[v] w fun e w' => e = .returned (.bool (a.okB && b.okB && c.okB && d.okB)) ∧ Grew w w' := by
  have := flSpans_any [a, b, c, d] v w h
  simpa [Bool.and_assoc] using this
theorem flBoxes_any (l : List Bx) (v : Value) (w : World) (h : SlAt w v l.length (l.flatMap Bx.cells)) : Calls Try.prog 81 #[v] w fun e w' => e = .returned (.bool (l.all Bx.okB)) ∧ Grew w w' := by
  obtain ⟨ao, cap, rfl, hm, hc⟩ := h
  unfold maxLen at hm
  have Hc := Lib.hid (SlAt.elem (f := Bx.cells) (c := 6) (fun _ => rfl) (by omega) hc)
  clear hc
  go_enter Try.func81, Try.ntmps81
  go_wp2
  go_loopw [7] (fun t wr => ∃ k : Nat, t = .int .i64 k ∧ k ≤ l.length ∧ (l.take k).all Bx.okB = true ∧ Grew w wr) (fun t _ => l.length - (intOf t).toNat)
  case atStart => exact ⟨0, rfl, by omega, rfl, Grew.refl _⟩
  case round =>
    obtain ⟨k, rfl, hk, hall, hg⟩ := hrel
    obtain ⟨x, rfl⟩ := later_of hg
    clear hg
    have Hall := Lib.hid hall
    clear hall
    by_cases hlt : k < l.length
    · obtain ⟨b1, o1, rfl, i1, hd1, hd2⟩ := Hc.out k hlt
      have hc0 := hd1 _ rfl
      have hc1 := hd2 1 _ rfl
      have hc2 := hd2 2 _ rfl
      have hc3 := hd2 3 _ rfl
      have hc4 := hd2 4 _ rfl
      have hc5 := hd2 5 _ rfl
      clear hd1 hd2
      have i1 : BlockIn w b1 := ⟨i1⟩
      cases h : l[k].okB
      · go_wp2_with (first | (go_at_call 82; (with_reducible refine call_later (flSpans_box _ _ _ (SlAt.fresh _ _ _ _ (by simp [maxLen]))) ?_); intro u) | ((with_reducible refine wp_region_later ?_ ?_ ?_); (· kernel_rfl); (· kernel_rfl); (repeat (go_big_quiet_step ((first | (go_at_call 82; (with_reducible exact call_quiet (flSpans_box _ _ _ (SlAt.fresh _ _ _ _ (by simp [maxLen]))))))))); refine wpQuiet_nil ?_; rintro _ ⟨u, rfl⟩))
        go_ret
        exact ⟨ret_bool (by rw [all_false _ _ _ hlt h]), (by repeat (first | with_reducible exact Grew.refl _ | with_reducible apply Grew.alloc | with_reducible apply Grew.later | with_reducible apply Grew.drew | with_reducible apply Grew.store | with_reducible assumption))⟩
      · go_wp2_with (first | (go_at_call 82; (with_reducible refine call_later (flSpans_box _ _ _ (SlAt.fresh _ _ _ _ (by simp [maxLen]))) ?_); intro u) | ((with_reducible refine wp_region_later ?_ ?_ ?_); (· kernel_rfl); (· kernel_rfl); (repeat (go_big_quiet_step ((first | (go_at_call 82; (with_reducible exact call_quiet (flSpans_box _ _ _ (SlAt.fresh _ _ _ _ (by simp [maxLen]))))))))); refine wpQuiet_nil ?_; rintro _ ⟨u, rfl⟩))
        go_roundw
        case rel => exact ⟨k + 1, by go_num, by omega, all_take_succ _ _ _ hlt Hall.out h, (by repeat (first | with_reducible exact Grew.refl _ | with_reducible apply Grew.alloc | with_reducible apply Grew.later | with_reducible apply Grew.drew | with_reducible apply Grew.store | with_reducible assumption))⟩
        case measure => simp [intOf]; omega
    · go_wp2
      go_ret
      exact ⟨ret_bool (by rw [all_true _ _ _ (by omega) Hall.out]), x.grew⟩
theorem flBoxes_one (a : Bx) (v : Value) (w : World) (h : SlAt w v 1 [.int .i64 a.x.lo, .int .i64 a.x.hi, .int .i64 a.y.lo, .int .i64 a.y.hi, .int .i64 a.z.lo, .int .i64 a.z.hi]) : Calls Try.prog 81 #[v] w fun e w' => e = .returned (.bool a.okB) ∧ Grew w w' := by
  have := flBoxes_any [a] v w h
  simpa using this
theorem flBoxes_two (a b : Bx) (v : Value) (w : World) (h : SlAt w v 2 [.int .i64 a.x.lo, .int .i64 a.x.hi, .int .i64 a.y.lo, .int .i64 a.y.hi, .int .i64 a.z.lo, .int .i64 a.z.hi, .int .i64 b.x.lo, .int .i64 b.x.hi, .int .i64 b.y.lo, .int .i64 b.y.hi, .int .i64 b.z.lo, .int .i64 b.z.hi]) : Calls Try.prog 81 #[v] w fun e w' => e = .returned (.bool (a.okB && b.okB)) ∧ Grew w w' := by
  have := flBoxes_any [a, b] v w h
  simpa using this
theorem flState_any (s : State) (w : World) : Calls Try.prog 76 #[.agg #[.int .i64 s.t, .int .i64 s.p.x.lo, .int .i64 s.p.x.hi, .int .i64 s.p.y.lo, .int .i64 s.p.y.hi, .int .i64 s.p.z.lo, .int .i64 s.p.z.hi, .int .i64 s.v.x.lo, .int .i64 s.v.x.hi, .int .i64 s.v.y.lo, .int .i64 s.v.y.hi, .int .i64 s.v.z.lo, .int .i64 s.v.z.hi, .int .i64 s.m.lo, .int .i64 s.m.hi]] w fun e w' => e = .returned (.int .i64 (codeB s.okB 2)) ∧ Grew w w' := by
  rcases bool_or (numB s.t) with h1 | h1
  · go_enter Try.func76, Try.ntmps76
    go_wp2_with (first | (go_at_call 80; (with_reducible refine call_later (flValid_any _ _) ?_); intro u) | (go_at_call 81; (with_reducible refine call_later (flBoxes_two s.p s.v _ _ (SlAt.fresh _ _ _ _ (by simp [maxLen]))) ?_); intro u) | (go_at_call 82; (with_reducible refine call_later (flSpans_one s.m _ _ (SlAt.fresh _ _ _ _ (by simp [maxLen]))) ?_); intro u) | ((with_reducible refine wp_region_later ?_ ?_ ?_); (· kernel_rfl); (· kernel_rfl); (repeat (go_big_quiet_step ((first | (go_at_call 80; (with_reducible exact call_quiet (flValid_any _ _))) | (go_at_call 81; (with_reducible exact call_quiet (flBoxes_two s.p s.v _ _ (SlAt.fresh _ _ _ _ (by simp [maxLen]))))) | (go_at_call 82; (with_reducible exact call_quiet (flSpans_one s.m _ _ (SlAt.fresh _ _ _ _ (by simp [maxLen]))))))))); refine wpQuiet_nil ?_; rintro _ ⟨u, rfl⟩))
    go_ret
    exact ⟨ret_int (by (first | (rw [show s.okB = true from by simp [State.okB, *]]; rfl) | (rw [show s.okB = false from by simp [State.okB, *] <;> omega]; rfl) | (rw [show s.okB = true from by simp [State.okB, *] <;> omega]; rfl))), (by repeat (first | with_reducible exact Grew.refl _ | with_reducible apply Grew.alloc | with_reducible apply Grew.later | with_reducible apply Grew.drew | with_reducible apply Grew.store | with_reducible assumption))⟩
  · skip
    rcases bool_or ((s.p.okB && s.v.okB)) with h2 | h2
    · go_enter Try.func76, Try.ntmps76
      go_wp2_with (first | (go_at_call 80; (with_reducible refine call_later (flValid_any _ _) ?_); intro u) | (go_at_call 81; (with_reducible refine call_later (flBoxes_two s.p s.v _ _ (SlAt.fresh _ _ _ _ (by simp [maxLen]))) ?_); intro u) | (go_at_call 82; (with_reducible refine call_later (flSpans_one s.m _ _ (SlAt.fresh _ _ _ _ (by simp [maxLen]))) ?_); intro u) | ((with_reducible refine wp_region_later ?_ ?_ ?_); (· kernel_rfl); (· kernel_rfl); (repeat (go_big_quiet_step ((first | (go_at_call 80; (with_reducible exact call_quiet (flValid_any _ _))) | (go_at_call 81; (with_reducible exact call_quiet (flBoxes_two s.p s.v _ _ (SlAt.fresh _ _ _ _ (by simp [maxLen]))))) | (go_at_call 82; (with_reducible exact call_quiet (flSpans_one s.m _ _ (SlAt.fresh _ _ _ _ (by simp [maxLen]))))))))); refine wpQuiet_nil ?_; rintro _ ⟨u, rfl⟩))
      go_ret
      exact ⟨ret_int (by (first | (rw [show s.okB = true from by simp [State.okB, *]]; rfl) | (rw [show s.okB = false from by simp [State.okB, *] <;> omega]; rfl) | (rw [show s.okB = true from by simp [State.okB, *] <;> omega]; rfl))), (by repeat (first | with_reducible exact Grew.refl _ | with_reducible apply Grew.alloc | with_reducible apply Grew.later | with_reducible apply Grew.drew | with_reducible apply Grew.store | with_reducible assumption))⟩
    · skip
      rcases bool_or (s.m.okB) with h3 | h3
      · go_enter Try.func76, Try.ntmps76
        go_wp2_with (first | (go_at_call 80; (with_reducible refine call_later (flValid_any _ _) ?_); intro u) | (go_at_call 81; (with_reducible refine call_later (flBoxes_two s.p s.v _ _ (SlAt.fresh _ _ _ _ (by simp [maxLen]))) ?_); intro u) | (go_at_call 82; (with_reducible refine call_later (flSpans_one s.m _ _ (SlAt.fresh _ _ _ _ (by simp [maxLen]))) ?_); intro u) | ((with_reducible refine wp_region_later ?_ ?_ ?_); (· kernel_rfl); (· kernel_rfl); (repeat (go_big_quiet_step ((first | (go_at_call 80; (with_reducible exact call_quiet (flValid_any _ _))) | (go_at_call 81; (with_reducible exact call_quiet (flBoxes_two s.p s.v _ _ (SlAt.fresh _ _ _ _ (by simp [maxLen]))))) | (go_at_call 82; (with_reducible exact call_quiet (flSpans_one s.m _ _ (SlAt.fresh _ _ _ _ (by simp [maxLen]))))))))); refine wpQuiet_nil ?_; rintro _ ⟨u, rfl⟩))
        go_ret
        exact ⟨ret_int (by (first | (rw [show s.okB = true from by simp [State.okB, *]]; rfl) | (rw [show s.okB = false from by simp [State.okB, *] <;> omega]; rfl) | (rw [show s.okB = true from by simp [State.okB, *] <;> omega]; rfl))), (by repeat (first | with_reducible exact Grew.refl _ | with_reducible apply Grew.alloc | with_reducible apply Grew.later | with_reducible apply Grew.drew | with_reducible apply Grew.store | with_reducible assumption))⟩
      · skip
        rcases prop_or (1 ≤ s.m.lo) with h4 | h4
        · go_enter Try.func76, Try.ntmps76
          go_wp2_with (first | (go_at_call 80; (with_reducible refine call_later (flValid_any _ _) ?_); intro u) | (go_at_call 81; (with_reducible refine call_later (flBoxes_two s.p s.v _ _ (SlAt.fresh _ _ _ _ (by simp [maxLen]))) ?_); intro u) | (go_at_call 82; (with_reducible refine call_later (flSpans_one s.m _ _ (SlAt.fresh _ _ _ _ (by simp [maxLen]))) ?_); intro u) | ((with_reducible refine wp_region_later ?_ ?_ ?_); (· kernel_rfl); (· kernel_rfl); (repeat (go_big_quiet_step ((first | (go_at_call 80; (with_reducible exact call_quiet (flValid_any _ _))) | (go_at_call 81; (with_reducible exact call_quiet (flBoxes_two s.p s.v _ _ (SlAt.fresh _ _ _ _ (by simp [maxLen]))))) | (go_at_call 82; (with_reducible exact call_quiet (flSpans_one s.m _ _ (SlAt.fresh _ _ _ _ (by simp [maxLen]))))))))); refine wpQuiet_nil ?_; rintro _ ⟨u, rfl⟩))
          go_ret
          exact ⟨ret_int (by (first | (rw [show s.okB = true from by simp [State.okB, *]]; rfl) | (rw [show s.okB = false from by simp [State.okB, *] <;> omega]; rfl) | (rw [show s.okB = true from by simp [State.okB, *] <;> omega]; rfl))), (by repeat (first | with_reducible exact Grew.refl _ | with_reducible apply Grew.alloc | with_reducible apply Grew.later | with_reducible apply Grew.drew | with_reducible apply Grew.store | with_reducible assumption))⟩
        · skip
          go_enter Try.func76, Try.ntmps76
          go_wp2_with (first | (go_at_call 80; (with_reducible refine call_later (flValid_any _ _) ?_); intro u) | (go_at_call 81; (with_reducible refine call_later (flBoxes_two s.p s.v _ _ (SlAt.fresh _ _ _ _ (by simp [maxLen]))) ?_); intro u) | (go_at_call 82; (with_reducible refine call_later (flSpans_one s.m _ _ (SlAt.fresh _ _ _ _ (by simp [maxLen]))) ?_); intro u) | ((with_reducible refine wp_region_later ?_ ?_ ?_); (· kernel_rfl); (· kernel_rfl); (repeat (go_big_quiet_step ((first | (go_at_call 80; (with_reducible exact call_quiet (flValid_any _ _))) | (go_at_call 81; (with_reducible exact call_quiet (flBoxes_two s.p s.v _ _ (SlAt.fresh _ _ _ _ (by simp [maxLen]))))) | (go_at_call 82; (with_reducible exact call_quiet (flSpans_one s.m _ _ (SlAt.fresh _ _ _ _ (by simp [maxLen]))))))))); refine wpQuiet_nil ?_; rintro _ ⟨u, rfl⟩))
          go_ret
          exact ⟨ret_int (by (first | (rw [show s.okB = true from by simp [State.okB, *]]; rfl) | (rw [show s.okB = false from by simp [State.okB, *] <;> omega]; rfl) | (rw [show s.okB = true from by simp [State.okB, *] <;> omega]; rfl))), (by repeat (first | with_reducible exact Grew.refl _ | with_reducible apply Grew.alloc | with_reducible apply Grew.later | with_reducible apply Grew.drew | with_reducible apply Grew.store | with_reducible assumption))⟩
end Go.Proofs.Ytjnednehcjfkmaa
namespace Go.Proofs.Ytjnednehcjfkmaa
open Go.RowKit
set_option maxRecDepth 100000
set_option maxHeartbeats 1000000

def dirB (d : Bx) : Bool := d.x.inB unit && d.y.inB unit && d.z.inB unit
def forcesB (a : Arc) : Bool := [a.thrust, a.flow, a.drop].all (fun s => s.leastB 0)
def dragB (l : List Pt) : Bool := l.isEmpty || tableB l
def Arc.okB (a : Arc) (l : List Pt) : Bool := dirB a.dir && forcesB a && decide (1 ≤ a.time) && decide (1 ≤ a.step) && dragB l
theorem drag_n {w : World} {a : Arc} {l : List Pt} (h : DragAt w a l) : a.drag.n = l.length := by
  obtain ⟨ao, cap, e, -⟩ := h
  simp at e
  exact e.2.1
theorem DragAt.grew {w w' : World} {a : Arc} {l : List Pt} (h : DragAt w a l) (g : Grew w w') : DragAt w' a l := SlAt.grew h g
theorem dirB_no (d : Bx) (k : Nat) (hk : k < 3) (h : (d.at k).inB unit = false) : dirB d = false := by
  match k, hk with
  | 0, _ => simp only [Bx.at] at h; simp [dirB, h]
  | 1, _ => simp only [Bx.at] at h; simp [dirB, h]
  | 2, _ => simp only [Bx.at] at h; simp [dirB, h]

end Go.Proofs.Ytjnednehcjfkmaa
namespace Go.Proofs.Ytjnednehcjfkmaa
open Go.RowKit
set_option maxRecDepth 100000
set_option maxHeartbeats 1000000

theorem Planet.okB' (p : Planet) : p.okB = (p.pull.okB && p.mu.leastB 0 && p.radius.leastB 0 && p.oblate.okB && p.spin.okB) := by
  simp only [Planet.okB, Sp.leastB]
  cases p.pull.okB <;> cases p.mu.okB <;> cases p.radius.okB <;> cases p.oblate.okB <;> cases p.spin.okB <;> simp
theorem State.okB' (s : State) : s.okB = (numB s.t && s.p.okB && s.v.okB && s.m.leastB 1) := by
  simp only [State.okB, Sp.leastB]
  cases numB s.t <;> cases s.p.okB <;> cases s.v.okB <;> cases s.m.okB <;> simp
theorem Tube.okB' (t : Tube) : t.okB = (numB t.a && numB t.z && decide (t.a ≤ t.z) && t.p.okB && t.v.okB && t.m.leastB 1) := by
  simp only [Tube.okB, Sp.leastB]
  cases numB t.a <;> cases numB t.z <;> cases t.p.okB <;> cases t.v.okB <;> cases t.m.okB <;> simp
theorem boxB_no (d : Bx) (k : Nat) (hk : k < 3) (h : (d.at k).okB = false) : d.okB = false := by
  match k, hk with
  | 0, _ => simp only [Bx.at] at h; simp [Bx.okB, h]
  | 1, _ => simp only [Bx.at] at h; simp [Bx.okB, h]
  | 2, _ => simp only [Bx.at] at h; simp [Bx.okB, h]
def stepsZ (a : Arc) : Int := (a.time - 1) / a.step + 1
def stepsCode (a : Arc) (l : List Pt) : Int := if a.okB l = true then (if stepsZ a ≤ 4096 then 0 else 3) else 2
def stepsNum (a : Arc) (l : List Pt) : Int := if stepsCode a l = 0 then stepsZ a else 0
theorem steps_bd (a : Arc) (h1 : 1 ≤ a.time) (h2 : 1 ≤ a.step) : 1 ≤ stepsZ a ∧ stepsZ a ≤ a.time := by
  unfold stepsZ
  have h3 : 0 ≤ (a.time - 1) / a.step := Int.ediv_nonneg (by omega) (by omega)
  have h4 : (a.time - 1) / a.step ≤ a.time - 1 := Int.ediv_le_self _ (by omega)
  omega
theorem steps_ceil (t s : Int) (h2 : 1 ≤ s) : (t - 1) / s + 1 = if t % s = 0 then t / s else t / s + 1 := by
  have e := Int.mul_ediv_add_emod t s
  have n1 := Int.emod_nonneg t (show s ≠ 0 by omega)
  have n2 := Int.emod_lt_of_pos t (show 0 < s by omega)
  split
  · rename_i h
    have : t - 1 = (s - 1) + s * (t / s - 1) := by rw [Int.mul_sub]; omega
    rw [this, Int.add_mul_ediv_left _ _ (by omega), Int.ediv_eq_zero_of_lt (by omega) (by omega)]
    omega
  · rename_i h
    have : t - 1 = (t % s - 1) + s * (t / s) := by omega
    rw [this, Int.add_mul_ediv_left _ _ (by omega), Int.ediv_eq_zero_of_lt (by omega) (by omega)]
    omega
theorem arc_pos {a : Arc} {l : List Pt} (h : a.okB l = true) : 1 ≤ a.time ∧ 1 ≤ a.step := by
  simp only [Arc.okB, Bool.and_eq_true, decide_eq_true_eq] at h
  exact ⟨h.1.1.2, h.1.2⟩
end Go.Proofs.Ytjnednehcjfkmaa
