/-
  Contracts: tables (span.CheckTable, ullageref01.CheckTable).
  Contracts: what is valid (flight).
  Contracts: flight.CheckArc, flight.Steps.
  Contracts: what is valid (ullageref03), the steps of an arc.
-/
import Derived.Test.YtffbipcdlnfihaaChecks
namespace Go.Proofs.Ytffbipcdlnfihaa
open Go.RowKit
set_option maxRecDepth 100000
set_option maxHeartbeats 1000000

def partB (n : Int) : Bool := decide (-2305843009213693952 ≤ n) && decide (n ≤ 2305843009213693952)
/-- A point of a table that may stand behind another one. -/
def Pt.okB (p : Pt) : Bool := partB p.place && p.value.okB && partB p.value.lo && partB p.value.hi
/-- Point k of a list. -/
def ptAt (l : List Pt) (k : Nat) : Bool := match l[k]?, k with
  | some p, 0 => p.okB
  | some p, j + 1 => p.okB && (match l[j]? with | some q => decide (q.place < p.place) | none => false)
  | none, _ => false
def tableB (l : List Pt) : Bool := decide (1 ≤ l.length) && decide (l.length ≤ 64) && (List.range l.length).all (ptAt l)
theorem ptAt_zero (l : List Pt) (h : 0 < l.length) : ptAt l 0 = l[0].okB := by
  simp [ptAt, List.getElem?_eq_getElem h]
theorem ptAt_succ (l : List Pt) (k : Nat) (h : k + 1 < l.length) : ptAt l (k + 1) = (l[k + 1].okB && decide (l[k].place < l[k + 1].place)) := by
  simp [ptAt, List.getElem?_eq_getElem h, List.getElem?_eq_getElem (show k < l.length by omega)]
theorem range_all_false (f : Nat → Bool) (n k : Nat) (h : k < n) (h2 : f k = false) : (List.range n).all f = false := by
  rw [List.all_eq_false]
  exact ⟨k, by simpa using h, by simp [h2]⟩
theorem range_all_succ (f : Nat → Bool) (k : Nat) (h1 : (List.range k).all f = true) (h2 : f k = true) : (List.range (k + 1)).all f = true := by
  rw [List.range_succ, List.all_append, h1]
  simp [h2]
theorem smallSp (p : Pt) : Pt.okB p = (Sp.hasB ⟨-2305843009213693952, 2305843009213693952⟩ p.place && p.value.inB ⟨-2305843009213693952, 2305843009213693952⟩) := by
  rw [Bool.eq_iff_iff]
  simp only [Pt.okB, partB, Sp.hasB, Sp.inB, Sp.okB, numB]
  simp
  omega
theorem spTable_any (l : List Pt) (v : Value) (w : World) (h : SlAt w v l.length (l.flatMap Pt.cells)) : Calls Try.prog 44 #[v] w fun e w' => e = .returned (.int .i64 (codeB (tableB l) 2)) ∧ Grew w w' := by
  obtain ⟨ao, cap, rfl, hm, hc⟩ := h
  unfold maxLen at hm
  have Hc := Lib.hid (SlAt.elem (f := Pt.cells) (c := 3) (fun _ => rfl) (by omega) hc)
  clear hc
  by_cases h0 : l.length = 0
  · go_enter Try.func44, Try.ntmps44
    go_wp2_with (first | ((with_reducible refine wp_region_later ?_ ?_ ?_); (· kernel_rfl); (· kernel_rfl); (try simp only [List.append_eq, List.cons_append, List.nil_append]); (repeat (go_big_quiet_step (fail))); refine wpQuiet_nil ?_; rintro _ ⟨u, rfl⟩))
    go_ret
    exact ⟨ret_int (by rw [show tableB l = false by simp [tableB, h0]]; rfl), gw⟩
  by_cases h64 : 64 < l.length
  · go_enter Try.func44, Try.ntmps44
    go_wp2_with (first | ((with_reducible refine wp_region_later ?_ ?_ ?_); (· kernel_rfl); (· kernel_rfl); (try simp only [List.append_eq, List.cons_append, List.nil_append]); (repeat (go_big_quiet_step (fail))); refine wpQuiet_nil ?_; rintro _ ⟨u, rfl⟩))
    go_ret
    exact ⟨ret_int (by rw [show tableB l = false by simp [tableB]; omega]; rfl), gw⟩
  have hpos : 0 < l.length := by omega
  have h64' : l.length ≤ 64 := by omega
  have hb1 : ((l.length : Int) == 0) = false := by rw [beq_eq_false_iff_ne]; omega
  have hb2 : decide ((64 : Int) < l.length) = false := by simp; omega
  clear h0 h64
  go_enter Try.func44, Try.ntmps44
  go_wp2_with (first | ((with_reducible refine wp_region_later ?_ ?_ ?_); (· kernel_rfl); (· kernel_rfl); (try simp only [List.append_eq, List.cons_append, List.nil_append]); (repeat (go_big_quiet_step (fail))); refine wpQuiet_nil ?_; rintro _ ⟨u, rfl⟩))
  go_loopw [17] (fun t wr => ∃ k : Nat, t = .int .i64 k ∧ k ≤ l.length ∧ (List.range k).all (ptAt l) = true ∧ Grew (w.alloc (.cells #[.int .i64 (-2305843009213693952), .int .i64 2305843009213693952] 40)) wr) (fun t _ => l.length - (intOf t).toNat)
  case atStart => exact ⟨0, rfl, by omega, rfl, gw⟩
  case round =>
    obtain ⟨k, rfl, hk, hall, hg⟩ := hrel
    obtain ⟨x, rfl⟩ := later_of hg
    clear hg
    have Hall := Lib.hid hall
    clear hall
    by_cases hlt : k < l.length
    · obtain ⟨b1, o1, rfl, i1, hd1, hd2⟩ := Hc.out k hlt
      have hd0 := hd1 _ rfl
      have hd3 := hd2 1 _ rfl
      have hd4 := hd2 2 _ rfl
      clear hd1 hd2
      have i1 : BlockIn w b1 := ⟨i1⟩
      have hsm := smallSp l[k]
      have Hno : Hid (ptAt l k = false → tableB l = false) := fun h => by
        simp only [tableB, range_all_false _ _ k hlt h, Bool.and_false]
      by_cases hk0 : k = 0
      · have Hp := Lib.hid (show ptAt l k = (Sp.hasB ⟨-2305843009213693952, 2305843009213693952⟩ l[k].place && l[k].value.inB ⟨-2305843009213693952, 2305843009213693952⟩) by rw [← hsm]; subst hk0; exact ptAt_zero l hlt)
        clear hsm
        subst hk0
        simp only [Nat.zero_mul, Nat.add_zero] at hd0 hd3 hd4
        rcases chain2 (Sp.hasB ⟨-2305843009213693952, 2305843009213693952⟩ l[0].place) (l[0].value.inB ⟨-2305843009213693952, 2305843009213693952⟩) with h1 | ⟨h1, h2⟩ | ⟨h1, h2⟩
        · go_wp2_with (first | (go_at_call 58; (with_reducible refine call_later (spIn_any ⟨-2305843009213693952, 2305843009213693952⟩ _ _) ?_); intro u) | (go_at_call 40; (with_reducible refine call_later (spWithin_any _ ⟨-2305843009213693952, 2305843009213693952⟩ _) ?_); intro u) | ((with_reducible refine wp_region_later ?_ ?_ ?_); (· kernel_rfl); (· kernel_rfl); (try simp only [List.append_eq, List.cons_append, List.nil_append]); (repeat (go_big_quiet_step ((first | (go_at_call 58; (with_reducible exact call_quiet (spIn_any ⟨-2305843009213693952, 2305843009213693952⟩ _ _))) | (go_at_call 40; (with_reducible exact call_quiet (spWithin_any _ ⟨-2305843009213693952, 2305843009213693952⟩ _))))))); refine wpQuiet_nil ?_; rintro _ ⟨u, rfl⟩))
          go_ret
          exact ⟨ret_int (by rw [Hno.out (by rw [Hp.out, h1]; rfl)]; rfl), gw⟩
        · go_wp2_with (first | (go_at_call 58; (with_reducible refine call_later (spIn_any ⟨-2305843009213693952, 2305843009213693952⟩ _ _) ?_); intro u) | (go_at_call 40; (with_reducible refine call_later (spWithin_any _ ⟨-2305843009213693952, 2305843009213693952⟩ _) ?_); intro u) | ((with_reducible refine wp_region_later ?_ ?_ ?_); (· kernel_rfl); (· kernel_rfl); (try simp only [List.append_eq, List.cons_append, List.nil_append]); (repeat (go_big_quiet_step ((first | (go_at_call 58; (with_reducible exact call_quiet (spIn_any ⟨-2305843009213693952, 2305843009213693952⟩ _ _))) | (go_at_call 40; (with_reducible exact call_quiet (spWithin_any _ ⟨-2305843009213693952, 2305843009213693952⟩ _))))))); refine wpQuiet_nil ?_; rintro _ ⟨u, rfl⟩))
          go_ret
          exact ⟨ret_int (by rw [Hno.out (by rw [Hp.out, h1, h2]; rfl)]; rfl), gw⟩
        · go_wp2_with (first | (go_at_call 58; (with_reducible refine call_later (spIn_any ⟨-2305843009213693952, 2305843009213693952⟩ _ _) ?_); intro u) | (go_at_call 40; (with_reducible refine call_later (spWithin_any _ ⟨-2305843009213693952, 2305843009213693952⟩ _) ?_); intro u) | ((with_reducible refine wp_region_later ?_ ?_ ?_); (· kernel_rfl); (· kernel_rfl); (try simp only [List.append_eq, List.cons_append, List.nil_append]); (repeat (go_big_quiet_step ((first | (go_at_call 58; (with_reducible exact call_quiet (spIn_any ⟨-2305843009213693952, 2305843009213693952⟩ _ _))) | (go_at_call 40; (with_reducible exact call_quiet (spWithin_any _ ⟨-2305843009213693952, 2305843009213693952⟩ _))))))); refine wpQuiet_nil ?_; rintro _ ⟨u, rfl⟩))
          go_roundw
          case rel => exact ⟨0 + 1, by go_num, by omega, range_all_succ _ _ Hall.out (by rw [Hp.out, h1, h2]; rfl), gw⟩
          case measure => simp [intOf]; omega
      · have hkk : ∃ j, k = j + 1 := ⟨k - 1, by omega⟩
        obtain ⟨j, rfl⟩ := hkk
        obtain ⟨_, _, e1, _, hd5, _⟩ := Hc.out j (by omega)
        cases e1
        have hd5 := hd5 _ rfl
        have Hp := Lib.hid (show ptAt l (j + 1) = (Sp.hasB ⟨-2305843009213693952, 2305843009213693952⟩ l[j + 1].place && l[j + 1].value.inB ⟨-2305843009213693952, 2305843009213693952⟩ && decide (l[j].place < l[j + 1].place)) by rw [← hsm]; exact ptAt_succ l j hlt)
        clear hsm
        rcases chain2 (Sp.hasB ⟨-2305843009213693952, 2305843009213693952⟩ l[j + 1].place) (l[j + 1].value.inB ⟨-2305843009213693952, 2305843009213693952⟩) with h1 | ⟨h1, h2⟩ | ⟨h1, h2⟩
        · go_wp2_with (first | (go_at_call 58; (with_reducible refine call_later (spIn_any ⟨-2305843009213693952, 2305843009213693952⟩ _ _) ?_); intro u) | (go_at_call 40; (with_reducible refine call_later (spWithin_any _ ⟨-2305843009213693952, 2305843009213693952⟩ _) ?_); intro u) | ((with_reducible refine wp_region_later ?_ ?_ ?_); (· kernel_rfl); (· kernel_rfl); (try simp only [List.append_eq, List.cons_append, List.nil_append]); (repeat (go_big_quiet_step ((first | (go_at_call 58; (with_reducible exact call_quiet (spIn_any ⟨-2305843009213693952, 2305843009213693952⟩ _ _))) | (go_at_call 40; (with_reducible exact call_quiet (spWithin_any _ ⟨-2305843009213693952, 2305843009213693952⟩ _))))))); refine wpQuiet_nil ?_; rintro _ ⟨u, rfl⟩))
          go_ret
          exact ⟨ret_int (by rw [Hno.out (by rw [Hp.out, h1]; rfl)]; rfl), gw⟩
        · go_wp2_with (first | (go_at_call 58; (with_reducible refine call_later (spIn_any ⟨-2305843009213693952, 2305843009213693952⟩ _ _) ?_); intro u) | (go_at_call 40; (with_reducible refine call_later (spWithin_any _ ⟨-2305843009213693952, 2305843009213693952⟩ _) ?_); intro u) | ((with_reducible refine wp_region_later ?_ ?_ ?_); (· kernel_rfl); (· kernel_rfl); (try simp only [List.append_eq, List.cons_append, List.nil_append]); (repeat (go_big_quiet_step ((first | (go_at_call 58; (with_reducible exact call_quiet (spIn_any ⟨-2305843009213693952, 2305843009213693952⟩ _ _))) | (go_at_call 40; (with_reducible exact call_quiet (spWithin_any _ ⟨-2305843009213693952, 2305843009213693952⟩ _))))))); refine wpQuiet_nil ?_; rintro _ ⟨u, rfl⟩))
          go_ret
          exact ⟨ret_int (by rw [Hno.out (by rw [Hp.out, h1, h2]; rfl)]; rfl), gw⟩
        · rcases prop_or (l[j].place < l[j + 1].place) with h3 | h3
          · go_wp2_with (first | (go_at_call 58; (with_reducible refine call_later (spIn_any ⟨-2305843009213693952, 2305843009213693952⟩ _ _) ?_); intro u) | (go_at_call 40; (with_reducible refine call_later (spWithin_any _ ⟨-2305843009213693952, 2305843009213693952⟩ _) ?_); intro u) | ((with_reducible refine wp_region_later ?_ ?_ ?_); (· kernel_rfl); (· kernel_rfl); (try simp only [List.append_eq, List.cons_append, List.nil_append]); (repeat (go_big_quiet_step ((first | (go_at_call 58; (with_reducible exact call_quiet (spIn_any ⟨-2305843009213693952, 2305843009213693952⟩ _ _))) | (go_at_call 40; (with_reducible exact call_quiet (spWithin_any _ ⟨-2305843009213693952, 2305843009213693952⟩ _))))))); refine wpQuiet_nil ?_; rintro _ ⟨u, rfl⟩))
            go_ret
            exact ⟨ret_int (by rw [Hno.out (by rw [Hp.out, h1, h2]; simp; omega)]; rfl), gw⟩
          · go_wp2_with (first | (go_at_call 58; (with_reducible refine call_later (spIn_any ⟨-2305843009213693952, 2305843009213693952⟩ _ _) ?_); intro u) | (go_at_call 40; (with_reducible refine call_later (spWithin_any _ ⟨-2305843009213693952, 2305843009213693952⟩ _) ?_); intro u) | ((with_reducible refine wp_region_later ?_ ?_ ?_); (· kernel_rfl); (· kernel_rfl); (try simp only [List.append_eq, List.cons_append, List.nil_append]); (repeat (go_big_quiet_step ((first | (go_at_call 58; (with_reducible exact call_quiet (spIn_any ⟨-2305843009213693952, 2305843009213693952⟩ _ _))) | (go_at_call 40; (with_reducible exact call_quiet (spWithin_any _ ⟨-2305843009213693952, 2305843009213693952⟩ _))))))); refine wpQuiet_nil ?_; rintro _ ⟨u, rfl⟩))
            go_roundw
            case rel => exact ⟨j + 1 + 1, by go_num, by omega, range_all_succ _ _ Hall.out (by rw [Hp.out, h1, h2]; simp; omega), gw⟩
            case measure => simp [intOf]; omega
    · go_wp2
      go_ret
      exact ⟨ret_int (by rw [show tableB l = true by simp only [tableB, Bool.and_eq_true, decide_eq_true_eq]; exact ⟨⟨by omega, by omega⟩, by rw [show l.length = k by omega]; exact Hall.out⟩]; rfl), gw⟩
end Go.Proofs.Ytffbipcdlnfihaa
namespace Go.Proofs.Ytffbipcdlnfihaa
open Go.RowKit
set_option maxRecDepth 100000
set_option maxHeartbeats 1000000

theorem flValid_any (n : Int) (w : World) : Calls Try.prog 54 #[.int .i64 n] w fun e w' => e = .returned (.bool (numB n)) ∧ Grew w w' := by
  go_enter Try.func54, Try.ntmps54
  go_wp2
  go_ret
  exact ⟨ret_bool (by unfold numB; simp), Grew.refl _⟩
theorem flSpans_any (l : List Sp) (v : Value) (w : World) (h : SlAt w v l.length (l.flatMap Sp.cells)) : Calls Try.prog 53 #[v] w fun e w' => e = .returned (.bool (l.all Sp.okB)) ∧ Grew w w' := by
  obtain ⟨ao, cap, rfl, hm, hc⟩ := h
  unfold maxLen at hm
  have Hc := Lib.hid (SlAt.elem (f := Sp.cells) (c := 2) (fun _ => rfl) (by omega) hc)
  clear hc
  go_enter Try.func53, Try.ntmps53
  go_wp2
  go_loopw [7] (fun t wr => ∃ k : Nat, t = .int .i64 k ∧ k ≤ l.length ∧ (l.take k).all Sp.okB = true ∧ Grew w wr) (fun t _ => l.length - (intOf t).toNat)
  case atStart => exact ⟨0, rfl, by omega, rfl, Grew.refl _⟩
  case round =>
    obtain ⟨k, rfl, hk, hall, hg⟩ := hrel
    obtain ⟨x, rfl⟩ := later_of hg
    clear hg
    have Hall := Lib.hid hall
    clear hall
    by_cases hlt : k < l.length
    · obtain ⟨b1, o1, rfl, i1, hd1, hd2⟩ := Hc.out k hlt
      have hd1 := hd1 _ rfl
      have hd2 := hd2 1 _ rfl
      have i1 : BlockIn w b1 := ⟨i1⟩
      cases h : l[k].okB
      · go_wp2_with (first | (go_at_call 46; (with_reducible refine call_later (spCheck_any _ _) ?_); intro u))
        go_ret
        exact ⟨ret_bool (by rw [all_false _ _ _ hlt h]), gw⟩
      · go_wp2_with (first | (go_at_call 46; (with_reducible refine call_later (spCheck_any _ _) ?_); intro u))
        go_roundw
        case rel => exact ⟨k + 1, by go_num, by omega, all_take_succ _ _ _ hlt Hall.out h, gw⟩
        case measure => simp [intOf]; omega
    · go_wp2
      go_ret
      exact ⟨ret_bool (by rw [all_true _ _ _ (by omega) Hall.out]), x.grew⟩
theorem flSpans_one (a : Sp) (v : Value) (w : World) (h : SlAt w v 1 [.int .i64 a.lo, .int .i64 a.hi]) : Calls Try.prog 53 #[v] w fun e w' => e = .returned (.bool a.okB) ∧ Grew w w' := by
  have := flSpans_any [a] v w h
  simpa using this
theorem flSpans_box (b : Bx) (v : Value) (w : World) (h : SlAt w v 3 [.int .i64 b.x.lo, .int .i64 b.x.hi, .int .i64 b.y.lo, .int .i64 b.y.hi, .int .i64 b.z.lo, .int .i64 b.z.hi]) : Calls Try.prog 53 #[v] w fun e w' => e = .returned (.bool b.okB) ∧ Grew w w' := by
  have := flSpans_any [b.x, b.y, b.z] v w h
  simpa [Bx.okB, Bool.and_assoc] using this
theorem flSpans_four (a b c d : Sp) (v : Value) (w : World) (h : SlAt w v 4 [.int .i64 a.lo, .int .i64 a.hi, .int .i64 b.lo, .int .i64 b.hi, .int .i64 c.lo, .int .i64 c.hi, .int .i64 d.lo, .int .i64 d.hi]) : Calls Try.prog 53 #[v] w fun e w' => e = .returned (.bool (a.okB && b.okB && c.okB && d.okB)) ∧ Grew w w' := by
  have := flSpans_any [a, b, c, d] v w h
  simpa [Bool.and_assoc] using this
theorem flBoxes_any (l : List Bx) (v : Value) (w : World) (h : SlAt w v l.length (l.flatMap Bx.cells)) : Calls Try.prog 52 #[v] w fun e w' => e = .returned (.bool (l.all Bx.okB)) ∧ Grew w w' := by
  obtain ⟨ao, cap, rfl, hm, hc⟩ := h
  unfold maxLen at hm
  have Hc := Lib.hid (SlAt.elem (f := Bx.cells) (c := 6) (fun _ => rfl) (by omega) hc)
  clear hc
  go_enter Try.func52, Try.ntmps52
  go_wp2
  go_loopw [7] (fun t wr => ∃ k : Nat, t = .int .i64 k ∧ k ≤ l.length ∧ (l.take k).all Bx.okB = true ∧ Grew w wr) (fun t _ => l.length - (intOf t).toNat)
  case atStart => exact ⟨0, rfl, by omega, rfl, Grew.refl _⟩
  case round =>
    obtain ⟨k, rfl, hk, hall, hg⟩ := hrel
    obtain ⟨x, rfl⟩ := later_of hg
    clear hg
    have Hall := Lib.hid hall
    clear hall
    by_cases hlt : k < l.length
    · obtain ⟨b1, o1, rfl, i1, hd1, hd2⟩ := Hc.out k hlt
      have hc0 := hd1 _ rfl
      have hc1 := hd2 1 _ rfl
      have hc2 := hd2 2 _ rfl
      have hc3 := hd2 3 _ rfl
      have hc4 := hd2 4 _ rfl
      have hc5 := hd2 5 _ rfl
      clear hd1 hd2
      have i1 : BlockIn w b1 := ⟨i1⟩
      cases h : l[k].okB
      · go_wp2_with (first | (go_at_call 53; (with_reducible refine call_later (flSpans_box _ _ _ (SlAt.fresh _ _ _ _ (by simp [maxLen]))) ?_); intro u))
        go_ret
        exact ⟨ret_bool (by rw [all_false _ _ _ hlt h]), gw⟩
      · go_wp2_with (first | (go_at_call 53; (with_reducible refine call_later (flSpans_box _ _ _ (SlAt.fresh _ _ _ _ (by simp [maxLen]))) ?_); intro u))
        go_roundw
        case rel => exact ⟨k + 1, by go_num, by omega, all_take_succ _ _ _ hlt Hall.out h, gw⟩
        case measure => simp [intOf]; omega
    · go_wp2
      go_ret
      exact ⟨ret_bool (by rw [all_true _ _ _ (by omega) Hall.out]), x.grew⟩
theorem flBoxes_one (a : Bx) (v : Value) (w : World) (h : SlAt w v 1 [.int .i64 a.x.lo, .int .i64 a.x.hi, .int .i64 a.y.lo, .int .i64 a.y.hi, .int .i64 a.z.lo, .int .i64 a.z.hi]) : Calls Try.prog 52 #[v] w fun e w' => e = .returned (.bool a.okB) ∧ Grew w w' := by
  have := flBoxes_any [a] v w h
  simpa using this
theorem flBoxes_two (a b : Bx) (v : Value) (w : World) (h : SlAt w v 2 [.int .i64 a.x.lo, .int .i64 a.x.hi, .int .i64 a.y.lo, .int .i64 a.y.hi, .int .i64 a.z.lo, .int .i64 a.z.hi, .int .i64 b.x.lo, .int .i64 b.x.hi, .int .i64 b.y.lo, .int .i64 b.y.hi, .int .i64 b.z.lo, .int .i64 b.z.hi]) : Calls Try.prog 52 #[v] w fun e w' => e = .returned (.bool (a.okB && b.okB)) ∧ Grew w w' := by
  have := flBoxes_any [a, b] v w h
  simpa using this
theorem flPlanet_any (p : Planet) (w : World) : Calls Try.prog 37 #[.agg #[.int .i64 p.mu.lo, .int .i64 p.mu.hi, .int .i64 p.radius.lo, .int .i64 p.radius.hi, .int .i64 p.oblate.lo, .int .i64 p.oblate.hi, .int .i64 p.spin.lo, .int .i64 p.spin.hi, .int .i64 p.pull.x.lo, .int .i64 p.pull.x.hi, .int .i64 p.pull.y.lo, .int .i64 p.pull.y.hi, .int .i64 p.pull.z.lo, .int .i64 p.pull.z.hi]] w fun e w' => e = .returned (.int .i64 (codeB p.okB 2)) ∧ Grew w w' := by
  rcases bool_or (p.pull.okB) with h1 | h1
  rotate_left
  rcases bool_or ((p.mu.okB && p.radius.okB && p.oblate.okB && p.spin.okB)) with h2 | h2
  rotate_left
  rcases prop_or (0 ≤ p.mu.lo) with h3 | h3
  rotate_left
  rcases prop_or (0 ≤ p.radius.lo) with h4 | h4
  rotate_left
  all_goals
    go_enter Try.func37, Try.ntmps37
    go_wp2_with (first | (go_at_call 52; (with_reducible refine call_later (flBoxes_one p.pull _ _ (SlAt.fresh _ _ _ _ (by simp [maxLen]))) ?_); intro u) | (go_at_call 53; (with_reducible refine call_later (flSpans_four p.mu p.radius p.oblate p.spin _ _ (SlAt.fresh _ _ _ _ (by simp [maxLen]))) ?_); intro u))
    go_ret
    exact ⟨ret_int (by (first | (rw [show p.okB = true from by simp [Planet.okB, *]]; rfl) | (rw [show p.okB = false from by simp [Planet.okB, *] <;> omega]; rfl) | (rw [show p.okB = true from by simp [Planet.okB, *] <;> omega]; rfl))), gw⟩
theorem flState_any (s : State) (w : World) : Calls Try.prog 38 #[.agg #[.int .i64 s.t, .int .i64 s.p.x.lo, .int .i64 s.p.x.hi, .int .i64 s.p.y.lo, .int .i64 s.p.y.hi, .int .i64 s.p.z.lo, .int .i64 s.p.z.hi, .int .i64 s.v.x.lo, .int .i64 s.v.x.hi, .int .i64 s.v.y.lo, .int .i64 s.v.y.hi, .int .i64 s.v.z.lo, .int .i64 s.v.z.hi, .int .i64 s.m.lo, .int .i64 s.m.hi]] w fun e w' => e = .returned (.int .i64 (codeB s.okB 2)) ∧ Grew w w' := by
  rcases bool_or (numB s.t) with h1 | h1
  rotate_left
  rcases bool_or ((s.p.okB && s.v.okB)) with h2 | h2
  rotate_left
  rcases bool_or (s.m.okB) with h3 | h3
  rotate_left
  rcases prop_or (1 ≤ s.m.lo) with h4 | h4
  rotate_left
  all_goals
    go_enter Try.func38, Try.ntmps38
    go_wp2_with (first | (go_at_call 54; (with_reducible refine call_later (flValid_any _ _) ?_); intro u) | (go_at_call 52; (with_reducible refine call_later (flBoxes_two s.p s.v _ _ (SlAt.fresh _ _ _ _ (by simp [maxLen]))) ?_); intro u) | (go_at_call 53; (with_reducible refine call_later (flSpans_one s.m _ _ (SlAt.fresh _ _ _ _ (by simp [maxLen]))) ?_); intro u))
    go_ret
    exact ⟨ret_int (by (first | (rw [show s.okB = true from by simp [State.okB, *]]; rfl) | (rw [show s.okB = false from by simp [State.okB, *] <;> omega]; rfl) | (rw [show s.okB = true from by simp [State.okB, *] <;> omega]; rfl))), gw⟩
end Go.Proofs.Ytffbipcdlnfihaa
namespace Go.Proofs.Ytffbipcdlnfihaa
open Go.RowKit
set_option maxRecDepth 100000
set_option maxHeartbeats 1000000

def dirB (d : Bx) : Bool := d.x.inB unit && d.y.inB unit && d.z.inB unit
def forcesB (a : Arc) : Bool := [a.thrust, a.flow, a.drop].all (fun s => s.leastB 0)
def dragB (l : List Pt) : Bool := l.isEmpty || tableB l
def Arc.okB (a : Arc) (l : List Pt) : Bool := dirB a.dir && forcesB a && decide (1 ≤ a.time) && decide (1 ≤ a.step) && dragB l
theorem drag_n {w : World} {a : Arc} {l : List Pt} (h : DragAt w a l) : a.drag.n = l.length := by
  obtain ⟨ao, cap, e, -⟩ := h
  simp at e
  exact e.2.1
theorem DragAt.grew {w w' : World} {a : Arc} {l : List Pt} (h : DragAt w a l) (g : Grew w w') : DragAt w' a l := SlAt.grew h g
theorem dirB_no (d : Bx) (k : Nat) (hk : k < 3) (h : (d.at k).inB unit = false) : dirB d = false := by
  match k, hk with
  | 0, _ => simp only [Bx.at] at h; simp [dirB, h]
  | 1, _ => simp only [Bx.at] at h; simp [dirB, h]
  | 2, _ => simp only [Bx.at] at h; simp [dirB, h]

theorem spTable_drag (a : Arc) (l : List Pt) (w : World) (h : DragAt w a l) : Calls Try.prog 44 #[.slice a.drag.ao a.drag.n a.drag.cap] w fun e w' => e = .returned (.int .i64 (codeB (tableB l) 2)) ∧ Grew w w' := spTable_any l _ w h
theorem flArc_any (a : Arc) (l : List Pt) (w : World) (hd : DragAt w a l) : Calls Try.prog 57 #[.agg #[.int .i64 a.time, .int .i64 a.step, .int .i64 a.thrust.lo, .int .i64 a.thrust.hi, .int .i64 a.flow.lo, .int .i64 a.flow.hi, .int .i64 a.dir.x.lo, .int .i64 a.dir.x.hi, .int .i64 a.dir.y.lo, .int .i64 a.dir.y.hi, .int .i64 a.dir.z.lo, .int .i64 a.dir.z.hi, .slice a.drag.ao a.drag.n a.drag.cap, .int .i64 a.drop.lo, .int .i64 a.drop.hi]] w fun e w' => e = .returned (.int .i64 (codeB (a.okB l) 2)) ∧ Grew w w' := by
  have Hn := Lib.hid (drag_n hd)
  have Hd := Lib.hid hd
  clear hd
  have i0 : ∀ w, (Instr.index 42 (.agg #[.int .i64 a.dir.x.lo, .int .i64 a.dir.x.hi, .int .i64 a.dir.y.lo, .int .i64 a.dir.y.hi, .int .i64 a.dir.z.lo, .int .i64 a.dir.z.hi]) (.int .i64 0)).run Try.prog w = .ok (.agg #[.int .i64 a.dir.x.lo, .int .i64 a.dir.x.hi]) w := fun _ => by kernel_rfl
  have i1 : ∀ w, (Instr.index 42 (.agg #[.int .i64 a.dir.x.lo, .int .i64 a.dir.x.hi, .int .i64 a.dir.y.lo, .int .i64 a.dir.y.hi, .int .i64 a.dir.z.lo, .int .i64 a.dir.z.hi]) (.int .i64 1)).run Try.prog w = .ok (.agg #[.int .i64 a.dir.y.lo, .int .i64 a.dir.y.hi]) w := fun _ => by kernel_rfl
  have i2 : ∀ w, (Instr.index 42 (.agg #[.int .i64 a.dir.x.lo, .int .i64 a.dir.x.hi, .int .i64 a.dir.y.lo, .int .i64 a.dir.y.hi, .int .i64 a.dir.z.lo, .int .i64 a.dir.z.hi]) (.int .i64 2)).run Try.prog w = .ok (.agg #[.int .i64 a.dir.z.lo, .int .i64 a.dir.z.hi]) w := fun _ => by kernel_rfl
  go_enter Try.func57, Try.ntmps57
  go_wp2
  go_loopw [11] (fun t wr => ∃ k : Nat, t = .int .i64 k ∧ k ≤ 3 ∧ (∀ j, j < k → (a.dir.at j).inB unit = true) ∧ Grew ((w.alloc (.cells #[.int .i64 a.time, .int .i64 a.step, .int .i64 a.thrust.lo, .int .i64 a.thrust.hi, .int .i64 a.flow.lo, .int .i64 a.flow.hi, .int .i64 a.dir.x.lo, .int .i64 a.dir.x.hi, .int .i64 a.dir.y.lo, .int .i64 a.dir.y.hi, .int .i64 a.dir.z.lo, .int .i64 a.dir.z.hi, .slice a.drag.ao a.drag.n a.drag.cap, .int .i64 a.drop.lo, .int .i64 a.drop.hi] 72)).alloc (.cells #[.int .i64 (-4294967296), .int .i64 4294967296] 40)) wr) (fun t _ => 3 - (intOf t).toNat)
  case atStart => exact ⟨0, rfl, by omega, fun j hj => by omega, gw⟩
  case round =>
    obtain ⟨k, rfl, hk, hall, hg⟩ := hrel
    obtain ⟨x, rfl⟩ := later_of hg
    clear hg
    have Hall := Lib.hid hall
    clear hall
    by_cases hlt : k < 3
    · have hkk : k = 0 ∨ k = 1 ∨ k = 2 := by omega
      rcases hkk with rfl | rfl | rfl
      · cases h : (a.dir.x).inB unit
        · go_wp2_with (first | (go_at_call 40; (with_reducible refine call_later (spWithin_any _ unit _) ?_); intro u))
          go_ret
          exact ⟨ret_int (by rw [show a.okB l = false by simp [Arc.okB, dirB, h]]; rfl), gw⟩
        · go_wp2_with (first | (go_at_call 40; (with_reducible refine call_later (spWithin_any _ unit _) ?_); intro u))
          go_roundw
          case rel => exact ⟨0 + 1, rfl, by omega, fun j hj => by rcases Nat.lt_succ_iff_lt_or_eq.1 hj with hj | rfl; exact Hall.out j hj; exact h, gw⟩
          case measure => simp [intOf]
      · cases h : (a.dir.y).inB unit
        · go_wp2_with (first | (go_at_call 40; (with_reducible refine call_later (spWithin_any _ unit _) ?_); intro u))
          go_ret
          exact ⟨ret_int (by rw [show a.okB l = false by simp [Arc.okB, dirB, h]]; rfl), gw⟩
        · go_wp2_with (first | (go_at_call 40; (with_reducible refine call_later (spWithin_any _ unit _) ?_); intro u))
          go_roundw
          case rel => exact ⟨1 + 1, rfl, by omega, fun j hj => by rcases Nat.lt_succ_iff_lt_or_eq.1 hj with hj | rfl; exact Hall.out j hj; exact h, gw⟩
          case measure => simp [intOf]
      · cases h : (a.dir.z).inB unit
        · go_wp2_with (first | (go_at_call 40; (with_reducible refine call_later (spWithin_any _ unit _) ?_); intro u))
          go_ret
          exact ⟨ret_int (by rw [show a.okB l = false by simp [Arc.okB, dirB, h]]; rfl), gw⟩
        · go_wp2_with (first | (go_at_call 40; (with_reducible refine call_later (spWithin_any _ unit _) ?_); intro u))
          go_roundw
          case rel => exact ⟨2 + 1, rfl, by omega, fun j hj => by rcases Nat.lt_succ_iff_lt_or_eq.1 hj with hj | rfl; exact Hall.out j hj; exact h, gw⟩
          case measure => simp [intOf]
    · obtain rfl : k = 3 := by omega
      have Hdir := Lib.hid (show dirB a.dir = true by
        have h0 := Hall.out 0 (by omega)
        have h1 := Hall.out 1 (by omega)
        have h2 := Hall.out 2 (by omega)
        simp only [Bx.at] at h0 h1 h2
        simp [dirB, h0, h1, h2])
      clear Hall
      have hW := SlAt.fresh (w := x.world) [.int .i64 a.thrust.lo, .int .i64 a.thrust.hi, .int .i64 a.flow.lo, .int .i64 a.flow.hi, .int .i64 a.drop.lo, .int .i64 a.drop.hi] 40 3 3 (by simp [maxLen])
      obtain ⟨ao, cap, e, -, hc⟩ := hW
      cases e
      have Hc := Lib.hid (SlAt.elem (f := Sp.cells) (c := 2) (l := [a.thrust, a.flow, a.drop]) (fun _ => rfl) (by omega) hc)
      clear hc
      rw [show ((3 : Nat) : Int) = 3 from rfl]
      go_wp2_with fail
      go_loopw [27] (fun t wr => ∃ k : Nat, t = .int .i64 k ∧ k ≤ 3 ∧ ([a.thrust, a.flow, a.drop].take k).all (fun s => s.leastB 0) = true ∧ Grew (x.world.alloc (.cells #[.int .i64 a.thrust.lo, .int .i64 a.thrust.hi, .int .i64 a.flow.lo, .int .i64 a.flow.hi, .int .i64 a.drop.lo, .int .i64 a.drop.hi] 40)) wr) (fun t _ => 3 - (intOf t).toNat)
      case atStart => exact ⟨0, rfl, by omega, rfl, gw⟩
      case round =>
        obtain ⟨k, rfl, hk, hall, hg⟩ := hrel
        obtain ⟨y, rfl⟩ := later_of hg
        clear hg
        have Hall := Lib.hid hall
        clear hall
        by_cases hlt : k < 3
        · obtain ⟨b1, o1, e1, i1, hd1, hd2⟩ := Hc.out k hlt
          cases e1
          have hd1 := hd1 _ rfl
          have hd2 := hd2 1 _ rfl
          obtain ⟨s, hs⟩ : ∃ s, s = [a.thrust, a.flow, a.drop][k] := ⟨_, rfl⟩
          rw [← hs] at hd1 hd2
          have Hno := Lib.hid (fun h : s.leastB 0 = false => show a.okB l = false by simp only [Arc.okB, forcesB, all_false (fun s : Sp => s.leastB 0) [a.thrust, a.flow, a.drop] k hlt (by rw [← hs]; exact h), Bool.and_false, Bool.false_and])
          have Hs := Lib.hid hs
          clear hs
          simp only [Nat.zero_add] at hd1 hd2
          rcases chain2 s.okB (decide (0 ≤ s.lo)) with h1 | ⟨h1, h2⟩ | ⟨h1, h2⟩
          · go_wp2_with (first | (go_at_call 53; (with_reducible refine call_later (flSpans_one s _ _ (SlAt.fresh _ _ _ _ (by simp [maxLen]))) ?_); intro u))
            go_ret
            exact ⟨ret_int (by rw [Hno.out (by simp [Sp.leastB, h1])]; rfl), gw⟩
          · have h3 : s.lo < 0 := by simpa using h2
            go_wp2_with (first | (go_at_call 53; (with_reducible refine call_later (flSpans_one s _ _ (SlAt.fresh _ _ _ _ (by simp [maxLen]))) ?_); intro u))
            go_ret
            exact ⟨ret_int (by rw [Hno.out (by simp [Sp.leastB]; omega)]; rfl), gw⟩
          · have h3 : 0 ≤ s.lo := by simpa using h2
            go_wp2_with (first | (go_at_call 53; (with_reducible refine call_later (flSpans_one s _ _ (SlAt.fresh _ _ _ _ (by simp [maxLen]))) ?_); intro u))
            go_roundw
            case rel => exact ⟨k + 1, by go_num, by omega, all_take_succ (fun s : Sp => s.leastB 0) [a.thrust, a.flow, a.drop] k hlt Hall.out (by rw [← Hs.out]; simp [Sp.leastB, h1, h3]), gw⟩
            case measure => simp [intOf]; omega
        · obtain rfl : k = 3 := by omega
          rw [show ((3 : Nat) : Int) = 3 from rfl]
          have Hf := Lib.hid (show forcesB a = true from Hall.out)
          clear Hall Hc
          have hfin : a.okB l = (decide (1 ≤ a.time) && decide (1 ≤ a.step) && dragB l) := by simp only [Arc.okB, Hdir.out, Hf.out, Bool.true_and]
          have Hfin := Lib.hid hfin
          clear hfin Hf Hdir
          rcases prop_or (1 ≤ a.time) with h1 | h1
          · go_wp2_with (first | (go_at_call 44; (with_reducible refine call_later (spTable_drag a l _ (Hd.out.grew gw)) ?_); intro u))
            go_ret
            exact ⟨ret_int (by rw [Hfin.out, decide_eq_false (by omega)]; rfl), gw⟩
          rcases prop_or (1 ≤ a.step) with h2 | h2
          · go_wp2_with (first | (go_at_call 44; (with_reducible refine call_later (spTable_drag a l _ (Hd.out.grew gw)) ?_); intro u))
            go_ret
            exact ⟨ret_int (by rw [Hfin.out, decide_eq_false (show ¬ 1 ≤ a.step by omega), Bool.and_false]; rfl), gw⟩
          rcases prop_or (a.drag.n = 0) with h3 | h3
          · have h3' : 0 < a.drag.n := by omega
            have Hl := Lib.hid (show l.isEmpty = false by have := Hn.out; cases l with | nil => exact absurd this h3 | cons _ _ => rfl)
            clear h3
            cases h4 : tableB l
            · go_wp2_with (first | (go_at_call 44; (with_reducible refine call_later (spTable_drag a l _ (Hd.out.grew gw)) ?_); intro u))
              go_ret
              exact ⟨ret_int (by rw [Hfin.out, dragB, Hl.out, h4, Bool.or_false, Bool.and_false]; rfl), gw⟩
            · go_wp2_with (first | (go_at_call 44; (with_reducible refine call_later (spTable_drag a l _ (Hd.out.grew gw)) ?_); intro u))
              go_ret
              exact ⟨ret_int (by rw [Hfin.out, dragB, h4, Bool.or_true, decide_eq_true h1, decide_eq_true h2]; rfl), gw⟩
          · have h3' : ¬ 0 < a.drag.n := by omega
            have Hl := Lib.hid (show l.isEmpty = true by have := Hn.out; cases l with | nil => rfl | cons _ _ => simp at this; omega)
            clear h3
            go_wp2_with (first | (go_at_call 44; (with_reducible refine call_later (spTable_drag a l _ (Hd.out.grew gw)) ?_); intro u))
            go_ret
            exact ⟨ret_int (by rw [Hfin.out, dragB, Hl.out, Bool.true_or, decide_eq_true h1, decide_eq_true h2]; rfl), gw⟩
end Go.Proofs.Ytffbipcdlnfihaa
namespace Go.Proofs.Ytffbipcdlnfihaa
open Go.RowKit
set_option maxRecDepth 100000
set_option maxHeartbeats 1000000

theorem Planet.okB' (p : Planet) : p.okB = (p.pull.okB && p.mu.leastB 0 && p.radius.leastB 0 && p.oblate.okB && p.spin.okB) := by
  simp only [Planet.okB, Sp.leastB]
  cases p.pull.okB <;> cases p.mu.okB <;> cases p.radius.okB <;> cases p.oblate.okB <;> cases p.spin.okB <;> simp
theorem State.okB' (s : State) : s.okB = (numB s.t && s.p.okB && s.v.okB && s.m.leastB 1) := by
  simp only [State.okB, Sp.leastB]
  cases numB s.t <;> cases s.p.okB <;> cases s.v.okB <;> cases s.m.okB <;> simp
theorem Tube.okB' (t : Tube) : t.okB = (numB t.a && numB t.z && decide (t.a ≤ t.z) && t.p.okB && t.v.okB && t.m.leastB 1) := by
  simp only [Tube.okB, Sp.leastB]
  cases numB t.a <;> cases numB t.z <;> cases t.p.okB <;> cases t.v.okB <;> cases t.m.okB <;> simp
theorem boxB_no (d : Bx) (k : Nat) (hk : k < 3) (h : (d.at k).okB = false) : d.okB = false := by
  match k, hk with
  | 0, _ => simp only [Bx.at] at h; simp [Bx.okB, h]
  | 1, _ => simp only [Bx.at] at h; simp [Bx.okB, h]
  | 2, _ => simp only [Bx.at] at h; simp [Bx.okB, h]
def stepsZ (a : Arc) : Int := (a.time - 1) / a.step + 1
def stepsCode (a : Arc) (l : List Pt) : Int := if a.okB l = true then (if stepsZ a ≤ 4096 then 0 else 3) else 2
def stepsNum (a : Arc) (l : List Pt) : Int := if stepsCode a l = 0 then stepsZ a else 0
theorem steps_bd (a : Arc) (h1 : 1 ≤ a.time) (h2 : 1 ≤ a.step) : 1 ≤ stepsZ a ∧ stepsZ a ≤ a.time := by
  unfold stepsZ
  have h3 : 0 ≤ (a.time - 1) / a.step := Int.ediv_nonneg (by omega) (by omega)
  have h4 : (a.time - 1) / a.step ≤ a.time - 1 := Int.ediv_le_self _ (by omega)
  omega
theorem steps_ceil (t s : Int) (h2 : 1 ≤ s) : (t - 1) / s + 1 = if t % s = 0 then t / s else t / s + 1 := by
  have e := Int.mul_ediv_add_emod t s
  have n1 := Int.emod_nonneg t (show s ≠ 0 by omega)
  have n2 := Int.emod_lt_of_pos t (show 0 < s by omega)
  split
  · rename_i h
    have : t - 1 = (s - 1) + s * (t / s - 1) := by rw [Int.mul_sub]; omega
    rw [this, Int.add_mul_ediv_left _ _ (by omega), Int.ediv_eq_zero_of_lt (by omega) (by omega)]
    omega
  · rename_i h
    have : t - 1 = (t % s - 1) + s * (t / s) := by omega
    rw [this, Int.add_mul_ediv_left _ _ (by omega), Int.ediv_eq_zero_of_lt (by omega) (by omega)]
    omega
theorem arc_pos {a : Arc} {l : List Pt} (h : a.okB l = true) : 1 ≤ a.time ∧ 1 ≤ a.step := by
  simp only [Arc.okB, Bool.and_eq_true, decide_eq_true_eq] at h
  exact ⟨h.1.1.2, h.1.2⟩
end Go.Proofs.Ytffbipcdlnfihaa
