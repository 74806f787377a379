/-
  Contracts: tables (span.CheckTable, ullageref01.CheckTable).
  Contracts: what is valid (flight).
  Contracts: flight.CheckArc, flight.Steps.
  Contracts: what is valid (ullageref03), the steps of an arc.
-/
import Derived.Test.YtkeifgcncmilmaaGreatChecksS
namespace Go.Proofs.YtkeifgcncmilmaaGreat
open Go.RowKit
set_option maxRecDepth 100000
set_option maxHeartbeats 1000000

def partB (n : Int) : Bool := decide (-2305843009213693952 ≤ n) && decide (n ≤ 2305843009213693952)
/-- A point of a table that may stand behind another one. -/
def Pt.okB (p : Pt) : Bool := partB p.place && p.value.okB && partB p.value.lo && partB p.value.hi
/-- Point k of a list. -/
def ptAt (l : List Pt) (k : Nat) : Bool := match l[k]?, k with
  | some p, 0 => p.okB
  | some p, j + 1 => p.okB && (match l[j]? with | some q => decide (q.place < p.place) | none => false)
  | none, _ => false
def tableB (l : List Pt) : Bool := decide (1 ≤ l.length) && decide (l.length ≤ 64) && (List.range l.length).all (ptAt l)
theorem ptAt_zero (l : List Pt) (h : 0 < l.length) : ptAt l 0 = l[0].okB := by
  simp [ptAt, List.getElem?_eq_getElem h]
theorem ptAt_succ (l : List Pt) (k : Nat) (h : k + 1 < l.length) : ptAt l (k + 1) = (l[k + 1].okB && decide (l[k].place < l[k + 1].place)) := by
  simp [ptAt, List.getElem?_eq_getElem h, List.getElem?_eq_getElem (show k < l.length by omega)]
theorem range_all_false (f : Nat → Bool) (n k : Nat) (h : k < n) (h2 : f k = false) : (List.range n).all f = false := by
  rw [List.all_eq_false]
  exact ⟨k, by simpa using h, by simp [h2]⟩
theorem range_all_succ (f : Nat → Bool) (k : Nat) (h1 : (List.range k).all f = true) (h2 : f k = true) : (List.range (k + 1)).all f = true := by
  rw [List.range_succ, List.all_append, h1]
  simp [h2]
theorem smallSp (p : Pt) : Pt.okB p = (Sp.hasB ⟨-2305843009213693952, 2305843009213693952⟩ p.place && p.value.inB ⟨-2305843009213693952, 2305843009213693952⟩) := by
  rw [Bool.eq_iff_iff]
  simp only [Pt.okB, partB, Sp.hasB, Sp.inB, Sp.okB, numB]
  simp
  omega
theorem rSmall_any (n : Int) (w : World) : Calls Tryz.prog 167 #[.int .i64 n] w fun e w' => e = .returned (.bool (partB n)) ∧ Grew w w' := by
  go_enter Tryz.func167, Tryz.ntmps167
  go_wp2
  all_goals go_ret
  all_goals exact ⟨ret_bool (by (first | (simp [partB, *]; done) | (simp [partB, *] <;> omega) | (simp [partB, *]; omega))), Grew.refl _⟩
theorem spTable_any (l : List Pt) (v : Value) (w : World) (h : SlAt w v l.length (l.flatMap Pt.cells)) : Calls Tryz.prog 89 #[v] w fun e w' => e = .returned (.int .i64 (codeB (tableB l) 2)) ∧ Grew w w' := by
  obtain ⟨ao, cap, rfl, hm, hc⟩ := h
  unfold maxLen at hm
  have Hc := Lib.hid (SlAt.elem (f := Pt.cells) (c := 3) (fun _ => rfl) (by omega) hc)
  clear hc
  by_cases h0 : l.length = 0
  · go_enter Tryz.func89, Tryz.ntmps89
    go_wp2_with (first | ((with_reducible refine wp_region_later ?_ ?_ ?_); (· kernel_rfl); (· kernel_rfl); (try simp only [List.append_eq, List.cons_append, List.nil_append]); (repeat (go_big_quiet_step (fail))); refine wpQuiet_nil ?_; rintro _ ⟨u, rfl⟩))
    go_ret
    exact ⟨ret_int (by rw [show tableB l = false by simp [tableB, h0]]; rfl), gw⟩
  by_cases h64 : 64 < l.length
  · go_enter Tryz.func89, Tryz.ntmps89
    go_wp2_with (first | ((with_reducible refine wp_region_later ?_ ?_ ?_); (· kernel_rfl); (· kernel_rfl); (try simp only [List.append_eq, List.cons_append, List.nil_append]); (repeat (go_big_quiet_step (fail))); refine wpQuiet_nil ?_; rintro _ ⟨u, rfl⟩))
    go_ret
    exact ⟨ret_int (by rw [show tableB l = false by simp [tableB]; omega]; rfl), gw⟩
  have hpos : 0 < l.length := by omega
  have h64' : l.length ≤ 64 := by omega
  have hb1 : ((l.length : Int) == 0) = false := by rw [beq_eq_false_iff_ne]; omega
  have hb2 : decide ((64 : Int) < l.length) = false := by simp; omega
  clear h0 h64
  go_enter Tryz.func89, Tryz.ntmps89
  go_wp2_with (first | ((with_reducible refine wp_region_later ?_ ?_ ?_); (· kernel_rfl); (· kernel_rfl); (try simp only [List.append_eq, List.cons_append, List.nil_append]); (repeat (go_big_quiet_step (fail))); refine wpQuiet_nil ?_; rintro _ ⟨u, rfl⟩))
  go_loopw [17] (fun t wr => ∃ k : Nat, t = .int .i64 k ∧ k ≤ l.length ∧ (List.range k).all (ptAt l) = true ∧ Grew (w.alloc (.cells #[.int .i64 (-2305843009213693952), .int .i64 2305843009213693952] 24)) wr) (fun t _ => l.length - (intOf t).toNat)
  case atStart => exact ⟨0, rfl, by omega, rfl, gw⟩
  case round =>
    obtain ⟨k, rfl, hk, hall, hg⟩ := hrel
    obtain ⟨x, rfl⟩ := later_of hg
    clear hg
    have Hall := Lib.hid hall
    clear hall
    by_cases hlt : k < l.length
    · obtain ⟨b1, o1, rfl, i1, hd1, hd2⟩ := Hc.out k hlt
      have hd0 := hd1 _ rfl
      have hd3 := hd2 1 _ rfl
      have hd4 := hd2 2 _ rfl
      clear hd1 hd2
      have i1 : BlockIn w b1 := ⟨i1⟩
      have hsm := smallSp l[k]
      have Hno : Hid (ptAt l k = false → tableB l = false) := fun h => by
        simp only [tableB, range_all_false _ _ k hlt h, Bool.and_false]
      by_cases hk0 : k = 0
      · have Hp := Lib.hid (show ptAt l k = (Sp.hasB ⟨-2305843009213693952, 2305843009213693952⟩ l[k].place && l[k].value.inB ⟨-2305843009213693952, 2305843009213693952⟩) by rw [← hsm]; subst hk0; exact ptAt_zero l hlt)
        clear hsm
        subst hk0
        simp only [Nat.zero_mul, Nat.add_zero] at hd0 hd3 hd4
        rcases chain2 (Sp.hasB ⟨-2305843009213693952, 2305843009213693952⟩ l[0].place) (l[0].value.inB ⟨-2305843009213693952, 2305843009213693952⟩) with h1 | ⟨h1, h2⟩ | ⟨h1, h2⟩
        · go_wp2_with (first | (go_at_call 146; (with_reducible refine call_later (spIn_any ⟨-2305843009213693952, 2305843009213693952⟩ _ _) ?_); intro u) | (go_at_call 22; (with_reducible refine call_later (spWithin_any _ ⟨-2305843009213693952, 2305843009213693952⟩ _) ?_); intro u) | ((with_reducible refine wp_region_later ?_ ?_ ?_); (· kernel_rfl); (· kernel_rfl); (try simp only [List.append_eq, List.cons_append, List.nil_append]); (repeat (go_big_quiet_step ((first | (go_at_call 146; (with_reducible exact call_quiet (spIn_any ⟨-2305843009213693952, 2305843009213693952⟩ _ _))) | (go_at_call 22; (with_reducible exact call_quiet (spWithin_any _ ⟨-2305843009213693952, 2305843009213693952⟩ _))))))); refine wpQuiet_nil ?_; rintro _ ⟨u, rfl⟩))
          go_ret
          exact ⟨ret_int (by rw [Hno.out (by rw [Hp.out, h1]; rfl)]; rfl), gw⟩
        · go_wp2_with (first | (go_at_call 146; (with_reducible refine call_later (spIn_any ⟨-2305843009213693952, 2305843009213693952⟩ _ _) ?_); intro u) | (go_at_call 22; (with_reducible refine call_later (spWithin_any _ ⟨-2305843009213693952, 2305843009213693952⟩ _) ?_); intro u) | ((with_reducible refine wp_region_later ?_ ?_ ?_); (· kernel_rfl); (· kernel_rfl); (try simp only [List.append_eq, List.cons_append, List.nil_append]); (repeat (go_big_quiet_step ((first | (go_at_call 146; (with_reducible exact call_quiet (spIn_any ⟨-2305843009213693952, 2305843009213693952⟩ _ _))) | (go_at_call 22; (with_reducible exact call_quiet (spWithin_any _ ⟨-2305843009213693952, 2305843009213693952⟩ _))))))); refine wpQuiet_nil ?_; rintro _ ⟨u, rfl⟩))
          go_ret
          exact ⟨ret_int (by rw [Hno.out (by rw [Hp.out, h1, h2]; rfl)]; rfl), gw⟩
        · go_wp2_with (first | (go_at_call 146; (with_reducible refine call_later (spIn_any ⟨-2305843009213693952, 2305843009213693952⟩ _ _) ?_); intro u) | (go_at_call 22; (with_reducible refine call_later (spWithin_any _ ⟨-2305843009213693952, 2305843009213693952⟩ _) ?_); intro u) | ((with_reducible refine wp_region_later ?_ ?_ ?_); (· kernel_rfl); (· kernel_rfl); (try simp only [List.append_eq, List.cons_append, List.nil_append]); (repeat (go_big_quiet_step ((first | (go_at_call 146; (with_reducible exact call_quiet (spIn_any ⟨-2305843009213693952, 2305843009213693952⟩ _ _))) | (go_at_call 22; (with_reducible exact call_quiet (spWithin_any _ ⟨-2305843009213693952, 2305843009213693952⟩ _))))))); refine wpQuiet_nil ?_; rintro _ ⟨u, rfl⟩))
          go_roundw
          case rel => exact ⟨0 + 1, by go_num, by omega, range_all_succ _ _ Hall.out (by rw [Hp.out, h1, h2]; rfl), gw⟩
          case measure => simp [intOf]; omega
      · have hkk : ∃ j, k = j + 1 := ⟨k - 1, by omega⟩
        obtain ⟨j, rfl⟩ := hkk
        obtain ⟨_, _, e1, _, hd5, _⟩ := Hc.out j (by omega)
        cases e1
        have hd5 := hd5 _ rfl
        have Hp := Lib.hid (show ptAt l (j + 1) = (Sp.hasB ⟨-2305843009213693952, 2305843009213693952⟩ l[j + 1].place && l[j + 1].value.inB ⟨-2305843009213693952, 2305843009213693952⟩ && decide (l[j].place < l[j + 1].place)) by rw [← hsm]; exact ptAt_succ l j hlt)
        clear hsm
        rcases chain2 (Sp.hasB ⟨-2305843009213693952, 2305843009213693952⟩ l[j + 1].place) (l[j + 1].value.inB ⟨-2305843009213693952, 2305843009213693952⟩) with h1 | ⟨h1, h2⟩ | ⟨h1, h2⟩
        · go_wp2_with (first | (go_at_call 146; (with_reducible refine call_later (spIn_any ⟨-2305843009213693952, 2305843009213693952⟩ _ _) ?_); intro u) | (go_at_call 22; (with_reducible refine call_later (spWithin_any _ ⟨-2305843009213693952, 2305843009213693952⟩ _) ?_); intro u) | ((with_reducible refine wp_region_later ?_ ?_ ?_); (· kernel_rfl); (· kernel_rfl); (try simp only [List.append_eq, List.cons_append, List.nil_append]); (repeat (go_big_quiet_step ((first | (go_at_call 146; (with_reducible exact call_quiet (spIn_any ⟨-2305843009213693952, 2305843009213693952⟩ _ _))) | (go_at_call 22; (with_reducible exact call_quiet (spWithin_any _ ⟨-2305843009213693952, 2305843009213693952⟩ _))))))); refine wpQuiet_nil ?_; rintro _ ⟨u, rfl⟩))
          go_ret
          exact ⟨ret_int (by rw [Hno.out (by rw [Hp.out, h1]; rfl)]; rfl), gw⟩
        · go_wp2_with (first | (go_at_call 146; (with_reducible refine call_later (spIn_any ⟨-2305843009213693952, 2305843009213693952⟩ _ _) ?_); intro u) | (go_at_call 22; (with_reducible refine call_later (spWithin_any _ ⟨-2305843009213693952, 2305843009213693952⟩ _) ?_); intro u) | ((with_reducible refine wp_region_later ?_ ?_ ?_); (· kernel_rfl); (· kernel_rfl); (try simp only [List.append_eq, List.cons_append, List.nil_append]); (repeat (go_big_quiet_step ((first | (go_at_call 146; (with_reducible exact call_quiet (spIn_any ⟨-2305843009213693952, 2305843009213693952⟩ _ _))) | (go_at_call 22; (with_reducible exact call_quiet (spWithin_any _ ⟨-2305843009213693952, 2305843009213693952⟩ _))))))); refine wpQuiet_nil ?_; rintro _ ⟨u, rfl⟩))
          go_ret
          exact ⟨ret_int (by rw [Hno.out (by rw [Hp.out, h1, h2]; rfl)]; rfl), gw⟩
        · rcases prop_or (l[j].place < l[j + 1].place) with h3 | h3
          · go_wp2_with (first | (go_at_call 146; (with_reducible refine call_later (spIn_any ⟨-2305843009213693952, 2305843009213693952⟩ _ _) ?_); intro u) | (go_at_call 22; (with_reducible refine call_later (spWithin_any _ ⟨-2305843009213693952, 2305843009213693952⟩ _) ?_); intro u) | ((with_reducible refine wp_region_later ?_ ?_ ?_); (· kernel_rfl); (· kernel_rfl); (try simp only [List.append_eq, List.cons_append, List.nil_append]); (repeat (go_big_quiet_step ((first | (go_at_call 146; (with_reducible exact call_quiet (spIn_any ⟨-2305843009213693952, 2305843009213693952⟩ _ _))) | (go_at_call 22; (with_reducible exact call_quiet (spWithin_any _ ⟨-2305843009213693952, 2305843009213693952⟩ _))))))); refine wpQuiet_nil ?_; rintro _ ⟨u, rfl⟩))
            go_ret
            exact ⟨ret_int (by rw [Hno.out (by rw [Hp.out, h1, h2]; simp; omega)]; rfl), gw⟩
          · go_wp2_with (first | (go_at_call 146; (with_reducible refine call_later (spIn_any ⟨-2305843009213693952, 2305843009213693952⟩ _ _) ?_); intro u) | (go_at_call 22; (with_reducible refine call_later (spWithin_any _ ⟨-2305843009213693952, 2305843009213693952⟩ _) ?_); intro u) | ((with_reducible refine wp_region_later ?_ ?_ ?_); (· kernel_rfl); (· kernel_rfl); (try simp only [List.append_eq, List.cons_append, List.nil_append]); (repeat (go_big_quiet_step ((first | (go_at_call 146; (with_reducible exact call_quiet (spIn_any ⟨-2305843009213693952, 2305843009213693952⟩ _ _))) | (go_at_call 22; (with_reducible exact call_quiet (spWithin_any _ ⟨-2305843009213693952, 2305843009213693952⟩ _))))))); refine wpQuiet_nil ?_; rintro _ ⟨u, rfl⟩))
            go_roundw
            case rel => exact ⟨j + 1 + 1, by go_num, by omega, range_all_succ _ _ Hall.out (by rw [Hp.out, h1, h2]; simp; omega), gw⟩
            case measure => simp [intOf]; omega
    · go_wp2
      go_ret
      exact ⟨ret_int (by rw [show tableB l = true by simp only [tableB, Bool.and_eq_true, decide_eq_true_eq]; exact ⟨⟨by omega, by omega⟩, by rw [show l.length = k by omega]; exact Hall.out⟩]; rfl), gw⟩
theorem rTable_any (l : List Pt) (v : Value) (w : World) (h : SlAt w v l.length (l.flatMap Pt.cells)) : Calls Tryz.prog 114 #[v] w fun e w' => e = .returned (.int .i64 (codeB (tableB l) 2)) ∧ Grew w w' := by
  obtain ⟨ao, cap, rfl, hm, hc⟩ := h
  unfold maxLen at hm
  have Hc := Lib.hid (SlAt.elem (f := Pt.cells) (c := 3) (fun _ => rfl) (by omega) hc)
  clear hc
  by_cases h0 : l.length = 0
  · go_enter Tryz.func114, Tryz.ntmps114
    go_wp2_with (first | ((with_reducible refine wp_region_later ?_ ?_ ?_); (· kernel_rfl); (· kernel_rfl); (try simp only [List.append_eq, List.cons_append, List.nil_append]); (repeat (go_big_quiet_step (fail))); refine wpQuiet_nil ?_; rintro _ ⟨u, rfl⟩))
    go_ret
    exact ⟨ret_int (by rw [show tableB l = false by simp [tableB, h0]]; rfl), gw⟩
  by_cases h64 : 64 < l.length
  · go_enter Tryz.func114, Tryz.ntmps114
    go_wp2_with (first | ((with_reducible refine wp_region_later ?_ ?_ ?_); (· kernel_rfl); (· kernel_rfl); (try simp only [List.append_eq, List.cons_append, List.nil_append]); (repeat (go_big_quiet_step (fail))); refine wpQuiet_nil ?_; rintro _ ⟨u, rfl⟩))
    go_ret
    exact ⟨ret_int (by rw [show tableB l = false by simp [tableB]; omega]; rfl), gw⟩
  have hpos : 0 < l.length := by omega
  have h64' : l.length ≤ 64 := by omega
  have hb1 : ((l.length : Int) == 0) = false := by rw [beq_eq_false_iff_ne]; omega
  have hb2 : decide ((64 : Int) < l.length) = false := by simp; omega
  clear h0 h64
  go_enter Tryz.func114, Tryz.ntmps114
  go_wp2_with (first | ((with_reducible refine wp_region_later ?_ ?_ ?_); (· kernel_rfl); (· kernel_rfl); (try simp only [List.append_eq, List.cons_append, List.nil_append]); (repeat (go_big_quiet_step (fail))); refine wpQuiet_nil ?_; rintro _ ⟨u, rfl⟩))
  go_loopw [3] (fun t wr => ∃ k : Nat, t = .int .i64 k ∧ k ≤ l.length ∧ (List.range k).all (ptAt l) = true ∧ Grew w wr) (fun t _ => l.length - (intOf t).toNat)
  case atStart => exact ⟨0, rfl, by omega, rfl, gw⟩
  case round =>
    obtain ⟨k, rfl, hk, hall, hg⟩ := hrel
    obtain ⟨x, rfl⟩ := later_of hg
    clear hg
    have Hall := Lib.hid hall
    clear hall
    by_cases hlt : k < l.length
    · obtain ⟨b1, o1, rfl, i1, hd1, hd2⟩ := Hc.out k hlt
      have hd0 := hd1 _ rfl
      have hd3 := hd2 1 _ rfl
      have hd4 := hd2 2 _ rfl
      clear hd1 hd2
      have i1 : BlockIn w b1 := ⟨i1⟩
      have Hno : Hid (ptAt l k = false → tableB l = false) := fun h => by
        simp only [tableB, range_all_false _ _ k hlt h, Bool.and_false]
      by_cases hk0 : k = 0
      · subst hk0
        have Hp := Lib.hid (show ptAt l 0 = (partB l[0].place && l[0].value.okB && partB l[0].value.lo && partB l[0].value.hi) by exact ptAt_zero l hlt)
        simp only [Nat.zero_mul, Nat.add_zero] at hd0 hd3 hd4
        rcases chain4 (partB l[0].place) (partB l[0].value.lo) (partB l[0].value.hi) l[0].value.okB with h1 | ⟨h1, h2⟩ | ⟨h1, h2, h3⟩ | ⟨h1, h2, h3, h4⟩ | ⟨h1, h2, h3, h4⟩
        all_goals skip
        all_goals
          go_wp2_with (first | (go_at_call 167; (with_reducible refine call_later (rSmall_any _ _) ?_); intro u) | (go_at_call 108; (with_reducible refine call_later (rCheck_any _ _) ?_); intro u) | ((with_reducible refine wp_region_later ?_ ?_ ?_); (· kernel_rfl); (· kernel_rfl); (try simp only [List.append_eq, List.cons_append, List.nil_append]); (repeat (go_big_quiet_step ((first | (go_at_call 167; (with_reducible exact call_quiet (rSmall_any _ _))) | (go_at_call 108; (with_reducible exact call_quiet (rCheck_any _ _))))))); refine wpQuiet_nil ?_; rintro _ ⟨u, rfl⟩))
        · go_ret
          exact ⟨ret_int (by rw [Hno.out (by rw [Hp.out, h1]; rfl)]; rfl), gw⟩
        · go_ret
          exact ⟨ret_int (by rw [Hno.out (by rw [Hp.out, h2]; simp)]; rfl), gw⟩
        · go_ret
          exact ⟨ret_int (by rw [Hno.out (by rw [Hp.out, h3]; simp)]; rfl), gw⟩
        · go_ret
          exact ⟨ret_int (by rw [Hno.out (by rw [Hp.out, h4]; simp)]; rfl), gw⟩
        · go_roundw
          case rel => exact ⟨0 + 1, by go_num, by omega, range_all_succ _ _ Hall.out (by rw [Hp.out, h1, h2, h3, h4]; rfl), gw⟩
          case measure => simp [intOf]; omega
      · have hkk : ∃ j, k = j + 1 := ⟨k - 1, by omega⟩
        obtain ⟨j, rfl⟩ := hkk
        obtain ⟨_, _, e1, _, hd5, _⟩ := Hc.out j (by omega)
        cases e1
        have hd5 := hd5 _ rfl
        have Hp := Lib.hid (show ptAt l (j + 1) = (partB l[j + 1].place && l[j + 1].value.okB && partB l[j + 1].value.lo && partB l[j + 1].value.hi && decide (l[j].place < l[j + 1].place)) by exact ptAt_succ l j hlt)
        rcases chain4 (partB l[j + 1].place) (partB l[j + 1].value.lo) (partB l[j + 1].value.hi) l[j + 1].value.okB with h1 | ⟨h1, h2⟩ | ⟨h1, h2, h3⟩ | ⟨h1, h2, h3, h4⟩ | ⟨h1, h2, h3, h4⟩
        · skip
          go_wp2_with (first | (go_at_call 167; (with_reducible refine call_later (rSmall_any _ _) ?_); intro u) | (go_at_call 108; (with_reducible refine call_later (rCheck_any _ _) ?_); intro u) | ((with_reducible refine wp_region_later ?_ ?_ ?_); (· kernel_rfl); (· kernel_rfl); (try simp only [List.append_eq, List.cons_append, List.nil_append]); (repeat (go_big_quiet_step ((first | (go_at_call 167; (with_reducible exact call_quiet (rSmall_any _ _))) | (go_at_call 108; (with_reducible exact call_quiet (rCheck_any _ _))))))); refine wpQuiet_nil ?_; rintro _ ⟨u, rfl⟩))
          go_ret
          exact ⟨ret_int (by rw [Hno.out (by rw [Hp.out, h1]; rfl)]; rfl), gw⟩
        · skip
          go_wp2_with (first | (go_at_call 167; (with_reducible refine call_later (rSmall_any _ _) ?_); intro u) | (go_at_call 108; (with_reducible refine call_later (rCheck_any _ _) ?_); intro u) | ((with_reducible refine wp_region_later ?_ ?_ ?_); (· kernel_rfl); (· kernel_rfl); (try simp only [List.append_eq, List.cons_append, List.nil_append]); (repeat (go_big_quiet_step ((first | (go_at_call 167; (with_reducible exact call_quiet (rSmall_any _ _))) | (go_at_call 108; (with_reducible exact call_quiet (rCheck_any _ _))))))); refine wpQuiet_nil ?_; rintro _ ⟨u, rfl⟩))
          go_ret
          exact ⟨ret_int (by rw [Hno.out (by rw [Hp.out, h2]; simp)]; rfl), gw⟩
        · skip
          go_wp2_with (first | (go_at_call 167; (with_reducible refine call_later (rSmall_any _ _) ?_); intro u) | (go_at_call 108; (with_reducible refine call_later (rCheck_any _ _) ?_); intro u) | ((with_reducible refine wp_region_later ?_ ?_ ?_); (· kernel_rfl); (· kernel_rfl); (try simp only [List.append_eq, List.cons_append, List.nil_append]); (repeat (go_big_quiet_step ((first | (go_at_call 167; (with_reducible exact call_quiet (rSmall_any _ _))) | (go_at_call 108; (with_reducible exact call_quiet (rCheck_any _ _))))))); refine wpQuiet_nil ?_; rintro _ ⟨u, rfl⟩))
          go_ret
          exact ⟨ret_int (by rw [Hno.out (by rw [Hp.out, h3]; simp)]; rfl), gw⟩
        · skip
          go_wp2_with (first | (go_at_call 167; (with_reducible refine call_later (rSmall_any _ _) ?_); intro u) | (go_at_call 108; (with_reducible refine call_later (rCheck_any _ _) ?_); intro u) | ((with_reducible refine wp_region_later ?_ ?_ ?_); (· kernel_rfl); (· kernel_rfl); (try simp only [List.append_eq, List.cons_append, List.nil_append]); (repeat (go_big_quiet_step ((first | (go_at_call 167; (with_reducible exact call_quiet (rSmall_any _ _))) | (go_at_call 108; (with_reducible exact call_quiet (rCheck_any _ _))))))); refine wpQuiet_nil ?_; rintro _ ⟨u, rfl⟩))
          go_ret
          exact ⟨ret_int (by rw [Hno.out (by rw [Hp.out, h4]; simp)]; rfl), gw⟩
        · rcases prop_or (l[j].place < l[j + 1].place) with h5 | h5
          · skip
            go_wp2_with (first | (go_at_call 167; (with_reducible refine call_later (rSmall_any _ _) ?_); intro u) | (go_at_call 108; (with_reducible refine call_later (rCheck_any _ _) ?_); intro u) | ((with_reducible refine wp_region_later ?_ ?_ ?_); (· kernel_rfl); (· kernel_rfl); (try simp only [List.append_eq, List.cons_append, List.nil_append]); (repeat (go_big_quiet_step ((first | (go_at_call 167; (with_reducible exact call_quiet (rSmall_any _ _))) | (go_at_call 108; (with_reducible exact call_quiet (rCheck_any _ _))))))); refine wpQuiet_nil ?_; rintro _ ⟨u, rfl⟩))
            go_ret
            exact ⟨ret_int (by rw [Hno.out (by rw [Hp.out, h1, h2, h3, h4]; simp; omega)]; rfl), gw⟩
          · skip
            go_wp2_with (first | (go_at_call 167; (with_reducible refine call_later (rSmall_any _ _) ?_); intro u) | (go_at_call 108; (with_reducible refine call_later (rCheck_any _ _) ?_); intro u) | ((with_reducible refine wp_region_later ?_ ?_ ?_); (· kernel_rfl); (· kernel_rfl); (try simp only [List.append_eq, List.cons_append, List.nil_append]); (repeat (go_big_quiet_step ((first | (go_at_call 167; (with_reducible exact call_quiet (rSmall_any _ _))) | (go_at_call 108; (with_reducible exact call_quiet (rCheck_any _ _))))))); refine wpQuiet_nil ?_; rintro _ ⟨u, rfl⟩))
            go_roundw
            case rel => exact ⟨j + 1 + 1, by go_num, by omega, range_all_succ _ _ Hall.out (by rw [Hp.out, h1, h2, h3, h4]; simp; omega), gw⟩
            case measure => simp [intOf]; omega
    · go_wp2
      go_ret
      exact ⟨ret_int (by rw [show tableB l = true by simp only [tableB, Bool.and_eq_true, decide_eq_true_eq]; exact ⟨⟨by omega, by omega⟩, by rw [show l.length = k by omega]; exact Hall.out⟩]; rfl), gw⟩
end Go.Proofs.YtkeifgcncmilmaaGreat
namespace Go.Proofs.YtkeifgcncmilmaaGreat
open Go.RowKit
set_option maxRecDepth 100000
set_option maxHeartbeats 1000000

theorem flValid_any (n : Int) (w : World) : Calls Tryz.prog 84 #[.int .i64 n] w fun e w' => e = .returned (.bool (numB n)) ∧ Grew w w' := by
  go_enter Tryz.func84, Tryz.ntmps84
  go_wp2
  go_ret
  exact ⟨ret_bool (by unfold numB; simp), Grew.refl _⟩
theorem flSpans_any (l : List Sp) (v : Value) (w : World) (h : SlAt w v l.length (l.flatMap Sp.cells)) : Calls Tryz.prog 88 #[v] w fun e w' => e = .returned (.bool (l.all Sp.okB)) ∧ Grew w w' := by
  obtain ⟨ao, cap, rfl, hm, hc⟩ := h
  unfold maxLen at hm
  have Hc := Lib.hid (SlAt.elem (f := Sp.cells) (c := 2) (fun _ => rfl) (by omega) hc)
  clear hc
  go_enter Tryz.func88, Tryz.ntmps88
  go_wp2
  go_loopw [7] (fun t wr => ∃ k : Nat, t = .int .i64 k ∧ k ≤ l.length ∧ (l.take k).all Sp.okB = true ∧ Grew w wr) (fun t _ => l.length - (intOf t).toNat)
  case atStart => exact ⟨0, rfl, by omega, rfl, Grew.refl _⟩
  case round =>
    obtain ⟨k, rfl, hk, hall, hg⟩ := hrel
    obtain ⟨x, rfl⟩ := later_of hg
    clear hg
    have Hall := Lib.hid hall
    clear hall
    by_cases hlt : k < l.length
    · obtain ⟨b1, o1, rfl, i1, hd1, hd2⟩ := Hc.out k hlt
      have hd1 := hd1 _ rfl
      have hd2 := hd2 1 _ rfl
      have i1 : BlockIn w b1 := ⟨i1⟩
      cases h : l[k].okB
      · go_wp2_with (first | (go_at_call 90; (with_reducible refine call_later (spCheck_any _ _) ?_); intro u))
        go_ret
        exact ⟨ret_bool (by rw [all_false _ _ _ hlt h]), gw⟩
      · go_wp2_with (first | (go_at_call 90; (with_reducible refine call_later (spCheck_any _ _) ?_); intro u))
        go_roundw
        case rel => exact ⟨k + 1, by go_num, by omega, all_take_succ _ _ _ hlt Hall.out h, gw⟩
        case measure => simp [intOf]; omega
    · go_wp2
      go_ret
      exact ⟨ret_bool (by rw [all_true _ _ _ (by omega) Hall.out]), x.grew⟩
theorem flSpans_one (a : Sp) (v : Value) (w : World) (h : SlAt w v 1 [.int .i64 a.lo, .int .i64 a.hi]) : Calls Tryz.prog 88 #[v] w fun e w' => e = .returned (.bool a.okB) ∧ Grew w w' := by
  have := flSpans_any [a] v w h
  simpa using this
theorem flSpans_box (b : Bx) (v : Value) (w : World) (h : SlAt w v 3 [.int .i64 b.x.lo, .int .i64 b.x.hi, .int .i64 b.y.lo, .int .i64 b.y.hi, .int .i64 b.z.lo, .int .i64 b.z.hi]) : Calls Tryz.prog 88 #[v] w fun e w' => e = .returned (.bool b.okB) ∧ Grew w w' := by
  have := flSpans_any [b.x, b.y, b.z] v w h
  simpa [Bx.okB, Bool.and_assoc] using this
theorem flSpans_four (a b c d : Sp) (v : Value) (w : World) (h : SlAt w v 4 [.int .i64 a.lo, .int .i64 a.hi, .int .i64 b.lo, .int .i64 b.hi, .int .i64 c.lo, .int .i64 c.hi, .int .i64 d.lo, .int .i64 d.hi]) : Calls Tryz.prog 88 #[v] w fun e w' => e = .returned (.bool (a.okB && b.okB && c.okB && d.okB)) ∧ Grew w w' := by
  have := flSpans_any [a, b, c, d] v w h
  simpa [Bool.and_assoc] using this
theorem flBoxes_any (l : List Bx) (v : Value) (w : World) (h : SlAt w v l.length (l.flatMap Bx.cells)) : Calls Tryz.prog 85 #[v] w fun e w' => e = .returned (.bool (l.all Bx.okB)) ∧ Grew w w' := by
  obtain ⟨ao, cap, rfl, hm, hc⟩ := h
  unfold maxLen at hm
  have Hc := Lib.hid (SlAt.elem (f := Bx.cells) (c := 6) (fun _ => rfl) (by omega) hc)
  clear hc
  go_enter Tryz.func85, Tryz.ntmps85
  go_wp2
  go_loopw [7] (fun t wr => ∃ k : Nat, t = .int .i64 k ∧ k ≤ l.length ∧ (l.take k).all Bx.okB = true ∧ Grew w wr) (fun t _ => l.length - (intOf t).toNat)
  case atStart => exact ⟨0, rfl, by omega, rfl, Grew.refl _⟩
  case round =>
    obtain ⟨k, rfl, hk, hall, hg⟩ := hrel
    obtain ⟨x, rfl⟩ := later_of hg
    clear hg
    have Hall := Lib.hid hall
    clear hall
    by_cases hlt : k < l.length
    · obtain ⟨b1, o1, rfl, i1, hd1, hd2⟩ := Hc.out k hlt
      have hc0 := hd1 _ rfl
      have hc1 := hd2 1 _ rfl
      have hc2 := hd2 2 _ rfl
      have hc3 := hd2 3 _ rfl
      have hc4 := hd2 4 _ rfl
      have hc5 := hd2 5 _ rfl
      clear hd1 hd2
      have i1 : BlockIn w b1 := ⟨i1⟩
      cases h : l[k].okB
      · go_wp2_with (first | (go_at_call 88; (with_reducible refine call_later (flSpans_box _ _ _ (SlAt.fresh _ _ _ _ (by simp [maxLen]))) ?_); intro u))
        go_ret
        exact ⟨ret_bool (by rw [all_false _ _ _ hlt h]), gw⟩
      · go_wp2_with (first | (go_at_call 88; (with_reducible refine call_later (flSpans_box _ _ _ (SlAt.fresh _ _ _ _ (by simp [maxLen]))) ?_); intro u))
        go_roundw
        case rel => exact ⟨k + 1, by go_num, by omega, all_take_succ _ _ _ hlt Hall.out h, gw⟩
        case measure => simp [intOf]; omega
    · go_wp2
      go_ret
      exact ⟨ret_bool (by rw [all_true _ _ _ (by omega) Hall.out]), x.grew⟩
theorem flBoxes_one (a : Bx) (v : Value) (w : World) (h : SlAt w v 1 [.int .i64 a.x.lo, .int .i64 a.x.hi, .int .i64 a.y.lo, .int .i64 a.y.hi, .int .i64 a.z.lo, .int .i64 a.z.hi]) : Calls Tryz.prog 85 #[v] w fun e w' => e = .returned (.bool a.okB) ∧ Grew w w' := by
  have := flBoxes_any [a] v w h
  simpa using this
theorem flBoxes_two (a b : Bx) (v : Value) (w : World) (h : SlAt w v 2 [.int .i64 a.x.lo, .int .i64 a.x.hi, .int .i64 a.y.lo, .int .i64 a.y.hi, .int .i64 a.z.lo, .int .i64 a.z.hi, .int .i64 b.x.lo, .int .i64 b.x.hi, .int .i64 b.y.lo, .int .i64 b.y.hi, .int .i64 b.z.lo, .int .i64 b.z.hi]) : Calls Tryz.prog 85 #[v] w fun e w' => e = .returned (.bool (a.okB && b.okB)) ∧ Grew w w' := by
  have := flBoxes_any [a, b] v w h
  simpa using this
theorem flPlanet_any (p : Planet) (w : World) : Calls Tryz.prog 62 #[.agg #[.int .i64 p.mu.lo, .int .i64 p.mu.hi, .int .i64 p.radius.lo, .int .i64 p.radius.hi, .int .i64 p.oblate.lo, .int .i64 p.oblate.hi, .int .i64 p.spin.lo, .int .i64 p.spin.hi, .int .i64 p.pull.x.lo, .int .i64 p.pull.x.hi, .int .i64 p.pull.y.lo, .int .i64 p.pull.y.hi, .int .i64 p.pull.z.lo, .int .i64 p.pull.z.hi]] w fun e w' => e = .returned (.int .i64 (codeB p.okB 2)) ∧ Grew w w' := by
  rcases bool_or (p.pull.okB) with h1 | h1
  rotate_left
  rcases bool_or ((p.mu.okB && p.radius.okB && p.oblate.okB && p.spin.okB)) with h2 | h2
  rotate_left
  rcases prop_or (0 ≤ p.mu.lo) with h3 | h3
  rotate_left
  rcases prop_or (0 ≤ p.radius.lo) with h4 | h4
  rotate_left
  all_goals
    go_enter Tryz.func62, Tryz.ntmps62
    go_wp2_with (first | (go_at_call 85; (with_reducible refine call_later (flBoxes_one p.pull _ _ (SlAt.fresh _ _ _ _ (by simp [maxLen]))) ?_); intro u) | (go_at_call 88; (with_reducible refine call_later (flSpans_four p.mu p.radius p.oblate p.spin _ _ (SlAt.fresh _ _ _ _ (by simp [maxLen]))) ?_); intro u))
    go_ret
    exact ⟨ret_int (by (first | (rw [show p.okB = true from by simp [Planet.okB, *]]; rfl) | (rw [show p.okB = false from by simp [Planet.okB, *] <;> omega]; rfl) | (rw [show p.okB = true from by simp [Planet.okB, *] <;> omega]; rfl))), gw⟩
theorem flState_any (s : State) (w : World) : Calls Tryz.prog 53 #[.agg #[.int .i64 s.t, .int .i64 s.p.x.lo, .int .i64 s.p.x.hi, .int .i64 s.p.y.lo, .int .i64 s.p.y.hi, .int .i64 s.p.z.lo, .int .i64 s.p.z.hi, .int .i64 s.v.x.lo, .int .i64 s.v.x.hi, .int .i64 s.v.y.lo, .int .i64 s.v.y.hi, .int .i64 s.v.z.lo, .int .i64 s.v.z.hi, .int .i64 s.m.lo, .int .i64 s.m.hi]] w fun e w' => e = .returned (.int .i64 (codeB s.okB 2)) ∧ Grew w w' := by
  rcases bool_or (numB s.t) with h1 | h1
  rotate_left
  rcases bool_or ((s.p.okB && s.v.okB)) with h2 | h2
  rotate_left
  rcases bool_or (s.m.okB) with h3 | h3
  rotate_left
  rcases prop_or (1 ≤ s.m.lo) with h4 | h4
  rotate_left
  all_goals
    go_enter Tryz.func53, Tryz.ntmps53
    go_wp2_with (first | (go_at_call 84; (with_reducible refine call_later (flValid_any _ _) ?_); intro u) | (go_at_call 85; (with_reducible refine call_later (flBoxes_two s.p s.v _ _ (SlAt.fresh _ _ _ _ (by simp [maxLen]))) ?_); intro u) | (go_at_call 88; (with_reducible refine call_later (flSpans_one s.m _ _ (SlAt.fresh _ _ _ _ (by simp [maxLen]))) ?_); intro u))
    go_ret
    exact ⟨ret_int (by (first | (rw [show s.okB = true from by simp [State.okB, *]]; rfl) | (rw [show s.okB = false from by simp [State.okB, *] <;> omega]; rfl) | (rw [show s.okB = true from by simp [State.okB, *] <;> omega]; rfl))), gw⟩
end Go.Proofs.YtkeifgcncmilmaaGreat
namespace Go.Proofs.YtkeifgcncmilmaaGreat
open Go.RowKit
set_option maxRecDepth 100000
set_option maxHeartbeats 1000000

def dirB (d : Bx) : Bool := d.x.inB unit && d.y.inB unit && d.z.inB unit
def forcesB (a : Arc) : Bool := [a.thrust, a.flow, a.drop].all (fun s => s.leastB 0)
def dragB (l : List Pt) : Bool := l.isEmpty || tableB l
def Arc.okB (a : Arc) (l : List Pt) : Bool := dirB a.dir && forcesB a && decide (1 ≤ a.time) && decide (1 ≤ a.step) && dragB l
theorem drag_n {w : World} {a : Arc} {l : List Pt} (h : DragAt w a l) : a.drag.n = l.length := by
  obtain ⟨ao, cap, e, -⟩ := h
  simp at e
  exact e.2.1
theorem DragAt.grew {w w' : World} {a : Arc} {l : List Pt} (h : DragAt w a l) (g : Grew w w') : DragAt w' a l := SlAt.grew h g
theorem spTable_drag (a : Arc) (l : List Pt) (w : World) (h : DragAt w a l) : Calls Tryz.prog 89 #[.slice a.drag.ao a.drag.n a.drag.cap] w fun e w' => e = .returned (.int .i64 (codeB (tableB l) 2)) ∧ Grew w w' := spTable_any l _ w h
theorem rTable_drag (a : Arc) (l : List Pt) (w : World) (h : DragAt w a l) : Calls Tryz.prog 114 #[.slice a.drag.ao a.drag.n a.drag.cap] w fun e w' => e = .returned (.int .i64 (codeB (tableB l) 2)) ∧ Grew w w' := rTable_any l _ w h
theorem flArc_any (a : Arc) (l : List Pt) (w : World) (hd : DragAt w a l) : Calls Tryz.prog 46 #[.agg #[.int .i64 a.time, .int .i64 a.step, .int .i64 a.thrust.lo, .int .i64 a.thrust.hi, .int .i64 a.flow.lo, .int .i64 a.flow.hi, .int .i64 a.dir.x.lo, .int .i64 a.dir.x.hi, .int .i64 a.dir.y.lo, .int .i64 a.dir.y.hi, .int .i64 a.dir.z.lo, .int .i64 a.dir.z.hi, .slice a.drag.ao a.drag.n a.drag.cap, .int .i64 a.drop.lo, .int .i64 a.drop.hi]] w fun e w' => e = .returned (.int .i64 (codeB (a.okB l) 2)) ∧ Grew w w' := by
  have Hn := Lib.hid (drag_n hd)
  have Hd := Lib.hid hd
  clear hd
  have i0 : ∀ w, (Instr.index 26 (.agg #[.int .i64 a.dir.x.lo, .int .i64 a.dir.x.hi, .int .i64 a.dir.y.lo, .int .i64 a.dir.y.hi, .int .i64 a.dir.z.lo, .int .i64 a.dir.z.hi]) (.int .i64 0)).run Tryz.prog w = .ok (.agg #[.int .i64 a.dir.x.lo, .int .i64 a.dir.x.hi]) w := fun _ => by kernel_rfl
  have i1 : ∀ w, (Instr.index 26 (.agg #[.int .i64 a.dir.x.lo, .int .i64 a.dir.x.hi, .int .i64 a.dir.y.lo, .int .i64 a.dir.y.hi, .int .i64 a.dir.z.lo, .int .i64 a.dir.z.hi]) (.int .i64 1)).run Tryz.prog w = .ok (.agg #[.int .i64 a.dir.y.lo, .int .i64 a.dir.y.hi]) w := fun _ => by kernel_rfl
  have i2 : ∀ w, (Instr.index 26 (.agg #[.int .i64 a.dir.x.lo, .int .i64 a.dir.x.hi, .int .i64 a.dir.y.lo, .int .i64 a.dir.y.hi, .int .i64 a.dir.z.lo, .int .i64 a.dir.z.hi]) (.int .i64 2)).run Tryz.prog w = .ok (.agg #[.int .i64 a.dir.z.lo, .int .i64 a.dir.z.hi]) w := fun _ => by kernel_rfl
  go_enter Tryz.func46, Tryz.ntmps46
  go_wp2
  go_loopw [11] (fun t wr => ∃ k : Nat, t = .int .i64 k ∧ k ≤ 3 ∧ (∀ j, j < k → (a.dir.at j).inB unit = true) ∧ Grew ((w.alloc (.cells #[.int .i64 a.time, .int .i64 a.step, .int .i64 a.thrust.lo, .int .i64 a.thrust.hi, .int .i64 a.flow.lo, .int .i64 a.flow.hi, .int .i64 a.dir.x.lo, .int .i64 a.dir.x.hi, .int .i64 a.dir.y.lo, .int .i64 a.dir.y.hi, .int .i64 a.dir.z.lo, .int .i64 a.dir.z.hi, .slice a.drag.ao a.drag.n a.drag.cap, .int .i64 a.drop.lo, .int .i64 a.drop.hi] 48)).alloc (.cells #[.int .i64 (-4294967296), .int .i64 4294967296] 24)) wr) (fun t _ => 3 - (intOf t).toNat)
  case atStart => exact ⟨0, rfl, by omega, fun j hj => by omega, gw⟩
  case round =>
    obtain ⟨k, rfl, hk, hall, hg⟩ := hrel
    obtain ⟨x, rfl⟩ := later_of hg
    clear hg
    have Hall := Lib.hid hall
    clear hall
    by_cases hlt : k < 3
    · have hkk : k = 0 ∨ k = 1 ∨ k = 2 := by omega
      rcases hkk with rfl | rfl | rfl
      · cases h : (a.dir.x).inB unit
        · go_wp2_with (first | (go_at_call 22; (with_reducible refine call_later (spWithin_any _ unit _) ?_); intro u))
          go_ret
          exact ⟨ret_int (by rw [show a.okB l = false by simp [Arc.okB, dirB, h]]; rfl), gw⟩
        · go_wp2_with (first | (go_at_call 22; (with_reducible refine call_later (spWithin_any _ unit _) ?_); intro u))
          go_roundw
          case rel => exact ⟨0 + 1, rfl, by omega, fun j hj => by rcases Nat.lt_succ_iff_lt_or_eq.1 hj with hj | rfl; exact Hall.out j hj; exact h, gw⟩
          case measure => simp [intOf]
      · cases h : (a.dir.y).inB unit
        · go_wp2_with (first | (go_at_call 22; (with_reducible refine call_later (spWithin_any _ unit _) ?_); intro u))
          go_ret
          exact ⟨ret_int (by rw [show a.okB l = false by simp [Arc.okB, dirB, h]]; rfl), gw⟩
        · go_wp2_with (first | (go_at_call 22; (with_reducible refine call_later (spWithin_any _ unit _) ?_); intro u))
          go_roundw
          case rel => exact ⟨1 + 1, rfl, by omega, fun j hj => by rcases Nat.lt_succ_iff_lt_or_eq.1 hj with hj | rfl; exact Hall.out j hj; exact h, gw⟩
          case measure => simp [intOf]
      · cases h : (a.dir.z).inB unit
        · go_wp2_with (first | (go_at_call 22; (with_reducible refine call_later (spWithin_any _ unit _) ?_); intro u))
          go_ret
          exact ⟨ret_int (by rw [show a.okB l = false by simp [Arc.okB, dirB, h]]; rfl), gw⟩
        · go_wp2_with (first | (go_at_call 22; (with_reducible refine call_later (spWithin_any _ unit _) ?_); intro u))
          go_roundw
          case rel => exact ⟨2 + 1, rfl, by omega, fun j hj => by rcases Nat.lt_succ_iff_lt_or_eq.1 hj with hj | rfl; exact Hall.out j hj; exact h, gw⟩
          case measure => simp [intOf]
    · obtain rfl : k = 3 := by omega
      have Hdir := Lib.hid (show dirB a.dir = true by
        have h0 := Hall.out 0 (by omega)
        have h1 := Hall.out 1 (by omega)
        have h2 := Hall.out 2 (by omega)
        simp only [Bx.at] at h0 h1 h2
        simp [dirB, h0, h1, h2])
      clear Hall
      have hW := SlAt.fresh (w := x.world) [.int .i64 a.thrust.lo, .int .i64 a.thrust.hi, .int .i64 a.flow.lo, .int .i64 a.flow.hi, .int .i64 a.drop.lo, .int .i64 a.drop.hi] 24 3 3 (by simp [maxLen])
      obtain ⟨ao, cap, e, -, hc⟩ := hW
      cases e
      have Hc := Lib.hid (SlAt.elem (f := Sp.cells) (c := 2) (l := [a.thrust, a.flow, a.drop]) (fun _ => rfl) (by omega) hc)
      clear hc
      rw [show ((3 : Nat) : Int) = 3 from rfl]
      go_wp2_with fail
      go_loopw [27] (fun t wr => ∃ k : Nat, t = .int .i64 k ∧ k ≤ 3 ∧ ([a.thrust, a.flow, a.drop].take k).all (fun s => s.leastB 0) = true ∧ Grew (x.world.alloc (.cells #[.int .i64 a.thrust.lo, .int .i64 a.thrust.hi, .int .i64 a.flow.lo, .int .i64 a.flow.hi, .int .i64 a.drop.lo, .int .i64 a.drop.hi] 24)) wr) (fun t _ => 3 - (intOf t).toNat)
      case atStart => exact ⟨0, rfl, by omega, rfl, gw⟩
      case round =>
        obtain ⟨k, rfl, hk, hall, hg⟩ := hrel
        obtain ⟨y, rfl⟩ := later_of hg
        clear hg
        have Hall := Lib.hid hall
        clear hall
        by_cases hlt : k < 3
        · obtain ⟨b1, o1, e1, i1, hd1, hd2⟩ := Hc.out k hlt
          cases e1
          have hd1 := hd1 _ rfl
          have hd2 := hd2 1 _ rfl
          obtain ⟨s, hs⟩ : ∃ s, s = [a.thrust, a.flow, a.drop][k] := ⟨_, rfl⟩
          rw [← hs] at hd1 hd2
          have Hno := Lib.hid (fun h : s.leastB 0 = false => show a.okB l = false by simp only [Arc.okB, forcesB, all_false (fun s : Sp => s.leastB 0) [a.thrust, a.flow, a.drop] k hlt (by rw [← hs]; exact h), Bool.and_false, Bool.false_and])
          have Hs := Lib.hid hs
          clear hs
          simp only [Nat.zero_add] at hd1 hd2
          rcases chain2 s.okB (decide (0 ≤ s.lo)) with h1 | ⟨h1, h2⟩ | ⟨h1, h2⟩
          · go_wp2_with (first | (go_at_call 88; (with_reducible refine call_later (flSpans_one s _ _ (SlAt.fresh _ _ _ _ (by simp [maxLen]))) ?_); intro u))
            go_ret
            exact ⟨ret_int (by rw [Hno.out (by simp [Sp.leastB, h1])]; rfl), gw⟩
          · have h3 : s.lo < 0 := by simpa using h2
            go_wp2_with (first | (go_at_call 88; (with_reducible refine call_later (flSpans_one s _ _ (SlAt.fresh _ _ _ _ (by simp [maxLen]))) ?_); intro u))
            go_ret
            exact ⟨ret_int (by rw [Hno.out (by simp [Sp.leastB]; omega)]; rfl), gw⟩
          · have h3 : 0 ≤ s.lo := by simpa using h2
            go_wp2_with (first | (go_at_call 88; (with_reducible refine call_later (flSpans_one s _ _ (SlAt.fresh _ _ _ _ (by simp [maxLen]))) ?_); intro u))
            go_roundw
            case rel => exact ⟨k + 1, by go_num, by omega, all_take_succ (fun s : Sp => s.leastB 0) [a.thrust, a.flow, a.drop] k hlt Hall.out (by rw [← Hs.out]; simp [Sp.leastB, h1, h3]), gw⟩
            case measure => simp [intOf]; omega
        · obtain rfl : k = 3 := by omega
          rw [show ((3 : Nat) : Int) = 3 from rfl]
          have Hf := Lib.hid (show forcesB a = true from Hall.out)
          clear Hall Hc
          have hfin : a.okB l = (decide (1 ≤ a.time) && decide (1 ≤ a.step) && dragB l) := by simp only [Arc.okB, Hdir.out, Hf.out, Bool.true_and]
          have Hfin := Lib.hid hfin
          clear hfin Hf Hdir
          rcases prop_or (1 ≤ a.time) with h1 | h1
          · go_wp2_with (first | (go_at_call 89; (with_reducible refine call_later (spTable_drag a l _ (Hd.out.grew gw)) ?_); intro u))
            go_ret
            exact ⟨ret_int (by rw [Hfin.out, decide_eq_false (by omega)]; rfl), gw⟩
          rcases prop_or (1 ≤ a.step) with h2 | h2
          · go_wp2_with (first | (go_at_call 89; (with_reducible refine call_later (spTable_drag a l _ (Hd.out.grew gw)) ?_); intro u))
            go_ret
            exact ⟨ret_int (by rw [Hfin.out, decide_eq_false (show ¬ 1 ≤ a.step by omega), Bool.and_false]; rfl), gw⟩
          rcases prop_or (a.drag.n = 0) with h3 | h3
          · have h3' : 0 < a.drag.n := by omega
            have Hl := Lib.hid (show l.isEmpty = false by have := Hn.out; cases l with | nil => exact absurd this h3 | cons _ _ => rfl)
            clear h3
            cases h4 : tableB l
            · go_wp2_with (first | (go_at_call 89; (with_reducible refine call_later (spTable_drag a l _ (Hd.out.grew gw)) ?_); intro u))
              go_ret
              exact ⟨ret_int (by rw [Hfin.out, dragB, Hl.out, h4, Bool.or_false, Bool.and_false]; rfl), gw⟩
            · go_wp2_with (first | (go_at_call 89; (with_reducible refine call_later (spTable_drag a l _ (Hd.out.grew gw)) ?_); intro u))
              go_ret
              exact ⟨ret_int (by rw [Hfin.out, dragB, h4, Bool.or_true, decide_eq_true h1, decide_eq_true h2]; rfl), gw⟩
          · have h3' : ¬ 0 < a.drag.n := by omega
            have Hl := Lib.hid (show l.isEmpty = true by have := Hn.out; cases l with | nil => rfl | cons _ _ => simp at this; omega)
            clear h3
            go_wp2_with (first | (go_at_call 89; (with_reducible refine call_later (spTable_drag a l _ (Hd.out.grew gw)) ?_); intro u))
            go_ret
            exact ⟨ret_int (by rw [Hfin.out, dragB, Hl.out, Bool.true_or, decide_eq_true h1, decide_eq_true h2]; rfl), gw⟩
end Go.Proofs.YtkeifgcncmilmaaGreat
namespace Go.Proofs.YtkeifgcncmilmaaGreat
open Go.RowKit
set_option maxRecDepth 100000
set_option maxHeartbeats 1000000

theorem r3Least_any (a : Sp) (n : Int) (w : World) : Calls Tryz.prog 107 #[.agg #[.int .i64 a.lo, .int .i64 a.hi], .int .i64 n] w fun e w' => e = .returned (.bool (a.leastB n)) ∧ Grew w w' := by
  rcases bool_or (a.okB) with h1 | h1
  rotate_left
  rcases prop_or (n ≤ a.lo) with h2 | h2
  rotate_left
  all_goals
    go_enter Tryz.func107, Tryz.ntmps107
    go_wp2_with (first | (go_at_call 108; (with_reducible refine call_later (rCheck_any _ _) ?_); intro u))
    go_ret
    exact ⟨ret_bool (by (first | (simp [Sp.leastB, *]; done) | (simp [Sp.leastB, *] <;> omega) | (simp [Sp.leastB, *]; omega))), gw⟩
theorem r3Arc_any (a : Arc) (l : List Pt) (w : World) (hd : DragAt w a l) : Calls Tryz.prog 61 #[.agg #[.int .i64 a.time, .int .i64 a.step, .int .i64 a.thrust.lo, .int .i64 a.thrust.hi, .int .i64 a.flow.lo, .int .i64 a.flow.hi, .int .i64 a.dir.x.lo, .int .i64 a.dir.x.hi, .int .i64 a.dir.y.lo, .int .i64 a.dir.y.hi, .int .i64 a.dir.z.lo, .int .i64 a.dir.z.hi, .slice a.drag.ao a.drag.n a.drag.cap, .int .i64 a.drop.lo, .int .i64 a.drop.hi]] w fun e w' => e = .returned (.int .i64 (codeB (a.okB l) 2)) ∧ Grew w w' := by
  have Hn := Lib.hid (drag_n hd)
  have Hd := Lib.hid hd
  clear hd
  go_enter Tryz.func61, Tryz.ntmps61
  go_wp2
  go_loopw [3] (fun t wr => ∃ k : Nat, t = .int .i64 k ∧ k ≤ 3 ∧ (∀ j, j < k → (a.dir.at j).inB unit = true) ∧ Grew (w.alloc (.cells #[.int .i64 a.time, .int .i64 a.step, .int .i64 a.thrust.lo, .int .i64 a.thrust.hi, .int .i64 a.flow.lo, .int .i64 a.flow.hi, .int .i64 a.dir.x.lo, .int .i64 a.dir.x.hi, .int .i64 a.dir.y.lo, .int .i64 a.dir.y.hi, .int .i64 a.dir.z.lo, .int .i64 a.dir.z.hi, .slice a.drag.ao a.drag.n a.drag.cap, .int .i64 a.drop.lo, .int .i64 a.drop.hi] 48)) wr) (fun t _ => 3 - (intOf t).toNat)
  case atStart => exact ⟨0, rfl, by omega, fun j hj => by omega, gw⟩
  case round =>
    obtain ⟨k, rfl, hk, hall, hg⟩ := hrel
    obtain ⟨x, rfl⟩ := later_of hg
    clear hg
    have Hall := Lib.hid hall
    clear hall
    by_cases hlt : k < 3
    · have hkk : k = 0 ∨ k = 1 ∨ k = 2 := by omega
      rcases hkk with rfl | rfl | rfl
      · cases h : (a.dir.x).inB unit
        · go_wp2_with (first | (go_at_call 113; (with_reducible refine call_later (rWithin_any _ unit _) ?_); intro u))
          go_ret
          exact ⟨ret_int (by rw [show a.okB l = false by simp [Arc.okB, dirB, h]]; rfl), gw⟩
        · go_wp2_with (first | (go_at_call 113; (with_reducible refine call_later (rWithin_any _ unit _) ?_); intro u))
          go_roundw
          case rel => exact ⟨0 + 1, rfl, by omega, fun j hj => by rcases Nat.lt_succ_iff_lt_or_eq.1 hj with hj | rfl; exact Hall.out j hj; exact h, gw⟩
          case measure => simp [intOf]
      · cases h : (a.dir.y).inB unit
        · go_wp2_with (first | (go_at_call 113; (with_reducible refine call_later (rWithin_any _ unit _) ?_); intro u))
          go_ret
          exact ⟨ret_int (by rw [show a.okB l = false by simp [Arc.okB, dirB, h]]; rfl), gw⟩
        · go_wp2_with (first | (go_at_call 113; (with_reducible refine call_later (rWithin_any _ unit _) ?_); intro u))
          go_roundw
          case rel => exact ⟨1 + 1, rfl, by omega, fun j hj => by rcases Nat.lt_succ_iff_lt_or_eq.1 hj with hj | rfl; exact Hall.out j hj; exact h, gw⟩
          case measure => simp [intOf]
      · cases h : (a.dir.z).inB unit
        · go_wp2_with (first | (go_at_call 113; (with_reducible refine call_later (rWithin_any _ unit _) ?_); intro u))
          go_ret
          exact ⟨ret_int (by rw [show a.okB l = false by simp [Arc.okB, dirB, h]]; rfl), gw⟩
        · go_wp2_with (first | (go_at_call 113; (with_reducible refine call_later (rWithin_any _ unit _) ?_); intro u))
          go_roundw
          case rel => exact ⟨2 + 1, rfl, by omega, fun j hj => by rcases Nat.lt_succ_iff_lt_or_eq.1 hj with hj | rfl; exact Hall.out j hj; exact h, gw⟩
          case measure => simp [intOf]
    · obtain rfl : k = 3 := by omega
      rw [show ((3 : Nat) : Int) = 3 from rfl]
      have Hdir := Lib.hid (show dirB a.dir = true by
        have h0 := Hall.out 0 (by omega)
        have h1 := Hall.out 1 (by omega)
        have h2 := Hall.out 2 (by omega)
        simp only [Bx.at] at h0 h1 h2
        simp [dirB, h0, h1, h2])
      clear Hall
      have hfin : a.okB l = ((a.thrust.leastB 0 && a.flow.leastB 0 && a.drop.leastB 0) && decide (1 ≤ a.time) && decide (1 ≤ a.step) && dragB l) := by
        simp [Arc.okB, Hdir.out, forcesB, Bool.and_assoc]
      have Hfin := Lib.hid hfin
      clear hfin Hdir
      have hdrag : (a.drag.n = 0 ∧ dragB l = true) ∨ (0 < a.drag.n ∧ dragB l = tableB l) := by
        have := Hn.out
        cases l with
        | nil => left; simp at this; exact ⟨this, rfl⟩
        | cons _ _ => right; simp at this; exact ⟨by omega, rfl⟩
      rcases hdrag with ⟨hz, hdr⟩ | ⟨hz, hdr⟩
      · have hz' : ((a.drag.n : Int) == 0) = true := by simp [hz]
        have Hdr := Lib.hid hdr
        clear hdr hz
        rcases bool_or (a.thrust.leastB 0) with h1 | h1
        rotate_left
        rcases bool_or (a.flow.leastB 0) with h2 | h2
        rotate_left
        rcases bool_or (a.drop.leastB 0) with h3 | h3
        rotate_left
        all_goals
          go_wp2_with (first | (go_at_call 107; (with_reducible refine call_later (r3Least_any _ _ _) ?_); intro u))
          all_goals go_ret
          all_goals exact ⟨ret_int (by rw [Hfin.out, Hdr.out]; clear Hfin Hdr Hd Hn; (first | exact Eq.symm (codeB_eqc (by first | (simp [*]; done) | (simp [*]; omega))) | exact Eq.symm (codeB_eq0 (by first | (simp [*]; done) | (simp [*]; omega))))), gw⟩
      · have hz' : ((a.drag.n : Int) == 0) = false := by rw [beq_eq_false_iff_ne]; omega
        have Hdr := Lib.hid hdr
        clear hdr hz
        rcases bool_or (a.thrust.leastB 0) with h1 | h1
        rotate_left
        rcases bool_or (a.flow.leastB 0) with h2 | h2
        rotate_left
        rcases bool_or (a.drop.leastB 0) with h3 | h3
        rotate_left
        rcases bool_or (tableB l) with h4 | h4
        rotate_left
        all_goals
          go_wp2_with (first | (go_at_call 107; (with_reducible refine call_later (r3Least_any _ _ _) ?_); intro u) | (go_at_call 114; (with_reducible refine call_later (rTable_drag a l _ (Hd.out.grew gw)) ?_); intro u))
          all_goals go_ret
          all_goals exact ⟨ret_int (by rw [Hfin.out, Hdr.out]; clear Hfin Hdr Hd Hn; (first | exact Eq.symm (codeB_eqc (by first | (simp [*]; done) | (simp [*]; omega))) | exact Eq.symm (codeB_eq0 (by first | (simp [*]; done) | (simp [*]; omega))))), gw⟩

def stepsZ (a : Arc) : Int := (a.time - 1) / a.step + 1
def stepsCode (a : Arc) (l : List Pt) : Int := if a.okB l = true then (if stepsZ a ≤ 4096 then 0 else 3) else 2
def stepsNum (a : Arc) (l : List Pt) : Int := if stepsCode a l = 0 then stepsZ a else 0
theorem steps_bd (a : Arc) (h1 : 1 ≤ a.time) (h2 : 1 ≤ a.step) : 1 ≤ stepsZ a ∧ stepsZ a ≤ a.time := by
  unfold stepsZ
  have h3 : 0 ≤ (a.time - 1) / a.step := Int.ediv_nonneg (by omega) (by omega)
  have h4 : (a.time - 1) / a.step ≤ a.time - 1 := Int.ediv_le_self _ (by omega)
  omega
theorem steps_ceil (t s : Int) (h2 : 1 ≤ s) : (t - 1) / s + 1 = if t % s = 0 then t / s else t / s + 1 := by
  have e := Int.mul_ediv_add_emod t s
  have n1 := Int.emod_nonneg t (show s ≠ 0 by omega)
  have n2 := Int.emod_lt_of_pos t (show 0 < s by omega)
  split
  · rename_i h
    have : t - 1 = (s - 1) + s * (t / s - 1) := by rw [Int.mul_sub]; omega
    rw [this, Int.add_mul_ediv_left _ _ (by omega), Int.ediv_eq_zero_of_lt (by omega) (by omega)]
    omega
  · rename_i h
    have : t - 1 = (t % s - 1) + s * (t / s) := by omega
    rw [this, Int.add_mul_ediv_left _ _ (by omega), Int.ediv_eq_zero_of_lt (by omega) (by omega)]
    omega
theorem arc_pos {a : Arc} {l : List Pt} (h : a.okB l = true) : 1 ≤ a.time ∧ 1 ≤ a.step := by
  simp only [Arc.okB, Bool.and_eq_true, decide_eq_true_eq] at h
  exact ⟨h.1.1.2, h.1.2⟩
theorem flSteps_any (a : Arc) (l : List Pt) (w : World) (hd : DragAt w a l) (ht : a.time ≤ 9223372036854775807) (hs : a.step ≤ 9223372036854775807) : Calls Tryz.prog 20 #[.agg #[.int .i64 a.time, .int .i64 a.step, .int .i64 a.thrust.lo, .int .i64 a.thrust.hi, .int .i64 a.flow.lo, .int .i64 a.flow.hi, .int .i64 a.dir.x.lo, .int .i64 a.dir.x.hi, .int .i64 a.dir.y.lo, .int .i64 a.dir.y.hi, .int .i64 a.dir.z.lo, .int .i64 a.dir.z.hi, .slice a.drag.ao a.drag.n a.drag.cap, .int .i64 a.drop.lo, .int .i64 a.drop.hi]] w fun e w' => e = .returned (.tuple #[.int .i64 (stepsNum a l), .int .i64 (stepsCode a l)]) ∧ Grew w w' := by
  have Hd := Lib.hid hd
  clear hd
  cases h : a.okB l
  · go_enter Tryz.func20, Tryz.ntmps20
    go_wp2_with (first | (go_at_call 46; (with_reducible refine call_later (flArc_any a l _ (Hd.out.grew gw)) ?_); intro u))
    go_ret2
    have hc : stepsCode a l = 2 := by simp [stepsCode, h]
    exact ⟨ret_two (by rw [show stepsNum a l = 0 by simp [stepsNum, hc]]) (by rw [hc]), gw⟩
  · have hp := arc_pos h
    obtain ⟨hp1, hp2⟩ := hp
    have hb := steps_bd a hp1 hp2
    obtain ⟨hb1, hb2⟩ := hb
    unfold stepsZ at hb1 hb2
    by_cases hl : (a.time - 1) / a.step + 1 ≤ 4096
    · go_enter Tryz.func20, Tryz.ntmps20
      go_wp2_with (first | (go_at_call 46; (with_reducible refine call_later (flArc_any a l _ (Hd.out.grew gw)) ?_); intro u))
      go_ret2
      have hc : stepsCode a l = 0 := by rw [stepsCode, if_pos h, if_pos (by unfold stepsZ; omega)]
      exact ⟨ret_two (by rw [show stepsNum a l = stepsZ a by simp [stepsNum, hc]]; rfl) (by rw [hc]), gw⟩
    · go_enter Tryz.func20, Tryz.ntmps20
      go_wp2_with (first | (go_at_call 46; (with_reducible refine call_later (flArc_any a l _ (Hd.out.grew gw)) ?_); intro u))
      go_ret2
      have hc : stepsCode a l = 3 := by rw [stepsCode, if_pos h, if_neg (by unfold stepsZ; omega)]
      exact ⟨ret_two (by rw [show stepsNum a l = 0 by simp [stepsNum, hc]]) (by rw [hc]), gw⟩
theorem r3Steps_any (a : Arc) (l : List Pt) (w : World) (hd : DragAt w a l) (ht : a.time ≤ 9223372036854775807) (hs : a.step ≤ 9223372036854775807) : Calls Tryz.prog 34 #[.agg #[.int .i64 a.time, .int .i64 a.step, .int .i64 a.thrust.lo, .int .i64 a.thrust.hi, .int .i64 a.flow.lo, .int .i64 a.flow.hi, .int .i64 a.dir.x.lo, .int .i64 a.dir.x.hi, .int .i64 a.dir.y.lo, .int .i64 a.dir.y.hi, .int .i64 a.dir.z.lo, .int .i64 a.dir.z.hi, .slice a.drag.ao a.drag.n a.drag.cap, .int .i64 a.drop.lo, .int .i64 a.drop.hi]] w fun e w' => e = .returned (.tuple #[.int .i64 (stepsNum a l), .int .i64 (stepsCode a l)]) ∧ Grew w w' := by
  have Hd := Lib.hid hd
  clear hd
  cases h : a.okB l
  · go_enter Tryz.func34, Tryz.ntmps34
    go_wp2_with (first | (go_at_call 61; (with_reducible refine call_later (r3Arc_any a l _ (Hd.out.grew gw)) ?_); intro u))
    go_ret2
    have hc : stepsCode a l = 2 := by simp [stepsCode, h]
    exact ⟨ret_two (by rw [show stepsNum a l = 0 by simp [stepsNum, hc]]) (by rw [hc]), gw⟩
  · have hp := arc_pos h
    obtain ⟨hp1, hp2⟩ := hp
    have hb := steps_bd a hp1 hp2
    obtain ⟨hb1, hb2⟩ := hb
    have he := steps_ceil a.time a.step hp2
    have hq0 : 0 ≤ a.time / a.step := Int.ediv_nonneg (by omega) (by omega)
    have hq1 : a.time / a.step ≤ a.time := Int.ediv_le_self _ (by omega)
    rcases prop_or (a.time % a.step = 0) with hr | hr
    · rw [if_neg hr] at he
      have He := Lib.hid (show stepsZ a = a.time / a.step + 1 from he)
      have hq2 : a.time / a.step + 1 ≤ a.time := by rw [← He.out]; exact hb2
      clear he hb1 hb2
      by_cases hl : a.time / a.step + 1 ≤ 4096
      · go_enter Tryz.func34, Tryz.ntmps34
        go_wp2_with (first | (go_at_call 61; (with_reducible refine call_later (r3Arc_any a l _ (Hd.out.grew gw)) ?_); intro u))
        go_ret2
        have hc : stepsCode a l = 0 := by rw [stepsCode, if_pos h, if_pos (by rw [He.out]; omega)]
        exact ⟨ret_two (by rw [show stepsNum a l = stepsZ a by simp [stepsNum, hc], He.out]) (by rw [hc]), gw⟩
      · go_enter Tryz.func34, Tryz.ntmps34
        go_wp2_with (first | (go_at_call 61; (with_reducible refine call_later (r3Arc_any a l _ (Hd.out.grew gw)) ?_); intro u))
        go_ret2
        have hc : stepsCode a l = 3 := by rw [stepsCode, if_pos h, if_neg (by rw [He.out]; omega)]
        exact ⟨ret_two (by rw [show stepsNum a l = 0 by simp [stepsNum, hc]]) (by rw [hc]), gw⟩
    · rw [if_pos hr] at he
      have He := Lib.hid (show stepsZ a = a.time / a.step from he)
      clear he hb1 hb2
      have hr' : (a.time % a.step != 0) = false := by simp [hr]
      clear hr
      by_cases hl : a.time / a.step ≤ 4096
      · go_enter Tryz.func34, Tryz.ntmps34
        go_wp2_with (first | (go_at_call 61; (with_reducible refine call_later (r3Arc_any a l _ (Hd.out.grew gw)) ?_); intro u))
        go_ret2
        have hc : stepsCode a l = 0 := by rw [stepsCode, if_pos h, if_pos (by rw [He.out]; omega)]
        exact ⟨ret_two (by rw [show stepsNum a l = stepsZ a by simp [stepsNum, hc], He.out]) (by rw [hc]), gw⟩
      · go_enter Tryz.func34, Tryz.ntmps34
        go_wp2_with (first | (go_at_call 61; (with_reducible refine call_later (r3Arc_any a l _ (Hd.out.grew gw)) ?_); intro u))
        go_ret2
        have hc : stepsCode a l = 3 := by rw [stepsCode, if_pos h, if_neg (by rw [He.out]; omega)]
        exact ⟨ret_two (by rw [show stepsNum a l = 0 by simp [stepsNum, hc]]) (by rw [hc]), gw⟩
end Go.Proofs.YtkeifgcncmilmaaGreat
