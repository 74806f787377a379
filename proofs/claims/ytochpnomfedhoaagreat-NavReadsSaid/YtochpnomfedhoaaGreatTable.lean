/-
  Contracts: tables (span.CheckTable, ullageref01.CheckTable).
-/
import Derived.Test.YtochpnomfedhoaaGreatChecks
namespace Go.Proofs.YtochpnomfedhoaaGreat
open Go.RowKit
set_option maxRecDepth 100000
set_option maxHeartbeats 1000000

def partB (n : Int) : Bool := decide (-2305843009213693952 ≤ n) && decide (n ≤ 2305843009213693952)
/-- A point of a table that may stand behind another one. -/
def Pt.okB (p : Pt) : Bool := partB p.place && p.value.okB && partB p.value.lo && partB p.value.hi
/-- Point k of a list. -/
def ptAt (l : List Pt) (k : Nat) : Bool := match l[k]?, k with
  | some p, 0 => p.okB
  | some p, j + 1 => p.okB && (match l[j]? with | some q => decide (q.place < p.place) | none => false)
  | none, _ => false
def tableB (l : List Pt) : Bool := decide (1 ≤ l.length) && decide (l.length ≤ 64) && (List.range l.length).all (ptAt l)
theorem ptAt_zero (l : List Pt) (h : 0 < l.length) : ptAt l 0 = l[0].okB := by
  simp [ptAt, List.getElem?_eq_getElem h]
theorem ptAt_succ (l : List Pt) (k : Nat) (h : k + 1 < l.length) : ptAt l (k + 1) = (l[k + 1].okB && decide (l[k].place < l[k + 1].place)) := by
  simp [ptAt, List.getElem?_eq_getElem h, List.getElem?_eq_getElem (show k < l.length by omega)]
theorem range_all_false (f : Nat → Bool) (n k : Nat) (h : k < n) (h2 : f k = false) : (List.range n).all f = false := by
  rw [List.all_eq_false]
  exact ⟨k, by simpa using h, by simp [h2]⟩
theorem range_all_succ (f : Nat → Bool) (k : Nat) (h1 : (List.range k).all f = true) (h2 : f k = true) : (List.range (k + 1)).all f = true := by
  rw [List.range_succ, List.all_append, h1]
  simp [h2]
theorem smallSp (p : Pt) : Pt.okB p = (Sp.hasB ⟨-2305843009213693952, 2305843009213693952⟩ p.place && p.value.inB ⟨-2305843009213693952, 2305843009213693952⟩) := by
  rw [Bool.eq_iff_iff]
  simp only [Pt.okB, partB, Sp.hasB, Sp.inB, Sp.okB, numB]
  simp
  omega
theorem rSmall_any (n : Int) (w : World) : Calls Tryz.prog 115 #[.int .i64 n] w fun e w' => e = .returned (.bool (partB n)) ∧ Grew w w' := by
  go_enter Tryz.func115, Tryz.ntmps115
  go_wp2
  all_goals go_ret
  all_goals exact ⟨ret_bool (by (first | (simp [partB, *]; done) | (simp [partB, *] <;> omega) | (simp [partB, *]; omega))), Grew.refl _⟩
theorem spTable_any (l : List Pt) (v : Value) (w : World) (h : SlAt w v l.length (l.flatMap Pt.cells)) : Calls Tryz.prog 55 #[v] w fun e w' => e = .returned (.int .i64 (codeB (tableB l) 2)) ∧ Grew w w' := by
  obtain ⟨ao, cap, rfl, hm, hc⟩ := h
  unfold maxLen at hm
  have Hc := Lib.hid (SlAt.elem (f := Pt.cells) (c := 3) (fun _ => rfl) (by omega) hc)
  clear hc
  by_cases h0 : l.length = 0
  · go_enter Tryz.func55, Tryz.ntmps55
    go_wp2_with (first | ((with_reducible refine wp_region_later ?_ ?_ ?_); (· kernel_rfl); (· kernel_rfl); (repeat (go_big_quiet_step (fail))); refine wpQuiet_nil ?_; rintro _ ⟨u, rfl⟩))
    go_ret
    exact ⟨ret_int (by rw [show tableB l = false by simp [tableB, h0]]; rfl), (by repeat (first | with_reducible exact Grew.refl _ | with_reducible apply Grew.alloc | with_reducible apply Grew.later | with_reducible apply Grew.drew | with_reducible apply Grew.store | with_reducible assumption))⟩
  by_cases h64 : 64 < l.length
  · go_enter Tryz.func55, Tryz.ntmps55
    go_wp2_with (first | ((with_reducible refine wp_region_later ?_ ?_ ?_); (· kernel_rfl); (· kernel_rfl); (repeat (go_big_quiet_step (fail))); refine wpQuiet_nil ?_; rintro _ ⟨u, rfl⟩))
    go_ret
    exact ⟨ret_int (by rw [show tableB l = false by simp [tableB]; omega]; rfl), (by repeat (first | with_reducible exact Grew.refl _ | with_reducible apply Grew.alloc | with_reducible apply Grew.later | with_reducible apply Grew.drew | with_reducible apply Grew.store | with_reducible assumption))⟩
  have hpos : 0 < l.length := by omega
  have h64' : l.length ≤ 64 := by omega
  have hb1 : ((l.length : Int) == 0) = false := by rw [beq_eq_false_iff_ne]; omega
  have hb2 : decide ((64 : Int) < l.length) = false := by simp; omega
  clear h0 h64
  go_enter Tryz.func55, Tryz.ntmps55
  go_wp2_with (first | ((with_reducible refine wp_region_later ?_ ?_ ?_); (· kernel_rfl); (· kernel_rfl); (repeat (go_big_quiet_step (fail))); refine wpQuiet_nil ?_; rintro _ ⟨u, rfl⟩))
  go_loopw [17] (fun t wr => ∃ k : Nat, t = .int .i64 k ∧ k ≤ l.length ∧ (List.range k).all (ptAt l) = true ∧ Grew (w.alloc (.cells #[.int .i64 (-2305843009213693952), .int .i64 2305843009213693952] 24)) wr) (fun t _ => l.length - (intOf t).toNat)
  case atStart => exact ⟨0, rfl, by omega, rfl, (by repeat (first | with_reducible exact Grew.refl _ | with_reducible apply Grew.alloc | with_reducible apply Grew.later | with_reducible apply Grew.drew | with_reducible apply Grew.store | with_reducible assumption))⟩
  case round =>
    obtain ⟨k, rfl, hk, hall, hg⟩ := hrel
    obtain ⟨x, rfl⟩ := later_of hg
    clear hg
    have Hall := Lib.hid hall
    clear hall
    by_cases hlt : k < l.length
    · obtain ⟨b1, o1, rfl, i1, hd1, hd2⟩ := Hc.out k hlt
      have hd0 := hd1 _ rfl
      have hd3 := hd2 1 _ rfl
      have hd4 := hd2 2 _ rfl
      clear hd1 hd2
      have i1 : BlockIn w b1 := ⟨i1⟩
      have hsm := smallSp l[k]
      have Hno : Hid (ptAt l k = false → tableB l = false) := fun h => by
        simp only [tableB, range_all_false _ _ k hlt h, Bool.and_false]
      by_cases hk0 : k = 0
      · have Hp := Lib.hid (show ptAt l k = (Sp.hasB ⟨-2305843009213693952, 2305843009213693952⟩ l[k].place && l[k].value.inB ⟨-2305843009213693952, 2305843009213693952⟩) by rw [← hsm]; subst hk0; exact ptAt_zero l hlt)
        clear hsm
        subst hk0
        simp only [Nat.zero_mul, Nat.add_zero] at hd0 hd3 hd4
        rcases chain2 (Sp.hasB ⟨-2305843009213693952, 2305843009213693952⟩ l[0].place) (l[0].value.inB ⟨-2305843009213693952, 2305843009213693952⟩) with h1 | ⟨h1, h2⟩ | ⟨h1, h2⟩
        · go_wp2_with (first | (go_at_call 112; (with_reducible refine call_later (spIn_any ⟨-2305843009213693952, 2305843009213693952⟩ _ _) ?_); intro u) | (go_at_call 34; (with_reducible refine call_later (spWithin_any _ ⟨-2305843009213693952, 2305843009213693952⟩ _) ?_); intro u) | ((with_reducible refine wp_region_later ?_ ?_ ?_); (· kernel_rfl); (· kernel_rfl); (repeat (go_big_quiet_step ((first | (go_at_call 112; (with_reducible exact call_quiet (spIn_any ⟨-2305843009213693952, 2305843009213693952⟩ _ _))) | (go_at_call 34; (with_reducible exact call_quiet (spWithin_any _ ⟨-2305843009213693952, 2305843009213693952⟩ _))))))); refine wpQuiet_nil ?_; rintro _ ⟨u, rfl⟩))
          go_ret
          exact ⟨ret_int (by rw [Hno.out (by rw [Hp.out, h1]; rfl)]; rfl), (by repeat (first | with_reducible exact Grew.refl _ | with_reducible apply Grew.alloc | with_reducible apply Grew.later | with_reducible apply Grew.drew | with_reducible apply Grew.store | with_reducible assumption))⟩
        · go_wp2_with (first | (go_at_call 112; (with_reducible refine call_later (spIn_any ⟨-2305843009213693952, 2305843009213693952⟩ _ _) ?_); intro u) | (go_at_call 34; (with_reducible refine call_later (spWithin_any _ ⟨-2305843009213693952, 2305843009213693952⟩ _) ?_); intro u) | ((with_reducible refine wp_region_later ?_ ?_ ?_); (· kernel_rfl); (· kernel_rfl); (repeat (go_big_quiet_step ((first | (go_at_call 112; (with_reducible exact call_quiet (spIn_any ⟨-2305843009213693952, 2305843009213693952⟩ _ _))) | (go_at_call 34; (with_reducible exact call_quiet (spWithin_any _ ⟨-2305843009213693952, 2305843009213693952⟩ _))))))); refine wpQuiet_nil ?_; rintro _ ⟨u, rfl⟩))
          go_ret
          exact ⟨ret_int (by rw [Hno.out (by rw [Hp.out, h1, h2]; rfl)]; rfl), (by repeat (first | with_reducible exact Grew.refl _ | with_reducible apply Grew.alloc | with_reducible apply Grew.later | with_reducible apply Grew.drew | with_reducible apply Grew.store | with_reducible assumption))⟩
        · go_wp2_with (first | (go_at_call 112; (with_reducible refine call_later (spIn_any ⟨-2305843009213693952, 2305843009213693952⟩ _ _) ?_); intro u) | (go_at_call 34; (with_reducible refine call_later (spWithin_any _ ⟨-2305843009213693952, 2305843009213693952⟩ _) ?_); intro u) | ((with_reducible refine wp_region_later ?_ ?_ ?_); (· kernel_rfl); (· kernel_rfl); (repeat (go_big_quiet_step ((first | (go_at_call 112; (with_reducible exact call_quiet (spIn_any ⟨-2305843009213693952, 2305843009213693952⟩ _ _))) | (go_at_call 34; (with_reducible exact call_quiet (spWithin_any _ ⟨-2305843009213693952, 2305843009213693952⟩ _))))))); refine wpQuiet_nil ?_; rintro _ ⟨u, rfl⟩))
          go_roundw
          case rel => exact ⟨0 + 1, by go_num, by omega, range_all_succ _ _ Hall.out (by rw [Hp.out, h1, h2]; rfl), (by repeat (first | with_reducible exact Grew.refl _ | with_reducible apply Grew.alloc | with_reducible apply Grew.later | with_reducible apply Grew.drew | with_reducible apply Grew.store | with_reducible assumption))⟩
          case measure => simp [intOf]; omega
      · have hkk : ∃ j, k = j + 1 := ⟨k - 1, by omega⟩
        obtain ⟨j, rfl⟩ := hkk
        obtain ⟨_, _, e1, _, hd5, _⟩ := Hc.out j (by omega)
        cases e1
        have hd5 := hd5 _ rfl
        have Hp := Lib.hid (show ptAt l (j + 1) = (Sp.hasB ⟨-2305843009213693952, 2305843009213693952⟩ l[j + 1].place && l[j + 1].value.inB ⟨-2305843009213693952, 2305843009213693952⟩ && decide (l[j].place < l[j + 1].place)) by rw [← hsm]; exact ptAt_succ l j hlt)
        clear hsm
        rcases chain2 (Sp.hasB ⟨-2305843009213693952, 2305843009213693952⟩ l[j + 1].place) (l[j + 1].value.inB ⟨-2305843009213693952, 2305843009213693952⟩) with h1 | ⟨h1, h2⟩ | ⟨h1, h2⟩
        · go_wp2_with (first | (go_at_call 112; (with_reducible refine call_later (spIn_any ⟨-2305843009213693952, 2305843009213693952⟩ _ _) ?_); intro u) | (go_at_call 34; (with_reducible refine call_later (spWithin_any _ ⟨-2305843009213693952, 2305843009213693952⟩ _) ?_); intro u) | ((with_reducible refine wp_region_later ?_ ?_ ?_); (· kernel_rfl); (· kernel_rfl); (repeat (go_big_quiet_step ((first | (go_at_call 112; (with_reducible exact call_quiet (spIn_any ⟨-2305843009213693952, 2305843009213693952⟩ _ _))) | (go_at_call 34; (with_reducible exact call_quiet (spWithin_any _ ⟨-2305843009213693952, 2305843009213693952⟩ _))))))); refine wpQuiet_nil ?_; rintro _ ⟨u, rfl⟩))
          go_ret
          exact ⟨ret_int (by rw [Hno.out (by rw [Hp.out, h1]; rfl)]; rfl), (by repeat (first | with_reducible exact Grew.refl _ | with_reducible apply Grew.alloc | with_reducible apply Grew.later | with_reducible apply Grew.drew | with_reducible apply Grew.store | with_reducible assumption))⟩
        · go_wp2_with (first | (go_at_call 112; (with_reducible refine call_later (spIn_any ⟨-2305843009213693952, 2305843009213693952⟩ _ _) ?_); intro u) | (go_at_call 34; (with_reducible refine call_later (spWithin_any _ ⟨-2305843009213693952, 2305843009213693952⟩ _) ?_); intro u) | ((with_reducible refine wp_region_later ?_ ?_ ?_); (· kernel_rfl); (· kernel_rfl); (repeat (go_big_quiet_step ((first | (go_at_call 112; (with_reducible exact call_quiet (spIn_any ⟨-2305843009213693952, 2305843009213693952⟩ _ _))) | (go_at_call 34; (with_reducible exact call_quiet (spWithin_any _ ⟨-2305843009213693952, 2305843009213693952⟩ _))))))); refine wpQuiet_nil ?_; rintro _ ⟨u, rfl⟩))
          go_ret
          exact ⟨ret_int (by rw [Hno.out (by rw [Hp.out, h1, h2]; rfl)]; rfl), (by repeat (first | with_reducible exact Grew.refl _ | with_reducible apply Grew.alloc | with_reducible apply Grew.later | with_reducible apply Grew.drew | with_reducible apply Grew.store | with_reducible assumption))⟩
        · rcases prop_or (l[j].place < l[j + 1].place) with h3 | h3
          · go_wp2_with (first | (go_at_call 112; (with_reducible refine call_later (spIn_any ⟨-2305843009213693952, 2305843009213693952⟩ _ _) ?_); intro u) | (go_at_call 34; (with_reducible refine call_later (spWithin_any _ ⟨-2305843009213693952, 2305843009213693952⟩ _) ?_); intro u) | ((with_reducible refine wp_region_later ?_ ?_ ?_); (· kernel_rfl); (· kernel_rfl); (repeat (go_big_quiet_step ((first | (go_at_call 112; (with_reducible exact call_quiet (spIn_any ⟨-2305843009213693952, 2305843009213693952⟩ _ _))) | (go_at_call 34; (with_reducible exact call_quiet (spWithin_any _ ⟨-2305843009213693952, 2305843009213693952⟩ _))))))); refine wpQuiet_nil ?_; rintro _ ⟨u, rfl⟩))
            go_ret
            exact ⟨ret_int (by rw [Hno.out (by rw [Hp.out, h1, h2]; simp; omega)]; rfl), (by repeat (first | with_reducible exact Grew.refl _ | with_reducible apply Grew.alloc | with_reducible apply Grew.later | with_reducible apply Grew.drew | with_reducible apply Grew.store | with_reducible assumption))⟩
          · go_wp2_with (first | (go_at_call 112; (with_reducible refine call_later (spIn_any ⟨-2305843009213693952, 2305843009213693952⟩ _ _) ?_); intro u) | (go_at_call 34; (with_reducible refine call_later (spWithin_any _ ⟨-2305843009213693952, 2305843009213693952⟩ _) ?_); intro u) | ((with_reducible refine wp_region_later ?_ ?_ ?_); (· kernel_rfl); (· kernel_rfl); (repeat (go_big_quiet_step ((first | (go_at_call 112; (with_reducible exact call_quiet (spIn_any ⟨-2305843009213693952, 2305843009213693952⟩ _ _))) | (go_at_call 34; (with_reducible exact call_quiet (spWithin_any _ ⟨-2305843009213693952, 2305843009213693952⟩ _))))))); refine wpQuiet_nil ?_; rintro _ ⟨u, rfl⟩))
            go_roundw
            case rel => exact ⟨j + 1 + 1, by go_num, by omega, range_all_succ _ _ Hall.out (by rw [Hp.out, h1, h2]; simp; omega), (by repeat (first | with_reducible exact Grew.refl _ | with_reducible apply Grew.alloc | with_reducible apply Grew.later | with_reducible apply Grew.drew | with_reducible apply Grew.store | with_reducible assumption))⟩
            case measure => simp [intOf]; omega
    · go_wp2
      go_ret
      exact ⟨ret_int (by rw [show tableB l = true by simp only [tableB, Bool.and_eq_true, decide_eq_true_eq]; exact ⟨⟨by omega, by omega⟩, by rw [show l.length = k by omega]; exact Hall.out⟩]; rfl), (by repeat (first | with_reducible exact Grew.refl _ | with_reducible apply Grew.alloc | with_reducible apply Grew.later | with_reducible apply Grew.drew | with_reducible apply Grew.store | with_reducible assumption))⟩
theorem rTable_any (l : List Pt) (v : Value) (w : World) (h : SlAt w v l.length (l.flatMap Pt.cells)) : Calls Tryz.prog 61 #[v] w fun e w' => e = .returned (.int .i64 (codeB (tableB l) 2)) ∧ Grew w w' := by
  obtain ⟨ao, cap, rfl, hm, hc⟩ := h
  unfold maxLen at hm
  have Hc := Lib.hid (SlAt.elem (f := Pt.cells) (c := 3) (fun _ => rfl) (by omega) hc)
  clear hc
  by_cases h0 : l.length = 0
  · go_enter Tryz.func61, Tryz.ntmps61
    go_wp2_with (first | ((with_reducible refine wp_region_later ?_ ?_ ?_); (· kernel_rfl); (· kernel_rfl); (repeat (go_big_quiet_step (fail))); refine wpQuiet_nil ?_; rintro _ ⟨u, rfl⟩))
    go_ret
    exact ⟨ret_int (by rw [show tableB l = false by simp [tableB, h0]]; rfl), (by repeat (first | with_reducible exact Grew.refl _ | with_reducible apply Grew.alloc | with_reducible apply Grew.later | with_reducible apply Grew.drew | with_reducible apply Grew.store | with_reducible assumption))⟩
  by_cases h64 : 64 < l.length
  · go_enter Tryz.func61, Tryz.ntmps61
    go_wp2_with (first | ((with_reducible refine wp_region_later ?_ ?_ ?_); (· kernel_rfl); (· kernel_rfl); (repeat (go_big_quiet_step (fail))); refine wpQuiet_nil ?_; rintro _ ⟨u, rfl⟩))
    go_ret
    exact ⟨ret_int (by rw [show tableB l = false by simp [tableB]; omega]; rfl), (by repeat (first | with_reducible exact Grew.refl _ | with_reducible apply Grew.alloc | with_reducible apply Grew.later | with_reducible apply Grew.drew | with_reducible apply Grew.store | with_reducible assumption))⟩
  have hpos : 0 < l.length := by omega
  have h64' : l.length ≤ 64 := by omega
  have hb1 : ((l.length : Int) == 0) = false := by rw [beq_eq_false_iff_ne]; omega
  have hb2 : decide ((64 : Int) < l.length) = false := by simp; omega
  clear h0 h64
  go_enter Tryz.func61, Tryz.ntmps61
  go_wp2_with (first | ((with_reducible refine wp_region_later ?_ ?_ ?_); (· kernel_rfl); (· kernel_rfl); (repeat (go_big_quiet_step (fail))); refine wpQuiet_nil ?_; rintro _ ⟨u, rfl⟩))
  go_loopw [3] (fun t wr => ∃ k : Nat, t = .int .i64 k ∧ k ≤ l.length ∧ (List.range k).all (ptAt l) = true ∧ Grew w wr) (fun t _ => l.length - (intOf t).toNat)
  case atStart => exact ⟨0, rfl, by omega, rfl, (by repeat (first | with_reducible exact Grew.refl _ | with_reducible apply Grew.alloc | with_reducible apply Grew.later | with_reducible apply Grew.drew | with_reducible apply Grew.store | with_reducible assumption))⟩
  case round =>
    obtain ⟨k, rfl, hk, hall, hg⟩ := hrel
    obtain ⟨x, rfl⟩ := later_of hg
    clear hg
    have Hall := Lib.hid hall
    clear hall
    by_cases hlt : k < l.length
    · obtain ⟨b1, o1, rfl, i1, hd1, hd2⟩ := Hc.out k hlt
      have hd0 := hd1 _ rfl
      have hd3 := hd2 1 _ rfl
      have hd4 := hd2 2 _ rfl
      clear hd1 hd2
      have i1 : BlockIn w b1 := ⟨i1⟩
      have Hno : Hid (ptAt l k = false → tableB l = false) := fun h => by
        simp only [tableB, range_all_false _ _ k hlt h, Bool.and_false]
      by_cases hk0 : k = 0
      · subst hk0
        have Hp := Lib.hid (show ptAt l 0 = (partB l[0].place && l[0].value.okB && partB l[0].value.lo && partB l[0].value.hi) by exact ptAt_zero l hlt)
        simp only [Nat.zero_mul, Nat.add_zero] at hd0 hd3 hd4
        rcases chain4 (partB l[0].place) (partB l[0].value.lo) (partB l[0].value.hi) l[0].value.okB with h1 | ⟨h1, h2⟩ | ⟨h1, h2, h3⟩ | ⟨h1, h2, h3, h4⟩ | ⟨h1, h2, h3, h4⟩
        all_goals skip
        all_goals
          go_wp2_with (first | (go_at_call 115; (with_reducible refine call_later (rSmall_any _ _) ?_); intro u) | (go_at_call 33; (with_reducible refine call_later (rCheck_any _ _) ?_); intro u) | ((with_reducible refine wp_region_later ?_ ?_ ?_); (· kernel_rfl); (· kernel_rfl); (repeat (go_big_quiet_step ((first | (go_at_call 115; (with_reducible exact call_quiet (rSmall_any _ _))) | (go_at_call 33; (with_reducible exact call_quiet (rCheck_any _ _))))))); refine wpQuiet_nil ?_; rintro _ ⟨u, rfl⟩))
        · go_ret
          exact ⟨ret_int (by rw [Hno.out (by rw [Hp.out, h1]; rfl)]; rfl), (by repeat (first | with_reducible exact Grew.refl _ | with_reducible apply Grew.alloc | with_reducible apply Grew.later | with_reducible apply Grew.drew | with_reducible apply Grew.store | with_reducible assumption))⟩
        · go_ret
          exact ⟨ret_int (by rw [Hno.out (by rw [Hp.out, h2]; simp)]; rfl), (by repeat (first | with_reducible exact Grew.refl _ | with_reducible apply Grew.alloc | with_reducible apply Grew.later | with_reducible apply Grew.drew | with_reducible apply Grew.store | with_reducible assumption))⟩
        · go_ret
          exact ⟨ret_int (by rw [Hno.out (by rw [Hp.out, h3]; simp)]; rfl), (by repeat (first | with_reducible exact Grew.refl _ | with_reducible apply Grew.alloc | with_reducible apply Grew.later | with_reducible apply Grew.drew | with_reducible apply Grew.store | with_reducible assumption))⟩
        · go_ret
          exact ⟨ret_int (by rw [Hno.out (by rw [Hp.out, h4]; simp)]; rfl), (by repeat (first | with_reducible exact Grew.refl _ | with_reducible apply Grew.alloc | with_reducible apply Grew.later | with_reducible apply Grew.drew | with_reducible apply Grew.store | with_reducible assumption))⟩
        · go_roundw
          case rel => exact ⟨0 + 1, by go_num, by omega, range_all_succ _ _ Hall.out (by rw [Hp.out, h1, h2, h3, h4]; rfl), (by repeat (first | with_reducible exact Grew.refl _ | with_reducible apply Grew.alloc | with_reducible apply Grew.later | with_reducible apply Grew.drew | with_reducible apply Grew.store | with_reducible assumption))⟩
          case measure => simp [intOf]; omega
      · have hkk : ∃ j, k = j + 1 := ⟨k - 1, by omega⟩
        obtain ⟨j, rfl⟩ := hkk
        obtain ⟨_, _, e1, _, hd5, _⟩ := Hc.out j (by omega)
        cases e1
        have hd5 := hd5 _ rfl
        have Hp := Lib.hid (show ptAt l (j + 1) = (partB l[j + 1].place && l[j + 1].value.okB && partB l[j + 1].value.lo && partB l[j + 1].value.hi && decide (l[j].place < l[j + 1].place)) by exact ptAt_succ l j hlt)
        rcases chain4 (partB l[j + 1].place) (partB l[j + 1].value.lo) (partB l[j + 1].value.hi) l[j + 1].value.okB with h1 | ⟨h1, h2⟩ | ⟨h1, h2, h3⟩ | ⟨h1, h2, h3, h4⟩ | ⟨h1, h2, h3, h4⟩
        · skip
          go_wp2_with (first | (go_at_call 115; (with_reducible refine call_later (rSmall_any _ _) ?_); intro u) | (go_at_call 33; (with_reducible refine call_later (rCheck_any _ _) ?_); intro u) | ((with_reducible refine wp_region_later ?_ ?_ ?_); (· kernel_rfl); (· kernel_rfl); (repeat (go_big_quiet_step ((first | (go_at_call 115; (with_reducible exact call_quiet (rSmall_any _ _))) | (go_at_call 33; (with_reducible exact call_quiet (rCheck_any _ _))))))); refine wpQuiet_nil ?_; rintro _ ⟨u, rfl⟩))
          go_ret
          exact ⟨ret_int (by rw [Hno.out (by rw [Hp.out, h1]; rfl)]; rfl), (by repeat (first | with_reducible exact Grew.refl _ | with_reducible apply Grew.alloc | with_reducible apply Grew.later | with_reducible apply Grew.drew | with_reducible apply Grew.store | with_reducible assumption))⟩
        · skip
          go_wp2_with (first | (go_at_call 115; (with_reducible refine call_later (rSmall_any _ _) ?_); intro u) | (go_at_call 33; (with_reducible refine call_later (rCheck_any _ _) ?_); intro u) | ((with_reducible refine wp_region_later ?_ ?_ ?_); (· kernel_rfl); (· kernel_rfl); (repeat (go_big_quiet_step ((first | (go_at_call 115; (with_reducible exact call_quiet (rSmall_any _ _))) | (go_at_call 33; (with_reducible exact call_quiet (rCheck_any _ _))))))); refine wpQuiet_nil ?_; rintro _ ⟨u, rfl⟩))
          go_ret
          exact ⟨ret_int (by rw [Hno.out (by rw [Hp.out, h2]; simp)]; rfl), (by repeat (first | with_reducible exact Grew.refl _ | with_reducible apply Grew.alloc | with_reducible apply Grew.later | with_reducible apply Grew.drew | with_reducible apply Grew.store | with_reducible assumption))⟩
        · skip
          go_wp2_with (first | (go_at_call 115; (with_reducible refine call_later (rSmall_any _ _) ?_); intro u) | (go_at_call 33; (with_reducible refine call_later (rCheck_any _ _) ?_); intro u) | ((with_reducible refine wp_region_later ?_ ?_ ?_); (· kernel_rfl); (· kernel_rfl); (repeat (go_big_quiet_step ((first | (go_at_call 115; (with_reducible exact call_quiet (rSmall_any _ _))) | (go_at_call 33; (with_reducible exact call_quiet (rCheck_any _ _))))))); refine wpQuiet_nil ?_; rintro _ ⟨u, rfl⟩))
          go_ret
          exact ⟨ret_int (by rw [Hno.out (by rw [Hp.out, h3]; simp)]; rfl), (by repeat (first | with_reducible exact Grew.refl _ | with_reducible apply Grew.alloc | with_reducible apply Grew.later | with_reducible apply Grew.drew | with_reducible apply Grew.store | with_reducible assumption))⟩
        · skip
          go_wp2_with (first | (go_at_call 115; (with_reducible refine call_later (rSmall_any _ _) ?_); intro u) | (go_at_call 33; (with_reducible refine call_later (rCheck_any _ _) ?_); intro u) | ((with_reducible refine wp_region_later ?_ ?_ ?_); (· kernel_rfl); (· kernel_rfl); (repeat (go_big_quiet_step ((first | (go_at_call 115; (with_reducible exact call_quiet (rSmall_any _ _))) | (go_at_call 33; (with_reducible exact call_quiet (rCheck_any _ _))))))); refine wpQuiet_nil ?_; rintro _ ⟨u, rfl⟩))
          go_ret
          exact ⟨ret_int (by rw [Hno.out (by rw [Hp.out, h4]; simp)]; rfl), (by repeat (first | with_reducible exact Grew.refl _ | with_reducible apply Grew.alloc | with_reducible apply Grew.later | with_reducible apply Grew.drew | with_reducible apply Grew.store | with_reducible assumption))⟩
        · rcases prop_or (l[j].place < l[j + 1].place) with h5 | h5
          · skip
            go_wp2_with (first | (go_at_call 115; (with_reducible refine call_later (rSmall_any _ _) ?_); intro u) | (go_at_call 33; (with_reducible refine call_later (rCheck_any _ _) ?_); intro u) | ((with_reducible refine wp_region_later ?_ ?_ ?_); (· kernel_rfl); (· kernel_rfl); (repeat (go_big_quiet_step ((first | (go_at_call 115; (with_reducible exact call_quiet (rSmall_any _ _))) | (go_at_call 33; (with_reducible exact call_quiet (rCheck_any _ _))))))); refine wpQuiet_nil ?_; rintro _ ⟨u, rfl⟩))
            go_ret
            exact ⟨ret_int (by rw [Hno.out (by rw [Hp.out, h1, h2, h3, h4]; simp; omega)]; rfl), (by repeat (first | with_reducible exact Grew.refl _ | with_reducible apply Grew.alloc | with_reducible apply Grew.later | with_reducible apply Grew.drew | with_reducible apply Grew.store | with_reducible assumption))⟩
          · skip
            go_wp2_with (first | (go_at_call 115; (with_reducible refine call_later (rSmall_any _ _) ?_); intro u) | (go_at_call 33; (with_reducible refine call_later (rCheck_any _ _) ?_); intro u) | ((with_reducible refine wp_region_later ?_ ?_ ?_); (· kernel_rfl); (· kernel_rfl); (repeat (go_big_quiet_step ((first | (go_at_call 115; (with_reducible exact call_quiet (rSmall_any _ _))) | (go_at_call 33; (with_reducible exact call_quiet (rCheck_any _ _))))))); refine wpQuiet_nil ?_; rintro _ ⟨u, rfl⟩))
            go_roundw
            case rel => exact ⟨j + 1 + 1, by go_num, by omega, range_all_succ _ _ Hall.out (by rw [Hp.out, h1, h2, h3, h4]; simp; omega), (by repeat (first | with_reducible exact Grew.refl _ | with_reducible apply Grew.alloc | with_reducible apply Grew.later | with_reducible apply Grew.drew | with_reducible apply Grew.store | with_reducible assumption))⟩
            case measure => simp [intOf]; omega
    · go_wp2
      go_ret
      exact ⟨ret_int (by rw [show tableB l = true by simp only [tableB, Bool.and_eq_true, decide_eq_true_eq]; exact ⟨⟨by omega, by omega⟩, by rw [show l.length = k by omega]; exact Hall.out⟩]; rfl), (by repeat (first | with_reducible exact Grew.refl _ | with_reducible apply Grew.alloc | with_reducible apply Grew.later | with_reducible apply Grew.drew | with_reducible apply Grew.store | with_reducible assumption))⟩
end Go.Proofs.YtochpnomfedhoaaGreat
