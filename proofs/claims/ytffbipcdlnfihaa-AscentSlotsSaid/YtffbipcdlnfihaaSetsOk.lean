/-
  Contracts: whether a set of times is valid, how many times it has (ascent, ullageref04); whether it holds a time.
-/
import Derived.Test.YtffbipcdlnfihaaSetsSel
import Derived.Test.YtffbipcdlnfihaaProg
import Derived.Sort.BigQuietIn
namespace Go.Proofs.Ytffbipcdlnfihaa
open Go.RowKit
set_option maxRecDepth 100000
set_option maxHeartbeats 4000000
def slC (s : Int × Int) : List Value := [.int .i64 s.1, .int .i64 s.2]
theorem sl_two {w : World} {v : Value} {l : List (Int × Int)} (h : SlAt w v l.length (l.flatMap slC)) (k : Nat) (hk : k < l.length) :
    ∃ b off cap, v = .slice (some ⟨b, off, none⟩) l.length cap ∧ BlockIn w b ∧ w.cell? ⟨b, off + k * 2, none⟩ = some (.int .i64 l[k].1) ∧ w.cell? ⟨b, off + k * 2 + 1, none⟩ = some (.int .i64 l[k].2) := by
  obtain ⟨ao, cap, rfl, hm, hc⟩ := h
  obtain ⟨b, off, rfl, hb, h1, h2⟩ := SlAt.elem (f := slC) (c := 2) (fun _ => rfl) (by omega) hc k hk
  exact ⟨b, off, cap, rfl, ⟨hb⟩, h1 _ rfl, h2 1 _ rfl⟩
theorem sl2_form {w : World} {v : Value} {n : Nat} {xs : List Value} (h : SlAt w v n xs) : ∃ ao cap, v = .slice ao n cap ∧ n ≤ 2 ^ 63 - 1 := by
  obtain ⟨ao, cap, rfl, hm, -⟩ := h
  exact ⟨ao, cap, rfl, by unfold maxLen at hm; exact hm⟩
theorem limT_any (t : Int) (w : World) : Calls Try.prog 19 #[.int .i64 t] w fun e w' => e = .returned (.bool (limT t)) ∧ Grew w w' := by
  go_enter Try.func19, Try.ntmps19
  go_wp2
  all_goals go_ret
  all_goals exact ⟨ret_bool (Bool.eq_iff_iff.2 (by simp [limT]; try omega)), gw⟩
theorem slotOk_at {l : List (Int × Int)} {k : Nat} (hk : k < l.length) : slotOkB l k = (limT l[k].1 && limT l[k].2 && decide (l[k].1 < l[k].2) && (decide (k = 0) || decide ((l[k - 1]'(by omega)).2 < l[k].1))) := by
  unfold slotOkB
  simp [hk, show k - 1 < l.length by omega]
theorem range_succ_all (f : Nat → Bool) (k : Nat) (h : (List.range k).all f = true) (h2 : f k = true) : (List.range (k + 1)).all f = true := by
  rw [List.range_succ, List.all_append, h]
  simp [h2]
theorem setB_no {l : List (Int × Int)} {k : Nat} (hk : k < l.length) (h : slotOkB l k = false) : setB l = false := by
  unfold setB
  have : (List.range l.length).all (slotOkB l) = false := by
    rw [List.all_eq_false]
    exact ⟨k, by simpa using hk, by simp [h]⟩
  rw [this, Bool.and_false]
theorem setB_yes {l : List (Int × Int)} {k : Nat} (hk : l.length ≤ k) (hk2 : k ≤ l.length) (h : (List.range k).all (slotOkB l) = true) : setB l = decide (l.length ≤ 4096) := by
  obtain rfl : k = l.length := by omega
  unfold setB
  rw [h, Bool.and_true]
theorem abSet_any (l : List (Int × Int)) (v : Value) (w : World) (h : SlAt w v l.length (l.flatMap slC)) : Calls Try.prog 30 #[v] w fun e w' => e = .returned (.bool (setB l)) ∧ Grew w w' := by
  have HI := Lib.hid (fun k hk => sl_two h k hk)
  obtain ⟨ao, cap, rfl, hm⟩ := sl2_form h
  have HN := Lib.hid (fun k (hk : k < l.length) (h : slotOkB l k = false) => setB_no hk h)
  have HK := Lib.hid (fun k (hk : k < l.length) => slotOk_at (l := l) hk)
  have HY := Lib.hid (fun k (hk : l.length ≤ k) (hk2 : k ≤ l.length) h => setB_yes (l := l) (k := k) hk hk2 h)
  clear h
  go_enter Try.func30, Try.ntmps30
  go_wp2
  go_loopw [7] (fun t wr => ∃ k : Nat, t = .int .i64 k ∧ k ≤ l.length ∧ (List.range k).all (slotOkB l) = true ∧ Grew w wr) (fun t _ => l.length - (intOf t).toNat)
  case atStart => exact ⟨0, rfl, by omega, rfl, gw⟩
  case round =>
    obtain ⟨k, rfl, hk, hall, hg⟩ := hrel
    obtain ⟨x, rfl⟩ := later_of hg
    clear hg
    have Hall := Lib.hid hall
    clear hall
    by_cases hlt : k < l.length
    · obtain ⟨b1, o1, c1, e1, i1, hd1, hd2⟩ := HI.out k hlt
      obtain ⟨rfl, rfl⟩ : ao = some ⟨b1, o1, none⟩ ∧ cap = c1 := by simpa using e1
      clear e1
      have hK := HK.out k hlt
      have hN := HN.out k hlt
      have hkl : (k : Int) < l.length := by omega
      cases ha : limT l[k].1
      · have Hn := Lib.hid (hN (by rw [hK, ha]; rfl))
        clear hK hN
        generalize l[k].1 = a at *
        generalize l[k].2 = z at *
        go_wp2_with (first | (go_at_call 19; (with_reducible refine call_later (is_bool ha (limT_any a _)) ?_); intro u) | ((with_reducible refine wp_region_later ?_ ?_ ?_); (· kernel_rfl); (· kernel_rfl); (try simp only [List.append_eq, List.cons_append, List.nil_append]); (repeat (go_big_quiet_step ((first | (go_at_call 19; (with_reducible exact call_quiet (is_bool ha (limT_any a _)))))))); refine wpQuiet_nil ?_; rintro _ ⟨u, rfl⟩))
        go_ret
        exact ⟨ret_bool Hn.out.symm, gw⟩
      cases hb : limT l[k].2
      · have Hn := Lib.hid (hN (by rw [hK, ha, hb]; rfl))
        clear hK hN
        generalize l[k].1 = a at *
        generalize l[k].2 = z at *
        go_wp2_with (first | (go_at_call 19; (with_reducible refine call_later (is_bool ha (limT_any a _)) ?_); intro u) | (go_at_call 19; (with_reducible refine call_later (is_bool hb (limT_any z _)) ?_); intro u) | ((with_reducible refine wp_region_later ?_ ?_ ?_); (· kernel_rfl); (· kernel_rfl); (try simp only [List.append_eq, List.cons_append, List.nil_append]); (repeat (go_big_quiet_step ((first | (go_at_call 19; (with_reducible exact call_quiet (is_bool ha (limT_any a _)))) | (go_at_call 19; (with_reducible exact call_quiet (is_bool hb (limT_any z _)))))))); refine wpQuiet_nil ?_; rintro _ ⟨u, rfl⟩))
        go_ret
        exact ⟨ret_bool Hn.out.symm, gw⟩
      by_cases hc : l[k].1 < l[k].2
      rotate_left
      · have Hn := Lib.hid (hN (by rw [hK, ha, hb]; simp [hc]))
        clear hK hN
        generalize l[k].1 = a at *
        generalize l[k].2 = z at *
        go_wp2_with (first | (go_at_call 19; (with_reducible refine call_later (is_bool ha (limT_any a _)) ?_); intro u) | (go_at_call 19; (with_reducible refine call_later (is_bool hb (limT_any z _)) ?_); intro u) | ((with_reducible refine wp_region_later ?_ ?_ ?_); (· kernel_rfl); (· kernel_rfl); (try simp only [List.append_eq, List.cons_append, List.nil_append]); (repeat (go_big_quiet_step ((first | (go_at_call 19; (with_reducible exact call_quiet (is_bool ha (limT_any a _)))) | (go_at_call 19; (with_reducible exact call_quiet (is_bool hb (limT_any z _)))))))); refine wpQuiet_nil ?_; rintro _ ⟨u, rfl⟩))
        go_ret
        exact ⟨ret_bool Hn.out.symm, gw⟩
      have hc' : decide (l[k].2 ≤ l[k].1) = false := by simp; omega
      have hc'' : ¬ (l[k].2 ≤ l[k].1) := by omega
      by_cases hk0 : k = 0
      · subst hk0
        have Hy := Lib.hid (range_succ_all (slotOkB l) 0 Hall.out (by rw [hK, ha, hb, decide_eq_true hc]; rfl))
        simp only [Nat.zero_mul, Nat.add_zero] at hd1 hd2
        clear hK hN
        generalize l[0].1 = a at *
        generalize l[0].2 = z at *
        go_wp2_with (first | (go_at_call 19; (with_reducible refine call_later (is_bool ha (limT_any a _)) ?_); intro u) | (go_at_call 19; (with_reducible refine call_later (is_bool hb (limT_any z _)) ?_); intro u) | ((with_reducible refine wp_region_later ?_ ?_ ?_); (· kernel_rfl); (· kernel_rfl); (try simp only [List.append_eq, List.cons_append, List.nil_append]); (repeat (go_big_quiet_step ((first | (go_at_call 19; (with_reducible exact call_quiet (is_bool ha (limT_any a _)))) | (go_at_call 19; (with_reducible exact call_quiet (is_bool hb (limT_any z _)))))))); refine wpQuiet_nil ?_; rintro _ ⟨u, rfl⟩))
        go_roundw
        case rel => exact ⟨1, by go_num, by omega, Hy.out, gw⟩
        case measure => simp [intOf]; omega
      obtain ⟨j, rfl⟩ : ∃ j, k = j + 1 := ⟨k - 1, by omega⟩
      obtain ⟨b2, o2, c2, e2, i2, hd3, hd4⟩ := HI.out j (by omega)
      obtain ⟨⟨rfl, rfl⟩, -⟩ : (b1 = b2 ∧ o1 = o2) ∧ _ := by simpa using e2
      clear e2
      have hj1 : (j : Int) + 1 < l.length := by omega
      have hj2 : decide ((0 : Int) < (j : Int) + 1) = true := by rw [decide_eq_true_eq]; omega
      simp only [Nat.add_sub_cancel] at hK
      by_cases hp : l[j].2 < l[j + 1].1
      · have Hy := Lib.hid (range_succ_all (slotOkB l) (j + 1) Hall.out (by rw [hK, ha, hb]; simp [hc, hp]))
        have hp' : decide (l[j + 1].1 ≤ l[j].2) = false := by simp; omega
        have hp'' : ¬ (l[j + 1].1 ≤ l[j].2) := by omega
        clear hK hN
        generalize l[j + 1].1 = a at *
        generalize l[j + 1].2 = z at *
        generalize l[j].2 = q at *
        go_wp2_with (first | (go_at_call 19; (with_reducible refine call_later (is_bool ha (limT_any a _)) ?_); intro u) | (go_at_call 19; (with_reducible refine call_later (is_bool hb (limT_any z _)) ?_); intro u) | ((with_reducible refine wp_region_later ?_ ?_ ?_); (· kernel_rfl); (· kernel_rfl); (try simp only [List.append_eq, List.cons_append, List.nil_append]); (repeat (go_big_quiet_step ((first | (go_at_call 19; (with_reducible exact call_quiet (is_bool ha (limT_any a _)))) | (go_at_call 19; (with_reducible exact call_quiet (is_bool hb (limT_any z _)))))))); refine wpQuiet_nil ?_; rintro _ ⟨u, rfl⟩))
        go_roundw
        case rel => exact ⟨j + 1 + 1, by go_num, by omega, Hy.out, gw⟩
        case measure => simp [intOf]; omega
      · have Hn := Lib.hid (hN (by rw [hK, ha, hb]; simp [hp]))
        have hp' : decide (l[j + 1].1 ≤ l[j].2) = true := by simp; omega
        clear hK hN
        generalize l[j + 1].1 = a at *
        generalize l[j + 1].2 = z at *
        generalize l[j].2 = q at *
        go_wp2_with (first | (go_at_call 19; (with_reducible refine call_later (is_bool ha (limT_any a _)) ?_); intro u) | (go_at_call 19; (with_reducible refine call_later (is_bool hb (limT_any z _)) ?_); intro u) | ((with_reducible refine wp_region_later ?_ ?_ ?_); (· kernel_rfl); (· kernel_rfl); (try simp only [List.append_eq, List.cons_append, List.nil_append]); (repeat (go_big_quiet_step ((first | (go_at_call 19; (with_reducible exact call_quiet (is_bool ha (limT_any a _)))) | (go_at_call 19; (with_reducible exact call_quiet (is_bool hb (limT_any z _)))))))); refine wpQuiet_nil ?_; rintro _ ⟨u, rfl⟩))
        go_ret
        exact ⟨ret_bool Hn.out.symm, gw⟩
    · have Hr := Lib.hid (HY.out k (by omega) hk Hall.out)
      obtain rfl : k = l.length := by omega
      go_wp2
      go_ret
      exact ⟨ret_bool (by rw [Hr.out]; simp; omega), gw⟩
theorem holds_step {l : List (Int × Int)} {t : Int} {k : Nat} (hk : k < l.length) : holdsB (l.take (k + 1)) t = (holdsB (l.take k) t || (decide (l[k].1 ≤ t) && decide (t < l[k].2))) := by
  unfold holdsB
  rw [List.take_succ_eq_append_getElem hk, List.any_append]
  simp
/-- How many times a set has. -/
def totalAt (l : List (Int × Int)) : Nat → Int
  | 0 => 0
  | k + 1 => totalAt l k + ((l[k]?.getD (0, 0)).2 - (l[k]?.getD (0, 0)).1)
theorem totalAt_bd {l : List (Int × Int)} (h : setB l = true) (k : Nat) (hk : k < l.length) : 0 ≤ totalAt l (k + 1) ∧ totalAt l (k + 1) ≤ l[k].2 + 1152921504606846976 := by
  induction k with
  | zero =>
    have := setB_at h 0 hk
    simp only [totalAt, List.getElem?_eq_getElem hk, Option.getD_some]
    omega
  | succ k ih =>
    have h1 := ih (by omega)
    have h2 := setB_at h (k + 1) hk
    have h3 := setB_next h k hk
    rw [totalAt, List.getElem?_eq_getElem hk, Option.getD_some]
    omega
theorem totalAt_some {l : List (Int × Int)} (h : setB l = true) (k : Nat) (hk : k ≤ l.length) : 0 ≤ totalAt l k ∧ totalAt l k ≤ 2305843009213693952 := by
  cases k with
  | zero => simp [totalAt]
  | succ k =>
    have h1 := totalAt_bd h k (by omega)
    have h2 := setB_at h k (by omega)
    omega
def totalN (l : List (Int × Int)) : Int := if setB l = true then totalAt l l.length else 0
def setCode (l : List (Int × Int)) : Int := codeB (setB l) 2
theorem abTotal_any (l : List (Int × Int)) (v : Value) (w : World) (h : SlAt w v l.length (l.flatMap slC)) : Calls Try.prog 14 #[v] w fun e w' => e = .returned (.tuple #[.int .i64 (totalN l), .int .i64 (setCode l)]) ∧ Grew w w' := by
  have HI := Lib.hid (fun k hk => sl_two h k hk)
  have HS := Lib.hid (fun w' (g : Grew w w') => abSet_any l v w' (h.grew g))
  obtain ⟨ao, cap, rfl, hm⟩ := sl2_form h
  clear h
  cases hs : setB l
  · have HR := Lib.hid (show totalN l = 0 by unfold totalN; simp [hs])
    have HC := Lib.hid (show setCode l = 2 by unfold setCode; rw [hs]; rfl)
    go_enter Try.func14, Try.ntmps14
    go_wp2_with (first | (go_at_call 30; (with_reducible refine call_later (is_bool hs (HS.out _ gw)) ?_); intro u) | ((with_reducible refine wp_region_later ?_ ?_ ?_); (· kernel_rfl); (· kernel_rfl); (try simp only [List.append_eq, List.cons_append, List.nil_append]); (repeat (go_big_quiet_step ((first | (go_at_call 30; (with_reducible exact call_quiet (is_bool hs (HS.out _ gw)))))))); refine wpQuiet_nil ?_; rintro _ ⟨u, rfl⟩))
    go_ret2
    exact ⟨ret_two HR.out.symm HC.out.symm, gw⟩
  · have HR := Lib.hid (show totalN l = totalAt l l.length by unfold totalN; simp [hs])
    have HC := Lib.hid (show setCode l = 0 by unfold setCode; rw [hs]; rfl)
    have HB := Lib.hid (fun k hk => totalAt_some hs k hk)
    have HA := Lib.hid (fun k hk => setB_at hs k hk)
    go_enter Try.func14, Try.ntmps14
    go_wp2_with (first | (go_at_call 30; (with_reducible refine call_later (is_bool hs (HS.out _ gw)) ?_); intro u) | ((with_reducible refine wp_region_later ?_ ?_ ?_); (· kernel_rfl); (· kernel_rfl); (try simp only [List.append_eq, List.cons_append, List.nil_append]); (repeat (go_big_quiet_step ((first | (go_at_call 30; (with_reducible exact call_quiet (is_bool hs (HS.out _ gw)))))))); refine wpQuiet_nil ?_; rintro _ ⟨u, rfl⟩))
    go_loopw [4, 12] (fun v t wr => ∃ k : Nat, t = .int .i64 k ∧ v = .int .i64 (totalAt l k) ∧ k ≤ l.length ∧ Grew w wr) (fun _ t _ => l.length - (intOf t).toNat)
    case atStart => exact ⟨0, rfl, rfl, by omega, gw⟩
    case round =>
      obtain ⟨k, rfl, rfl, hk, hg⟩ := hrel
      obtain ⟨x, rfl⟩ := later_of hg
      clear hg
      by_cases hlt : k < l.length
      · obtain ⟨b1, o1, c1, e1, i1, hd1, hd2⟩ := HI.out k hlt
        obtain ⟨rfl, rfl⟩ : ao = some ⟨b1, o1, none⟩ ∧ cap = c1 := by simpa using e1
        clear e1
        obtain ⟨q1, q2⟩ := HB.out k hk
        obtain ⟨q3, q4, q5⟩ := HA.out k hlt
        have hn : totalAt l (k + 1) = totalAt l k + (l[k].2 - l[k].1) := by rw [totalAt, List.getElem?_eq_getElem hlt]; rfl
        have Hn := Lib.hid hn
        clear hn
        generalize l[k].1 = a at *
        generalize l[k].2 = z at *
        generalize totalAt l k = q at *
        go_wp2_with (first | ((with_reducible refine wp_region_later ?_ ?_ ?_); (· kernel_rfl); (· kernel_rfl); (try simp only [List.append_eq, List.cons_append, List.nil_append]); (repeat (go_big_quiet_step (fail))); refine wpQuiet_nil ?_; rintro _ ⟨u, rfl⟩))
        go_roundw
        case rel => exact ⟨k + 1, by go_num, by first | (rw [Hn.out]; done) | (rw [Hn.out]; exact congrArg (Value.int .i64) (by omega)), by omega, gw⟩
        case measure => simp [intOf]; omega
      · obtain rfl : k = l.length := by omega
        go_wp2
        go_ret2
        exact ⟨ret_two HR.out.symm HC.out.symm, gw⟩
end Go.Proofs.Ytffbipcdlnfihaa
