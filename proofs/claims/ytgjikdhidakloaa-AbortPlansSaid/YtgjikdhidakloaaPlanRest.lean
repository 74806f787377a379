/-
  Contracts: ullageref11's rest and least.
-/
import Derived.Test.YtgjikdhidakloaaMasks
import Derived.Deep.OwnRows
import Derived.Test.YtgjikdhidakloaaRow
namespace Go.Proofs.Ytgjikdhidakloaa
open Go.RowKit
set_option maxRecDepth 100000
set_option maxHeartbeats 4000000
theorem best_take1 (L : List (Int × Int)) (k : Nat) (h : k < L.length) : best (L.take (k + 1)) = bestS (best (L.take k)) L[k] := by
  rw [List.take_succ_eq_append_getElem h, best_snoc]
theorem behind_len (own : Int) (L : List (Int × Int)) : (behind own L).length = L.length := by simp [behind]
theorem behind_get (own : Int) (L : List (Int × Int)) (k : Nat) (h : k < L.length) : (behind own L)[k]'(by rw [behind_len]; exact h) = (L[k].1, L[k].2 + chg own L[k].1) := by simp [behind]
theorem r11Rest_any (own : Int) (L : List (Int × Int)) (hb : ∀ x ∈ L, 0 ≤ x.2 ∧ x.2 ≤ 4096) (v1 v2 : Value) (w : World) (h1 : SlAt w v1 L.length ((L.map (·.1)).flatMap intC)) (h2 : SlAt w v2 L.length ((L.map (·.2)).flatMap intC)) :
    Calls Try.prog 33 #[.int .i64 own, v1, v2] w fun e w' => e = .returned (.int .i64 (best (behind own L)).2) ∧ Grew w w' := by
  have h1' : SlAt w v1 (L.map (·.1)).length ((L.map (·.1)).flatMap intC) := by rw [List.length_map]; exact h1
  have h2' : SlAt w v2 (L.map (·.2)).length ((L.map (·.2)).flatMap intC) := by rw [List.length_map]; exact h2
  have Hc1 := Lib.hid (fun k hk => int_cell h1' k hk)
  have Hc2 := Lib.hid (fun k hk => int_cell h2' k hk)
  obtain ⟨ao1, cap1, rfl, hm1⟩ := sl_form h1
  obtain ⟨ao2, cap2, rfl, -⟩ := sl_form h2
  have HT := Lib.hid (fun k (hk : k < L.length) => best_take1 (behind own L) k (by rw [behind_len]; exact hk))
  have HE := Lib.hid (show best ((behind own L).take L.length) = best (behind own L) by rw [← behind_len own L, List.take_length])
  have HB := Lib.hid hb
  clear h1 h2 h1' h2' hb
  go_enter Try.func33, Try.ntmps33
  go_wp2
  go_loopw [7, 8] (fun v7 t wr => ∃ k : Nat, t = .int .i64 k ∧ v7 = .int .i64 (best ((behind own L).take k)).2 ∧ k ≤ L.length ∧ Grew w wr) (fun _ t _ => L.length - (intOf t).toNat)
  case atStart => exact ⟨0, rfl, rfl, by omega, (by repeat (first | with_reducible exact Grew.refl _ | with_reducible apply Grew.alloc | with_reducible apply Grew.later | with_reducible apply Grew.drew | with_reducible apply Grew.store | with_reducible assumption))⟩
  case round =>
    obtain ⟨k, rfl, rfl, hk, hg⟩ := hrel
    obtain ⟨y, rfl⟩ := later_of hg
    clear hg
    by_cases hlt : k < L.length
    · obtain ⟨b1, o1, c1, e1, i1, hd1⟩ := Hc1.out k (by simpa using hlt)
      obtain ⟨b2, o2, c2, e2, i2, hd2⟩ := Hc2.out k (by simpa using hlt)
      obtain ⟨rfl, rfl⟩ : ao1 = some ⟨b1, o1, none⟩ ∧ cap1 = c1 := by simpa using e1
      obtain ⟨rfl, rfl⟩ : ao2 = some ⟨b2, o2, none⟩ ∧ cap2 = c2 := by simpa using e2
      rw [List.getElem_map] at hd1 hd2
      have hT := HT.out k hlt
      rw [behind_get own L k hlt] at hT
      have h4 := HB.out _ (List.getElem_mem hlt)
      obtain ⟨c, hc⟩ : ∃ c, L[k].2 + chg own L[k].1 = L[k].2 + c ∧ 0 ≤ c ∧ c ≤ 1 ∧ chg own L[k].1 = c := ⟨_, rfl, (chg_bd _ _).1, (chg_bd _ _).2, rfl⟩
      obtain ⟨-, hc0, hc1, hce⟩ := hc
      rw [hce] at hT
      have HC := Lib.hid (fun w' => is_int (k := .i64) hce (r11Change_any own L[k].1 w'))
      clear hce e1 e2
      generalize L[k].1 = m at *
      generalize L[k].2 = q at *
      generalize best ((behind own L).take k) = s at *
      have Hn := Lib.hid hT
      clear hT
      obtain ⟨s1, s2⟩ := s
      go_wp2_with (first | (go_at_call 35; (with_reducible refine call_later (HC.out _) ?_); intro u) | ((with_reducible refine wp_region_later ?_ ?_ ?_); (· kernel_rfl); (· kernel_rfl); (repeat (go_big_quiet_step ((first | (go_at_call 35; (with_reducible exact call_quiet (HC.out _))))))); refine wpQuiet_nil ?_; rintro _ ⟨u, rfl⟩))
      all_goals
        go_roundw
        case rel => exact ⟨k + 1, by go_num, by rw [Hn.out]; unfold bestS; simp only; split <;> first | rfl | omega, by omega, (by repeat (first | with_reducible exact Grew.refl _ | with_reducible apply Grew.alloc | with_reducible apply Grew.later | with_reducible apply Grew.drew | with_reducible apply Grew.store | with_reducible assumption))⟩
        case measure => simp [intOf]; omega
    · obtain rfl : k = L.length := by omega
      rw [HE.out]
      go_wp2
      go_ret
      exact ⟨rfl, (by repeat (first | with_reducible exact Grew.refl _ | with_reducible apply Grew.alloc | with_reducible apply Grew.later | with_reducible apply Grew.drew | with_reducible apply Grew.store | with_reducible assumption))⟩
/-- Where the least number is, the first one, of the first k. -/
def leastN (l : List Int) : Nat → Nat
  | 0 => 0
  | k + 1 => if k = 0 then 0 else if l[k]?.getD 0 < l[leastN l k]?.getD 0 then k else leastN l k
theorem leastN_lt (l : List Int) (k : Nat) (h : 0 < k) : leastN l k < k := by
  induction k with
  | zero => omega
  | succ k ih =>
    unfold leastN
    split
    · omega
    · split
      · omega
      · have := ih (by omega); omega
theorem r11Least_any (l : List Int) (v : Value) (w : World) (h : SlAt w v l.length (l.flatMap intC)) (h0 : 0 < l.length) : Calls Try.prog 34 #[v] w fun e w' => e = .returned (.int .i64 (leastN l l.length)) ∧ Grew w w' := by
  have HI := Lib.hid (fun k hk => int_cell h k hk)
  obtain ⟨ao, cap, rfl, hm⟩ := sl_form h
  clear h
  go_enter Try.func34, Try.ntmps34
  go_wp2
  go_loopw [3, 4] (fun v3 t wr => ∃ k : Nat, t = .int .i64 ((k : Int) + 1) ∧ v3 = .int .i64 (leastN l (k + 1)) ∧ k + 1 ≤ l.length ∧ Grew w wr) (fun _ t _ => l.length - (intOf t).toNat)
  case atStart => exact ⟨0, rfl, rfl, by omega, (by repeat (first | with_reducible exact Grew.refl _ | with_reducible apply Grew.alloc | with_reducible apply Grew.later | with_reducible apply Grew.drew | with_reducible apply Grew.store | with_reducible assumption))⟩
  case round =>
    obtain ⟨k, rfl, rfl, hk, hg⟩ := hrel
    obtain ⟨y, rfl⟩ := later_of hg
    clear hg
    by_cases hlt : k + 1 < l.length
    · have hl := leastN_lt l (k + 1) (by omega)
      obtain ⟨b1, o1, c1, e1, i1, hd1⟩ := HI.out (k + 1) hlt
      obtain ⟨b2, o2, c2, e2, i2, hd2⟩ := HI.out (leastN l (k + 1)) (by omega)
      obtain ⟨rfl, rfl⟩ : ao = some ⟨b1, o1, none⟩ ∧ cap = c1 := by simpa using e1
      obtain ⟨⟨rfl, rfl⟩, -⟩ : (b1 = b2 ∧ o1 = o2) ∧ cap = c2 := by simpa using e2
      have hs : leastN l (k + 1 + 1) = if l[k + 1] < l[leastN l (k + 1)]'(by omega) then k + 1 else leastN l (k + 1) := by
        rw [leastN, if_neg (by omega), List.getElem?_eq_getElem hlt, List.getElem?_eq_getElem (by omega : leastN l (k + 1) < l.length)]
        rfl
      have q1 : (k : Int) + 1 < l.length := by omega
      have q2 : leastN l (k + 1) < l.length := by omega
      have q3 : (leastN l (k + 1) : Int) < l.length := by omega
      clear e1 e2
      have Hs := Lib.hid hs
      clear hs
      generalize l[k + 1] = a at *
      generalize l[leastN l (k + 1)] = b at *
      generalize leastN l (k + 1) = j at *
      by_cases hab : a < b
      · have Hn := Lib.hid (show leastN l (k + 1 + 1) = k + 1 by rw [Hs.out, if_pos hab])
        go_wp2_with (first | ((with_reducible refine wp_region_later ?_ ?_ ?_); (· kernel_rfl); (· kernel_rfl); (repeat (go_big_quiet_step (fail))); refine wpQuiet_nil ?_; rintro _ ⟨u, rfl⟩))
        all_goals
          go_roundw
          case rel => exact ⟨k + 1, by go_num, by rw [Hn.out]; rfl, by omega, (by repeat (first | with_reducible exact Grew.refl _ | with_reducible apply Grew.alloc | with_reducible apply Grew.later | with_reducible apply Grew.drew | with_reducible apply Grew.store | with_reducible assumption))⟩
          case measure => simp [intOf]; omega
      · have Hn := Lib.hid (show leastN l (k + 1 + 1) = j by rw [Hs.out, if_neg hab])
        go_wp2_with (first | ((with_reducible refine wp_region_later ?_ ?_ ?_); (· kernel_rfl); (· kernel_rfl); (repeat (go_big_quiet_step (fail))); refine wpQuiet_nil ?_; rintro _ ⟨u, rfl⟩))
        all_goals
          go_roundw
          case rel => exact ⟨k + 1, by go_num, by rw [Hn.out], by omega, (by repeat (first | with_reducible exact Grew.refl _ | with_reducible apply Grew.alloc | with_reducible apply Grew.later | with_reducible apply Grew.drew | with_reducible apply Grew.store | with_reducible assumption))⟩
          case measure => simp [intOf]; omega
    · have he : k + 1 = l.length := by omega
      have hk' : ¬ ((k : Int) + 1 < l.length) := by omega
      rw [he]
      go_wp2
      go_ret
      exact ⟨rfl, (by repeat (first | with_reducible exact Grew.refl _ | with_reducible apply Grew.alloc | with_reducible apply Grew.later | with_reducible apply Grew.drew | with_reducible apply Grew.store | with_reducible assumption))⟩
end Go.Proofs.Ytgjikdhidakloaa
