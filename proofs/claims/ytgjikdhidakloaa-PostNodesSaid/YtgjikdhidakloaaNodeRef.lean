/-
  Contracts: ullageref13.arcs, ullagelaw13.long.
-/
import Derived.Test.YtgjikdhidakloaaNodeArcs
namespace Go.Proofs.Ytgjikdhidakloaa
open Go.RowKit
set_option maxRecDepth 100000
set_option maxHeartbeats 16000000
theorem any_bad_at {L : Arcs} {k : Nat} (hk : k < L.length) (h : badB L[k] = true) : L.any badB = true := List.any_eq_true.2 ⟨L[k], List.getElem_mem hk, h⟩
theorem any_none {α : Type} {p : α → Bool} {L : List α} (h : ∀ j (hj : j < L.length), p L[j] = false) : L.any p = false := by
  rw [List.any_eq_false]
  intro x hx
  obtain ⟨i, hi, e⟩ := List.mem_iff_getElem.1 hx
  rw [← e, h i hi]
  decide
theorem r13Arcs_any (L : Arcs) (v : Value) (w : World) (hd : ArcsAt w v L) : Calls Try.prog 39 #[v] w fun e w' => e = .returned (.int .i64 (arcsCode L)) ∧ Grew w w' := by
  obtain ⟨⟨ao0, cap0, e0, hm, hc⟩, hdr⟩ := hd
  unfold maxLen at hm
  have HcA := Lib.hid (SlAt.elem (f := arcCells) (c := 15) (fun _ => rfl) (by omega) hc)
  have Hdr := Lib.hid hdr
  clear hc hdr
  subst e0
  have HB := Lib.hid (fun k (hk : k < L.length) => any_bad_at (k := k) hk)
  go_enter Try.func39, Try.ntmps39
  go_wp2
  go_loopw [3] (fun t wr => ∃ k : Nat, t = .int .i64 k ∧ k ≤ L.length ∧ (∀ j (hj : j < L.length), j < k → badB L[j] = false) ∧ Grew w wr) (fun t _ => L.length - (intOf t).toNat)
  case atStart => exact ⟨0, rfl, by omega, fun _ _ h => by omega, (by repeat (first | with_reducible exact Grew.refl _ | with_reducible apply Grew.alloc | with_reducible apply Grew.later | with_reducible apply Grew.drew | with_reducible apply Grew.store | with_reducible assumption))⟩
  case round =>
    obtain ⟨k, rfl, hk, hbe, hg⟩ := hrel
    obtain ⟨z, rfl⟩ := later_of hg
    clear hg
    have Hbe := Lib.hid hbe
    clear hbe
    by_cases hlt : k < L.length
    · skip
      obtain ⟨b1, o1, e1, i1, hd1, hd2⟩ := HcA.out k hlt
      have hc0 := hd1 _ rfl
      have hc1 := hd2 1 _ rfl
      have hc2 := hd2 2 _ rfl
      have hc3 := hd2 3 _ rfl
      have hc4 := hd2 4 _ rfl
      have hc5 := hd2 5 _ rfl
      have hc6 := hd2 6 _ rfl
      have hc7 := hd2 7 _ rfl
      have hc8 := hd2 8 _ rfl
      have hc9 := hd2 9 _ rfl
      have hc10 := hd2 10 _ rfl
      have hc11 := hd2 11 _ rfl
      have hc12 := hd2 12 _ rfl
      have hc13 := hd2 13 _ rfl
      have hc14 := hd2 14 _ rfl
      clear hd1 hd2
      have i1 : BlockIn w b1 := ⟨i1⟩
      obtain ⟨hdr, ht, hst⟩ := Hdr.out _ (List.getElem_mem hlt)
      have HC := Lib.hid (fun w' (g : Grew w w') => r3Arc_any L[k].1 L[k].2 w' (hdr.grew g))
      have HBk := Lib.hid (HB.out k hlt)
      have Hs := Lib.hid (fun (hx : badB L[k] = false) j (hj : j < L.length) (hjk : j < k + 1) => show badB L[j] = false by
        by_cases e : j = k
        · subst e; exact hx
        · exact Hbe.out j hj (by omega))
      clear hdr ht hst
      cases e1
      generalize L[k] = x at *
      cases h : x.1.okB x.2
      · have HC2 := Lib.hid (fun w' g => is_int (show codeB (x.1.okB x.2) 2 = 2 by rw [h]; rfl) (HC.out w' g))
        have Hr := Lib.hid (show arcsCode L = 2 by unfold arcsCode; rw [if_pos (HBk.out (by unfold badB; rw [h]; rfl))])
        clear h HC
        go_wp2_with (first | (go_at_call 61; (with_reducible refine call_later (HC2.out _ (by repeat (first | with_reducible exact Grew.refl _ | with_reducible apply Grew.alloc | with_reducible apply Grew.later | with_reducible apply Grew.drew | with_reducible apply Grew.store | with_reducible assumption))) ?_); intro u) | ((with_reducible refine wp_region_later ?_ ?_ ?_); (· kernel_rfl); (· kernel_rfl); (repeat (go_big_quiet_step ((first | (go_at_call 61; (with_reducible exact call_quiet (HC2.out _ (by repeat (first | with_reducible exact Grew.refl _ | with_reducible apply Grew.alloc | with_reducible apply Grew.later | with_reducible apply Grew.drew | with_reducible apply Grew.store | with_reducible assumption))))))))); refine wpQuiet_nil ?_; rintro _ ⟨u, rfl⟩))
        go_ret
        exact ⟨ret_int Hr.out.symm, (by repeat (first | with_reducible exact Grew.refl _ | with_reducible apply Grew.alloc | with_reducible apply Grew.later | with_reducible apply Grew.drew | with_reducible apply Grew.store | with_reducible assumption))⟩
      · have HC2 := Lib.hid (fun w' g => is_int (show codeB (x.1.okB x.2) 2 = 0 by rw [h]; rfl) (HC.out w' g))
        have Hn := Lib.hid (Hs.out (by unfold badB; rw [h]; rfl))
        clear h HC
        go_wp2_with (first | (go_at_call 61; (with_reducible refine call_later (HC2.out _ (by repeat (first | with_reducible exact Grew.refl _ | with_reducible apply Grew.alloc | with_reducible apply Grew.later | with_reducible apply Grew.drew | with_reducible apply Grew.store | with_reducible assumption))) ?_); intro u) | ((with_reducible refine wp_region_later ?_ ?_ ?_); (· kernel_rfl); (· kernel_rfl); (repeat (go_big_quiet_step ((first | (go_at_call 61; (with_reducible exact call_quiet (HC2.out _ (by repeat (first | with_reducible exact Grew.refl _ | with_reducible apply Grew.alloc | with_reducible apply Grew.later | with_reducible apply Grew.drew | with_reducible apply Grew.store | with_reducible assumption))))))))); refine wpQuiet_nil ?_; rintro _ ⟨u, rfl⟩))
        go_roundw
        case rel => exact ⟨k + 1, by go_num, by omega, Hn.out, (by repeat (first | with_reducible exact Grew.refl _ | with_reducible apply Grew.alloc | with_reducible apply Grew.later | with_reducible apply Grew.drew | with_reducible apply Grew.store | with_reducible assumption))⟩
        case measure => simp [intOf]; omega
    · obtain rfl : k = L.length := by omega
      have HR := Lib.hid (show arcsCode L = if decide (L.length ≤ 32) && fitB 4096 0 L then 0 else 3 by unfold arcsCode; rw [if_neg (by rw [any_none (fun j hj => Hbe.out j hj hj)]; decide)])
      clear Hbe HB
      by_cases h32 : 32 < L.length
      · have h32' : (32 : Int) < L.length := by omega
        have Hr := Lib.hid (show arcsCode L = 3 by rw [HR.out, decide_eq_false (by omega)]; simp)
        go_wp2
        go_ret
        exact ⟨ret_int Hr.out.symm, (by repeat (first | with_reducible exact Grew.refl _ | with_reducible apply Grew.alloc | with_reducible apply Grew.later | with_reducible apply Grew.drew | with_reducible apply Grew.store | with_reducible assumption))⟩
      have h32' : ¬ ((32 : Int) < L.length) := by omega
      go_wp2
      go_loopw [4, 5] (fun q t wr => ∃ (k : Nat) (s : Int), t = .int .i64 k ∧ q = .int .i64 s ∧ k ≤ L.length ∧ 0 ≤ s ∧ s ≤ 4096 ∧ fitB 4096 0 L = fitB 4096 s (L.drop k) ∧ Grew w wr) (fun _ t _ => L.length - (intOf t).toNat)
      case atStart => exact ⟨0, 0, rfl, rfl, by omega, by omega, by omega, rfl, (by repeat (first | with_reducible exact Grew.refl _ | with_reducible apply Grew.alloc | with_reducible apply Grew.later | with_reducible apply Grew.drew | with_reducible apply Grew.store | with_reducible assumption))⟩
      case round =>
        obtain ⟨k, s, rfl, rfl, hk, hs1, hs2, hfit, hg⟩ := hrel
        obtain ⟨z2, rfl⟩ := later_of hg
        clear hg
        by_cases hlt : k < L.length
        · skip
          obtain ⟨b1, o1, e1, i1, hd1, hd2⟩ := HcA.out k hlt
          have hc0 := hd1 _ rfl
          have hc1 := hd2 1 _ rfl
          have hc2 := hd2 2 _ rfl
          have hc3 := hd2 3 _ rfl
          have hc4 := hd2 4 _ rfl
          have hc5 := hd2 5 _ rfl
          have hc6 := hd2 6 _ rfl
          have hc7 := hd2 7 _ rfl
          have hc8 := hd2 8 _ rfl
          have hc9 := hd2 9 _ rfl
          have hc10 := hd2 10 _ rfl
          have hc11 := hd2 11 _ rfl
          have hc12 := hd2 12 _ rfl
          have hc13 := hd2 13 _ rfl
          have hc14 := hd2 14 _ rfl
          clear hd1 hd2
          have i1 : BlockIn w b1 := ⟨i1⟩
          obtain ⟨hdr, ht, hst⟩ := Hdr.out _ (List.getElem_mem hlt)
          have HS := Lib.hid (fun w' (g : Grew w w') => r3Steps_any L[k].1 L[k].2 w' (hdr.grew g) ht hst)
          clear hdr ht hst
          rw [drop_cons L k hlt, fitB] at hfit
          have Hfit := Lib.hid hfit
          clear hfit
          have hb := stepsNum_bd L[k].1 L[k].2
          obtain ⟨hb1, hb2⟩ := hb
          cases e1
          generalize L[k] = x at *
          generalize stepsNum x.1 x.2 = sn at *
          rcases prop_or (stepsCode x.1 x.2 = 0) with h11 | h11
          · have h11' : (stepsCode x.1 x.2 != 0) = true := by simp [h11]
            have Hr := Lib.hid (show arcsCode L = 3 by rw [HR.out, Hfit.out, decide_eq_false h11]; simp)
            clear h11 Hfit
            generalize stepsCode x.1 x.2 = sc at *
            go_wp2_with (first | (go_at_call 36; (with_reducible refine call_later (HS.out _ (by repeat (first | with_reducible exact Grew.refl _ | with_reducible apply Grew.alloc | with_reducible apply Grew.later | with_reducible apply Grew.drew | with_reducible apply Grew.store | with_reducible assumption))) ?_); intro u) | ((with_reducible refine wp_region_later ?_ ?_ ?_); (· kernel_rfl); (· kernel_rfl); (repeat (go_big_quiet_step ((first | (go_at_call 36; (with_reducible exact call_quiet (HS.out _ (by repeat (first | with_reducible exact Grew.refl _ | with_reducible apply Grew.alloc | with_reducible apply Grew.later | with_reducible apply Grew.drew | with_reducible apply Grew.store | with_reducible assumption))))))))); refine wpQuiet_nil ?_; rintro _ ⟨u, rfl⟩))
            go_ret
            exact ⟨ret_int Hr.out.symm, (by repeat (first | with_reducible exact Grew.refl _ | with_reducible apply Grew.alloc | with_reducible apply Grew.later | with_reducible apply Grew.drew | with_reducible apply Grew.store | with_reducible assumption))⟩
          · have h11' : (stepsCode x.1 x.2 != 0) = false := by simp [h11]
            have Hfit2 := Lib.hid (show fitB 4096 0 L = (decide (s + sn ≤ 4096) && fitB 4096 (s + sn) (L.drop (k + 1))) by rw [Hfit.out, decide_eq_true h11]; simp)
            clear h11 Hfit
            generalize stepsCode x.1 x.2 = sc at *
            by_cases h12 : s + sn ≤ 4096
            · have hf := Hfit2.out
              rw [decide_eq_true h12, Bool.true_and] at hf
              have Hf := Lib.hid hf
              clear hf Hfit2
              go_wp2_with (first | (go_at_call 36; (with_reducible refine call_later (HS.out _ (by repeat (first | with_reducible exact Grew.refl _ | with_reducible apply Grew.alloc | with_reducible apply Grew.later | with_reducible apply Grew.drew | with_reducible apply Grew.store | with_reducible assumption))) ?_); intro u) | ((with_reducible refine wp_region_later ?_ ?_ ?_); (· kernel_rfl); (· kernel_rfl); (repeat (go_big_quiet_step ((first | (go_at_call 36; (with_reducible exact call_quiet (HS.out _ (by repeat (first | with_reducible exact Grew.refl _ | with_reducible apply Grew.alloc | with_reducible apply Grew.later | with_reducible apply Grew.drew | with_reducible apply Grew.store | with_reducible assumption))))))))); refine wpQuiet_nil ?_; rintro _ ⟨u, rfl⟩))
              go_roundw
              case rel => exact ⟨k + 1, s + sn, by go_num, rfl, by omega, by omega, by omega, Hf.out, (by repeat (first | with_reducible exact Grew.refl _ | with_reducible apply Grew.alloc | with_reducible apply Grew.later | with_reducible apply Grew.drew | with_reducible apply Grew.store | with_reducible assumption))⟩
              case measure => simp [intOf]; omega
            · have Hr := Lib.hid (show arcsCode L = 3 by rw [HR.out, Hfit2.out, decide_eq_false h12]; simp)
              have h12' : 4096 < s + sn := by omega
              clear Hfit2
              go_wp2_with (first | (go_at_call 36; (with_reducible refine call_later (HS.out _ (by repeat (first | with_reducible exact Grew.refl _ | with_reducible apply Grew.alloc | with_reducible apply Grew.later | with_reducible apply Grew.drew | with_reducible apply Grew.store | with_reducible assumption))) ?_); intro u) | ((with_reducible refine wp_region_later ?_ ?_ ?_); (· kernel_rfl); (· kernel_rfl); (repeat (go_big_quiet_step ((first | (go_at_call 36; (with_reducible exact call_quiet (HS.out _ (by repeat (first | with_reducible exact Grew.refl _ | with_reducible apply Grew.alloc | with_reducible apply Grew.later | with_reducible apply Grew.drew | with_reducible apply Grew.store | with_reducible assumption))))))))); refine wpQuiet_nil ?_; rintro _ ⟨u, rfl⟩))
              go_ret
              exact ⟨ret_int Hr.out.symm, (by repeat (first | with_reducible exact Grew.refl _ | with_reducible apply Grew.alloc | with_reducible apply Grew.later | with_reducible apply Grew.drew | with_reducible apply Grew.store | with_reducible assumption))⟩
        · have Hr := Lib.hid (show arcsCode L = 0 by rw [HR.out, hfit, List.drop_eq_nil_of_le (by omega), decide_eq_true (by omega)]; rfl)
          clear hfit
          go_wp2
          go_ret
          exact ⟨ret_int Hr.out.symm, (by repeat (first | with_reducible exact Grew.refl _ | with_reducible apply Grew.alloc | with_reducible apply Grew.later | with_reducible apply Grew.drew | with_reducible apply Grew.store | with_reducible assumption))⟩
/-- The steps of arcs together. -/
def sumZ : Arcs → Int
  | [] => 0
  | x :: r => stepsNum x.1 x.2 + sumZ r
def wideB (x : Arc × List Pt) : Bool := decide (70 < x.1.drag.n)
def longB (most : Int) (L : Arcs) : Bool := L.any wideB || (decide (40 < L.length) || decide (most < sumZ L))
theorem sumZ_take (L : Arcs) (k : Nat) (h : k < L.length) : sumZ (L.take (k + 1)) = sumZ (L.take k) + stepsNum L[k].1 L[k].2 := by
  induction L generalizing k with
  | nil => simp at h
  | cons x r ih =>
    cases k with
    | zero => simp [sumZ]
    | succ k =>
      have := ih k (by simpa using h)
      simp only [List.take_succ_cons, sumZ, List.getElem_cons_succ, this]
      omega
theorem sumZ_bd (L : Arcs) : ∀ k, 0 ≤ sumZ (L.take k) ∧ sumZ (L.take k) ≤ 4096 * k := by
  induction L with
  | nil => intro k; simp [sumZ]; omega
  | cons x r ih =>
    intro k
    cases k with
    | zero => simp [sumZ]
    | succ k =>
      have := ih k
      have := stepsNum_bd x.1 x.2
      simp only [List.take_succ_cons, sumZ]
      omega
theorem lawLong_any (most : Int) (L : Arcs) (v : Value) (w : World) (hd : ArcsAt w v L) : Calls Try.prog 12 #[v, .int .i64 most] w fun e w' => e = .returned (.bool (longB most L)) ∧ Grew w w' := by
  obtain ⟨⟨ao0, cap0, e0, hm, hc⟩, hdr⟩ := hd
  unfold maxLen at hm
  have HcA := Lib.hid (SlAt.elem (f := arcCells) (c := 15) (fun _ => rfl) (by omega) hc)
  have Hdr := Lib.hid hdr
  clear hc hdr
  subst e0
  go_enter Try.func12, Try.ntmps12
  go_wp2
  go_loopw [12] (fun t wr => ∃ k : Nat, t = .int .i64 k ∧ k ≤ L.length ∧ (∀ j (hj : j < L.length), j < k → wideB L[j] = false) ∧ Grew w wr) (fun t _ => L.length - (intOf t).toNat)
  case atStart => exact ⟨0, rfl, by omega, fun _ _ h => by omega, (by repeat (first | with_reducible exact Grew.refl _ | with_reducible apply Grew.alloc | with_reducible apply Grew.later | with_reducible apply Grew.drew | with_reducible apply Grew.store | with_reducible assumption))⟩
  case round =>
    obtain ⟨k, rfl, hk, hbe, hg⟩ := hrel
    obtain ⟨z, rfl⟩ := later_of hg
    clear hg
    have Hbe := Lib.hid hbe
    clear hbe
    by_cases hlt : k < L.length
    · skip
      obtain ⟨b1, o1, e1, i1, hd1, hd2⟩ := HcA.out k hlt
      have hc0 := hd1 _ rfl
      have hc1 := hd2 1 _ rfl
      have hc2 := hd2 2 _ rfl
      have hc3 := hd2 3 _ rfl
      have hc4 := hd2 4 _ rfl
      have hc5 := hd2 5 _ rfl
      have hc6 := hd2 6 _ rfl
      have hc7 := hd2 7 _ rfl
      have hc8 := hd2 8 _ rfl
      have hc9 := hd2 9 _ rfl
      have hc10 := hd2 10 _ rfl
      have hc11 := hd2 11 _ rfl
      have hc12 := hd2 12 _ rfl
      have hc13 := hd2 13 _ rfl
      have hc14 := hd2 14 _ rfl
      clear hd1 hd2
      have i1 : BlockIn w b1 := ⟨i1⟩
      have HW := Lib.hid (fun (h : wideB L[k] = true) => show longB most L = true by
        unfold longB
        rw [List.any_eq_true.2 ⟨L[k], List.getElem_mem hlt, h⟩]
        rfl)
      have Hs := Lib.hid (fun (hx : wideB L[k] = false) j (hj : j < L.length) (hjk : j < k + 1) => show wideB L[j] = false by
        by_cases e : j = k
        · subst e; exact hx
        · exact Hbe.out j hj (by omega))
      cases e1
      generalize L[k] = x at *
      by_cases h : 70 < x.1.drag.n
      · have h' : (70 : Int) < x.1.drag.n := by omega
        have HW2 := Lib.hid (HW.out (by unfold wideB; exact decide_eq_true h))
        go_wp2
        go_ret
        exact ⟨ret_bool HW2.out.symm, (by repeat (first | with_reducible exact Grew.refl _ | with_reducible apply Grew.alloc | with_reducible apply Grew.later | with_reducible apply Grew.drew | with_reducible apply Grew.store | with_reducible assumption))⟩
      · have h' : ¬ ((70 : Int) < x.1.drag.n) := by omega
        have Hn := Lib.hid (Hs.out (by unfold wideB; exact decide_eq_false h))
        go_wp2
        go_roundw
        case rel => exact ⟨k + 1, by go_num, by omega, Hn.out, (by repeat (first | with_reducible exact Grew.refl _ | with_reducible apply Grew.alloc | with_reducible apply Grew.later | with_reducible apply Grew.drew | with_reducible apply Grew.store | with_reducible assumption))⟩
        case measure => simp [intOf]; omega
    · obtain rfl : k = L.length := by omega
      have HR := Lib.hid (show longB most L = (decide (40 < L.length) || decide (most < sumZ L)) by unfold longB; rw [any_none (fun j hj => Hbe.out j hj hj)]; rfl)
      have HT := Lib.hid (sumZ_take L)
      have HBd := Lib.hid (sumZ_bd L)
      clear Hbe
      go_wp2
      go_loopw [6, 25] (fun q t wr => ∃ (k : Nat) (s : Int), t = .int .i64 k ∧ q = .int .i64 s ∧ k ≤ L.length ∧ (L.length ≤ 40 → s = sumZ (L.take k)) ∧ Grew w wr) (fun _ t _ => L.length - (intOf t).toNat)
      case atStart => exact ⟨0, 0, rfl, rfl, by omega, fun _ => rfl, (by repeat (first | with_reducible exact Grew.refl _ | with_reducible apply Grew.alloc | with_reducible apply Grew.later | with_reducible apply Grew.drew | with_reducible apply Grew.store | with_reducible assumption))⟩
      case round =>
        obtain ⟨k, s, rfl, rfl, hk, hs, hg⟩ := hrel
        obtain ⟨z2, rfl⟩ := later_of hg
        clear hg
        have Hs := Lib.hid hs
        clear hs
        by_cases hlt : k < L.length
        · skip
          obtain ⟨b1, o1, e1, i1, hd1, hd2⟩ := HcA.out k hlt
          have hc0 := hd1 _ rfl
          have hc1 := hd2 1 _ rfl
          have hc2 := hd2 2 _ rfl
          have hc3 := hd2 3 _ rfl
          have hc4 := hd2 4 _ rfl
          have hc5 := hd2 5 _ rfl
          have hc6 := hd2 6 _ rfl
          have hc7 := hd2 7 _ rfl
          have hc8 := hd2 8 _ rfl
          have hc9 := hd2 9 _ rfl
          have hc10 := hd2 10 _ rfl
          have hc11 := hd2 11 _ rfl
          have hc12 := hd2 12 _ rfl
          have hc13 := hd2 13 _ rfl
          have hc14 := hd2 14 _ rfl
          clear hd1 hd2
          have i1 : BlockIn w b1 := ⟨i1⟩
          obtain ⟨hdr, ht, hst⟩ := Hdr.out _ (List.getElem_mem hlt)
          have HS := Lib.hid (fun w' (g : Grew w w') => r3Steps_any L[k].1 L[k].2 w' (hdr.grew g) ht hst)
          have Hn := Lib.hid (fun (h40 : L.length ≤ 40) => show wrap64 (s + stepsNum L[k].1 L[k].2) = sumZ (L.take (k + 1)) by
            rw [HT.out k hlt, ← Hs.out h40]
            have h1 := HBd.out k
            have h2 := stepsNum_bd L[k].1 L[k].2
            rw [← Hs.out h40] at h1
            exact wrap_id _ (by omega) (by omega))
          clear hdr ht hst
          cases e1
          generalize L[k] = x at *
          generalize stepsNum x.1 x.2 = sn at *
          go_wp2_with (first | (go_at_call 36; (with_reducible refine call_later (HS.out _ (by repeat (first | with_reducible exact Grew.refl _ | with_reducible apply Grew.alloc | with_reducible apply Grew.later | with_reducible apply Grew.drew | with_reducible apply Grew.store | with_reducible assumption))) ?_); intro u) | ((with_reducible refine wp_region_later ?_ ?_ ?_); (· kernel_rfl); (· kernel_rfl); (repeat (go_big_quiet_step ((first | (go_at_call 36; (with_reducible exact call_quiet (HS.out _ (by repeat (first | with_reducible exact Grew.refl _ | with_reducible apply Grew.alloc | with_reducible apply Grew.later | with_reducible apply Grew.drew | with_reducible apply Grew.store | with_reducible assumption))))))))); refine wpQuiet_nil ?_; rintro _ ⟨u, rfl⟩))
          go_roundw
          case rel => exact ⟨k + 1, _, by go_num, rfl, by omega, Hn.out, (by repeat (first | with_reducible exact Grew.refl _ | with_reducible apply Grew.alloc | with_reducible apply Grew.later | with_reducible apply Grew.drew | with_reducible apply Grew.store | with_reducible assumption))⟩
          case measure => simp [intOf]; omega
        · obtain rfl : k = L.length := by omega
          rw [List.take_length] at Hs
          by_cases h40 : 40 < L.length
          · have h40' : (40 : Int) < L.length := by omega
            have Hr := Lib.hid (show longB most L = true by rw [HR.out, decide_eq_true h40]; rfl)
            by_cases hq : most < s
            all_goals
              go_wp2
              go_ret
              exact ⟨ret_bool Hr.out.symm, (by repeat (first | with_reducible exact Grew.refl _ | with_reducible apply Grew.alloc | with_reducible apply Grew.later | with_reducible apply Grew.drew | with_reducible apply Grew.store | with_reducible assumption))⟩
          · have h40' : ¬ ((40 : Int) < L.length) := by omega
            have hse := Hs.out (by omega)
            have Hr := Lib.hid (show longB most L = decide (most < s) by rw [HR.out, decide_eq_false h40, hse]; rfl)
            clear hse Hs
            by_cases hq : most < s
            · have Hr2 := Lib.hid (Hr.out.trans (decide_eq_true hq))
              go_wp2
              go_ret
              exact ⟨ret_bool Hr2.out.symm, (by repeat (first | with_reducible exact Grew.refl _ | with_reducible apply Grew.alloc | with_reducible apply Grew.later | with_reducible apply Grew.drew | with_reducible apply Grew.store | with_reducible assumption))⟩
            · have Hr2 := Lib.hid (Hr.out.trans (decide_eq_false hq))
              go_wp2
              go_ret
              exact ⟨ret_bool Hr2.out.symm, (by repeat (first | with_reducible exact Grew.refl _ | with_reducible apply Grew.alloc | with_reducible apply Grew.later | with_reducible apply Grew.drew | with_reducible apply Grew.store | with_reducible assumption))⟩
end Go.Proofs.Ytgjikdhidakloaa
