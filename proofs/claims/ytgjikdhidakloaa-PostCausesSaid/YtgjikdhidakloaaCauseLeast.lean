/-
  Contract of ullageref13.least.
-/
import Derived.Test.YtgjikdhidakloaaCauseRef
namespace Go.Proofs.Ytgjikdhidakloaa
open Go.RowKit
set_option maxRecDepth 100000
set_option maxHeartbeats 16000000
def minT (l : List Nat) (x k : Nat) : Bool := (l.take k).all fun y => !(decide (subN y x) && decide (y ≠ x))
def levelTo (l : List Nat) (n i : Nat) : List Nat := (l.take i).filter fun x => decide (cntN x = n) && minB l x
theorem minT_succ (l : List Nat) (x k : Nat) (h : k < l.length) : minT l x (k + 1) = (minT l x k && !(decide (subN l[k] x) && decide (l[k] ≠ x))) := by
  unfold minT
  rw [List.take_succ_eq_append_getElem h, List.all_append]
  simp
theorem levelTo_succ (l : List Nat) (n i : Nat) (h : i < l.length) : levelTo l n (i + 1) = if (decide (cntN l[i] = n) && minB l l[i]) = true then levelTo l n i ++ [l[i]] else levelTo l n i := by
  unfold levelTo
  rw [List.take_succ_eq_append_getElem h, List.filter_append]
  by_cases hb : (decide (cntN l[i] = n) && minB l l[i]) = true
  · rw [if_pos hb, List.filter_cons, if_pos hb]; rfl
  · rw [if_neg hb, List.filter_cons, if_neg hb]; simp
theorem leastR_succ (l : List Nat) (n : Nat) : leastR l (n + 1) = leastR l n ++ levelTo l n l.length := by
  unfold leastR levelTo levelL
  rw [List.range_succ, List.flatMap_append, List.take_length]
  simp
theorem levelTo_len (l : List Nat) (n i : Nat) : (levelTo l n i).length ≤ l.length := by
  unfold levelTo
  refine Nat.le_trans (List.length_filter_le _ _) ?_
  rw [List.length_take]
  exact Nat.min_le_right _ _
theorem leastR_len (l : List Nat) : ∀ n, (leastR l n).length ≤ n * l.length
  | 0 => by simp [leastR]
  | n + 1 => by
    rw [leastR_succ, List.length_append, Nat.succ_mul]
    have := leastR_len l n
    have := levelTo_len l n l.length
    omega
theorem r13Least_any (l : List Nat) (hb : ∀ x ∈ l, x < 256) (hl : l.length ≤ 256) (v : Value) (w : World) (h : SlAt w v (toI l).length ((toI l).flatMap intC)) : Calls Try.prog 57 #[v] w (RetInts (toI (leastR l 13)) w) := by
  have HI := Lib.hid (fun k hk => nat_cell h k hk)
  have HB := Lib.hid (fun k (hk : k < l.length) => hb l[k] (List.getElem_mem hk))
  obtain ⟨ao, cap, rfl, hm⟩ := sl_form h
  rw [toI_len] at *
  clear h hb
  go_enter Try.func57, Try.ntmps57
  go_wp2
  go_loopw [3, 4] (fun v t wr => ∃ (n : Nat) (v3 : Value), t = .int .i64 n ∧ v3 = v ∧ n ≤ 13 ∧ wr.ownsRow w.heap.size 3 1 v3 (toI (leastR l n)).length ((toI (leastR l n)).flatMap intC) ∧ Grew w wr) (fun _ t _ => 13 - (intOf t).toNat)
  case atStart => exact ⟨0, _, rfl, rfl, by omega, World.ownsRow_nil _ _ _ _, (by repeat (first | with_reducible exact Grew.refl _ | with_reducible apply Grew.alloc | with_reducible apply Grew.later | with_reducible apply Grew.drew | with_reducible apply Grew.store | with_reducible assumption))⟩
  case round =>
    obtain ⟨n, v3, rfl, rfl, hn, hown, hg⟩ := hrel
    obtain ⟨y, rfl⟩ := later_of hg
    clear hg
    by_cases hlt : n < 13
    rotate_left
    · obtain rfl : n = 13 := by omega
      have Hs := Lib.hid (SlAt.of_owns hown)
      clear hown
      go_wp2
      go_ret
      exact ⟨_, rfl, Hs.out, (by repeat (first | with_reducible exact Grew.refl _ | with_reducible apply Grew.alloc | with_reducible apply Grew.later | with_reducible apply Grew.drew | with_reducible apply Grew.store | with_reducible assumption))⟩
    have hlt' : (n : Int) ≤ 12 := by omega
    have hL := leastR_len l n
    have hL2 : (leastR l n).length ≤ 4096 := by
      have : n * l.length ≤ 13 * 256 := Nat.mul_le_mul (by omega) hl
      omega
    have Hn := Lib.hid (leastR_succ l n)
    clear hL
    go_wp2
    go_loopw [3, 5] (fun v t wr => ∃ (i : Nat) (v3 : Value), t = .int .i64 i ∧ v3 = v ∧ i ≤ l.length ∧ wr.ownsRow w.heap.size 3 1 v3 (toI (leastR l n ++ levelTo l n i)).length ((toI (leastR l n ++ levelTo l n i)).flatMap intC) ∧ Grew w wr) (fun _ t _ => l.length - (intOf t).toNat)
    case atStart => exact ⟨0, _, rfl, rfl, by omega, by simpa [levelTo] using hown, (by repeat (first | with_reducible exact Grew.refl _ | with_reducible apply Grew.alloc | with_reducible apply Grew.later | with_reducible apply Grew.drew | with_reducible apply Grew.store | with_reducible assumption))⟩
    case round =>
      clear hown
      obtain ⟨i, v3', rfl, rfl, hi, hown, hg⟩ := hrel
      obtain ⟨y1, rfl⟩ := later_of hg
      clear hg
      by_cases hil : i < l.length
      rotate_left
      · obtain rfl : i = l.length := by omega
        rw [← Hn.out] at hown
        go_wp2
        go_roundw
        case rel => exact ⟨n + 1, _, by go_num, rfl, by omega, hown, (by repeat (first | with_reducible exact Grew.refl _ | with_reducible apply Grew.alloc | with_reducible apply Grew.later | with_reducible apply Grew.drew | with_reducible apply Grew.store | with_reducible assumption))⟩
        case measure => simp [intOf]; omega
      have HL := levelTo_succ l n i hil
      have HT := Lib.hid (levelTo_len l n i)
      have HM := Lib.hid (fun w' => r13Many_any l[i] (HB.out i hil) w')
      have hbx := HB.out i hil
      obtain ⟨b, off, cap', e, hbi, hcell⟩ := HI.out i hil
      cases e
      have HMT := Lib.hid (fun k hk => minT_succ l l[i] k hk)
      have HME := Lib.hid (show minB l l[i] = minT l l[i] l.length by unfold minB minT; rw [List.take_length])
      have HPT := Lib.hid (fun k (hk : k < l.length) w' => r13Part_any l[k] l[i] (HB.out k hk) hbx w')
      generalize l[i] = x at *
      generalize hcx : cntN x = cx at *
      by_cases hc : cx = n
      rotate_left
      · have hc' : ((cx : Int) != (n : Int)) = true := by simp; omega
        rw [if_neg (by simp [hc])] at HL
        have HLe := Lib.hid HL
        clear HL
        go_wp2_with (first | (go_at_call 77; (with_reducible refine call_later (HM.out _) ?_); intro u) | ((with_reducible refine wp_region_later ?_ ?_ ?_); (· kernel_rfl); (· kernel_rfl); (repeat (go_big_quiet_step ((first | (go_at_call 77; (with_reducible exact call_quiet (HM.out _))))))); refine wpQuiet_nil ?_; rintro _ ⟨u, rfl⟩))
        go_roundw
        case rel => exact ⟨i + 1, _, by go_num, rfl, by omega, by rw [HLe.out]; exact owns_grew hown (by repeat (first | with_reducible exact Grew.refl _ | with_reducible apply Grew.alloc | with_reducible apply Grew.later | with_reducible apply Grew.drew | with_reducible apply Grew.store | with_reducible assumption)), (by repeat (first | with_reducible exact Grew.refl _ | with_reducible apply Grew.alloc | with_reducible apply Grew.later | with_reducible apply Grew.drew | with_reducible apply Grew.store | with_reducible assumption))⟩
        case measure => simp [intOf]; omega
      · subst hc
        rw [decide_eq_true rfl, Bool.true_and] at HL
        have HLe := Lib.hid HL
        clear HL
        have hc' : ((cx : Int) != (cx : Int)) = false := by simp
        go_wp2_with (first | (go_at_call 77; (with_reducible refine call_later (HM.out _) ?_); intro u) | ((with_reducible refine wp_region_later ?_ ?_ ?_); (· kernel_rfl); (· kernel_rfl); (repeat (go_big_quiet_step ((first | (go_at_call 77; (with_reducible exact call_quiet (HM.out _))))))); refine wpQuiet_nil ?_; rintro _ ⟨u, rfl⟩))
        go_loopw [6, 7] (fun v t wr => ∃ k : Nat, t = .int .i64 k ∧ v = .bool (minT l x k) ∧ k ≤ l.length ∧ Grew u.world wr) (fun _ t _ => l.length - (intOf t).toNat)
        case atStart => exact ⟨0, rfl, rfl, by omega, (by repeat (first | with_reducible exact Grew.refl _ | with_reducible apply Grew.alloc | with_reducible apply Grew.later | with_reducible apply Grew.drew | with_reducible apply Grew.store | with_reducible assumption))⟩
        case round =>
          obtain ⟨k, rfl, rfl, hk, hg⟩ := hrel
          obtain ⟨z, rfl⟩ := later_of hg
          clear hg
          by_cases hkl : k < l.length
          · obtain ⟨b2, off2, cap2, e2, hbi2, hcell2⟩ := HI.out k hkl
            cases e2
            have hms := HMT.out k hkl
            have HP := Lib.hid (HPT.out k hkl)
            generalize l[k] = q at *
            by_cases hs : subN q x
            · rw [decide_eq_true hs] at HP
              by_cases hq : q = x
              · subst hq
                have hq' : ((q : Int) != (q : Int)) = false := by simp
                rw [decide_eq_true hs, decide_eq_false (fun hn => hn rfl)] at hms
                have Hms := Lib.hid hms
                clear hms
                generalize minT l q k = mb at *
                go_wp2_with (first | (go_at_call 78; (with_reducible refine call_later (HP.out _) ?_); intro u) | ((with_reducible refine wp_region_later ?_ ?_ ?_); (· kernel_rfl); (· kernel_rfl); (repeat (go_big_quiet_step ((first | (go_at_call 78; (with_reducible exact call_quiet (HP.out _))))))); refine wpQuiet_nil ?_; rintro _ ⟨u, rfl⟩))
                go_roundw
                case rel => exact ⟨k + 1, by go_num, by rw [Hms.out]; simp, by omega, (by repeat (first | with_reducible exact Grew.refl _ | with_reducible apply Grew.alloc | with_reducible apply Grew.later | with_reducible apply Grew.drew | with_reducible apply Grew.store | with_reducible assumption))⟩
                case measure => simp [intOf]; omega
              · have hq' : ((q : Int) != (x : Int)) = true := by simp; omega
                rw [decide_eq_true hs, decide_eq_true hq] at hms
                have Hms := Lib.hid hms
                clear hms
                generalize minT l x k = mb at *
                go_wp2_with (first | (go_at_call 78; (with_reducible refine call_later (HP.out _) ?_); intro u) | ((with_reducible refine wp_region_later ?_ ?_ ?_); (· kernel_rfl); (· kernel_rfl); (repeat (go_big_quiet_step ((first | (go_at_call 78; (with_reducible exact call_quiet (HP.out _))))))); refine wpQuiet_nil ?_; rintro _ ⟨u, rfl⟩))
                go_roundw
                case rel => exact ⟨k + 1, by go_num, by rw [Hms.out]; simp, by omega, (by repeat (first | with_reducible exact Grew.refl _ | with_reducible apply Grew.alloc | with_reducible apply Grew.later | with_reducible apply Grew.drew | with_reducible apply Grew.store | with_reducible assumption))⟩
                case measure => simp [intOf]; omega
            · rw [decide_eq_false hs] at HP
              rw [decide_eq_false hs] at hms
              have Hms := Lib.hid hms
              clear hms
              generalize minT l x k = mb at *
              go_wp2_with (first | (go_at_call 78; (with_reducible refine call_later (HP.out _) ?_); intro u) | ((with_reducible refine wp_region_later ?_ ?_ ?_); (· kernel_rfl); (· kernel_rfl); (repeat (go_big_quiet_step ((first | (go_at_call 78; (with_reducible exact call_quiet (HP.out _))))))); refine wpQuiet_nil ?_; rintro _ ⟨u, rfl⟩))
              go_roundw
              case rel => exact ⟨k + 1, by go_num, by rw [Hms.out]; simp, by omega, (by repeat (first | with_reducible exact Grew.refl _ | with_reducible apply Grew.alloc | with_reducible apply Grew.later | with_reducible apply Grew.drew | with_reducible apply Grew.store | with_reducible assumption))⟩
              case measure => simp [intOf]; omega
          · obtain rfl : k = l.length := by omega
            rw [HME.out] at HLe
            have hown2 := owns_grew hown (show Grew y1.world z.world from (by repeat (first | with_reducible exact Grew.refl _ | with_reducible apply Grew.alloc | with_reducible apply Grew.later | with_reducible apply Grew.drew | with_reducible apply Grew.store | with_reducible assumption)))
            have hlen : (toI (leastR l cx ++ levelTo l cx i)).length ≤ 1099511627776 := by
              rw [toI_len, List.length_append]
              have := HT.out
              omega
            cases hmb : minT l x l.length
            · have HLf := Lib.hid (HLe.out)
              rw [hmb, if_neg (by simp)] at HLf
              go_wp2
              go_roundw
              case rel => exact ⟨i + 1, _, by go_num, rfl, by omega, by rw [HLf.out]; exact hown2, (by repeat (first | with_reducible exact Grew.refl _ | with_reducible apply Grew.alloc | with_reducible apply Grew.later | with_reducible apply Grew.drew | with_reducible apply Grew.store | with_reducible assumption))⟩
              case measure => simp [intOf]; omega
            · have HLf := Lib.hid (HLe.out)
              rw [hmb, if_pos rfl] at HLf
              go_wp2_with (at_builtin; go_loud (refine wpList_app_int w _ (by repeat (first | with_reducible exact Grew.refl _ | with_reducible apply Grew.alloc | with_reducible apply Grew.later | with_reducible apply Grew.drew | with_reducible apply Grew.store | with_reducible assumption)) rfl _ _ rfl _ _ hown2 rfl _ _ rfl hlen ?_; intro v' y2 hown'))
              go_roundw
              case rel => exact ⟨i + 1, _, by go_num, rfl, by omega, by rw [HLf.out, ← List.append_assoc, toI_snoc]; exact hown', (by repeat (first | with_reducible exact Grew.refl _ | with_reducible apply Grew.alloc | with_reducible apply Grew.later | with_reducible apply Grew.drew | with_reducible apply Grew.store | with_reducible assumption))⟩
              case measure => simp [intOf]; omega
end Go.Proofs.Ytgjikdhidakloaa
