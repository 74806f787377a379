/-
  Contracts: the errors of masks, the choices of a mask, Gaps (abort, ullageref11).
-/
import Derived.Test.YtgjikdhidakloaaInts
import Derived.Test.YtgjikdhidakloaaPlanLaw
namespace Go.Proofs.Ytgjikdhidakloaa
open Go.RowKit
set_option maxRecDepth 100000
set_option maxHeartbeats 2000000
def maskB (n : Int) : Bool := decide (0 ≤ n) && decide (n ≤ 65535)
def masksCode (P : List Int) : Int := if P.length ≤ 4096 then codeB (P.all maskB) 2 else 3
def gapsAt (P : List Int) : Nat → List Int
  | 0 => []
  | k + 1 => if P[k]?.getD 1 = 0 then gapsAt P k ++ [(k : Int)] else gapsAt P k
def gapsL (P : List Int) : List Int := if masksCode P = 0 then gapsAt P P.length else []
theorem gapsAt_len (P : List Int) (k : Nat) : (gapsAt P k).length ≤ k := by
  induction k with
  | zero => simp [gapsAt]
  | succ k ih =>
    unfold gapsAt
    split
    · simp; exact ih
    · omega
theorem mask_ok (w0 : World) : PredOk 59 #[] maskB w0 := by
  intro w x _
  go_enter Try.func59, Try.ntmps59
  go_wp2
  all_goals go_ret
  all_goals exact ⟨ret_bool (by (first | (simp [maskB, *]; done) | (simp [maskB, *] <;> omega) | (simp [maskB, *]; omega))), (by repeat (first | with_reducible exact Grew.refl _ | with_reducible apply Grew.alloc | with_reducible apply Grew.later | with_reducible apply Grew.drew | with_reducible apply Grew.store | with_reducible assumption))⟩
theorem every_mask (P : List Int) (v : Value) (w : World) (h : SlAt w v P.length (P.flatMap intC)) : Calls Try.prog 58 #[v, .func (.func 59) #[] #[]] w fun e w' => e = .returned (.bool (P.all maskB)) ∧ Grew w w' :=
  everyInt_any maskB 59 #[] (enters_of Try.func59 (by kernel_rfl) rfl) P v w h (mask_ok w)
theorem abMasks_any (P : List Int) (v : Value) (w : World) (h : SlAt w v P.length (P.flatMap intC)) : Calls Try.prog 28 #[v] w fun e w' => e = .returned (.int .i64 (masksCode P)) ∧ Grew w w' := by
  have HE := Lib.hid (fun w' (g : Grew w w') => every_mask P v w' (h.grew g))
  obtain ⟨ao, cap, rfl, hm⟩ := sl_form h
  clear h
  by_cases hl : P.length ≤ 4096
  · cases ha : P.all maskB
    all_goals
      have HR := Lib.hid (show masksCode P = _ from by unfold masksCode; rw [if_pos hl, ha])
      go_enter Try.func28, Try.ntmps28
      go_wp2_with (first | (go_at_call 58; (with_reducible refine call_later (is_bool ha (HE.out _ (by repeat (first | with_reducible exact Grew.refl _ | with_reducible apply Grew.alloc | with_reducible apply Grew.later | with_reducible apply Grew.drew | with_reducible apply Grew.store | with_reducible assumption)))) ?_); intro u) | ((with_reducible refine wp_region_later ?_ ?_ ?_); (· kernel_rfl); (· kernel_rfl); (repeat (go_big_quiet_step ((first | (go_at_call 58; (with_reducible exact call_quiet (is_bool ha (HE.out _ (by repeat (first | with_reducible exact Grew.refl _ | with_reducible apply Grew.alloc | with_reducible apply Grew.later | with_reducible apply Grew.drew | with_reducible apply Grew.store | with_reducible assumption)))))))))); refine wpQuiet_nil ?_; rintro _ ⟨u, rfl⟩))
      go_ret
      exact ⟨ret_int HR.out.symm, (by repeat (first | with_reducible exact Grew.refl _ | with_reducible apply Grew.alloc | with_reducible apply Grew.later | with_reducible apply Grew.drew | with_reducible apply Grew.store | with_reducible assumption))⟩
  · have HR := Lib.hid (show masksCode P = 3 from by unfold masksCode; rw [if_neg hl])
    go_enter Try.func28, Try.ntmps28
    go_wp2
    go_ret
    exact ⟨ret_int HR.out.symm, (by repeat (first | with_reducible exact Grew.refl _ | with_reducible apply Grew.alloc | with_reducible apply Grew.later | with_reducible apply Grew.drew | with_reducible apply Grew.store | with_reducible assumption))⟩
theorem r11Masks_any (P : List Int) (v : Value) (w : World) (h : SlAt w v P.length (P.flatMap intC)) : Calls Try.prog 31 #[v] w fun e w' => e = .returned (.int .i64 (masksCode P)) ∧ Grew w w' := by
  have HI := Lib.hid (fun k hk => int_cell h k hk)
  obtain ⟨ao, cap, rfl, hm⟩ := sl_form h
  clear h
  by_cases hl : P.length ≤ 4096
  · have HR := Lib.hid (show masksCode P = codeB (P.all maskB) 2 from by unfold masksCode; rw [if_pos hl])
    go_enter Try.func31, Try.ntmps31
    go_wp2
    go_loopw [3] (fun t wr => ∃ k : Nat, t = .int .i64 k ∧ k ≤ P.length ∧ (P.take k).all maskB = true ∧ Grew w wr) (fun t _ => P.length - (intOf t).toNat)
    case atStart => exact ⟨0, rfl, by omega, rfl, (by repeat (first | with_reducible exact Grew.refl _ | with_reducible apply Grew.alloc | with_reducible apply Grew.later | with_reducible apply Grew.drew | with_reducible apply Grew.store | with_reducible assumption))⟩
    case round =>
      obtain ⟨k, rfl, hk, hall, hg⟩ := hrel
      obtain ⟨x, rfl⟩ := later_of hg
      clear hg
      have Hall := Lib.hid hall
      clear hall
      by_cases hlt : k < P.length
      · obtain ⟨b1, o1, c1, e1, i1, hd⟩ := HI.out k hlt
        cases e1
        have Hno := Lib.hid (fun h : maskB P[k] = false => all_false maskB P k hlt h)
        have Hyes := Lib.hid (fun h : maskB P[k] = true => all_take_succ maskB P k hlt Hall.out h)
        generalize P[k] = n at *
        by_cases c1 : n < 0
        · have Hr := Lib.hid (Hno.out (by unfold maskB; simp; omega))
          go_wp2_with (first | ((with_reducible refine wp_region_later ?_ ?_ ?_); (· kernel_rfl); (· kernel_rfl); (repeat (go_big_quiet_step (fail))); refine wpQuiet_nil ?_; rintro _ ⟨u, rfl⟩))
          go_ret
          exact ⟨ret_int (by rw [HR.out, Hr.out]; rfl), (by repeat (first | with_reducible exact Grew.refl _ | with_reducible apply Grew.alloc | with_reducible apply Grew.later | with_reducible apply Grew.drew | with_reducible apply Grew.store | with_reducible assumption))⟩
        · by_cases c2 : 65536 ≤ n
          · have Hr := Lib.hid (Hno.out (by unfold maskB; simp; omega))
            go_wp2_with (first | ((with_reducible refine wp_region_later ?_ ?_ ?_); (· kernel_rfl); (· kernel_rfl); (repeat (go_big_quiet_step (fail))); refine wpQuiet_nil ?_; rintro _ ⟨u, rfl⟩))
            go_ret
            exact ⟨ret_int (by rw [HR.out, Hr.out]; rfl), (by repeat (first | with_reducible exact Grew.refl _ | with_reducible apply Grew.alloc | with_reducible apply Grew.later | with_reducible apply Grew.drew | with_reducible apply Grew.store | with_reducible assumption))⟩
          · have Hr := Lib.hid (Hyes.out (by unfold maskB; simp; omega))
            go_wp2_with (first | ((with_reducible refine wp_region_later ?_ ?_ ?_); (· kernel_rfl); (· kernel_rfl); (repeat (go_big_quiet_step (fail))); refine wpQuiet_nil ?_; rintro _ ⟨u, rfl⟩))
            go_roundw
            case rel => exact ⟨k + 1, by go_num, by omega, Hr.out, (by repeat (first | with_reducible exact Grew.refl _ | with_reducible apply Grew.alloc | with_reducible apply Grew.later | with_reducible apply Grew.drew | with_reducible apply Grew.store | with_reducible assumption))⟩
            case measure => simp [intOf]; omega
      · have Hr := Lib.hid (all_true maskB P k (by omega) Hall.out)
        go_wp2
        go_ret
        exact ⟨ret_int (by rw [HR.out, Hr.out]; rfl), (by repeat (first | with_reducible exact Grew.refl _ | with_reducible apply Grew.alloc | with_reducible apply Grew.later | with_reducible apply Grew.drew | with_reducible apply Grew.store | with_reducible assumption))⟩
  · have HR := Lib.hid (show masksCode P = 3 from by unfold masksCode; rw [if_neg hl])
    go_enter Try.func31, Try.ntmps31
    go_wp2
    go_ret
    exact ⟨ret_int HR.out.symm, (by repeat (first | with_reducible exact Grew.refl _ | with_reducible apply Grew.alloc | with_reducible apply Grew.later | with_reducible apply Grew.drew | with_reducible apply Grew.store | with_reducible assumption))⟩
theorem and_one_nat (a : Int) (h0 : 0 ≤ a) (h1 : a ≤ 9223372036854775807) : bits .and .i64 a 1 = a % 2 := by
  obtain ⟨a, rfl⟩ := Int.eq_ofNat_of_zero_le h0
  have ho : (BitVec.ofInt 64 (a : Int)).toNat = a := by simp; omega
  show IntKind.i64.wrap ((BitVec.ofInt 64 (a : Int) &&& BitVec.ofInt 64 1).toNat : Int) = _
  rw [BitVec.toNat_and, ho, show (BitVec.ofInt 64 1).toNat = 1 by decide, Nat.and_one_is_mod]
  simp [IntKind.wrap, IntKind.bits, IntKind.signed]
  omega
theorem half_bits (m : Int) (k : Nat) (h0 : 0 ≤ m) (h1 : m < 65536) : 0 ≤ m / 2 ^ k ∧ m / 2 ^ k < 65536 := by
  have hp : (0 : Int) < 2 ^ k := Int.pow_pos (by decide)
  have h2 := Int.ediv_nonneg h0 (Int.le_of_lt hp)
  have h3 := Int.ediv_le_self (2 ^ k) h0
  omega
theorem half_next (m : Int) (k : Nat) : m / 2 ^ k / 2 = m / 2 ^ (k + 1) := by
  have hp : (0 : Int) < 2 ^ k := Int.pow_pos (by decide)
  rw [Int.ediv_ediv_of_nonneg (Int.le_of_lt hp), ← Int.pow_succ]
theorem abChoices_any (m : Int) (h0 : 0 ≤ m) (h1 : m < 65536) (w : World) : Calls Try.prog 30 #[.int .i64 m] w (RetInts (choicesL m) w) := by
  by_cases hm : m = 0
  · subst hm
    go_enter Try.func30, Try.ntmps30
    go_wp2
    go_ret
    exact ⟨_, rfl, SlAt.fresh _ _ _ _ (by simp [maxLen]), (by repeat (first | with_reducible exact Grew.refl _ | with_reducible apply Grew.alloc | with_reducible apply Grew.later | with_reducible apply Grew.drew | with_reducible apply Grew.store | with_reducible assumption))⟩
  · have HR := Lib.hid (show choicesL m = bitsL m 16 from by unfold choicesL; rw [if_neg hm])
    have hm' : (m == 0) = false := by simp [hm]
    clear hm
    go_enter Try.func30, Try.ntmps30
    go_wp2
    go_loopw [3, 8] (fun v t wr => ∃ (k : Nat) (v3 : Value), t = .int .i64 k ∧ v3 = v ∧ k ≤ 16 ∧ wr.ownsRow w.heap.size 3 1 v3 (bitsL m k).length ((bitsL m k).flatMap intC) ∧ Grew w wr) (fun _ t _ => 16 - (intOf t).toNat)
    case atStart => exact ⟨0, _, rfl, rfl, by omega, World.ownsRow_nil _ _ _ _, (by repeat (first | with_reducible exact Grew.refl _ | with_reducible apply Grew.alloc | with_reducible apply Grew.later | with_reducible apply Grew.drew | with_reducible apply Grew.store | with_reducible assumption))⟩
    case round =>
      obtain ⟨k, v, rfl, rfl, hk, hown, hg⟩ := hrel
      obtain ⟨y, rfl⟩ := later_of hg
      clear hg
      by_cases hlt : k < 16
      · have hb := half_bits m k h0 h1
        have ha := and_one_nat (m / 2 ^ k) hb.1 (by omega)
        have hs := bitsL_succ m k
        have hl := bitsL_len m k
        have hbb : bitB m k = decide (m / 2 ^ k % 2 = 1) := rfl
        have hl2 : (bitsL m k).length ≤ 1099511627776 := by omega
        clear hb
        by_cases hq : m / 2 ^ k % 2 = 1
        · rw [hbb, if_pos (by simp [hq])] at hs
          have Hs := Lib.hid hs
          have hq' : (bits .and .i64 (m / 2 ^ k) 1 == 1) = true := by rw [ha, hq]; rfl
          clear hs hbb ha hq
          go_wp2_with (at_builtin; refine wpList_app_int w _ (by repeat (first | with_reducible exact Grew.refl _ | with_reducible apply Grew.alloc | with_reducible apply Grew.later | with_reducible apply Grew.drew | with_reducible apply Grew.store | with_reducible assumption)) rfl _ _ rfl _ _ hown rfl _ _ rfl hl2 ?_; intro v' y1 hown')
          go_roundw
          case rel => exact ⟨k + 1, _, by go_num, rfl, by omega, by rw [Hs.out]; exact hown', (by repeat (first | with_reducible exact Grew.refl _ | with_reducible apply Grew.alloc | with_reducible apply Grew.later | with_reducible apply Grew.drew | with_reducible apply Grew.store | with_reducible assumption))⟩
          case measure => simp [intOf]; omega
        · rw [hbb, if_neg (by simp [hq])] at hs
          have Hs := Lib.hid hs
          have hq' : (bits .and .i64 (m / 2 ^ k) 1 == 1) = false := by rw [ha]; simp [hq]
          clear hs hbb ha hq
          go_wp2
          go_roundw
          case rel => exact ⟨k + 1, _, by go_num, rfl, by omega, by rw [Hs.out]; exact hown, (by repeat (first | with_reducible exact Grew.refl _ | with_reducible apply Grew.alloc | with_reducible apply Grew.later | with_reducible apply Grew.drew | with_reducible apply Grew.store | with_reducible assumption))⟩
          case measure => simp [intOf]; omega
      · obtain rfl : k = 16 := by omega
        have Hs := Lib.hid (SlAt.of_owns hown)
        go_wp2
        go_ret
        exact ⟨_, rfl, by rw [HR.out]; exact Hs.out, (by repeat (first | with_reducible exact Grew.refl _ | with_reducible apply Grew.alloc | with_reducible apply Grew.later | with_reducible apply Grew.drew | with_reducible apply Grew.store | with_reducible assumption))⟩
theorem r11Has_any (m : Int) (i : Nat) (h0 : 0 ≤ m) (h1 : m < 65536) (hi : i < 100) (w : World) : Calls Try.prog 60 #[.int .i64 m, .int .i64 i] w fun e w' => e = .returned (.bool (bitB m i)) ∧ Grew w w' := by
  have HR := Lib.hid (show bitB m i = decide (m / 2 ^ i % 2 = 1) from rfl)
  have H0 := Lib.hid (show m = m / 2 ^ 0 by simp)
  have HB := Lib.hid (fun k => half_bits m k h0 h1)
  have HN := Lib.hid (fun k => half_next m k)
  clear h0 h1
  go_enter Try.func60, Try.ntmps60
  go_wp2
  go_loopw [0, 5] (fun v t wr => ∃ (k : Nat), t = .int .i64 k ∧ v = .int .i64 (m / 2 ^ k) ∧ k ≤ i ∧ Grew w wr) (fun _ t _ => i - (intOf t).toNat)
  case atStart => exact ⟨0, rfl, by rw [← H0.out], by omega, (by repeat (first | with_reducible exact Grew.refl _ | with_reducible apply Grew.alloc | with_reducible apply Grew.later | with_reducible apply Grew.drew | with_reducible apply Grew.store | with_reducible assumption))⟩
  case round =>
    obtain ⟨k, rfl, rfl, hk, hg⟩ := hrel
    obtain ⟨y, rfl⟩ := later_of hg
    clear hg
    obtain ⟨q0, q1⟩ := HB.out k
    have Hn := Lib.hid (HN.out k)
    by_cases hlt : k < i
    · generalize m / 2 ^ k = q at *
      go_wp2
      go_roundw
      case rel => exact ⟨k + 1, by go_num, by rw [← Hn.out], by omega, (by repeat (first | with_reducible exact Grew.refl _ | with_reducible apply Grew.alloc | with_reducible apply Grew.later | with_reducible apply Grew.drew | with_reducible apply Grew.store | with_reducible assumption))⟩
      case measure => simp [intOf]; omega
    · obtain rfl : k = i := by omega
      generalize m / 2 ^ k = q at *
      have hq : q.tmod 2 = q % 2 := Int.tmod_eq_emod_of_nonneg q0
      go_wp2
      go_ret
      exact ⟨ret_bool (by rw [HR.out, ← hq]; rfl), (by repeat (first | with_reducible exact Grew.refl _ | with_reducible apply Grew.alloc | with_reducible apply Grew.later | with_reducible apply Grew.drew | with_reducible apply Grew.store | with_reducible assumption))⟩
theorem r11Choices_any (m : Int) (h0 : 0 ≤ m) (h1 : m < 65536) (w : World) : Calls Try.prog 32 #[.int .i64 m] w (RetInts (choicesL m) w) := by
  by_cases hm : m = 0
  · subst hm
    go_enter Try.func32, Try.ntmps32
    go_wp2
    go_ret
    exact ⟨_, rfl, SlAt.fresh _ _ _ _ (by simp [maxLen]), (by repeat (first | with_reducible exact Grew.refl _ | with_reducible apply Grew.alloc | with_reducible apply Grew.later | with_reducible apply Grew.drew | with_reducible apply Grew.store | with_reducible assumption))⟩
  · have HR := Lib.hid (show choicesL m = bitsL m 16 from by unfold choicesL; rw [if_neg hm])
    have hm' : (m == 0) = false := by simp [hm]
    have HH := Lib.hid (fun (k : Nat) (hk : k < 100) w' => r11Has_any m k h0 h1 hk w')
    clear hm
    go_enter Try.func32, Try.ntmps32
    go_wp2
    go_loopw [3, 4] (fun v t wr => ∃ (k : Nat) (v3 : Value), t = .int .i64 k ∧ v3 = v ∧ k ≤ 16 ∧ wr.ownsRow w.heap.size 3 1 v3 (bitsL m k).length ((bitsL m k).flatMap intC) ∧ Grew w wr) (fun _ t _ => 16 - (intOf t).toNat)
    case atStart => exact ⟨0, _, rfl, rfl, by omega, World.ownsRow_nil _ _ _ _, (by repeat (first | with_reducible exact Grew.refl _ | with_reducible apply Grew.alloc | with_reducible apply Grew.later | with_reducible apply Grew.drew | with_reducible apply Grew.store | with_reducible assumption))⟩
    case round =>
      obtain ⟨k, v, rfl, rfl, hk, hown, hg⟩ := hrel
      obtain ⟨y, rfl⟩ := later_of hg
      clear hg
      by_cases hlt : k < 16
      · have hs := bitsL_succ m k
        have hl := bitsL_len m k
        cases hb : bitB m k
        · rw [hb, if_neg (by simp)] at hs
          have Hs := Lib.hid hs
          clear hs
          go_wp2_with (first | (go_at_call 60; (with_reducible refine call_later (is_bool hb (HH.out k (by omega) _)) ?_); intro u))
          go_roundw
          case rel => exact ⟨k + 1, _, by go_num, rfl, by omega, by rw [Hs.out]; exact owns_grew hown u.grew, (by repeat (first | with_reducible exact Grew.refl _ | with_reducible apply Grew.alloc | with_reducible apply Grew.later | with_reducible apply Grew.drew | with_reducible apply Grew.store | with_reducible assumption))⟩
          case measure => simp [intOf]; omega
        · rw [hb, if_pos rfl] at hs
          have Hs := Lib.hid hs
          clear hs
          go_wp2_with (first | (go_at_call 60; (with_reducible refine call_later (is_bool hb (HH.out k (by omega) _)) ?_); intro u) | (at_builtin; refine wpList_app_int w _ (by repeat (first | with_reducible exact Grew.refl _ | with_reducible apply Grew.alloc | with_reducible apply Grew.later | with_reducible apply Grew.drew | with_reducible apply Grew.store | with_reducible assumption)) rfl _ _ rfl _ _ (owns_grew hown u.grew) rfl _ _ rfl (by omega) ?_; intro v' y1 hown'))
          go_roundw
          case rel => exact ⟨k + 1, _, by go_num, rfl, by omega, by rw [Hs.out]; exact hown', (by repeat (first | with_reducible exact Grew.refl _ | with_reducible apply Grew.alloc | with_reducible apply Grew.later | with_reducible apply Grew.drew | with_reducible apply Grew.store | with_reducible assumption))⟩
          case measure => simp [intOf]; omega
      · obtain rfl : k = 16 := by omega
        have Hs := Lib.hid (SlAt.of_owns hown)
        go_wp2
        go_ret
        exact ⟨_, rfl, by rw [HR.out]; exact Hs.out, (by repeat (first | with_reducible exact Grew.refl _ | with_reducible apply Grew.alloc | with_reducible apply Grew.later | with_reducible apply Grew.drew | with_reducible apply Grew.store | with_reducible assumption))⟩
theorem r11Change_any (a b : Int) (w : World) : Calls Try.prog 35 #[.int .i64 a, .int .i64 b] w fun e w' => e = .returned (.int .i64 (chg a b)) ∧ Grew w w' := by
  by_cases h : a = b
  · subst h
    go_enter Try.func35, Try.ntmps35
    go_wp2
    go_ret
    exact ⟨ret_int (by simp [chg]), (by repeat (first | with_reducible exact Grew.refl _ | with_reducible apply Grew.alloc | with_reducible apply Grew.later | with_reducible apply Grew.drew | with_reducible apply Grew.store | with_reducible assumption))⟩
  · have h' : (a != b) = true := by simp [h]
    go_enter Try.func35, Try.ntmps35
    go_wp2
    go_ret
    exact ⟨ret_int (by simp [chg, h]), (by repeat (first | with_reducible exact Grew.refl _ | with_reducible apply Grew.alloc | with_reducible apply Grew.later | with_reducible apply Grew.drew | with_reducible apply Grew.store | with_reducible assumption))⟩
theorem abGaps_any (P : List Int) (v : Value) (w : World) (h : SlAt w v P.length (P.flatMap intC)) : Calls Try.prog 9 #[v] w (RetIntsC (gapsL P) (masksCode P) w) := by
  have HM := Lib.hid (fun w' (g : Grew w w') => abMasks_any P v w' (h.grew g))
  have HI := Lib.hid (fun k hk => int_cell h k hk)
  obtain ⟨ao, cap, rfl, hm⟩ := sl_form h
  clear h
  by_cases hc : masksCode P = 0
  · have HR := Lib.hid (show gapsL P = gapsAt P P.length from by unfold gapsL; rw [if_pos hc])
    have hPl : P.length ≤ 4096 := by
      unfold masksCode at hc
      split at hc
      · assumption
      · exact absurd hc (by decide)
    have HC := Lib.hid hc
    go_enter Try.func9, Try.ntmps9
    go_wp2_with (first | (go_at_call 28; (with_reducible refine call_later (is_int hc (HM.out _ (by repeat (first | with_reducible exact Grew.refl _ | with_reducible apply Grew.alloc | with_reducible apply Grew.later | with_reducible apply Grew.drew | with_reducible apply Grew.store | with_reducible assumption)))) ?_); intro u) | ((with_reducible refine wp_region_later ?_ ?_ ?_); (· kernel_rfl); (· kernel_rfl); (repeat (go_big_quiet_step ((first | (go_at_call 28; (with_reducible exact call_quiet (is_int hc (HM.out _ (by repeat (first | with_reducible exact Grew.refl _ | with_reducible apply Grew.alloc | with_reducible apply Grew.later | with_reducible apply Grew.drew | with_reducible apply Grew.store | with_reducible assumption)))))))))); refine wpQuiet_nil ?_; rintro _ ⟨u, rfl⟩))
    go_loopw [5, 15] (fun v t wr => ∃ (k : Nat) (v3 : Value), t = .int .i64 k ∧ v3 = v ∧ k ≤ P.length ∧ wr.ownsRow w.heap.size 3 1 v3 (gapsAt P k).length ((gapsAt P k).flatMap intC) ∧ Grew w wr) (fun _ t _ => P.length - (intOf t).toNat)
    case atStart => exact ⟨0, _, rfl, rfl, by omega, World.ownsRow_nil _ _ _ _, (by repeat (first | with_reducible exact Grew.refl _ | with_reducible apply Grew.alloc | with_reducible apply Grew.later | with_reducible apply Grew.drew | with_reducible apply Grew.store | with_reducible assumption))⟩
    case round =>
      obtain ⟨k, v, rfl, rfl, hk, hown, hg⟩ := hrel
      obtain ⟨y, rfl⟩ := later_of hg
      clear hg
      by_cases hlt : k < P.length
      · obtain ⟨b1, o1, c1, e1, i1, hd⟩ := HI.out k hlt
        cases e1
        have hl := gapsAt_len P k
        have hs : gapsAt P (k + 1) = if P[k] = 0 then gapsAt P k ++ [(k : Int)] else gapsAt P k := by
          rw [gapsAt, List.getElem?_eq_getElem hlt]; rfl
        generalize P[k] = n at *
        by_cases hn : n = 0
        · rw [if_pos hn] at hs
          have Hs := Lib.hid hs
          subst hn
          clear hs
          go_wp2_with (at_builtin; refine wpList_app_int w _ (by repeat (first | with_reducible exact Grew.refl _ | with_reducible apply Grew.alloc | with_reducible apply Grew.later | with_reducible apply Grew.drew | with_reducible apply Grew.store | with_reducible assumption)) rfl _ _ rfl _ _ hown rfl _ _ rfl (by omega) ?_; intro v' y1 hown')
          go_roundw
          case rel => exact ⟨k + 1, _, by go_num, rfl, by omega, by rw [Hs.out]; exact hown', (by repeat (first | with_reducible exact Grew.refl _ | with_reducible apply Grew.alloc | with_reducible apply Grew.later | with_reducible apply Grew.drew | with_reducible apply Grew.store | with_reducible assumption))⟩
          case measure => simp [intOf]; omega
        · rw [if_neg hn] at hs
          have Hs := Lib.hid hs
          have hn' : (n == 0) = false := by simp [hn]
          clear hs hn
          go_wp2
          go_roundw
          case rel => exact ⟨k + 1, _, by go_num, rfl, by omega, by rw [Hs.out]; exact hown, (by repeat (first | with_reducible exact Grew.refl _ | with_reducible apply Grew.alloc | with_reducible apply Grew.later | with_reducible apply Grew.drew | with_reducible apply Grew.store | with_reducible assumption))⟩
          case measure => simp [intOf]; omega
      · obtain rfl : k = P.length := by omega
        have Hs := Lib.hid (SlAt.of_owns hown)
        go_wp2
        go_ret2
        exact ⟨v, by rw [HC.out]; rfl, by rw [HR.out]; exact Hs.out, (by repeat (first | with_reducible exact Grew.refl _ | with_reducible apply Grew.alloc | with_reducible apply Grew.later | with_reducible apply Grew.drew | with_reducible apply Grew.store | with_reducible assumption))⟩
  · have HR := Lib.hid (show gapsL P = [] from by unfold gapsL; rw [if_neg hc])
    have hc' : (masksCode P != 0) = true := by simp [hc]
    clear hc
    generalize masksCode P = c at *
    go_enter Try.func9, Try.ntmps9
    go_wp2_with (first | (go_at_call 28; (with_reducible refine call_later (HM.out _ (by repeat (first | with_reducible exact Grew.refl _ | with_reducible apply Grew.alloc | with_reducible apply Grew.later | with_reducible apply Grew.drew | with_reducible apply Grew.store | with_reducible assumption))) ?_); intro u) | ((with_reducible refine wp_region_later ?_ ?_ ?_); (· kernel_rfl); (· kernel_rfl); (repeat (go_big_quiet_step ((first | (go_at_call 28; (with_reducible exact call_quiet (HM.out _ (by repeat (first | with_reducible exact Grew.refl _ | with_reducible apply Grew.alloc | with_reducible apply Grew.later | with_reducible apply Grew.drew | with_reducible apply Grew.store | with_reducible assumption))))))))); refine wpQuiet_nil ?_; rintro _ ⟨u, rfl⟩))
    go_ret2
    exact ⟨_, rfl, by rw [HR.out]; exact SlAt.nil _, (by repeat (first | with_reducible exact Grew.refl _ | with_reducible apply Grew.alloc | with_reducible apply Grew.later | with_reducible apply Grew.drew | with_reducible apply Grew.store | with_reducible assumption))⟩
theorem r11Gaps_any (P : List Int) (v : Value) (w : World) (h : SlAt w v P.length (P.flatMap intC)) : Calls Try.prog 10 #[v] w (RetIntsC (gapsL P) (masksCode P) w) := by
  have HM := Lib.hid (fun w' (g : Grew w w') => r11Masks_any P v w' (h.grew g))
  have HI := Lib.hid (fun k hk => int_cell h k hk)
  obtain ⟨ao, cap, rfl, hm⟩ := sl_form h
  clear h
  by_cases hc : masksCode P = 0
  · have HR := Lib.hid (show gapsL P = gapsAt P P.length from by unfold gapsL; rw [if_pos hc])
    have hPl : P.length ≤ 4096 := by
      unfold masksCode at hc
      split at hc
      · assumption
      · exact absurd hc (by decide)
    have HC := Lib.hid hc
    go_enter Try.func10, Try.ntmps10
    go_wp2_with (first | (go_at_call 31; (with_reducible refine call_later (is_int hc (HM.out _ (by repeat (first | with_reducible exact Grew.refl _ | with_reducible apply Grew.alloc | with_reducible apply Grew.later | with_reducible apply Grew.drew | with_reducible apply Grew.store | with_reducible assumption)))) ?_); intro u) | ((with_reducible refine wp_region_later ?_ ?_ ?_); (· kernel_rfl); (· kernel_rfl); (repeat (go_big_quiet_step ((first | (go_at_call 31; (with_reducible exact call_quiet (is_int hc (HM.out _ (by repeat (first | with_reducible exact Grew.refl _ | with_reducible apply Grew.alloc | with_reducible apply Grew.later | with_reducible apply Grew.drew | with_reducible apply Grew.store | with_reducible assumption)))))))))); refine wpQuiet_nil ?_; rintro _ ⟨u, rfl⟩))
    go_loopw [5, 6] (fun v t wr => ∃ (k : Nat) (v3 : Value), t = .int .i64 k ∧ v3 = v ∧ k ≤ P.length ∧ wr.ownsRow w.heap.size 3 1 v3 (gapsAt P k).length ((gapsAt P k).flatMap intC) ∧ Grew w wr) (fun _ t _ => P.length - (intOf t).toNat)
    case atStart => exact ⟨0, _, rfl, rfl, by omega, World.ownsRow_nil _ _ _ _, (by repeat (first | with_reducible exact Grew.refl _ | with_reducible apply Grew.alloc | with_reducible apply Grew.later | with_reducible apply Grew.drew | with_reducible apply Grew.store | with_reducible assumption))⟩
    case round =>
      obtain ⟨k, v, rfl, rfl, hk, hown, hg⟩ := hrel
      obtain ⟨y, rfl⟩ := later_of hg
      clear hg
      by_cases hlt : k < P.length
      · obtain ⟨b1, o1, c1, e1, i1, hd⟩ := HI.out k hlt
        cases e1
        have hl := gapsAt_len P k
        have hs : gapsAt P (k + 1) = if P[k] = 0 then gapsAt P k ++ [(k : Int)] else gapsAt P k := by
          rw [gapsAt, List.getElem?_eq_getElem hlt]; rfl
        generalize P[k] = n at *
        by_cases hn : n = 0
        · rw [if_pos hn] at hs
          have Hs := Lib.hid hs
          subst hn
          clear hs
          go_wp2_with (at_builtin; refine wpList_app_int w _ (by repeat (first | with_reducible exact Grew.refl _ | with_reducible apply Grew.alloc | with_reducible apply Grew.later | with_reducible apply Grew.drew | with_reducible apply Grew.store | with_reducible assumption)) rfl _ _ rfl _ _ hown rfl _ _ rfl (by omega) ?_; intro v' y1 hown')
          go_roundw
          case rel => exact ⟨k + 1, _, by go_num, rfl, by omega, by rw [Hs.out]; exact hown', (by repeat (first | with_reducible exact Grew.refl _ | with_reducible apply Grew.alloc | with_reducible apply Grew.later | with_reducible apply Grew.drew | with_reducible apply Grew.store | with_reducible assumption))⟩
          case measure => simp [intOf]; omega
        · rw [if_neg hn] at hs
          have Hs := Lib.hid hs
          have hn' : (n == 0) = false := by simp [hn]
          clear hs hn
          go_wp2
          go_roundw
          case rel => exact ⟨k + 1, _, by go_num, rfl, by omega, by rw [Hs.out]; exact hown, (by repeat (first | with_reducible exact Grew.refl _ | with_reducible apply Grew.alloc | with_reducible apply Grew.later | with_reducible apply Grew.drew | with_reducible apply Grew.store | with_reducible assumption))⟩
          case measure => simp [intOf]; omega
      · obtain rfl : k = P.length := by omega
        have Hs := Lib.hid (SlAt.of_owns hown)
        go_wp2
        go_ret2
        exact ⟨v, by rw [HC.out]; rfl, by rw [HR.out]; exact Hs.out, (by repeat (first | with_reducible exact Grew.refl _ | with_reducible apply Grew.alloc | with_reducible apply Grew.later | with_reducible apply Grew.drew | with_reducible apply Grew.store | with_reducible assumption))⟩
  · have HR := Lib.hid (show gapsL P = [] from by unfold gapsL; rw [if_neg hc])
    have hc' : (masksCode P != 0) = true := by simp [hc]
    clear hc
    generalize masksCode P = c at *
    go_enter Try.func10, Try.ntmps10
    go_wp2_with (first | (go_at_call 31; (with_reducible refine call_later (HM.out _ (by repeat (first | with_reducible exact Grew.refl _ | with_reducible apply Grew.alloc | with_reducible apply Grew.later | with_reducible apply Grew.drew | with_reducible apply Grew.store | with_reducible assumption))) ?_); intro u) | ((with_reducible refine wp_region_later ?_ ?_ ?_); (· kernel_rfl); (· kernel_rfl); (repeat (go_big_quiet_step ((first | (go_at_call 31; (with_reducible exact call_quiet (HM.out _ (by repeat (first | with_reducible exact Grew.refl _ | with_reducible apply Grew.alloc | with_reducible apply Grew.later | with_reducible apply Grew.drew | with_reducible apply Grew.store | with_reducible assumption))))))))); refine wpQuiet_nil ?_; rintro _ ⟨u, rfl⟩))
    go_ret2
    exact ⟨_, rfl, by rw [HR.out]; exact SlAt.nil _, (by repeat (first | with_reducible exact Grew.refl _ | with_reducible apply Grew.alloc | with_reducible apply Grew.later | with_reducible apply Grew.drew | with_reducible apply Grew.store | with_reducible assumption))⟩
end Go.Proofs.Ytgjikdhidakloaa
