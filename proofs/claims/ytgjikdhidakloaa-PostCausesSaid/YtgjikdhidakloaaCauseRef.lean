/-
  Contracts of ullageref13's sets: power, has, many, part, meet, least.
-/
import Derived.Test.YtgjikdhidakloaaCauseLaw
import Derived.Test.YtgjikdhidakloaaInts
namespace Go.Proofs.Ytgjikdhidakloaa
open Go.RowKit
set_option maxRecDepth 100000
set_option maxHeartbeats 16000000
theorem wrapI (x : Int) (h1 : -9223372036854775808 ≤ x) (h2 : x ≤ 9223372036854775807) : IntKind.i64.wrap x = x := by
  simp [IntKind.wrap, IntKind.bits, IntKind.signed]
  omega
def toI (l : List Nat) : List Int := l.map fun x : Nat => (x : Int)
theorem toI_len (l : List Nat) : (toI l).length = l.length := List.length_map ..
theorem toI_snoc (l : List Nat) (x : Nat) : toI (l ++ [x]) = toI l ++ [(x : Int)] := by simp [toI]
theorem nat_cell {w : World} {v : Value} {l : List Nat} (h : SlAt w v (toI l).length ((toI l).flatMap intC)) (k : Nat) (hk : k < l.length) :
    ∃ b off cap, v = .slice (some ⟨b, off, none⟩) l.length cap ∧ BlockIn w b ∧ w.cell? ⟨b, off + k, none⟩ = some (.int .i64 (l[k] : Nat)) := by
  obtain ⟨b, off, cap, e, h1, h2⟩ := int_cell h k (by rw [toI_len]; exact hk)
  refine ⟨b, off, cap, by rw [e, toI_len], h1, ?_⟩
  rw [h2]
  exact congrArg (fun z : Int => some (Value.int .i64 z)) (List.getElem_map ..)
theorem r13Power_any (n : Nat) (hn : n ≤ 12) (w : World) : Calls Try.prog 55 #[.int .i64 n] w fun e w' => e = .returned (.int .i64 ((2 ^ n : Nat) : Int)) ∧ Grew w w' := by
  go_enter Try.func55, Try.ntmps55
  go_wp2
  go_loopw [3, 4] (fun v t wr => ∃ k : Nat, t = .int .i64 k ∧ v = .int .i64 ((2 ^ k : Nat) : Int) ∧ k ≤ n ∧ Grew w wr) (fun _ t _ => n - (intOf t).toNat)
  case atStart => exact ⟨0, rfl, rfl, by omega, (by repeat (first | with_reducible exact Grew.refl _ | with_reducible apply Grew.alloc | with_reducible apply Grew.later | with_reducible apply Grew.drew | with_reducible apply Grew.store | with_reducible assumption))⟩
  case round =>
    obtain ⟨k, rfl, rfl, hk, hg⟩ := hrel
    obtain ⟨y, rfl⟩ := later_of hg
    clear hg
    have hp : 2 ^ k ≤ 2 ^ 12 := Nat.pow_le_pow_right (by omega) (by omega)
    have Hp := Lib.hid (show 2 * 2 ^ k = 2 ^ (k + 1) by rw [Nat.pow_succ, Nat.mul_comm])
    by_cases hlt : k < n
    · have hp' : 2 ^ k ≤ 4096 := hp
      clear hp
      generalize 2 ^ k = q at *
      have hw : IntKind.i64.wrap (2 * (q : Int)) = ((2 * q : Nat) : Int) := by rw [wrapI _ (by omega) (by omega)]; omega
      go_wp2
      go_roundw
      case rel => exact ⟨k + 1, by go_num, by rw [← Hp.out]; go_num, by omega, (by repeat (first | with_reducible exact Grew.refl _ | with_reducible apply Grew.alloc | with_reducible apply Grew.later | with_reducible apply Grew.drew | with_reducible apply Grew.store | with_reducible assumption))⟩
      case measure => simp [intOf]; omega
    · obtain rfl : k = n := by omega
      generalize hq : 2 ^ k = q at *
      have Hq := Lib.hid hq
      clear hq
      go_wp2
      go_ret
      exact ⟨ret_int (by rw [Hq.out]), (by repeat (first | with_reducible exact Grew.refl _ | with_reducible apply Grew.alloc | with_reducible apply Grew.later | with_reducible apply Grew.drew | with_reducible apply Grew.store | with_reducible assumption))⟩
theorem r13Has_any (m i : Nat) (hm : m < 256) (hi : i ≤ 12) (w : World) : Calls Try.prog 76 #[.int .i64 m, .int .i64 i] w fun e w' => e = .returned (.bool (m.testBit i)) ∧ Grew w w' := by
  have HP := Lib.hid (fun w' => r13Power_any i hi w')
  have HR := Lib.hid (show m.testBit i = decide (m / 2 ^ i % 2 = 1) by rw [Nat.testBit_eq_decide_div_mod_eq])
  have hp : 0 < 2 ^ i := Nat.pow_pos (by omega)
  generalize 2 ^ i = q at *
  have hq0 : ((q : Int) == 0) = false := by simp; omega
  have hd : (m : Int).tdiv (q : Int) = ((m / q : Nat) : Int) := by rw [Int.tdiv_eq_ediv_of_nonneg (by omega)]; exact (Int.natCast_ediv m q).symm
  have hle : m / q ≤ m := Nat.div_le_self m q
  have ht : (((m / q : Nat) : Int)).tmod 2 = ((m / q % 2 : Nat) : Int) := by rw [Int.tmod_eq_emod_of_nonneg (Int.natCast_nonneg _)]; exact (Int.natCast_emod (m / q) 2).symm
  generalize m / q = d at *
  have hw : IntKind.i64.wrap (d : Int) = (d : Int) := wrapI _ (by omega) (by omega)
  go_enter Try.func76, Try.ntmps76
  go_wp2_with (first | (go_at_call 55; (with_reducible refine call_later (HP.out _) ?_); intro u) | ((with_reducible refine wp_region_later ?_ ?_ ?_); (· kernel_rfl); (· kernel_rfl); (repeat (go_big_quiet_step ((first | (go_at_call 55; (with_reducible exact call_quiet (HP.out _))))))); refine wpQuiet_nil ?_; rintro _ ⟨u, rfl⟩))
  go_ret
  refine ⟨ret_bool ?_, (by repeat (first | with_reducible exact Grew.refl _ | with_reducible apply Grew.alloc | with_reducible apply Grew.later | with_reducible apply Grew.drew | with_reducible apply Grew.store | with_reducible assumption))⟩
  rw [HR.out]
  by_cases h1 : d % 2 = 1
  · simp [h1]
    omega
  · simp [h1]
    omega
theorem cntF_succ (f a : Nat) : cntF (f + 1) a = a % 2 + cntF f (a / 2) := rfl
theorem cntF_zero : ∀ f, cntF f 0 = 0
  | 0 => rfl
  | f + 1 => by unfold cntF; rw [Nat.zero_div, cntF_zero f]
theorem r13Many_any (m : Nat) (hm : m < 256) (w : World) : Calls Try.prog 77 #[.int .i64 m] w fun e w' => e = .returned (.int .i64 (cntN m)) ∧ Grew w w' := by
  have HC := Lib.hid (show cntN m = cntF 8 m from rfl)
  go_enter Try.func77, Try.ntmps77
  go_wp2
  go_loopw [0, 3] (fun v t wr => ∃ f a c : Nat, v = .int .i64 a ∧ t = .int .i64 c ∧ c + cntF f a = cntN m ∧ a < 2 ^ f ∧ c ≤ 8 ∧ f + c ≤ 8 ∧ a < 256 ∧ Grew w wr) (fun v _ _ => (intOf v).toNat)
  case atStart => exact ⟨8, m, 0, rfl, rfl, by rw [HC.out]; omega, hm, by omega, by omega, hm, (by repeat (first | with_reducible exact Grew.refl _ | with_reducible apply Grew.alloc | with_reducible apply Grew.later | with_reducible apply Grew.drew | with_reducible apply Grew.store | with_reducible assumption))⟩
  case round =>
    obtain ⟨f, a, c, rfl, rfl, hc, ha, hc8, hf, ha8, hg⟩ := hrel
    obtain ⟨y, rfl⟩ := later_of hg
    clear hg
    by_cases h0 : a = 0
    · subst h0
      have Hc := Lib.hid (show (c : Int) = cntN m by rw [← hc, cntF_zero]; omega)
      clear hc ha
      go_wp2
      go_ret
      exact ⟨ret_int Hc.out, (by repeat (first | with_reducible exact Grew.refl _ | with_reducible apply Grew.alloc | with_reducible apply Grew.later | with_reducible apply Grew.drew | with_reducible apply Grew.store | with_reducible assumption))⟩
    · have hpos : (0 : Int) < a := by omega
      obtain ⟨f', rfl⟩ : ∃ f', f = f' + 1 := by
        cases f with
        | zero => simp at ha; omega
        | succ f' => exact ⟨f', rfl⟩
      have Hc := Lib.hid (show c + a % 2 + cntF f' (a / 2) = cntN m by rw [← hc, cntF_succ]; omega)
      have Ha := Lib.hid (show a / 2 < 2 ^ f' by rw [Nat.pow_succ] at ha; omega)
      clear hc ha
      have ht : (a : Int).tmod 2 = ((a % 2 : Nat) : Int) := by rw [Int.tmod_eq_emod_of_nonneg (by omega)]; exact (Int.natCast_emod a 2).symm
      have hd : (a : Int).tdiv 2 = ((a / 2 : Nat) : Int) := by rw [Int.tdiv_eq_ediv_of_nonneg (by omega)]; exact (Int.natCast_ediv a 2).symm
      have hw1 : IntKind.i64.wrap ((c : Int) + ((a % 2 : Nat) : Int)) = ((c + a % 2 : Nat) : Int) := by rw [wrapI _ (by omega) (by omega)]; omega
      have hw2 : IntKind.i64.wrap ((a / 2 : Nat) : Int) = ((a / 2 : Nat) : Int) := wrapI _ (by omega) (by omega)
      go_wp2
      go_roundw
      case rel => exact ⟨f', a / 2, c + a % 2, by first | rfl | go_num | (simp [hd, hw2]; done), by first | rfl | go_num | (simp [ht, hw1]; done), Hc.out, Ha.out, by omega, by omega, by omega, (by repeat (first | with_reducible exact Grew.refl _ | with_reducible apply Grew.alloc | with_reducible apply Grew.later | with_reducible apply Grew.drew | with_reducible apply Grew.store | with_reducible assumption))⟩
      case measure => simp [intOf]; omega
theorem bit_high {m i : Nat} (hm : m < 256) (hi : 12 ≤ i) : m.testBit i = false := by
  apply Nat.testBit_lt_two_pow
  have : 2 ^ 12 ≤ 2 ^ i := Nat.pow_le_pow_right (by omega) hi
  omega
theorem r13Part_any (a b : Nat) (ha : a < 256) (hb : b < 256) (w : World) : Calls Try.prog 78 #[.int .i64 a, .int .i64 b] w fun e w' => e = .returned (.bool (decide (subN a b))) ∧ Grew w w' := by
  have HA := Lib.hid (fun i (hi : i ≤ 12) w' => r13Has_any a i ha hi w')
  have HB := Lib.hid (fun i (hi : i ≤ 12) w' => r13Has_any b i hb hi w')
  go_enter Try.func78, Try.ntmps78
  go_wp2
  go_loopw [5] (fun t wr => ∃ k : Nat, t = .int .i64 k ∧ k ≤ 12 ∧ (∀ i, i < k → a.testBit i = true → b.testBit i = true) ∧ Grew w wr) (fun t _ => 12 - (intOf t).toNat)
  case atStart => exact ⟨0, rfl, by omega, fun i hi => by omega, (by repeat (first | with_reducible exact Grew.refl _ | with_reducible apply Grew.alloc | with_reducible apply Grew.later | with_reducible apply Grew.drew | with_reducible apply Grew.store | with_reducible assumption))⟩
  case round =>
    obtain ⟨k, rfl, hk, hall, hg⟩ := hrel
    obtain ⟨y, rfl⟩ := later_of hg
    clear hg
    have Hall := Lib.hid hall
    clear hall
    by_cases hlt : k < 12
    · have h1 := HA.out k hk
      have h2 := HB.out k hk
      cases e1 : a.testBit k
      all_goals
        cases e2 : b.testBit k
        all_goals
          rw [e1] at h1
          rw [e2] at h2
          have H1 := Lib.hid h1
          have H2 := Lib.hid h2
          clear h1 h2
          go_wp2_with (first | (go_at_call 76; (with_reducible refine call_later (H1.out _) ?_); intro u1) | (go_at_call 76; (with_reducible refine call_later (H2.out _) ?_); intro u2))
          first
            | (go_roundw
               case rel =>
                refine ⟨k + 1, by go_num, by omega, fun i hi hbit => ?_, (by repeat (first | with_reducible exact Grew.refl _ | with_reducible apply Grew.alloc | with_reducible apply Grew.later | with_reducible apply Grew.drew | with_reducible apply Grew.store | with_reducible assumption))⟩
                by_cases e : i = k
                · subst e
                  first | exact e2 | (rw [e1] at hbit; cases hbit)
                · exact Hall.out i (by omega) hbit
               case measure => simp [intOf]; omega)
            | (go_ret
               refine ⟨ret_bool ?_, (by repeat (first | with_reducible exact Grew.refl _ | with_reducible apply Grew.alloc | with_reducible apply Grew.later | with_reducible apply Grew.drew | with_reducible apply Grew.store | with_reducible assumption))⟩
               symm
               rw [decide_eq_false_iff_not, subN_bit]
               intro h
               have := h k e1
               rw [e2] at this
               cases this)
    · obtain rfl : k = 12 := by omega
      go_wp2
      go_ret
      refine ⟨ret_bool ?_, (by repeat (first | with_reducible exact Grew.refl _ | with_reducible apply Grew.alloc | with_reducible apply Grew.later | with_reducible apply Grew.drew | with_reducible apply Grew.store | with_reducible assumption))⟩
      symm
      rw [decide_eq_true_eq, subN_bit]
      intro i hbit
      by_cases hi : i < 12
      · exact Hall.out i hi hbit
      · rw [bit_high ha (by omega)] at hbit
        cases hbit
theorem meet_bit {a b : Nat} : (b &&& a ≠ 0) ↔ ∃ i, a.testBit i = true ∧ b.testBit i = true := by
  constructor
  · intro h
    obtain ⟨i, hi⟩ := Nat.exists_testBit_of_ne_zero h
    rw [Nat.testBit_and, Bool.and_eq_true] at hi
    exact ⟨i, hi.2, hi.1⟩
  · rintro ⟨i, h1, h2⟩ h
    have := congrArg (·.testBit i) h
    simp [Nat.testBit_and, h1, h2] at this
theorem r13Meet_any (a b : Nat) (ha : a < 256) (hb : b < 256) (w : World) : Calls Try.prog 56 #[.int .i64 a, .int .i64 b] w fun e w' => e = .returned (.bool (decide (b &&& a ≠ 0))) ∧ Grew w w' := by
  have HA := Lib.hid (fun i (hi : i ≤ 12) w' => r13Has_any a i ha hi w')
  have HB := Lib.hid (fun i (hi : i ≤ 12) w' => r13Has_any b i hb hi w')
  go_enter Try.func56, Try.ntmps56
  go_wp2
  go_loopw [5] (fun t wr => ∃ k : Nat, t = .int .i64 k ∧ k ≤ 12 ∧ (∀ i, i < k → a.testBit i = true → b.testBit i = false) ∧ Grew w wr) (fun t _ => 12 - (intOf t).toNat)
  case atStart => exact ⟨0, rfl, by omega, fun i hi => by omega, (by repeat (first | with_reducible exact Grew.refl _ | with_reducible apply Grew.alloc | with_reducible apply Grew.later | with_reducible apply Grew.drew | with_reducible apply Grew.store | with_reducible assumption))⟩
  case round =>
    obtain ⟨k, rfl, hk, hall, hg⟩ := hrel
    obtain ⟨y, rfl⟩ := later_of hg
    clear hg
    have Hall := Lib.hid hall
    clear hall
    by_cases hlt : k < 12
    · have h1 := HA.out k hk
      have h2 := HB.out k hk
      cases e1 : a.testBit k
      all_goals
        cases e2 : b.testBit k
        all_goals
          rw [e1] at h1
          rw [e2] at h2
          have H1 := Lib.hid h1
          have H2 := Lib.hid h2
          clear h1 h2
          go_wp2_with (first | (go_at_call 76; (with_reducible refine call_later (H1.out _) ?_); intro u1) | (go_at_call 76; (with_reducible refine call_later (H2.out _) ?_); intro u2))
          first
            | (go_roundw
               case rel =>
                refine ⟨k + 1, by go_num, by omega, fun i hi hbit => ?_, (by repeat (first | with_reducible exact Grew.refl _ | with_reducible apply Grew.alloc | with_reducible apply Grew.later | with_reducible apply Grew.drew | with_reducible apply Grew.store | with_reducible assumption))⟩
                by_cases e : i = k
                · subst e
                  first | exact e2 | (rw [e1] at hbit; cases hbit)
                · exact Hall.out i (by omega) hbit
               case measure => simp [intOf]; omega)
            | (go_ret
               refine ⟨ret_bool ?_, (by repeat (first | with_reducible exact Grew.refl _ | with_reducible apply Grew.alloc | with_reducible apply Grew.later | with_reducible apply Grew.drew | with_reducible apply Grew.store | with_reducible assumption))⟩
               symm
               rw [decide_eq_true_eq, meet_bit]
               exact ⟨k, e1, e2⟩)
    · obtain rfl : k = 12 := by omega
      go_wp2
      go_ret
      refine ⟨ret_bool ?_, (by repeat (first | with_reducible exact Grew.refl _ | with_reducible apply Grew.alloc | with_reducible apply Grew.later | with_reducible apply Grew.drew | with_reducible apply Grew.store | with_reducible assumption))⟩
      symm
      rw [decide_eq_false_iff_not, meet_bit]
      rintro ⟨i, h1, h2⟩
      by_cases hi : i < 12
      · rw [Hall.out i hi h1] at h2
        cases h2
      · rw [bit_high ha (by omega)] at h1
        cases h1
end Go.Proofs.Ytgjikdhidakloaa
