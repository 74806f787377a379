/-
  ullageref04.Slots hands back the same slots as ascent.Slots; and the law AscentWindows' callees together.
-/
import Derived.Test.YtdanaclplmacgaaSlots
namespace Go.Proofs.Ytdanaclplmacgaa
open Go.RowKit
set_option maxRecDepth 100000

theorem slotsUpto_nil (P F L a z : Int) (k : Nat) (h : ∀ j : Nat, j < k → ¬ (slotAt P F L a z j).1 < (slotAt P F L a z j).2) : slotsUpto P F L a z k = [] := by
  induction k with
  | zero => rfl
  | succ k ih => rw [slotsUpto_succ_no _ _ _ _ _ _ (h k (by omega)), ih (fun j hj => h j (by omega))]
theorem slotsAll_nil (P F L a z : Int) (h : ∀ j : Nat, ¬ (slotAt P F L a z j).1 < (slotAt P F L a z j).2) : slotsAll P F L a z = [] := slotsUpto_nil _ _ _ _ _ _ fun j _ => h j
theorem slotsFull_self (P F L z : Int) : slotsFull P F L z z = [] := by
  unfold slotsFull
  rw [if_neg (by omega)]
  exact slotsAll_nil _ _ _ _ _ fun j => by simp only [slotAt]; split <;> split <;> omega
/-- All slots but the first one. -/
theorem slotsUpto_shift (P F L a c z : Int) (d : Nat) (h : ∀ j : Nat, (slotAt P F L a z (j + 1) = slotAt P F L c z (j + d)) ∨ (¬ (slotAt P F L a z (j + 1)).1 < (slotAt P F L a z (j + 1)).2 ∧ ¬ (slotAt P F L c z (j + d)).1 < (slotAt P F L c z (j + d)).2)) (k : Nat) :
    slotsUpto P F L a z (k + 1) ++ [] = slotsUpto P F L a z 1 ++ slotsUpto P F L c z (k + d) ∨ slotsUpto P F L c z d ≠ [] := by
  by_cases hd : slotsUpto P F L c z d = []
  · left
    induction k with
    | zero => simp [hd]
    | succ k ih =>
      rw [List.append_nil] at *
      rw [slotsUpto, ih, show k + 1 + d = (k + d) + 1 by omega]
      rcases h k with h | ⟨h1, h2⟩
      · rw [h, List.append_assoc]; rfl
      · rw [if_neg h1, List.append_nil, slotsUpto_succ_no _ _ _ _ _ _ h2]
  · exact .inr hd
theorem mul_succ_cast (k : Nat) (P : Int) : ((k + 1 : Nat) : Int) * P = k * P + P := by rw [Int.natCast_add, Int.add_mul]; simp
theorem slotAt_zero (P F L a z : Int) (hP : 1 ≤ P) : slotAt P F L a z 0 = (a, if z < slotB0 P F a + L then z else slotB0 P F a + L) := by
  have := b0_bd P F a hP
  simp only [slotAt, Int.natCast_zero, Int.zero_mul, Int.add_zero]
  rw [Prod.mk.injEq]
  exact ⟨by split <;> omega, rfl⟩
/-- The slots from a time on: up to the next change, then from there on. -/
theorem slotsFull_step (P F L a z : Int) (hP : 1 ≤ P) (hL : 0 ≤ L) (hL2 : L ≤ P) (ha : -1152921504606846976 ≤ a) (hz : z ≤ 1152921504606846976) (haz : a < z) (e : Int) (he : e = if z < a + changeZ P F L a then z else a + changeZ P F L a) :
    slotsFull P F L a z = (if (a - F) % P < L then [(a, e)] else []) ++ slotsFull P F L e z := by
  have h5 := Int.emod_nonneg (a - F) (show P ≠ 0 by omega)
  have h6 := Int.emod_lt_of_pos (a - F) (show 0 < P by omega)
  by_cases h0 : L = 0 ∨ L = P
  · have hc : changeZ P F L a = 2305843009213693952 := by simp [changeZ, h0]
    have hez : e = z := by rw [he, hc]; split <;> omega
    rw [hez, slotsFull_self, List.append_nil]
    rcases h0 with h0 | h0
    · rw [if_neg (by omega)]
      unfold slotsFull
      rw [if_neg (by omega)]
      exact slotsUpto_empty _ _ _ _ _ (by omega) _
    · rw [if_pos (by omega)]
      unfold slotsFull
      rw [if_pos ⟨h0, haz⟩]
  · have hc : changeZ P F L a = if (a - F) % P < L then L - (a - F) % P else P - (a - F) % P := by simp [changeZ, h0]
    have hne : ¬ L = P := fun h => h0 (.inr h)
    have hne0 : ¬ L = 0 := fun h => h0 (.inl h)
    have hfull : ∀ x, slotsFull P F L x z = slotsAll P F L x z := fun x => by unfold slotsFull; rw [if_neg (fun h => hne h.1)]
    rw [hfull, hfull]
    have hb : ∀ j : Nat, (0 : Int) ≤ j * P := fun j => Int.mul_nonneg (by omega) (by omega)
    have h1 : slotsUpto P F L a z 1 = if (slotAt P F L a z 0).1 < (slotAt P F L a z 0).2 then [slotAt P F L a z 0] else [] := by simp [slotsUpto]
    have hbig : ∀ (x : Int), ∃ k : Nat, z ≤ slotB0 P F x + k * P := fun x => ⟨_, slots_end P F x z hP⟩
    have hadd : ∀ (j : Nat) (c : Int), c ≤ slotB0 P F a + j * P → c ≤ slotB0 P F a + ((j + 1 : Nat) : Int) * P := fun j c h => by rw [mul_succ_cast]; omega
    obtain ⟨k, hk⟩ := hbig a
    have hall : slotsAll P F L a z = slotsUpto P F L a z (k + 1) := slotsAll_eq P F L a z (k + 1) hP (hadd k z hk)
    by_cases hin : (a - F) % P < L
    · rw [if_pos hin] at hc ⊢
      rw [hall]
      by_cases hez : z < a + changeZ P F L a
      · rw [if_pos hez] at he
        subst he
        rw [show slotsAll P F L e e = [] by rw [← hfull]; exact slotsFull_self _ _ _ _, List.append_nil, slotsUpto_stable P F L a e 1 (k + 1) hP (by simp only [slotB0]; omega) (by omega), h1]
        have : slotAt P F L a e 0 = (a, e) := by rw [slotAt_zero _ _ _ _ _ hP, if_pos (by unfold slotB0; omega)]
        rw [this, if_pos haz]
      · rw [if_neg hez] at he
        have hmod : (e - F) % P = L := by
          have : e - F = (a - F) / P * P + L := by have := Int.mul_ediv_add_emod (a - F) P; rw [Int.mul_comm] at this; omega
          rw [this, Int.add_comm, Int.add_mul_emod_self_right]
          exact Int.emod_eq_of_lt hL (by omega)
        have hb0 : slotB0 P F e = slotB0 P F a := by unfold slotB0; omega
        have hbe : slotB0 P F a + L = e := by unfold slotB0; omega
        have hba := b0_bd P F a hP
        have := slotsUpto_shift P F L a e z 1 (fun j => by
          left
          have hj := hb j
          simp only [slotAt, hb0, mul_succ_cast]
          rw [if_neg (show ¬ slotB0 P F a + (j * P + P) < a by omega), if_neg (show ¬ slotB0 P F a + (j * P + P) < e by omega)]) k
        rcases this with this | this
        · rw [List.append_nil] at this
          rw [this, slotsAll_eq P F L e z (k + 1) hP (by rw [hb0]; exact hadd k z hk)]
          congr 1
          rw [h1]
          have : slotAt P F L a z 0 = (a, e) := by rw [slotAt_zero _ _ _ _ _ hP, Prod.mk.injEq]; exact ⟨rfl, by split <;> omega⟩
          rw [this, if_pos (by omega)]
        · exfalso
          apply this
          have h : ¬ (slotAt P F L e z 0).1 < (slotAt P F L e z 0).2 := by rw [slotAt_zero _ _ _ _ _ hP, hb0]; dsimp only; split <;> omega
          simp [slotsUpto, h]
    · rw [if_neg hin] at hc ⊢
      rw [hall, List.nil_append]
      have h10 : slotsUpto P F L a z 1 = [] := by
        rw [h1, if_neg]
        rw [slotAt_zero _ _ _ _ _ hP]
        have hbb : slotB0 P F a = a - (a - F) % P := rfl
        dsimp only
        split <;> omega
      by_cases hez : z < a + changeZ P F L a
      · rw [if_pos hez] at he
        subst he
        rw [show slotsAll P F L e e = [] by rw [← hfull]; exact slotsFull_self _ _ _ _, slotsUpto_stable P F L a e 1 (k + 1) hP (by simp only [slotB0]; omega) (by omega), h10]
      · rw [if_neg hez] at he
        have hbe : slotB0 P F a + P = e := by unfold slotB0; omega
        have hmod : (e - F) % P = 0 := by
          have : e - F = ((a - F) / P + 1) * P := by have := Int.mul_ediv_add_emod (a - F) P; rw [Int.mul_comm] at this; rw [Int.add_mul]; omega
          rw [this]
          exact Int.mul_emod_left _ _
        have hb0 : slotB0 P F e = slotB0 P F a + P := by unfold slotB0 at *; omega
        have := slotsUpto_shift P F L a e z 0 (fun j => by
          left
          have hj := hb j
          have hba := b0_bd P F a hP
          simp only [slotAt, hb0, mul_succ_cast, Nat.add_zero]
          rw [show slotB0 P F a + (j * P + P) = slotB0 P F a + P + j * P by omega, if_neg (show ¬ slotB0 P F a + P + j * P < a by omega), if_neg (show ¬ slotB0 P F a + P + j * P < e by omega)]) k
        rcases this with this | this
        · rw [List.append_nil, h10, List.nil_append, Nat.add_zero] at this
          rw [this, slotsAll_eq P F L e z k hP (by rw [hb0]; omega)]
          rfl
        · exact absurd rfl this

theorem slotsFull_past (P F L a z : Int) (h : z ≤ a) : slotsFull P F L a z = [] := by
  unfold slotsFull
  rw [if_neg (by omega)]
  exact slotsAll_nil _ _ _ _ _ fun j => by simp only [slotAt]; split <;> split <;> omega

set_option maxHeartbeats 1000000 in
theorem refSlots_bad (P F L a z : Int) (w : World) (h : slotsArg P F L a z = false) :
    Calls Try.prog 15 #[.agg #[.int .i64 P, .int .i64 F, .int .i64 L], .int .i64 a, .int .i64 z] w (RetSl 2 [] w) := by
  unfold slotsArg at h
  cases h1 : validB P F L <;> cases h2 : limB a <;> cases h3 : limB z <;> cases h4 : decide (a ≤ z) <;> rw [h1, h2, h3, h4] at h <;> simp at h <;> clear h
  all_goals
    go_enter Try.func15, Try.ntmps15
    go_wp2_with (first | (go_at_call 69; (with_reducible refine call_later (window_any _ _ _ _) ?_); intro u) | (go_at_call 70; (with_reducible refine call_later (is_bool h2 (time_any a _)) ?_); intro u) | (go_at_call 70; (with_reducible refine call_later (is_bool h3 (time_any z _)) ?_); intro u) | (refine wp_region_later (by kernel_rfl) (by kernel_rfl) ?_; (repeat (go_big_quiet_step ((first | (go_at_call 69; (with_reducible exact call_quiet (window_any _ _ _ _))) | (go_at_call 70; (with_reducible exact call_quiet (is_bool h2 (time_any a _)))) | (go_at_call 70; (with_reducible exact call_quiet (is_bool h3 (time_any z _)))))))); refine wpQuiet_nil ?_; rintro _ ⟨u, rfl⟩))
    go_ret2
    exact RetSl.none rfl rfl (by repeat (first | exact Grew.refl _ | apply Grew.alloc | apply Grew.later | apply Grew.drew))

def fullCode (P F L a z : Int) : Int := if (slotsFull P F L a z).length ≤ 4096 then 0 else 3
def fullList (P F L a z : Int) : List (Int × Int) := if (slotsFull P F L a z).length ≤ 4096 then slotsFull P F L a z else []
set_option maxHeartbeats 1000000 in
theorem refSlots_run (P F L a z : Int) (w : World) (h1 : validB P F L = true) (h2 : limB a = true) (h3 : limB z = true) (h4 : a ≤ z) :
    Calls Try.prog 15 #[.agg #[.int .i64 P, .int .i64 F, .int .i64 L], .int .i64 a, .int .i64 z] w
      (RetSl (fullCode P F L a z) (fullList P F L a z) w) := by
  obtain ⟨hP, hP2, hF1, hF2, hL, hL2⟩ := (validB_iff P F L).1 h1
  have ha : -1152921504606846976 ≤ a ∧ a ≤ 1152921504606846976 := by simpa [limB] using h2
  have hz : -1152921504606846976 ≤ z ∧ z ≤ 1152921504606846976 := by simpa [limB] using h3
  obtain ⟨ha1, ha2⟩ := ha
  obtain ⟨hz1, hz2⟩ := hz
  obtain ⟨i0, hi, hz0, hzz1, hzz2⟩ := info_parts infoSlot
  clear hF1 hF2
  go_enter Try.func15, Try.ntmps15
  go_wp2_with (first | (go_at_call 69; (with_reducible refine call_later (window_any _ _ _ _) ?_); intro u) | (go_at_call 70; (with_reducible refine call_later (is_bool h2 (time_any a _)) ?_); intro u) | (go_at_call 70; (with_reducible refine call_later (is_bool h3 (time_any z _)) ?_); intro u) | (refine wp_region_later (by kernel_rfl) (by kernel_rfl) ?_; (repeat (go_big_quiet_step ((first | (go_at_call 69; (with_reducible exact call_quiet (window_any _ _ _ _))) | (go_at_call 70; (with_reducible exact call_quiet (is_bool h2 (time_any a _)))) | (go_at_call 70; (with_reducible exact call_quiet (is_bool h3 (time_any z _)))))))); refine wpQuiet_nil ?_; rintro _ ⟨u, rfl⟩))
  go_loopw [10, 11] (fun v t wr => ∃ (b : Int) (xs : List (Int × Int)), t = .int .i64 b ∧ a ≤ b ∧ b ≤ z ∧ slotsFull P F L a z = xs ++ slotsFull P F L b z ∧ xs.length ≤ 4096 ∧ wr.ownsRow u.world.heap.size 123 2 v xs.length (slotCells xs) ∧ Grew u.world wr) (fun _ t _ => (z - intOf t).toNat)
  case atStart => exact ⟨a, [], rfl, by omega, by omega, rfl, by simp, World.ownsRow_nil _ _ _ _, Grew.refl _⟩
  case round =>
    obtain ⟨b, xs, rfl, hb1, hb2, hfl, hlen, hown, hg⟩ := hrel
    obtain ⟨x, rfl⟩ := later_of hg
    clear hg
    obtain ⟨ao, cap, rfl⟩ := owns_form hown
    have Hfl := Lib.hid hfl
    clear hfl
    by_cases hlt : b < z
    · have hch : 1 ≤ changeZ P F L b ∧ changeZ P F L b ≤ 2305843009213693952 := by
        have h5 := Int.emod_nonneg (b - F) (show P ≠ 0 by omega)
        have h6 := Int.emod_lt_of_pos (b - F) (show 0 < P by omega)
        unfold changeZ; (repeat' split) <;> omega
      have hstep := fun e he => slotsFull_step P F L b z hP hL hL2 (by omega) hz2 hlt e he
      obtain ⟨hc1, hc2⟩ := hch
      have hce : ∃ c, changeZ P F L b = c := ⟨_, rfl⟩
      obtain ⟨c, hc⟩ := hce
      rw [hc] at hstep hc1 hc2
      obtain ⟨e, he⟩ : ∃ e, e = if z < b + c then z else b + c := ⟨_, rfl⟩
      have Hstep := Lib.hid (hstep e he)
      have he1 : b < e ∧ e ≤ z := by rw [he]; split <;> omega
      obtain ⟨he1, he2⟩ := he1
      clear hstep
      have hcd := change_any P F L b
      obtain ⟨p, hp⟩ : ∃ p, decide ((b - F) % P < L) = p := ⟨_, rfl⟩
      have hcon : ∀ W, Calls Try.prog 72 #[.agg #[.int .i64 P, .int .i64 F, .int .i64 L], .int .i64 b] W fun e w' => e = .returned (.int .i64 c) ∧ Grew W w' := fun W => by rw [← hc]; exact change_any P F L b W hP hP2 hL hL2
      have hhas : ∀ W, Calls Try.prog 71 #[.agg #[.int .i64 P, .int .i64 F, .int .i64 L], .int .i64 b] W fun e w' => e = .returned (.bool p) ∧ Grew W w' := fun W => by rw [← hp]; exact has_any P F L b W hP hP2
      have Hcon := Lib.hid hcon
      have Hhas := Lib.hid hhas
      have Hp := Lib.hid hp
      clear hcon hhas hcd hc hp
      have hbc : (z < b + c ∧ e = z) ∨ (¬ z < b + c ∧ e = b + c) := by rw [he]; split <;> omega
      clear he
      rcases hbc with ⟨hbc, hez⟩ | ⟨hbc, hez⟩
      all_goals
        have Hez := Lib.hid hez
        clear hez
        cases p
        · have hno : ¬ (b - F) % P < L := by simpa using Hp.out
          go_wp2_with (first | (go_at_call 72; (with_reducible refine call_later (Hcon.out _) ?_); intro u) | (go_at_call 71; (with_reducible refine call_later (Hhas.out _) ?_); intro u) | (refine wp_region_later (by kernel_rfl) (by kernel_rfl) ?_; (repeat (go_big_quiet_step ((first | (go_at_call 72; (with_reducible exact call_quiet (Hcon.out _))) | (go_at_call 71; (with_reducible exact call_quiet (Hhas.out _))))))); refine wpQuiet_nil ?_; rintro _ ⟨u, rfl⟩))
          go_roundw
          case rel =>
            refine ⟨e, xs, by rw [Hez.out], by omega, by omega, ?_, hlen, owns_grew hown (by repeat (first | exact Grew.refl _ | apply Grew.alloc | apply Grew.later | apply Grew.drew)), x.grew.trans (by repeat (first | exact Grew.refl _ | apply Grew.alloc | apply Grew.later | apply Grew.drew))⟩
            rw [Hfl.out, Hstep.out, if_neg (by omega), List.nil_append]
          case measure => have := Hez.out; simp [intOf]; omega
        · have hyes : (b - F) % P < L := by simpa using Hp.out
          by_cases hfull : xs.length = 4096
          · go_wp2_with (first | (go_at_call 72; (with_reducible refine call_later (Hcon.out _) ?_); intro u) | (go_at_call 71; (with_reducible refine call_later (Hhas.out _) ?_); intro u) | (refine wp_region_later (by kernel_rfl) (by kernel_rfl) ?_; (repeat (go_big_quiet_step ((first | (go_at_call 72; (with_reducible exact call_quiet (Hcon.out _))) | (go_at_call 71; (with_reducible exact call_quiet (Hhas.out _))))))); refine wpQuiet_nil ?_; rintro _ ⟨u, rfl⟩))
            go_ret2
            have h5 : ¬ (slotsFull P F L a z).length ≤ 4096 := by
              rw [Hfl.out, Hstep.out, if_pos hyes]
              simp
              omega
            have h6 : fullCode P F L a z = 3 := by simp [fullCode, h5]
            have h7 : fullList P F L a z = [] := by simp [fullList, h5]
            rw [h6, h7]
            exact RetSl.none rfl rfl (by repeat (first | exact Grew.refl _ | apply Grew.alloc | apply Grew.later | apply Grew.drew))
          · go_wp2_with (first | (go_at_call 72; (with_reducible refine call_later (Hcon.out _) ?_); intro u) | (go_at_call 71; (with_reducible refine call_later (Hhas.out _) ?_); intro u) | (at_builtin; have hgx : Grew x.world u.world := (by repeat (first | exact Grew.refl _ | apply Grew.alloc | apply Grew.later | apply Grew.drew)); have hsz := Below.size (x.grew.trans hgx); have hown1 := owns_grew hown hgx; refine wpList_append_own _ rfl _ _ 24 rfl _ 123 i0 (.agg #[.int .i64 0, .int .i64 0]) 2 16 Try.underlying24 hi hz0 hzz1 hzz2 rfl (by decide) _ _ _ rfl (hown1.alloc _) ⟨u.world.heap.size, 0, none⟩ 1 1 [.int .i64 b, .int .i64 _] rfl rfl (cells_new _ [.int .i64 _, .int .i64 _] _) (by simp [Value.oneCell']) (by simp [maxLen]; omega) (by omega) (by simp; omega) ?_; intro v' w1 hown' hgrow _; obtain ⟨x1, rfl⟩ := later_of (Grew.append ((x.grew.trans hgx).alloc _) (hown1.alloc _) (Nat.le_refl _) hgrow)) | (refine wp_region_later (by kernel_rfl) (by kernel_rfl) ?_; (repeat (go_big_quiet_step ((first | (go_at_call 72; (with_reducible exact call_quiet (Hcon.out _))) | (go_at_call 71; (with_reducible exact call_quiet (Hhas.out _))))))); refine wpQuiet_nil ?_; rintro _ ⟨u, rfl⟩))
            go_roundw
            case rel =>
              refine ⟨e, xs ++ [(b, e)], by rw [Hez.out], by omega, by omega, ?_, by simp; omega, ?_, x1.grew⟩
              · rw [Hfl.out, Hstep.out, if_pos hyes, List.append_assoc]
              · rw [slotCells_append, List.length_append, Hez.out]; exact hown'
            case measure => have := Hez.out; simp [intOf]; omega
    · go_wp2
      go_ret2
      have h6 : slotsFull P F L a z = xs := by rw [Hfl.out, slotsFull_past _ _ _ _ _ (by omega), List.append_nil]
      rw [show fullCode P F L a z = 0 by simp [fullCode, h6, hlen], show fullList P F L a z = xs by simp [fullList, h6, hlen]]
      exact ⟨_, rfl, SlAt.of_owns hown, (by repeat (first | exact Grew.refl _ | apply Grew.alloc | apply Grew.later | apply Grew.drew))⟩
end Go.Proofs.Ytdanaclplmacgaa
