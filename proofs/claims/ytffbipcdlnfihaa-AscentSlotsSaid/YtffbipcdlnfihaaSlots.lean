/-
  ascent.Slots and ullageref04.Slots: both hand back the same slots (plain definitions 'slotsUpto', 'slotsAll', 'slotsList').
-/
import Derived.Test.YtffbipcdlnfihaaTimes
import Derived.Test.YtffbipcdlnfihaaCore
namespace Go.Proofs.Ytffbipcdlnfihaa
open Go.RowKit
set_option maxRecDepth 100000

def slotB0 (P F a : Int) : Int := a - (a - F) % P
def slotAt (P F L a z : Int) (k : Nat) : Int × Int := (if slotB0 P F a + k * P < a then a else slotB0 P F a + k * P, if z < slotB0 P F a + k * P + L then z else slotB0 P F a + k * P + L)
def slotsUpto (P F L a z : Int) : Nat → List (Int × Int)
  | 0 => []
  | k + 1 => slotsUpto P F L a z k ++ (if (slotAt P F L a z k).1 < (slotAt P F L a z k).2 then [slotAt P F L a z k] else [])
def slotsAll (P F L a z : Int) : List (Int × Int) := slotsUpto P F L a z (z - slotB0 P F a).toNat
def slotsFull (P F L a z : Int) : List (Int × Int) := if L = P ∧ a < z then [(a, z)] else slotsAll P F L a z
def slotsArg (P F L a z : Int) : Bool := validB P F L && limB a && limB z && decide (a ≤ z)
def slotsCode (P F L a z : Int) : Int := if slotsArg P F L a z = true then (if (slotsFull P F L a z).length ≤ 4096 then 0 else 3) else 2
def slotsList (P F L a z : Int) : List (Int × Int) := if slotsCode P F L a z = 0 then slotsFull P F L a z else []
def slotCells (l : List (Int × Int)) : List Value := l.flatMap fun s => [.int .i64 s.1, .int .i64 s.2]
theorem slotCells_append (l m : List (Int × Int)) : slotCells (l ++ m) = slotCells l ++ slotCells m := by simp [slotCells]
theorem slotCells_length (l : List (Int × Int)) : (slotCells l).length = l.length * 2 := by
  induction l with
  | nil => rfl
  | cons s l ih => rw [← List.singleton_append, slotCells_append, List.length_append, ih]; simp [slotCells]; omega

theorem slotsUpto_succ_no (P F L a z : Int) (k : Nat) (h : ¬ (slotAt P F L a z k).1 < (slotAt P F L a z k).2) : slotsUpto P F L a z (k + 1) = slotsUpto P F L a z k := by
  simp [slotsUpto, h]
theorem slotsUpto_succ_yes (P F L a z : Int) (k : Nat) (h : (slotAt P F L a z k).1 < (slotAt P F L a z k).2) : slotsUpto P F L a z (k + 1) = slotsUpto P F L a z k ++ [slotAt P F L a z k] := by
  simp [slotsUpto, h]
theorem slot_past (P F L a z : Int) (k j : Nat) (hP : 1 ≤ P) (hk : z ≤ slotB0 P F a + k * P) (hj : k ≤ j) : ¬ (slotAt P F L a z j).1 < (slotAt P F L a z j).2 := by
  have h : (k : Int) * P ≤ j * P := Int.mul_le_mul_of_nonneg_right (by omega) (by omega)
  simp only [slotAt]
  split <;> split <;> omega
theorem slotsUpto_stable (P F L a z : Int) (k j : Nat) (hP : 1 ≤ P) (hk : z ≤ slotB0 P F a + k * P) (hj : k ≤ j) : slotsUpto P F L a z j = slotsUpto P F L a z k := by
  induction j with
  | zero => rw [show k = 0 by omega]
  | succ j ih =>
    by_cases h : k = j + 1
    · rw [h]
    · rw [slotsUpto_succ_no _ _ _ _ _ _ (slot_past P F L a z k j hP hk (by omega)), ih (by omega)]
theorem slots_end (P F a z : Int) (hP : 1 ≤ P) : z ≤ slotB0 P F a + ((z - slotB0 P F a).toNat : Int) * P := by
  have h : ((z - slotB0 P F a).toNat : Int) * 1 ≤ (z - slotB0 P F a).toNat * P := Int.mul_le_mul_of_nonneg_left hP (by omega)
  omega
theorem slotsAll_eq (P F L a z : Int) (k : Nat) (hP : 1 ≤ P) (hk : z ≤ slotB0 P F a + k * P) : slotsAll P F L a z = slotsUpto P F L a z k := by
  unfold slotsAll
  rcases Nat.le_total k (z - slotB0 P F a).toNat with h | h
  · exact slotsUpto_stable P F L a z k _ hP hk h
  · exact (slotsUpto_stable P F L a z _ k hP (slots_end P F a z hP) h).symm
theorem slotsUpto_len (P F L a z : Int) (k j : Nat) (h : k ≤ j) : (slotsUpto P F L a z k).length ≤ (slotsUpto P F L a z j).length := by
  induction j with
  | zero => rw [show k = 0 by omega]; exact Nat.le_refl _
  | succ j ih =>
    by_cases hk : k = j + 1
    · rw [hk]; exact Nat.le_refl _
    · refine Nat.le_trans (ih (by omega)) ?_
      simp [slotsUpto]
theorem slotsAll_len (P F L a z : Int) (k : Nat) (hP : 1 ≤ P) : (slotsUpto P F L a z k).length ≤ (slotsAll P F L a z).length := by
  unfold slotsAll
  rcases Nat.le_total k (z - slotB0 P F a).toNat with h | h
  · exact slotsUpto_len P F L a z k _ h
  · rw [slotsUpto_stable P F L a z _ k hP (slots_end P F a z hP) h]; exact Nat.le_refl _
theorem slotsUpto_empty (P F L a z : Int) (hL : L ≤ 0) (k : Nat) : slotsUpto P F L a z k = [] := by
  induction k with
  | zero => rfl
  | succ k ih => rw [slotsUpto_succ_no _ _ _ _ _ _ (by simp only [slotAt]; split <;> split <;> omega), ih]
theorem b0_bd (P F a : Int) (hP : 1 ≤ P) : slotB0 P F a ≤ a ∧ a < slotB0 P F a + P := by
  have h5 := Int.emod_nonneg (a - F) (show P ≠ 0 by omega)
  have h6 := Int.emod_lt_of_pos (a - F) (show 0 < P by omega)
  unfold slotB0; omega

/-- What Slots hands back. -/
def RetSl (c : Int) (l : List (Int × Int)) (w : World) (e : Ending) (w' : World) : Prop :=
  ∃ v, e = .returned (.tuple #[v, .int .i64 c]) ∧ SlAt w' v l.length (slotCells l) ∧ Grew w w'
theorem RetSl.none {c : Int} {w w' : World} {v : Value} {k : Value} (hv : v = .slice none 0 0) (hk : k = .int .i64 c) (g : Grew w w') : RetSl c [] w (.returned (.tuple #[v, k])) w' :=
  ⟨v, by rw [hk], by rw [hv]; exact SlAt.nil _, g⟩

theorem infoSlot : (Try.prog.info? 66).map (fun i => (i.zero, i.size, i.bytes)) = some (some (.agg #[.int .i64 0, .int .i64 0]), 2, 16) := by kernel_rfl

theorem slots_bad (P F L a z : Int) (w : World) (h : slotsArg P F L a z = false) :
    Calls Try.prog 9 #[.agg #[.int .i64 P, .int .i64 F, .int .i64 L], .int .i64 a, .int .i64 z] w (RetSl 2 [] w) := by
  unfold slotsArg at h
  cases h1 : validB P F L <;> cases h2 : limB a <;> cases h3 : limB z <;> by_cases h4 : a ≤ z <;> simp [h1, h2, h3, h4] at h
  all_goals
    go_enter Try.func9, Try.ntmps9
    go_wp2_with (first | (go_at_call 18; (with_reducible refine call_later (valid_any _ _ _ _) ?_); intro u) | (go_at_call 19; (with_reducible refine call_later (limited_any _ _) ?_); intro u) | ((with_reducible refine wp_region_later ?_ ?_ ?_); (· kernel_rfl); (· kernel_rfl); (try simp only [List.append_eq, List.cons_append, List.nil_append]); (repeat (go_big_quiet_step ((first | (go_at_call 18; (with_reducible exact call_quiet (valid_any _ _ _ _))) | (go_at_call 19; (with_reducible exact call_quiet (limited_any _ _))))))); refine wpQuiet_nil ?_; rintro _ ⟨u, rfl⟩))
    go_ret2
    exact RetSl.none rfl rfl (by repeat (first | exact Grew.refl _ | apply Grew.alloc | apply Grew.later))

theorem slots_full (P F L a z : Int) (w : World) (h1 : validB P F L = true) (h2 : limB a = true) (h3 : limB z = true) (h5 : L = P) (h6 : a < z) :
    Calls Try.prog 9 #[.agg #[.int .i64 P, .int .i64 F, .int .i64 L], .int .i64 a, .int .i64 z] w (RetSl 0 [(a, z)] w) := by
  have h7 : (L == P) = true := by simp [h5]
  clear h5
  go_enter Try.func9, Try.ntmps9
  go_wp2_with (first | (go_at_call 18; (with_reducible refine call_later (valid_any _ _ _ _) ?_); intro u) | (go_at_call 19; (with_reducible refine call_later (limited_any _ _) ?_); intro u) | ((with_reducible refine wp_region_later ?_ ?_ ?_); (· kernel_rfl); (· kernel_rfl); (try simp only [List.append_eq, List.cons_append, List.nil_append]); (repeat (go_big_quiet_step ((first | (go_at_call 18; (with_reducible exact call_quiet (valid_any _ _ _ _))) | (go_at_call 19; (with_reducible exact call_quiet (limited_any _ _))))))); refine wpQuiet_nil ?_; rintro _ ⟨u, rfl⟩))
  go_ret2
  refine ⟨_, rfl, ⟨_, _, rfl, by simp [maxLen], fun i x hx => ?_⟩, by repeat (first | exact Grew.refl _ | apply Grew.alloc | apply Grew.later)⟩
  refine ⟨_, _, rfl, ?_⟩
  match i, hx with
  | 0, hx => simp [slotCells] at hx; subst hx; simp
  | 1, hx => simp [slotCells] at hx; subst hx; simp

def allCode (P F L a z : Int) : Int := if (slotsAll P F L a z).length ≤ 4096 then 0 else 3
def allList (P F L a z : Int) : List (Int × Int) := if (slotsAll P F L a z).length ≤ 4096 then slotsAll P F L a z else []
set_option maxHeartbeats 1000000 in
theorem slots_run (P F L a z : Int) (w : World) (h1 : validB P F L = true) (h2 : limB a = true) (h3 : limB z = true) (h4 : a ≤ z) (h5 : ¬ (L = P ∧ a < z)) :
    Calls Try.prog 9 #[.agg #[.int .i64 P, .int .i64 F, .int .i64 L], .int .i64 a, .int .i64 z] w
      (RetSl (allCode P F L a z) (allList P F L a z) w) := by
  obtain ⟨hP, hP2, hF1, hF2, hL, hL2⟩ := (validB_iff P F L).1 h1
  have ha : -1152921504606846976 ≤ a ∧ a ≤ 1152921504606846976 := by simpa [limB] using h2
  have hz : -1152921504606846976 ≤ z ∧ z ≤ 1152921504606846976 := by simpa [limB] using h3
  obtain ⟨ha1, ha2⟩ := ha
  obtain ⟨hz1, hz2⟩ := hz
  have hd1 := Int.emod_nonneg (a - F) (show P ≠ 0 by omega)
  have hd2 := Int.emod_lt_of_pos (a - F) (show 0 < P by omega)
  obtain ⟨i0, hi, hz0, hzz1, hzz2⟩ := info_parts infoSlot
  have hLP : ((L == P) = true ∧ decide (a < z) = false) ∨ (L == P) = false := by
    by_cases h : L = P
    · exact .inl ⟨by simp [h], by simp; omega⟩
    · exact .inr (by simp [h])
  clear h5 hF1 hF2
  rcases hLP with ⟨hLP, haz⟩ | hLP
  all_goals
    go_enter Try.func9, Try.ntmps9
    go_wp2_with (first | (go_at_call 18; (with_reducible refine call_later (valid_any _ _ _ _) ?_); intro u) | (go_at_call 19; (with_reducible refine call_later (limited_any _ _) ?_); intro u) | (go_at_call 20; (with_reducible refine call_later (place_any _ _ _ _ _ hP hP2) ?_); intro u) | ((with_reducible refine wp_region_later ?_ ?_ ?_); (· kernel_rfl); (· kernel_rfl); (try simp only [List.append_eq, List.cons_append, List.nil_append]); (repeat (go_big_quiet_step ((first | (go_at_call 18; (with_reducible exact call_quiet (valid_any _ _ _ _))) | (go_at_call 19; (with_reducible exact call_quiet (limited_any _ _))) | (go_at_call 20; (with_reducible exact call_quiet (place_any _ _ _ _ _ hP hP2))))))); refine wpQuiet_nil ?_; rintro _ ⟨u, rfl⟩))
    go_loopw [8, 9] (fun v t wr => ∃ k : Nat, t = .int .i64 (slotB0 P F a + k * P) ∧ (slotsUpto P F L a z k).length ≤ 4096 ∧ wr.ownsRow u.world.heap.size 66 2 v (slotsUpto P F L a z k).length (slotCells (slotsUpto P F L a z k)) ∧ Grew u.world wr ∧ slotB0 P F a + k * P ≤ z + P) (fun _ t _ => (z + P - intOf t).toNat)
    case atStart => exact ⟨0, by simp [slotB0], by simp [slotsUpto], World.ownsRow_nil _ _ _ _, Grew.refl _, by have := b0_bd P F a hP; omega⟩
    case round =>
      obtain ⟨k, rfl, hlen, hown, hg, hbd⟩ := hrel
      obtain ⟨x, rfl⟩ := later_of hg
      clear hg
      obtain ⟨ao, cap, rfl⟩ := owns_form hown
      have hsa : slotAt P F L a z k = (if slotB0 P F a + k * P < a then a else slotB0 P F a + k * P, if z < slotB0 P F a + k * P + L then z else slotB0 P F a + k * P + L) := rfl
      have Hsucc := Lib.hid (show slotB0 P F a + ((k + 1 : Nat) : Int) * P = slotB0 P F a + k * P + P by rw [Int.natCast_add, Int.add_mul]; simp; omega)
      have hyes := slotsUpto_succ_yes P F L a z k
      have hno := slotsUpto_succ_no P F L a z k
      have hbl : -1152921505680588800 ≤ slotB0 P F a + k * P := by
        have := b0_bd P F a hP
        have h : (0 : Int) ≤ k * P := Int.mul_nonneg (by omega) (by omega)
        omega
      rw [hsa] at hyes hno
      clear hsa
      have Hall := Lib.hid (slotsAll_eq P F L a z k hP)
      have Hlen := Lib.hid (slotsAll_len P F L a z (k + 1) hP)
      generalize slotB0 P F a + k * P = B at *
      have hB1 : B ≤ (if B < a then a else B) := by split <;> omega
      have hB2 : (if z < B + L then z else B + L) ≤ z := by split <;> omega
      have hB3 : (if B < a then a else B) ≤ 2305843009213693952 := by split <;> omega
      have hB4 : -2305843009213693952 ≤ (if z < B + L then z else B + L) := by split <;> omega
      generalize hM : (if B < a then a else B) = M at *
      generalize hN : (if z < B + L then z else B + L) = N at *
      have Hyes := Lib.hid hyes
      have Hno := Lib.hid hno
      clear hyes hno
      by_cases hlt : B < z
      · by_cases hL0 : 0 < L
        · by_cases hne : M < N
          · by_cases hfull : (slotsUpto P F L a z k).length = 4096
            · go_wp2
              go_ret2
              have h5 : ¬ (slotsAll P F L a z).length ≤ 4096 := by
                have := Hlen.out
                rw [Hyes.out hne] at this
                simp at this
                omega
              have h6 : allCode P F L a z = 3 := by simp [allCode, h5]
              have h7 : allList P F L a z = [] := by simp [allList, h5]
              rw [h6, h7]
              exact RetSl.none rfl rfl (by repeat (first | exact Grew.refl _ | apply Grew.alloc | apply Grew.later))
            · have hsz := Below.size x.grew
              go_wp2_with (at_builtin; refine wpList_append_own _ rfl _ _ 31 rfl u.world.heap.size 66 i0 (.agg #[.int .i64 0, .int .i64 0]) 2 16 Try.underlying31 hi hz0 hzz1 hzz2 rfl (by decide) _ _ _ rfl ((hown.alloc _).alloc _) ⟨x.world.heap.size + 1, 0, none⟩ 1 1 [.int .i64 M, .int .i64 N] rfl rfl (by simpa using cells_new (x.world.alloc _) [.int .i64 M, .int .i64 N] _) (by simp [Value.oneCell']) (by simp [maxLen]; omega) (by omega) (by simp; omega) ?_; intro v' w1 hown' hgrow _; obtain ⟨x1, rfl⟩ := later_of (Grew.append ((x.grew.alloc _).alloc _) ((hown.alloc _).alloc _) (Nat.le_refl _) hgrow))
              go_roundw
              case rel =>
                refine ⟨k + 1, by rw [Hsucc.out], ?_, ?_, x1.grew, by rw [Hsucc.out]; omega⟩
                · rw [Hyes.out hne]; simp; omega
                · rw [Hyes.out hne, slotCells_append, List.length_append]; exact hown'
              case measure => simp [intOf]; omega
          · go_wp2
            go_roundw
            case rel =>
              refine ⟨k + 1, by rw [Hsucc.out], ?_, ?_, x.grew.alloc _, by rw [Hsucc.out]; omega⟩
              · rw [Hno.out hne]; exact hlen
              · rw [Hno.out hne]; exact hown.alloc _
            case measure => simp [intOf]; omega
        · go_wp2
          go_ret2
          have h5 : slotsUpto P F L a z k = [] := slotsUpto_empty P F L a z (by omega) k
          have h6 : slotsAll P F L a z = [] := slotsUpto_empty P F L a z (by omega) _
          rw [show allCode P F L a z = 0 by simp [allCode, h6], show allList P F L a z = slotsUpto P F L a z k by simp [allList, h6, h5]]
          exact ⟨_, rfl, SlAt.of_owns hown, by repeat (first | exact Grew.refl _ | apply Grew.alloc | apply Grew.later)⟩
      · go_wp2
        go_ret2
        have h6 := Hall.out (by omega)
        rw [show allCode P F L a z = 0 by simp [allCode, h6, hlen], show allList P F L a z = slotsUpto P F L a z k by simp [allList, h6, hlen]]
        exact ⟨_, rfl, SlAt.of_owns hown, by repeat (first | exact Grew.refl _ | apply Grew.alloc | apply Grew.later)⟩
end Go.Proofs.Ytffbipcdlnfihaa
