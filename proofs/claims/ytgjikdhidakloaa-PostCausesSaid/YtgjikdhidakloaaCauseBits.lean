/-
  Contracts of post's masks: many (bits.OnesCount), within, order.
-/
import Derived.Test.YtgjikdhidakloaaCauseRef
import Derived.Test.YtgjikdhidakloaaSortGen
import Derived.BigQuiet
namespace Go.Proofs.Ytgjikdhidakloaa
open Go.RowKit
set_option maxRecDepth 100000
set_option maxHeartbeats 16000000
theorem onesCount64_any (m : Nat) (hm : m < 256) (w : World) : Calls Try.prog 131 #[.int .u64 m] w fun e w' => e = .returned (.int .i64 (cntN m)) ∧ w' = w := by
  go_enter Try.func131, Try.ntmps131
  go_wp2
  go_ret
  refine ⟨ret_int ?_, rfl⟩
  clear w
  revert hm
  revert m
  exact of_decide_eq_true (by kernel_rfl)
theorem onesCount_any (m : Nat) (hm : m < 256) (w : World) : Calls Try.prog 116 #[.int .u64 m] w fun e w' => e = .returned (.int .i64 (cntN m)) ∧ w' = w := by
  have H := Lib.hid (fun w' => onesCount64_any m hm w')
  go_enter Try.func116, Try.ntmps116
  go_wp2_with (go_at_call 131; refine (H.out _).mono ?_; rintro e w' ⟨rfl, rfl⟩)
  go_ret
  exact ⟨rfl, rfl⟩
theorem wrapU (x : Int) (h1 : 0 ≤ x) (h2 : x ≤ 18446744073709551615) : IntKind.u64.wrap x = x := by
  simp [IntKind.wrap, IntKind.bits, IntKind.signed]
  omega
theorem maskMany_any (m : Nat) (hm : m < 256) (w : World) : Calls Try.prog 96 #[.int .i64 m] w fun e w' => e = .returned (.int .i64 (cntN m)) ∧ w' = w := by
  have H := Lib.hid (fun w' => onesCount_any m hm w')
  have hw := wrapU m (by omega) (by omega)
  go_enter Try.func96, Try.ntmps96
  go_wp2_with (go_at_call 116; refine (H.out _).mono ?_; rintro e w' ⟨rfl, rfl⟩)
  go_ret
  exact ⟨rfl, rfl⟩
/-- Two numbers of int64 that are no less than 0, bit by bit. -/
theorem bv_of (a : Nat) (ha : a < 9223372036854775808) : (BitVec.ofInt 64 (a : Int)).toNat = a := by simp [BitVec.ofInt]; omega
theorem bits_and (a b : Nat) (ha : a < 9223372036854775808) (hb : b < 9223372036854775808) : bits .and .i64 (a : Int) (b : Int) = ((a &&& b : Nat) : Int) := by
  have h3 : a &&& b ≤ a := Nat.and_le_left
  show IntKind.i64.wrap ((BitVec.ofInt 64 (a : Int) &&& BitVec.ofInt 64 (b : Int)).toNat : Int) = _
  rw [BitVec.toNat_and, bv_of a ha, bv_of b hb]
  exact wrapI _ (by omega) (by omega)
theorem bits_or (a b : Nat) (ha : a < 4294967296) (hb : b < 4294967296) : bits .or .i64 (a : Int) (b : Int) = ((a ||| b : Nat) : Int) := by
  have h3 : a ||| b < 2 ^ 32 := Nat.or_lt_two_pow ha hb
  show IntKind.i64.wrap ((BitVec.ofInt 64 (a : Int) ||| BitVec.ofInt 64 (b : Int)).toNat : Int) = _
  rw [BitVec.toNat_or, bv_of a (by omega), bv_of b (by omega)]
  exact wrapI _ (by omega) (by omega)
theorem within_is (a b : Nat) (ha : a < 256) (hb : b < 256) : (bits .andNot .i64 (a : Int) (b : Int) == 0) = decide (subN a b) := by
  have e : bits .andNot .i64 (a : Int) (b : Int) = IntKind.i64.wrap ((BitVec.ofInt 64 (a : Int) &&& ~~~BitVec.ofInt 64 (b : Int)).toNat : Int) := rfl
  have hle : (BitVec.ofInt 64 (a : Int) &&& ~~~BitVec.ofInt 64 (b : Int)).toNat ≤ a := by
    rw [BitVec.toNat_and, bv_of a (by omega)]
    exact Nat.and_le_left
  have hbit : ∀ i, (BitVec.ofInt 64 (a : Int) &&& ~~~BitVec.ofInt 64 (b : Int)).toNat.testBit i = (a.testBit i && !b.testBit i) := by
    intro i
    rw [BitVec.testBit_toNat, BitVec.getLsbD_and, BitVec.getLsbD_not, ← BitVec.testBit_toNat, ← BitVec.testBit_toNat, bv_of a (by omega), bv_of b (by omega)]
    by_cases hi : i < 64
    · simp [hi]
    · have : a.testBit i = false := Nat.testBit_lt_two_pow (by
        have : 2 ^ 64 ≤ 2 ^ i := Nat.pow_le_pow_right (by omega) (by omega)
        omega)
      simp [this]
  rw [e]
  generalize (BitVec.ofInt 64 (a : Int) &&& ~~~BitVec.ofInt 64 (b : Int)).toNat = n at *
  rw [wrapI _ (by omega) (by omega)]
  have key : n = 0 ↔ subN a b := by
    rw [subN_bit]
    constructor
    · intro h0 i hi
      have := hbit i
      rw [h0, Nat.zero_testBit, hi] at this
      cases hb : b.testBit i
      · rw [hb] at this; cases this
      · rfl
    · intro h
      apply Nat.eq_of_testBit_eq
      intro i
      rw [hbit i, Nat.zero_testBit]
      cases ha : a.testBit i
      · rfl
      · rw [h i ha]; rfl
  by_cases h : subN a b
  · rw [decide_eq_true h]
    have := key.2 h
    subst this
    rfl
  · rw [decide_eq_false h]
    have : n ≠ 0 := fun h0 => h (key.1 h0)
    simp
    omega
theorem maskWithin_any (a b : Nat) (ha : a < 256) (hb : b < 256) (w : World) : Calls Try.prog 75 #[.int .i64 a, .int .i64 b] w fun e w' => e = .returned (.bool (decide (subN a b))) ∧ Grew w w' := by
  have H := Lib.hid (within_is a b ha hb)
  go_enter Try.func75, Try.ntmps75
  go_wp2
  go_ret
  exact ⟨ret_bool H.out, (by repeat (first | with_reducible exact Grew.refl _ | with_reducible apply Grew.alloc | with_reducible apply Grew.later | with_reducible apply Grew.drew | with_reducible apply Grew.store | with_reducible assumption))⟩
/-- The order of post. -/
def ordN (a b : Nat) : Int := if cntN a ≠ cntN b then (cntN a : Int) - cntN b else (a : Int) - b
theorem ordN_lt (a b : Nat) (ha : a < 256) (hb : b < 256) : ordN a b < 0 ↔ keyN a < keyN b := by
  rw [key_lt ha hb]
  unfold ordN
  split <;> omega
/-- A set as post's found has it. -/
def fdC (m : Fin 256) : List Value := [.int .i64 ((m.val : Nat) : Int)]
def ordF (a b : Fin 256) : Int := ordN a.val b.val
theorem order_any (x y : Fin 256) (W : World) : Calls Try.prog 72 #[.agg (fdC x).toArray, .agg (fdC y).toArray] W fun e w' => e = .returned (.int .i64 (ordF x y)) ∧ ∃ q os', w' = Go.Sort.grow (W.drewN q) os' := by
  obtain ⟨a, ha⟩ := x
  obtain ⟨b, hb⟩ := y
  have HA := Lib.hid (fun w' => maskMany_any a ha w')
  have HB := Lib.hid (fun w' => maskMany_any b hb w')
  have hca := cntF_le 8 a
  have hcb := cntF_le 8 b
  have Ho := Lib.hid (show ordF ⟨a, ha⟩ ⟨b, hb⟩ = if cntN a ≠ cntN b then (cntN a : Int) - cntN b else (a : Int) - b from rfl)
  show Calls Try.prog 72 #[.agg #[.int .i64 a], .agg #[.int .i64 b]] W _
  generalize ordF ⟨a, ha⟩ ⟨b, hb⟩ = r at *
  generalize hx : cntN a = x at *
  generalize hy : cntN b = y at *
  have hx8 : x ≤ 8 := by rw [← hx]; exact hca
  have hy8 : y ≤ 8 := by rw [← hy]; exact hcb
  clear hx hy hca hcb
  have hw : IntKind.i64.wrap ((x : Int) - y) = (x : Int) - y := wrapI _ (by omega) (by omega)
  have hw2 : IntKind.i64.wrap ((a : Int) - b) = (a : Int) - b := wrapI _ (by omega) (by omega)
  by_cases h : x = y
  · subst h
    have h' : ((x : Int) != x) = false := by simp
    go_enter Try.func72, Try.ntmps72
    go_wp2
    go_quiet (first | (go_at_call 96; refine Calls.quiet_of_same (HA.out _)) | (go_at_call 96; refine Calls.quiet_of_same (HB.out _)))
    go_wp2
    go_ret
    exact ⟨ret_int (by rw [Ho.out, if_neg (by simp)]), _, _, by rw [Go.Sort.alloc_eq_grow, Go.Sort.alloc_eq_grow, Go.Sort.grow_grow]; rfl⟩
  · have h' : ((x : Int) != y) = true := by simp; omega
    go_enter Try.func72, Try.ntmps72
    go_wp2
    go_quiet (first | (go_at_call 96; refine Calls.quiet_of_same (HA.out _)) | (go_at_call 96; refine Calls.quiet_of_same (HB.out _)))
    go_wp2
    go_quiet ((go_at_call 96; first | (refine (HA.out _).mono ?_; rintro e w' ⟨rfl, rfl⟩; exact ⟨rfl, by first | exact ⟨_, rfl⟩ | exact ⟨_, World.drewN_drewN _ _ _⟩ | exact ⟨_, (World.drewN_drewN _ _ _).symm⟩⟩) | (refine (HB.out _).mono ?_; rintro e w' ⟨rfl, rfl⟩; exact ⟨rfl, by first | exact ⟨_, rfl⟩ | exact ⟨_, World.drewN_drewN _ _ _⟩ | exact ⟨_, (World.drewN_drewN _ _ _).symm⟩⟩)))
    go_wp2
    go_ret
    exact ⟨ret_int (by rw [Ho.out, if_pos h]), _, _, by rw [World.drewN_drewN, Go.Sort.alloc_eq_grow, Go.Sort.alloc_eq_grow, Go.Sort.grow_grow]; rfl⟩
end Go.Proofs.Ytgjikdhidakloaa
