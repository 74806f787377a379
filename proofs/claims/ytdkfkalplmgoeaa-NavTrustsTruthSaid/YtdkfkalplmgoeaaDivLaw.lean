/-
  Plain law: long division, quotients rounded down and up.
-/
import Derived.Test.YtdkfkalplmgoeaaWides
import Derived.Test.YtdkfkalplmgoeaaSpanMul2
namespace Go.Proofs.Ytdkfkalplmgoeaa
open Go.RowKit
theorem quot_of {A b q r : Int} (hA : A = b * q + r) (h0 : 0 ≤ r) (h1 : r < b) : A / b = q ∧ A % b = r := by
  have := Int.ediv_emod_unique (a := A) (b := b) (r := r) (q := q) (by omega)
  exact this.2 ⟨by omega, h0, h1⟩
theorem bitZ_step (x : Int) (i : Nat) : x / 2 ^ i = 2 * (x / 2 ^ (i + 1)) + bitZ x i := by
  unfold bitZ
  rw [Int.pow_succ, ← Int.ediv_ediv_of_nonneg (Int.le_of_lt (Int.pow_pos (by omega)))]
  omega
theorem bitZ_bd (x : Int) (i : Nat) : bitZ x i = 0 ∨ bitZ x i = 1 := by unfold bitZ; omega
/-- One round of the long division. -/
theorem long_step (x b : Int) (i : Nat) (hb : 0 < b) (t : Int) (ht : t = 2 * (x / 2 ^ (i + 1) % b) + bitZ x i) :
    (t < b → x / 2 ^ i / b = 2 * (x / 2 ^ (i + 1) / b) ∧ x / 2 ^ i % b = t) ∧ (b ≤ t → x / 2 ^ i / b = 2 * (x / 2 ^ (i + 1) / b) + 1 ∧ x / 2 ^ i % b = t - b) := by
  have h1 := bitZ_step x i
  have h2 := Int.mul_ediv_add_emod (x / 2 ^ (i + 1)) b
  have h3 := Int.emod_nonneg (x / 2 ^ (i + 1)) (show b ≠ 0 by omega)
  have h4 := Int.emod_lt_of_pos (x / 2 ^ (i + 1)) hb
  have h5 := bitZ_bd x i
  generalize x / 2 ^ (i + 1) = y at *
  generalize x / 2 ^ i = z at *
  generalize y % b = r at *
  generalize y / b = q at *
  have e2 : b * (2 * q) = 2 * (b * q) := Int.mul_left_comm b 2 q
  have e3 : b * (2 * q + 1) = 2 * (b * q) + b := by rw [Int.mul_add, e2, Int.mul_one]
  generalize b * q = m at *
  refine ⟨fun h => quot_of (by rw [e2]; omega) (by omega) h, fun h => quot_of (by rw [e3]; omega) (by omega) (by omega)⟩
theorem quot_bd (x b : Int) (i : Nat) (h0 : 0 ≤ x) (hb : 0 < b) : 0 ≤ x / 2 ^ i / b ∧ x / 2 ^ i / b ≤ x ∧ 0 ≤ x / 2 ^ i % b ∧ x / 2 ^ i % b < b ∧ x / 2 ^ i % b ≤ x := by
  have hp : (0 : Int) < 2 ^ i := Int.pow_pos (by omega)
  have h1 := Int.ediv_nonneg h0 (Int.le_of_lt hp)
  have h2 := Int.ediv_le_self (2 ^ i) h0
  have h3 := Int.ediv_nonneg h1 (Int.le_of_lt hb)
  have h4 := Int.ediv_le_self b h1
  have h5 := Int.emod_nonneg (x / 2 ^ i) (show b ≠ 0 by omega)
  have h6 := Int.emod_lt_of_pos (x / 2 ^ i) hb
  have h7 := Int.mul_ediv_add_emod (x / 2 ^ i) b
  have h8 := Int.mul_nonneg (Int.le_of_lt hb) h3
  exact ⟨h3, by omega, h5, h6, by omega⟩
theorem upZ_law (m d : Int) (hd : 1 ≤ d) : upZ m d = if m % d = 0 then m / d else m / d + 1 := up_law m d hd
theorem downZ_neg (m d : Int) : downZ (-m) d = -upZ m d := by unfold downZ upZ; omega
theorem upZ_neg (m d : Int) : upZ (-m) d = -downZ m d := by unfold downZ upZ; rw [Int.neg_neg]
theorem downZ_bd (m d M : Int) (hM : 0 ≤ M) (h1 : -M ≤ m) (h2 : m ≤ M) (hd : 1 ≤ d) : -M ≤ downZ m d ∧ downZ m d ≤ M := by
  unfold downZ
  have a : (-M) / d ≤ m / d := Int.ediv_le_ediv (by omega) h1
  have b : m / d ≤ M / d := Int.ediv_le_ediv (by omega) h2
  have c : M / d ≤ M := Int.ediv_le_self d hM
  have e : -M ≤ (-M) / d := by
    rw [Int.le_ediv_iff_mul_le (by omega), Int.neg_mul]
    have := Int.mul_le_mul_of_nonneg_left hd hM
    omega
  omega
theorem upZ_bd (m d M : Int) (hM : 0 ≤ M) (h1 : -M ≤ m) (h2 : m ≤ M) (hd : 1 ≤ d) : -M ≤ upZ m d ∧ upZ m d ≤ M := by
  have := downZ_bd (-m) d M hM (by omega) (by omega) hd
  unfold downZ at this
  unfold upZ
  omega
theorem rat_bd (a b : Int) (ha : I64 a) (hb : b ≠ 0) : (-39614081257132168796771975168 ≤ ratDown a b ∧ ratDown a b ≤ 39614081257132168796771975168) ∧ (-39614081257132168796771975168 ≤ ratUp a b ∧ ratUp a b ≤ 39614081257132168796771975168) := by
  unfold I64 at ha
  unfold ratDown ratUp
  split
  · exact ⟨downZ_bd _ _ _ (by omega) (by omega) (by omega) (by omega), upZ_bd _ _ _ (by omega) (by omega) (by omega) (by omega)⟩
  · exact ⟨downZ_bd _ _ _ (by omega) (by omega) (by omega) (by omega), upZ_bd _ _ _ (by omega) (by omega) (by omega) (by omega)⟩
end Go.Proofs.Ytdkfkalplmgoeaa
