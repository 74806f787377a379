/-
  Plain arithmetic: how a number of four halves is divided by one of two halves (Knuth's step).
-/
namespace Go.Proofs.YtochpnomfedhoaaGreat
/-- Knuth's step: a quotient digit of a number of three halves by one of two halves. -/
theorem digit_start (u32 u1 y1 y0 : Int) (hy1 : 2147483648 ≤ y1) (hy0 : 0 ≤ y0) (hy0' : y0 < 4294967296) (hu : 0 ≤ u32) (hu2 : u32 < y1 * 4294967296 + y0) (hu1 : 0 ≤ u1) (hu1' : u1 < 4294967296) :
    (u32 * 4294967296 + u1) / (y1 * 4294967296 + y0) ≤ u32 / y1 ∧ u32 / y1 ≤ 4294967297 ∧ 0 ≤ u32 - u32 / y1 * y1 ∧ u32 - u32 / y1 * y1 < y1 ∧ 0 ≤ u32 / y1 := by
  have h1 := Int.emod_nonneg u32 (show y1 ≠ 0 by omega)
  have h2 := Int.emod_lt_of_pos u32 (show 0 < y1 by omega)
  have h3 := Int.mul_ediv_add_emod u32 y1
  rw [Int.mul_comm] at h3
  have h0 : 0 ≤ u32 / y1 := Int.ediv_nonneg hu (by omega)
  generalize u32 / y1 = q at *
  refine ⟨?_, ?_, by omega, by omega, h0⟩
  · apply Int.le_of_lt_add_one
    apply Int.ediv_lt_of_lt_mul (by omega)
    have e1 : (q + 1) * (y1 * 4294967296 + y0) = (q * y1 + y1) * 4294967296 + (q + 1) * y0 := by
      rw [Int.mul_add, ← Int.mul_assoc, Int.add_mul, Int.one_mul]
    have e2 : 0 ≤ (q + 1) * y0 := Int.mul_nonneg (by omega) hy0
    rw [e1]
    omega
  · apply Int.le_of_lt_add_one
    have : q * y1 < 4294967298 * y1 := by omega
    exact Int.lt_of_mul_lt_mul_right this (by omega)
theorem digit_test (q u32 u1 y1 y0 : Int) : (4294967296 * (u32 - q * y1) + u1 < q * y0) ↔ (u32 * 4294967296 + u1 < q * (y1 * 4294967296 + y0)) := by
  rw [Int.mul_add, ← Int.mul_assoc, Int.mul_sub]
  omega
theorem digit_over (q u32 u1 y1 y0 : Int) (hy0 : 0 ≤ y0) (hy0' : y0 < 4294967296) (hu1 : 0 ≤ u1) (_hq : 0 ≤ q) (hq2 : q ≤ 4294967296) (hr : 4294967296 ≤ u32 - q * y1) : q * (y1 * 4294967296 + y0) ≤ u32 * 4294967296 + u1 := by
  have h := (digit_test q u32 u1 y1 y0)
  have : q * y0 ≤ 4294967296 * y0 := Int.mul_le_mul_of_nonneg_right hq2 hy0
  omega
theorem digit_end (q u y : Int) (hy : 0 < y) (h1 : u / y ≤ q) (h2 : q * y ≤ u) : q = u / y :=
  Int.le_antisymm (Int.le_ediv_of_mul_le hy h2) h1
theorem digit_next (q u y : Int) (hy : 0 < y) (h2 : u < q * y) : u / y ≤ q - 1 := by
  have := Int.ediv_lt_of_lt_mul hy h2
  omega
/-- A digit is below the base. -/
theorem digit_lt (u32 u1 y : Int) (hy : 0 < y) (hu : u32 < y) (_hu : u1 < 4294967296) : (u32 * 4294967296 + u1) / y < 4294967296 := by
  apply Int.ediv_lt_of_lt_mul hy
  have : (u32 + 1) * 4294967296 ≤ y * 4294967296 := Int.mul_le_mul_of_nonneg_right (by omega) (by omega)
  omega
/-- Two digits are the quotient. -/
theorem digits (u32 u1 u0 y : Int) (hy : 0 < y) :
    (u32 * 4294967296 + u1) / y * 4294967296 + ((u32 * 4294967296 + u1) % y * 4294967296 + u0) / y = (u32 * 18446744073709551616 + (u1 * 4294967296 + u0)) / y ∧
    ((u32 * 4294967296 + u1) % y * 4294967296 + u0) % y = (u32 * 18446744073709551616 + (u1 * 4294967296 + u0)) % y := by
  have h1 := Int.mul_ediv_add_emod (u32 * 4294967296 + u1) y
  generalize (u32 * 4294967296 + u1) / y = q at *
  generalize (u32 * 4294967296 + u1) % y = r at *
  have e : u32 * 18446744073709551616 + (u1 * 4294967296 + u0) = (r * 4294967296 + u0) + y * (q * 4294967296) := by
    rw [← Int.mul_assoc]; omega
  rw [e, Int.add_mul_ediv_left _ _ (by omega), Int.add_mul_emod_self_left]
  exact ⟨by omega, rfl⟩
end Go.Proofs.YtochpnomfedhoaaGreat
