/-
  Contracts: integers of 128 bits (ullageref01).
  Contracts: integers of 128 bits (ullageref01): products, quotients.
  Contracts: integers of 128 bits (ullageref01): bits, long division.
-/
import Derived.Test.YtdkfkalplmgoeaaDiv64
import Derived.Test.YtdkfkalplmgoeaaNumAll
import Derived.Deep.RegionHeld3
import Derived.Test.YtdkfkalplmgoeaaLexAll
namespace Go.Proofs.Ytdkfkalplmgoeaa
open Go.RowKit
set_option maxRecDepth 100000
set_option maxHeartbeats 1000000
theorem i64_xor_not (a : Int) (h : I64 a) : bits .xor .i64 (-1) a = -a - 1 := by
  unfold I64 at h
  show IntKind.i64.wrap ((BitVec.ofInt 64 (-1) ^^^ BitVec.ofInt 64 a).toNat : Int) = _
  have h1 : BitVec.ofInt 64 (-1) = BitVec.allOnes 64 := by decide
  rw [h1, BitVec.allOnes_xor, BitVec.toNat_not, BitVec.toNat_ofInt]
  simp [IntKind.wrap, IntKind.bits, IntKind.signed]
  omega
theorem u64_xor_not (a : Int) (h : U64 a) : bits .xor .u64 IntKind.u64.max a = 18446744073709551615 - a := by
  unfold U64 at h
  show IntKind.u64.wrap ((BitVec.ofInt 64 IntKind.u64.max ^^^ BitVec.ofInt 64 a).toNat : Int) = _
  have h1 : BitVec.ofInt 64 IntKind.u64.max = BitVec.allOnes 64 := by decide
  rw [h1, BitVec.allOnes_xor, BitVec.toNat_not, BitVec.toNat_ofInt]
  simp [IntKind.wrap, IntKind.bits, IntKind.signed]
  omega
end Go.Proofs.Ytdkfkalplmgoeaa
namespace Go.Proofs.Ytdkfkalplmgoeaa
open Go.RowKit
set_option maxRecDepth 100000
set_option maxHeartbeats 1000000
theorem prod_bd {u v U V : Int} (h1 : 0 ≤ u) (h2 : u ≤ U) (h3 : 0 ≤ v) (h4 : v ≤ V) : 0 ≤ u * v ∧ u * v ≤ U * V := by
  refine ⟨Int.mul_nonneg h1 h3, ?_⟩
  have a : u * v ≤ U * v := Int.mul_le_mul_of_nonneg_right h2 h3
  have b : U * v ≤ U * V := Int.mul_le_mul_of_nonneg_left h4 (by omega)
  omega
theorem mul_halves (x y : Int) : x / 4294967296 * (y / 4294967296) * 18446744073709551616 + (x / 4294967296 * (y % 4294967296) + x % 4294967296 * (y / 4294967296)) * 4294967296 + x % 4294967296 * (y % 4294967296) = x * y := by
  have e1 := Int.mul_ediv_add_emod x 4294967296
  have e2 := Int.mul_ediv_add_emod y 4294967296
  generalize x / 4294967296 = a at *
  generalize x % 4294967296 = b at *
  generalize y / 4294967296 = c at *
  generalize y % 4294967296 = d at *
  subst e1
  subst e2
  have e : (4294967296 * a + b) * (4294967296 * c + d) = 4294967296 * a * (4294967296 * c) + 4294967296 * a * d + (b * (4294967296 * c) + b * d) := by
    rw [Int.add_mul, Int.mul_add, Int.mul_add]
  rw [e, show 4294967296 * a * (4294967296 * c) = a * c * 18446744073709551616 by rw [Int.mul_assoc, Int.mul_left_comm a, ← Int.mul_assoc, Int.mul_comm (4294967296 * 4294967296)]; rfl,
    show 4294967296 * a * d = a * d * 4294967296 by rw [Int.mul_assoc, Int.mul_comm], show b * (4294967296 * c) = b * c * 4294967296 by rw [Int.mul_left_comm, Int.mul_comm]]
  omega
theorem natAbs_mul_sign (a b : Int) : a * b = if decide (a < 0) != decide (b < 0) then -((a.natAbs : Int) * b.natAbs) else (a.natAbs : Int) * b.natAbs := by
  by_cases h1 : a < 0 <;> by_cases h2 : b < 0 <;> simp [h1, h2]
  · rw [show (a.natAbs : Int) = -a by omega, show (b.natAbs : Int) = -b by omega, Int.neg_mul_neg]
  · rw [show (a.natAbs : Int) = -a by omega, show (b.natAbs : Int) = b by omega, Int.neg_mul, Int.neg_neg]
  · rw [show (a.natAbs : Int) = a by omega, show (b.natAbs : Int) = -b by omega, Int.mul_neg, Int.neg_neg]
  · rw [show (a.natAbs : Int) = a by omega, show (b.natAbs : Int) = b by omega]
end Go.Proofs.Ytdkfkalplmgoeaa
namespace Go.Proofs.Ytdkfkalplmgoeaa
open Go.RowKit
set_option maxRecDepth 100000
set_option maxHeartbeats 1000000
def bitZ (x : Int) (i : Nat) : Int := x / 2 ^ i % 2
theorem and_one_u64 (a : Int) (h : U64 a) : bits .and .u64 a 1 = a % 2 := by
  unfold U64 at h
  obtain ⟨a, rfl⟩ := Int.eq_ofNat_of_zero_le h.1
  have := bits_and_u64_nat a 1 (by omega) (by omega)
  rw [Nat.and_one_is_mod] at this
  rw [show (1 : Int) = ((1 : Nat) : Int) from rfl, this]
  omega
theorem and_one_i64 (a : Int) (h0 : 0 ≤ a) (h1 : a ≤ 9223372036854775807) : bits .and .i64 a 1 = a % 2 := by
  obtain ⟨a, rfl⟩ := Int.eq_ofNat_of_zero_le h0
  show IntKind.i64.wrap ((BitVec.ofInt 64 (a : Int) &&& BitVec.ofInt 64 1).toNat : Int) = _
  rw [BitVec.toNat_and, ofInt_u64 a (by omega), show (BitVec.ofInt 64 1).toNat = 1 by decide, Nat.and_one_is_mod]
  simp [IntKind.wrap, IntKind.bits, IntKind.signed]
  omega
theorem bit_high (x : Int) (i : Nat) (hi : 64 ≤ i) : x / 18446744073709551616 / 2 ^ (i - 64) % 2 = bitZ x i := by
  unfold bitZ
  rw [Int.ediv_ediv_of_nonneg (by omega), show (18446744073709551616 : Int) = 2 ^ 64 from by decide +kernel, ← Int.pow_add, show 64 + (i - 64) = i by omega]
theorem bit_low (h l : Int) (i : Nat) (hi : i < 64) : l / 2 ^ i % 2 = bitZ (h * 18446744073709551616 + l) i := by
  unfold bitZ
  have hp : (0 : Int) < 2 ^ i := Int.pow_pos (by omega)
  have e : h * 18446744073709551616 = 2 ^ i * (h * 2 ^ (63 - i) * 2) := by
    rw [show (18446744073709551616 : Int) = 2 ^ 64 from by decide +kernel, show (64 : Nat) = i + (63 - i) + 1 by omega, Int.pow_succ, Int.pow_add]
    rw [← Int.mul_assoc, ← Int.mul_assoc, Int.mul_comm h (2 ^ i), Int.mul_assoc (2 ^ i) h, Int.mul_assoc (2 ^ i) (h * _)]
  rw [e, Int.add_comm, Int.add_mul_ediv_left _ _ (by omega)]
  omega
end Go.Proofs.Ytdkfkalplmgoeaa
