/-
  Contracts: span's root, Root, Abs.
-/
import Derived.Test.YtffbipcdlnfihaaSpanAdd
namespace Go.Proofs.Ytffbipcdlnfihaa
open Go.RowKit
set_option maxRecDepth 100000
set_option maxHeartbeats 1000000
theorem rootAt_bd (k : Nat) (r x : Int) (h0 : 0 ≤ r) (hk : k ≤ 49) (h1 : r + 2 ^ k ≤ 562949953421312) : 0 ≤ rootAt k r x ∧ rootAt k r x < 562949953421312 := by
  induction k generalizing r with
  | zero => unfold rootAt; simp at h1; omega
  | succ k ih =>
    unfold rootAt
    have hp : (0 : Int) < 2 ^ k := Int.pow_pos (by omega)
    have e : (2 : Int) ^ (k + 1) = 2 ^ k * 2 := by rw [Int.pow_succ]
    rw [e] at h1
    split
    · exact ih _ (by omega) (by omega) (by omega)
    · exact ih _ h0 (by omega) (by omega)
theorem rootZ_bd (x : Int) : 0 ≤ rootZ x ∧ rootZ x < 562949953421312 := rootAt_bd 49 0 x (by omega) (by omega) (by decide +kernel)
def rootSq (x : Int) : Bool := decide (rootZ x * rootZ x = x)
theorem up32_m (a : Big) : (up32B a).m = a.m * 4294967296 := mkBig_m _ _
theorem ret_ib {k : IntKind} {x y : Int} {a b : Bool} (h : x = y) (h' : a = b) : Ending.returned (.tuple #[.int k x, .bool a]) = .returned (.tuple #[.int k y, .bool b]) := by rw [h, h']
theorem sq_cmp (p x : Int) : (p / 18446744073709551616 < x / 18446744073709551616 ∨ p / 18446744073709551616 = x / 18446744073709551616 ∧ p % 18446744073709551616 ≤ x % 18446744073709551616) ↔ p ≤ x := by omega
theorem sq_eq (p x : Int) : (x % 18446744073709551616 = p % 18446744073709551616 ∧ p / 18446744073709551616 = x / 18446744073709551616) ↔ p = x := by omega
end Go.Proofs.Ytffbipcdlnfihaa
