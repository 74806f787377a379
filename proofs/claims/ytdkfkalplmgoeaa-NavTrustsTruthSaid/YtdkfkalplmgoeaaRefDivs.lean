/-
  Contracts: ullageref01's divide, Quotient, over.
  Contracts: ullageref01's Quotient, over, Div.
  Contracts: ullageref01's Div.
  Contracts: ullageref01's Scale, Hull, Int, Whole, Dot1, and more operations of its Calc.
-/
import Derived.Test.YtdkfkalplmgoeaaDivLaw
import Derived.Test.YtdkfkalplmgoeaaLexAll
import Derived.Test.YtdkfkalplmgoeaaRefOpsAll
import Derived.Test.YtdkfkalplmgoeaaCalcs
namespace Go.Proofs.Ytdkfkalplmgoeaa
open Go.RowKit
set_option maxRecDepth 100000
set_option maxHeartbeats 2000000
/-- What is handed back as two wide integers. -/
theorem ret_w2 {x y x' y' : Int} {r r' : W} (h : (⟨x, y⟩ : W) = r) (h' : (⟨x', y'⟩ : W) = r') :
    Ending.returned (.tuple #[.agg #[.int .i64 x, .int .u64 y], .agg #[.int .i64 x', .int .u64 y']]) = .returned (.tuple #[.agg #[.int .i64 r.h, .int .u64 r.l], .agg #[.int .i64 (r').h, .int .u64 (r').l]]) := by rw [← h, ← h']
theorem mkW_one : mkW 1 = ⟨0, 1⟩ := (mkW_of (by unfold U64; omega) (by omega)).symm
theorem mkW_zero : mkW 0 = ⟨0, 0⟩ := (mkW_of (by unfold U64; omega) (by omega)).symm
theorem top_start (x : Int) (h0 : 0 ≤ x) (hx : R128 x) : x / 2 ^ (127 + 1) = 0 := by
  apply Int.ediv_eq_zero_of_lt h0
  have : (2 : Int) ^ (127 + 1) = 340282366920938463463374607431768211456 := by decide +kernel
  unfold R128 at hx
  omega
theorem top_step (x : Int) (k : Nat) (h : x / 2 ^ (k + 1) = 0) (hb : decide (bitZ x k = 1) = false) : x / 2 ^ k = 0 := by
  have := bitZ_step x k
  have h2 := bitZ_bd x k
  simp at hb
  omega
def divRound (x b : Int) (w : World) (B7 B8 : Nat) (n : Nat) (wr : World) : Prop := Grew w wr ∧ BoxAt wr w.heap.size [.int .i64 (mkW x).h, .int .u64 (mkW x).l] ∧ BoxAt wr (w.heap.size + 1) [.int .i64 (mkW b).h, .int .u64 (mkW b).l] ∧ BoxAt wr (w.heap.size + 1 + 1) [.int .i64 0, .int .u64 0] ∧ BoxAt wr (w.heap.size + 1 + 1 + 1) [.int .i64 0, .int .u64 0] ∧
  BoxAt wr B7 [.int .i64 (mkW (x / 2 ^ n / b)).h, .int .u64 (mkW (x / 2 ^ n / b)).l] ∧ BoxAt wr B8 [.int .i64 (mkW (x / 2 ^ n % b)).h, .int .u64 (mkW (x / 2 ^ n % b)).l]
theorem mkW_hi (x : Int) : (mkW x).h = x / 18446744073709551616 := rfl
end Go.Proofs.Ytdkfkalplmgoeaa
namespace Go.Proofs.Ytdkfkalplmgoeaa
open Go.RowKit
set_option maxRecDepth 100000
set_option maxHeartbeats 4000000
theorem upZ_if (m d : Int) (hd : 1 ≤ d) (hb : decide (m % d = 0) = true) : upZ m d = m / d := by rw [upZ_law m d hd, if_pos (by simpa using hb)]
theorem upZ_else (m d : Int) (hd : 1 ≤ d) (hb : decide (m % d = 0) = false) : upZ m d = m / d + 1 := by rw [upZ_law m d hd, if_neg (by simpa using hb)]
end Go.Proofs.Ytdkfkalplmgoeaa
namespace Go.Proofs.Ytdkfkalplmgoeaa
open Go.RowKit
set_option maxRecDepth 100000
set_option maxHeartbeats 4000000
def ratDK (a b : Sp) (k : Nat) : Int := ratDown ((cornersL a b)[k]?.getD (0, 0)).1 ((cornersL a b)[k]?.getD (0, 0)).2
def ratUK (a b : Sp) (k : Nat) : Int := ratUp ((cornersL a b)[k]?.getD (0, 0)).1 ((cornersL a b)[k]?.getD (0, 0)).2
theorem corners_ne {a b : Sp} (h1 : b.lo ≠ 0) (h2 : b.hi ≠ 0) (k : Nat) (hk : k < 4) : ((cornersL a b)[k]?.getD (0, 0)).2 ≠ 0 := by
  match k, hk with
  | 0, _ => exact h1
  | 1, _ => exact h2
  | 2, _ => exact h1
  | 3, _ => exact h2
theorem ratK_le (a b : Sp) [ha : S64 a] [hb : S64 b] (k : Nat) : (-39614081257132168796771975168 ≤ ratDK a b k ∧ ratDK a b k ≤ 39614081257132168796771975168) ∧ (-39614081257132168796771975168 ≤ ratUK a b k ∧ ratUK a b k ≤ 39614081257132168796771975168) := by
  have h := cornersL_i64 a b k
  by_cases h0 : ((cornersL a b)[k]?.getD (0, 0)).2 = 0
  · unfold ratDK ratUK
    rw [h0]
    unfold ratDown ratUp downZ upZ
    simp
  · exact rat_bd _ _ h.1 h0
theorem rat_r128 {x : Int} (h : -39614081257132168796771975168 ≤ x ∧ x ≤ 39614081257132168796771975168) : R128 x := by unfold R128; omega
theorem divR_yes {a b : Sp} (hk : (a.okB && b.okB) = true) (hz : (decide (b.lo ≤ 0) && decide (0 ≤ b.hi)) = false) : divR a b = fitR (loK (ratDK a b) 4) (hiK (ratUK a b) 4) := by
  unfold divR
  rw [hk, hz, loK_4, hiK_4]
  rfl
end Go.Proofs.Ytdkfkalplmgoeaa
namespace Go.Proofs.Ytdkfkalplmgoeaa
open Go.RowKit Go.Shelf
set_option maxRecDepth 100000
set_option maxHeartbeats 2000000
/-- A small integer as a span. -/
def wholeS (n : Int) : Sp := ⟨n * 4294967296, n * 4294967296⟩
theorem wholeS_fit (n : Int) (h0 : 0 ≤ n) (h1 : n ≤ 1000000) : fitR (n * 4294967296) (n * 4294967296) = ⟨wholeS n, 0⟩ := by
  unfold fitR isNum
  rw [if_pos (by simp; omega)]
  rfl
theorem wholeS_64 (n : Int) (h0 : 0 ≤ n) (h1 : n ≤ 1000000) : S64 (wholeS n) := ⟨by unfold I64 wholeS; simp only []; omega, by unfold I64 wholeS; simp only []; omega⟩
end Go.Proofs.Ytdkfkalplmgoeaa
