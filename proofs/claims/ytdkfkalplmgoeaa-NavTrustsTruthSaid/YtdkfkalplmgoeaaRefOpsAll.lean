/-
  Contracts: ullageref01's operations on spans.
  Contracts: ullageref01's corners, Mul, Square.
-/
import Derived.Test.YtdkfkalplmgoeaaWides
import Derived.Test.YtdkfkalplmgoeaaSpanAdd
import Derived.Test.YtdkfkalplmgoeaaCore
import Derived.Test.YtdkfkalplmgoeaaLexAll
namespace Go.Proofs.Ytdkfkalplmgoeaa
open Go.RowKit
set_option maxRecDepth 100000
set_option maxHeartbeats 2000000
theorem ret_resI {x y e : Int} {r : Res} (h1 : x = r.s.lo) (h2 : y = r.s.hi) (h3 : e = r.e) : Ending.returned (.tuple #[.agg #[.int .i64 x, .int .i64 y], .int .i64 e]) = .returned (.tuple #[.agg #[.int .i64 r.s.lo, .int .i64 r.s.hi], .int .i64 r.e]) := by rw [h1, h2, h3]
theorem r128_of {a : Int} (h : I64 a) : R128 a := by unfold I64 at h; unfold R128; omega
theorem r128_sum {a b : Int} (h : I64 a) (k : I64 b) : R128 (a + b) := by unfold I64 at h k; unfold R128; omega
theorem r128_neg {a : Int} (h : I64 a) : R128 (-a) := by unfold I64 at h; unfold R128; omega
end Go.Proofs.Ytdkfkalplmgoeaa
namespace Go.Proofs.Ytdkfkalplmgoeaa
open Go.RowKit
set_option maxRecDepth 100000
set_option maxHeartbeats 2000000
def prCells (p : Int × Int) : List Value := [.int .i64 p.1, .int .i64 p.2]
def cornersL (a b : Sp) : List (Int × Int) := [(a.lo, b.lo), (a.lo, b.hi), (a.hi, b.lo), (a.hi, b.hi)]
/-- The corners lie in a block. -/
def LAt (w : World) (b1 : Nat) (a b : Sp) : Prop := ∀ i x, ((cornersL a b).flatMap prCells)[i]? = some x → w.cell? ⟨b1, i, none⟩ = some x
theorem LAt.elem {w : World} {b1 : Nat} {a b : Sp} (h : LAt w b1 a b) (k : Nat) (hk : k < 4) : w.cell? ⟨b1, k * 2, none⟩ = some (.int .i64 ((cornersL a b)[k]?.getD (0, 0)).1) ∧ w.cell? ⟨b1, k * 2 + 1, none⟩ = some (.int .i64 ((cornersL a b)[k]?.getD (0, 0)).2) := by
  match k, hk with
  | 0, _ => exact ⟨h 0 _ rfl, h 1 _ rfl⟩
  | 1, _ => exact ⟨h 2 _ rfl, h 3 _ rfl⟩
  | 2, _ => exact ⟨h 4 _ rfl, h 5 _ rfl⟩
  | 3, _ => exact ⟨h 6 _ rfl, h 7 _ rfl⟩
def RetCor (a b : Sp) (w : World) (e : Ending) (w' : World) : Prop := ∃ b1, e = .returned (.slice (some ⟨b1, 0, none⟩) 4 4) ∧ w.heap.size ≤ b1 ∧ LAt w' b1 a b ∧ Grew w w'
/-- The running least, and greatest. -/
def loK (f : Nat → Int) : Nat → Int
  | 0 => 0
  | k + 1 => if k = 0 then f 0 else if f k < loK f k then f k else loK f k
def hiK (f : Nat → Int) : Nat → Int
  | 0 => 0
  | k + 1 => if k = 0 then f 0 else if hiK f k < f k then f k else hiK f k
theorem loK_4 (f : Nat → Int) : loK f 4 = min4 (f 0) (f 1) (f 2) (f 3) := by
  rfl
theorem hiK_4 (f : Nat → Int) : hiK f 4 = max4 (f 0) (f 1) (f 2) (f 3) := by
  rfl
theorem loK_r (f : Nat → Int) (hf : ∀ k, R128 (f k)) : ∀ k, R128 (loK f k)
  | 0 => by unfold loK R128; omega
  | k + 1 => by
    unfold loK
    split
    · exact hf 0
    · split
      · exact hf k
      · exact loK_r f hf k
theorem hiK_r (f : Nat → Int) (hf : ∀ k, R128 (f k)) : ∀ k, R128 (hiK f k)
  | 0 => by unfold hiK R128; omega
  | k + 1 => by
    unfold hiK
    split
    · exact hf 0
    · split
      · exact hf k
      · exact hiK_r f hf k
theorem loK_le (f : Nat → Int) (M : Int) (hM : 0 ≤ M) (hf : ∀ k, -M ≤ f k ∧ f k ≤ M) : ∀ k, -M ≤ loK f k ∧ loK f k ≤ M
  | 0 => by unfold loK; omega
  | k + 1 => by
    unfold loK
    split
    · exact hf 0
    · split
      · exact hf k
      · exact loK_le f M hM hf k
theorem hiK_le (f : Nat → Int) (M : Int) (hM : 0 ≤ M) (hf : ∀ k, -M ≤ f k ∧ f k ≤ M) : ∀ k, -M ≤ hiK f k ∧ hiK f k ≤ M
  | 0 => by unfold hiK; omega
  | k + 1 => by
    unfold hiK
    split
    · exact hf 0
    · split
      · exact hf k
      · exact hiK_le f M hM hf k
theorem loK_one (f : Nat → Int) : loK f 1 = f 0 := by simp [loK]
theorem hiK_one (f : Nat → Int) : hiK f 1 = f 0 := by simp [hiK]
theorem loK_step (f : Nat → Int) (k : Nat) (hk : k ≠ 0) : loK f (k + 1) = if decide (f k < loK f k) then f k else loK f k := by rw [loK, if_neg hk]; simp
theorem hiK_step (f : Nat → Int) (k : Nat) (hk : k ≠ 0) : hiK f (k + 1) = if decide (hiK f k < f k) then f k else hiK f k := by rw [hiK, if_neg hk]; simp
def prodK (a b : Sp) (k : Nat) : Int := ((cornersL a b)[k]?.getD (0, 0)).1 * ((cornersL a b)[k]?.getD (0, 0)).2
theorem cornersL_i64 (a b : Sp) [ha : S64 a] [hb : S64 b] (k : Nat) : I64 ((cornersL a b)[k]?.getD (0, 0)).1 ∧ I64 ((cornersL a b)[k]?.getD (0, 0)).2 := by
  have h0 : I64 0 := by unfold I64; omega
  unfold cornersL
  match k with
  | 0 => exact ⟨ha.lo, hb.lo⟩
  | 1 => exact ⟨ha.lo, hb.hi⟩
  | 2 => exact ⟨ha.hi, hb.lo⟩
  | 3 => exact ⟨ha.hi, hb.hi⟩
  | k + 4 => exact ⟨h0, h0⟩
theorem prod_le {a b : Int} (ha : I64 a) (hb : I64 b) : -85070591730234615865843651857942052864 ≤ a * b ∧ a * b ≤ 85070591730234615865843651857942052864 := by
  have h : (a * b).natAbs ≤ 9223372036854775808 * 9223372036854775808 := by
    rw [Int.natAbs_mul]
    unfold I64 at ha hb
    exact Nat.mul_le_mul (by omega) (by omega)
  omega
theorem prodK_le (a b : Sp) [ha : S64 a] [hb : S64 b] (k : Nat) : -85070591730234615865843651857942052864 ≤ prodK a b k ∧ prodK a b k ≤ 85070591730234615865843651857942052864 := by
  have h := cornersL_i64 a b k
  exact prod_le h.1 h.2
theorem r128_prod {x : Int} (h : -85070591730234615865843651857942052864 ≤ x ∧ x ≤ 85070591730234615865843651857942052864) : R128 x := by unfold R128; omega
theorem minus32 (x : Int) : -(-x / 4294967296) = upZ x 4294967296 := rfl
def mulRound (a b : Sp) (B6 B7 : Nat) (w : World) (k : Nat) (wr : World) : Prop := Grew w wr ∧ BoxAt wr (w.heap.size + 1 + 1) [.int .i64 0, .int .i64 0] ∧ BoxAt wr B6 [.int .i64 (mkW (loK (prodK a b) k)).h, .int .u64 (mkW (loK (prodK a b) k)).l] ∧ BoxAt wr B7 [.int .i64 (mkW (hiK (prodK a b) k)).h, .int .u64 (mkW (hiK (prodK a b) k)).l]
end Go.Proofs.Ytdkfkalplmgoeaa
