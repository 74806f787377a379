/-
  Contracts: ullageref01's operations on spans.
  Contracts: ullageref01's corners, Mul, Square.
-/
import Derived.Test.YtkeifgcncmilmaaGreatWidesS
import Derived.Test.YtkeifgcncmilmaaGreatSpanAddS
import Derived.Test.YtkeifgcncmilmaaGreatCoreS
import Derived.Test.YtkeifgcncmilmaaGreatLexAllS
namespace Go.Proofs.YtkeifgcncmilmaaGreat
open Go.RowKit
set_option maxRecDepth 100000
set_option maxHeartbeats 2000000
end Go.Proofs.YtkeifgcncmilmaaGreat
namespace Go.Proofs.YtkeifgcncmilmaaGreat
open Go.RowKit
set_option maxRecDepth 100000
set_option maxHeartbeats 2000000
def prCells (p : Int × Int) : List Value := [.int .i64 p.1, .int .i64 p.2]
def cornersL (a b : Sp) : List (Int × Int) := [(a.lo, b.lo), (a.lo, b.hi), (a.hi, b.lo), (a.hi, b.hi)]
/-- The corners lie in a block. -/
def LAt (w : World) (b1 : Nat) (a b : Sp) : Prop := ∀ i x, ((cornersL a b).flatMap prCells)[i]? = some x → w.cell? ⟨b1, i, none⟩ = some x
theorem LAt.elem {w : World} {b1 : Nat} {a b : Sp} (h : LAt w b1 a b) (k : Nat) (hk : k < 4) : w.cell? ⟨b1, k * 2, none⟩ = some (.int .i64 ((cornersL a b)[k]?.getD (0, 0)).1) ∧ w.cell? ⟨b1, k * 2 + 1, none⟩ = some (.int .i64 ((cornersL a b)[k]?.getD (0, 0)).2) := by
  match k, hk with
  | 0, _ => exact ⟨h 0 _ rfl, h 1 _ rfl⟩
  | 1, _ => exact ⟨h 2 _ rfl, h 3 _ rfl⟩
  | 2, _ => exact ⟨h 4 _ rfl, h 5 _ rfl⟩
  | 3, _ => exact ⟨h 6 _ rfl, h 7 _ rfl⟩
def RetCor (a b : Sp) (w : World) (e : Ending) (w' : World) : Prop := ∃ b1, e = .returned (.slice (some ⟨b1, 0, none⟩) 4 4) ∧ w.heap.size ≤ b1 ∧ LAt w' b1 a b ∧ Grew w w'
/-- The running least, and greatest. -/
def loK (f : Nat → Int) : Nat → Int
  | 0 => 0
  | k + 1 => if k = 0 then f 0 else if f k < loK f k then f k else loK f k
def hiK (f : Nat → Int) : Nat → Int
  | 0 => 0
  | k + 1 => if k = 0 then f 0 else if hiK f k < f k then f k else hiK f k
def prodK (a b : Sp) (k : Nat) : Int := ((cornersL a b)[k]?.getD (0, 0)).1 * ((cornersL a b)[k]?.getD (0, 0)).2
def mulRound (a b : Sp) (B6 B7 : Nat) (w : World) (k : Nat) (wr : World) : Prop := Grew w wr ∧ BoxAt wr (w.heap.size + 1 + 1) [.int .i64 0, .int .i64 0] ∧ BoxAt wr B6 [.int .i64 (mkW (loK (prodK a b) k)).h, .int .u64 (mkW (loK (prodK a b) k)).l] ∧ BoxAt wr B7 [.int .i64 (mkW (hiK (prodK a b) k)).h, .int .u64 (mkW (hiK (prodK a b) k)).l]
end Go.Proofs.YtkeifgcncmilmaaGreat
