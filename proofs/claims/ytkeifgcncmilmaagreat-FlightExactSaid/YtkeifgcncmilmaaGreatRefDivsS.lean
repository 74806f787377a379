/-
  Contracts: ullageref01's divide, Quotient, over.
  Contracts: ullageref01's Quotient, over, Div.
  Contracts: ullageref01's Div.
  Contracts: ullageref01's Scale, Hull, Int, Whole, Dot1, and more operations of its Calc.
-/
import Derived.Test.YtkeifgcncmilmaaGreatDivLawS
import Derived.Test.YtkeifgcncmilmaaGreatLexAllS
import Derived.Test.YtkeifgcncmilmaaGreatRefOpsAllS
import Derived.Test.YtkeifgcncmilmaaGreatCalcsS
namespace Go.Proofs.YtkeifgcncmilmaaGreat
open Go.RowKit
set_option maxRecDepth 100000
set_option maxHeartbeats 2000000
def divRound (x b : Int) (w : World) (B7 B8 : Nat) (n : Nat) (wr : World) : Prop := Grew w wr ∧ BoxAt wr w.heap.size [.int .i64 (mkW x).h, .int .u64 (mkW x).l] ∧ BoxAt wr (w.heap.size + 1) [.int .i64 (mkW b).h, .int .u64 (mkW b).l] ∧ BoxAt wr (w.heap.size + 1 + 1) [.int .i64 0, .int .u64 0] ∧ BoxAt wr (w.heap.size + 1 + 1 + 1) [.int .i64 0, .int .u64 0] ∧
  BoxAt wr B7 [.int .i64 (mkW (x / 2 ^ n / b)).h, .int .u64 (mkW (x / 2 ^ n / b)).l] ∧ BoxAt wr B8 [.int .i64 (mkW (x / 2 ^ n % b)).h, .int .u64 (mkW (x / 2 ^ n % b)).l]
end Go.Proofs.YtkeifgcncmilmaaGreat
namespace Go.Proofs.YtkeifgcncmilmaaGreat
open Go.RowKit
set_option maxRecDepth 100000
set_option maxHeartbeats 4000000
end Go.Proofs.YtkeifgcncmilmaaGreat
namespace Go.Proofs.YtkeifgcncmilmaaGreat
open Go.RowKit
set_option maxRecDepth 100000
set_option maxHeartbeats 4000000
def ratDK (a b : Sp) (k : Nat) : Int := ratDown ((cornersL a b)[k]?.getD (0, 0)).1 ((cornersL a b)[k]?.getD (0, 0)).2
def ratUK (a b : Sp) (k : Nat) : Int := ratUp ((cornersL a b)[k]?.getD (0, 0)).1 ((cornersL a b)[k]?.getD (0, 0)).2
end Go.Proofs.YtkeifgcncmilmaaGreat
namespace Go.Proofs.YtkeifgcncmilmaaGreat
open Go.RowKit Go.Shelf
set_option maxRecDepth 100000
set_option maxHeartbeats 2000000
/-- A small integer as a span. -/
def wholeS (n : Int) : Sp := ⟨n * 4294967296, n * 4294967296⟩
end Go.Proofs.YtkeifgcncmilmaaGreat
