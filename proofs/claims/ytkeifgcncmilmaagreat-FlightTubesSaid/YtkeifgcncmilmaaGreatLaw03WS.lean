/-
  Words of the statements about single steps: a table that is long, the argument Move opened.
-/
import Derived.Test.YtkeifgcncmilmaaGreatAlive03S
import Derived.Test.YtkeifgcncmilmaaGreatOpenAllS
namespace Go.Proofs.YtkeifgcncmilmaaGreat
open Go.RowKit Go.ChangeShapes Go.WideShapes Go.ChangeAt Go.Deep
set_option maxRecDepth 100000
set_option maxHeartbeats 16000000
theorem b64_of {b : Bx} (h1 : I64 b.x.lo) (h2 : I64 b.x.hi) (h3 : I64 b.y.lo) (h4 : I64 b.y.hi) (h5 : I64 b.z.lo) (h6 : I64 b.z.hi) : B64 b := ⟨⟨h1, h2⟩, ⟨h3, h4⟩, ⟨h5, h6⟩⟩
def Arc.longB (a : Arc) : Bool := decide (70 < a.drag.n)
section
variable {H : Type} {enc : TypeId × Value → H} {w : World} {base : Nat} {spare : Nat → Bool} {held : Bool}
end
end Go.Proofs.YtkeifgcncmilmaaGreat
