/-
  Plain law: long division, quotients rounded down and up.
-/
import Derived.Test.YtkeifgcncmilmaaGreatWidesS
import Derived.Test.YtkeifgcncmilmaaGreatSpanMul2S
namespace Go.Proofs.YtkeifgcncmilmaaGreat
open Go.RowKit
theorem upZ_law (m d : Int) (hd : 1 ≤ d) : upZ m d = if m % d = 0 then m / d else m / d + 1 := up_law m d hd
end Go.Proofs.YtkeifgcncmilmaaGreat
