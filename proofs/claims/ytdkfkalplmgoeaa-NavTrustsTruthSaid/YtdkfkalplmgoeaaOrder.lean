/-
  Contracts: the order of two spans (span, ullageref01).
-/
import Derived.Test.YtdkfkalplmgoeaaSpanAdd
import Derived.Test.YtdkfkalplmgoeaaRefOpsAll
namespace Go.Proofs.Ytdkfkalplmgoeaa
open Go.RowKit
set_option maxRecDepth 100000
set_option maxHeartbeats 2000000
def orderN (a b : Sp) : Int := if a.okB && b.okB then (if a.hi < b.lo then -1 else if b.hi < a.lo then 1 else 0) else 0
end Go.Proofs.Ytdkfkalplmgoeaa
