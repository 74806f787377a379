/-
  Measurements and reports; contracts of nav.CheckRadio, ullageref06.CheckRadio.
-/
import Derived.Test.YtdkfkalplmgoeaaFlightOks
namespace Go.Proofs.Ytdkfkalplmgoeaa
open Go.RowKit
set_option maxRecDepth 100000
set_option maxHeartbeats 16000000
structure Radio where
  kind : Int
  place : Bx
  dir : Bx
  value : Sp
structure Report where
  node : Int
  sensor : Int
  heard : Radio
def Radio.okB (m : Radio) : Bool := decide (0 ≤ m.kind) && decide (m.kind ≤ 3) && m.place.okB && m.dir.okB && m.value.okB
end Go.Proofs.Ytdkfkalplmgoeaa
