/-
  Contracts: flight.Joint of states that are not valid, or of other times.
  Contracts: flight.Joint.
-/
import Derived.Test.YtkeifgcncmilmaaGreatJointS
namespace Go.Proofs.YtkeifgcncmilmaaGreat
open Go.RowKit Go.Shelf
set_option maxRecDepth 100000
set_option maxHeartbeats 8000000
end Go.Proofs.YtkeifgcncmilmaaGreat
namespace Go.Proofs.YtkeifgcncmilmaaGreat
open Go.RowKit Go.Shelf
set_option maxRecDepth 100000
set_option maxHeartbeats 8000000
end Go.Proofs.YtkeifgcncmilmaaGreat
