/-
  Two boxes that are the same are equal.
-/
import Derived.Test.YtkeifgcncmilmaaGreatProg
import Derived.Test.YtkeifgcncmilmaaGreatCoreS
import Derived.ChangeKeysEq
namespace Go.Proofs.YtkeifgcncmilmaaGreat
open Go.RowKit
set_option maxRecDepth 100000
theorem spanInfo : (Tryz.prog.info? 24).isSome = true := by kernel_rfl
end Go.Proofs.YtkeifgcncmilmaaGreat
