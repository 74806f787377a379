/-
  Two boxes that are the same are equal.
-/
import Derived.Test.YtkeifgcncmilmaaProg
import Derived.Test.YtkeifgcncmilmaaCore
import Derived.ChangeKeysEq
namespace Go.Proofs.Ytkeifgcncmilmaa
open Go.RowKit
set_option maxRecDepth 100000
theorem spanInfo : (Try.prog.info? 39).isSome = true := by kernel_rfl
theorem eqBox (x0 x1 x2 x3 x4 x5 : Int) (w : World) :
    (Op.equalIn 9999 41 (.agg #[.int .i64 x0, .int .i64 x1, .int .i64 x2, .int .i64 x3, .int .i64 x4, .int .i64 x5]) (.agg #[.int .i64 x0, .int .i64 x1, .int .i64 x2, .int .i64 x3, .int .i64 x4, .int .i64 x5])).run Try.prog w = .ok true w := by
  obtain ⟨i, hi⟩ := Option.isSome_iff_exists.1 spanInfo
  rw [run_equalIn_array w 9998 _ _ Try.underlying41 hi]
  have hC : Try.prog.cellsOf 39 = 2 := by kernel_rfl
  rw [hC]
  have hr : List.range 3 = [0, 1, 2] := rfl
  rw [hr]
  simp [go_sem, Op.eqItems]
end Go.Proofs.Ytkeifgcncmilmaa
