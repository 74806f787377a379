/-
  Contract: the hull (span).
-/
import Derived.Test.YtdkfkalplmgoeaaSpanAdd
namespace Go.Proofs.Ytdkfkalplmgoeaa
open Go.RowKit
set_option maxRecDepth 100000
set_option maxHeartbeats 8000000
theorem spHull_any (a b : Sp) (w : World) : Calls Try.prog 118 #[.agg #[.int .i64 a.lo, .int .i64 a.hi], .agg #[.int .i64 b.lo, .int .i64 b.hi]] w fun e w' => e = .returned (.tuple #[.agg #[.int .i64 (hullR a b).s.lo, .int .i64 (hullR a b).s.hi], .int .i64 (hullR a b).e]) ∧ Grew w w' := by
  cases hk : (a.okB && b.okB)
  · have Hf := Lib.hid (show errR 2 = hullR a b by unfold hullR; rw [hk]; rfl)
    go_enter Try.func118, Try.ntmps118
    go_wp2_with (first | (go_at_call 51; (with_reducible refine call_later (spChecked_no a b hk _ _ (SlAt.fresh _ _ _ _ (by simp [maxLen]))) ?_); intro u))
    refine bodyPost_ret (by (simp [results, Try.results118, go_sem] <;> rfl)) rfl ?_
    exact ⟨ret_err Hf.out rfl, gw⟩
  · have Hf := Lib.hid (show (⟨hullS a b, 0⟩ : Res) = hullR a b by unfold hullR; rw [hk]; rfl)
    go_enter Try.func118, Try.ntmps118
    go_wp2_with (first | (go_at_call 51; (with_reducible refine call_later (spChecked_yes a b hk _ _ (SlAt.fresh _ _ _ _ (by simp [maxLen]))) ?_); intro u))
    all_goals
      refine bodyPost_ret (by (simp [results, Try.results118, go_sem] <;> rfl)) rfl ?_
      exact ⟨ret_res (by rw [← Hf.out]; unfold hullS imin imax; congr 2 <;> (repeat' split) <;> omega), gw⟩
end Go.Proofs.Ytdkfkalplmgoeaa
