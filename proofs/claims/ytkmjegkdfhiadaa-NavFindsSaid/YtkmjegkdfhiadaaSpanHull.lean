/-
  Contract: the hull (span).
-/
import Derived.Test.YtkmjegkdfhiadaaSpanAdd
namespace Go.Proofs.Ytkmjegkdfhiadaa
open Go.RowKit
set_option maxRecDepth 100000
set_option maxHeartbeats 8000000
theorem spHull_any (a b : Sp) (w : World) : Calls Try.prog 115 #[.agg #[.int .i64 a.lo, .int .i64 a.hi], .agg #[.int .i64 b.lo, .int .i64 b.hi]] w fun e w' => e = .returned (.tuple #[.agg #[.int .i64 (hullR a b).s.lo, .int .i64 (hullR a b).s.hi], .int .i64 (hullR a b).e]) ∧ Grew w w' := by
  cases hk : (a.okB && b.okB)
  · have Hf := Lib.hid (show errR 2 = hullR a b by unfold hullR; rw [hk]; rfl)
    go_enter Try.func115, Try.ntmps115
    go_wp2_with (first | (go_at_call 40; (with_reducible refine call_later (spChecked_no a b hk _ _ (SlAt.fresh _ _ _ _ (by simp [maxLen]))) ?_); intro u) | ((with_reducible refine wp_region_later ?_ ?_ ?_); (· kernel_rfl); (· kernel_rfl); (try simp only [List.append_eq, List.cons_append, List.nil_append]); (repeat (go_big_quiet_step ((first | (go_at_call 40; (with_reducible exact call_quiet (spChecked_no a b hk _ _ (SlAt.fresh _ _ _ _ (by simp [maxLen]))))))))); refine wpQuiet_nil ?_; rintro _ ⟨u, rfl⟩))
    refine bodyPost_ret (by (simp [results, Try.results115, go_sem] <;> rfl)) rfl ?_
    exact ⟨ret_err Hf.out rfl, gw⟩
  · have Hf := Lib.hid (show (⟨hullS a b, 0⟩ : Res) = hullR a b by unfold hullR; rw [hk]; rfl)
    go_enter Try.func115, Try.ntmps115
    go_wp2_with (first | (go_at_call 40; (with_reducible refine call_later (spChecked_yes a b hk _ _ (SlAt.fresh _ _ _ _ (by simp [maxLen]))) ?_); intro u) | ((with_reducible refine wp_region_later ?_ ?_ ?_); (· kernel_rfl); (· kernel_rfl); (try simp only [List.append_eq, List.cons_append, List.nil_append]); (repeat (go_big_quiet_step ((first | (go_at_call 40; (with_reducible exact call_quiet (spChecked_yes a b hk _ _ (SlAt.fresh _ _ _ _ (by simp [maxLen]))))))))); refine wpQuiet_nil ?_; rintro _ ⟨u, rfl⟩))
    all_goals
      refine bodyPost_ret (by (simp [results, Try.results115, go_sem] <;> rfl)) rfl ?_
      exact ⟨ret_res (by rw [← Hf.out]; unfold hullS imin imax; congr 2 <;> (repeat' split) <;> omega), gw⟩
end Go.Proofs.Ytkmjegkdfhiadaa
