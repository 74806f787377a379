/-
  Contracts: the order of two spans (span, ullageref01).
-/
import Derived.Test.YtkeifgcncmilmaaGreatSpanAddS
import Derived.Test.YtkeifgcncmilmaaGreatRefOpsAllS
namespace Go.Proofs.YtkeifgcncmilmaaGreat
open Go.RowKit
set_option maxRecDepth 100000
set_option maxHeartbeats 2000000
def orderN (a b : Sp) : Int := if a.okB && b.okB then (if a.hi < b.lo then -1 else if b.hi < a.lo then 1 else 0) else 0
theorem spOrder_any (a b : Sp) (w : World) : Calls Tryz.prog 21 #[.agg #[.int .i64 a.lo, .int .i64 a.hi], .agg #[.int .i64 b.lo, .int .i64 b.hi]] w fun e w' => e = .returned (.int .i64 (orderN a b)) ∧ Grew w w' := by
  cases hk : (a.okB && b.okB)
  · have Hf := Lib.hid (show orderN a b = 0 by unfold orderN; rw [hk]; rfl)
    go_enter Tryz.func21, Tryz.ntmps21
    go_wp2_with (first | (go_at_call 47; (with_reducible refine call_later (spChecked_no a b hk _ _ (SlAt.fresh _ _ _ _ (by simp [maxLen]))) ?_); intro u) | ((with_reducible refine wp_region_later ?_ ?_ ?_); (· kernel_rfl); (· kernel_rfl); (try simp only [List.append_eq, List.cons_append, List.nil_append]); (repeat (go_big_quiet_step ((first | (go_at_call 47; (with_reducible exact call_quiet (spChecked_no a b hk _ _ (SlAt.fresh _ _ _ _ (by simp [maxLen]))))))))); refine wpQuiet_nil ?_; rintro _ ⟨u, rfl⟩))
    all_goals go_ret
    all_goals exact ⟨ret_int Hf.out.symm, gw⟩
  · have Hf := Lib.hid (show orderN a b = if a.hi < b.lo then -1 else if b.hi < a.lo then 1 else 0 by unfold orderN; rw [hk]; rfl)
    by_cases h1 : a.hi < b.lo
    · rw [if_pos h1] at Hf
      go_enter Tryz.func21, Tryz.ntmps21
      go_wp2_with (first | (go_at_call 47; (with_reducible refine call_later (spChecked_yes a b hk _ _ (SlAt.fresh _ _ _ _ (by simp [maxLen]))) ?_); intro u) | ((with_reducible refine wp_region_later ?_ ?_ ?_); (· kernel_rfl); (· kernel_rfl); (try simp only [List.append_eq, List.cons_append, List.nil_append]); (repeat (go_big_quiet_step ((first | (go_at_call 47; (with_reducible exact call_quiet (spChecked_yes a b hk _ _ (SlAt.fresh _ _ _ _ (by simp [maxLen]))))))))); refine wpQuiet_nil ?_; rintro _ ⟨u, rfl⟩))
      all_goals go_ret
      all_goals exact ⟨ret_int Hf.out.symm, gw⟩
    · rw [if_neg h1] at Hf
      by_cases h2 : b.hi < a.lo
      · rw [if_pos h2] at Hf
        go_enter Tryz.func21, Tryz.ntmps21
        go_wp2_with (first | (go_at_call 47; (with_reducible refine call_later (spChecked_yes a b hk _ _ (SlAt.fresh _ _ _ _ (by simp [maxLen]))) ?_); intro u) | ((with_reducible refine wp_region_later ?_ ?_ ?_); (· kernel_rfl); (· kernel_rfl); (try simp only [List.append_eq, List.cons_append, List.nil_append]); (repeat (go_big_quiet_step ((first | (go_at_call 47; (with_reducible exact call_quiet (spChecked_yes a b hk _ _ (SlAt.fresh _ _ _ _ (by simp [maxLen]))))))))); refine wpQuiet_nil ?_; rintro _ ⟨u, rfl⟩))
        all_goals go_ret
        all_goals exact ⟨ret_int Hf.out.symm, gw⟩
      · rw [if_neg h2] at Hf
        go_enter Tryz.func21, Tryz.ntmps21
        go_wp2_with (first | (go_at_call 47; (with_reducible refine call_later (spChecked_yes a b hk _ _ (SlAt.fresh _ _ _ _ (by simp [maxLen]))) ?_); intro u) | ((with_reducible refine wp_region_later ?_ ?_ ?_); (· kernel_rfl); (· kernel_rfl); (try simp only [List.append_eq, List.cons_append, List.nil_append]); (repeat (go_big_quiet_step ((first | (go_at_call 47; (with_reducible exact call_quiet (spChecked_yes a b hk _ _ (SlAt.fresh _ _ _ _ (by simp [maxLen]))))))))); refine wpQuiet_nil ?_; rintro _ ⟨u, rfl⟩))
        all_goals go_ret
        all_goals exact ⟨ret_int Hf.out.symm, gw⟩
end Go.Proofs.YtkeifgcncmilmaaGreat
