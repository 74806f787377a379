/-
  Contracts: the order of two spans (span, ullageref01).
-/
import Derived.Test.YtnedbhdokljpcaaGreatSpanAdd
import Derived.Test.YtnedbhdokljpcaaGreatRefOpsAll
namespace Go.Proofs.YtnedbhdokljpcaaGreat
open Go.RowKit
set_option maxRecDepth 100000
set_option maxHeartbeats 2000000
def orderN (a b : Sp) : Int := if a.okB && b.okB then (if a.hi < b.lo then -1 else if b.hi < a.lo then 1 else 0) else 0
theorem spOrder_any (a b : Sp) (w : World) : Calls Tryz.prog 65 #[.agg #[.int .i64 a.lo, .int .i64 a.hi], .agg #[.int .i64 b.lo, .int .i64 b.hi]] w fun e w' => e = .returned (.int .i64 (orderN a b)) ∧ Grew w w' := by
  cases hk : (a.okB && b.okB)
  · have Hf := Lib.hid (show orderN a b = 0 by unfold orderN; rw [hk]; rfl)
    go_enter Tryz.func65, Tryz.ntmps65
    go_wp2_with (first | (go_at_call 124; (with_reducible refine call_later (spChecked_no a b hk _ _ (SlAt.fresh _ _ _ _ (by simp [maxLen]))) ?_); intro u) | ((with_reducible refine wp_region_later ?_ ?_ ?_); (· kernel_rfl); (· kernel_rfl); (try simp only [List.append_eq, List.cons_append, List.nil_append]); (repeat (go_big_quiet_step ((first | (go_at_call 124; (with_reducible exact call_quiet (spChecked_no a b hk _ _ (SlAt.fresh _ _ _ _ (by simp [maxLen]))))))))); refine wpQuiet_nil ?_; rintro _ ⟨u, rfl⟩))
    all_goals go_ret
    all_goals exact ⟨ret_int Hf.out.symm, (by repeat (first | with_reducible exact Grew.refl _ | with_reducible apply Grew.alloc | with_reducible apply Grew.later | with_reducible apply Grew.drew | with_reducible apply Grew.store | with_reducible assumption))⟩
  · have Hf := Lib.hid (show orderN a b = if a.hi < b.lo then -1 else if b.hi < a.lo then 1 else 0 by unfold orderN; rw [hk]; rfl)
    by_cases h1 : a.hi < b.lo
    · rw [if_pos h1] at Hf
      go_enter Tryz.func65, Tryz.ntmps65
      go_wp2_with (first | (go_at_call 124; (with_reducible refine call_later (spChecked_yes a b hk _ _ (SlAt.fresh _ _ _ _ (by simp [maxLen]))) ?_); intro u) | ((with_reducible refine wp_region_later ?_ ?_ ?_); (· kernel_rfl); (· kernel_rfl); (try simp only [List.append_eq, List.cons_append, List.nil_append]); (repeat (go_big_quiet_step ((first | (go_at_call 124; (with_reducible exact call_quiet (spChecked_yes a b hk _ _ (SlAt.fresh _ _ _ _ (by simp [maxLen]))))))))); refine wpQuiet_nil ?_; rintro _ ⟨u, rfl⟩))
      all_goals go_ret
      all_goals exact ⟨ret_int Hf.out.symm, (by repeat (first | with_reducible exact Grew.refl _ | with_reducible apply Grew.alloc | with_reducible apply Grew.later | with_reducible apply Grew.drew | with_reducible apply Grew.store | with_reducible assumption))⟩
    · rw [if_neg h1] at Hf
      by_cases h2 : b.hi < a.lo
      · rw [if_pos h2] at Hf
        go_enter Tryz.func65, Tryz.ntmps65
        go_wp2_with (first | (go_at_call 124; (with_reducible refine call_later (spChecked_yes a b hk _ _ (SlAt.fresh _ _ _ _ (by simp [maxLen]))) ?_); intro u) | ((with_reducible refine wp_region_later ?_ ?_ ?_); (· kernel_rfl); (· kernel_rfl); (try simp only [List.append_eq, List.cons_append, List.nil_append]); (repeat (go_big_quiet_step ((first | (go_at_call 124; (with_reducible exact call_quiet (spChecked_yes a b hk _ _ (SlAt.fresh _ _ _ _ (by simp [maxLen]))))))))); refine wpQuiet_nil ?_; rintro _ ⟨u, rfl⟩))
        all_goals go_ret
        all_goals exact ⟨ret_int Hf.out.symm, (by repeat (first | with_reducible exact Grew.refl _ | with_reducible apply Grew.alloc | with_reducible apply Grew.later | with_reducible apply Grew.drew | with_reducible apply Grew.store | with_reducible assumption))⟩
      · rw [if_neg h2] at Hf
        go_enter Tryz.func65, Tryz.ntmps65
        go_wp2_with (first | (go_at_call 124; (with_reducible refine call_later (spChecked_yes a b hk _ _ (SlAt.fresh _ _ _ _ (by simp [maxLen]))) ?_); intro u) | ((with_reducible refine wp_region_later ?_ ?_ ?_); (· kernel_rfl); (· kernel_rfl); (try simp only [List.append_eq, List.cons_append, List.nil_append]); (repeat (go_big_quiet_step ((first | (go_at_call 124; (with_reducible exact call_quiet (spChecked_yes a b hk _ _ (SlAt.fresh _ _ _ _ (by simp [maxLen]))))))))); refine wpQuiet_nil ?_; rintro _ ⟨u, rfl⟩))
        all_goals go_ret
        all_goals exact ⟨ret_int Hf.out.symm, (by repeat (first | with_reducible exact Grew.refl _ | with_reducible apply Grew.alloc | with_reducible apply Grew.later | with_reducible apply Grew.drew | with_reducible apply Grew.store | with_reducible assumption))⟩
theorem rOrder_any (a b : Sp) (w : World) : Calls Tryz.prog 68 #[.agg #[.int .i64 a.lo, .int .i64 a.hi], .agg #[.int .i64 b.lo, .int .i64 b.hi]] w fun e w' => e = .returned (.int .i64 (orderN a b)) ∧ Grew w w' := by
  cases hk : (a.okB && b.okB)
  · have Hf := Lib.hid (show orderN a b = 0 by unfold orderN; rw [hk]; rfl)
    go_enter Tryz.func68, Tryz.ntmps68
    go_wp2_with (first | (go_at_call 126; (with_reducible refine call_later (rBoth_no a b hk _) ?_); intro u) | ((with_reducible refine wp_region_later ?_ ?_ ?_); (· kernel_rfl); (· kernel_rfl); (try simp only [List.append_eq, List.cons_append, List.nil_append]); (repeat (go_big_quiet_step ((first | (go_at_call 126; (with_reducible exact call_quiet (rBoth_no a b hk _))))))); refine wpQuiet_nil ?_; rintro _ ⟨u, rfl⟩))
    all_goals go_ret
    all_goals exact ⟨ret_int Hf.out.symm, (by repeat (first | with_reducible exact Grew.refl _ | with_reducible apply Grew.alloc | with_reducible apply Grew.later | with_reducible apply Grew.drew | with_reducible apply Grew.store | with_reducible assumption))⟩
  · have Hf := Lib.hid (show orderN a b = if a.hi < b.lo then -1 else if b.hi < a.lo then 1 else 0 by unfold orderN; rw [hk]; rfl)
    by_cases h1 : a.hi < b.lo
    · rw [if_pos h1] at Hf
      go_enter Tryz.func68, Tryz.ntmps68
      go_wp2_with (first | (go_at_call 126; (with_reducible refine call_later (rBoth_yes a b hk _) ?_); intro u) | ((with_reducible refine wp_region_later ?_ ?_ ?_); (· kernel_rfl); (· kernel_rfl); (try simp only [List.append_eq, List.cons_append, List.nil_append]); (repeat (go_big_quiet_step ((first | (go_at_call 126; (with_reducible exact call_quiet (rBoth_yes a b hk _))))))); refine wpQuiet_nil ?_; rintro _ ⟨u, rfl⟩))
      all_goals go_ret
      all_goals exact ⟨ret_int Hf.out.symm, (by repeat (first | with_reducible exact Grew.refl _ | with_reducible apply Grew.alloc | with_reducible apply Grew.later | with_reducible apply Grew.drew | with_reducible apply Grew.store | with_reducible assumption))⟩
    · rw [if_neg h1] at Hf
      by_cases h2 : b.hi < a.lo
      · rw [if_pos h2] at Hf
        go_enter Tryz.func68, Tryz.ntmps68
        go_wp2_with (first | (go_at_call 126; (with_reducible refine call_later (rBoth_yes a b hk _) ?_); intro u) | ((with_reducible refine wp_region_later ?_ ?_ ?_); (· kernel_rfl); (· kernel_rfl); (try simp only [List.append_eq, List.cons_append, List.nil_append]); (repeat (go_big_quiet_step ((first | (go_at_call 126; (with_reducible exact call_quiet (rBoth_yes a b hk _))))))); refine wpQuiet_nil ?_; rintro _ ⟨u, rfl⟩))
        all_goals go_ret
        all_goals exact ⟨ret_int Hf.out.symm, (by repeat (first | with_reducible exact Grew.refl _ | with_reducible apply Grew.alloc | with_reducible apply Grew.later | with_reducible apply Grew.drew | with_reducible apply Grew.store | with_reducible assumption))⟩
      · rw [if_neg h2] at Hf
        go_enter Tryz.func68, Tryz.ntmps68
        go_wp2_with (first | (go_at_call 126; (with_reducible refine call_later (rBoth_yes a b hk _) ?_); intro u) | ((with_reducible refine wp_region_later ?_ ?_ ?_); (· kernel_rfl); (· kernel_rfl); (try simp only [List.append_eq, List.cons_append, List.nil_append]); (repeat (go_big_quiet_step ((first | (go_at_call 126; (with_reducible exact call_quiet (rBoth_yes a b hk _))))))); refine wpQuiet_nil ?_; rintro _ ⟨u, rfl⟩))
        all_goals go_ret
        all_goals exact ⟨ret_int Hf.out.symm, (by repeat (first | with_reducible exact Grew.refl _ | with_reducible apply Grew.alloc | with_reducible apply Grew.later | with_reducible apply Grew.drew | with_reducible apply Grew.store | with_reducible assumption))⟩
end Go.Proofs.YtnedbhdokljpcaaGreat
