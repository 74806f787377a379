/-
  Contracts: flight.Joint of states that are not valid, or of other times.
-/
import Derived.Test.YtfcdpilkcinnjaaJoint
namespace Go.Proofs.Ytfcdpilkcinnjaa
open Go.RowKit Go.Shelf
set_option maxRecDepth 100000
set_option maxHeartbeats 8000000
theorem flJoint_bad (a b : State) (h : (a.okB && b.okB) = false) (w : World) : Calls Try.prog 11 #[.agg #[.int .i64 a.t, .int .i64 a.p.x.lo, .int .i64 a.p.x.hi, .int .i64 a.p.y.lo, .int .i64 a.p.y.hi, .int .i64 a.p.z.lo, .int .i64 a.p.z.hi, .int .i64 a.v.x.lo, .int .i64 a.v.x.hi, .int .i64 a.v.y.lo, .int .i64 a.v.y.hi, .int .i64 a.v.z.lo, .int .i64 a.v.z.hi, .int .i64 a.m.lo, .int .i64 a.m.hi], .agg #[.int .i64 b.t, .int .i64 b.p.x.lo, .int .i64 b.p.x.hi, .int .i64 b.p.y.lo, .int .i64 b.p.y.hi, .int .i64 b.p.z.lo, .int .i64 b.p.z.hi, .int .i64 b.v.x.lo, .int .i64 b.v.x.hi, .int .i64 b.v.y.lo, .int .i64 b.v.y.hi, .int .i64 b.v.z.lo, .int .i64 b.v.z.hi, .int .i64 b.m.lo, .int .i64 b.m.hi]] w (RetSt (jointR a b) w) := by
  have HR := Lib.hid (show (⟨zState, 2⟩ : SRes) = jointR a b by unfold jointR; rw [h]; rfl)
  cases h1 : a.okB
  · go_enter Try.func11, Try.ntmps11
    go_wp2_with (first | (go_at_call 22; (with_reducible refine call_later (flState_no a h1 _) ?_); intro u) | ((with_reducible refine wp_region_later ?_ ?_ ?_); (· kernel_rfl); (· kernel_rfl); (try simp only [List.append_eq, List.cons_append, List.nil_append]); (repeat (go_big_quiet_step ((first | (go_at_call 22; (with_reducible exact call_quiet (flState_no a h1 _))))))); refine wpQuiet_nil ?_; rintro _ ⟨u, rfl⟩))
    refine bodyPost_ret (by (simp [results, Try.results11, go_sem] <;> rfl)) rfl ?_
    exact ⟨ret_state HR.out, gw⟩
  · have h2 : b.okB = false := by rw [h1] at h; simpa using h
    clear h
    go_enter Try.func11, Try.ntmps11
    go_wp2_with (first | (go_at_call 22; (with_reducible refine call_later (flState_yes a h1 _) ?_); intro u) | (go_at_call 22; (with_reducible refine call_later (flState_no b h2 _) ?_); intro u) | ((with_reducible refine wp_region_later ?_ ?_ ?_); (· kernel_rfl); (· kernel_rfl); (try simp only [List.append_eq, List.cons_append, List.nil_append]); (repeat (go_big_quiet_step ((first | (go_at_call 22; (with_reducible exact call_quiet (flState_yes a h1 _))) | (go_at_call 22; (with_reducible exact call_quiet (flState_no b h2 _))))))); refine wpQuiet_nil ?_; rintro _ ⟨u, rfl⟩))
    refine bodyPost_ret (by (simp [results, Try.results11, go_sem] <;> rfl)) rfl ?_
    exact ⟨ret_state HR.out, gw⟩
theorem flJoint_apart (a b : State) (h1 : a.okB = true) (h2 : b.okB = true) (ht : a.t ≠ b.t) (w : World) : Calls Try.prog 11 #[.agg #[.int .i64 a.t, .int .i64 a.p.x.lo, .int .i64 a.p.x.hi, .int .i64 a.p.y.lo, .int .i64 a.p.y.hi, .int .i64 a.p.z.lo, .int .i64 a.p.z.hi, .int .i64 a.v.x.lo, .int .i64 a.v.x.hi, .int .i64 a.v.y.lo, .int .i64 a.v.y.hi, .int .i64 a.v.z.lo, .int .i64 a.v.z.hi, .int .i64 a.m.lo, .int .i64 a.m.hi], .agg #[.int .i64 b.t, .int .i64 b.p.x.lo, .int .i64 b.p.x.hi, .int .i64 b.p.y.lo, .int .i64 b.p.y.hi, .int .i64 b.p.z.lo, .int .i64 b.p.z.hi, .int .i64 b.v.x.lo, .int .i64 b.v.x.hi, .int .i64 b.v.y.lo, .int .i64 b.v.y.hi, .int .i64 b.v.z.lo, .int .i64 b.v.z.hi, .int .i64 b.m.lo, .int .i64 b.m.hi]] w (RetSt (jointR a b) w) := by
  have HR := Lib.hid (show (⟨zState, 9⟩ : SRes) = jointR a b by unfold jointR; rw [h1, h2, if_pos (by rfl), if_neg ht])
  have ht' : (a.t != b.t) = true := by simp [ht]
  clear ht
  go_enter Try.func11, Try.ntmps11
  go_wp2_with (first | (go_at_call 22; (with_reducible refine call_later (flState_yes a h1 _) ?_); intro u) | (go_at_call 22; (with_reducible refine call_later (flState_yes b h2 _) ?_); intro u) | ((with_reducible refine wp_region_later ?_ ?_ ?_); (· kernel_rfl); (· kernel_rfl); (try simp only [List.append_eq, List.cons_append, List.nil_append]); (repeat (go_big_quiet_step ((first | (go_at_call 22; (with_reducible exact call_quiet (flState_yes a h1 _))) | (go_at_call 22; (with_reducible exact call_quiet (flState_yes b h2 _))))))); refine wpQuiet_nil ?_; rintro _ ⟨u, rfl⟩))
  refine bodyPost_ret (by (simp [results, Try.results11, go_sem] <;> rfl)) rfl ?_
  exact ⟨ret_state HR.out, gw⟩
end Go.Proofs.Ytfcdpilkcinnjaa
