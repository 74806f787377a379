/-
  Contracts of nav's operations that end a cut with their error: mul, div, norm, dot.
-/
import Derived.Test.YtkmjegkdfhiadaaNavLaw
import Derived.Test.YtkmjegkdfhiadaaNavCalls
import Derived.Test.YtkmjegkdfhiadaaFlightCalc
import Derived.Test.YtkmjegkdfhiadaaSpanDivs
import Derived.Deep.RegionHeld3
namespace Go.Proofs.Ytkmjegkdfhiadaa
open Go.RowKit Go.Shelf
set_option maxRecDepth 100000
set_option maxHeartbeats 4000000
theorem navDiv_any (a b : Sp) [ha : S64 a] [hb : S64 b] (w : World) : Calls Try.prog 70 #[.agg #[.int .i64 a.lo, .int .i64 a.hi], .agg #[.int .i64 b.lo, .int .i64 b.hi]] w (Stops (.agg #[.int .i64 ((divR a b).s).lo, .int .i64 ((divR a b).s).hi]) (divR a b).e w) := by
  by_cases hc : (divR a b).e = 0
  · have HM := Lib.hid (fun w' => stops_ok (must_any (divR a b).s (divR a b).e w') hc)
    have Hc := Lib.hid hc
    clear hc
    go_enter Try.func70, Try.ntmps70
    go_wp2_with (first | (go_at_call 94; (with_reducible refine call_later (spDiv_any a b _) ?_); intro u) | (go_at_call 95; (with_reducible refine call_later (HM.out _) ?_); intro u9) | ((with_reducible refine wp_region_later ?_ ?_ ?_); (· kernel_rfl); (· kernel_rfl); (try simp only [List.append_eq, List.cons_append, List.nil_append]); (repeat (go_big_quiet_step ((first | (go_at_call 94; (with_reducible exact call_quiet (spDiv_any a b _))))))); refine wpQuiet_nil ?_; rintro _ ⟨u, rfl⟩))
    refine bodyPost_ret (by (simp [results, Try.results70, go_sem] <;> rfl)) rfl ?_
    exact stops_ret Hc.out rfl gw
  · have HM := Lib.hid (fun w' => stops_no (must_any (divR a b).s (divR a b).e w') hc)
    have Hc := Lib.hid hc
    clear hc
    go_enter Try.func70, Try.ntmps70
    go_wp2_with (first | (go_at_call 94; (with_reducible refine call_later (spDiv_any a b _) ?_); intro u) | (go_at_call 95; (with_reducible refine call_stop (HM.out _) ?_); intro u9) | ((with_reducible refine wp_region_later ?_ ?_ ?_); (· kernel_rfl); (· kernel_rfl); (try simp only [List.append_eq, List.cons_append, List.nil_append]); (repeat (go_big_quiet_step ((first | (go_at_call 94; (with_reducible exact call_quiet (spDiv_any a b _))))))); refine wpQuiet_nil ?_; rintro _ ⟨u, rfl⟩))
    exact ⟨rfl, stops_pan Hc.out gw⟩
theorem navMul_any (a b : Sp) [ha : S64 a] [hb : S64 b] (w : World) : Calls Try.prog 76 #[.agg #[.int .i64 a.lo, .int .i64 a.hi], .agg #[.int .i64 b.lo, .int .i64 b.hi]] w (Stops (.agg #[.int .i64 ((mulR a b).s).lo, .int .i64 ((mulR a b).s).hi]) (mulR a b).e w) := by
  by_cases hc : (mulR a b).e = 0
  · have HM := Lib.hid (fun w' => stops_ok (must_any (mulR a b).s (mulR a b).e w') hc)
    have Hc := Lib.hid hc
    clear hc
    go_enter Try.func76, Try.ntmps76
    go_wp2_with (first | (go_at_call 85; (with_reducible refine call_later (spMul_any a b _) ?_); intro u) | (go_at_call 95; (with_reducible refine call_later (HM.out _) ?_); intro u9) | ((with_reducible refine wp_region_later ?_ ?_ ?_); (· kernel_rfl); (· kernel_rfl); (try simp only [List.append_eq, List.cons_append, List.nil_append]); (repeat (go_big_quiet_step ((first | (go_at_call 85; (with_reducible exact call_quiet (spMul_any a b _))))))); refine wpQuiet_nil ?_; rintro _ ⟨u, rfl⟩))
    refine bodyPost_ret (by (simp [results, Try.results76, go_sem] <;> rfl)) rfl ?_
    exact stops_ret Hc.out rfl gw
  · have HM := Lib.hid (fun w' => stops_no (must_any (mulR a b).s (mulR a b).e w') hc)
    have Hc := Lib.hid hc
    clear hc
    go_enter Try.func76, Try.ntmps76
    go_wp2_with (first | (go_at_call 85; (with_reducible refine call_later (spMul_any a b _) ?_); intro u) | (go_at_call 95; (with_reducible refine call_stop (HM.out _) ?_); intro u9) | ((with_reducible refine wp_region_later ?_ ?_ ?_); (· kernel_rfl); (· kernel_rfl); (try simp only [List.append_eq, List.cons_append, List.nil_append]); (repeat (go_big_quiet_step ((first | (go_at_call 85; (with_reducible exact call_quiet (spMul_any a b _))))))); refine wpQuiet_nil ?_; rintro _ ⟨u, rfl⟩))
    exact ⟨rfl, stops_pan Hc.out gw⟩
theorem navNorm_any (b : Bx) [hb : B64 b] (w : World) : Calls Try.prog 68 #[.agg #[.int .i64 b.x.lo, .int .i64 b.x.hi, .int .i64 b.y.lo, .int .i64 b.y.hi, .int .i64 b.z.lo, .int .i64 b.z.hi]] w (Stops (.agg #[.int .i64 ((normR b.list).s).lo, .int .i64 ((normR b.list).s).hi]) (normR b.list).e w) := by
  have S1 := Lib.hid (SlAt.fresh (w := w) (m := w.heap.size) [.int .i64 b.x.lo, .int .i64 b.x.hi, .int .i64 b.y.lo, .int .i64 b.y.hi, .int .i64 b.z.lo, .int .i64 b.z.hi] 32 3 3 (by simp [maxLen]))
  by_cases hc : (normR b.list).e = 0
  · have HM := Lib.hid (fun w' => stops_ok (must_any (normR b.list).s (normR b.list).e w') hc)
    have Hc := Lib.hid hc
    clear hc
    go_enter Try.func68, Try.ntmps68
    go_wp2_with (first | (go_at_call 82; (with_reducible refine call_later (spNorm_box b _ _ (S1.out.grew gw)) ?_); intro u) | (go_at_call 95; (with_reducible refine call_later (HM.out _) ?_); intro u) | ((with_reducible refine wp_region_later ?_ ?_ ?_); (· kernel_rfl); (· kernel_rfl); (try simp only [List.append_eq, List.cons_append, List.nil_append]); (repeat (go_big_quiet_step ((first | (go_at_call 82; (with_reducible exact call_quiet (spNorm_box b _ _ (S1.out.grew gw)))) | (go_at_call 95; (with_reducible exact call_quiet (HM.out _))))))); refine wpQuiet_nil ?_; rintro _ ⟨u, rfl⟩))
    refine bodyPost_ret (by (simp [results, Try.results68, go_sem] <;> rfl)) rfl ?_
    exact stops_ret Hc.out rfl gw
  · have HM := Lib.hid (fun w' => stops_no (must_any (normR b.list).s (normR b.list).e w') hc)
    have Hc := Lib.hid hc
    clear hc
    go_enter Try.func68, Try.ntmps68
    go_wp2_with (first | (go_at_call 82; (with_reducible refine call_later (spNorm_box b _ _ (S1.out.grew gw)) ?_); intro u) | (go_at_call 95; (with_reducible refine call_stop (HM.out _) ?_); intro u9) | ((with_reducible refine wp_region_later ?_ ?_ ?_); (· kernel_rfl); (· kernel_rfl); (try simp only [List.append_eq, List.cons_append, List.nil_append]); (repeat (go_big_quiet_step ((first | (go_at_call 82; (with_reducible exact call_quiet (spNorm_box b _ _ (S1.out.grew gw)))))))); refine wpQuiet_nil ?_; rintro _ ⟨u, rfl⟩))
    exact ⟨rfl, stops_pan Hc.out gw⟩
theorem navDot_any (a b : Bx) [ha : B64 a] [hb : B64 b] (w : World) : Calls Try.prog 71 #[.agg #[.int .i64 a.x.lo, .int .i64 a.x.hi, .int .i64 a.y.lo, .int .i64 a.y.hi, .int .i64 a.z.lo, .int .i64 a.z.hi], .agg #[.int .i64 b.x.lo, .int .i64 b.x.hi, .int .i64 b.y.lo, .int .i64 b.y.hi, .int .i64 b.z.lo, .int .i64 b.z.hi]] w (Stops (.agg #[.int .i64 ((dotBR a b).s).lo, .int .i64 ((dotBR a b).s).hi]) (dotBR a b).e w) := by
  have S1 := Lib.hid (SlAt.fresh (w := w) (m := w.heap.size) [.int .i64 a.x.lo, .int .i64 a.x.hi, .int .i64 a.y.lo, .int .i64 a.y.hi, .int .i64 a.z.lo, .int .i64 a.z.hi] 32 3 3 (by simp [maxLen]))
  have S2 := Lib.hid (SlAt.fresh (w := w.alloc (.cells [.int .i64 a.x.lo, .int .i64 a.x.hi, .int .i64 a.y.lo, .int .i64 a.y.hi, .int .i64 a.z.lo, .int .i64 a.z.hi].toArray 32)) (m := w.heap.size + 1) [.int .i64 b.x.lo, .int .i64 b.x.hi, .int .i64 b.y.lo, .int .i64 b.y.hi, .int .i64 b.z.lo, .int .i64 b.z.hi] 32 3 3 (by simp [maxLen]))
  go_enter Try.func71, Try.ntmps71
  go_wp2
  go_region_with (first | (go_at_call 97; refine call_later (spDot_box a b _ _ _ (S1.out.grew gw) (S2.out.grew gw)) ?_; intro u1) | (go_at_call 95; (with_reducible refine call_both (must_any (dotBR a b).s (dotBR a b).e _) ?_ ?_); (· intro hz u; exact ⟨rfl, stops_at rfl hz.out gw⟩); intro hz u2))
  all_goals go_wp2
  all_goals
    refine bodyPost_ret (by (simp [results, Try.results71, go_sem] <;> rfl)) rfl ?_
    exact stops_ret hz.out rfl gw
end Go.Proofs.Ytkmjegkdfhiadaa
