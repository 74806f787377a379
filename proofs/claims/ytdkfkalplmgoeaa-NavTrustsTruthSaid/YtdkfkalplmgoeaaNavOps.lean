/-
  Contracts of nav's operations that end a cut with their error: mul, div, norm, dot.
-/
import Derived.Test.YtdkfkalplmgoeaaNavLaw
import Derived.Test.YtdkfkalplmgoeaaNavCalls
import Derived.Test.YtdkfkalplmgoeaaFlightCalc
import Derived.Test.YtdkfkalplmgoeaaSpanDivs
import Derived.Deep.RegionHeld3
namespace Go.Proofs.Ytdkfkalplmgoeaa
open Go.RowKit Go.Shelf
set_option maxRecDepth 100000
set_option maxHeartbeats 4000000
theorem navDiv_any (a b : Sp) [ha : S64 a] [hb : S64 b] (w : World) : Calls Try.prog 67 #[.agg #[.int .i64 a.lo, .int .i64 a.hi], .agg #[.int .i64 b.lo, .int .i64 b.hi]] w (Stops (.agg #[.int .i64 ((divR a b).s).lo, .int .i64 ((divR a b).s).hi]) (divR a b).e w) := by
  by_cases hc : (divR a b).e = 0
  · have HM := Lib.hid (fun w' => stops_ok (must_any (divR a b).s (divR a b).e w') hc)
    have Hc := Lib.hid hc
    clear hc
    go_enter Try.func67, Try.ntmps67
    go_wp2_with (first | (go_at_call 92; (with_reducible refine call_later (spDiv_any a b _) ?_); intro u) | (go_at_call 89; (with_reducible refine call_later (HM.out _) ?_); intro u9))
    refine bodyPost_ret (by (simp [results, Try.results67, go_sem] <;> rfl)) rfl ?_
    exact stops_ret Hc.out rfl gw
  · have HM := Lib.hid (fun w' => stops_no (must_any (divR a b).s (divR a b).e w') hc)
    have Hc := Lib.hid hc
    clear hc
    go_enter Try.func67, Try.ntmps67
    go_wp2_with (first | (go_at_call 92; (with_reducible refine call_later (spDiv_any a b _) ?_); intro u) | (go_at_call 89; (with_reducible refine call_stop (HM.out _) ?_); intro u9))
    exact ⟨rfl, stops_pan Hc.out gw⟩
theorem navMul_any (a b : Sp) [ha : S64 a] [hb : S64 b] (w : World) : Calls Try.prog 73 #[.agg #[.int .i64 a.lo, .int .i64 a.hi], .agg #[.int .i64 b.lo, .int .i64 b.hi]] w (Stops (.agg #[.int .i64 ((mulR a b).s).lo, .int .i64 ((mulR a b).s).hi]) (mulR a b).e w) := by
  by_cases hc : (mulR a b).e = 0
  · have HM := Lib.hid (fun w' => stops_ok (must_any (mulR a b).s (mulR a b).e w') hc)
    have Hc := Lib.hid hc
    clear hc
    go_enter Try.func73, Try.ntmps73
    go_wp2_with (first | (go_at_call 59; (with_reducible refine call_later (spMul_any a b _) ?_); intro u) | (go_at_call 89; (with_reducible refine call_later (HM.out _) ?_); intro u9))
    refine bodyPost_ret (by (simp [results, Try.results73, go_sem] <;> rfl)) rfl ?_
    exact stops_ret Hc.out rfl gw
  · have HM := Lib.hid (fun w' => stops_no (must_any (mulR a b).s (mulR a b).e w') hc)
    have Hc := Lib.hid hc
    clear hc
    go_enter Try.func73, Try.ntmps73
    go_wp2_with (first | (go_at_call 59; (with_reducible refine call_later (spMul_any a b _) ?_); intro u) | (go_at_call 89; (with_reducible refine call_stop (HM.out _) ?_); intro u9))
    exact ⟨rfl, stops_pan Hc.out gw⟩
theorem navNorm_any (b : Bx) [hb : B64 b] (w : World) : Calls Try.prog 65 #[.agg #[.int .i64 b.x.lo, .int .i64 b.x.hi, .int .i64 b.y.lo, .int .i64 b.y.hi, .int .i64 b.z.lo, .int .i64 b.z.hi]] w (Stops (.agg #[.int .i64 ((normR b.list).s).lo, .int .i64 ((normR b.list).s).hi]) (normR b.list).e w) := by
  have S1 := Lib.hid (SlAt.fresh (w := w) (m := w.heap.size) [.int .i64 b.x.lo, .int .i64 b.x.hi, .int .i64 b.y.lo, .int .i64 b.y.hi, .int .i64 b.z.lo, .int .i64 b.z.hi] 41 3 3 (by simp [maxLen]))
  by_cases hc : (normR b.list).e = 0
  · have HM := Lib.hid (fun w' => stops_ok (must_any (normR b.list).s (normR b.list).e w') hc)
    have Hc := Lib.hid hc
    clear hc
    go_enter Try.func65, Try.ntmps65
    go_wp2_with (first | (go_at_call 90; (with_reducible refine call_later (spNorm_box b _ _ (S1.out.grew gw)) ?_); intro u) | (go_at_call 89; (with_reducible refine call_later (HM.out _) ?_); intro u))
    refine bodyPost_ret (by (simp [results, Try.results65, go_sem] <;> rfl)) rfl ?_
    exact stops_ret Hc.out rfl gw
  · have HM := Lib.hid (fun w' => stops_no (must_any (normR b.list).s (normR b.list).e w') hc)
    have Hc := Lib.hid hc
    clear hc
    go_enter Try.func65, Try.ntmps65
    go_wp2_with (first | (go_at_call 90; (with_reducible refine call_later (spNorm_box b _ _ (S1.out.grew gw)) ?_); intro u) | (go_at_call 89; (with_reducible refine call_stop (HM.out _) ?_); intro u9))
    exact ⟨rfl, stops_pan Hc.out gw⟩
theorem navDot_any (a b : Bx) [ha : B64 a] [hb : B64 b] (w : World) : Calls Try.prog 68 #[.agg #[.int .i64 a.x.lo, .int .i64 a.x.hi, .int .i64 a.y.lo, .int .i64 a.y.hi, .int .i64 a.z.lo, .int .i64 a.z.hi], .agg #[.int .i64 b.x.lo, .int .i64 b.x.hi, .int .i64 b.y.lo, .int .i64 b.y.hi, .int .i64 b.z.lo, .int .i64 b.z.hi]] w (Stops (.agg #[.int .i64 ((dotBR a b).s).lo, .int .i64 ((dotBR a b).s).hi]) (dotBR a b).e w) := by
  have S1 := Lib.hid (SlAt.fresh (w := w) (m := w.heap.size) [.int .i64 a.x.lo, .int .i64 a.x.hi, .int .i64 a.y.lo, .int .i64 a.y.hi, .int .i64 a.z.lo, .int .i64 a.z.hi] 41 3 3 (by simp [maxLen]))
  have S2 := Lib.hid (SlAt.fresh (w := w.alloc (.cells [.int .i64 a.x.lo, .int .i64 a.x.hi, .int .i64 a.y.lo, .int .i64 a.y.hi, .int .i64 a.z.lo, .int .i64 a.z.hi].toArray 41)) (m := w.heap.size + 1) [.int .i64 b.x.lo, .int .i64 b.x.hi, .int .i64 b.y.lo, .int .i64 b.y.hi, .int .i64 b.z.lo, .int .i64 b.z.hi] 41 3 3 (by simp [maxLen]))
  go_enter Try.func68, Try.ntmps68
  go_wp2
  go_region_with (first | (go_at_call 93; refine call_later (spDot_box a b _ _ _ (S1.out.grew gw) (S2.out.grew gw)) ?_; intro u1) | (go_at_call 89; (with_reducible refine call_both (must_any (dotBR a b).s (dotBR a b).e _) ?_ ?_); (· intro hz u; exact ⟨rfl, stops_at rfl hz.out gw⟩); intro hz u2))
  all_goals go_wp2
  all_goals
    refine bodyPost_ret (by (simp [results, Try.results68, go_sem] <;> rfl)) rfl ?_
    exact stops_ret hz.out rfl gw
end Go.Proofs.Ytdkfkalplmgoeaa
