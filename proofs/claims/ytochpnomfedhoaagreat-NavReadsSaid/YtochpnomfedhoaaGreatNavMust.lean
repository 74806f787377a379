/-
  Contracts of nav's must, sub, add; the plain law of a place seen from another one.
-/
import Derived.Test.YtochpnomfedhoaaGreatSpanAdd
import Derived.Test.YtochpnomfedhoaaGreatNavTried
import Derived.Deep.RegionHeld3
namespace Go.Proofs.YtochpnomfedhoaaGreat
open Go.RowKit
set_option maxRecDepth 100000
set_option maxHeartbeats 4000000
def firstE (a b : Int) : Int := if a = 0 then b else a
def awayS (p f : Bx) : Bx := ⟨(subR p.x f.x).s, (subR p.y f.y).s, (subR p.z f.z).s⟩
def awayE (p f : Bx) : Int := firstE (firstE (subR p.x f.x).e (subR p.y f.y).e) (subR p.z f.z).e
instance b64_away (p f : Bx) : B64 (awayS p f) := by unfold awayS; exact ⟨inferInstance, inferInstance, inferInstance⟩
/-- What is handed back where there is no error; the error else. -/
def Stops (v : Value) (c : Int) (w : World) (e : Ending) (w' : World) : Prop := e = (if c = 0 then .returned v else StopEnd c) ∧ Grew w w'
section
variable {P : Program} {f : FuncId} {args : Array Value} {w : World} {v : Value} {c : Int}
theorem stops_ok (h : Calls P f args w (Stops v c w)) (hc : c = 0) : Calls P f args w fun e w' => e = .returned v ∧ Grew w w' :=
  h.mono fun _ _ ⟨he, g⟩ => ⟨by rw [he, if_pos hc], g⟩
theorem stops_no (h : Calls P f args w (Stops v c w)) (hc : c ≠ 0) : Calls P f args w fun e w' => e = StopEnd c ∧ Grew w w' :=
  h.mono fun _ _ ⟨he, g⟩ => ⟨by rw [he, if_neg hc], g⟩
theorem call_stop {R : Ending → World → Prop} (h : Calls P f args w fun e w' => e = StopEnd c ∧ Grew w w') (k : ∀ u : Later w, R (StopEnd c) u.world) : Calls P f args w R :=
  h.mono fun _ w' ⟨he, hg⟩ => by subst he; exact k ⟨w', hg⟩
theorem stops_ret {w' : World} (hc : c = 0) {e : Ending} (he : e = .returned v) (g : Grew w w') : Stops v c w e w' := ⟨by rw [he, if_pos hc], g⟩
theorem stops_pan {w' : World} (hc : c ≠ 0) (g : Grew w w') : Stops v c w (StopEnd c) w' := ⟨by rw [if_neg hc], g⟩
end
theorem must_any (a : Sp) (c : Int) (w : World) : Calls Tryz.prog 119 #[.agg #[.int .i64 a.lo, .int .i64 a.hi], .int .i64 c] w (Stops (.agg #[.int .i64 a.lo, .int .i64 a.hi]) c w) := by
  by_cases hc : c = 0
  · have hc' : (c != 0) = false := by simp [hc]
    go_enter Tryz.func119, Tryz.ntmps119
    go_wp2
    refine bodyPost_ret (by (simp [results, Tryz.results119, go_sem] <;> rfl)) rfl ?_
    exact stops_ret hc rfl (by repeat (first | with_reducible exact Grew.refl _ | with_reducible apply Grew.alloc | with_reducible apply Grew.later | with_reducible apply Grew.drew | with_reducible apply Grew.store | with_reducible assumption))
  · have hc' : (c != 0) = true := by simp [hc]
    go_enter Tryz.func119, Tryz.ntmps119
    go_wp2
    exact ⟨rfl, stops_pan hc (by repeat (first | with_reducible exact Grew.refl _ | with_reducible apply Grew.alloc | with_reducible apply Grew.later | with_reducible apply Grew.drew | with_reducible apply Grew.store | with_reducible assumption))⟩
theorem navSub_any (a b : Sp) [ha : S64 a] [hb : S64 b] (w : World) : Calls Tryz.prog 120 #[.agg #[.int .i64 a.lo, .int .i64 a.hi], .agg #[.int .i64 b.lo, .int .i64 b.hi]] w (Stops (.agg #[.int .i64 ((subR a b).s).lo, .int .i64 ((subR a b).s).hi]) (subR a b).e w) := by
  by_cases hc : (subR a b).e = 0
  · have HM := Lib.hid (fun w' => stops_ok (must_any (subR a b).s (subR a b).e w') hc)
    have Hc := Lib.hid hc
    clear hc
    go_enter Tryz.func120, Tryz.ntmps120
    go_wp2_with (first | (go_at_call 92; (with_reducible refine call_later (spSub_any a b _) ?_); intro u) | (go_at_call 119; (with_reducible refine call_later (HM.out _) ?_); intro u9) | ((with_reducible refine wp_region_later ?_ ?_ ?_); (· kernel_rfl); (· kernel_rfl); (repeat (go_big_quiet_step ((first | (go_at_call 92; (with_reducible exact call_quiet (spSub_any a b _))))))); refine wpQuiet_nil ?_; rintro _ ⟨u, rfl⟩))
    refine bodyPost_ret (by (simp [results, Tryz.results120, go_sem] <;> rfl)) rfl ?_
    exact stops_ret Hc.out rfl (by repeat (first | with_reducible exact Grew.refl _ | with_reducible apply Grew.alloc | with_reducible apply Grew.later | with_reducible apply Grew.drew | with_reducible apply Grew.store | with_reducible assumption))
  · have HM := Lib.hid (fun w' => stops_no (must_any (subR a b).s (subR a b).e w') hc)
    have Hc := Lib.hid hc
    clear hc
    go_enter Tryz.func120, Tryz.ntmps120
    go_wp2_with (first | (go_at_call 92; (with_reducible refine call_later (spSub_any a b _) ?_); intro u) | (go_at_call 119; (with_reducible refine call_stop (HM.out _) ?_); intro u9) | ((with_reducible refine wp_region_later ?_ ?_ ?_); (· kernel_rfl); (· kernel_rfl); (repeat (go_big_quiet_step ((first | (go_at_call 92; (with_reducible exact call_quiet (spSub_any a b _))))))); refine wpQuiet_nil ?_; rintro _ ⟨u, rfl⟩))
    exact ⟨rfl, stops_pan Hc.out (by repeat (first | with_reducible exact Grew.refl _ | with_reducible apply Grew.alloc | with_reducible apply Grew.later | with_reducible apply Grew.drew | with_reducible apply Grew.store | with_reducible assumption))⟩
theorem navAdd_any (a b : Sp) [ha : S64 a] [hb : S64 b] (w : World) : Calls Tryz.prog 123 #[.agg #[.int .i64 a.lo, .int .i64 a.hi], .agg #[.int .i64 b.lo, .int .i64 b.hi]] w (Stops (.agg #[.int .i64 ((addR a b).s).lo, .int .i64 ((addR a b).s).hi]) (addR a b).e w) := by
  by_cases hc : (addR a b).e = 0
  · have HM := Lib.hid (fun w' => stops_ok (must_any (addR a b).s (addR a b).e w') hc)
    have Hc := Lib.hid hc
    clear hc
    go_enter Tryz.func123, Tryz.ntmps123
    go_wp2_with (first | (go_at_call 131; (with_reducible refine call_later (spAdd_any a b _) ?_); intro u) | (go_at_call 119; (with_reducible refine call_later (HM.out _) ?_); intro u9) | ((with_reducible refine wp_region_later ?_ ?_ ?_); (· kernel_rfl); (· kernel_rfl); (repeat (go_big_quiet_step ((first | (go_at_call 131; (with_reducible exact call_quiet (spAdd_any a b _))))))); refine wpQuiet_nil ?_; rintro _ ⟨u, rfl⟩))
    refine bodyPost_ret (by (simp [results, Tryz.results123, go_sem] <;> rfl)) rfl ?_
    exact stops_ret Hc.out rfl (by repeat (first | with_reducible exact Grew.refl _ | with_reducible apply Grew.alloc | with_reducible apply Grew.later | with_reducible apply Grew.drew | with_reducible apply Grew.store | with_reducible assumption))
  · have HM := Lib.hid (fun w' => stops_no (must_any (addR a b).s (addR a b).e w') hc)
    have Hc := Lib.hid hc
    clear hc
    go_enter Tryz.func123, Tryz.ntmps123
    go_wp2_with (first | (go_at_call 131; (with_reducible refine call_later (spAdd_any a b _) ?_); intro u) | (go_at_call 119; (with_reducible refine call_stop (HM.out _) ?_); intro u9) | ((with_reducible refine wp_region_later ?_ ?_ ?_); (· kernel_rfl); (· kernel_rfl); (repeat (go_big_quiet_step ((first | (go_at_call 131; (with_reducible exact call_quiet (spAdd_any a b _))))))); refine wpQuiet_nil ?_; rintro _ ⟨u, rfl⟩))
    exact ⟨rfl, stops_pan Hc.out (by repeat (first | with_reducible exact Grew.refl _ | with_reducible apply Grew.alloc | with_reducible apply Grew.later | with_reducible apply Grew.drew | with_reducible apply Grew.store | with_reducible assumption))⟩
end Go.Proofs.YtochpnomfedhoaaGreat
