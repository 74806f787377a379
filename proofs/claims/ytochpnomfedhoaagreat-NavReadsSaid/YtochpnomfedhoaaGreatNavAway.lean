/-
  Contract of nav.away.
-/
import Derived.Test.YtochpnomfedhoaaGreatNavMust
namespace Go.Proofs.YtochpnomfedhoaaGreat
open Go.RowKit
set_option maxRecDepth 100000
set_option maxHeartbeats 8000000
theorem away_e0 {p f : Bx} (h : (subR p.x f.x).e ≠ 0) : awayE p f = (subR p.x f.x).e := by unfold awayE firstE; rw [if_neg h, if_neg h]
theorem away_e1 {p f : Bx} (h0 : (subR p.x f.x).e = 0) (h : (subR p.y f.y).e ≠ 0) : awayE p f = (subR p.y f.y).e := by unfold awayE firstE; rw [if_pos h0, if_neg h]
theorem away_e2 {p f : Bx} (h0 : (subR p.x f.x).e = 0) (h1 : (subR p.y f.y).e = 0) : awayE p f = (subR p.z f.z).e := by unfold awayE firstE; rw [if_pos h0, if_pos h1]
theorem call_both {P : Program} {f : FuncId} {args : Array Value} {w : World} {v : Value} {c : Int} {R : Ending → World → Prop} (h : Calls P f args w (Stops v c w)) (h0 : Hid (c ≠ 0) → ∀ u : Later w, R (StopEnd c) u.world) (h1 : Hid (c = 0) → ∀ u : Later w, R (.returned v) u.world) : Calls P f args w R :=
  h.mono fun e w' ⟨he, hg⟩ => by
    by_cases hc : c = 0
    · rw [if_pos hc] at he
      subst he
      exact h1 (Lib.hid hc) ⟨w', hg⟩
    · rw [if_neg hc] at he
      subst he
      exact h0 (Lib.hid hc) ⟨w', hg⟩
theorem stops_at {w w' : World} {v : Value} {c c' : Int} (he : c' = c) (hc : c ≠ 0) (g : Grew w w') : Stops v c' w (StopEnd c) w' := by
  subst he
  exact stops_pan hc g
theorem navAway_any (p f : Bx) [hp : B64 p] [hf : B64 f] (w : World) : Calls Tryz.prog 72 #[.agg #[.int .i64 p.x.lo, .int .i64 p.x.hi, .int .i64 p.y.lo, .int .i64 p.y.hi, .int .i64 p.z.lo, .int .i64 p.z.hi], .agg #[.int .i64 f.x.lo, .int .i64 f.x.hi, .int .i64 f.y.lo, .int .i64 f.y.hi, .int .i64 f.z.lo, .int .i64 f.z.hi]] w (Stops (.agg #[.int .i64 ((awayS p f)).x.lo, .int .i64 ((awayS p f)).x.hi, .int .i64 ((awayS p f)).y.lo, .int .i64 ((awayS p f)).y.hi, .int .i64 ((awayS p f)).z.lo, .int .i64 ((awayS p f)).z.hi]) (awayE p f) w) := by
  go_enter Tryz.func72, Tryz.ntmps72
  go_wp2
  refine wp_loop_rounds 4 ?_
  all_goals rw [rounds_succ]
  all_goals go_wp2
  all_goals go_region_with (go_at_call 120; (with_reducible refine call_both (navSub_any p.x f.x _) ?_ ?_); (· intro hz u; exact ⟨rfl, stops_at (away_e0 hz.out) hz.out (by repeat (first | with_reducible exact Grew.refl _ | with_reducible apply Grew.alloc | with_reducible apply Grew.later | with_reducible apply Grew.drew | with_reducible apply Grew.store | with_reducible assumption))⟩); intro hz0 u0)
  all_goals go_wp2
  all_goals rw [rounds_succ]
  all_goals go_wp2
  all_goals go_region_with (go_at_call 120; (with_reducible refine call_both (navSub_any p.y f.y _) ?_ ?_); (· intro hz u; exact ⟨rfl, stops_at (away_e1 hz0.out hz.out) hz.out (by repeat (first | with_reducible exact Grew.refl _ | with_reducible apply Grew.alloc | with_reducible apply Grew.later | with_reducible apply Grew.drew | with_reducible apply Grew.store | with_reducible assumption))⟩); intro hz1 u1)
  all_goals go_wp2
  all_goals rw [rounds_succ]
  all_goals go_wp2
  all_goals go_region_with (go_at_call 120; (with_reducible refine call_both (navSub_any p.z f.z _) ?_ ?_); (· intro hz u; exact ⟨rfl, stops_at (away_e2 hz0.out hz1.out) hz.out (by repeat (first | with_reducible exact Grew.refl _ | with_reducible apply Grew.alloc | with_reducible apply Grew.later | with_reducible apply Grew.drew | with_reducible apply Grew.store | with_reducible assumption))⟩); intro hz2 u2)
  all_goals go_wp2
  all_goals rw [rounds_succ]
  all_goals go_wp2
  all_goals
    refine bodyPost_ret (by (simp [results, Tryz.results72, go_sem] <;> rfl)) rfl ?_
    exact stops_ret (by rw [away_e2 hz0.out hz1.out]; exact hz2.out) rfl (by repeat (first | with_reducible exact Grew.refl _ | with_reducible apply Grew.alloc | with_reducible apply Grew.later | with_reducible apply Grew.drew | with_reducible apply Grew.store | with_reducible assumption))
end Go.Proofs.YtochpnomfedhoaaGreat
