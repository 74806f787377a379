/-
  Contract of nav.tried: what is done may end with an error.
  Contracts of nav's must, sub, add; the plain law of a place seen from another one.
  Contract of nav.away.
-/
import Derived.Test.YtdkfkalplmgoeaaCore
import Derived.Test.YtdkfkalplmgoeaaProg
import Derived.Defers
import Derived.Recover
import Derived.ProofKit
import Derived.Test.YtdkfkalplmgoeaaSpanAdd
import Derived.Deep.RegionHeld3
namespace Go.Proofs.Ytdkfkalplmgoeaa
open Go.RowKit
set_option maxRecDepth 100000
set_option maxHeartbeats 4000000
theorem catch_idle (p : Addr) (w : World) : CallsD Try.prog 64 #[.pointer (some p)] .returning w fun e u' w' => e = .returned (.tuple #[]) ∧ u' = .returning ∧ w' = w := by
  refine callsD_of_wpS Try.func64 rfl fun c₀ cs hu => ?_
  apply wpS_seq
  apply wpS_region
  simp [wpOpsS, go_sem, recoverD, hu, Try.ntmps64, Exit.thenS]
  refine wpS_of_wp ?_
  go_wp2
  cases c₀
  simp_all [bodyPostS, results, Try.results64]
theorem is_stop (v : Value) (xT : TypeId) (w : World) : (Instr.typeAssert (.iface 118 v) xT 118 true).run Try.prog w = .ok (.tuple #[v, .bool true]) w := by kernel_rfl
theorem catch_stop (b : Nat) (c x : Int) (w : World) (hc : w.cell? ⟨b, 0, none⟩ = some (.int .i64 x)) (hf : w.frozen? ⟨b, 0, none⟩ = false) : CallsD Try.prog 64 #[.pointer (some ⟨b, 0, none⟩)] (.panicking [{ v := .iface 118 (.agg #[.int .i64 c]), recovered := false }]) w fun e u' w' =>
    e = .returned (.tuple #[]) ∧ u' = .panicking [{ v := .iface 118 (.agg #[.int .i64 c]), recovered := true }] ∧ w' = (w.alloc (.cells #[.int .i64 c] 118)).setCell ⟨b, 0, none⟩ (.int .i64 c) := by
  have hst := is_stop
  have ib : BlockIn w b := BlockIn.of_cell hc
  refine callsD_of_wpS Try.func64 rfl fun c₀ cs hu => ?_
  apply wpS_seq
  apply wpS_region
  simp [wpOpsS, go_sem, recoverD, hu, Try.ntmps64, Exit.thenS]
  refine wpS_of_wp ?_
  go_wp2
  exact ⟨rfl, _, rfl, .tuple #[], results_none rfl _ _ _, rfl, rfl, rfl⟩
/-- A cut ends with its error. -/
abbrev StopEnd (c : Int) : Ending := .panicked [{ v := .iface 118 (.agg #[.int .i64 c]), recovered := false }]
/-- The world behind a trial, out of that behind what was tried. -/
def triedW (b : Nat) (o : Option Int) (w' : World) : World :=
  match o with
  | none => w'.setCell ⟨b, 0, none⟩ (.int .i64 0)
  | some c => (w'.alloc (.cells #[.int .i64 c] 118)).setCell ⟨b, 0, none⟩ (.int .i64 c)
/-- What is tried ends in one of two ways. -/
def Ends (w0 : World) (Q : Option Int → World → Prop) (e : Ending) (w' : World) : Prop :=
  ((e = .returned (.tuple #[]) ∧ Q none w') ∨ ∃ c, e = StopEnd c ∧ Q (some c) w') ∧ w'.cell? ⟨w0.heap.size, 0, none⟩ = some (.int .i64 0) ∧ w'.frozen? ⟨w0.heap.size, 0, none⟩ = false
end Go.Proofs.Ytdkfkalplmgoeaa
namespace Go.Proofs.Ytdkfkalplmgoeaa
open Go.RowKit
set_option maxRecDepth 100000
set_option maxHeartbeats 4000000
def firstE (a b : Int) : Int := if a = 0 then b else a
def awayS (p f : Bx) : Bx := ⟨(subR p.x f.x).s, (subR p.y f.y).s, (subR p.z f.z).s⟩
def awayE (p f : Bx) : Int := firstE (firstE (subR p.x f.x).e (subR p.y f.y).e) (subR p.z f.z).e
instance b64_away (p f : Bx) : B64 (awayS p f) := by unfold awayS; exact ⟨inferInstance, inferInstance, inferInstance⟩
/-- What is handed back where there is no error; the error else. -/
def Stops (v : Value) (c : Int) (w : World) (e : Ending) (w' : World) : Prop := e = (if c = 0 then .returned v else StopEnd c) ∧ Grew w w'
section
variable {P : Program} {f : FuncId} {args : Array Value} {w : World} {v : Value} {c : Int}
theorem stops_ok (h : Calls P f args w (Stops v c w)) (hc : c = 0) : Calls P f args w fun e w' => e = .returned v ∧ Grew w w' :=
  h.mono fun _ _ ⟨he, g⟩ => ⟨by rw [he, if_pos hc], g⟩
theorem stops_no (h : Calls P f args w (Stops v c w)) (hc : c ≠ 0) : Calls P f args w fun e w' => e = StopEnd c ∧ Grew w w' :=
  h.mono fun _ _ ⟨he, g⟩ => ⟨by rw [he, if_neg hc], g⟩
theorem call_stop {R : Ending → World → Prop} (h : Calls P f args w fun e w' => e = StopEnd c ∧ Grew w w') (k : ∀ u : Later w, R (StopEnd c) u.world) : Calls P f args w R :=
  h.mono fun _ w' ⟨he, hg⟩ => by subst he; exact k ⟨w', hg⟩
theorem stops_ret {w' : World} (hc : c = 0) {e : Ending} (he : e = .returned v) (g : Grew w w') : Stops v c w e w' := ⟨by rw [he, if_pos hc], g⟩
theorem stops_pan {w' : World} (hc : c ≠ 0) (g : Grew w w') : Stops v c w (StopEnd c) w' := ⟨by rw [if_neg hc], g⟩
end
theorem must_any (a : Sp) (c : Int) (w : World) : Calls Try.prog 89 #[.agg #[.int .i64 a.lo, .int .i64 a.hi], .int .i64 c] w (Stops (.agg #[.int .i64 a.lo, .int .i64 a.hi]) c w) := by
  by_cases hc : c = 0
  · have hc' : (c != 0) = false := by simp [hc]
    go_enter Try.func89, Try.ntmps89
    go_wp2
    refine bodyPost_ret (by (simp [results, Try.results89, go_sem] <;> rfl)) rfl ?_
    exact stops_ret hc rfl gw
  · have hc' : (c != 0) = true := by simp [hc]
    go_enter Try.func89, Try.ntmps89
    go_wp2
    exact ⟨rfl, stops_pan hc gw⟩
theorem navSub_any (a b : Sp) [ha : S64 a] [hb : S64 b] (w : World) : Calls Try.prog 91 #[.agg #[.int .i64 a.lo, .int .i64 a.hi], .agg #[.int .i64 b.lo, .int .i64 b.hi]] w (Stops (.agg #[.int .i64 ((subR a b).s).lo, .int .i64 ((subR a b).s).hi]) (subR a b).e w) := by
  by_cases hc : (subR a b).e = 0
  · have HM := Lib.hid (fun w' => stops_ok (must_any (subR a b).s (subR a b).e w') hc)
    have Hc := Lib.hid hc
    clear hc
    go_enter Try.func91, Try.ntmps91
    go_wp2_with (first | (go_at_call 112; (with_reducible refine call_later (spSub_any a b _) ?_); intro u) | (go_at_call 89; (with_reducible refine call_later (HM.out _) ?_); intro u9))
    refine bodyPost_ret (by (simp [results, Try.results91, go_sem] <;> rfl)) rfl ?_
    exact stops_ret Hc.out rfl gw
  · have HM := Lib.hid (fun w' => stops_no (must_any (subR a b).s (subR a b).e w') hc)
    have Hc := Lib.hid hc
    clear hc
    go_enter Try.func91, Try.ntmps91
    go_wp2_with (first | (go_at_call 112; (with_reducible refine call_later (spSub_any a b _) ?_); intro u) | (go_at_call 89; (with_reducible refine call_stop (HM.out _) ?_); intro u9))
    exact ⟨rfl, stops_pan Hc.out gw⟩
theorem navAdd_any (a b : Sp) [ha : S64 a] [hb : S64 b] (w : World) : Calls Try.prog 97 #[.agg #[.int .i64 a.lo, .int .i64 a.hi], .agg #[.int .i64 b.lo, .int .i64 b.hi]] w (Stops (.agg #[.int .i64 ((addR a b).s).lo, .int .i64 ((addR a b).s).hi]) (addR a b).e w) := by
  by_cases hc : (addR a b).e = 0
  · have HM := Lib.hid (fun w' => stops_ok (must_any (addR a b).s (addR a b).e w') hc)
    have Hc := Lib.hid hc
    clear hc
    go_enter Try.func97, Try.ntmps97
    go_wp2_with (first | (go_at_call 60; (with_reducible refine call_later (spAdd_any a b _) ?_); intro u) | (go_at_call 89; (with_reducible refine call_later (HM.out _) ?_); intro u9))
    refine bodyPost_ret (by (simp [results, Try.results97, go_sem] <;> rfl)) rfl ?_
    exact stops_ret Hc.out rfl gw
  · have HM := Lib.hid (fun w' => stops_no (must_any (addR a b).s (addR a b).e w') hc)
    have Hc := Lib.hid hc
    clear hc
    go_enter Try.func97, Try.ntmps97
    go_wp2_with (first | (go_at_call 60; (with_reducible refine call_later (spAdd_any a b _) ?_); intro u) | (go_at_call 89; (with_reducible refine call_stop (HM.out _) ?_); intro u9))
    exact ⟨rfl, stops_pan Hc.out gw⟩
end Go.Proofs.Ytdkfkalplmgoeaa
namespace Go.Proofs.Ytdkfkalplmgoeaa
open Go.RowKit
set_option maxRecDepth 100000
set_option maxHeartbeats 8000000
theorem away_e0 {p f : Bx} (h : (subR p.x f.x).e ≠ 0) : awayE p f = (subR p.x f.x).e := by unfold awayE firstE; rw [if_neg h, if_neg h]
theorem away_e1 {p f : Bx} (h0 : (subR p.x f.x).e = 0) (h : (subR p.y f.y).e ≠ 0) : awayE p f = (subR p.y f.y).e := by unfold awayE firstE; rw [if_pos h0, if_neg h]
theorem away_e2 {p f : Bx} (h0 : (subR p.x f.x).e = 0) (h1 : (subR p.y f.y).e = 0) : awayE p f = (subR p.z f.z).e := by unfold awayE firstE; rw [if_pos h0, if_pos h1]
theorem call_both {P : Program} {f : FuncId} {args : Array Value} {w : World} {v : Value} {c : Int} {R : Ending → World → Prop} (h : Calls P f args w (Stops v c w)) (h0 : Hid (c ≠ 0) → ∀ u : Later w, R (StopEnd c) u.world) (h1 : Hid (c = 0) → ∀ u : Later w, R (.returned v) u.world) : Calls P f args w R :=
  h.mono fun e w' ⟨he, hg⟩ => by
    by_cases hc : c = 0
    · rw [if_pos hc] at he
      subst he
      exact h1 (Lib.hid hc) ⟨w', hg⟩
    · rw [if_neg hc] at he
      subst he
      exact h0 (Lib.hid hc) ⟨w', hg⟩
theorem stops_at {w w' : World} {v : Value} {c c' : Int} (he : c' = c) (hc : c ≠ 0) (g : Grew w w') : Stops v c' w (StopEnd c) w' := by
  subst he
  exact stops_pan hc g
theorem navAway_any (p f : Bx) [hp : B64 p] [hf : B64 f] (w : World) : Calls Try.prog 66 #[.agg #[.int .i64 p.x.lo, .int .i64 p.x.hi, .int .i64 p.y.lo, .int .i64 p.y.hi, .int .i64 p.z.lo, .int .i64 p.z.hi], .agg #[.int .i64 f.x.lo, .int .i64 f.x.hi, .int .i64 f.y.lo, .int .i64 f.y.hi, .int .i64 f.z.lo, .int .i64 f.z.hi]] w (Stops (.agg #[.int .i64 ((awayS p f)).x.lo, .int .i64 ((awayS p f)).x.hi, .int .i64 ((awayS p f)).y.lo, .int .i64 ((awayS p f)).y.hi, .int .i64 ((awayS p f)).z.lo, .int .i64 ((awayS p f)).z.hi]) (awayE p f) w) := by
  go_enter Try.func66, Try.ntmps66
  go_wp2
  refine wp_loop_rounds 4 ?_
  all_goals rw [rounds_succ]
  all_goals go_wp2
  all_goals go_region_with (go_at_call 91; (with_reducible refine call_both (navSub_any p.x f.x _) ?_ ?_); (· intro hz u; exact ⟨rfl, stops_at (away_e0 hz.out) hz.out gw⟩); intro hz0 u0)
  all_goals go_wp2
  all_goals rw [rounds_succ]
  all_goals go_wp2
  all_goals go_region_with (go_at_call 91; (with_reducible refine call_both (navSub_any p.y f.y _) ?_ ?_); (· intro hz u; exact ⟨rfl, stops_at (away_e1 hz0.out hz.out) hz.out gw⟩); intro hz1 u1)
  all_goals go_wp2
  all_goals rw [rounds_succ]
  all_goals go_wp2
  all_goals go_region_with (go_at_call 91; (with_reducible refine call_both (navSub_any p.z f.z _) ?_ ?_); (· intro hz u; exact ⟨rfl, stops_at (away_e2 hz0.out hz1.out) hz.out gw⟩); intro hz2 u2)
  all_goals go_wp2
  all_goals rw [rounds_succ]
  all_goals go_wp2
  all_goals
    refine bodyPost_ret (by (simp [results, Try.results66, go_sem] <;> rfl)) rfl ?_
    exact stops_ret (by rw [away_e2 hz0.out hz1.out]; exact hz2.out) rfl gw
end Go.Proofs.Ytdkfkalplmgoeaa
