/-
  Contracts of nav.made, nav.read.
-/
import Derived.Test.YtdkfkalplmgoeaaNavOps
namespace Go.Proofs.Ytdkfkalplmgoeaa
open Go.RowKit Go.Shelf
set_option maxRecDepth 100000
set_option maxHeartbeats 8000000
/-- The instrument of a measurement. -/
def instT (k : Int) : TypeId := if k = 0 then 120 else if k = 1 then 122 else if k = 2 then 125 else 126
def madeV (m : Radio) : Value := .iface (instT m.kind) (.agg #[.int .i64 m.kind, .int .i64 m.place.x.lo, .int .i64 m.place.x.hi, .int .i64 m.place.y.lo, .int .i64 m.place.y.hi, .int .i64 m.place.z.lo, .int .i64 m.place.z.hi, .int .i64 m.dir.x.lo, .int .i64 m.dir.x.hi, .int .i64 m.dir.y.lo, .int .i64 m.dir.y.hi, .int .i64 m.dir.z.lo, .int .i64 m.dir.z.hi, .int .i64 m.value.lo, .int .i64 m.value.hi])
abbrev zRadio : Value := .agg #[.int .i64 0, .int .i64 0, .int .i64 0, .int .i64 0, .int .i64 0, .int .i64 0, .int .i64 0, .int .i64 0, .int .i64 0, .int .i64 0, .int .i64 0, .int .i64 0, .int .i64 0, .int .i64 0, .int .i64 0]
theorem is_inst (v : Value) (xT : TypeId) (w : World) : (Instr.typeAssert (.iface 120 v) xT 120 true).run Try.prog w = .ok (.tuple #[v, .bool true]) w ∧ (Instr.typeAssert (.iface 122 v) xT 122 true).run Try.prog w = .ok (.tuple #[v, .bool true]) w
    ∧ (Instr.typeAssert (.iface 125 v) xT 125 true).run Try.prog w = .ok (.tuple #[v, .bool true]) w ∧ (Instr.typeAssert (.iface 126 v) xT 126 true).run Try.prog w = .ok (.tuple #[v, .bool true]) w :=
  ⟨by kernel_rfl, by kernel_rfl, by kernel_rfl, by kernel_rfl⟩
theorem no_inst (v : Value) (xT : TypeId) (w : World) : (Instr.typeAssert (.iface 122 v) xT 120 true).run Try.prog w = .ok (.tuple #[zRadio, .bool false]) w
    ∧ (Instr.typeAssert (.iface 125 v) xT 120 true).run Try.prog w = .ok (.tuple #[zRadio, .bool false]) w ∧ (Instr.typeAssert (.iface 125 v) xT 122 true).run Try.prog w = .ok (.tuple #[zRadio, .bool false]) w
    ∧ (Instr.typeAssert (.iface 126 v) xT 120 true).run Try.prog w = .ok (.tuple #[zRadio, .bool false]) w ∧ (Instr.typeAssert (.iface 126 v) xT 122 true).run Try.prog w = .ok (.tuple #[zRadio, .bool false]) w ∧ (Instr.typeAssert (.iface 126 v) xT 125 true).run Try.prog w = .ok (.tuple #[zRadio, .bool false]) w :=
  ⟨by kernel_rfl, by kernel_rfl, by kernel_rfl, by kernel_rfl, by kernel_rfl, by kernel_rfl⟩
theorem four_at (a b c d : Value) (w : World) : (Instr.index 127 (.agg #[a, b, c, d]) (.int .i64 0)).run Try.prog w = .ok a w ∧ (Instr.index 127 (.agg #[a, b, c, d]) (.int .i64 1)).run Try.prog w = .ok b w
    ∧ (Instr.index 127 (.agg #[a, b, c, d]) (.int .i64 2)).run Try.prog w = .ok c w ∧ (Instr.index 127 (.agg #[a, b, c, d]) (.int .i64 3)).run Try.prog w = .ok d w :=
  ⟨by kernel_rfl, by kernel_rfl, by kernel_rfl, by kernel_rfl⟩
theorem kind_four {k : Int} (h0 : 0 ≤ k) (h1 : k ≤ 3) : k = 0 ∨ k = 1 ∨ k = 2 ∨ k = 3 := by omega
theorem made_any (m : Radio) (h0 : 0 ≤ m.kind) (h1 : m.kind ≤ 3) (w : World) : Calls Try.prog 47 #[.agg #[.int .i64 m.kind, .int .i64 m.place.x.lo, .int .i64 m.place.x.hi, .int .i64 m.place.y.lo, .int .i64 m.place.y.hi, .int .i64 m.place.z.lo, .int .i64 m.place.z.hi, .int .i64 m.dir.x.lo, .int .i64 m.dir.x.hi, .int .i64 m.dir.y.lo, .int .i64 m.dir.y.hi, .int .i64 m.dir.z.lo, .int .i64 m.dir.z.hi, .int .i64 m.value.lo, .int .i64 m.value.hi]] w fun e w' => e = .returned (madeV m) ∧ Grew w w' := by
  have i1 := fun a b c d w => (four_at a b c d w).1
  have i2 := fun a b c d w => (four_at a b c d w).2.1
  have i3 := fun a b c d w => (four_at a b c d w).2.2.1
  have i4 := fun a b c d w => (four_at a b c d w).2.2.2
  rcases kind_four h0 h1 with hk | hk | hk | hk
  all_goals clear h0 h1
  all_goals
    go_enter Try.func47, Try.ntmps47
    go_wp2
    go_ret
    exact ⟨by unfold madeV instT; simp [hk], gw⟩
theorem na_bad {p f : Bx} (h : awayE p f ≠ 0) : (normAway p f).e = awayE p f := by unfold normAway; rw [if_neg h]; rfl
theorem na_ok {p f : Bx} (h : awayE p f = 0) : normAway p f = normR (awayS p f).list := by unfold normAway; rw [if_pos h]
theorem rt_bad {p v f : Bx} (h : awayE p f ≠ 0) : (rateR p v f).e = awayE p f := by unfold rateR; rw [if_neg h]; rfl
theorem rt_dot {p v f : Bx} (h : awayE p f = 0) (h2 : (dotBR (awayS p f) v).e ≠ 0) : (rateR p v f).e = (dotBR (awayS p f) v).e := by unfold rateR divsR; rw [if_pos h, if_neg h2]; rfl
theorem rt_norm {p v f : Bx} (h : awayE p f = 0) (h2 : (dotBR (awayS p f) v).e = 0) (h3 : (normR (awayS p f).list).e ≠ 0) : (rateR p v f).e = (normR (awayS p f).list).e := by unfold rateR divsR; rw [if_pos h, if_pos h2, if_neg h3]; rfl
theorem rt_ok {p v f : Bx} (h : awayE p f = 0) (h2 : (dotBR (awayS p f) v).e = 0) (h3 : (normR (awayS p f).list).e = 0) : rateR p v f = divR (dotBR (awayS p f) v).s (normR (awayS p f).list).s := by unfold rateR divsR; rw [if_pos h, if_pos h2, if_pos h3]
theorem read0_any (s : State) (m : Radio) [hp : B64 s.p] [hf : B64 m.place] (w : World) : Calls Try.prog 46 #[.agg #[.int .i64 s.t, .int .i64 s.p.x.lo, .int .i64 s.p.x.hi, .int .i64 s.p.y.lo, .int .i64 s.p.y.hi, .int .i64 s.p.z.lo, .int .i64 s.p.z.hi, .int .i64 s.v.x.lo, .int .i64 s.v.x.hi, .int .i64 s.v.y.lo, .int .i64 s.v.y.hi, .int .i64 s.v.z.lo, .int .i64 s.v.z.hi, .int .i64 s.m.lo, .int .i64 s.m.hi], .iface 120 (.agg #[.int .i64 m.kind, .int .i64 m.place.x.lo, .int .i64 m.place.x.hi, .int .i64 m.place.y.lo, .int .i64 m.place.y.hi, .int .i64 m.place.z.lo, .int .i64 m.place.z.hi, .int .i64 m.dir.x.lo, .int .i64 m.dir.x.hi, .int .i64 m.dir.y.lo, .int .i64 m.dir.y.hi, .int .i64 m.dir.z.lo, .int .i64 m.dir.z.hi, .int .i64 m.value.lo, .int .i64 m.value.hi])] w (Stops (.agg #[.int .i64 ((normAway s.p m.place).s).lo, .int .i64 ((normAway s.p m.place).s).hi]) (normAway s.p m.place).e w) := by
  have t1 := fun v x w => (is_inst v x w).1
  go_enter Try.func46, Try.ntmps46
  go_wp2_with (first | (go_at_call 66; (with_reducible refine call_both (navAway_any s.p m.place _) ?_ ?_); (· intro hz u; exact ⟨rfl, stops_at (na_bad hz.out) hz.out gw⟩); intro hz1 u1) | (go_at_call 65; (with_reducible refine call_both (navNorm_any (awayS s.p m.place) _) ?_ ?_); (· intro hz u; exact ⟨rfl, stops_at (by rw [na_ok hz1.out]) hz.out gw⟩); intro hz2 u2))
  refine bodyPost_ret (by (simp [results, Try.results46, go_sem] <;> rfl)) rfl ?_
  rw [na_ok hz1.out]
  exact stops_ret hz2.out rfl gw
theorem read2_any (s : State) (m : Radio) [hp : B64 s.p] [hf : B64 m.dir] (w : World) : Calls Try.prog 46 #[.agg #[.int .i64 s.t, .int .i64 s.p.x.lo, .int .i64 s.p.x.hi, .int .i64 s.p.y.lo, .int .i64 s.p.y.hi, .int .i64 s.p.z.lo, .int .i64 s.p.z.hi, .int .i64 s.v.x.lo, .int .i64 s.v.x.hi, .int .i64 s.v.y.lo, .int .i64 s.v.y.hi, .int .i64 s.v.z.lo, .int .i64 s.v.z.hi, .int .i64 s.m.lo, .int .i64 s.m.hi], .iface 125 (.agg #[.int .i64 m.kind, .int .i64 m.place.x.lo, .int .i64 m.place.x.hi, .int .i64 m.place.y.lo, .int .i64 m.place.y.hi, .int .i64 m.place.z.lo, .int .i64 m.place.z.hi, .int .i64 m.dir.x.lo, .int .i64 m.dir.x.hi, .int .i64 m.dir.y.lo, .int .i64 m.dir.y.hi, .int .i64 m.dir.z.lo, .int .i64 m.dir.z.hi, .int .i64 m.value.lo, .int .i64 m.value.hi])] w (Stops (.agg #[.int .i64 ((dotBR m.dir s.p).s).lo, .int .i64 ((dotBR m.dir s.p).s).hi]) (dotBR m.dir s.p).e w) := by
  have t1 := fun v x w => (no_inst v x w).2.1
  have t2 := fun v x w => (no_inst v x w).2.2.1
  have t3 := fun v x w => (is_inst v x w).2.2.1
  go_enter Try.func46, Try.ntmps46
  go_wp2_with (first | (go_at_call 68; (with_reducible refine call_both (navDot_any m.dir s.p _) ?_ ?_); (· intro hz u; exact ⟨rfl, stops_at rfl hz.out gw⟩); intro hz1 u1))
  refine bodyPost_ret (by (simp [results, Try.results46, go_sem] <;> rfl)) rfl ?_
  exact stops_ret hz1.out rfl gw
theorem read3_any (s : State) (m : Radio) [hv : B64 s.v] [hf : B64 m.dir] (w : World) : Calls Try.prog 46 #[.agg #[.int .i64 s.t, .int .i64 s.p.x.lo, .int .i64 s.p.x.hi, .int .i64 s.p.y.lo, .int .i64 s.p.y.hi, .int .i64 s.p.z.lo, .int .i64 s.p.z.hi, .int .i64 s.v.x.lo, .int .i64 s.v.x.hi, .int .i64 s.v.y.lo, .int .i64 s.v.y.hi, .int .i64 s.v.z.lo, .int .i64 s.v.z.hi, .int .i64 s.m.lo, .int .i64 s.m.hi], .iface 126 (.agg #[.int .i64 m.kind, .int .i64 m.place.x.lo, .int .i64 m.place.x.hi, .int .i64 m.place.y.lo, .int .i64 m.place.y.hi, .int .i64 m.place.z.lo, .int .i64 m.place.z.hi, .int .i64 m.dir.x.lo, .int .i64 m.dir.x.hi, .int .i64 m.dir.y.lo, .int .i64 m.dir.y.hi, .int .i64 m.dir.z.lo, .int .i64 m.dir.z.hi, .int .i64 m.value.lo, .int .i64 m.value.hi])] w (Stops (.agg #[.int .i64 ((dotBR m.dir s.v).s).lo, .int .i64 ((dotBR m.dir s.v).s).hi]) (dotBR m.dir s.v).e w) := by
  have t1 := fun v x w => (no_inst v x w).2.2.2.1
  have t2 := fun v x w => (no_inst v x w).2.2.2.2.1
  have t3 := fun v x w => (no_inst v x w).2.2.2.2.2
  have t4 := fun v x w => (is_inst v x w).2.2.2
  go_enter Try.func46, Try.ntmps46
  go_wp2_with (first | (go_at_call 68; (with_reducible refine call_both (navDot_any m.dir s.v _) ?_ ?_); (· intro hz u; exact ⟨rfl, stops_at rfl hz.out gw⟩); intro hz1 u1))
  refine bodyPost_ret (by (simp [results, Try.results46, go_sem] <;> rfl)) rfl ?_
  exact stops_ret hz1.out rfl gw
end Go.Proofs.Ytdkfkalplmgoeaa
