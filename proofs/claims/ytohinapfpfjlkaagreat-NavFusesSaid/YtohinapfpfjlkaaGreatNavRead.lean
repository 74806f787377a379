/-
  Contracts of nav.made, nav.read.
-/
import Derived.Test.YtohinapfpfjlkaaGreatNavOps
namespace Go.Proofs.YtohinapfpfjlkaaGreat
open Go.RowKit Go.Shelf
set_option maxRecDepth 100000
set_option maxHeartbeats 8000000
/-- The instrument of a measurement. -/
def instT (k : Int) : TypeId := if k = 0 then 125 else if k = 1 then 129 else if k = 2 then 131 else 132
def madeV (m : Radio) : Value := .iface (instT m.kind) (.agg #[.int .i64 m.kind, .int .i64 m.place.x.lo, .int .i64 m.place.x.hi, .int .i64 m.place.y.lo, .int .i64 m.place.y.hi, .int .i64 m.place.z.lo, .int .i64 m.place.z.hi, .int .i64 m.dir.x.lo, .int .i64 m.dir.x.hi, .int .i64 m.dir.y.lo, .int .i64 m.dir.y.hi, .int .i64 m.dir.z.lo, .int .i64 m.dir.z.hi, .int .i64 m.value.lo, .int .i64 m.value.hi])
abbrev zRadio : Value := .agg #[.int .i64 0, .int .i64 0, .int .i64 0, .int .i64 0, .int .i64 0, .int .i64 0, .int .i64 0, .int .i64 0, .int .i64 0, .int .i64 0, .int .i64 0, .int .i64 0, .int .i64 0, .int .i64 0, .int .i64 0]
theorem is_inst (v : Value) (xT : TypeId) (w : World) : (Instr.typeAssert (.iface 125 v) xT 125 true).run Tryz.prog w = .ok (.tuple #[v, .bool true]) w ∧ (Instr.typeAssert (.iface 129 v) xT 129 true).run Tryz.prog w = .ok (.tuple #[v, .bool true]) w
    ∧ (Instr.typeAssert (.iface 131 v) xT 131 true).run Tryz.prog w = .ok (.tuple #[v, .bool true]) w ∧ (Instr.typeAssert (.iface 132 v) xT 132 true).run Tryz.prog w = .ok (.tuple #[v, .bool true]) w :=
  ⟨by kernel_rfl, by kernel_rfl, by kernel_rfl, by kernel_rfl⟩
theorem no_inst (v : Value) (xT : TypeId) (w : World) : (Instr.typeAssert (.iface 129 v) xT 125 true).run Tryz.prog w = .ok (.tuple #[zRadio, .bool false]) w
    ∧ (Instr.typeAssert (.iface 131 v) xT 125 true).run Tryz.prog w = .ok (.tuple #[zRadio, .bool false]) w ∧ (Instr.typeAssert (.iface 131 v) xT 129 true).run Tryz.prog w = .ok (.tuple #[zRadio, .bool false]) w
    ∧ (Instr.typeAssert (.iface 132 v) xT 125 true).run Tryz.prog w = .ok (.tuple #[zRadio, .bool false]) w ∧ (Instr.typeAssert (.iface 132 v) xT 129 true).run Tryz.prog w = .ok (.tuple #[zRadio, .bool false]) w ∧ (Instr.typeAssert (.iface 132 v) xT 131 true).run Tryz.prog w = .ok (.tuple #[zRadio, .bool false]) w :=
  ⟨by kernel_rfl, by kernel_rfl, by kernel_rfl, by kernel_rfl, by kernel_rfl, by kernel_rfl⟩
theorem four_at (a b c d : Value) (w : World) : (Instr.index 169 (.agg #[a, b, c, d]) (.int .i64 0)).run Tryz.prog w = .ok a w ∧ (Instr.index 169 (.agg #[a, b, c, d]) (.int .i64 1)).run Tryz.prog w = .ok b w
    ∧ (Instr.index 169 (.agg #[a, b, c, d]) (.int .i64 2)).run Tryz.prog w = .ok c w ∧ (Instr.index 169 (.agg #[a, b, c, d]) (.int .i64 3)).run Tryz.prog w = .ok d w :=
  ⟨by kernel_rfl, by kernel_rfl, by kernel_rfl, by kernel_rfl⟩
theorem kind_four {k : Int} (h0 : 0 ≤ k) (h1 : k ≤ 3) : k = 0 ∨ k = 1 ∨ k = 2 ∨ k = 3 := by omega
theorem made_any (m : Radio) (h0 : 0 ≤ m.kind) (h1 : m.kind ≤ 3) (w : World) : Calls Tryz.prog 78 #[.agg #[.int .i64 m.kind, .int .i64 m.place.x.lo, .int .i64 m.place.x.hi, .int .i64 m.place.y.lo, .int .i64 m.place.y.hi, .int .i64 m.place.z.lo, .int .i64 m.place.z.hi, .int .i64 m.dir.x.lo, .int .i64 m.dir.x.hi, .int .i64 m.dir.y.lo, .int .i64 m.dir.y.hi, .int .i64 m.dir.z.lo, .int .i64 m.dir.z.hi, .int .i64 m.value.lo, .int .i64 m.value.hi]] w fun e w' => e = .returned (madeV m) ∧ Grew w w' := by
  have i1 := fun a b c d w => (four_at a b c d w).1
  have i2 := fun a b c d w => (four_at a b c d w).2.1
  have i3 := fun a b c d w => (four_at a b c d w).2.2.1
  have i4 := fun a b c d w => (four_at a b c d w).2.2.2
  rcases kind_four h0 h1 with hk | hk | hk | hk
  all_goals clear h0 h1
  all_goals
    go_enter Tryz.func78, Tryz.ntmps78
    go_wp2
    go_ret
    exact ⟨by unfold madeV instT; simp [hk], (by repeat (first | with_reducible exact Grew.refl _ | with_reducible apply Grew.alloc | with_reducible apply Grew.later | with_reducible apply Grew.drew | with_reducible apply Grew.store | with_reducible assumption))⟩
theorem na_bad {p f : Bx} (h : awayE p f ≠ 0) : (normAway p f).e = awayE p f := by unfold normAway; rw [if_neg h]; rfl
theorem na_ok {p f : Bx} (h : awayE p f = 0) : normAway p f = normR (awayS p f).list := by unfold normAway; rw [if_pos h]
theorem rt_bad {p v f : Bx} (h : awayE p f ≠ 0) : (rateR p v f).e = awayE p f := by unfold rateR; rw [if_neg h]; rfl
theorem rt_dot {p v f : Bx} (h : awayE p f = 0) (h2 : (dotBR (awayS p f) v).e ≠ 0) : (rateR p v f).e = (dotBR (awayS p f) v).e := by unfold rateR divsR; rw [if_pos h, if_neg h2]; rfl
theorem rt_norm {p v f : Bx} (h : awayE p f = 0) (h2 : (dotBR (awayS p f) v).e = 0) (h3 : (normR (awayS p f).list).e ≠ 0) : (rateR p v f).e = (normR (awayS p f).list).e := by unfold rateR divsR; rw [if_pos h, if_pos h2, if_neg h3]; rfl
theorem rt_ok {p v f : Bx} (h : awayE p f = 0) (h2 : (dotBR (awayS p f) v).e = 0) (h3 : (normR (awayS p f).list).e = 0) : rateR p v f = divR (dotBR (awayS p f) v).s (normR (awayS p f).list).s := by unfold rateR divsR; rw [if_pos h, if_pos h2, if_pos h3]
end Go.Proofs.YtohinapfpfjlkaaGreat
