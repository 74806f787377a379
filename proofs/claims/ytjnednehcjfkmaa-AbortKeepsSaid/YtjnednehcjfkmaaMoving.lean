/-
  Contracts: abort's moving.
-/
import Derived.Test.YtjnednehcjfkmaaMotionA
import Derived.LoopN
import Derived.Laws.Tables
import Derived.Great.Walk
import Derived.Test.YtjnednehcjfkmaaRowMid
import Derived.Deep.RegionHeld3
namespace Go.Proofs.Ytjnednehcjfkmaa
open Go.RowKit
set_option maxRecDepth 100000
set_option maxHeartbeats 16000000
theorem infoMo : (Try.prog.info? 74).map (·.size) = some 20 := by kernel_rfl
theorem storeMo {w : World} {b : Nat} {l : List Value} [h : RowOf w b 74 20] [hl : OneCells l 20] :
    (Instr.storeAt 74 (.pointer (some ⟨b, 0, none⟩)) (.agg l.toArray)).run Try.prog w = .ok () (w.setRow b l.toArray) := storeAt_whole infoMo
theorem storeMo_new {w : World} {m : Nat} {l l' : List Value} [h : SizeAt w m] [hl : OneCells l 20] [hl' : OneCells l' 20] :
    (Instr.storeAt 74 (.pointer (some ⟨m, 0, none⟩)) (.agg l.toArray)).run Try.prog (w.alloc (.cells l'.toArray 74)) = .ok () (w.alloc (.cells l.toArray 74)) := storeAt_whole_new infoMo
theorem builtMo (t n : Int) : Try.prog.built 74 [(1, .int .i64 t), (2, .int .i64 n)] = some #[.int .i64 0, .int .i64 0, .int .i64 0, .int .i64 0, .int .i64 0, .int .i64 0, .int .i64 0, .int .i64 0, .int .i64 0, .int .i64 0, .int .i64 0, .int .i64 0, .int .i64 0, .int .i64 0, .int .i64 0, .int .i64 0, .int .i64 0, .int .i64 0, .int .i64 t, .int .i64 n] := by kernel_rfl
theorem builtMo0 : Try.prog.built 74 [] = some #[.int .i64 0, .int .i64 0, .int .i64 0, .int .i64 0, .int .i64 0, .int .i64 0, .int .i64 0, .int .i64 0, .int .i64 0, .int .i64 0, .int .i64 0, .int .i64 0, .int .i64 0, .int .i64 0, .int .i64 0, .int .i64 0, .int .i64 0, .int .i64 0, .int .i64 0, .int .i64 0] := by kernel_rfl
section
variable {ops : Array Oper} {rest : List Oper} {o : Oper} {a : Act} {w : World} {Q : Exit → Act → World → Prop}
theorem wpList_buildMo (hg : o.guard = none) (x y : Operand) (ho : o.op = .build 74 #[(1, x), (2, y)]) (t n : Int) (hx : a.eval x = .int .i64 t) (hy : a.eval y = .int .i64 n)
    (h : wpList Try.prog ops Q rest (a.put o.dst (.agg #[.int .i64 0, .int .i64 0, .int .i64 0, .int .i64 0, .int .i64 0, .int .i64 0, .int .i64 0, .int .i64 0, .int .i64 0, .int .i64 0, .int .i64 0, .int .i64 0, .int .i64 0, .int .i64 0, .int .i64 0, .int .i64 0, .int .i64 0, .int .i64 0, .int .i64 t, .int .i64 n])) w) : wpList Try.prog ops Q (o :: rest) a w := by
  have e : Try.prog.built 74 ((#[(1, x), (2, y)] : Array (Nat × Operand)).map fun p => (p.1, a.eval p.2)).toList = some #[.int .i64 0, .int .i64 0, .int .i64 0, .int .i64 0, .int .i64 0, .int .i64 0, .int .i64 0, .int .i64 0, .int .i64 0, .int .i64 0, .int .i64 0, .int .i64 0, .int .i64 0, .int .i64 0, .int .i64 0, .int .i64 0, .int .i64 0, .int .i64 0, .int .i64 t, .int .i64 n] := by
    have e1 : ((#[(1, x), (2, y)] : Array (Nat × Operand)).map fun p => (p.1, a.eval p.2)).toList = [(1, a.eval x), (2, a.eval y)] := by simp
    rw [e1, hx, hy]
    exact builtMo t n
  exact wpList_build hg _ _ ho (by rw [e]; rfl) (by rw [e]; exact h)
theorem wpList_zeroMo (hg : o.guard = none) (ho : o.op = .build 74 #[])
    (h : wpList Try.prog ops Q rest (a.put o.dst (.agg #[.int .i64 0, .int .i64 0, .int .i64 0, .int .i64 0, .int .i64 0, .int .i64 0, .int .i64 0, .int .i64 0, .int .i64 0, .int .i64 0, .int .i64 0, .int .i64 0, .int .i64 0, .int .i64 0, .int .i64 0, .int .i64 0, .int .i64 0, .int .i64 0, .int .i64 0, .int .i64 0])) w) : wpList Try.prog ops Q (o :: rest) a w := by
  have e : Try.prog.built 74 ((#[] : Array (Nat × Operand)).map fun p => (p.1, a.eval p.2)).toList = some #[.int .i64 0, .int .i64 0, .int .i64 0, .int .i64 0, .int .i64 0, .int .i64 0, .int .i64 0, .int .i64 0, .int .i64 0, .int .i64 0, .int .i64 0, .int .i64 0, .int .i64 0, .int .i64 0, .int .i64 0, .int .i64 0, .int .i64 0, .int .i64 0, .int .i64 0, .int .i64 0] := by
    have e1 : ((#[] : Array (Nat × Operand)).map fun p => (p.1, a.eval p.2)).toList = [] := by simp
    rw [e1]
    exact builtMo0
  exact wpList_build hg _ _ ho (by rw [e]; rfl) (by rw [e]; exact h)
theorem wpList_storeMo (hg : o.guard = none) (hd : o.dst = none) (x y : Operand) (ho : o.op = .store 74 x y) (b : Nat) (l : List Value) (hx : a.eval x = .pointer (some ⟨b, 0, none⟩)) (hy : a.eval y = .agg l.toArray)
    (hr : RowOf w b 74 20) (hl : OneCells l 20) (h : wpList Try.prog ops Q rest a (w.setRow b l.toArray)) : wpList Try.prog ops Q (o :: rest) a w := by
  obtain ⟨cur, h1, h2⟩ := hr.is
  refine wpList_store_row hg _ x y ho b l.toArray hx hy 74 cur h1 (by rw [infoMo]; simp [hl.len]) (by simp [h2, hl.len]) (by rw [Array.all_eq_true_iff_forall_mem]; intro v hv; exact hl.one v (by simpa using hv)) ?_
  rw [hd]
  exact h
theorem wpList_storeMo_new (hg : o.guard = none) (hd : o.dst = none) (x y : Operand) (ho : o.op = .store 74 x y) (m : Nat) (l l' : List Value) (hx : a.eval x = .pointer (some ⟨m, 0, none⟩)) (hy : a.eval y = .agg l.toArray)
    (hs : SizeAt w m) (hl : OneCells l 20) (hl' : OneCells l' 20) (h : wpList Try.prog ops Q rest a (w.alloc (.cells l.toArray 74))) : wpList Try.prog ops Q (o :: rest) a (w.alloc (.cells l'.toArray 74)) := by
  refine wpList_storeMo hg hd x y ho m l hx hy (@rowOf_new w l' _ m 20 hs hl') hl ?_
  obtain rfl := hs.eq
  rw [World.setRow_alloc_new]
  exact h
theorem zeroMo : (Try.prog.info? 74).map (fun i => (i.zero, i.size)) = some (some (.agg #[.int .i64 0, .int .i64 0, .int .i64 0, .int .i64 0, .int .i64 0, .int .i64 0, .int .i64 0, .int .i64 0, .int .i64 0, .int .i64 0, .int .i64 0, .int .i64 0, .int .i64 0, .int .i64 0, .int .i64 0, .int .i64 0, .int .i64 0, .int .i64 0, .int .i64 0, .int .i64 0]), 20) := by kernel_rfl
theorem wpList_newMo {o2 : Oper} {m : Nat} (hg : o.guard = none) (hg2 : o2.guard = none) (hd2 : o2.dst = none) (p : Tmp) (y : Operand) (hd : o.dst = some p) (ho : o.op = .alloc 74) (ho2 : o2.op = .store 74 (.tmp p) y) (l : List Value)
    (hp : p < a.tmps.size) (hy : ∀ v, (a.put (some p) v).eval y = .agg l.toArray) (hs : SizeAt w m) (hl : OneCells l 20)
    (h : wpList Try.prog ops Q rest (a.put (some p) (.pointer (some ⟨m, 0, none⟩))) (w.alloc (.cells l.toArray 74))) : wpList Try.prog ops Q (o :: o2 :: rest) a w := by
  obtain rfl := hs.eq
  have hrun : (execOp a.eval o).run Try.prog w = .ok (.value (.pointer (some ⟨w.heap.size, 0, none⟩))) (w.alloc (.cells #[.int .i64 0, .int .i64 0, .int .i64 0, .int .i64 0, .int .i64 0, .int .i64 0, .int .i64 0, .int .i64 0, .int .i64 0, .int .i64 0, .int .i64 0, .int .i64 0, .int .i64 0, .int .i64 0, .int .i64 0, .int .i64 0, .int .i64 0, .int .i64 0, .int .i64 0, .int .i64 0] 74)) := by
    obtain ⟨hz, -⟩ := zero_of_info zeroMo
    unfold execOp
    simp [ho, hz, go_sem]
  refine Go.Great.wpList_allocTo hg (some p) hd _ _ hrun ?_
  refine wpList_storeMo_new hg2 hd2 (.tmp p) y ho2 _ l [.int .i64 0, .int .i64 0, .int .i64 0, .int .i64 0, .int .i64 0, .int .i64 0, .int .i64 0, .int .i64 0, .int .i64 0, .int .i64 0, .int .i64 0, .int .i64 0, .int .i64 0, .int .i64 0, .int .i64 0, .int .i64 0, .int .i64 0, .int .i64 0, .int .i64 0, .int .i64 0] ?_ (hy _) ⟨rfl⟩ hl inferInstance h
  simp [Act.eval, Act.put, hp]
end
def zMo : Mo := ⟨⟨⟨0, 0⟩, ⟨0, 0⟩, ⟨0, 0⟩⟩, ⟨⟨0, 0⟩, ⟨0, 0⟩, ⟨0, 0⟩⟩, ⟨⟨0, 0⟩, ⟨0, 0⟩, ⟨0, 0⟩⟩, 0, 0⟩
theorem mo_spans (m : Mo) : m.spansB = (m.d.x.okB && (m.w.x.okB && (m.a.x.okB && (m.d.y.okB && (m.w.y.okB && (m.a.y.okB && (m.d.z.okB && (m.w.z.okB && m.a.z.okB)))))))) := by
  unfold Mo.spansB Bx.okB
  generalize m.d.x.okB = a1
  generalize m.w.x.okB = a2
  generalize m.a.x.okB = a3
  generalize m.d.y.okB = a4
  generalize m.w.y.okB = a5
  generalize m.a.y.okB = a6
  generalize m.d.z.okB = a7
  generalize m.w.z.okB = a8
  generalize m.a.z.okB = a9
  revert a1 a2 a3 a4 a5 a6 a7 a8 a9
  decide
/-- What moving hands back. -/
def RetMv (m : Mo) (w : World) (e : Ending) (w' : World) : Prop := e = .returned (.tuple #[if m.spansB then .agg #[.int .i64 m.d.x.lo, .int .i64 m.d.x.hi, .int .i64 m.w.x.lo, .int .i64 m.w.x.hi, .int .i64 m.a.x.lo, .int .i64 m.a.x.hi, .int .i64 m.d.y.lo, .int .i64 m.d.y.hi, .int .i64 m.w.y.lo, .int .i64 m.w.y.hi, .int .i64 m.a.y.lo, .int .i64 m.a.y.hi, .int .i64 m.d.z.lo, .int .i64 m.d.z.hi, .int .i64 m.w.z.lo, .int .i64 m.w.z.hi, .int .i64 m.a.z.lo, .int .i64 m.a.z.hi, .int .i64 m.t, .int .i64 m.n] else .agg #[.int .i64 zMo.d.x.lo, .int .i64 zMo.d.x.hi, .int .i64 zMo.w.x.lo, .int .i64 zMo.w.x.hi, .int .i64 zMo.a.x.lo, .int .i64 zMo.a.x.hi, .int .i64 zMo.d.y.lo, .int .i64 zMo.d.y.hi, .int .i64 zMo.w.y.lo, .int .i64 zMo.w.y.hi, .int .i64 zMo.a.y.lo, .int .i64 zMo.a.y.hi, .int .i64 zMo.d.z.lo, .int .i64 zMo.d.z.hi, .int .i64 zMo.w.z.lo, .int .i64 zMo.w.z.hi, .int .i64 zMo.a.z.lo, .int .i64 zMo.a.z.hi, .int .i64 zMo.t, .int .i64 zMo.n], .bool (m.spansB && m.flagB)]) ∧ Grew w w'
theorem mv_no {m : Mo} (h : m.spansB = false) : Ending.returned (.tuple #[.agg #[.int .i64 zMo.d.x.lo, .int .i64 zMo.d.x.hi, .int .i64 zMo.w.x.lo, .int .i64 zMo.w.x.hi, .int .i64 zMo.a.x.lo, .int .i64 zMo.a.x.hi, .int .i64 zMo.d.y.lo, .int .i64 zMo.d.y.hi, .int .i64 zMo.w.y.lo, .int .i64 zMo.w.y.hi, .int .i64 zMo.a.y.lo, .int .i64 zMo.a.y.hi, .int .i64 zMo.d.z.lo, .int .i64 zMo.d.z.hi, .int .i64 zMo.w.z.lo, .int .i64 zMo.w.z.hi, .int .i64 zMo.a.z.lo, .int .i64 zMo.a.z.hi, .int .i64 zMo.t, .int .i64 zMo.n], .bool false]) = .returned (.tuple #[if m.spansB then .agg #[.int .i64 m.d.x.lo, .int .i64 m.d.x.hi, .int .i64 m.w.x.lo, .int .i64 m.w.x.hi, .int .i64 m.a.x.lo, .int .i64 m.a.x.hi, .int .i64 m.d.y.lo, .int .i64 m.d.y.hi, .int .i64 m.w.y.lo, .int .i64 m.w.y.hi, .int .i64 m.a.y.lo, .int .i64 m.a.y.hi, .int .i64 m.d.z.lo, .int .i64 m.d.z.hi, .int .i64 m.w.z.lo, .int .i64 m.w.z.hi, .int .i64 m.a.z.lo, .int .i64 m.a.z.hi, .int .i64 m.t, .int .i64 m.n] else .agg #[.int .i64 zMo.d.x.lo, .int .i64 zMo.d.x.hi, .int .i64 zMo.w.x.lo, .int .i64 zMo.w.x.hi, .int .i64 zMo.a.x.lo, .int .i64 zMo.a.x.hi, .int .i64 zMo.d.y.lo, .int .i64 zMo.d.y.hi, .int .i64 zMo.w.y.lo, .int .i64 zMo.w.y.hi, .int .i64 zMo.a.y.lo, .int .i64 zMo.a.y.hi, .int .i64 zMo.d.z.lo, .int .i64 zMo.d.z.hi, .int .i64 zMo.w.z.lo, .int .i64 zMo.w.z.hi, .int .i64 zMo.a.z.lo, .int .i64 zMo.a.z.hi, .int .i64 zMo.t, .int .i64 zMo.n], .bool (m.spansB && m.flagB)]) := by rw [h]; rfl
theorem mv_yes {m : Mo} {b : Bool} (h : m.spansB = true) (hb : b = m.flagB) : Ending.returned (.tuple #[.agg #[.int .i64 m.d.x.lo, .int .i64 m.d.x.hi, .int .i64 m.w.x.lo, .int .i64 m.w.x.hi, .int .i64 m.a.x.lo, .int .i64 m.a.x.hi, .int .i64 m.d.y.lo, .int .i64 m.d.y.hi, .int .i64 m.w.y.lo, .int .i64 m.w.y.hi, .int .i64 m.a.y.lo, .int .i64 m.a.y.hi, .int .i64 m.d.z.lo, .int .i64 m.d.z.hi, .int .i64 m.w.z.lo, .int .i64 m.w.z.hi, .int .i64 m.a.z.lo, .int .i64 m.a.z.hi, .int .i64 m.t, .int .i64 m.n], .bool b]) = .returned (.tuple #[if m.spansB then .agg #[.int .i64 m.d.x.lo, .int .i64 m.d.x.hi, .int .i64 m.w.x.lo, .int .i64 m.w.x.hi, .int .i64 m.a.x.lo, .int .i64 m.a.x.hi, .int .i64 m.d.y.lo, .int .i64 m.d.y.hi, .int .i64 m.w.y.lo, .int .i64 m.w.y.hi, .int .i64 m.a.y.lo, .int .i64 m.a.y.hi, .int .i64 m.d.z.lo, .int .i64 m.d.z.hi, .int .i64 m.w.z.lo, .int .i64 m.w.z.hi, .int .i64 m.a.z.lo, .int .i64 m.a.z.hi, .int .i64 m.t, .int .i64 m.n] else .agg #[.int .i64 zMo.d.x.lo, .int .i64 zMo.d.x.hi, .int .i64 zMo.w.x.lo, .int .i64 zMo.w.x.hi, .int .i64 zMo.a.x.lo, .int .i64 zMo.a.x.hi, .int .i64 zMo.d.y.lo, .int .i64 zMo.d.y.hi, .int .i64 zMo.w.y.lo, .int .i64 zMo.w.y.hi, .int .i64 zMo.a.y.lo, .int .i64 zMo.a.y.hi, .int .i64 zMo.d.z.lo, .int .i64 zMo.d.z.hi, .int .i64 zMo.w.z.lo, .int .i64 zMo.w.z.hi, .int .i64 zMo.a.z.lo, .int .i64 zMo.a.z.hi, .int .i64 zMo.t, .int .i64 zMo.n], .bool (m.spansB && m.flagB)]) := by rw [h, hb]; rfl
theorem boxAt_20 {w : World} {b : Nat} {x0 x1 x2 x3 x4 x5 x6 x7 x8 x9 x10 x11 x12 x13 x14 x15 x16 x17 x18 x19 : Value} (h0 : w.cell? ⟨b, 0, none⟩ = some x0) (f0 : w.frozen? ⟨b, 0, none⟩ = false) (h1 : w.cell? ⟨b, 1, none⟩ = some x1) (f1 : w.frozen? ⟨b, 1, none⟩ = false) (h2 : w.cell? ⟨b, 2, none⟩ = some x2) (f2 : w.frozen? ⟨b, 2, none⟩ = false) (h3 : w.cell? ⟨b, 3, none⟩ = some x3) (f3 : w.frozen? ⟨b, 3, none⟩ = false) (h4 : w.cell? ⟨b, 4, none⟩ = some x4) (f4 : w.frozen? ⟨b, 4, none⟩ = false) (h5 : w.cell? ⟨b, 5, none⟩ = some x5) (f5 : w.frozen? ⟨b, 5, none⟩ = false) (h6 : w.cell? ⟨b, 6, none⟩ = some x6) (f6 : w.frozen? ⟨b, 6, none⟩ = false) (h7 : w.cell? ⟨b, 7, none⟩ = some x7) (f7 : w.frozen? ⟨b, 7, none⟩ = false) (h8 : w.cell? ⟨b, 8, none⟩ = some x8) (f8 : w.frozen? ⟨b, 8, none⟩ = false) (h9 : w.cell? ⟨b, 9, none⟩ = some x9) (f9 : w.frozen? ⟨b, 9, none⟩ = false) (h10 : w.cell? ⟨b, 10, none⟩ = some x10) (f10 : w.frozen? ⟨b, 10, none⟩ = false) (h11 : w.cell? ⟨b, 11, none⟩ = some x11) (f11 : w.frozen? ⟨b, 11, none⟩ = false) (h12 : w.cell? ⟨b, 12, none⟩ = some x12) (f12 : w.frozen? ⟨b, 12, none⟩ = false) (h13 : w.cell? ⟨b, 13, none⟩ = some x13) (f13 : w.frozen? ⟨b, 13, none⟩ = false) (h14 : w.cell? ⟨b, 14, none⟩ = some x14) (f14 : w.frozen? ⟨b, 14, none⟩ = false) (h15 : w.cell? ⟨b, 15, none⟩ = some x15) (f15 : w.frozen? ⟨b, 15, none⟩ = false) (h16 : w.cell? ⟨b, 16, none⟩ = some x16) (f16 : w.frozen? ⟨b, 16, none⟩ = false) (h17 : w.cell? ⟨b, 17, none⟩ = some x17) (f17 : w.frozen? ⟨b, 17, none⟩ = false) (h18 : w.cell? ⟨b, 18, none⟩ = some x18) (f18 : w.frozen? ⟨b, 18, none⟩ = false) (h19 : w.cell? ⟨b, 19, none⟩ = some x19) (f19 : w.frozen? ⟨b, 19, none⟩ = false) : BoxAt w b [x0, x1, x2, x3, x4, x5, x6, x7, x8, x9, x10, x11, x12, x13, x14, x15, x16, x17, x18, x19] := by
  intro i v hv
  match i, hv with
  | 0, hv => simp at hv; subst hv; exact ⟨h0, f0⟩
  | 1, hv => simp at hv; subst hv; exact ⟨h1, f1⟩
  | 2, hv => simp at hv; subst hv; exact ⟨h2, f2⟩
  | 3, hv => simp at hv; subst hv; exact ⟨h3, f3⟩
  | 4, hv => simp at hv; subst hv; exact ⟨h4, f4⟩
  | 5, hv => simp at hv; subst hv; exact ⟨h5, f5⟩
  | 6, hv => simp at hv; subst hv; exact ⟨h6, f6⟩
  | 7, hv => simp at hv; subst hv; exact ⟨h7, f7⟩
  | 8, hv => simp at hv; subst hv; exact ⟨h8, f8⟩
  | 9, hv => simp at hv; subst hv; exact ⟨h9, f9⟩
  | 10, hv => simp at hv; subst hv; exact ⟨h10, f10⟩
  | 11, hv => simp at hv; subst hv; exact ⟨h11, f11⟩
  | 12, hv => simp at hv; subst hv; exact ⟨h12, f12⟩
  | 13, hv => simp at hv; subst hv; exact ⟨h13, f13⟩
  | 14, hv => simp at hv; subst hv; exact ⟨h14, f14⟩
  | 15, hv => simp at hv; subst hv; exact ⟨h15, f15⟩
  | 16, hv => simp at hv; subst hv; exact ⟨h16, f16⟩
  | 17, hv => simp at hv; subst hv; exact ⟨h17, f17⟩
  | 18, hv => simp at hv; subst hv; exact ⟨h18, f18⟩
  | 19, hv => simp at hv; subst hv; exact ⟨h19, f19⟩
theorem boxAt_fresh {w : World} {n : Nat} [h : SizeAt w n] (cs : List Value) (t : TypeId) : BoxAt (w.alloc (.cells cs.toArray t)) n cs := by
  obtain rfl := h.eq
  exact boxAt_new w cs t
theorem opPure_build {o : Oper} {a : Act} {w : World} {t : TypeId} {parts : Array (Nat × Operand)} {l : List (Nat × Value)} {cells : Array Value} (ho : o.op = .build t parts) (h : Try.prog.built t l = some cells) (hl : (parts.map fun p => (p.1, a.eval p.2)).toList = l := by rfl) : opPure Try.prog o a w (.agg cells) := by
  subst hl
  unfold opPure execOp
  simp only [ho]
  have e := run_build (P := Try.prog) w t (parts.map fun p => (p.1, a.eval p.2)) cells h
  simp [e]
theorem BoxAt.put {w : World} {b : Nat} {cs : List Value} (h : BoxAt w b cs) (j : Nat) (x : Value) : BoxAt (w.setCell ⟨b, j, none⟩ x) b (cs.set j x) := by
  intro i v hv
  rw [List.getElem?_set] at hv
  by_cases e : j = i
  · subst e
    rw [if_pos rfl] at hv
    split at hv
    · rename_i hl
      obtain ⟨h1, h2⟩ := h j _ (List.getElem?_eq_getElem hl)
      cases hv
      exact ⟨World.cell?_setCell_same _ _ _ h1, by rw [World.frozen?_setCell]; exact h2⟩
    · cases hv
  · rw [if_neg e] at hv
    obtain ⟨h1, h2⟩ := h i v hv
    exact ⟨by rw [World.cell?_setCell_other _ _ _ _ (by intro e2; injection e2 with _ e3; exact e e3), h1], by rw [World.frozen?_setCell]; exact h2⟩
theorem mv_results {tmps : Array Value} {W : World} (b : Nat) (l : List Value) (v : Value) (h1 : tmps.getD 10 undef = .pointer (some ⟨b, 0, none⟩)) (h2 : tmps.getD 11 undef = v) (hr : RowIs W b 74 l) (hl : l.length = 20) :
    (results Try.f25 tmps).run Try.prog W = .ok (.tuple #[.agg l.toArray, v]) W := by
  have h3 := loadVar_is (ty := 74) inferInstance hr hl
  simp only [Array.getD_eq_getD_getElem?] at h1 h2
  simp [results, Try.results25, asAddr, h1, h2, h3]
/-- What lies in an axis. -/
def Mo.axis (m : Mo) (i : Nat) : Bx := ⟨m.d.at i, m.w.at i, m.a.at i⟩
def mvVal (m : Mo) (i : Nat) : List Value := [.int .i64 ((m.axis i)).x.lo, .int .i64 ((m.axis i)).x.hi, .int .i64 ((m.axis i)).y.lo, .int .i64 ((m.axis i)).y.hi, .int .i64 ((m.axis i)).z.lo, .int .i64 ((m.axis i)).z.hi]
def mvZ : List Value := [.int .i64 0, .int .i64 0, .int .i64 0, .int .i64 0, .int .i64 0, .int .i64 0]
/-- A motion whose first axes are filled. -/
def mvCells (m : Mo) (i : Nat) : List Value := (if 0 < i then mvVal m 0 else mvZ) ++ (if 1 < i then mvVal m 1 else mvZ) ++ (if 2 < i then mvVal m 2 else mvZ) ++ [.int .i64 m.t, .int .i64 m.n]
theorem mv_next (m : Mo) (i : Nat) (h : i < 3) : ((((((mvCells m i).set (i * 6) (.int .i64 (m.d.at i).lo)).set (i * 6 + 1) (.int .i64 (m.d.at i).hi)).set (i * 6 + 2) (.int .i64 (m.w.at i).lo)).set (i * 6 + 3) (.int .i64 (m.w.at i).hi)).set (i * 6 + 4) (.int .i64 (m.a.at i).lo)).set (i * 6 + 5) (.int .i64 (m.a.at i).hi) = mvCells m (i + 1) := by
  rcases (show i = 0 ∨ i = 1 ∨ i = 2 by omega) with rfl | rfl | rfl <;> rfl
theorem mv_at (m : Mo) (i : Nat) (h : i < 3) : (mvCells m (i + 1))[i * 6]? = some (.int .i64 (m.d.at i).lo) ∧ (mvCells m (i + 1))[i * 6 + 1]? = some (.int .i64 (m.d.at i).hi) ∧ (mvCells m (i + 1))[i * 6 + 2]? = some (.int .i64 (m.w.at i).lo) ∧ (mvCells m (i + 1))[i * 6 + 3]? = some (.int .i64 (m.w.at i).hi) ∧ (mvCells m (i + 1))[i * 6 + 4]? = some (.int .i64 (m.a.at i).lo) ∧ (mvCells m (i + 1))[i * 6 + 5]? = some (.int .i64 (m.a.at i).hi) := by
  rcases (show i = 0 ∨ i = 1 ∨ i = 2 by omega) with rfl | rfl | rfl <;> exact ⟨rfl, rfl, rfl, rfl, rfl, rfl⟩
theorem mv_has (m : Mo) (i q : Nat) (h : i < 3) (hq : q < 6) : ∃ v, (mvCells m i)[i * 6 + q]? = some v := by
  rcases (show i = 0 ∨ i = 1 ∨ i = 2 by omega) with rfl | rfl | rfl <;> rcases (show q = 0 ∨ q = 1 ∨ q = 2 ∨ q = 3 ∨ q = 4 ∨ q = 5 by omega) with rfl | rfl | rfl | rfl | rfl | rfl <;> exact ⟨_, rfl⟩
theorem box_two {w : World} {b : Nat} {x : Bx} (h : BoxAt w b [.int .i64 x.x.lo, .int .i64 x.x.hi, .int .i64 x.y.lo, .int .i64 x.y.hi, .int .i64 x.z.lo, .int .i64 x.z.hi]) (i : Nat) (hi : i < 3) : w.cell? ⟨b, i * 2, none⟩ = some (.int .i64 (x.at i).lo) ∧ w.cell? ⟨b, i * 2 + 1, none⟩ = some (.int .i64 (x.at i).hi) := by
  rcases (show i = 0 ∨ i = 1 ∨ i = 2 by omega) with rfl | rfl | rfl
  · exact ⟨(h 0 _ rfl).1, (h 1 _ rfl).1⟩
  · exact ⟨(h 2 _ rfl).1, (h 3 _ rfl).1⟩
  · exact ⟨(h 4 _ rfl).1, (h 5 _ rfl).1⟩
theorem index_axis (x : Bx) (j : Nat) (hj : j < 3) (w : World) : (Instr.index 37 (.agg #[.int .i64 x.x.lo, .int .i64 x.x.hi, .int .i64 x.y.lo, .int .i64 x.y.hi, .int .i64 x.z.lo, .int .i64 x.z.hi]) (.int .i64 (j : Int))).run Try.prog w = .ok (.agg #[.int .i64 ((x.at j)).lo, .int .i64 ((x.at j)).hi]) w := by
  rcases (show j = 0 ∨ j = 1 ∨ j = 2 by omega) with rfl | rfl | rfl
  · kernel_rfl
  · kernel_rfl
  · kernel_rfl
theorem mo_no {m : Mo} {i j : Nat} (hi : i < 3) (hj : j < 3) (h : ((m.axis i).at j).okB = false) : m.spansB = false := by
  rw [mo_spans]
  rcases (show i = 0 ∨ i = 1 ∨ i = 2 by omega) with rfl | rfl | rfl <;> rcases (show j = 0 ∨ j = 1 ∨ j = 2 by omega) with rfl | rfl | rfl <;> simp only [Mo.axis, Bx.at] at h <;> simp [h]
theorem mo_yes {m : Mo} (h : ∀ i j, i < 3 → j < 3 → ((m.axis i).at j).okB = true) : m.spansB = true := by
  rw [mo_spans]
  have h00 := h 0 0 (by omega) (by omega)
  have h01 := h 0 1 (by omega) (by omega)
  have h02 := h 0 2 (by omega) (by omega)
  have h10 := h 1 0 (by omega) (by omega)
  have h11 := h 1 1 (by omega) (by omega)
  have h12 := h 1 2 (by omega) (by omega)
  have h20 := h 2 0 (by omega) (by omega)
  have h21 := h 2 1 (by omega) (by omega)
  have h22 := h 2 2 (by omega) (by omega)
  simp only [Mo.axis, Bx.at] at h00 h01 h02 h10 h11 h12 h20 h21 h22
  simp [h00, h01, h02, h10, h11, h12, h20, h21, h22]
/-- The spans of the first axes are valid. -/
def RowsOk (m : Mo) (i : Nat) : Prop := ∀ r j, r < i → j < 3 → ((m.axis r).at j).okB = true
theorem RowsOk.next {m : Mo} {i : Nat} (h : RowsOk m i) (h2 : ∀ j, j < 3 → ((m.axis i).at j).okB = true) : RowsOk m (i + 1) := by
  intro r j hr hj
  by_cases e : r = i
  · subst e; exact h2 j hj
  · exact h r j (by omega) hj
theorem box_range {w : World} {b : Nat} {cs : List Value} (h : BoxAt w b cs) : RangeIs w b 0 cs.length cs := ⟨fun j v hv => by rw [Nat.zero_add]; exact (h j v hv).1, rfl⟩
theorem built3 (a b c d e f : Int) : Try.prog.built 37 [(0, .agg #[.int .i64 a, .int .i64 b]), (1, .agg #[.int .i64 c, .int .i64 d]), (2, .agg #[.int .i64 e, .int .i64 f])] = some #[.int .i64 a, .int .i64 b, .int .i64 c, .int .i64 d, .int .i64 e, .int .i64 f] := by kernel_rfl
theorem abMoving_any (m : Mo) (w : World) : Calls Try.prog 25 #[.agg #[.int .i64 m.d.x.lo, .int .i64 m.d.x.hi, .int .i64 m.d.y.lo, .int .i64 m.d.y.hi, .int .i64 m.d.z.lo, .int .i64 m.d.z.hi], .agg #[.int .i64 m.w.x.lo, .int .i64 m.w.x.hi, .int .i64 m.w.y.lo, .int .i64 m.w.y.hi, .int .i64 m.w.z.lo, .int .i64 m.w.z.hi], .agg #[.int .i64 m.a.x.lo, .int .i64 m.a.x.hi, .int .i64 m.a.y.lo, .int .i64 m.a.y.hi, .int .i64 m.a.z.lo, .int .i64 m.a.z.hi], .int .i64 m.t, .int .i64 m.n] w (RetMv m w) := by
  have Hd := Lib.hid (show BoxAt (((w.alloc (.cells #[.int .i64 m.d.x.lo, .int .i64 m.d.x.hi, .int .i64 m.d.y.lo, .int .i64 m.d.y.hi, .int .i64 m.d.z.lo, .int .i64 m.d.z.hi] 38)).alloc (.cells #[.int .i64 m.w.x.lo, .int .i64 m.w.x.hi, .int .i64 m.w.y.lo, .int .i64 m.w.y.hi, .int .i64 m.w.z.lo, .int .i64 m.w.z.hi] 38)).alloc (.cells #[.int .i64 m.a.x.lo, .int .i64 m.a.x.hi, .int .i64 m.a.y.lo, .int .i64 m.a.y.hi, .int .i64 m.a.z.lo, .int .i64 m.a.z.hi] 38)) (w.heap.size) [.int .i64 m.d.x.lo, .int .i64 m.d.x.hi, .int .i64 m.d.y.lo, .int .i64 m.d.y.hi, .int .i64 m.d.z.lo, .int .i64 m.d.z.hi] from (boxAt_new w [.int .i64 m.d.x.lo, .int .i64 m.d.x.hi, .int .i64 m.d.y.lo, .int .i64 m.d.y.hi, .int .i64 m.d.z.lo, .int .i64 m.d.z.hi] _).grew (by simp) (by repeat (first | with_reducible exact Grew.refl _ | with_reducible apply Grew.alloc | with_reducible apply Grew.later | with_reducible apply Grew.drew | with_reducible apply Grew.store | with_reducible assumption)))
  have Hw := Lib.hid (show BoxAt (((w.alloc (.cells #[.int .i64 m.d.x.lo, .int .i64 m.d.x.hi, .int .i64 m.d.y.lo, .int .i64 m.d.y.hi, .int .i64 m.d.z.lo, .int .i64 m.d.z.hi] 38)).alloc (.cells #[.int .i64 m.w.x.lo, .int .i64 m.w.x.hi, .int .i64 m.w.y.lo, .int .i64 m.w.y.hi, .int .i64 m.w.z.lo, .int .i64 m.w.z.hi] 38)).alloc (.cells #[.int .i64 m.a.x.lo, .int .i64 m.a.x.hi, .int .i64 m.a.y.lo, .int .i64 m.a.y.hi, .int .i64 m.a.z.lo, .int .i64 m.a.z.hi] 38)) (w.heap.size + 1) [.int .i64 m.w.x.lo, .int .i64 m.w.x.hi, .int .i64 m.w.y.lo, .int .i64 m.w.y.hi, .int .i64 m.w.z.lo, .int .i64 m.w.z.hi] from (boxAt_fresh (w := w.alloc _) [.int .i64 m.w.x.lo, .int .i64 m.w.x.hi, .int .i64 m.w.y.lo, .int .i64 m.w.y.hi, .int .i64 m.w.z.lo, .int .i64 m.w.z.hi] _).grew (by simp) (by repeat (first | with_reducible exact Grew.refl _ | with_reducible apply Grew.alloc | with_reducible apply Grew.later | with_reducible apply Grew.drew | with_reducible apply Grew.store | with_reducible assumption)))
  have Ha := Lib.hid (show BoxAt (((w.alloc (.cells #[.int .i64 m.d.x.lo, .int .i64 m.d.x.hi, .int .i64 m.d.y.lo, .int .i64 m.d.y.hi, .int .i64 m.d.z.lo, .int .i64 m.d.z.hi] 38)).alloc (.cells #[.int .i64 m.w.x.lo, .int .i64 m.w.x.hi, .int .i64 m.w.y.lo, .int .i64 m.w.y.hi, .int .i64 m.w.z.lo, .int .i64 m.w.z.hi] 38)).alloc (.cells #[.int .i64 m.a.x.lo, .int .i64 m.a.x.hi, .int .i64 m.a.y.lo, .int .i64 m.a.y.hi, .int .i64 m.a.z.lo, .int .i64 m.a.z.hi] 38)) (w.heap.size + 1 + 1) [.int .i64 m.a.x.lo, .int .i64 m.a.x.hi, .int .i64 m.a.y.lo, .int .i64 m.a.y.hi, .int .i64 m.a.z.lo, .int .i64 m.a.z.hi] from boxAt_fresh _ _)
  have nw10 : NewFor (((w.alloc (.cells #[.int .i64 m.d.x.lo, .int .i64 m.d.x.hi, .int .i64 m.d.y.lo, .int .i64 m.d.y.hi, .int .i64 m.d.z.lo, .int .i64 m.d.z.hi] 38)).alloc (.cells #[.int .i64 m.w.x.lo, .int .i64 m.w.x.hi, .int .i64 m.w.y.lo, .int .i64 m.w.y.hi, .int .i64 m.w.z.lo, .int .i64 m.w.z.hi] 38)).alloc (.cells #[.int .i64 m.a.x.lo, .int .i64 m.a.x.hi, .int .i64 m.a.y.lo, .int .i64 m.a.y.hi, .int .i64 m.a.z.lo, .int .i64 m.a.z.hi] 38)) (w.heap.size + 1 + 1 + 1) := ⟨by simp <;> omega⟩
  have nw12 : NewFor (((w.alloc (.cells #[.int .i64 m.d.x.lo, .int .i64 m.d.x.hi, .int .i64 m.d.y.lo, .int .i64 m.d.y.hi, .int .i64 m.d.z.lo, .int .i64 m.d.z.hi] 38)).alloc (.cells #[.int .i64 m.w.x.lo, .int .i64 m.w.x.hi, .int .i64 m.w.y.lo, .int .i64 m.w.y.hi, .int .i64 m.w.z.lo, .int .i64 m.w.z.hi] 38)).alloc (.cells #[.int .i64 m.a.x.lo, .int .i64 m.a.x.hi, .int .i64 m.a.y.lo, .int .i64 m.a.y.hi, .int .i64 m.a.z.lo, .int .i64 m.a.z.hi] 38)) (w.heap.size + 1 + 1 + 1 + 1) := ⟨by simp <;> omega⟩
  go_enter Try.func25, Try.ntmps25
  go_wp2_with (first | ((with_reducible refine wpList_buildMo ?_ (.tmp 16) (.tmp 17) ?_ m.t m.n ?_ ?_ ?_); (· rfl); (· rfl); (· rfl); (· rfl)) | ((with_reducible refine wpList_zeroMo ?_ ?_ ?_); (· rfl); (· rfl)) | ((with_reducible refine wpList_storeMo_new ?_ ?_ (.tmp 12) (.tmp 18) ?_ ?_ ?_ _ ?_ ?_ ?_ ?_ ?_ ?_); (· rfl); (· rfl); (· rfl); rotate_left 2; (· rfl); (· rfl); (· infer_instance); (· infer_instance); (· infer_instance)) | ((with_reducible refine wpList_storeMo ?_ ?_ (.tmp 10) (.tmp 45) ?_ ?_ ?_ ?_ ?_ ?_ ?_ ?_); (· rfl); (· rfl); (· rfl); rotate_left 2; (· rfl); (· rfl); (· infer_instance); (· infer_instance)) | ((with_reducible refine wpList_storeMo ?_ ?_ (.tmp 10) (.tmp 48) ?_ ?_ ?_ ?_ ?_ ?_ ?_ ?_); (· rfl); (· rfl); (· rfl); rotate_left 2; (· rfl); (· rfl); (· infer_instance); (· infer_instance)))
  refine wp_to_later (z := (((w.alloc (.cells #[.int .i64 m.d.x.lo, .int .i64 m.d.x.hi, .int .i64 m.d.y.lo, .int .i64 m.d.y.hi, .int .i64 m.d.z.lo, .int .i64 m.d.z.hi] 38)).alloc (.cells #[.int .i64 m.w.x.lo, .int .i64 m.w.x.hi, .int .i64 m.w.y.lo, .int .i64 m.w.y.hi, .int .i64 m.w.z.lo, .int .i64 m.w.z.hi] 38)).alloc (.cells #[.int .i64 m.a.x.lo, .int .i64 m.a.x.hi, .int .i64 m.a.y.lo, .int .i64 m.a.y.hi, .int .i64 m.a.z.lo, .int .i64 m.a.z.hi] 38))) (by repeat (first | with_reducible exact Grew.refl _ | with_reducible apply Grew.alloc | with_reducible apply Grew.later | with_reducible apply Grew.drew | with_reducible apply Grew.store | with_reducible assumption)) ?_
  intro W0 hW0
  have r10 : RowOf W0.world (w.heap.size + 1 + 1 + 1) 74 20 := by rw [hW0]; infer_instance
  have HB0 := Lib.hid (show BoxAt W0.world (w.heap.size + 1 + 1 + 1 + 1) (mvCells m 0) by rw [hW0]; exact boxAt_fresh _ _)
  have gw : Grew w (((w.alloc (.cells #[.int .i64 m.d.x.lo, .int .i64 m.d.x.hi, .int .i64 m.d.y.lo, .int .i64 m.d.y.hi, .int .i64 m.d.z.lo, .int .i64 m.d.z.hi] 38)).alloc (.cells #[.int .i64 m.w.x.lo, .int .i64 m.w.x.hi, .int .i64 m.w.y.lo, .int .i64 m.w.y.hi, .int .i64 m.w.z.lo, .int .i64 m.w.z.hi] 38)).alloc (.cells #[.int .i64 m.a.x.lo, .int .i64 m.a.x.hi, .int .i64 m.a.y.lo, .int .i64 m.a.y.hi, .int .i64 m.a.z.lo, .int .i64 m.a.z.hi] 38)) := (by repeat (first | with_reducible exact Grew.refl _ | with_reducible apply Grew.alloc | with_reducible apply Grew.later | with_reducible apply Grew.drew | with_reducible apply Grew.store | with_reducible assumption))
  have ib0 : BlockIn (((w.alloc (.cells #[.int .i64 m.d.x.lo, .int .i64 m.d.x.hi, .int .i64 m.d.y.lo, .int .i64 m.d.y.hi, .int .i64 m.d.z.lo, .int .i64 m.d.z.hi] 38)).alloc (.cells #[.int .i64 m.w.x.lo, .int .i64 m.w.x.hi, .int .i64 m.w.y.lo, .int .i64 m.w.y.hi, .int .i64 m.w.z.lo, .int .i64 m.w.z.hi] 38)).alloc (.cells #[.int .i64 m.a.x.lo, .int .i64 m.a.x.hi, .int .i64 m.a.y.lo, .int .i64 m.a.y.hi, .int .i64 m.a.z.lo, .int .i64 m.a.z.hi] 38)) (w.heap.size) := inferInstance
  have ib1 : BlockIn (((w.alloc (.cells #[.int .i64 m.d.x.lo, .int .i64 m.d.x.hi, .int .i64 m.d.y.lo, .int .i64 m.d.y.hi, .int .i64 m.d.z.lo, .int .i64 m.d.z.hi] 38)).alloc (.cells #[.int .i64 m.w.x.lo, .int .i64 m.w.x.hi, .int .i64 m.w.y.lo, .int .i64 m.w.y.hi, .int .i64 m.w.z.lo, .int .i64 m.w.z.hi] 38)).alloc (.cells #[.int .i64 m.a.x.lo, .int .i64 m.a.x.hi, .int .i64 m.a.y.lo, .int .i64 m.a.y.hi, .int .i64 m.a.z.lo, .int .i64 m.a.z.hi] 38)) (w.heap.size + 1) := inferInstance
  have ib2 : BlockIn (((w.alloc (.cells #[.int .i64 m.d.x.lo, .int .i64 m.d.x.hi, .int .i64 m.d.y.lo, .int .i64 m.d.y.hi, .int .i64 m.d.z.lo, .int .i64 m.d.z.hi] 38)).alloc (.cells #[.int .i64 m.w.x.lo, .int .i64 m.w.x.hi, .int .i64 m.w.y.lo, .int .i64 m.w.y.hi, .int .i64 m.w.z.lo, .int .i64 m.w.z.hi] 38)).alloc (.cells #[.int .i64 m.a.x.lo, .int .i64 m.a.x.hi, .int .i64 m.a.y.lo, .int .i64 m.a.y.hi, .int .i64 m.a.z.lo, .int .i64 m.a.z.hi] 38)) (w.heap.size + 1 + 1) := inferInstance
  clear hW0
  generalize (((w.alloc (.cells #[.int .i64 m.d.x.lo, .int .i64 m.d.x.hi, .int .i64 m.d.y.lo, .int .i64 m.d.y.hi, .int .i64 m.d.z.lo, .int .i64 m.d.z.hi] 38)).alloc (.cells #[.int .i64 m.w.x.lo, .int .i64 m.w.x.hi, .int .i64 m.w.y.lo, .int .i64 m.w.y.hi, .int .i64 m.w.z.lo, .int .i64 m.w.z.hi] 38)).alloc (.cells #[.int .i64 m.a.x.lo, .int .i64 m.a.x.hi, .int .i64 m.a.y.lo, .int .i64 m.a.y.hi, .int .i64 m.a.z.lo, .int .i64 m.a.z.hi] 38)) = V at *
  go_loopw [19] (fun t wr => ∃ i : Nat, t = .int .i64 i ∧ i ≤ 3 ∧ Hid (RowsOk m i) ∧ Grew V wr ∧ RowOf wr (w.heap.size + 1 + 1 + 1) 74 20 ∧ Hid (BoxAt wr (w.heap.size + 1 + 1 + 1 + 1) (mvCells m i))) (fun t _ => 3 - (intOf t).toNat)
  case atStart => exact ⟨0, rfl, by omega, Lib.hid (fun r j hr => absurd hr (by omega)), (by repeat (first | with_reducible exact Grew.refl _ | with_reducible apply Grew.alloc | with_reducible apply Grew.later | with_reducible apply Grew.drew | with_reducible apply Grew.store | with_reducible assumption)), r10, HB0⟩
  case round =>
    clear r10 HB0
    obtain ⟨i, rfl, hi3, Hok, hg, r10, HB⟩ := hrel
    obtain ⟨Y, rfl⟩ := later_of hg
    clear hg
    by_cases hlt : i < 3
    · have hlt' : decide ((i : Int) < 3) = true := by simp; omega
      have hlti : (i : Int) < 3 := by omega
      obtain ⟨cd0, cd1⟩ := box_two (Hd.out.grew ib0.lt Y.grew) i hlt
      obtain ⟨cw0, cw1⟩ := box_two (Hw.out.grew ib1.lt Y.grew) i hlt
      obtain ⟨ca0, ca1⟩ := box_two (Ha.out.grew ib2.lt Y.grew) i hlt
      have ibd : BlockIn Y.world (w.heap.size) := BlockIn.of_cell cd0
      have ibw : BlockIn Y.world (w.heap.size + 1) := BlockIn.of_cell cw0
      have iba : BlockIn Y.world (w.heap.size + 1 + 1) := BlockIn.of_cell ca0
      have Hnx := Lib.hid (mv_next m i hlt)
      have Hat := Lib.hid (mv_at m i hlt)
      have Hrow := Lib.hid (fun h : (∀ j, j < 3 → ((m.axis i).at j).okB = true) => Hok.out.next h)
      have Hax := Lib.hid (show m.axis i = ⟨m.d.at i, m.w.at i, m.a.at i⟩ from rfl)
      have Hno := Lib.hid (fun (j : Nat) (hj : j < 3) (h : ((m.axis i).at j).okB = false) => mo_no hlt hj h)
      obtain ⟨v0, hv0⟩ := mv_has m i 0 hlt (by omega)
      obtain ⟨v1, hv1⟩ := mv_has m i 1 hlt (by omega)
      obtain ⟨v2, hv2⟩ := mv_has m i 2 hlt (by omega)
      obtain ⟨v3, hv3⟩ := mv_has m i 3 hlt (by omega)
      obtain ⟨v4, hv4⟩ := mv_has m i 4 hlt (by omega)
      obtain ⟨v5, hv5⟩ := mv_has m i 5 hlt (by omega)
      obtain ⟨k0, f0⟩ := (show Y.world.cell? ⟨w.heap.size + 1 + 1 + 1 + 1, i * 6, none⟩ = some v0 ∧ Y.world.frozen? ⟨w.heap.size + 1 + 1 + 1 + 1, i * 6, none⟩ = false from HB.out _ _ hv0)
      obtain ⟨k1, f1⟩ := HB.out _ _ hv1
      obtain ⟨k2, f2⟩ := HB.out _ _ hv2
      obtain ⟨k3, f3⟩ := HB.out _ _ hv3
      obtain ⟨k4, f4⟩ := HB.out _ _ hv4
      obtain ⟨k5, f5⟩ := HB.out _ _ hv5
      clear hv0 hv1 hv2 hv3 hv4 hv5
      have ibm : BlockIn Y.world (w.heap.size + 1 + 1 + 1 + 1) := BlockIn.of_cell k0
      have h0 : HasCell Y.world (w.heap.size + 1 + 1 + 1 + 1) (i * 6) := ⟨_, k0⟩
      have h1 : HasCell Y.world (w.heap.size + 1 + 1 + 1 + 1) (i * 6 + 1) := ⟨_, k1⟩
      have h2 : HasCell Y.world (w.heap.size + 1 + 1 + 1 + 1) (i * 6 + 2) := ⟨_, k2⟩
      have h3 : HasCell Y.world (w.heap.size + 1 + 1 + 1 + 1) (i * 6 + 3) := ⟨_, k3⟩
      have h4 : HasCell Y.world (w.heap.size + 1 + 1 + 1 + 1) (i * 6 + 4) := ⟨_, k4⟩
      have h5 : HasCell Y.world (w.heap.size + 1 + 1 + 1 + 1) (i * 6 + 5) := ⟨_, k5⟩
      generalize m.axis i = X at *
      generalize m.d.at i = sd at *
      generalize m.w.at i = sw at *
      generalize m.a.at i = sa at *
      obtain rfl := Hax.out
      go_wp2
      refine wp_region_grown 13 [] [] [11] (fun W0 => []) [] [13] (by rfl) (fun _ x hx => absurd hx (List.not_mem_nil)) (by kernel_rfl) (by kernel_rfl) (by kernel_rfl) ?_
      intro p
      apply Exists.intro
      apply And.intro
      apply lexg_pure (by kernel_rfl)
      · intro u; unfold opPure; go_simp; rfl
      apply lexg_pure (by kernel_rfl)
      · intro u; unfold opPure; go_simp; rfl
      apply lexg_pure (by kernel_rfl)
      · intro u; unfold opPure; go_simp; rfl
      apply lexg_pure (by kernel_rfl)
      · intro u; unfold opPure; go_simp; rfl
      apply lexg_pure (by kernel_rfl)
      · intro u; unfold opPure; go_simp; rfl
      apply lexg_pure (by kernel_rfl)
      · intro u; unfold opPure; go_simp; rfl
      apply lexg_pure (by kernel_rfl)
      · intro u; unfold opPure; go_simp; rfl
      apply lexg_pure (by kernel_rfl)
      · intro u; unfold opPure; go_simp; rfl
      apply lexg_pure (by kernel_rfl)
      · intro u; unfold opPure; go_simp; rfl
      apply lexg_pure (by kernel_rfl)
      · intro u; unfold opPure; go_simp; rfl
      apply lexg_pure (by kernel_rfl)
      · intro u; exact opPure_build rfl (built3 sd.lo sd.hi sw.lo sw.hi sa.lo sa.hi) (by go_simp)
      apply lexg_free (by kernel_rfl)
      · intro u; unfold opPure; go_simp; rfl
      apply lexg_pure (by kernel_rfl)
      · intro u; unfold opPure; go_simp; rfl
      apply lexg_end
      rotate_left
      · rfl
      intro u hR hD
      clear hR hD
      refine tail_store (by rfl) ?_; unfold opStore; go_simp
      refine tail_end ?_
      rename_i hK
      refine hK _ _ ?_
      clear hK
      refine wp_to_later (z := V) (by repeat (first | with_reducible exact Grew.refl _ | with_reducible apply Grew.alloc | with_reducible apply Grew.later | with_reducible apply Grew.drew | with_reducible apply Grew.store | with_reducible assumption)) ?_
      intro Y2 hY2
      have r10b : RowOf Y2.world (w.heap.size + 1 + 1 + 1) 74 20 := by rw [hY2]; infer_instance
      have HB2 := Lib.hid (show BoxAt Y2.world (w.heap.size + 1 + 1 + 1 + 1) (mvCells m (i + 1)) by
        rw [hY2, ← Hnx.out]
        exact ((((((HB.out.grew (w' := u.world) ibm.lt (by repeat (first | with_reducible exact Grew.refl _ | with_reducible apply Grew.alloc | with_reducible apply Grew.later | with_reducible apply Grew.drew | with_reducible apply Grew.store | with_reducible assumption))).put (i * 6) (.int .i64 sd.lo)).put (i * 6 + 1) (.int .i64 sd.hi)).put (i * 6 + 2) (.int .i64 sw.lo)).put (i * 6 + 3) (.int .i64 sw.hi)).put (i * 6 + 4) (.int .i64 sa.lo)).put (i * 6 + 5) (.int .i64 sa.hi))
      clear hY2 cd0 cd1 cw0 cw1 ca0 ca1 ibd ibw iba ibm h0 h1 h2 h3 h4 h5 k0 k1 k2 k3 k4 k5 f0 f1 f2 f3 f4 f5 HB Hnx r10
      as_aux_lemma =>
      have g0 := (HB2.out _ _ Hat.out.1).1
      have g1 := (HB2.out _ _ Hat.out.2.1).1
      have g2 := (HB2.out _ _ Hat.out.2.2.1).1
      have g3 := (HB2.out _ _ Hat.out.2.2.2.1).1
      have g4 := (HB2.out _ _ Hat.out.2.2.2.2.1).1
      have g5 := (HB2.out _ _ Hat.out.2.2.2.2.2).1
      clear Hat
      have ibm : BlockIn Y2.world (w.heap.size + 1 + 1 + 1 + 1) := BlockIn.of_cell g0
      go_wp2
      clear g0 g1 g2 g3 g4 g5
      go_loopw [39] (fun t wr => ∃ j : Nat, t = .int .i64 j ∧ j ≤ 3 ∧ Hid (∀ r, r < j → ((⟨sd, sw, sa⟩ : Bx).at r).okB = true) ∧ Grew Y2.world wr) (fun t _ => 3 - (intOf t).toNat)
      case atStart => exact ⟨0, rfl, by omega, Lib.hid (fun r hr => absurd hr (by omega)), (by repeat (first | with_reducible exact Grew.refl _ | with_reducible apply Grew.alloc | with_reducible apply Grew.later | with_reducible apply Grew.drew | with_reducible apply Grew.store | with_reducible assumption))⟩
      case round =>
        obtain ⟨j, rfl, hj3, Hjs, hg⟩ := hrel
        obtain ⟨z, rfl⟩ := later_of hg
        clear hg
        by_cases hlj : j < 3
        · have hlj' : decide ((j : Int) < 3) = true := by simp; omega
          have hix := index_axis ⟨sd, sw, sa⟩ j hlj
          dsimp only at hix
          have Hnj := Lib.hid (Hno.out j hlj)
          have Hyj := Lib.hid (fun h : ((⟨sd, sw, sa⟩ : Bx).at j).okB = true => (fun r (hr : r < j + 1) => (show ((⟨sd, sw, sa⟩ : Bx).at r).okB = true by
            by_cases e : r = j
            · subst e; exact h
            · exact Hjs.out r (by omega))))
          clear Hjs
          generalize (⟨sd, sw, sa⟩ : Bx).at j = s at *
          cases hs : s.okB
          · as_aux_lemma =>
            have HS := Lib.hid (Hnj.out hs)
            go_wp2_with (first | ((with_reducible refine wpList_buildMo ?_ (.tmp 16) (.tmp 17) ?_ m.t m.n ?_ ?_ ?_); (· rfl); (· rfl); (· rfl); (· rfl)) | ((with_reducible refine wpList_zeroMo ?_ ?_ ?_); (· rfl); (· rfl)) | ((with_reducible refine wpList_storeMo_new ?_ ?_ (.tmp 12) (.tmp 18) ?_ ?_ ?_ _ ?_ ?_ ?_ ?_ ?_ ?_); (· rfl); (· rfl); (· rfl); rotate_left 2; (· rfl); (· rfl); (· infer_instance); (· infer_instance); (· infer_instance)) | ((with_reducible refine wpList_storeMo ?_ ?_ (.tmp 10) (.tmp 45) ?_ ?_ ?_ ?_ ?_ ?_ ?_ ?_); (· rfl); (· rfl); (· rfl); rotate_left 2; (· rfl); (· rfl); (· infer_instance); (· infer_instance)) | ((with_reducible refine wpList_storeMo ?_ ?_ (.tmp 10) (.tmp 48) ?_ ?_ ?_ ?_ ?_ ?_ ?_ ?_); (· rfl); (· rfl); (· rfl); rotate_left 2; (· rfl); (· rfl); (· infer_instance); (· infer_instance)) | (go_at_call 49; (with_reducible refine call_later (spCheck_no s hs _) ?_); intro ub))
            exact bodyPost_ret (mv_results (w.heap.size + 1 + 1 + 1) _ _ rfl rfl inferInstance rfl) rfl ⟨mv_no HS.out, Grew.setRow (by repeat (first | with_reducible exact Grew.refl _ | with_reducible apply Grew.alloc | with_reducible apply Grew.later | with_reducible apply Grew.drew | with_reducible apply Grew.store | with_reducible assumption)) _ _⟩
          · as_aux_lemma =>
            have HS := Lib.hid (Hyj.out hs)
            go_wp2_with (first | ((with_reducible refine wpList_buildMo ?_ (.tmp 16) (.tmp 17) ?_ m.t m.n ?_ ?_ ?_); (· rfl); (· rfl); (· rfl); (· rfl)) | ((with_reducible refine wpList_zeroMo ?_ ?_ ?_); (· rfl); (· rfl)) | ((with_reducible refine wpList_storeMo_new ?_ ?_ (.tmp 12) (.tmp 18) ?_ ?_ ?_ _ ?_ ?_ ?_ ?_ ?_ ?_); (· rfl); (· rfl); (· rfl); rotate_left 2; (· rfl); (· rfl); (· infer_instance); (· infer_instance); (· infer_instance)) | ((with_reducible refine wpList_storeMo ?_ ?_ (.tmp 10) (.tmp 45) ?_ ?_ ?_ ?_ ?_ ?_ ?_ ?_); (· rfl); (· rfl); (· rfl); rotate_left 2; (· rfl); (· rfl); (· infer_instance); (· infer_instance)) | ((with_reducible refine wpList_storeMo ?_ ?_ (.tmp 10) (.tmp 48) ?_ ?_ ?_ ?_ ?_ ?_ ?_ ?_); (· rfl); (· rfl); (· rfl); rotate_left 2; (· rfl); (· rfl); (· infer_instance); (· infer_instance)) | (go_at_call 49; (with_reducible refine call_later (spCheck_yes s hs _) ?_); intro ub))
            go_roundw
            case rel => exact ⟨j + 1, by go_num, by omega, HS, (by repeat (first | with_reducible exact Grew.refl _ | with_reducible apply Grew.alloc | with_reducible apply Grew.later | with_reducible apply Grew.drew | with_reducible apply Grew.store | with_reducible assumption))⟩
            case measure => simp [intOf]; omega
        · obtain rfl : j = 3 := by omega
          have HR := Lib.hid (Hrow.out (fun j hj => Hjs.out j hj))
          go_wp2
          go_roundw
          case rel => exact ⟨i + 1, by go_num, by omega, HR, (by repeat (first | with_reducible exact Grew.refl _ | with_reducible apply Grew.alloc | with_reducible apply Grew.later | with_reducible apply Grew.drew | with_reducible apply Grew.store | with_reducible assumption)), inferInstance, Lib.hid (HB2.out.grew ibm.lt (by repeat (first | with_reducible exact Grew.refl _ | with_reducible apply Grew.alloc | with_reducible apply Grew.later | with_reducible apply Grew.drew | with_reducible apply Grew.store | with_reducible assumption)))⟩
          case measure => simp [intOf]; omega
    · have hi : i = 3 := by omega
      have hlt' : decide ((i : Int) < 3) = false := by simp; omega
      as_aux_lemma =>
      have HS := Lib.hid (mo_yes (m := m) (fun r j hr hj => Hok.out r j (by omega) hj))
      have HF := Lib.hid (show m.flagB = (decide (0 ≤ m.t) && decide (1 ≤ m.n) && decide (m.n ≤ 1024)) from rfl)
      have irm : RangeIs Y.world (w.heap.size + 1 + 1 + 1 + 1) 0 20 [.int .i64 m.d.x.lo, .int .i64 m.d.x.hi, .int .i64 m.w.x.lo, .int .i64 m.w.x.hi, .int .i64 m.a.x.lo, .int .i64 m.a.x.hi, .int .i64 m.d.y.lo, .int .i64 m.d.y.hi, .int .i64 m.w.y.lo, .int .i64 m.w.y.hi, .int .i64 m.a.y.lo, .int .i64 m.a.y.hi, .int .i64 m.d.z.lo, .int .i64 m.d.z.hi, .int .i64 m.w.z.lo, .int .i64 m.w.z.hi, .int .i64 m.a.z.lo, .int .i64 m.a.z.hi, .int .i64 m.t, .int .i64 m.n] := box_range (cs := [.int .i64 m.d.x.lo, .int .i64 m.d.x.hi, .int .i64 m.w.x.lo, .int .i64 m.w.x.hi, .int .i64 m.a.x.lo, .int .i64 m.a.x.hi, .int .i64 m.d.y.lo, .int .i64 m.d.y.hi, .int .i64 m.w.y.lo, .int .i64 m.w.y.hi, .int .i64 m.a.y.lo, .int .i64 m.a.y.hi, .int .i64 m.d.z.lo, .int .i64 m.d.z.hi, .int .i64 m.w.z.lo, .int .i64 m.w.z.hi, .int .i64 m.a.z.lo, .int .i64 m.a.z.hi, .int .i64 m.t, .int .i64 m.n]) (by have h := HB.out; rw [hi] at h; exact h)
      clear HB Hok hi
      go_wp2_with (first | ((with_reducible refine wpList_buildMo ?_ (.tmp 16) (.tmp 17) ?_ m.t m.n ?_ ?_ ?_); (· rfl); (· rfl); (· rfl); (· rfl)) | ((with_reducible refine wpList_zeroMo ?_ ?_ ?_); (· rfl); (· rfl)) | ((with_reducible refine wpList_storeMo_new ?_ ?_ (.tmp 12) (.tmp 18) ?_ ?_ ?_ _ ?_ ?_ ?_ ?_ ?_ ?_); (· rfl); (· rfl); (· rfl); rotate_left 2; (· rfl); (· rfl); (· infer_instance); (· infer_instance); (· infer_instance)) | ((with_reducible refine wpList_storeMo ?_ ?_ (.tmp 10) (.tmp 45) ?_ ?_ ?_ ?_ ?_ ?_ ?_ ?_); (· rfl); (· rfl); (· rfl); rotate_left 2; (· rfl); (· rfl); (· infer_instance); (· infer_instance)) | ((with_reducible refine wpList_storeMo ?_ ?_ (.tmp 10) (.tmp 48) ?_ ?_ ?_ ?_ ?_ ?_ ?_ ?_); (· rfl); (· rfl); (· rfl); rotate_left 2; (· rfl); (· rfl); (· infer_instance); (· infer_instance)) | ((with_reducible refine wpList_load_rng ?_ ?_ ?_ ?_ ?_ ?_ ?_ ?_ ?_ ?_ ?_ ?_); rotate_left 6; (· rfl); (· rfl); (· rfl); (· infer_instance); (· infer_instance)))
      all_goals
        exact bodyPost_ret (mv_results (w.heap.size + 1 + 1 + 1) _ _ rfl rfl inferInstance rfl) rfl ⟨mv_yes HS.out (by rw [HF.out]; simp <;> omega), Grew.setRow (by repeat (first | with_reducible exact Grew.refl _ | with_reducible apply Grew.alloc | with_reducible apply Grew.later | with_reducible apply Grew.drew | with_reducible apply Grew.store | with_reducible assumption)) _ _⟩
end Go.Proofs.Ytjnednehcjfkmaa
