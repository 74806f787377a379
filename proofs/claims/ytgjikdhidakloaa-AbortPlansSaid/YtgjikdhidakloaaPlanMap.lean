/-
  The map of costs of abort.Plan: laws at its look-up and its store.
-/
import Derived.Test.YtgjikdhidakloaaMasks
import Derived.Maps.Views
import Derived.Maps.OwnOps
import Derived.Maps.OwnSet
import Derived.DeepKeys5
import Derived.RegionTactic
namespace Go.Proofs.Ytgjikdhidakloaa
open Go.RowKit
open Go.Maps (Keyed IsMap)
set_option maxRecDepth 100000
set_option maxHeartbeats 2000000
def plKey (a m : Int) : Value := .agg #[.int .i64 a, .int .i64 m]
def plLit (a m : Int) : Lit := .string (keyBytes [.int .i64 a, .int .i64 m])
theorem pl_types : (2 : Nat) < Try.prog.types.size := of_decide_eq_true (by kernel_rfl)
theorem pl_keyType : Try.prog.keyType 59 = true := by kernel_rfl
theorem pl_cells : Try.prog.cellsOf 59 = 2 := by kernel_rfl
theorem pl_cellsI : Try.prog.cellsOf 3 = 1 := by kernel_rfl
theorem pl_laid : laidOutB Try.prog = true := by kernel_rfl
theorem pl_row : (59 : TypeId) < Try.prog.types.size := of_decide_eq_true (by kernel_rfl)
theorem pl_law : Keyed Try.prog 59 := Keyed.of_law (deep_law_laid pl_laid (m := 2) (by omega) pl_row (by kernel_rfl) (by rw [Try.underlying59]))
theorem pl_zero (w : World) : (zeroValue 3).run Try.prog w = .ok (.int .i64 0) w := by kernel_rfl
theorem wf_of (a : Int) (h1 : -9223372036854775808 ≤ a) (h2 : a ≤ 9223372036854775807) : (Lit.int .i64 a).wf = true := WalkArith.wf_i64 (by omega)
theorem pl_key (a m : Int) (ha : (Lit.int .i64 a).wf = true) (hm : (Lit.int .i64 m).wf = true) : keyOf Try.prog 59 (plKey a m) = some (plLit a m) := by
  obtain ⟨d, hd⟩ : ∃ d, Try.prog.types.size + 1 = d + 2 := ⟨Try.prog.types.size - 1, by have := pl_types; omega⟩
  have hl : Try.prog.keyLits (d + 2) 59 [.int .i64 a, .int .i64 m] = some [.int .i64 a, .int .i64 m] := by
    simp [Program.keyLits, Try.underlying59, Try.underlying3, pl_cells, pl_cellsI, ha, hm]
  have hf : (plKey a m).formed Try.prog 59 = true := by simp [plKey, Value.formed, Try.underlying59, pl_cells]
  unfold keyOf
  rw [Try.underlying59]
  simp only [pl_keyType, hf, hd, Bool.and_self, if_true]
  have hc : (plKey a m).cells.toList = [.int .i64 a, .int .i64 m] := by simp [plKey, Value.cells]
  rw [hc, hl]
  rfl
/-- The costs that are written down: f, 0 where nothing is. -/
def CostAt (w : World) (b n : Nat) (f : Int → Int → Int) : Prop :=
  ∃ D : DataW Unit, w.ownsMap Try.prog 59 (plainElem Try.prog 3) b n D ∧ IsMap D ∧ ∀ a m : Int, (Lit.int .i64 a).wf = true → (Lit.int .i64 m).wf = true → D.atKey (plLit a m) (.lit (.int .i64 0)) = .lit (.int .i64 (f a m))
def updF (f : Int → Int → Int) (a m c : Int) : Int → Int → Int := fun x y => if x = a ∧ y = m then c else f x y
theorem CostAt.made (w : World) : CostAt (w.alloc (.map #[] 0)) w.heap.size 0 (fun _ _ => 0) :=
  ⟨_, World.ownsMap_made _ _ _ _, Maps.isMap_empty, fun _ _ _ _ => rfl⟩
theorem CostAt.kept {w w' : World} {b n : Nat} {f : Int → Int → Int} {row : Option Nat} (h : CostAt w b n f) (g : w.grownBy w' row) (hne : some b ≠ row) : CostAt w' b n f := by
  obtain ⟨D, h1, h2, h3⟩ := h
  exact ⟨D, h1.kept g hne, h2, h3⟩
theorem CostAt.lt {w : World} {b n : Nat} {f : Int → Int → Int} (h : CostAt w b n f) : b < w.heap.size := by
  obtain ⟨D, h1, -⟩ := h
  exact h1.lt
theorem CostAt.grew {w w' : World} {b n : Nat} {f : Int → Int → Int} (h : CostAt w b n f) (g : Grew w w') : CostAt w' b n f := by
  have hl := h.lt
  obtain ⟨D, ⟨es, clock, hb, r⟩, h2, h3⟩ := h
  exact ⟨D, ⟨es, clock, by rw [Below.block g b hl, hb], r⟩, h2, h3⟩
theorem CostAt.alloc {w : World} {b n : Nat} {f : Int → Int → Int} (h : CostAt w b n f) (o : Obj) : CostAt (w.alloc o) b n f := h.grew ((Grew.refl w).alloc o)
theorem CostAt.drew {w : World} {b n : Nat} {f : Int → Int → Int} (h : CostAt w b n f) : CostAt w.drew b n f := h
theorem CostAt.setCell {w : World} {b n : Nat} {f : Int → Int → Int} (h : CostAt w b n f) (c j : Nat) (x : Value) (hne : b ≠ c) : CostAt (w.setCell ⟨c, j, none⟩ x) b n f := by
  obtain ⟨D, ⟨es, clock, hb, r⟩, h2, h3⟩ := h
  exact ⟨D, ⟨es, clock, by rw [Below.heap_setCell _ _ _ _ hne, hb], r⟩, h2, h3⟩
theorem lit_ne {a m x y : Int} (ha : (Lit.int .i64 a).wf = true) (hm : (Lit.int .i64 m).wf = true) (hx : (Lit.int .i64 x).wf = true) (hy : (Lit.int .i64 y).wf = true) (h : ¬ (x = a ∧ y = m)) : plLit x y ≠ plLit a m := by
  intro e
  have h1 := pl_key a m ha hm
  have h2 := pl_key x y hx hy
  rw [e] at h2
  have := pl_law.inj h2 h1
  simp [plKey] at this
  exact h this
theorem lookup_cost {w : World} {b n : Nat} {f : Int → Int → Int} (h : CostAt w b n f) (a m : Int) (ha : (Lit.int .i64 a).wf = true) (hm : (Lit.int .i64 m).wf = true) :
    (Instr.lookup 56 (.map (some b)) (plKey a m) false).run Try.prog w = .ok (.int .i64 (f a m)) w := by
  obtain ⟨D, h1, h2, h3⟩ := h
  obtain ⟨c, hrun, hat, -⟩ := h1.lookup_int pl_law Try.underlying56 Try.underlying3 (pl_zero w) (pl_key a m ha hm)
  have := h3 a m ha hm
  rw [hat] at this
  simp at this
  rw [hrun, this]
theorem update_cost {w : World} {b n : Nat} {f : Int → Int → Int} (h : CostAt w b n f) (hn : n < 1099511627776) (a m c : Int) (ha : (Lit.int .i64 a).wf = true) (hm : (Lit.int .i64 m).wf = true) (hc : (Lit.int .i64 c).wf = true) :
    ∃ w', (Instr.mapUpdate 56 (.map (some b)) (plKey a m) (.int .i64 c)).run Try.prog w = .ok () w' ∧ CostAt w' b (n + 1) (updF f a m c) ∧ w.grownBy w' (some b) := by
  obtain ⟨D, h1, h2, h3⟩ := h
  obtain ⟨w', hrun, r1, r2⟩ := h1.update pl_law Try.underlying56 (by unfold maxLen; omega) (pl_key a m ha hm) (plainElem_int Try.underlying3 hc)
  refine ⟨w', hrun, ⟨_, r1, h2.put _ _, ?_⟩, r2⟩
  intro x y hx hy
  unfold updF
  by_cases e : x = a ∧ y = m
  · obtain ⟨rfl, rfl⟩ := e
    rw [if_pos ⟨rfl, rfl⟩, Maps.atKey_put_same h2 (pl_law.key (pl_key x y ha hm))]
  · rw [if_neg e, Maps.atKey_put_other (lit_ne ha hm hx hy e), h3 x y hx hy]
/-- The look-up, at the operation. -/
theorem wpList_lookup_cost {w : World} {ops : Array Oper} {rest : List Oper} {o : Oper} {a : Act} {Q : Exit → Act → World → Prop} {b n : Nat} {f : Int → Int → Int} (h : CostAt w b n f)
    (hg : o.guard = none) (m x : Operand) (hop : o.op = Op.lookup 56 m x false) (hm : a.eval m = .map (some b)) (i j : Int) (hx : a.eval x = .agg #[.int .i64 i, .int .i64 j])
    (hi : (Lit.int .i64 i).wf = true) (hj : (Lit.int .i64 j).wf = true) (hK : wpList Try.prog ops Q rest (a.put o.dst (.int .i64 (f i j))) w) : wpList Try.prog ops Q (o :: rest) a w := by
  refine wpList_plain hg fun K' hK' => ?_
  have hrun := lookup_cost h i j hi hj
  unfold plKey at hrun
  unfold Oper.wp
  simp [execOp, hop, hm, hx, hrun, Result.andThen]
  exact hK' _ _ hK
/-- The store, at a step of a region that draws its order. -/
theorem step_update_cost {w : World} {ops : Array Oper} {o : Oper} {a : Act} {K : Act → World → Prop} {Q : Exit → Act → World → Prop} {E : Prop} {b n : Nat} {f : Int → Int → Int} (h : CostAt w b n f) (hn : n < 1099511627776)
    (hgd : o.guard = none) (m x v : Operand) (hop : o.op = Op.mapUpdate 56 m x v) (hm : a.eval m = .map (some b)) (i j c : Int) (hx : a.eval x = .agg #[.int .i64 i, .int .i64 j]) (hv : a.eval v = .int .i64 c)
    (hi : (Lit.int .i64 i).wf = true) (hj : (Lit.int .i64 j).wf = true) (hc : (Lit.int .i64 c).wf = true)
    (hK : ∀ w', CostAt w' b (n + 1) (updF f i j c) → w.grownBy w' (some b) → K (a.put o.dst undef) w') :
    if Region.wanted o (yielded ops a.tmps) = true then Oper.wp Try.prog o a w K Q else E := by
  have hw : Region.wanted o (yielded ops a.tmps) = true := by simp [Region.wanted, hgd]
  rw [if_pos hw]
  obtain ⟨w', hrun, r1, r2⟩ := update_cost h hn i j c hi hj hc
  unfold plKey at hrun
  unfold Oper.wp
  simp [execOp, hop, hm, hx, hv, hrun, Result.andThen]
  exact hK w' r1 r2
/-- .. where the walk has run it. -/
theorem upon_update_cost {w : World} {o : Oper} {a : Act} {K : Act → World → Prop} {Q : Exit → Act → World → Prop} {b n : Nat} {f : Int → Int → Int} (h : CostAt w b n f) (hn : n < 1099511627776) (i j c : Int)
    (hi : (Lit.int .i64 i).wf = true) (hj : (Lit.int .i64 j).wf = true) (hc : (Lit.int .i64 c).wf = true)
    (hK : ∀ w', CostAt w' b (n + 1) (updF f i j c) → w.grownBy w' (some b) → K (a.put o.dst undef) w') :
    Oper.upon Try.prog o a K Q (((Instr.mapUpdate 56 (.map (some b)) (.agg #[.int .i64 i, .int .i64 j]) (.int .i64 c)).run Try.prog w).andThen fun _ w' => .ok .skip w') := by
  obtain ⟨w', hrun, r1, r2⟩ := update_cost h hn i j c hi hj hc
  unfold plKey at hrun
  rw [hrun]
  exact hK w' r1 r2
end Go.Proofs.Ytgjikdhidakloaa
