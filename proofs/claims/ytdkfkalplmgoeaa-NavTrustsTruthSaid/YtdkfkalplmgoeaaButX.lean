/-
  A world in which, of what was there, only six cells of one block have turned; a box that lies in such cells.
-/
import Derived.Test.YtdkfkalplmgoeaaCutLaw
namespace Go.Proofs.Ytdkfkalplmgoeaa
open Go.RowKit
set_option maxRecDepth 100000
structure ButX (b off : Nat) (w w' : World) : Prop where
  os : w'.os = w.os
  tape : w'.tape = w.tape
  output : w'.output = w.output
  size : w.heap.size ≤ w'.heap.size
  lt : b < w.heap.size
  block : ∀ k, k < w.heap.size → k ≠ b → w'.heap[k]? = w.heap[k]?
  cell : ∀ i, i < off ∨ off + 6 ≤ i → w'.cell? ⟨b, i, none⟩ = w.cell? ⟨b, i, none⟩
  mark : ∀ i, w'.frozen? ⟨b, i, none⟩ = w.frozen? ⟨b, i, none⟩
theorem cell_of_block {w w' : World} {q : Nat} (h : w'.heap[q]? = w.heap[q]?) (i : Nat) : w'.cell? ⟨q, i, none⟩ = w.cell? ⟨q, i, none⟩ := by
  unfold World.cell?
  simp only []
  rw [h]
theorem frozen_of_block {w w' : World} {q : Nat} (h : w'.heap[q]? = w.heap[q]?) (i : Nat) : w'.frozen? ⟨q, i, none⟩ = w.frozen? ⟨q, i, none⟩ := by
  unfold World.frozen?
  simp only []
  rw [h]
section
variable {b off : Nat} {w w' : World}
theorem ButX.refl (h : b < w.heap.size) : ButX b off w w := ⟨rfl, rfl, rfl, Nat.le_refl _, h, fun _ _ _ => rfl, fun _ _ => rfl, fun _ => rfl⟩
theorem ButX.trans {w'' : World} (h : ButX b off w w') (k : ButX b off w' w'') : ButX b off w w'' :=
  ⟨k.os.trans h.os, k.tape.trans h.tape, k.output.trans h.output, Nat.le_trans h.size k.size, h.lt, fun i hi hc => (k.block i (by have := h.size; omega) hc).trans (h.block i hi hc), fun i hi => (k.cell i hi).trans (h.cell i hi), fun i => (k.mark i).trans (h.mark i)⟩
theorem ButX.of_grew (hb : b < w.heap.size) (g : Grew w w') : ButX b off w w' :=
  ⟨g.os, g.tape, g.output, Below.size g, hb, fun k hk _ => g.block k hk, fun i _ => cell_of_block (g.block b hb) i, fun i => frozen_of_block (g.block b hb) i⟩
theorem ButX.grew {w'' : World} (h : ButX b off w w') (g : Grew w' w'') : ButX b off w w'' := h.trans (.of_grew (Nat.lt_of_lt_of_le h.lt h.size) g)
theorem ButX.put (h : ButX b off w w') (j : Nat) (hj : off ≤ j ∧ j < off + 6) (v : Value) : ButX b off w (w'.setCell ⟨b, j, none⟩ v) := by
  refine h.trans ⟨rfl, rfl, rfl, by simp [World.setCell], Nat.lt_of_lt_of_le h.lt h.size, fun k _ hc => Below.heap_setCell _ _ _ _ hc, fun i hi => ?_, fun i => ?_⟩
  · exact World.cell?_setCell_other _ _ _ _ (by intro e; injection e with _ e2; omega)
  · exact World.frozen?_setCell _ _ _ _
theorem BoxAt.butx {q : Nat} {cs : List Value} (h : BoxAt w q cs) (k : ButX b off w w') (hq : q < w.heap.size) (hne : q ≠ b) : BoxAt w' q cs := fun i v hv => by
  obtain ⟨h1, h2⟩ := h i v hv
  exact ⟨by rw [cell_of_block (k.block q hq hne), h1], by rw [frozen_of_block (k.block q hq hne), h2]⟩
end
theorem boxAt_sized {w : World} {m : Nat} [h : SizeAt w m] (l : List Value) (t : TypeId) : BoxAt (w.alloc (.cells l.toArray t)) m l := by
  obtain rfl := h.eq
  exact boxAt_new w l t
/-- A box that lies in six cells of a block. -/
def XAt (w : World) (b off : Nat) (X : Bx) : Prop := ∀ j, j < 3 →
  (w.cell? ⟨b, off + j * 2, none⟩ = some (.int .i64 (X.at j).lo) ∧ w.frozen? ⟨b, off + j * 2, none⟩ = false) ∧ w.cell? ⟨b, off + j * 2 + 1, none⟩ = some (.int .i64 (X.at j).hi) ∧ w.frozen? ⟨b, off + j * 2 + 1, none⟩ = false
theorem XAt.grew {w w' : World} {b off : Nat} {X : Bx} (h : XAt w b off X) (g : Grew w w') : XAt w' b off X := fun j hj => by
  obtain ⟨⟨h1, h2⟩, h3, h4⟩ := h j hj
  have hb := World.block_lt_of_cell? w _ h1
  exact ⟨⟨g.cell h1, by rw [frozen_of_block (g.block b hb), h2]⟩, g.cell h3, by rw [frozen_of_block (g.block b hb), h4]⟩
theorem Bx.put_at (X : Bx) (i j : Nat) (hi : i < 3) (hj : j < 3) (v : Sp) : (X.put i v).at j = if j = i then v else X.at j := by
  match i, hi, j, hj with
  | 0, _, 0, _ => rfl
  | 0, _, 1, _ => rfl
  | 0, _, 2, _ => rfl
  | 1, _, 0, _ => rfl
  | 1, _, 1, _ => rfl
  | 1, _, 2, _ => rfl
  | 2, _, 0, _ => rfl
  | 2, _, 1, _ => rfl
  | 2, _, 2, _ => rfl
/-- One of the three is stored. -/
theorem XAt.put {w : World} {b off : Nat} {X : Bx} (h : XAt w b off X) (i : Nat) (hi : i < 3) (v : Sp) : XAt ((w.setCell ⟨b, off + i * 2, none⟩ (.int .i64 v.lo)).setCell ⟨b, off + i * 2 + 1, none⟩ (.int .i64 v.hi)) b off (X.put i v) := fun j hj => by
  obtain ⟨⟨h1, h2⟩, h3, h4⟩ := h j hj
  obtain ⟨⟨g1, -⟩, g3, -⟩ := h i hi
  rw [X.put_at i j hi hj]
  refine ⟨⟨?_, ?_⟩, ?_, ?_⟩
  · rw [World.cell?_setCell_other _ _ _ _ (by intro e; injection e with _ e2; omega)]
    by_cases c : j = i
    · subst c
      rw [if_pos rfl]
      exact World.cell?_setCell_same _ _ _ h1
    · rw [if_neg c, World.cell?_setCell_other _ _ _ _ (by intro e; injection e with _ e2; omega)]
      exact h1
  · rw [World.frozen?_setCell, World.frozen?_setCell]
    exact h2
  · by_cases c : j = i
    · subst c
      rw [if_pos rfl]
      refine World.cell?_setCell_same _ _ _ (?_ : _ = some (.int .i64 (X.at j).hi))
      rw [World.cell?_setCell_other _ _ _ _ (by intro e; injection e with _ e2; omega)]
      exact h3
    · rw [if_neg c, World.cell?_setCell_other _ _ _ _ (by intro e; injection e with _ e2; omega), World.cell?_setCell_other _ _ _ _ (by intro e; injection e with _ e2; omega)]
      exact h3
  · rw [World.frozen?_setCell, World.frozen?_setCell]
    exact h4
/-- What is done to a box in its place: its end, the box. -/
def StopsX (b off : Nat) (X : Bx) (c : Int) (w : World) (e : Ending) (w' : World) : Prop :=
  e = (if c = 0 then .returned (.tuple #[]) else StopEnd c) ∧ ButX b off w w' ∧ (c = 0 → XAt w' b off X)
/-- The other two of three. -/
theorem others_nat (i : Nat) (hi : i < 3) (w : World) : Calls Try.prog 96 #[.int .i64 i] w fun e w' => e = .returned (.tuple #[.int .i64 (oj i), .int .i64 (ok i)]) ∧ Grew w w' := by
  refine (others_any i (by omega) (by omega) w).mono ?_
  rintro e w' ⟨rfl, g⟩
  refine ⟨?_, g⟩
  have h1 : (if (i : Int) = 0 then (1 : Int) else 0) = oj i := by unfold oj; (repeat' split) <;> omega
  have h2 : (if (i : Int) = 0 then (2 : Int) else 3 - i) = ok i := by unfold ok; (repeat' split) <;> omega
  rw [h1, h2]
theorem oj_lt (i : Nat) : oj i < 3 := by unfold oj; split <;> omega
theorem ok_lt (i : Nat) (hi : i < 3) : ok i < 3 := by unfold ok; split <;> omega
end Go.Proofs.Ytdkfkalplmgoeaa
