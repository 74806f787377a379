/-
  Boxes of one's own.
-/
import Derived.Test.YtochpnomfedhoaaGreatSlice
namespace Go.Proofs.YtochpnomfedhoaaGreat
open Go.RowKit
theorem boxAt_one {w : World} {b : Nat} {x : Value} (h0 : w.cell? ⟨b, 0, none⟩ = some x) (f0 : w.frozen? ⟨b, 0, none⟩ = false) : BoxAt w b [x] := by
  intro i v hv
  match i, hv with
  | 0, hv => simp at hv; subst hv; exact ⟨h0, f0⟩
theorem boxAt_two {w : World} {b : Nat} {x y : Value} (h0 : w.cell? ⟨b, 0, none⟩ = some x) (f0 : w.frozen? ⟨b, 0, none⟩ = false) (h1 : w.cell? ⟨b, 1, none⟩ = some y) (f1 : w.frozen? ⟨b, 1, none⟩ = false) : BoxAt w b [x, y] := by
  intro i v hv
  match i, hv with
  | 0, hv => simp at hv; subst hv; exact ⟨h0, f0⟩
  | 1, hv => simp at hv; subst hv; exact ⟨h1, f1⟩
theorem boxAt_three {w : World} {b : Nat} {x y z : Value} (h0 : w.cell? ⟨b, 0, none⟩ = some x) (f0 : w.frozen? ⟨b, 0, none⟩ = false) (h1 : w.cell? ⟨b, 1, none⟩ = some y) (f1 : w.frozen? ⟨b, 1, none⟩ = false)
    (h2 : w.cell? ⟨b, 2, none⟩ = some z) (f2 : w.frozen? ⟨b, 2, none⟩ = false) : BoxAt w b [x, y, z] := by
  intro i v hv
  match i, hv with
  | 0, hv => simp at hv; subst hv; exact ⟨h0, f0⟩
  | 1, hv => simp at hv; subst hv; exact ⟨h1, f1⟩
  | 2, hv => simp at hv; subst hv; exact ⟨h2, f2⟩
/-- A block begins with these cells (met by instances). -/
class RowAt (w : World) (b : Nat) (l : List Value) : Prop where
  is : ∀ i x, l[i]? = some x → w.cell? ⟨b, i, none⟩ = some x
instance rowAt_new (w : World) (l : List Value) (t : TypeId) (n : Nat) [h : SizeAt w n] : RowAt (w.alloc (.cells l.toArray t)) n l := by
  obtain rfl := h.eq
  exact ⟨fun i x hx => by simpa using hx⟩
instance rowAt_alloc (w : World) (o : Obj) (b : Nat) (l : List Value) [h : RowAt w b l] : RowAt (w.alloc o) b l :=
  ⟨fun i x hx => by rw [World.cell?_alloc_lt _ _ _ (World.block_lt_of_cell? w _ (h.is i x hx)), h.is i x hx]⟩
instance rowAt_drew (w : World) (b : Nat) (l : List Value) [h : RowAt w b l] : RowAt w.drew b l := ⟨h.is⟩
instance rowAt_later (w : World) (u : Later w) (b : Nat) (l : List Value) [h : RowAt w b l] : RowAt u.world b l := ⟨fun i x hx => u.grew.cell (h.is i x hx)⟩
instance rowAt_setCell (w : World) (c j b : Nat) (v : Value) (l : List Value) [h : RowAt w b l] [k : Apart b c] : RowAt (w.setCell ⟨c, j, none⟩ v) b l :=
  ⟨fun i x hx => by rw [cell_setCell_apart, h.is i x hx]⟩
theorem SlAt.row {w : World} {b : Nat} {l : List Value} [h : RowAt w b l] (n cap : Nat) (hn : n ≤ maxLen) : SlAt w (.slice (some ⟨b, 0, none⟩) n cap) n l :=
  ⟨_, _, rfl, hn, fun i x hx => ⟨b, 0, rfl, by rw [Nat.zero_add]; exact h.is i x hx⟩⟩
theorem len_le (n : Nat) (h : n ≤ 4096) : n ≤ maxLen := by unfold maxLen; omega
end Go.Proofs.YtochpnomfedhoaaGreat
