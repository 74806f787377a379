/-
  Rows of one's own that grow by append: plain words, met by instances.
-/
import Derived.Test.YtffbipcdlnfihaaCore
import Derived.Deep.AppendLies
namespace Go.Proofs.Ytffbipcdlnfihaa
open Go.RowKit
/-- A row that is owned (met by instances). -/
class Own (w : World) (base : Nat) (e : TypeId) (size : Nat) (v : Value) (n : outParam Nat) (xs : outParam (List Value)) : Prop where
  is : w.ownsRow base e size v n xs
section
variable {w : World} {base : Nat} {e : TypeId} {size : Nat} {v : Value} {n : Nat} {xs : List Value}
instance own_alloc (o : Obj) [h : Own w base e size v n xs] : Own (w.alloc o) base e size v n xs := ⟨h.is.alloc o⟩
instance own_drew [h : Own w base e size v n xs] : Own w.drew base e size v n xs := ⟨h.is.drew⟩
instance own_later (u : Later w) [h : Own w base e size v n xs] : Own u.world base e size v n xs := ⟨owns_grew h.is u.grew⟩
theorem own_lt [h : Own w base e size v n xs] {k : Nat} (hk : v.ownBlock = some k) : k < w.heap.size := by
  rcases h.is.2 with ⟨rfl, -⟩ | ⟨g, cap, cur, rfl, -, hh, -⟩
  · cases hk
  · cases hk
    exact (Array.getElem?_eq_some_iff.1 hh).1
theorem own_ge [h : Own w base e size v n xs] {k : Nat} (hk : v.ownBlock = some k) : base ≤ k := owns_base h.is k hk
/-- Another row's append leaves a row as it is. -/
theorem owns_far {w' : World} {row : Option Nat} (h : w.ownsRow base e size v n xs) (g : w.grownBy w' row) (hne : ∀ k, v.ownBlock = some k → row ≠ some k) : w'.ownsRow base e size v n xs := by
  obtain ⟨h1, h2⟩ := h
  refine ⟨h1, ?_⟩
  rcases h2 with h2 | ⟨b, cap, cur, rfl, hg, hh, r⟩
  · exact .inl h2
  · refine .inr ⟨b, cap, cur, rfl, hg, ?_, r⟩
    rw [g.block b (Array.getElem?_eq_some_iff.1 hh).1 (fun e => hne b rfl e.symm), hh]
theorem owns_setCell_far (h : w.ownsRow base e size v n xs) (c j : Nat) (x : Value) (hne : v.ownBlock ≠ some c) : (w.setCell ⟨c, j, none⟩ x).ownsRow base e size v n xs := by
  obtain ⟨h1, h2⟩ := h
  refine ⟨h1, ?_⟩
  rcases h2 with h2 | ⟨b, cap, cur, rfl, hg, hh, r⟩
  · exact .inl h2
  · refine .inr ⟨b, cap, cur, rfl, hg, ?_, r⟩
    rw [Below.heap_setCell _ _ _ _ (show b ≠ c from fun e => hne (by rw [← e]; rfl)), hh]
end
/-- A block is not a row's (met by instances). -/
class NotRow (b : Nat) (v : Value) : Prop where
  ne : v.ownBlock ≠ some b
instance own_setCell (w : World) (base : Nat) (e : TypeId) (size : Nat) (v : Value) (n : Nat) (xs : List Value) (c j : Nat) (x : Value) [h : Own w base e size v n xs] [k : NotRow c v] : Own (w.setCell ⟨c, j, none⟩ x) base e size v n xs := ⟨owns_setCell_far h.is c j x k.ne⟩
theorem notRow_new {w : World} {base : Nat} {e : TypeId} {size : Nat} {v : Value} {n : Nat} {xs : List Value} (h : w.ownsRow base e size v n xs) (b : Nat) [k : NewFor w b] : NotRow b v :=
  ⟨fun hb => by
    have : Own w base e size v n xs := ⟨h⟩
    have := own_lt (w := w) (base := base) (e := e) (size := size) hb
    have := k.le
    omega⟩
theorem notRow_old {w : World} {base : Nat} {e : TypeId} {size : Nat} {v : Value} {n : Nat} {xs : List Value} (h : w.ownsRow base e size v n xs) (b : Nat) (hb : b < base) : NotRow b v :=
  ⟨fun hk => by have := owns_base h b hk; omega⟩
theorem news_row {w : World} {b : Nat} {l : List Value} [h : RowAt w b l] : ∀ j u, l[j]? = some u → w.cell? ((⟨b, 0, none⟩ : Addr).add j) = some u := by
  intro j u hj
  rw [Addr.add_lit, Nat.zero_add]
  exact h.is j u hj
theorem row_far {w w' : World} {v : Value} (g : w.grownBy w' v.ownBlock) (b : Nat) (l : List Value) [h : RowAt w b l] [k : NotRow b v] : RowAt w' b l :=
  ⟨fun i x hx => by rw [g.cell_far _ (World.block_lt_of_cell? w _ (h.is i x hx)) (fun e => k.ne e.symm), h.is i x hx]⟩
theorem far_inst {w w' : World} {v : Value} (g : w.grownBy w' v.ownBlock) : ∀ (b : Nat) (l : List Value) [RowAt w b l] [NotRow b v], RowAt w' b l := fun b l _ _ => row_far g b l
theorem box_far {w w' : World} {v : Value} (g : w.grownBy w' v.ownBlock) (b : Nat) (l : List Value) (h : BoxAt w b l) (k : NotRow b v) : BoxAt w' b l := fun i x hx => by
  obtain ⟨h1, h2⟩ := h i x hx
  have hlt := World.block_lt_of_cell? w _ h1
  exact ⟨by rw [g.cell_far _ hlt (fun e => k.ne e.symm), h1], by rw [g.frozen_far _ hlt (fun e => k.ne e.symm), h2]⟩
/-- Two rows are not one (met by instances). -/
def RowsApart (v1 v2 : Value) : Prop := ∀ k, v1.ownBlock = some k → v2.ownBlock ≠ some k
theorem rowsApart_nil (v : Value) : RowsApart (.slice none 0 0) v := fun k h => by cases h
theorem RowsApart.symm {v1 v2 : Value} (h : RowsApart v1 v2) : RowsApart v2 v1 := fun k h2 h1 => h k h1 h2
theorem apart_grown {w : World} {base : Nat} {e : TypeId} {size : Nat} {v1 v2 : Value} {n : Nat} {xs : List Value} (h : w.ownsRow base e size v2 n xs) (hap : RowsApart v1 v2) {g m cap : Nat} (hat : v1.ownBlock = some g ∨ g = w.heap.size) : RowsApart (.slice (some ⟨g, 0, none⟩) m cap) v2 := by
  intro k hk
  cases hk
  have : Own w base e size v2 n xs := ⟨h⟩
  rcases hat with h1 | h1
  · exact hap g h1
  · intro h2
    have h3 := own_lt (w := w) (base := base) (e := e) (size := size) h2
    simp only [] at h3
    omega
theorem apart_grown2 {w : World} {base : Nat} {e : TypeId} {size : Nat} {v1 v2 : Value} {n : Nat} {xs : List Value} (h : w.ownsRow base e size v1 n xs) (hap : RowsApart v1 v2) {g m cap : Nat} (hat : v2.ownBlock = some g ∨ g = w.heap.size) : RowsApart v1 (.slice (some ⟨g, 0, none⟩) m cap) :=
  (apart_grown h hap.symm hat).symm
theorem rowAt_of_box {w : World} {b : Nat} {l : List Value} (h : BoxAt w b l) : RowAt w b l := ⟨fun i x hx => (h i x hx).1⟩
/-- The world is a letter from here on. -/
theorem wp_to_later {P : Program} {c : Code} {Q : Exit → Act → World → Prop} {a : Act} {z w : World} (g : Grew z w) (h : ∀ y : Later z, y.world = w → c.wp P Q a y.world) : c.wp P Q a w := h ⟨w, g⟩ rfl
theorem notRow_grown {w : World} {b : Nat} {v : Value} [h : NotRow b v] {g m cap : Nat} (hb : b < w.heap.size) (hat : v.ownBlock = some g ∨ g = w.heap.size) : NotRow b (.slice (some ⟨g, 0, none⟩) m cap) :=
  ⟨fun e => by
    obtain rfl : g = b := by simpa [Value.ownBlock] using e
    rcases hat with h1 | h1
    · exact h.ne h1
    · omega⟩
theorem owns_cap {w : World} {base : Nat} {e : TypeId} {size : Nat} {v : Value} {n : Nat} {xs : List Value} (h : w.ownsRow base e size v n xs) (h0 : 0 < n) : ∃ ao cap, v = .slice ao n cap ∧ n ≤ cap ∧ n ≤ maxLen := by
  rcases h.2 with ⟨-, h1⟩ | ⟨g, cap, cur, rfl, -, -, h2, h3, -⟩
  · omega
  · exact ⟨_, _, rfl, h2, Nat.le_trans h2 h3⟩
end Go.Proofs.Ytffbipcdlnfihaa
