/-
  A whole variable that is stored at once: plain words, met by instances.
-/
import Derived.Test.YtffbipcdlnfihaaCore
import Derived.Deep.WholeRow
import Derived.Laws.CopyOwn
namespace Go.Proofs.Ytffbipcdlnfihaa
open Go.RowKit
/-- A block is a variable of a type, of n cells (met by instances). -/
class RowOf (w : World) (b : Nat) (t : outParam TypeId) (n : outParam Nat) : Prop where
  is : ∃ cur : Array Value, w.heap[b]? = some (.cells cur t (0, 0)) ∧ cur.size = n
/-- Values of one cell each, so many (met by instances). -/
class OneCells (l : List Value) (n : outParam Nat) : Prop where
  len : l.length = n
  one : ∀ v ∈ l, v.oneCell' = true
instance oneCells_nil : OneCells [] 0 := ⟨rfl, by simp⟩
instance oneCells_int (k : IntKind) (a : Int) (l : List Value) (n : Nat) [h : OneCells l n] : OneCells (.int k a :: l) (n + 1) := ⟨by simp [h.len], by intro v hv; rcases List.mem_cons.1 hv with rfl | hv; rfl; exact h.one v hv⟩
instance oneCells_bool (a : Bool) (l : List Value) (n : Nat) [h : OneCells l n] : OneCells (.bool a :: l) (n + 1) := ⟨by simp [h.len], by intro v hv; rcases List.mem_cons.1 hv with rfl | hv; rfl; exact h.one v hv⟩
instance oneCells_slice (a : Option Addr) (p q : Nat) (l : List Value) (n : Nat) [h : OneCells l n] : OneCells (.slice a p q :: l) (n + 1) := ⟨by simp [h.len], by intro v hv; rcases List.mem_cons.1 hv with rfl | hv; rfl; exact h.one v hv⟩
instance rowOf_new (w : World) (l : List Value) (t : TypeId) (m n : Nat) [h : SizeAt w m] [k : OneCells l n] : RowOf (w.alloc (.cells l.toArray t)) m t n := by
  obtain rfl := h.eq
  exact ⟨_, heap_alloc_last w _, by simp [k.len]⟩
instance rowOf_alloc (w : World) (o : Obj) (b : Nat) (t : TypeId) (n : Nat) [h : RowOf w b t n] : RowOf (w.alloc o) b t n := by
  obtain ⟨cur, h1, h2⟩ := h.is
  exact ⟨cur, (Below.heap_alloc _ _ _ (Array.getElem?_eq_some_iff.1 h1).1).trans h1, h2⟩
instance rowOf_drew (w : World) (b : Nat) (t : TypeId) (n : Nat) [h : RowOf w b t n] : RowOf w.drew b t n := ⟨h.is⟩
instance rowOf_later (w : World) (u : Later w) (b : Nat) (t : TypeId) (n : Nat) [h : RowOf w b t n] : RowOf u.world b t n := by
  obtain ⟨cur, h1, h2⟩ := h.is
  exact ⟨cur, (u.grew.block b (Array.getElem?_eq_some_iff.1 h1).1).trans h1, h2⟩
instance rowOf_setCell (w : World) (c j : Nat) (v : Value) (b : Nat) (t : TypeId) (n : Nat) [h : RowOf w b t n] : RowOf (w.setCell ⟨c, j, none⟩ v) b t n := by
  obtain ⟨cur, h1, h2⟩ := h.is
  by_cases e : b = c
  · subst e
    exact ⟨cur.setIfInBounds j v, by unfold World.setCell; simp [Array.getElem?_modify, h1], by simp [h2]⟩
  · exact ⟨cur, (Below.heap_setCell _ _ _ _ e).trans h1, h2⟩
instance rowOf_setRow (w : World) (c : Nat) (l : List Value) (b : Nat) (t : TypeId) (n : Nat) [h : RowOf w b t n] [k : Apart b c] : RowOf (w.setRow c l.toArray) b t n := by
  obtain ⟨cur, h1, h2⟩ := h.is
  exact ⟨cur, (setRow_other w c b _ k.ne).trans h1, h2⟩
theorem storeAt_whole {P : Program} {w : World} {b : Nat} {t : TypeId} {n : Nat} {l : List Value} [h : RowOf w b t n] [hl : OneCells l n] (hi : (P.info? t).map (·.size) = some n) :
    (Instr.storeAt t (.pointer (some ⟨b, 0, none⟩)) (.agg l.toArray)).run P w = .ok () (w.setRow b l.toArray) := by
  obtain ⟨cur, h1, h2⟩ := h.is
  simp only [Instr.storeAt, Instr.sureAddr, Sem.run_bind, Sem.run_pure, Result.andThen]
  exact run_storeVar_row w b t t cur l.toArray h1 (by rw [hi]; simp [hl.len]) (by simp [h2, hl.len]) (by rw [Array.all_eq_true_iff_forall_mem]; intro v hv; exact hl.one v (by simpa using hv))
theorem storeAt_whole_new {P : Program} {w : World} {m : Nat} {t : TypeId} {n : Nat} {l l' : List Value} [h : SizeAt w m] [hl : OneCells l n] [hl' : OneCells l' n] (hi : (P.info? t).map (·.size) = some n) :
    (Instr.storeAt t (.pointer (some ⟨m, 0, none⟩)) (.agg l.toArray)).run P (w.alloc (.cells l'.toArray t)) = .ok () (w.alloc (.cells l.toArray t)) := by
  obtain rfl := h.eq
  exact run_storeAt_new w t _ _ (by rw [hi]; simp [hl.len]) (by simp [hl.len, hl'.len]) (by rw [Array.all_eq_true_iff_forall_mem]; intro v hv; exact hl.one v (by simpa using hv))
@[go_sem] theorem cell_setRow_at (w : World) (b i : Nat) (t : TypeId) (n : Nat) (l : List Value) [h : RowOf w b t n] : (w.setRow b l.toArray).cell? ⟨b, i, none⟩ = l[i]? := by
  obtain ⟨cur, h1, -⟩ := h.is
  rw [cell_setRow_same w b i cur _ t (0, 0) h1]
  simp
@[go_sem] theorem cell_setRow_apart (w : World) (c b i : Nat) (cs : Array Value) [h : Apart b c] : (w.setRow c cs).cell? ⟨b, i, none⟩ = w.cell? ⟨b, i, none⟩ := cell_setRow_other w c cs _ h.ne
@[go_sem] theorem frozen_setRow_apart (w : World) (c b i : Nat) (cs : Array Value) [h : Apart b c] : (w.setRow c cs).frozen? ⟨b, i, none⟩ = w.frozen? ⟨b, i, none⟩ := World.frozen?_of_block (setRow_other w c b cs h.ne)
instance sizeAt_setRow (w : World) (c : Nat) (cs : Array Value) (n : Nat) [h : SizeAt w n] : SizeAt (w.setRow c cs) n := ⟨by simp [h.eq]⟩
instance blockIn_setRow (w : World) (c : Nat) (cs : Array Value) (b : Nat) [h : BlockIn w b] : BlockIn (w.setRow c cs) b := ⟨by simpa using h.lt⟩
instance hasCell_setRow (w : World) (c : Nat) (cs : Array Value) (b i : Nat) [h : HasCell w b i] [k : Apart b c] : HasCell (w.setRow c cs) b i := by
  obtain ⟨v, hv⟩ := h.is
  exact ⟨v, by rw [cell_setRow_apart, hv]⟩
theorem Grew.setRow {a w : World} (h : Grew a w) (b : Nat) (cs : Array Value) [hb : NewFor a b] : Grew a (w.setRow b cs) := below_setRow h hb.le cs
theorem gwr {a w : World} (h : Grew a w := by repeat (first | with_reducible exact Grew.refl _ | with_reducible apply Grew.alloc | with_reducible apply Grew.later | with_reducible apply Grew.drew | with_reducible apply Grew.setRow | with_reducible apply Grew.store | with_reducible assumption)) : Grew a w := h
end Go.Proofs.Ytffbipcdlnfihaa
