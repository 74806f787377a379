/-
  Plain words and lemmas for the walks of this seat.
-/
import Derived.WalkKit
import Derived.BigQuiet
import Derived.Lib.Hide
namespace Go.Proofs.YtochpnomfedhoaaGreat
open Go.RowKit

/-- Nothing that was there has turned. -/
def Grew (a w : World) : Prop := Below a.heap.size a w
theorem Grew.below {a w : World} (h : Grew a w) : Below a.heap.size a w := h
theorem Grew.of {a w : World} (h : Below a.heap.size a w) : Grew a w := h
theorem Grew.refl (a : World) : Grew a a := Below.refl _ _
theorem Grew.trans {a b c : World} (h : Grew a b) (k : Grew b c) : Grew a c := Below.trans h (Below.mono k (Below.size h))
theorem Grew.alloc {a w : World} (h : Grew a w) (o : Obj) : Grew a (w.alloc o) := Below.alloc h (Below.size h) o
theorem Grew.drew {a w : World} (h : Grew a w) : Grew a w.drew := Below.drew h
theorem Grew.setCell {a w : World} (h : Grew a w) {p : Addr} (hp : a.heap.size ≤ p.block) (u : Value) : Grew a (w.setCell p u) := Below.setCell h hp u
theorem Grew.grown {a w w' : World} {row : Option Nat} (h : Grew a w) (hg : w.grownBy w' row) (hr : ∀ k, row = some k → a.heap.size ≤ k) : Grew a w' := Below.grown h hg (Below.size h) hr
theorem Grew.size {a w : World} (h : Grew a w) : a.heap.size ≤ w.heap.size := Below.size h
theorem Grew.cell {a w : World} (h : Grew a w) {p : Addr} {v : Value} (hv : a.cell? p = some v) : w.cell? p = some v := by
  rw [Below.cell h (World.block_lt_of_cell? a p hv), hv]

/-- A world in which nothing that was in w has turned. -/
structure Later (w : World) where
  world : World
  grew : Grew w world
instance (w : World) : Nonempty (Later w) := ⟨⟨w, Grew.refl w⟩⟩
theorem Grew.later {a w : World} (h : Grew a w) (u : Later w) : Grew a u.world := h.trans u.grew
/-- How many blocks a world has (met by instances). -/
class SizeAt (w : World) (n : outParam Nat) : Prop where
  eq : w.heap.size = n
/-- A block lies in a world (met by instances). -/
class BlockIn (w : World) (b : Nat) : Prop where
  lt : b < w.heap.size
instance (priority := low) sizeAt_self (w : World) : SizeAt w w.heap.size := ⟨rfl⟩
instance sizeAt_alloc (w : World) (o : Obj) (n : Nat) [h : SizeAt w n] : SizeAt (w.alloc o) (n + 1) := ⟨by simp [h.eq]⟩
instance sizeAt_setCell (w : World) (a : Addr) (v : Value) (n : Nat) [h : SizeAt w n] : SizeAt (w.setCell a v) n := ⟨by simp [World.setCell, h.eq]⟩
instance sizeAt_drew (w : World) (n : Nat) [h : SizeAt w n] : SizeAt w.drew n := ⟨h.eq⟩
instance blockIn_new (w : World) (o : Obj) (n : Nat) [h : SizeAt w n] : BlockIn (w.alloc o) n := ⟨by simp [h.eq]⟩
instance blockIn_alloc (w : World) (o : Obj) (b : Nat) [h : BlockIn w b] : BlockIn (w.alloc o) b := ⟨by have := h.lt; simp; omega⟩
instance blockIn_setCell (w : World) (a : Addr) (v : Value) (b : Nat) [h : BlockIn w b] : BlockIn (w.setCell a v) b := ⟨by simpa [World.setCell] using h.lt⟩
instance blockIn_drew (w : World) (b : Nat) [h : BlockIn w b] : BlockIn w.drew b := ⟨h.lt⟩
instance blockIn_later (w : World) (u : Later w) (b : Nat) [h : BlockIn w b] : BlockIn u.world b := ⟨Nat.lt_of_lt_of_le h.lt (Below.size u.grew)⟩
theorem BlockIn.of_cell {w : World} {b o : Nat} {v : Value} (h : w.cell? ⟨b, o, none⟩ = some v) : BlockIn w b := ⟨World.block_lt_of_cell? w _ h⟩
@[go_sem] theorem Later.cell {w : World} (u : Later w) (b i : Nat) [h : BlockIn w b] : u.world.cell? ⟨b, i, none⟩ = w.cell? ⟨b, i, none⟩ := Below.cell u.grew h.lt
@[go_sem] theorem Later.frozen {w : World} (u : Later w) (b i : Nat) [h : BlockIn w b] : u.world.frozen? ⟨b, i, none⟩ = w.frozen? ⟨b, i, none⟩ := Below.frozen u.grew h.lt
@[go_sem] theorem cell_alloc_in (w : World) (o : Obj) (b i : Nat) [h : BlockIn w b] : (w.alloc o).cell? ⟨b, i, none⟩ = w.cell? ⟨b, i, none⟩ := World.cell?_alloc_past o b i h.lt
@[go_sem] theorem frozen_alloc_in (w : World) (o : Obj) (b i : Nat) [h : BlockIn w b] : (w.alloc o).frozen? ⟨b, i, none⟩ = w.frozen? ⟨b, i, none⟩ := World.frozen?_alloc_past o b i h.lt
@[go_sem] theorem cell_setCell_new (w : World) (o : Obj) (x : Value) (j b i : Nat) [h : BlockIn w b] : ((w.alloc o).setCell ⟨w.heap.size, j, none⟩ x).cell? ⟨b, i, none⟩ = w.cell? ⟨b, i, none⟩ := by
  have := h.lt
  rw [World.cell?_setCell_other _ _ _ _ (by intro e; injection e with e1; omega)]
  exact World.cell?_alloc_past o b i h.lt
theorem later_of {w w' : World} (h : Grew w w') : ∃ u : Later w, w' = u.world := ⟨⟨w', h⟩, rfl⟩

/-- Two blocks that are not one (met by instances). -/
class Apart (b c : Nat) : Prop where
  ne : b ≠ c
instance apart_r0 (v : World) (b : Nat) [h : BlockIn v b] : Apart b (v.heap.size) := ⟨by have := h.lt; omega⟩
instance apart_l0 (v : World) (b : Nat) [h : BlockIn v b] : Apart (v.heap.size) b := ⟨by have := h.lt; omega⟩
instance apart_r1 (v : World) (b : Nat) [h : BlockIn v b] : Apart b (v.heap.size + 1) := ⟨by have := h.lt; omega⟩
instance apart_l1 (v : World) (b : Nat) [h : BlockIn v b] : Apart (v.heap.size + 1) b := ⟨by have := h.lt; omega⟩
instance apart_r2 (v : World) (b : Nat) [h : BlockIn v b] : Apart b (v.heap.size + 1 + 1) := ⟨by have := h.lt; omega⟩
instance apart_l2 (v : World) (b : Nat) [h : BlockIn v b] : Apart (v.heap.size + 1 + 1) b := ⟨by have := h.lt; omega⟩
instance apart_r3 (v : World) (b : Nat) [h : BlockIn v b] : Apart b (v.heap.size + 1 + 1 + 1) := ⟨by have := h.lt; omega⟩
instance apart_l3 (v : World) (b : Nat) [h : BlockIn v b] : Apart (v.heap.size + 1 + 1 + 1) b := ⟨by have := h.lt; omega⟩
instance apart_r4 (v : World) (b : Nat) [h : BlockIn v b] : Apart b (v.heap.size + 1 + 1 + 1 + 1) := ⟨by have := h.lt; omega⟩
instance apart_l4 (v : World) (b : Nat) [h : BlockIn v b] : Apart (v.heap.size + 1 + 1 + 1 + 1) b := ⟨by have := h.lt; omega⟩
@[go_sem] theorem cell_setCell_apart (w : World) (x : Value) (c j b i : Nat) [h : Apart b c] : (w.setCell ⟨c, j, none⟩ x).cell? ⟨b, i, none⟩ = w.cell? ⟨b, i, none⟩ :=
  World.cell?_setCell_other _ _ _ _ (by intro e; injection e with e1; exact h.ne e1.symm)
/-- An index of a list that is written out (met by instances). -/
class LtLen (i : Nat) (l : List Value) : Prop where
  lt : i < l.length
instance ltLen_zero (v : Value) (l : List Value) : LtLen 0 (v :: l) := ⟨Nat.succ_pos _⟩
instance ltLen_succ (i : Nat) (v : Value) (l : List Value) [h : LtLen i l] : LtLen (i + 1) (v :: l) := ⟨Nat.succ_lt_succ h.lt⟩
/-- A cell that is there (met by instances). -/
class HasCell (w : World) (b i : Nat) : Prop where
  is : ∃ v, w.cell? ⟨b, i, none⟩ = some v
instance hasCell_new (w : World) (l : List Value) (t : TypeId) (n i : Nat) [h : SizeAt w n] [hi : LtLen i l] : HasCell (w.alloc (.cells l.toArray t)) n i := by
  obtain rfl := h.eq
  exact ⟨l[i]'hi.lt, by simp [hi.lt]⟩
instance hasCell_alloc (w : World) (o : Obj) (b i : Nat) [h : HasCell w b i] : HasCell (w.alloc o) b i := by
  obtain ⟨v, hv⟩ := h.is
  exact ⟨v, by rw [World.cell?_alloc_lt _ _ _ (World.block_lt_of_cell? w _ hv), hv]⟩
instance hasCell_setCell (w : World) (a : Addr) (x : Value) (b i : Nat) [h : HasCell w b i] : HasCell (w.setCell a x) b i := by
  obtain ⟨v, hv⟩ := h.is
  by_cases e : a = ⟨b, i, none⟩
  · subst e; exact ⟨x, World.cell?_setCell_same _ _ _ hv⟩
  · exact ⟨v, by rw [World.cell?_setCell_other _ _ _ _ e, hv]⟩
instance hasCell_drew (w : World) (b i : Nat) [h : HasCell w b i] : HasCell w.drew b i := ⟨h.is⟩
instance hasCell_later (w : World) (u : Later w) (b i : Nat) [h : HasCell w b i] : HasCell u.world b i := by
  obtain ⟨v, hv⟩ := h.is
  exact ⟨v, u.grew.cell hv⟩
@[go_sem] theorem cell_setCell_same (w : World) (x : Value) (b i : Nat) [h : HasCell w b i] : (w.setCell ⟨b, i, none⟩ x).cell? ⟨b, i, none⟩ = some x := by
  obtain ⟨v, hv⟩ := h.is
  exact World.cell?_setCell_same _ _ _ hv
/-- A block that was not there (met by instances). -/
class NewFor (a : World) (b : Nat) : Prop where
  le : a.heap.size ≤ b
instance newFor_self (a : World) : NewFor a a.heap.size := ⟨Nat.le_refl _⟩
instance newFor_succ (a : World) (b : Nat) [h : NewFor a b] : NewFor a (b + 1) := ⟨Nat.le_succ_of_le h.le⟩
instance newFor_alloc (a w : World) (o : Obj) [h : NewFor a w.heap.size] : NewFor a (w.alloc o).heap.size := ⟨by have := h.le; simp; omega⟩
instance newFor_setCell (a w : World) (p : Addr) (v : Value) [h : NewFor a w.heap.size] : NewFor a (w.setCell p v).heap.size := ⟨by have := h.le; simp [World.setCell]; omega⟩
instance newFor_drew (a w : World) [h : NewFor a w.heap.size] : NewFor a w.drew.heap.size := ⟨h.le⟩
instance newFor_later (a w : World) (u : Later w) [h : NewFor a w.heap.size] : NewFor a u.world.heap.size := ⟨Nat.le_trans h.le (Below.size u.grew)⟩
theorem Grew.store {a w : World} (h : Grew a w) (b i : Nat) (u : Value) [hb : NewFor a b] : Grew a (w.setCell ⟨b, i, none⟩ u) := h.setCell hb.le u
/-- A box of one's own: its cells, which may be written. -/
def BoxAt (w : World) (b : Nat) (cs : List Value) : Prop := ∀ i v, cs[i]? = some v → w.cell? ⟨b, i, none⟩ = some v ∧ w.frozen? ⟨b, i, none⟩ = false
theorem BoxAt.nil (w : World) (b : Nat) : BoxAt w b [] := fun i v h => by simp at h
theorem BoxAt.snoc {w : World} {b : Nat} {cs : List Value} {v : Value} (h : BoxAt w b cs) (h1 : w.cell? ⟨b, cs.length, none⟩ = some v) (h2 : w.frozen? ⟨b, cs.length, none⟩ = false) : BoxAt w b (cs ++ [v]) := by
  intro i u hu
  rcases Nat.lt_trichotomy i cs.length with hl | hl | hl
  · rw [List.getElem?_append_left hl] at hu
    exact h i u hu
  · subst hl
    simp at hu
    subst hu
    exact ⟨h1, h2⟩
  · rw [List.getElem?_eq_none (by simp; omega)] at hu
    cases hu
theorem call_later {P : Program} {f : FuncId} {args : Array Value} {w : World} {v : Value} {R : Ending → World → Prop}
    (h : Calls P f args w fun e w' => e = .returned v ∧ Grew w w') (k : ∀ u : Later w, R (.returned v) u.world) : Calls P f args w R :=
  h.mono fun _ w' ⟨he, hg⟩ => by subst he; exact k ⟨w', hg⟩
theorem call_quiet {P : Program} {f : FuncId} {args : Array Value} {w : World} {u : Later w} {v : Value}
    (h : Calls P f args u.world fun e w' => e = .returned v ∧ Grew u.world w') : Calls P f args u.world fun e w' => e = .returned v ∧ ∃ u' : Later w, w' = u'.world :=
  h.mono fun _ w' ⟨he, hg⟩ => ⟨he, ⟨w', u.grew.trans hg⟩, rfl⟩
theorem wp_region_later {P : Program} {id : Nat} {Q : Exit → Act → World → Prop} {a : Act} {w : World} {l : List Oper} (hm : P.follows .mixedOrders = true) (hB : Region.lexB .any l.toArray = true)
    (h : wpQuiet P l.toArray (fun w' => ∃ u : Later w, w' = u.world) (fun a' => ∀ w', (∃ u : Later w, w' = u.world) → Q .normal a' w') l a) : (Code.region id l.toArray true).wp P Q a w :=
  wp_region_quiet (C := fun w' => ∃ u : Later w, w' = u.world) hm hB ⟨⟨_, (Grew.refl w).drew⟩, rfl⟩ (by simpa using h)

theorem bool_or (b : Bool) : b = false ∨ b = true := by cases b <;> simp
theorem bool_or' (b : Bool) : b = true ∨ b = false := by cases b <;> simp
theorem prop_or (p : Prop) : ¬ p ∨ p := (Classical.em p).symm
theorem prop_or' (p : Prop) : p ∨ ¬ p := Classical.em p
theorem is_bool {P : Program} {f : FuncId} {args : Array Value} {w : World} {b b' : Bool} (hb : b = b')
    (h : Calls P f args w fun e w' => e = .returned (.bool b) ∧ Grew w w') : Calls P f args w fun e w' => e = .returned (.bool b') ∧ Grew w w' := hb ▸ h
theorem is_int {P : Program} {f : FuncId} {args : Array Value} {w : World} {k : IntKind} {b b' : Int} (hb : b = b')
    (h : Calls P f args w fun e w' => e = .returned (.int k b) ∧ Grew w w') : Calls P f args w fun e w' => e = .returned (.int k b') ∧ Grew w w' := hb ▸ h
theorem ret_int {k : IntKind} {a b : Int} (h : a = b) : Ending.returned (.int k a) = .returned (.int k b) := by rw [h]
theorem ret_bool {a b : Bool} (h : a = b) : Ending.returned (.bool a) = .returned (.bool b) := by rw [h]
theorem wrap_id (x : Int) (h1 : -9223372036854775808 ≤ x) (h2 : x ≤ 9223372036854775807) : wrap64 x = x := IntWalk.wrap64_in x ⟨h1, h2⟩
theorem tmod_bd (n b : Int) (hb : 1 ≤ b) : -b < n.tmod b ∧ n.tmod b < b := by
  have := Int.tmod_lt_of_pos n (show 0 < b by omega)
  have := Int.lt_tmod_of_pos n (show 0 < b by omega)
  omega
theorem tmod_emod (n b : Int) : n.tmod b % b = n % b := by
  have h1 := Int.mul_tdiv_add_tmod n b
  have h2 : n.tmod b = n + b * (- n.tdiv b) := by rw [Int.mul_neg]; omega
  rw [h2, Int.add_mul_emod_self_left]
end Go.Proofs.YtochpnomfedhoaaGreat
