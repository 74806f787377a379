/-
  Plain words and lemmas for the walks of this seat.
  Slices that are read: plain words.
  Plain words: the values of api (numbers as integers), what is valid.
  Boxes of one's own.
-/
import Derived.WalkKit
import Derived.BigQuiet
import Derived.Lib.Hide
import Derived.OwnWalk
import Derived.Maps.AppendAt
namespace Go.Proofs.Ytffbipcdlnfihaa
open Go.RowKit

/-- Nothing that was there has turned. -/
def Grew (a w : World) : Prop := Below a.heap.size a w
theorem Grew.below {a w : World} (h : Grew a w) : Below a.heap.size a w := h
theorem Grew.of {a w : World} (h : Below a.heap.size a w) : Grew a w := h
theorem Grew.refl (a : World) : Grew a a := Below.refl _ _
theorem Grew.trans {a b c : World} (h : Grew a b) (k : Grew b c) : Grew a c := Below.trans h (Below.mono k (Below.size h))
theorem Grew.alloc {a w : World} (h : Grew a w) (o : Obj) : Grew a (w.alloc o) := Below.alloc h (Below.size h) o
theorem Grew.drew {a w : World} (h : Grew a w) : Grew a w.drew := Below.drew h
theorem Grew.setCell {a w : World} (h : Grew a w) {p : Addr} (hp : a.heap.size ≤ p.block) (u : Value) : Grew a (w.setCell p u) := Below.setCell h hp u
theorem Grew.grown {a w w' : World} {row : Option Nat} (h : Grew a w) (hg : w.grownBy w' row) (hr : ∀ k, row = some k → a.heap.size ≤ k) : Grew a w' := Below.grown h hg (Below.size h) hr
theorem Grew.size {a w : World} (h : Grew a w) : a.heap.size ≤ w.heap.size := Below.size h
theorem Grew.cell {a w : World} (h : Grew a w) {p : Addr} {v : Value} (hv : a.cell? p = some v) : w.cell? p = some v := by
  rw [Below.cell h (World.block_lt_of_cell? a p hv), hv]

/-- A world in which nothing that was in w has turned. -/
structure Later (w : World) where
  world : World
  grew : Grew w world
instance (w : World) : Nonempty (Later w) := ⟨⟨w, Grew.refl w⟩⟩
theorem Grew.later {a w : World} (h : Grew a w) (u : Later w) : Grew a u.world := h.trans u.grew
/-- How many blocks a world has (met by instances). -/
class SizeAt (w : World) (n : outParam Nat) : Prop where
  eq : w.heap.size = n
/-- A block lies in a world (met by instances). -/
class BlockIn (w : World) (b : Nat) : Prop where
  lt : b < w.heap.size
instance (priority := low) sizeAt_self (w : World) : SizeAt w w.heap.size := ⟨rfl⟩
instance sizeAt_alloc (w : World) (o : Obj) (n : Nat) [h : SizeAt w n] : SizeAt (w.alloc o) (n + 1) := ⟨by simp [h.eq]⟩
instance sizeAt_setCell (w : World) (a : Addr) (v : Value) (n : Nat) [h : SizeAt w n] : SizeAt (w.setCell a v) n := ⟨by simp [World.setCell, h.eq]⟩
instance sizeAt_drew (w : World) (n : Nat) [h : SizeAt w n] : SizeAt w.drew n := ⟨h.eq⟩
instance blockIn_new (w : World) (o : Obj) (n : Nat) [h : SizeAt w n] : BlockIn (w.alloc o) n := ⟨by simp [h.eq]⟩
instance blockIn_alloc (w : World) (o : Obj) (b : Nat) [h : BlockIn w b] : BlockIn (w.alloc o) b := ⟨by have := h.lt; simp; omega⟩
instance blockIn_setCell (w : World) (a : Addr) (v : Value) (b : Nat) [h : BlockIn w b] : BlockIn (w.setCell a v) b := ⟨by simpa [World.setCell] using h.lt⟩
instance blockIn_drew (w : World) (b : Nat) [h : BlockIn w b] : BlockIn w.drew b := ⟨h.lt⟩
instance blockIn_later (w : World) (u : Later w) (b : Nat) [h : BlockIn w b] : BlockIn u.world b := ⟨Nat.lt_of_lt_of_le h.lt (Below.size u.grew)⟩
theorem BlockIn.of_cell {w : World} {b o : Nat} {v : Value} (h : w.cell? ⟨b, o, none⟩ = some v) : BlockIn w b := ⟨World.block_lt_of_cell? w _ h⟩
@[go_sem] theorem Later.cell {w : World} (u : Later w) (b i : Nat) [h : BlockIn w b] : u.world.cell? ⟨b, i, none⟩ = w.cell? ⟨b, i, none⟩ := Below.cell u.grew h.lt
@[go_sem] theorem Later.frozen {w : World} (u : Later w) (b i : Nat) [h : BlockIn w b] : u.world.frozen? ⟨b, i, none⟩ = w.frozen? ⟨b, i, none⟩ := Below.frozen u.grew h.lt
@[go_sem] theorem cell_alloc_in (w : World) (o : Obj) (b i : Nat) [h : BlockIn w b] : (w.alloc o).cell? ⟨b, i, none⟩ = w.cell? ⟨b, i, none⟩ := World.cell?_alloc_past o b i h.lt
@[go_sem] theorem frozen_alloc_in (w : World) (o : Obj) (b i : Nat) [h : BlockIn w b] : (w.alloc o).frozen? ⟨b, i, none⟩ = w.frozen? ⟨b, i, none⟩ := World.frozen?_alloc_past o b i h.lt
@[go_sem] theorem cell_setCell_new (w : World) (o : Obj) (x : Value) (j b i : Nat) [h : BlockIn w b] : ((w.alloc o).setCell ⟨w.heap.size, j, none⟩ x).cell? ⟨b, i, none⟩ = w.cell? ⟨b, i, none⟩ := by
  have := h.lt
  rw [World.cell?_setCell_other _ _ _ _ (by intro e; injection e with e1; omega)]
  exact World.cell?_alloc_past o b i h.lt
theorem later_of {w w' : World} (h : Grew w w') : ∃ u : Later w, w' = u.world := ⟨⟨w', h⟩, rfl⟩

/-- Two blocks that are not one (met by instances). -/
class Apart (b c : Nat) : Prop where
  ne : b ≠ c
instance apart_r0 (v : World) (b : Nat) [h : BlockIn v b] : Apart b (v.heap.size) := ⟨by have := h.lt; omega⟩
instance apart_l0 (v : World) (b : Nat) [h : BlockIn v b] : Apart (v.heap.size) b := ⟨by have := h.lt; omega⟩
instance apart_r1 (v : World) (b : Nat) [h : BlockIn v b] : Apart b (v.heap.size + 1) := ⟨by have := h.lt; omega⟩
instance apart_l1 (v : World) (b : Nat) [h : BlockIn v b] : Apart (v.heap.size + 1) b := ⟨by have := h.lt; omega⟩
instance apart_r2 (v : World) (b : Nat) [h : BlockIn v b] : Apart b (v.heap.size + 1 + 1) := ⟨by have := h.lt; omega⟩
instance apart_l2 (v : World) (b : Nat) [h : BlockIn v b] : Apart (v.heap.size + 1 + 1) b := ⟨by have := h.lt; omega⟩
instance apart_r3 (v : World) (b : Nat) [h : BlockIn v b] : Apart b (v.heap.size + 1 + 1 + 1) := ⟨by have := h.lt; omega⟩
instance apart_l3 (v : World) (b : Nat) [h : BlockIn v b] : Apart (v.heap.size + 1 + 1 + 1) b := ⟨by have := h.lt; omega⟩
instance apart_r4 (v : World) (b : Nat) [h : BlockIn v b] : Apart b (v.heap.size + 1 + 1 + 1 + 1) := ⟨by have := h.lt; omega⟩
instance apart_l4 (v : World) (b : Nat) [h : BlockIn v b] : Apart (v.heap.size + 1 + 1 + 1 + 1) b := ⟨by have := h.lt; omega⟩
instance apo_l1 (n : Nat) : Apart n (n + 1) := ⟨by omega⟩
instance apo_r1 (n : Nat) : Apart (n + 1) n := ⟨by omega⟩
instance apo_l2 (n : Nat) : Apart n (n + 1 + 1) := ⟨by omega⟩
instance apo_r2 (n : Nat) : Apart (n + 1 + 1) n := ⟨by omega⟩
instance apo_l3 (n : Nat) : Apart n (n + 1 + 1 + 1) := ⟨by omega⟩
instance apo_r3 (n : Nat) : Apart (n + 1 + 1 + 1) n := ⟨by omega⟩
instance apo_l4 (n : Nat) : Apart n (n + 1 + 1 + 1 + 1) := ⟨by omega⟩
instance apo_r4 (n : Nat) : Apart (n + 1 + 1 + 1 + 1) n := ⟨by omega⟩
instance apo_l5 (n : Nat) : Apart n (n + 1 + 1 + 1 + 1 + 1) := ⟨by omega⟩
instance apo_r5 (n : Nat) : Apart (n + 1 + 1 + 1 + 1 + 1) n := ⟨by omega⟩
instance apo_l6 (n : Nat) : Apart n (n + 1 + 1 + 1 + 1 + 1 + 1) := ⟨by omega⟩
instance apo_r6 (n : Nat) : Apart (n + 1 + 1 + 1 + 1 + 1 + 1) n := ⟨by omega⟩
instance apo_l7 (n : Nat) : Apart n (n + 1 + 1 + 1 + 1 + 1 + 1 + 1) := ⟨by omega⟩
instance apo_r7 (n : Nat) : Apart (n + 1 + 1 + 1 + 1 + 1 + 1 + 1) n := ⟨by omega⟩
instance apo_l8 (n : Nat) : Apart n (n + 1 + 1 + 1 + 1 + 1 + 1 + 1 + 1) := ⟨by omega⟩
instance apo_r8 (n : Nat) : Apart (n + 1 + 1 + 1 + 1 + 1 + 1 + 1 + 1) n := ⟨by omega⟩
@[go_sem] theorem cell_setCell_apart (w : World) (x : Value) (c j b i : Nat) [h : Apart b c] : (w.setCell ⟨c, j, none⟩ x).cell? ⟨b, i, none⟩ = w.cell? ⟨b, i, none⟩ :=
  World.cell?_setCell_other _ _ _ _ (by intro e; injection e with e1; exact h.ne e1.symm)
/-- An index of a list that is written out (met by instances). -/
class LtLen (i : Nat) (l : List Value) : Prop where
  lt : i < l.length
instance ltLen_zero (v : Value) (l : List Value) : LtLen 0 (v :: l) := ⟨Nat.succ_pos _⟩
instance ltLen_succ (i : Nat) (v : Value) (l : List Value) [h : LtLen i l] : LtLen (i + 1) (v :: l) := ⟨Nat.succ_lt_succ h.lt⟩
/-- A cell that is there (met by instances). -/
class HasCell (w : World) (b i : Nat) : Prop where
  is : ∃ v, w.cell? ⟨b, i, none⟩ = some v
instance hasCell_new (w : World) (l : List Value) (t : TypeId) (n i : Nat) [h : SizeAt w n] [hi : LtLen i l] : HasCell (w.alloc (.cells l.toArray t)) n i := by
  obtain rfl := h.eq
  exact ⟨l[i]'hi.lt, by simp [hi.lt]⟩
instance hasCell_alloc (w : World) (o : Obj) (b i : Nat) [h : HasCell w b i] : HasCell (w.alloc o) b i := by
  obtain ⟨v, hv⟩ := h.is
  exact ⟨v, by rw [World.cell?_alloc_lt _ _ _ (World.block_lt_of_cell? w _ hv), hv]⟩
instance hasCell_setCell (w : World) (a : Addr) (x : Value) (b i : Nat) [h : HasCell w b i] : HasCell (w.setCell a x) b i := by
  obtain ⟨v, hv⟩ := h.is
  by_cases e : a = ⟨b, i, none⟩
  · subst e; exact ⟨x, World.cell?_setCell_same _ _ _ hv⟩
  · exact ⟨v, by rw [World.cell?_setCell_other _ _ _ _ e, hv]⟩
instance hasCell_drew (w : World) (b i : Nat) [h : HasCell w b i] : HasCell w.drew b i := ⟨h.is⟩
instance hasCell_later (w : World) (u : Later w) (b i : Nat) [h : HasCell w b i] : HasCell u.world b i := by
  obtain ⟨v, hv⟩ := h.is
  exact ⟨v, u.grew.cell hv⟩
@[go_sem] theorem cell_setCell_same (w : World) (x : Value) (b i : Nat) [h : HasCell w b i] : (w.setCell ⟨b, i, none⟩ x).cell? ⟨b, i, none⟩ = some x := by
  obtain ⟨v, hv⟩ := h.is
  exact World.cell?_setCell_same _ _ _ hv
/-- A block that was not there (met by instances). -/
class NewFor (a : World) (b : Nat) : Prop where
  le : a.heap.size ≤ b
instance newFor_self (a : World) : NewFor a a.heap.size := ⟨Nat.le_refl _⟩
instance newFor_succ (a : World) (b : Nat) [h : NewFor a b] : NewFor a (b + 1) := ⟨Nat.le_succ_of_le h.le⟩
instance newFor_alloc (a w : World) (o : Obj) [h : NewFor a w.heap.size] : NewFor a (w.alloc o).heap.size := ⟨by have := h.le; simp; omega⟩
instance newFor_setCell (a w : World) (p : Addr) (v : Value) [h : NewFor a w.heap.size] : NewFor a (w.setCell p v).heap.size := ⟨by have := h.le; simp [World.setCell]; omega⟩
instance newFor_drew (a w : World) [h : NewFor a w.heap.size] : NewFor a w.drew.heap.size := ⟨h.le⟩
instance newFor_later (a w : World) (u : Later w) [h : NewFor a w.heap.size] : NewFor a u.world.heap.size := ⟨Nat.le_trans h.le (Below.size u.grew)⟩
theorem Grew.store {a w : World} (h : Grew a w) (b i : Nat) (u : Value) [hb : NewFor a b] : Grew a (w.setCell ⟨b, i, none⟩ u) := h.setCell hb.le u
/-- What a call has grown, found by the world's form. -/
theorem gw {a w : World} (h : Grew a w := by repeat (first | with_reducible exact Grew.refl _ | with_reducible apply Grew.alloc | with_reducible apply Grew.later | with_reducible apply Grew.drew | with_reducible apply Grew.store | with_reducible assumption)) : Grew a w := h
/-- A box of one's own: its cells, which may be written. -/
def BoxAt (w : World) (b : Nat) (cs : List Value) : Prop := ∀ i v, cs[i]? = some v → w.cell? ⟨b, i, none⟩ = some v ∧ w.frozen? ⟨b, i, none⟩ = false
theorem BoxAt.nil (w : World) (b : Nat) : BoxAt w b [] := fun i v h => by simp at h
theorem BoxAt.snoc {w : World} {b : Nat} {cs : List Value} {v : Value} (h : BoxAt w b cs) (h1 : w.cell? ⟨b, cs.length, none⟩ = some v) (h2 : w.frozen? ⟨b, cs.length, none⟩ = false) : BoxAt w b (cs ++ [v]) := by
  intro i u hu
  rcases Nat.lt_trichotomy i cs.length with hl | hl | hl
  · rw [List.getElem?_append_left hl] at hu
    exact h i u hu
  · subst hl
    simp at hu
    subst hu
    exact ⟨h1, h2⟩
  · rw [List.getElem?_eq_none (by simp; omega)] at hu
    cases hu
theorem call_later {P : Program} {f : FuncId} {args : Array Value} {w : World} {v : Value} {R : Ending → World → Prop}
    (h : Calls P f args w fun e w' => e = .returned v ∧ Grew w w') (k : ∀ u : Later w, R (.returned v) u.world) : Calls P f args w R :=
  h.mono fun _ w' ⟨he, hg⟩ => by subst he; exact k ⟨w', hg⟩
theorem call_quiet {P : Program} {f : FuncId} {args : Array Value} {w : World} {u : Later w} {v : Value}
    (h : Calls P f args u.world fun e w' => e = .returned v ∧ Grew u.world w') : Calls P f args u.world fun e w' => e = .returned v ∧ ∃ u' : Later w, w' = u'.world :=
  h.mono fun _ w' ⟨he, hg⟩ => ⟨he, ⟨w', u.grew.trans hg⟩, rfl⟩
theorem wp_region_later {P : Program} {id : Nat} {Q : Exit → Act → World → Prop} {a : Act} {w : World} {l : List Oper} (hm : P.follows .mixedOrders = true) (hB : Region.lexB .any l.toArray = true)
    (h : wpQuiet P l.toArray (fun w' => ∃ u : Later w, w' = u.world) (fun a' => ∀ w', (∃ u : Later w, w' = u.world) → Q .normal a' w') l a) : (Code.region id l.toArray true).wp P Q a w :=
  wp_region_quiet (C := fun w' => ∃ u : Later w, w' = u.world) hm hB ⟨⟨_, (Grew.refl w).drew⟩, rfl⟩ (by simpa using h)

theorem bool_or (b : Bool) : b = false ∨ b = true := by cases b <;> simp
theorem bool_or' (b : Bool) : b = true ∨ b = false := by cases b <;> simp
theorem prop_or (p : Prop) : ¬ p ∨ p := (Classical.em p).symm
theorem prop_or' (p : Prop) : p ∨ ¬ p := Classical.em p
theorem is_bool {P : Program} {f : FuncId} {args : Array Value} {w : World} {b b' : Bool} (hb : b = b')
    (h : Calls P f args w fun e w' => e = .returned (.bool b) ∧ Grew w w') : Calls P f args w fun e w' => e = .returned (.bool b') ∧ Grew w w' := hb ▸ h
theorem is_int {P : Program} {f : FuncId} {args : Array Value} {w : World} {k : IntKind} {b b' : Int} (hb : b = b')
    (h : Calls P f args w fun e w' => e = .returned (.int k b) ∧ Grew w w') : Calls P f args w fun e w' => e = .returned (.int k b') ∧ Grew w w' := hb ▸ h
theorem ret_int {k : IntKind} {a b : Int} (h : a = b) : Ending.returned (.int k a) = .returned (.int k b) := by rw [h]
theorem ret_bool {a b : Bool} (h : a = b) : Ending.returned (.bool a) = .returned (.bool b) := by rw [h]
theorem wrap_id (x : Int) (h1 : -9223372036854775808 ≤ x) (h2 : x ≤ 9223372036854775807) : wrap64 x = x := IntWalk.wrap64_in x ⟨h1, h2⟩
theorem tmod_bd (n b : Int) (hb : 1 ≤ b) : -b < n.tmod b ∧ n.tmod b < b := by
  have := Int.tmod_lt_of_pos n (show 0 < b by omega)
  have := Int.lt_tmod_of_pos n (show 0 < b by omega)
  omega
theorem tmod_emod (n b : Int) : n.tmod b % b = n % b := by
  have h1 := Int.mul_tdiv_add_tmod n b
  have h2 : n.tmod b = n + b * (- n.tdiv b) := by rw [Int.mul_neg]; omega
  rw [h2, Int.add_mul_emod_self_left]
end Go.Proofs.Ytffbipcdlnfihaa
namespace Go.Proofs.Ytffbipcdlnfihaa
open Go.RowKit

/-- v is a slice of n elements whose cells are xs (all in a row). -/
def SlAt (w : World) (v : Value) (n : Nat) (xs : List Value) : Prop :=
  ∃ (ao : Option Addr) (cap : Nat), v = .slice ao n cap ∧ n ≤ maxLen ∧ ∀ i x, xs[i]? = some x → ∃ b off, ao = some ⟨b, off, none⟩ ∧ w.cell? ⟨b, off + i, none⟩ = some x

theorem SlAt.grew {w w' : World} {v : Value} {n : Nat} {xs : List Value} (h : SlAt w v n xs) (g : Grew w w') : SlAt w' v n xs := by
  obtain ⟨ao, cap, h1, h0, h2⟩ := h
  refine ⟨ao, cap, h1, h0, fun i x hx => ?_⟩
  obtain ⟨b, off, h3, h4⟩ := h2 i x hx
  exact ⟨b, off, h3, g.cell h4⟩
theorem SlAt.nil (w : World) : SlAt w (.slice none 0 0) 0 [] := ⟨none, 0, rfl, by unfold maxLen; omega, fun i x hx => by simp at hx⟩
theorem SlAt.of_owns {w : World} {base : Nat} {e : TypeId} {size : Nat} {v : Value} {n : Nat} {xs : List Value} (h : w.ownsRow base e size v n xs) : SlAt w v n xs := by
  obtain ⟨h1, h2⟩ := h
  rcases h2 with ⟨rfl, rfl⟩ | ⟨g, cap, cur, rfl, hg, hh, hn, hcap, hcur, htake⟩
  · have : xs = [] := List.eq_nil_of_length_eq_zero (by simpa using h1)
    subst this
    exact SlAt.nil w
  · refine ⟨_, _, rfl, Nat.le_trans hn hcap, fun i x hx => ⟨g, 0, rfl, ?_⟩⟩
    have hl : i < xs.length := (List.getElem?_eq_some_iff.1 hx).1
    have hi : i < n * size := by omega
    rw [Nat.zero_add]
    have := World.ownsRow.cellAt (w := w) (base := base) (e := e) (size := size) (g := g) (cap := cap) ⟨h1, .inr ⟨g, cap, cur, rfl, hg, hh, hn, hcap, hcur, htake⟩⟩ i hi
    rw [this, hx]
/-- What is owned stays owned where nothing has turned. -/
theorem owns_grew {w w' : World} {base : Nat} {e : TypeId} {size : Nat} {v : Value} {n : Nat} {xs : List Value} (h : w.ownsRow base e size v n xs) (g : Grew w w') : w'.ownsRow base e size v n xs := by
  obtain ⟨h1, h2⟩ := h
  refine ⟨h1, ?_⟩
  rcases h2 with h2 | ⟨b, cap, cur, hv, hg, hh, r⟩
  · exact .inl h2
  · refine .inr ⟨b, cap, cur, hv, hg, ?_, r⟩
    rw [Below.block g b (Array.getElem?_eq_some_iff.1 hh).1, hh]
/-- A new block that holds what is appended. -/
theorem cells_new (w : World) (l : List Value) (t : TypeId) : ∀ j u, l[j]? = some u → (w.alloc (.cells l.toArray t)).cell? ((⟨w.heap.size, 0, none⟩ : Addr).add j) = some u := by
  intro j u hj
  rw [Addr.add_lit, Nat.zero_add]
  simp [hj]
/-- Of an owned row the block lies from the base on. -/
theorem owns_base {w : World} {base : Nat} {e : TypeId} {size : Nat} {v : Value} {n : Nat} {xs : List Value} (h : w.ownsRow base e size v n xs) : ∀ k, v.ownBlock = some k → base ≤ k := by
  intro k hk
  rcases h.2 with ⟨rfl, -⟩ | ⟨g, cap, cur, rfl, hg, -⟩
  · cases hk
  · cases hk; exact hg
theorem owns_form {w : World} {base : Nat} {e : TypeId} {size : Nat} {v : Value} {n : Nat} {xs : List Value} (h : w.ownsRow base e size v n xs) : ∃ ao cap, v = .slice ao n cap := by
  rcases h.2 with ⟨rfl, rfl⟩ | ⟨g, cap, cur, rfl, -⟩
  · exact ⟨none, 0, rfl⟩
  · exact ⟨_, _, rfl⟩
theorem Grew.append {a w w' : World} {base : Nat} {e : TypeId} {size : Nat} {v : Value} {n : Nat} {xs : List Value} (h : Grew a w) (ho : w.ownsRow base e size v n xs) (hb : a.heap.size ≤ base) (hg : w.grownBy w' v.ownBlock) : Grew a w' :=
  h.grown hg fun k hk => Nat.le_trans hb (owns_base ho k hk)
/-- The cells of a row of elements of c cells each. -/
theorem flat_get {α : Type} (f : α → List Value) (c : Nat) (hc : ∀ a, (f a).length = c) (l : List α) (k j : Nat) (hk : k < l.length) (hj : j < c) : (l.flatMap f)[k * c + j]? = (f l[k])[j]? := by
  induction l generalizing k with
  | nil => simp at hk
  | cons s l ih =>
    rw [List.flatMap_cons]
    cases k with
    | zero => rw [List.getElem?_append_left (by rw [hc]; omega)]; simp
    | succ k =>
      rw [List.getElem?_append_right (by rw [hc, Nat.add_mul]; omega), hc, show (k + 1) * c + j - c = k * c + j by rw [Nat.add_mul]; omega]
      exact ih k (by simpa using hk)
theorem flat_len {α : Type} (f : α → List Value) (c : Nat) (hc : ∀ a, (f a).length = c) (l : List α) : (l.flatMap f).length = l.length * c := by
  induction l with
  | nil => simp
  | cons s l ih => rw [List.flatMap_cons, List.length_append, hc, ih, List.length_cons, Nat.add_mul]; omega
/-- A slice's elements are read one by one: the cells of element k. -/
theorem SlAt.elem {α : Type} {f : α → List Value} {c : Nat} (hc : ∀ a, (f a).length = c) (hc0 : 0 < c) {l : List α} {w : World} {ao : Option Addr} (h : ∀ i x, (l.flatMap f)[i]? = some x → ∃ b off, ao = some ⟨b, off, none⟩ ∧ w.cell? ⟨b, off + i, none⟩ = some x) (k : Nat) (hk : k < l.length) :
    ∃ b off, ao = some ⟨b, off, none⟩ ∧ b < w.heap.size ∧ (∀ x, (f l[k])[0]? = some x → w.cell? ⟨b, off + k * c, none⟩ = some x) ∧ ∀ j x, (f l[k])[j]? = some x → w.cell? ⟨b, off + k * c + j, none⟩ = some x := by
  have h0 := flat_get f c hc l k 0 hk hc0
  have hl : 0 < (f l[k]).length := by rw [hc]; exact hc0
  rw [List.getElem?_eq_getElem hl] at h0
  obtain ⟨b, off, rfl, hb⟩ := h _ _ h0
  have key : ∀ j x, (f l[k])[j]? = some x → w.cell? ⟨b, off + k * c + j, none⟩ = some x := by
    intro j x hj
    have hjc : j < c := by rw [← hc l[k]]; exact (List.getElem?_eq_some_iff.1 hj).1
    have h1 := flat_get f c hc l k j hk hjc
    rw [hj] at h1
    obtain ⟨b', off', e, hb'⟩ := h _ _ h1
    cases e
    rw [Nat.add_assoc]
    exact hb'
  exact ⟨b, off, rfl, World.block_lt_of_cell? w _ hb, fun x hx => key 0 x hx, key⟩
end Go.Proofs.Ytffbipcdlnfihaa
namespace Go.Proofs.Ytffbipcdlnfihaa
open Go.RowKit

structure Sp where
  lo : Int
  hi : Int
structure Bx where
  x : Sp
  y : Sp
  z : Sp
structure Pt where
  place : Int
  value : Sp
structure Sl where
  ao : Option Addr
  n : Nat
  cap : Nat
structure Planet where
  mu : Sp
  radius : Sp
  oblate : Sp
  spin : Sp
  pull : Bx
structure State where
  t : Int
  p : Bx
  v : Bx
  m : Sp
structure Tube where
  a : Int
  z : Int
  p : Bx
  v : Bx
  m : Sp
structure Arc where
  time : Int
  step : Int
  thrust : Sp
  flow : Sp
  dir : Bx
  drag : Sl
  drop : Sp
structure Mode where
  height : Sp
  speed : Sp
  pressure : Sp
  a : Int
  z : Int
  failures : Int
  delay : Int
  arcs : Sl
  load : Int
  floor : Int
  touch : Int

def Sp.cells (a : Sp) : List Value := [.int .i64 a.lo, .int .i64 a.hi]
def Bx.cells (a : Bx) : List Value := [.int .i64 a.x.lo, .int .i64 a.x.hi, .int .i64 a.y.lo, .int .i64 a.y.hi, .int .i64 a.z.lo, .int .i64 a.z.hi]
def Pt.cells (a : Pt) : List Value := [.int .i64 a.place, .int .i64 a.value.lo, .int .i64 a.value.hi]
def Planet.cells (a : Planet) : List Value := [.int .i64 a.mu.lo, .int .i64 a.mu.hi, .int .i64 a.radius.lo, .int .i64 a.radius.hi, .int .i64 a.oblate.lo, .int .i64 a.oblate.hi, .int .i64 a.spin.lo, .int .i64 a.spin.hi, .int .i64 a.pull.x.lo, .int .i64 a.pull.x.hi, .int .i64 a.pull.y.lo, .int .i64 a.pull.y.hi, .int .i64 a.pull.z.lo, .int .i64 a.pull.z.hi]
def State.cells (a : State) : List Value := [.int .i64 a.t, .int .i64 a.p.x.lo, .int .i64 a.p.x.hi, .int .i64 a.p.y.lo, .int .i64 a.p.y.hi, .int .i64 a.p.z.lo, .int .i64 a.p.z.hi, .int .i64 a.v.x.lo, .int .i64 a.v.x.hi, .int .i64 a.v.y.lo, .int .i64 a.v.y.hi, .int .i64 a.v.z.lo, .int .i64 a.v.z.hi, .int .i64 a.m.lo, .int .i64 a.m.hi]
def Tube.cells (a : Tube) : List Value := [.int .i64 a.a, .int .i64 a.z, .int .i64 a.p.x.lo, .int .i64 a.p.x.hi, .int .i64 a.p.y.lo, .int .i64 a.p.y.hi, .int .i64 a.p.z.lo, .int .i64 a.p.z.hi, .int .i64 a.v.x.lo, .int .i64 a.v.x.hi, .int .i64 a.v.y.lo, .int .i64 a.v.y.hi, .int .i64 a.v.z.lo, .int .i64 a.v.z.hi, .int .i64 a.m.lo, .int .i64 a.m.hi]
def Arc.cells (a : Arc) : List Value := [.int .i64 a.time, .int .i64 a.step, .int .i64 a.thrust.lo, .int .i64 a.thrust.hi, .int .i64 a.flow.lo, .int .i64 a.flow.hi, .int .i64 a.dir.x.lo, .int .i64 a.dir.x.hi, .int .i64 a.dir.y.lo, .int .i64 a.dir.y.hi, .int .i64 a.dir.z.lo, .int .i64 a.dir.z.hi, .slice a.drag.ao a.drag.n a.drag.cap, .int .i64 a.drop.lo, .int .i64 a.drop.hi]
def Mode.cells (a : Mode) : List Value := [.int .i64 a.height.lo, .int .i64 a.height.hi, .int .i64 a.speed.lo, .int .i64 a.speed.hi, .int .i64 a.pressure.lo, .int .i64 a.pressure.hi, .int .i64 a.a, .int .i64 a.z, .int .i64 a.failures, .int .i64 a.delay, .slice a.arcs.ao a.arcs.n a.arcs.cap, .int .i64 a.load, .int .i64 a.floor, .int .i64 a.touch]

/-- A result code: 0, or c. -/
def codeB (b : Bool) (c : Int) : Int := if b then 0 else c
@[go_sem, simp] theorem codeB_true (c : Int) : codeB true c = 0 := rfl
@[go_sem, simp] theorem codeB_false (c : Int) : codeB false c = c := rfl

theorem ret_two {k1 k2 : IntKind} {a b c d : Int} (h1 : a = b) (h2 : c = d) : Ending.returned (.tuple #[.int k1 a, .int k2 c]) = .returned (.tuple #[.int k1 b, .int k2 d]) := by rw [h1, h2]
theorem codeB_eq0 {b : Bool} {c : Int} (h : b = true) : codeB b c = 0 := by rw [h]; rfl
theorem codeB_eqc {b : Bool} {c : Int} (h : b = false) : codeB b c = c := by rw [h]; rfl

def numB (n : Int) : Bool := decide (-9223372036854775807 ≤ n)
theorem numB_iff (n : Int) : numB n = true ↔ -9223372036854775807 ≤ n := by simp [numB]
/-- An int64. -/
def I64 (n : Int) : Prop := -9223372036854775808 ≤ n ∧ n ≤ 9223372036854775807
def Sp.I64 (a : Sp) : Prop := Ytffbipcdlnfihaa.I64 a.lo ∧ Ytffbipcdlnfihaa.I64 a.hi
def Bx.I64 (a : Bx) : Prop := a.x.I64 ∧ a.y.I64 ∧ a.z.I64
def Sp.okB (a : Sp) : Bool := numB a.lo && numB a.hi && decide (a.lo ≤ a.hi)
def Bx.okB (a : Bx) : Bool := a.x.okB && a.y.okB && a.z.okB
def Sp.inB (a b : Sp) : Bool := a.okB && b.okB && decide (b.lo ≤ a.lo) && decide (a.hi ≤ b.hi)
def Sp.hasB (a : Sp) (n : Int) : Bool := a.okB && decide (a.lo ≤ n) && decide (n ≤ a.hi)
def Sp.leastB (a : Sp) (n : Int) : Bool := a.okB && decide (n ≤ a.lo)
def Planet.okB (p : Planet) : Bool := p.pull.okB && (p.mu.okB && p.radius.okB && p.oblate.okB && p.spin.okB) && decide (0 ≤ p.mu.lo) && decide (0 ≤ p.radius.lo)
def State.okB (s : State) : Bool := numB s.t && (s.p.okB && s.v.okB) && s.m.okB && decide (1 ≤ s.m.lo)
def Tube.okB (t : Tube) : Bool := numB t.a && numB t.z && decide (t.a ≤ t.z) && (t.p.okB && t.v.okB) && t.m.okB && decide (1 ≤ t.m.lo)

def Bx.at (b : Bx) : Nat → Sp
  | 0 => b.x
  | 1 => b.y
  | _ => b.z
abbrev unit : Sp := ⟨-4294967296, 4294967296⟩
/-- The drag table of an arc lies in memory. -/
def DragAt (w : World) (a : Arc) (l : List Pt) : Prop := SlAt w (.slice a.drag.ao a.drag.n a.drag.cap) l.length (l.flatMap Pt.cells)

/-- The first of some Bools that is false. -/
theorem chain2 (a b : Bool) : a = false ∨ (a = true ∧ b = false) ∨ (a = true ∧ b = true) := by cases a <;> cases b <;> simp
theorem chain3 (a b c : Bool) : a = false ∨ (a = true ∧ b = false) ∨ (a = true ∧ b = true ∧ c = false) ∨ (a = true ∧ b = true ∧ c = true) := by cases a <;> cases b <;> cases c <;> simp
theorem chain4 (a b c d : Bool) : a = false ∨ (a = true ∧ b = false) ∨ (a = true ∧ b = true ∧ c = false) ∨ (a = true ∧ b = true ∧ c = true ∧ d = false) ∨ (a = true ∧ b = true ∧ c = true ∧ d = true) := by cases a <;> cases b <;> cases c <;> cases d <;> simp
theorem chain5 (a b c d e : Bool) : a = false ∨ (a = true ∧ b = false) ∨ (a = true ∧ b = true ∧ c = false) ∨ (a = true ∧ b = true ∧ c = true ∧ d = false) ∨ (a = true ∧ b = true ∧ c = true ∧ d = true ∧ e = false) ∨ (a = true ∧ b = true ∧ c = true ∧ d = true ∧ e = true) := by cases a <;> cases b <;> cases c <;> cases d <;> cases e <;> simp

theorem all_take_succ {α : Type} (f : α → Bool) (l : List α) (k : Nat) (h : k < l.length) (h1 : (l.take k).all f = true) (h2 : f l[k] = true) : (l.take (k + 1)).all f = true := by
  rw [List.take_succ_eq_append_getElem h, List.all_append, h1]
  simp [h2]
theorem all_false {α : Type} (f : α → Bool) (l : List α) (k : Nat) (h : k < l.length) (h2 : f l[k] = false) : l.all f = false := by
  rw [List.all_eq_false]
  exact ⟨l[k], List.getElem_mem h, by simp [h2]⟩
theorem all_true {α : Type} (f : α → Bool) (l : List α) (k : Nat) (h : l.length ≤ k) (h1 : (l.take k).all f = true) : l.all f = true := by
  rwa [List.take_of_length_le h] at h1

/-- A slice over a block that has just been made. -/
theorem SlAt.new (w : World) (l : List Value) (t : TypeId) (n cap : Nat) (hn : n ≤ maxLen) : SlAt (w.alloc (.cells l.toArray t)) (.slice (some ⟨w.heap.size, 0, none⟩) n cap) n l :=
  ⟨_, _, rfl, hn, fun i x hx => ⟨w.heap.size, 0, rfl, by rw [Nat.zero_add]; simpa using hx⟩⟩
theorem SlAt.fresh {w : World} {m : Nat} [h : SizeAt w m] (l : List Value) (t : TypeId) (n cap : Nat) (hn : n ≤ maxLen) : SlAt (w.alloc (.cells l.toArray t)) (.slice (some ⟨m, 0, none⟩) n cap) n l := by
  obtain rfl := h.eq
  exact SlAt.new w l t n cap hn
theorem SlAt.len_le {w : World} {v : Value} {n : Nat} {xs : List Value} (h : SlAt w v n xs) : n ≤ maxLen := by
  obtain ⟨_, _, _, h, _⟩ := h
  exact h
end Go.Proofs.Ytffbipcdlnfihaa
namespace Go.Proofs.Ytffbipcdlnfihaa
open Go.RowKit
theorem boxAt_one {w : World} {b : Nat} {x : Value} (h0 : w.cell? ⟨b, 0, none⟩ = some x) (f0 : w.frozen? ⟨b, 0, none⟩ = false) : BoxAt w b [x] := by
  intro i v hv
  match i, hv with
  | 0, hv => simp at hv; subst hv; exact ⟨h0, f0⟩
theorem boxAt_two {w : World} {b : Nat} {x y : Value} (h0 : w.cell? ⟨b, 0, none⟩ = some x) (f0 : w.frozen? ⟨b, 0, none⟩ = false) (h1 : w.cell? ⟨b, 1, none⟩ = some y) (f1 : w.frozen? ⟨b, 1, none⟩ = false) : BoxAt w b [x, y] := by
  intro i v hv
  match i, hv with
  | 0, hv => simp at hv; subst hv; exact ⟨h0, f0⟩
  | 1, hv => simp at hv; subst hv; exact ⟨h1, f1⟩
theorem bxt {w : World} {b : Nat} {x y : Value} (h0 : w.cell? ⟨b, 0, none⟩ = some x := by go_simp) (f0 : w.frozen? ⟨b, 0, none⟩ = false := by go_simp) (h1 : w.cell? ⟨b, 1, none⟩ = some y := by go_simp) (f1 : w.frozen? ⟨b, 1, none⟩ = false := by go_simp) : BoxAt w b [x, y] := boxAt_two h0 f0 h1 f1
theorem boxAt_three {w : World} {b : Nat} {x y z : Value} (h0 : w.cell? ⟨b, 0, none⟩ = some x) (f0 : w.frozen? ⟨b, 0, none⟩ = false) (h1 : w.cell? ⟨b, 1, none⟩ = some y) (f1 : w.frozen? ⟨b, 1, none⟩ = false)
    (h2 : w.cell? ⟨b, 2, none⟩ = some z) (f2 : w.frozen? ⟨b, 2, none⟩ = false) : BoxAt w b [x, y, z] := by
  intro i v hv
  match i, hv with
  | 0, hv => simp at hv; subst hv; exact ⟨h0, f0⟩
  | 1, hv => simp at hv; subst hv; exact ⟨h1, f1⟩
  | 2, hv => simp at hv; subst hv; exact ⟨h2, f2⟩
/-- A block begins with these cells (met by instances). -/
class RowAt (w : World) (b : Nat) (l : List Value) : Prop where
  is : ∀ i x, l[i]? = some x → w.cell? ⟨b, i, none⟩ = some x
instance rowAt_new (w : World) (l : List Value) (t : TypeId) (n : Nat) [h : SizeAt w n] : RowAt (w.alloc (.cells l.toArray t)) n l := by
  obtain rfl := h.eq
  exact ⟨fun i x hx => by simpa using hx⟩
instance rowAt_alloc (w : World) (o : Obj) (b : Nat) (l : List Value) [h : RowAt w b l] : RowAt (w.alloc o) b l :=
  ⟨fun i x hx => by rw [World.cell?_alloc_lt _ _ _ (World.block_lt_of_cell? w _ (h.is i x hx)), h.is i x hx]⟩
instance rowAt_drew (w : World) (b : Nat) (l : List Value) [h : RowAt w b l] : RowAt w.drew b l := ⟨h.is⟩
instance rowAt_later (w : World) (u : Later w) (b : Nat) (l : List Value) [h : RowAt w b l] : RowAt u.world b l := ⟨fun i x hx => u.grew.cell (h.is i x hx)⟩
instance rowAt_setCell (w : World) (c j b : Nat) (v : Value) (l : List Value) [h : RowAt w b l] [k : Apart b c] : RowAt (w.setCell ⟨c, j, none⟩ v) b l :=
  ⟨fun i x hx => by rw [cell_setCell_apart, h.is i x hx]⟩
theorem SlAt.row {w : World} {b : Nat} {l : List Value} [h : RowAt w b l] (n cap : Nat) (hn : n ≤ maxLen) : SlAt w (.slice (some ⟨b, 0, none⟩) n cap) n l :=
  ⟨_, _, rfl, hn, fun i x hx => ⟨b, 0, rfl, by rw [Nat.zero_add]; exact h.is i x hx⟩⟩
theorem len_le (n : Nat) (h : n ≤ 4096) : n ≤ maxLen := by unfold maxLen; omega
end Go.Proofs.Ytffbipcdlnfihaa
