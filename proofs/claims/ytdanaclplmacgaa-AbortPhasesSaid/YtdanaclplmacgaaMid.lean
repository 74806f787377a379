/-
  Whole structs that are read out of the middle of a block, built, or stored: plain words, met by instances.
-/
import Derived.Test.YtdanaclplmacgaaRowIs
import Derived.Deep.MidRow
import Derived.Great.Walk
namespace Go.Proofs.Ytdanaclplmacgaa
open Go.RowKit
set_option maxRecDepth 100000
/-- A part of a list (met by instances). -/
class Sub (l : List Value) (o n : Nat) (cs : outParam (List Value)) : Prop where
  is : (l.drop o).take n = cs
instance sub_nil (l : List Value) : Sub l 0 0 [] := ⟨by simp⟩
instance sub_take (v : Value) (l : List Value) (n : Nat) (cs : List Value) [h : Sub l 0 n cs] : Sub (v :: l) 0 (n + 1) (v :: cs) := ⟨by have := h.is; simp at this; simp [this]⟩
instance (priority := high) sub_drop (v : Value) (l : List Value) (o n : Nat) (cs : List Value) [h : Sub l o n cs] : Sub (v :: l) (o + 1) n cs := ⟨by simpa using h.is⟩
/-- How long a list is (met by instances). -/
class CLen (l : List Value) (n : outParam Nat) : Prop where
  len : l.length = n
instance cLen_nil : CLen [] 0 := ⟨rfl⟩
instance cLen_cons (v : Value) (l : List Value) (n : Nat) [h : CLen l n] : CLen (v :: l) (n + 1) := ⟨by simp [h.len]⟩
/-- The n cells that lie in a block from a place on (met by instances). -/
class RangeIs (w : World) (b o n : Nat) (cs : outParam (List Value)) : Prop where
  is : w.rangeAt b o cs
  len : cs.length = n
instance rangeIs_row (w : World) (b o n : Nat) (t : TypeId) (l cs : List Value) [h : RowIs w b t l] [k : Sub l o n cs] [hn : CLen cs n] : RangeIs w b o n cs where
  is := fun j v hv => by
    rw [cell_rowIs, ← hv, ← k.is, List.getElem?_take]
    split
    · rw [List.getElem?_drop]
    · rename_i hj
      rw [← k.is] at hv
      rw [List.getElem?_take, if_neg hj] at hv
      cases hv
  len := hn.len
instance rangeIs_alloc (w : World) (ob : Obj) (b o n : Nat) (cs : List Value) [h : RangeIs w b o n cs] : RangeIs (w.alloc ob) b o n cs where
  is := fun j v hv => by rw [World.cell?_alloc_lt _ _ _ (World.block_lt_of_cell? w _ (h.is j v hv)), h.is j v hv]
  len := h.len
instance rangeIs_drew (w : World) (b o n : Nat) (cs : List Value) [h : RangeIs w b o n cs] : RangeIs w.drew b o n cs := ⟨h.is, h.len⟩
instance rangeIs_later (w : World) (u : Later w) (b o n : Nat) (cs : List Value) [h : RangeIs w b o n cs] : RangeIs u.world b o n cs := ⟨fun j v hv => u.grew.cell (h.is j v hv), h.len⟩
instance rangeIs_setCell (w : World) (c i : Nat) (x : Value) (b o n : Nat) (cs : List Value) [h : RangeIs w b o n cs] [k : Apart b c] : RangeIs (w.setCell ⟨c, i, none⟩ x) b o n cs where
  is := fun j v hv => by rw [cell_setCell_apart, h.is j v hv]
  len := h.len
instance rangeIs_setRow (w : World) (c : Nat) (l : Array Value) (b o n : Nat) (cs : List Value) [h : RangeIs w b o n cs] [k : Apart b c] : RangeIs (w.setRow c l) b o n cs where
  is := fun j v hv => by rw [cell_setRow_apart, h.is j v hv]
  len := h.len
theorem RangeIs.grew {a w : World} {b o n : Nat} {cs : List Value} (h : RangeIs a b o n cs) (g : Grew a w) : RangeIs w b o n cs := ⟨fun j v hv => g.cell (h.is j v hv), h.len⟩
instance : StructTy 69 15 := ⟨⟨_, Try.underlying69, rfl⟩, by kernel_rfl⟩
instance : StructTy 157 16 := ⟨⟨_, Try.underlying157, rfl⟩, by kernel_rfl⟩
/-- A struct that lies somewhere is read at once. -/
theorem loadAt_rng (w : World) (b o n : Nat) (ty : TypeId) (cs : List Value) [hs : StructTy ty n] [hr : RangeIs w b o n cs] : (Instr.loadAt ty (.pointer (some ⟨b, o, none⟩))).run Try.prog w = .ok (.agg cs.toArray) w := by
  obtain ⟨⟨d, hd1, hd2⟩, hz⟩ := hs
  exact run_loadAt_mid w b o ty cs d hr.is hd1 (by cases d <;> first | rfl | cases hd2) (by rw [hz, hr.len])
/-- What a struct of some fields is built of (met by instances). -/
class Built (t : TypeId) (l : List (Nat × Value)) (cs : outParam (List Value)) : Prop where
  is : Try.prog.built t l = some cs.toArray
theorem build_cells (w : World) (t : TypeId) (parts : Array (Nat × Value)) (cs : List Value) [h : Built t parts.toList cs] : (Instr.build t parts).run Try.prog w = .ok (.agg cs.toArray) w := run_build w t parts _ h.is
section
variable {ops : Array Oper} {rest : List Oper} {o : Oper} {a : Act} {w : World} {Q : Exit → Act → World → Prop}
theorem wpList_load_rng (ty : TypeId) (x : Operand) (b p n : Nat) (cs : List Value) (hg : o.guard = none) (ho : o.op = .load ty x) (hx : a.eval x = .pointer (some ⟨b, p, none⟩)) (hs : StructTy ty n) (hr : RangeIs w b p n cs)
    (k : wpList Try.prog ops Q rest (a.put o.dst (.agg cs.toArray)) w) : wpList Try.prog ops Q (o :: rest) a w := by
  obtain ⟨⟨d, hd1, hd2⟩, hz⟩ := hs
  exact wpList_load_mid hg ty x ho b p hx cs d hr.is hd1 (by cases d <;> first | rfl | cases hd2) (by rw [hz, hr.len]) k
theorem wpList_built (t : TypeId) (parts : Array (Nat × Operand)) (l : List (Nat × Value)) (cs : List Value) (hg : o.guard = none) (ho : o.op = .build t parts) (hl : (parts.map fun p => (p.1, a.eval p.2)).toList = l) (hb : Built t l cs)
    (k : wpList Try.prog ops Q rest (a.put o.dst (.agg cs.toArray)) w) : wpList Try.prog ops Q (o :: rest) a w := by
  have e : Try.prog.built t (parts.map fun p => (p.1, a.eval p.2)).toList = some cs.toArray := by rw [hl]; exact hb.is
  exact wpList_build hg _ _ ho (by rw [e]; rfl) (by rw [e]; exact k)
end
theorem res_one {fn : Func} {tmps : Array Value} {W : World} {p : Tmp} {ty t : TypeId} {b n : Nat} {l : List Value} (h : fn.results = #[.cell p ty]) (hp : tmps.getD p undef = .pointer (some ⟨b, 0, none⟩)) (hs : StructTy ty n) (hr : RowIs W b t l) (hl : CLen l n) :
    (results fn tmps).run Try.prog W = .ok (.agg l.toArray) W := by
  have h3 := loadVar_is (ty := ty) hs hr hl.len
  simp only [Array.getD_eq_getD_getElem?] at hp
  simp [results, h, asAddr, hp, h3]
theorem res_two {fn : Func} {tmps : Array Value} {W : World} {p q : Tmp} {ty t : TypeId} {b n : Nat} {l : List Value} {v : Value} (h : fn.results = #[.cell p ty, .tmp q]) (hp : tmps.getD p undef = .pointer (some ⟨b, 0, none⟩)) (hq : tmps.getD q undef = v) (hs : StructTy ty n) (hr : RowIs W b t l) (hl : CLen l n) :
    (results fn tmps).run Try.prog W = .ok (.tuple #[.agg l.toArray, v]) W := by
  have h3 := loadVar_is (ty := ty) hs hr hl.len
  simp only [Array.getD_eq_getD_getElem?] at hp hq
  simp [results, h, asAddr, hp, hq, h3]
end Go.Proofs.Ytdanaclplmacgaa
