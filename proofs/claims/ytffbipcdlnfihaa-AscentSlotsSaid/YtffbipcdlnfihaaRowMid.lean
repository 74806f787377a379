/-
  A variable of one's own known whole: plain words, met by instances.
  Whole structs that are read out of the middle of a block, built, or stored: plain words, met by instances.
-/
import Derived.Test.YtffbipcdlnfihaaChecks
import Derived.Test.YtffbipcdlnfihaaWhole
import Derived.Laws.Rows
import Derived.Deep.MidRow
import Derived.Great.Walk
namespace Go.Proofs.Ytffbipcdlnfihaa
open Go.RowKit
/-- A block is a variable of a type and holds these cells (met by instances). -/
class RowIs (w : World) (b : Nat) (t : outParam TypeId) (l : outParam (List Value)) : Prop where
  is : w.heap[b]? = some (.cells l.toArray t (0, 0))
instance rowIs_new (w : World) (l : List Value) (t : TypeId) (m : Nat) [h : SizeAt w m] : RowIs (w.alloc (.cells l.toArray t)) m t l := by
  obtain rfl := h.eq
  exact ⟨heap_alloc_last w _⟩
instance rowIs_alloc (w : World) (o : Obj) (b : Nat) (t : TypeId) (l : List Value) [h : RowIs w b t l] : RowIs (w.alloc o) b t l :=
  ⟨(Below.heap_alloc _ _ _ (Array.getElem?_eq_some_iff.1 h.is).1).trans h.is⟩
instance rowIs_drew (w : World) (b : Nat) (t : TypeId) (l : List Value) [h : RowIs w b t l] : RowIs w.drew b t l := ⟨h.is⟩
instance rowIs_later (w : World) (u : Later w) (b : Nat) (t : TypeId) (l : List Value) [h : RowIs w b t l] : RowIs u.world b t l :=
  ⟨(u.grew.block b (Array.getElem?_eq_some_iff.1 h.is).1).trans h.is⟩
instance (priority := low) rowIs_setCell_far (w : World) (c j : Nat) (v : Value) (b : Nat) (t : TypeId) (l : List Value) [h : RowIs w b t l] [k : Apart b c] : RowIs (w.setCell ⟨c, j, none⟩ v) b t l :=
  ⟨(Below.heap_setCell _ _ _ _ k.ne).trans h.is⟩
instance rowIs_setCell (w : World) (j : Nat) (v : Value) (b : Nat) (t : TypeId) (l : List Value) [h : RowIs w b t l] : RowIs (w.setCell ⟨b, j, none⟩ v) b t (l.set j v) :=
  ⟨by unfold World.setCell; simp [Array.getElem?_modify, h.is]⟩
instance rowIs_setRow_far (w : World) (c : Nat) (l' : List Value) (b : Nat) (t : TypeId) (l : List Value) [h : RowIs w b t l] [k : Apart b c] : RowIs (w.setRow c l'.toArray) b t l :=
  ⟨(setRow_other w c b _ k.ne).trans h.is⟩
instance rowIs_setRow_new (w : World) (b : Nat) (t : TypeId) (n : Nat) (l : List Value) [h : RowOf w b t n] : RowIs (w.setRow b l.toArray) b t l := by
  obtain ⟨cur, h1, -⟩ := h.is
  exact ⟨setRow_heap w b cur _ t (0, 0) h1⟩
theorem RowIs.grew {a w : World} {b : Nat} {t : TypeId} {l : List Value} (h : RowIs a b t l) (g : Grew a w) : RowIs w b t l :=
  ⟨(g.block b (Array.getElem?_eq_some_iff.1 h.is).1).trans h.is⟩
theorem RowIs.lt {w : World} {b : Nat} {t : TypeId} {l : List Value} (h : RowIs w b t l) : b < w.heap.size := (Array.getElem?_eq_some_iff.1 h.is).1
theorem RowIs.blockIn {w : World} {b : Nat} {t : TypeId} {l : List Value} (h : RowIs w b t l) : BlockIn w b := ⟨h.lt⟩
@[go_sem] theorem cell_rowIs (w : World) (b i : Nat) (t : TypeId) (l : List Value) [h : RowIs w b t l] : w.cell? ⟨b, i, none⟩ = l[i]? := by
  rw [cell_of_row w b i _ _ _ h.is]
  simp
@[go_sem] theorem frozen_rowIs (w : World) (b i : Nat) (t : TypeId) (l : List Value) [h : RowIs w b t l] : w.frozen? ⟨b, i, none⟩ = false := frozen_of_row w b i _ _ h.is
/-- A type of structs or arrays, of n cells (met by instances). -/
class StructTy (t : TypeId) (n : outParam Nat) : Prop where
  und : ∃ d, Try.prog.underlying t = some d ∧ (match d with | .struct _ | .array _ _ => true | _ => false) = true
  sz : (Try.prog.info? t).map (·.size) = some n
instance : StructTy 40 2 := ⟨⟨_, Try.underlying40, rfl⟩, by kernel_rfl⟩
instance : StructTy 42 6 := ⟨⟨_, Try.underlying42, rfl⟩, by kernel_rfl⟩
theorem loadVar_is {w : World} {b : Nat} {ty t : TypeId} {n : Nat} {l : List Value} (hs : StructTy ty n) (hr : RowIs w b t l) (hl : l.length = n) : (loadVar ty ⟨b, 0, none⟩).run Try.prog w = .ok (.agg l.toArray) w := by
  obtain ⟨⟨d, hd1, hd2⟩, hz⟩ := hs
  cases d <;> first | exact run_loadVar_row w b t ty _ _ _ hr.is hd1 rfl (by rw [hz, ← hl]; simp) | cases hd2
section
variable {ops : Array Oper} {rest : List Oper} {o : Oper} {a : Act} {w : World} {Q : Exit → Act → World → Prop}
theorem wpList_load_is (ty : TypeId) (x : Operand) (b n : Nat) (t : TypeId) (l : List Value) (hg : o.guard = none) (ho : o.op = .load ty x) (hx : a.eval x = .pointer (some ⟨b, 0, none⟩)) (hs : StructTy ty n) (hr : RowIs w b t l) (hl : l.length = n)
    (k : wpList Try.prog ops Q rest (a.put o.dst (.agg l.toArray)) w) : wpList Try.prog ops Q (o :: rest) a w := by
  obtain ⟨⟨d, hd1, hd2⟩, hz⟩ := hs
  cases d <;> first | exact wpList_load_row hg ty x ho b hx t _ _ _ hr.is hd1 rfl (by rw [hz, ← hl]; simp) k | cases hd2
theorem wpList_store_fresh (ty : TypeId) (x y : Operand) (m n : Nat) (l l' : List Value) (hg : o.guard = none) (hd : o.dst = none) (ho : o.op = .store ty x y) (hx : a.eval x = .pointer (some ⟨m, 0, none⟩)) (hy : a.eval y = .agg l.toArray)
    (hs : StructTy ty n) (hz : SizeAt w m) (hl : OneCells l n) (hl' : OneCells l' n) (k : wpList Try.prog ops Q rest a (w.alloc (.cells l.toArray ty))) : wpList Try.prog ops Q (o :: rest) a (w.alloc (.cells l'.toArray ty)) := by
  obtain rfl := hz.eq
  refine wpList_store_row hg _ x y ho w.heap.size l.toArray hx hy ty l'.toArray (heap_alloc_last w _) (by rw [hs.sz]; simp [hl.len]) (by simp [hl.len, hl'.len]) (by rw [Array.all_eq_true_iff_forall_mem]; intro v hv; exact hl.one v (by simpa using hv)) ?_
  rw [hd, World.setRow_alloc_new]
  exact k
theorem wpList_store_is (ty : TypeId) (x y : Operand) (b n : Nat) (l l' : List Value) (hg : o.guard = none) (hd : o.dst = none) (ho : o.op = .store ty x y) (hx : a.eval x = .pointer (some ⟨b, 0, none⟩)) (hy : a.eval y = .agg l.toArray)
    (hs : StructTy ty n) (hr : RowIs w b ty l') (hl : OneCells l n) (hl' : OneCells l' n) (k : wpList Try.prog ops Q rest a (w.setRow b l.toArray)) : wpList Try.prog ops Q (o :: rest) a w := by
  refine wpList_store_row hg _ x y ho b l.toArray hx hy ty l'.toArray hr.is (by rw [hs.sz]; simp [hl.len]) (by simp [hl.len, hl'.len]) (by rw [Array.all_eq_true_iff_forall_mem]; intro v hv; exact hl.one v (by simpa using hv)) ?_
  rw [hd]
  exact k
end
end Go.Proofs.Ytffbipcdlnfihaa
namespace Go.Proofs.Ytffbipcdlnfihaa
open Go.RowKit
set_option maxRecDepth 100000
/-- A part of a list (met by instances). -/
class Sub (l : List Value) (o n : Nat) (cs : outParam (List Value)) : Prop where
  is : (l.drop o).take n = cs
instance sub_nil (l : List Value) : Sub l 0 0 [] := ⟨by simp⟩
instance sub_take (v : Value) (l : List Value) (n : Nat) (cs : List Value) [h : Sub l 0 n cs] : Sub (v :: l) 0 (n + 1) (v :: cs) := ⟨by have := h.is; simp at this; simp [this]⟩
instance (priority := high) sub_drop (v : Value) (l : List Value) (o n : Nat) (cs : List Value) [h : Sub l o n cs] : Sub (v :: l) (o + 1) n cs := ⟨by simpa using h.is⟩
/-- How long a list is (met by instances). -/
class CLen (l : List Value) (n : outParam Nat) : Prop where
  len : l.length = n
instance cLen_nil : CLen [] 0 := ⟨rfl⟩
instance cLen_cons (v : Value) (l : List Value) (n : Nat) [h : CLen l n] : CLen (v :: l) (n + 1) := ⟨by simp [h.len]⟩
/-- The n cells that lie in a block from a place on (met by instances). -/
class RangeIs (w : World) (b o n : Nat) (cs : outParam (List Value)) : Prop where
  is : w.rangeAt b o cs
  len : cs.length = n
instance rangeIs_row (w : World) (b o n : Nat) (t : TypeId) (l cs : List Value) [h : RowIs w b t l] [k : Sub l o n cs] [hn : CLen cs n] : RangeIs w b o n cs where
  is := fun j v hv => by
    rw [cell_rowIs, ← hv, ← k.is, List.getElem?_take]
    split
    · rw [List.getElem?_drop]
    · rename_i hj
      rw [← k.is] at hv
      rw [List.getElem?_take, if_neg hj] at hv
      cases hv
  len := hn.len
instance rangeIs_alloc (w : World) (ob : Obj) (b o n : Nat) (cs : List Value) [h : RangeIs w b o n cs] : RangeIs (w.alloc ob) b o n cs where
  is := fun j v hv => by rw [World.cell?_alloc_lt _ _ _ (World.block_lt_of_cell? w _ (h.is j v hv)), h.is j v hv]
  len := h.len
instance rangeIs_drew (w : World) (b o n : Nat) (cs : List Value) [h : RangeIs w b o n cs] : RangeIs w.drew b o n cs := ⟨h.is, h.len⟩
instance rangeIs_later (w : World) (u : Later w) (b o n : Nat) (cs : List Value) [h : RangeIs w b o n cs] : RangeIs u.world b o n cs := ⟨fun j v hv => u.grew.cell (h.is j v hv), h.len⟩
instance rangeIs_setCell (w : World) (c i : Nat) (x : Value) (b o n : Nat) (cs : List Value) [h : RangeIs w b o n cs] [k : Apart b c] : RangeIs (w.setCell ⟨c, i, none⟩ x) b o n cs where
  is := fun j v hv => by rw [cell_setCell_apart, h.is j v hv]
  len := h.len
instance rangeIs_setRow (w : World) (c : Nat) (l : Array Value) (b o n : Nat) (cs : List Value) [h : RangeIs w b o n cs] [k : Apart b c] : RangeIs (w.setRow c l) b o n cs where
  is := fun j v hv => by rw [cell_setRow_apart, h.is j v hv]
  len := h.len
theorem RangeIs.grew {a w : World} {b o n : Nat} {cs : List Value} (h : RangeIs a b o n cs) (g : Grew a w) : RangeIs w b o n cs := ⟨fun j v hv => g.cell (h.is j v hv), h.len⟩
instance : StructTy 46 15 := ⟨⟨_, Try.underlying46, rfl⟩, by kernel_rfl⟩
/-- A struct that lies somewhere is read at once. -/
theorem loadAt_rng (w : World) (b o n : Nat) (ty : TypeId) (cs : List Value) [hs : StructTy ty n] [hr : RangeIs w b o n cs] : (Instr.loadAt ty (.pointer (some ⟨b, o, none⟩))).run Try.prog w = .ok (.agg cs.toArray) w := by
  obtain ⟨⟨d, hd1, hd2⟩, hz⟩ := hs
  exact run_loadAt_mid w b o ty cs d hr.is hd1 (by cases d <;> first | rfl | cases hd2) (by rw [hz, hr.len])
/-- What a struct of some fields is built of (met by instances). -/
class Built (t : TypeId) (l : List (Nat × Value)) (cs : outParam (List Value)) : Prop where
  is : Try.prog.built t l = some cs.toArray
theorem build_cells (w : World) (t : TypeId) (parts : Array (Nat × Value)) (cs : List Value) [h : Built t parts.toList cs] : (Instr.build t parts).run Try.prog w = .ok (.agg cs.toArray) w := run_build w t parts _ h.is
section
variable {ops : Array Oper} {rest : List Oper} {o : Oper} {a : Act} {w : World} {Q : Exit → Act → World → Prop}
theorem wpList_load_rng (ty : TypeId) (x : Operand) (b p n : Nat) (cs : List Value) (hg : o.guard = none) (ho : o.op = .load ty x) (hx : a.eval x = .pointer (some ⟨b, p, none⟩)) (hs : StructTy ty n) (hr : RangeIs w b p n cs)
    (k : wpList Try.prog ops Q rest (a.put o.dst (.agg cs.toArray)) w) : wpList Try.prog ops Q (o :: rest) a w := by
  obtain ⟨⟨d, hd1, hd2⟩, hz⟩ := hs
  exact wpList_load_mid hg ty x ho b p hx cs d hr.is hd1 (by cases d <;> first | rfl | cases hd2) (by rw [hz, hr.len]) k
theorem wpList_built (t : TypeId) (parts : Array (Nat × Operand)) (l : List (Nat × Value)) (cs : List Value) (hg : o.guard = none) (ho : o.op = .build t parts) (hl : (parts.map fun p => (p.1, a.eval p.2)).toList = l) (hb : Built t l cs)
    (k : wpList Try.prog ops Q rest (a.put o.dst (.agg cs.toArray)) w) : wpList Try.prog ops Q (o :: rest) a w := by
  have e : Try.prog.built t (parts.map fun p => (p.1, a.eval p.2)).toList = some cs.toArray := by rw [hl]; exact hb.is
  exact wpList_build hg _ _ ho (by rw [e]; rfl) (by rw [e]; exact k)
end
theorem res_one {fn : Func} {tmps : Array Value} {W : World} {p : Tmp} {ty t : TypeId} {b n : Nat} {l : List Value} (h : fn.results = #[.cell p ty]) (hp : tmps.getD p undef = .pointer (some ⟨b, 0, none⟩)) (hs : StructTy ty n) (hr : RowIs W b t l) (hl : CLen l n) :
    (results fn tmps).run Try.prog W = .ok (.agg l.toArray) W := by
  have h3 := loadVar_is (ty := ty) hs hr hl.len
  simp only [Array.getD_eq_getD_getElem?] at hp
  simp [results, h, asAddr, hp, h3]
theorem res_two {fn : Func} {tmps : Array Value} {W : World} {p q : Tmp} {ty t : TypeId} {b n : Nat} {l : List Value} {v : Value} (h : fn.results = #[.cell p ty, .tmp q]) (hp : tmps.getD p undef = .pointer (some ⟨b, 0, none⟩)) (hq : tmps.getD q undef = v) (hs : StructTy ty n) (hr : RowIs W b t l) (hl : CLen l n) :
    (results fn tmps).run Try.prog W = .ok (.tuple #[.agg l.toArray, v]) W := by
  have h3 := loadVar_is (ty := ty) hs hr hl.len
  simp only [Array.getD_eq_getD_getElem?] at hp hq
  simp [results, h, asAddr, hp, hq, h3]
/-! The same, their side conditions met by default: short arms for a walk. -/
section
variable {ops : Array Oper} {rest : List Oper} {o : Oper} {a : Act} {Q : Exit → Act → World → Prop} {w : World}
theorem wLi {ty : TypeId} {x : Operand} {b n : Nat} {t : TypeId} {l : List Value} (k : wpList Try.prog ops Q rest (a.put o.dst (.agg l.toArray)) w) (hg : o.guard = none := by with_unfolding_all rfl) (ho : o.op = .load ty x := by with_unfolding_all rfl) (hx : a.eval x = .pointer (some ⟨b, 0, none⟩) := by with_unfolding_all rfl) (hs : StructTy ty n := by infer_instance) (hr : RowIs w b t l := by infer_instance) (hl : l.length = n := by with_unfolding_all rfl) : wpList Try.prog ops Q (o :: rest) a w := wpList_load_is _ _ _ _ _ _ hg ho hx hs hr hl k
theorem wLr {ty : TypeId} {x : Operand} {b p n : Nat} {cs : List Value} (k : wpList Try.prog ops Q rest (a.put o.dst (.agg cs.toArray)) w) (hg : o.guard = none := by with_unfolding_all rfl) (ho : o.op = .load ty x := by with_unfolding_all rfl) (hx : a.eval x = .pointer (some ⟨b, p, none⟩) := by with_unfolding_all rfl) (hs : StructTy ty n := by infer_instance) (hr : RangeIs w b p n cs := by infer_instance) : wpList Try.prog ops Q (o :: rest) a w := wpList_load_rng _ _ _ _ _ _ hg ho hx hs hr k
theorem wSf {ty : TypeId} {x y : Operand} {m n : Nat} {l l' : List Value} (k : wpList Try.prog ops Q rest a (w.alloc (.cells l.toArray ty))) (hg : o.guard = none := by with_unfolding_all rfl) (hd : o.dst = none := by with_unfolding_all rfl) (ho : o.op = .store ty x y := by with_unfolding_all rfl) (hx : a.eval x = .pointer (some ⟨m, 0, none⟩) := by with_unfolding_all rfl) (hy : a.eval y = .agg l.toArray := by with_unfolding_all rfl) (hs : StructTy ty n := by infer_instance) (hz : SizeAt w m := by infer_instance) (hl : OneCells l n := by infer_instance) (hl' : OneCells l' n := by infer_instance) : wpList Try.prog ops Q (o :: rest) a (w.alloc (.cells l'.toArray ty)) := wpList_store_fresh _ _ _ _ _ _ _ hg hd ho hx hy hs hz hl hl' k
theorem wSi {ty : TypeId} {x y : Operand} {b n : Nat} {l l' : List Value} (k : wpList Try.prog ops Q rest a (w.setRow b l.toArray)) (hg : o.guard = none := by with_unfolding_all rfl) (hd : o.dst = none := by with_unfolding_all rfl) (ho : o.op = .store ty x y := by with_unfolding_all rfl) (hx : a.eval x = .pointer (some ⟨b, 0, none⟩) := by with_unfolding_all rfl) (hy : a.eval y = .agg l.toArray := by with_unfolding_all rfl) (hs : StructTy ty n := by infer_instance) (hr : RowIs w b ty l' := by infer_instance) (hl : OneCells l n := by infer_instance) (hl' : OneCells l' n := by infer_instance) : wpList Try.prog ops Q (o :: rest) a w := wpList_store_is _ _ _ _ _ _ _ hg hd ho hx hy hs hr hl hl' k
end
end Go.Proofs.Ytffbipcdlnfihaa
