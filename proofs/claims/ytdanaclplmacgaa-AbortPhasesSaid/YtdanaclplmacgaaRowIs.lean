/-
  A variable of one's own known whole: plain words, met by instances.
-/
import Derived.Test.YtdanaclplmacgaaChecks
import Derived.Test.YtdanaclplmacgaaWhole
import Derived.Laws.Rows
namespace Go.Proofs.Ytdanaclplmacgaa
open Go.RowKit
/-- A block is a variable of a type and holds these cells (met by instances). -/
class RowIs (w : World) (b : Nat) (t : outParam TypeId) (l : outParam (List Value)) : Prop where
  is : w.heap[b]? = some (.cells l.toArray t (0, 0))
instance rowIs_new (w : World) (l : List Value) (t : TypeId) (m : Nat) [h : SizeAt w m] : RowIs (w.alloc (.cells l.toArray t)) m t l := by
  obtain rfl := h.eq
  exact ⟨heap_alloc_last w _⟩
instance rowIs_alloc (w : World) (o : Obj) (b : Nat) (t : TypeId) (l : List Value) [h : RowIs w b t l] : RowIs (w.alloc o) b t l :=
  ⟨(Below.heap_alloc _ _ _ (Array.getElem?_eq_some_iff.1 h.is).1).trans h.is⟩
instance rowIs_drew (w : World) (b : Nat) (t : TypeId) (l : List Value) [h : RowIs w b t l] : RowIs w.drew b t l := ⟨h.is⟩
instance rowIs_later (w : World) (u : Later w) (b : Nat) (t : TypeId) (l : List Value) [h : RowIs w b t l] : RowIs u.world b t l :=
  ⟨(u.grew.block b (Array.getElem?_eq_some_iff.1 h.is).1).trans h.is⟩
instance (priority := low) rowIs_setCell_far (w : World) (c j : Nat) (v : Value) (b : Nat) (t : TypeId) (l : List Value) [h : RowIs w b t l] [k : Apart b c] : RowIs (w.setCell ⟨c, j, none⟩ v) b t l :=
  ⟨(Below.heap_setCell _ _ _ _ k.ne).trans h.is⟩
instance rowIs_setCell (w : World) (j : Nat) (v : Value) (b : Nat) (t : TypeId) (l : List Value) [h : RowIs w b t l] : RowIs (w.setCell ⟨b, j, none⟩ v) b t (l.set j v) :=
  ⟨by unfold World.setCell; simp [Array.getElem?_modify, h.is]⟩
instance rowIs_setRow_far (w : World) (c : Nat) (l' : List Value) (b : Nat) (t : TypeId) (l : List Value) [h : RowIs w b t l] [k : Apart b c] : RowIs (w.setRow c l'.toArray) b t l :=
  ⟨(setRow_other w c b _ k.ne).trans h.is⟩
instance rowIs_setRow_new (w : World) (b : Nat) (t : TypeId) (n : Nat) (l : List Value) [h : RowOf w b t n] : RowIs (w.setRow b l.toArray) b t l := by
  obtain ⟨cur, h1, -⟩ := h.is
  exact ⟨setRow_heap w b cur _ t (0, 0) h1⟩
theorem RowIs.grew {a w : World} {b : Nat} {t : TypeId} {l : List Value} (h : RowIs a b t l) (g : Grew a w) : RowIs w b t l :=
  ⟨(g.block b (Array.getElem?_eq_some_iff.1 h.is).1).trans h.is⟩
theorem RowIs.lt {w : World} {b : Nat} {t : TypeId} {l : List Value} (h : RowIs w b t l) : b < w.heap.size := (Array.getElem?_eq_some_iff.1 h.is).1
theorem RowIs.blockIn {w : World} {b : Nat} {t : TypeId} {l : List Value} (h : RowIs w b t l) : BlockIn w b := ⟨h.lt⟩
@[go_sem] theorem cell_rowIs (w : World) (b i : Nat) (t : TypeId) (l : List Value) [h : RowIs w b t l] : w.cell? ⟨b, i, none⟩ = l[i]? := by
  rw [cell_of_row w b i _ _ _ h.is]
  simp
@[go_sem] theorem frozen_rowIs (w : World) (b i : Nat) (t : TypeId) (l : List Value) [h : RowIs w b t l] : w.frozen? ⟨b, i, none⟩ = false := frozen_of_row w b i _ _ h.is
/-- A type of structs or arrays, of n cells (met by instances). -/
class StructTy (t : TypeId) (n : outParam Nat) : Prop where
  und : ∃ d, Try.prog.underlying t = some d ∧ (match d with | .struct _ | .array _ _ => true | _ => false) = true
  sz : (Try.prog.info? t).map (·.size) = some n
instance : StructTy 54 2 := ⟨⟨_, Try.underlying54, rfl⟩, by kernel_rfl⟩
instance : StructTy 59 6 := ⟨⟨_, Try.underlying59, rfl⟩, by kernel_rfl⟩
instance : StructTy 207 20 := ⟨⟨_, Try.underlying207, rfl⟩, by kernel_rfl⟩
theorem loadVar_is {w : World} {b : Nat} {ty t : TypeId} {n : Nat} {l : List Value} (hs : StructTy ty n) (hr : RowIs w b t l) (hl : l.length = n) : (loadVar ty ⟨b, 0, none⟩).run Try.prog w = .ok (.agg l.toArray) w := by
  obtain ⟨⟨d, hd1, hd2⟩, hz⟩ := hs
  cases d <;> first | exact run_loadVar_row w b t ty _ _ _ hr.is hd1 rfl (by rw [hz, ← hl]; simp) | cases hd2
section
variable {ops : Array Oper} {rest : List Oper} {o : Oper} {a : Act} {w : World} {Q : Exit → Act → World → Prop}
theorem wpList_load_is (ty : TypeId) (x : Operand) (b n : Nat) (t : TypeId) (l : List Value) (hg : o.guard = none) (ho : o.op = .load ty x) (hx : a.eval x = .pointer (some ⟨b, 0, none⟩)) (hs : StructTy ty n) (hr : RowIs w b t l) (hl : l.length = n)
    (k : wpList Try.prog ops Q rest (a.put o.dst (.agg l.toArray)) w) : wpList Try.prog ops Q (o :: rest) a w := by
  obtain ⟨⟨d, hd1, hd2⟩, hz⟩ := hs
  cases d <;> first | exact wpList_load_row hg ty x ho b hx t _ _ _ hr.is hd1 rfl (by rw [hz, ← hl]; simp) k | cases hd2
theorem wpList_store_fresh (ty : TypeId) (x y : Operand) (m n : Nat) (l l' : List Value) (hg : o.guard = none) (hd : o.dst = none) (ho : o.op = .store ty x y) (hx : a.eval x = .pointer (some ⟨m, 0, none⟩)) (hy : a.eval y = .agg l.toArray)
    (hs : StructTy ty n) (hz : SizeAt w m) (hl : OneCells l n) (hl' : OneCells l' n) (k : wpList Try.prog ops Q rest a (w.alloc (.cells l.toArray ty))) : wpList Try.prog ops Q (o :: rest) a (w.alloc (.cells l'.toArray ty)) := by
  obtain rfl := hz.eq
  refine wpList_store_row hg _ x y ho w.heap.size l.toArray hx hy ty l'.toArray (heap_alloc_last w _) (by rw [hs.sz]; simp [hl.len]) (by simp [hl.len, hl'.len]) (by rw [Array.all_eq_true_iff_forall_mem]; intro v hv; exact hl.one v (by simpa using hv)) ?_
  rw [hd, World.setRow_alloc_new]
  exact k
theorem wpList_store_is (ty : TypeId) (x y : Operand) (b n : Nat) (l l' : List Value) (hg : o.guard = none) (hd : o.dst = none) (ho : o.op = .store ty x y) (hx : a.eval x = .pointer (some ⟨b, 0, none⟩)) (hy : a.eval y = .agg l.toArray)
    (hs : StructTy ty n) (hr : RowIs w b ty l') (hl : OneCells l n) (hl' : OneCells l' n) (k : wpList Try.prog ops Q rest a (w.setRow b l.toArray)) : wpList Try.prog ops Q (o :: rest) a w := by
  refine wpList_store_row hg _ x y ho b l.toArray hx hy ty l'.toArray hr.is (by rw [hs.sz]; simp [hl.len]) (by simp [hl.len, hl'.len]) (by rw [Array.all_eq_true_iff_forall_mem]; intro v hv; exact hl.one v (by simpa using hv)) ?_
  rw [hd]
  exact k
end
end Go.Proofs.Ytdanaclplmacgaa
