/-
  Words for the walk through flight's force: blocks known whole, a model's cells.
-/
import Derived.Test.YtkeifgcncmilmaaGreatForceABCS
import Derived.Test.YtkeifgcncmilmaaGreatRowMidS
namespace Go.Proofs.YtkeifgcncmilmaaGreat
open Go.RowKit Go.Shelf
set_option maxRecDepth 100000
set_option maxHeartbeats 32000000
/-- A block begins with these cells, known whole (met by instances). -/
class RoAt (w : World) (b : Nat) (l : outParam (List Value)) : Prop where
  is : ∀ i x, l[i]? = some x → w.cell? ⟨b, i, none⟩ = some x
instance roAt_new (w : World) (l : List Value) (t : TypeId) (n : Nat) [h : SizeAt w n] : RoAt (w.alloc (.cells l.toArray t)) n l := by
  obtain rfl := h.eq
  exact ⟨fun i x hx => by simpa using hx⟩
instance roAt_alloc (w : World) (o : Obj) (b : Nat) (l : List Value) [h : RoAt w b l] : RoAt (w.alloc o) b l :=
  ⟨fun i x hx => by rw [World.cell?_alloc_lt _ _ _ (World.block_lt_of_cell? w _ (h.is i x hx)), h.is i x hx]⟩
instance roAt_drew (w : World) (b : Nat) (l : List Value) [h : RoAt w b l] : RoAt w.drew b l := ⟨h.is⟩
instance roAt_later (w : World) (u : Later w) (b : Nat) (l : List Value) [h : RoAt w b l] : RoAt u.world b l := ⟨fun i x hx => u.grew.cell (h.is i x hx)⟩
instance roAt_setCell (w : World) (c j b : Nat) (v : Value) (l : List Value) [h : RoAt w b l] [k : Apart b c] : RoAt (w.setCell ⟨c, j, none⟩ v) b l :=
  ⟨fun i x hx => by rw [cell_setCell_apart, h.is i x hx]⟩
@[go_sem] theorem cell_roAt (w : World) (b i : Nat) (l : List Value) [h : RoAt w b l] [k : LtLen i l] : w.cell? ⟨b, i, none⟩ = l[i]? := by
  have hi := k.lt
  rw [List.getElem?_eq_getElem hi]
  exact h.is i _ (List.getElem?_eq_getElem hi)
theorem RoAt.lt {w : World} {b : Nat} {v : Value} {l : List Value} (h : RoAt w b (v :: l)) : b < w.heap.size := World.block_lt_of_cell? w _ (h.is 0 v rfl)
theorem newFor_but {c : Nat} {w wx wy : World} {q : Nat} (h : But c w wx) [k : NewFor wx wy.heap.size] (n : NewFor wy q) : NewFor w q := ⟨Nat.le_trans h.size (Nat.le_trans k.le n.le)⟩
theorem roAt_six {w : World} {b : Nat} {x0 x1 x2 x3 x4 x5 : Value} (h0 : w.cell? ⟨b, 0, none⟩ = some x0) (h1 : w.cell? ⟨b, 1, none⟩ = some x1) (h2 : w.cell? ⟨b, 2, none⟩ = some x2) (h3 : w.cell? ⟨b, 3, none⟩ = some x3) (h4 : w.cell? ⟨b, 4, none⟩ = some x4) (h5 : w.cell? ⟨b, 5, none⟩ = some x5) : RoAt w b [x0, x1, x2, x3, x4, x5] := ⟨fun i v hv => by
  match i, hv with
  | 0, hv => simp at hv; subst hv; exact h0
  | 1, hv => simp at hv; subst hv; exact h1
  | 2, hv => simp at hv; subst hv; exact h2
  | 3, hv => simp at hv; subst hv; exact h3
  | 4, hv => simp at hv; subst hv; exact h4
  | 5, hv => simp at hv; subst hv; exact h5⟩
theorem rowIs_cast {w : World} {b : Nat} {t : TypeId} {l l' : List Value} (h : RowIs w b t l) (e : l = l') : RowIs w b t l' := e ▸ h
/-- The cells of a model: a planet and an arc. -/
def modelCells (pP : Planet) (x : Arc) : List Value := [.int .i64 pP.mu.lo, .int .i64 pP.mu.hi, .int .i64 pP.radius.lo, .int .i64 pP.radius.hi, .int .i64 pP.oblate.lo, .int .i64 pP.oblate.hi, .int .i64 pP.spin.lo, .int .i64 pP.spin.hi, .int .i64 pP.pull.x.lo, .int .i64 pP.pull.x.hi, .int .i64 pP.pull.y.lo, .int .i64 pP.pull.y.hi, .int .i64 pP.pull.z.lo, .int .i64 pP.pull.z.hi, .int .i64 x.time, .int .i64 x.step, .int .i64 x.thrust.lo, .int .i64 x.thrust.hi, .int .i64 x.flow.lo, .int .i64 x.flow.hi, .int .i64 x.dir.x.lo, .int .i64 x.dir.x.hi, .int .i64 x.dir.y.lo, .int .i64 x.dir.y.hi, .int .i64 x.dir.z.lo, .int .i64 x.dir.z.hi, .slice x.drag.ao x.drag.n x.drag.cap, .int .i64 x.drop.lo, .int .i64 x.drop.hi]
instance modelLen (pP : Planet) (x : Arc) : CLen (modelCells pP x) 29 := ⟨rfl⟩
instance : StructTy 127 29 := ⟨⟨_, Tryz.underlying127, rfl⟩, by kernel_rfl⟩
@[go_sem] theorem modelGet0 (pP : Planet) (x : Arc) : (modelCells pP x)[0]? = some (.int .i64 pP.mu.lo) := rfl
@[go_sem] theorem modelGet1 (pP : Planet) (x : Arc) : (modelCells pP x)[1]? = some (.int .i64 pP.mu.hi) := rfl
@[go_sem] theorem modelGet2 (pP : Planet) (x : Arc) : (modelCells pP x)[2]? = some (.int .i64 pP.radius.lo) := rfl
@[go_sem] theorem modelGet3 (pP : Planet) (x : Arc) : (modelCells pP x)[3]? = some (.int .i64 pP.radius.hi) := rfl
@[go_sem] theorem modelGet4 (pP : Planet) (x : Arc) : (modelCells pP x)[4]? = some (.int .i64 pP.oblate.lo) := rfl
@[go_sem] theorem modelGet5 (pP : Planet) (x : Arc) : (modelCells pP x)[5]? = some (.int .i64 pP.oblate.hi) := rfl
@[go_sem] theorem modelGet6 (pP : Planet) (x : Arc) : (modelCells pP x)[6]? = some (.int .i64 pP.spin.lo) := rfl
@[go_sem] theorem modelGet7 (pP : Planet) (x : Arc) : (modelCells pP x)[7]? = some (.int .i64 pP.spin.hi) := rfl
@[go_sem] theorem modelGet8 (pP : Planet) (x : Arc) : (modelCells pP x)[8]? = some (.int .i64 pP.pull.x.lo) := rfl
@[go_sem] theorem modelGet9 (pP : Planet) (x : Arc) : (modelCells pP x)[9]? = some (.int .i64 pP.pull.x.hi) := rfl
@[go_sem] theorem modelGet10 (pP : Planet) (x : Arc) : (modelCells pP x)[10]? = some (.int .i64 pP.pull.y.lo) := rfl
@[go_sem] theorem modelGet11 (pP : Planet) (x : Arc) : (modelCells pP x)[11]? = some (.int .i64 pP.pull.y.hi) := rfl
@[go_sem] theorem modelGet12 (pP : Planet) (x : Arc) : (modelCells pP x)[12]? = some (.int .i64 pP.pull.z.lo) := rfl
@[go_sem] theorem modelGet13 (pP : Planet) (x : Arc) : (modelCells pP x)[13]? = some (.int .i64 pP.pull.z.hi) := rfl
@[go_sem] theorem modelGet14 (pP : Planet) (x : Arc) : (modelCells pP x)[14]? = some (.int .i64 x.time) := rfl
@[go_sem] theorem modelGet15 (pP : Planet) (x : Arc) : (modelCells pP x)[15]? = some (.int .i64 x.step) := rfl
@[go_sem] theorem modelGet16 (pP : Planet) (x : Arc) : (modelCells pP x)[16]? = some (.int .i64 x.thrust.lo) := rfl
@[go_sem] theorem modelGet17 (pP : Planet) (x : Arc) : (modelCells pP x)[17]? = some (.int .i64 x.thrust.hi) := rfl
@[go_sem] theorem modelGet18 (pP : Planet) (x : Arc) : (modelCells pP x)[18]? = some (.int .i64 x.flow.lo) := rfl
@[go_sem] theorem modelGet19 (pP : Planet) (x : Arc) : (modelCells pP x)[19]? = some (.int .i64 x.flow.hi) := rfl
@[go_sem] theorem modelGet20 (pP : Planet) (x : Arc) : (modelCells pP x)[20]? = some (.int .i64 x.dir.x.lo) := rfl
@[go_sem] theorem modelGet21 (pP : Planet) (x : Arc) : (modelCells pP x)[21]? = some (.int .i64 x.dir.x.hi) := rfl
@[go_sem] theorem modelGet22 (pP : Planet) (x : Arc) : (modelCells pP x)[22]? = some (.int .i64 x.dir.y.lo) := rfl
@[go_sem] theorem modelGet23 (pP : Planet) (x : Arc) : (modelCells pP x)[23]? = some (.int .i64 x.dir.y.hi) := rfl
@[go_sem] theorem modelGet24 (pP : Planet) (x : Arc) : (modelCells pP x)[24]? = some (.int .i64 x.dir.z.lo) := rfl
@[go_sem] theorem modelGet25 (pP : Planet) (x : Arc) : (modelCells pP x)[25]? = some (.int .i64 x.dir.z.hi) := rfl
@[go_sem] theorem modelGet26 (pP : Planet) (x : Arc) : (modelCells pP x)[26]? = some (.slice x.drag.ao x.drag.n x.drag.cap) := rfl
@[go_sem] theorem modelGet27 (pP : Planet) (x : Arc) : (modelCells pP x)[27]? = some (.int .i64 x.drop.lo) := rfl
@[go_sem] theorem modelGet28 (pP : Planet) (x : Arc) : (modelCells pP x)[28]? = some (.int .i64 x.drop.hi) := rfl
/-- A whole variable that is loaded in a drawn region. -/
theorem pure_load_is {o : Oper} {a : Act} {w : World} {b n : Nat} {l : List Value} (ty : TypeId) (x : Operand) (ho : o.op = .load ty x) (hx : a.eval x = .pointer (some ⟨b, 0, none⟩)) [hs : StructTy ty n] [hr : RowIs w b ty l] [hl : CLen l n] : opPure Tryz.prog o a w (.agg l.toArray) := by
  obtain ⟨d, hd1, hd2⟩ := hs.und
  have h : (Instr.loadAt ty (.pointer (some ⟨b, 0, none⟩))).run Tryz.prog w = .ok (.agg l.toArray) w := by
    refine run_loadAt_mid w b 0 _ l d (fun i v hv => ?_) hd1 (by cases d <;> first | rfl | cases hd2) (by rw [hl.len]; exact hs.sz)
    rw [Nat.zero_add, cell_rowIs, hv]
  unfold opPure execOp
  rw [ho]
  simp [hx, h]
/-- What holds between the statements of force. -/
structure FrAt (c : Nat) (w : World) (M : List Value) (q v : Bx) (m : Sp) (q10 q11 q12 : Nat) (e : Int) (r : Sp) (o : Bx) (wx : World) : Prop where
  but : But c w wx
  cell : wx.cell? ⟨c, 0, none⟩ = some (.int .i64 e)
  mark : wx.frozen? ⟨c, 0, none⟩ = false
  mdl : RowIs wx w.heap.size 127 M
  mass : RoAt wx (w.heap.size + 1 + 1) [.int .i64 m.lo, .int .i64 m.hi]
  res : RowIs wx (w.heap.size + 1 + 1 + 1) 26 [.int .i64 0, .int .i64 0, .int .i64 0, .int .i64 0, .int .i64 0, .int .i64 0]
  out : RowIs wx (w.heap.size + 1 + 1 + 1 + 1) 26 [.int .i64 o.x.lo, .int .i64 o.x.hi, .int .i64 o.y.lo, .int .i64 o.y.hi, .int .i64 o.z.lo, .int .i64 o.z.hi]
  pl : RoAt wx q10 [.int .i64 q.x.lo, .int .i64 q.x.hi, .int .i64 q.y.lo, .int .i64 q.y.hi, .int .i64 q.z.lo, .int .i64 q.z.hi]
  ve : RoAt wx q11 [.int .i64 v.x.lo, .int .i64 v.x.hi, .int .i64 v.y.lo, .int .i64 v.y.hi, .int .i64 v.z.lo, .int .i64 v.z.hi]
  rad : RowIs wx q12 24 [.int .i64 r.lo, .int .i64 r.hi]
theorem b64_frPF (pP : Planet) (l : List Pt) (q : Bx) (e : Int) [hp : Pl64 pP] : B64 (frPF pP l q e).b := by
  unfold frPF
  split
  · exact hp.pull
  · exact b64_eachR _ _ _ _
theorem b64_spin (w : Sp) (q v : Bx) (o : BRes) [h : B64 o.b] : B64 (spinR w q v o).b := by
  unfold spinR
  split
  · exact h
  · exact ⟨s64_do _ _, s64_do _ _, h.z⟩
theorem b64_thrust (x : Arc) (m : Sp) (o : BRes) [h : B64 o.b] : B64 (thrustF x m o).b := by
  unfold thrustF
  split
  · exact h
  · exact b64_eachR _ _ _ _
end Go.Proofs.YtkeifgcncmilmaaGreat
