/-
  Words for the walk through ullageref03's force: what holds between its statements, the code behind each.
-/
import Derived.Test.YtkeifgcncmilmaaGreatForceMS
import Derived.LoopN
import Derived.Deep.DeepCutAuto
namespace Go.Proofs.YtkeifgcncmilmaaGreat
open Go.RowKit Go.Shelf
set_option maxRecDepth 100000
set_option maxHeartbeats 32000000
instance planetLen (pP : Planet) : CLen pP.cells 14 := ⟨rfl⟩
instance arcLen (x : Arc) : CLen x.cells 15 := ⟨rfl⟩
instance : StructTy 43 14 := ⟨⟨_, Tryz.underlying43, rfl⟩, by kernel_rfl⟩
instance : StructTy 48 15 := ⟨⟨_, Tryz.underlying48, rfl⟩, by kernel_rfl⟩
@[go_sem] theorem planetGet0 (pP : Planet) : pP.cells[0]? = some (.int .i64 pP.mu.lo) := rfl
@[go_sem] theorem planetGet1 (pP : Planet) : pP.cells[1]? = some (.int .i64 pP.mu.hi) := rfl
@[go_sem] theorem planetGet2 (pP : Planet) : pP.cells[2]? = some (.int .i64 pP.radius.lo) := rfl
@[go_sem] theorem planetGet3 (pP : Planet) : pP.cells[3]? = some (.int .i64 pP.radius.hi) := rfl
@[go_sem] theorem planetGet4 (pP : Planet) : pP.cells[4]? = some (.int .i64 pP.oblate.lo) := rfl
@[go_sem] theorem planetGet5 (pP : Planet) : pP.cells[5]? = some (.int .i64 pP.oblate.hi) := rfl
@[go_sem] theorem planetGet6 (pP : Planet) : pP.cells[6]? = some (.int .i64 pP.spin.lo) := rfl
@[go_sem] theorem planetGet7 (pP : Planet) : pP.cells[7]? = some (.int .i64 pP.spin.hi) := rfl
@[go_sem] theorem planetGet8 (pP : Planet) : pP.cells[8]? = some (.int .i64 pP.pull.x.lo) := rfl
@[go_sem] theorem planetGet9 (pP : Planet) : pP.cells[9]? = some (.int .i64 pP.pull.x.hi) := rfl
@[go_sem] theorem planetGet10 (pP : Planet) : pP.cells[10]? = some (.int .i64 pP.pull.y.lo) := rfl
@[go_sem] theorem planetGet11 (pP : Planet) : pP.cells[11]? = some (.int .i64 pP.pull.y.hi) := rfl
@[go_sem] theorem planetGet12 (pP : Planet) : pP.cells[12]? = some (.int .i64 pP.pull.z.lo) := rfl
@[go_sem] theorem planetGet13 (pP : Planet) : pP.cells[13]? = some (.int .i64 pP.pull.z.hi) := rfl
@[go_sem] theorem arcGet0 (x : Arc) : x.cells[0]? = some (.int .i64 x.time) := rfl
@[go_sem] theorem arcGet1 (x : Arc) : x.cells[1]? = some (.int .i64 x.step) := rfl
@[go_sem] theorem arcGet2 (x : Arc) : x.cells[2]? = some (.int .i64 x.thrust.lo) := rfl
@[go_sem] theorem arcGet3 (x : Arc) : x.cells[3]? = some (.int .i64 x.thrust.hi) := rfl
@[go_sem] theorem arcGet4 (x : Arc) : x.cells[4]? = some (.int .i64 x.flow.lo) := rfl
@[go_sem] theorem arcGet5 (x : Arc) : x.cells[5]? = some (.int .i64 x.flow.hi) := rfl
@[go_sem] theorem arcGet6 (x : Arc) : x.cells[6]? = some (.int .i64 x.dir.x.lo) := rfl
@[go_sem] theorem arcGet7 (x : Arc) : x.cells[7]? = some (.int .i64 x.dir.x.hi) := rfl
@[go_sem] theorem arcGet8 (x : Arc) : x.cells[8]? = some (.int .i64 x.dir.y.lo) := rfl
@[go_sem] theorem arcGet9 (x : Arc) : x.cells[9]? = some (.int .i64 x.dir.y.hi) := rfl
@[go_sem] theorem arcGet10 (x : Arc) : x.cells[10]? = some (.int .i64 x.dir.z.lo) := rfl
@[go_sem] theorem arcGet11 (x : Arc) : x.cells[11]? = some (.int .i64 x.dir.z.hi) := rfl
@[go_sem] theorem arcGet12 (x : Arc) : x.cells[12]? = some (.slice x.drag.ao x.drag.n x.drag.cap) := rfl
@[go_sem] theorem arcGet13 (x : Arc) : x.cells[13]? = some (.int .i64 x.drop.lo) := rfl
@[go_sem] theorem arcGet14 (x : Arc) : x.cells[14]? = some (.int .i64 x.drop.hi) := rfl
/-- What holds between the statements of force. -/
structure FrG (c : Nat) (w : World) (pP : Planet) (x : Arc) (q v : Bx) (m : Sp) (e : Int) (r : Sp) (o : Bx) (wx : World) : Prop where
  but : But c w wx
  cell : wx.cell? ⟨c, 0, none⟩ = some (.int .i64 e)
  mark : wx.frozen? ⟨c, 0, none⟩ = false
  pl : RowIs wx w.heap.size 43 pP.cells
  ar : RowIs wx (w.heap.size + 1) 48 x.cells
  pc : RowIs wx (w.heap.size + 1 + 1) 26 [.int .i64 q.x.lo, .int .i64 q.x.hi, .int .i64 q.y.lo, .int .i64 q.y.hi, .int .i64 q.z.lo, .int .i64 q.z.hi]
  ve : RowIs wx (w.heap.size + 1 + 1 + 1) 26 [.int .i64 v.x.lo, .int .i64 v.x.hi, .int .i64 v.y.lo, .int .i64 v.y.hi, .int .i64 v.z.lo, .int .i64 v.z.hi]
  ms : RowIs wx (w.heap.size + 1 + 1 + 1 + 1) 24 [.int .i64 m.lo, .int .i64 m.hi]
  res : RowIs wx (w.heap.size + 1 + 1 + 1 + 1 + 1) 26 [.int .i64 0, .int .i64 0, .int .i64 0, .int .i64 0, .int .i64 0, .int .i64 0]
  out : RowIs wx (w.heap.size + 1 + 1 + 1 + 1 + 1 + 1) 26 [.int .i64 o.x.lo, .int .i64 o.x.hi, .int .i64 o.y.lo, .int .i64 o.y.hi, .int .i64 o.z.lo, .int .i64 o.z.hi]
  rad : RowIs wx (w.heap.size + 1 + 1 + 1 + 1 + 1 + 1 + 1) 24 [.int .i64 r.lo, .int .i64 r.hi]
/-- The statements behind the first one. -/
def tlC : Code → Code
  | .seq _ b => b
  | c => c
end Go.Proofs.YtkeifgcncmilmaaGreat
