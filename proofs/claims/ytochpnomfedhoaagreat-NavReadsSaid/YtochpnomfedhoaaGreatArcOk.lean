/-
  Contracts: flight.CheckArc, flight.Steps.
-/
import Derived.Test.YtochpnomfedhoaaGreatFlightOk
namespace Go.Proofs.YtochpnomfedhoaaGreat
open Go.RowKit
set_option maxRecDepth 100000
set_option maxHeartbeats 1000000

def dirB (d : Bx) : Bool := d.x.inB unit && d.y.inB unit && d.z.inB unit
def forcesB (a : Arc) : Bool := [a.thrust, a.flow, a.drop].all (fun s => s.leastB 0)
def dragB (l : List Pt) : Bool := l.isEmpty || tableB l
def Arc.okB (a : Arc) (l : List Pt) : Bool := dirB a.dir && forcesB a && decide (1 ≤ a.time) && decide (1 ≤ a.step) && dragB l
theorem drag_n {w : World} {a : Arc} {l : List Pt} (h : DragAt w a l) : a.drag.n = l.length := by
  obtain ⟨ao, cap, e, -⟩ := h
  simp at e
  exact e.2.1
theorem DragAt.grew {w w' : World} {a : Arc} {l : List Pt} (h : DragAt w a l) (g : Grew w w') : DragAt w' a l := SlAt.grew h g
theorem dirB_no (d : Bx) (k : Nat) (hk : k < 3) (h : (d.at k).inB unit = false) : dirB d = false := by
  match k, hk with
  | 0, _ => simp only [Bx.at] at h; simp [dirB, h]
  | 1, _ => simp only [Bx.at] at h; simp [dirB, h]
  | 2, _ => simp only [Bx.at] at h; simp [dirB, h]

theorem spTable_drag (a : Arc) (l : List Pt) (w : World) (h : DragAt w a l) : Calls Tryz.prog 55 #[.slice a.drag.ao a.drag.n a.drag.cap] w fun e w' => e = .returned (.int .i64 (codeB (tableB l) 2)) ∧ Grew w w' := spTable_any l _ w h
theorem rTable_drag (a : Arc) (l : List Pt) (w : World) (h : DragAt w a l) : Calls Tryz.prog 61 #[.slice a.drag.ao a.drag.n a.drag.cap] w fun e w' => e = .returned (.int .i64 (codeB (tableB l) 2)) ∧ Grew w w' := rTable_any l _ w h
end Go.Proofs.YtochpnomfedhoaaGreat
