/-
  Contracts of flight.Force, ullageref03.Force.
-/
import Derived.Test.YtkeifgcncmilmaaGreatForceDS
import Derived.Test.YtkeifgcncmilmaaGreatForceNS

import Derived.Test.YtkeifgcncmilmaaGreatJointS
namespace Go.Proofs.YtkeifgcncmilmaaGreat
open Go.RowKit Go.Shelf
set_option maxRecDepth 100000
set_option maxHeartbeats 16000000
def zBx : Bx := ⟨⟨0, 0⟩, ⟨0, 0⟩, ⟨0, 0⟩⟩
/-- The force at a valid state, or the error. -/
def cleanB (r : BRes) : BRes := if r.e = 0 then r else ⟨zBx, r.e⟩
def forceOk (p : Planet) (x : Arc) (l : List Pt) (s : State) : Bool := p.okB && (x.okB l && s.okB)
def forceR (p : Planet) (x : Arc) (l : List Pt) (s : State) : BRes := if forceOk p x l s then cleanB (forceF p x l s.p s.v s.m 0) else ⟨zBx, 2⟩
theorem Grew.but {w wc wx : World} {c : Nat} (g : Grew w wc) (hn : NewFor w c) (b : But c wc wx) : Grew w wx :=
  ⟨b.os.trans g.os, b.tape.trans g.tape, b.output.trans g.output, Nat.le_trans (Grew.size g) b.size, fun k hk => (b.block k (Nat.lt_of_lt_of_le hk (Grew.size g)) (by have := hn.le; omega)).trans (g.block k hk)⟩
def RetB (r : BRes) (w : World) (e : Ending) (w' : World) : Prop := e = .returned (.tuple #[.agg #[.int .i64 r.b.x.lo, .int .i64 r.b.x.hi, .int .i64 r.b.y.lo, .int .i64 r.b.y.hi, .int .i64 r.b.z.lo, .int .i64 r.b.z.hi], .int .i64 r.e]) ∧ Grew w w'
theorem built_model (pP : Planet) (x : Arc) : Tryz.prog.built 127 [(0, .agg pP.cells.toArray), (1, .agg x.cells.toArray)] = some (modelCells pP x).toArray := by kernel_rfl
end Go.Proofs.YtkeifgcncmilmaaGreat
