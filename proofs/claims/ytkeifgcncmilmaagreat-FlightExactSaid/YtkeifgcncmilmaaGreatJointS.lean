/-
  flight.Joint: what two states have in common.
-/
import Derived.Test.YtkeifgcncmilmaaGreatFlightCalcS
import Derived.Test.YtkeifgcncmilmaaGreatFlightOksS
namespace Go.Proofs.YtkeifgcncmilmaaGreat
open Go.RowKit Go.Shelf
set_option maxRecDepth 100000
set_option maxHeartbeats 4000000
def E07 (r : Res) : Prop := r.e = 0 ∨ r.e = 7
/-- All meets of two boxes. -/
def meetOk (a b : Bx) : Bool := decide ((meetR a.x b.x).e = 0) && decide ((meetR a.y b.y).e = 0) && decide ((meetR a.z b.z).e = 0)
def meetB (a b : Bx) : Bx := ⟨(meetR a.x b.x).s, (meetR a.y b.y).s, (meetR a.z b.z).s⟩
def jointAll (a b : State) : Bool := meetOk a.p b.p && meetOk a.v b.v && decide ((meetR a.m b.m).e = 0)
structure SRes where
  s : State
  e : Int
def zState : State := ⟨0, ⟨⟨0, 0⟩, ⟨0, 0⟩, ⟨0, 0⟩⟩, ⟨⟨0, 0⟩, ⟨0, 0⟩, ⟨0, 0⟩⟩, ⟨0, 0⟩⟩
def jointR (a b : State) : SRes :=
  if a.okB && b.okB then (if a.t = b.t then (if jointAll a b then ⟨⟨a.t, meetB a.p b.p, meetB a.v b.v, (meetR a.m b.m).s⟩, 0⟩ else ⟨zState, 7⟩) else ⟨zState, 9⟩) else ⟨zState, 2⟩
class St64 (s : State) : Prop where
  t : I64 s.t
  p : B64 s.p
  v : B64 s.v
  m : S64 s.m
instance st64_p (s : State) [h : St64 s] : B64 s.p := h.p
instance st64_v (s : State) [h : St64 s] : B64 s.v := h.v
instance st64_m (s : State) [h : St64 s] : S64 s.m := h.m
def RetSt (r : SRes) (w : World) (e : Ending) (w' : World) : Prop := e = .returned (.tuple #[.agg #[.int .i64 r.s.t, .int .i64 r.s.p.x.lo, .int .i64 r.s.p.x.hi, .int .i64 r.s.p.y.lo, .int .i64 r.s.p.y.hi, .int .i64 r.s.p.z.lo, .int .i64 r.s.p.z.hi, .int .i64 r.s.v.x.lo, .int .i64 r.s.v.x.hi, .int .i64 r.s.v.y.lo, .int .i64 r.s.v.y.hi, .int .i64 r.s.v.z.lo, .int .i64 r.s.v.z.hi, .int .i64 r.s.m.lo, .int .i64 r.s.m.hi], .int .i64 r.e]) ∧ Grew w w'
end Go.Proofs.YtkeifgcncmilmaaGreat
