/-
  Contracts of flight.Force, ullageref03.Force.
-/
import Derived.Test.YtkmjegkdfhiadaaGreatForceD
import Derived.Test.YtkmjegkdfhiadaaGreatForceN

import Derived.Test.YtkmjegkdfhiadaaGreatJoint
namespace Go.Proofs.YtkmjegkdfhiadaaGreat
open Go.RowKit Go.Shelf
set_option maxRecDepth 100000
set_option maxHeartbeats 16000000
def zBx : Bx := ⟨⟨0, 0⟩, ⟨0, 0⟩, ⟨0, 0⟩⟩
/-- The force at a valid state, or the error. -/
def cleanB (r : BRes) : BRes := if r.e = 0 then r else ⟨zBx, r.e⟩
def forceOk (p : Planet) (x : Arc) (l : List Pt) (s : State) : Bool := p.okB && (x.okB l && s.okB)
def forceR (p : Planet) (x : Arc) (l : List Pt) (s : State) : BRes := if forceOk p x l s then cleanB (forceF p x l s.p s.v s.m 0) else ⟨zBx, 2⟩
theorem cleanB_alike {r r' : BRes} (h : Alike r r') : cleanB r = cleanB r' := by
  rcases alike_cases h with rfl | ⟨h1, h2, h3⟩
  · rfl
  · unfold cleanB
    rw [if_neg h1, if_neg h2, h3]
theorem arc_dir {x : Arc} {l : List Pt} (h : x.okB l = true) : x.dir.Ok := by
  unfold Arc.okB dirB at h
  simp only [Bool.and_eq_true] at h
  have k : ∀ a b : Sp, a.inB b = true → a.okB = true := fun a b h => by
    unfold Sp.inB at h
    simp only [Bool.and_eq_true] at h
    exact h.1.1.1
  exact ⟨k _ _ h.1.1.1.1.1.1, k _ _ h.1.1.1.1.1.2, k _ _ h.1.1.1.1.2⟩
theorem planet_pull {p : Planet} (h : p.okB = true) : p.pull.Ok := by
  unfold Planet.okB at h
  simp only [Bool.and_eq_true] at h
  exact Bx.ok_of h.1.1.1
theorem force_both {p : Planet} {x : Arc} {l : List Pt} {s : State} (h1 : p.okB = true) (h2 : x.okB l = true) (h3 : s.okB = true) : forceR p x l s = cleanB (forceF p x l s.p s.v s.m 0) ∧ forceR p x l s = cleanB (forceG p x l s.p s.v s.m 0) := by
  have h : forceR p x l s = cleanB (forceF p x l s.p s.v s.m 0) := by unfold forceR forceOk; rw [h1, h2, h3]; rfl
  exact ⟨h, h.trans (cleanB_alike (force_alike p x l s.p s.v s.m 0 (planet_pull h1) (arc_dir h2) (Bx.ok_of (state_parts h3).2.1)))⟩
theorem Grew.but {w wc wx : World} {c : Nat} (g : Grew w wc) (hn : NewFor w c) (b : But c wc wx) : Grew w wx :=
  ⟨b.os.trans g.os, b.tape.trans g.tape, b.output.trans g.output, Nat.le_trans (Grew.size g) b.size, fun k hk => (b.block k (Nat.lt_of_lt_of_le hk (Grew.size g)) (by have := hn.le; omega)).trans (g.block k hk)⟩
theorem ret_box {x0 x1 y0 y1 z0 z1 e : Int} {r : BRes} (h : (⟨⟨⟨x0, x1⟩, ⟨y0, y1⟩, ⟨z0, z1⟩⟩, e⟩ : BRes) = r) :
    Ending.returned (.tuple #[.agg #[.int .i64 x0, .int .i64 x1, .int .i64 y0, .int .i64 y1, .int .i64 z0, .int .i64 z1], .int .i64 e]) = .returned (.tuple #[.agg #[.int .i64 r.b.x.lo, .int .i64 r.b.x.hi, .int .i64 r.b.y.lo, .int .i64 r.b.y.hi, .int .i64 r.b.z.lo, .int .i64 r.b.z.hi], .int .i64 r.e]) := by subst h; rfl
def RetB (r : BRes) (w : World) (e : Ending) (w' : World) : Prop := e = .returned (.tuple #[.agg #[.int .i64 r.b.x.lo, .int .i64 r.b.x.hi, .int .i64 r.b.y.lo, .int .i64 r.b.y.hi, .int .i64 r.b.z.lo, .int .i64 r.b.z.hi], .int .i64 r.e]) ∧ Grew w w'
theorem built_model (pP : Planet) (x : Arc) : Tryz.prog.built 87 [(0, .agg pP.cells.toArray), (1, .agg x.cells.toArray)] = some (modelCells pP x).toArray := by kernel_rfl
theorem pure_build {o : Oper} {a : Act} {w : World} (t : TypeId) (parts : Array (Nat × Operand)) (l : List (Nat × Value)) (cs : Array Value) (ho : o.op = .build t parts) (hl : (parts.map fun p => (p.1, a.eval p.2)).toList = l) (hb : Tryz.prog.built t l = some cs) : opPure Tryz.prog o a w (.agg cs) := by
  have h := run_build (P := Tryz.prog) w t (parts.map fun p => (p.1, a.eval p.2)) cs (by rw [hl]; exact hb)
  unfold opPure execOp
  rw [ho]
  simp
  rw [h]
  simp
theorem flOf_any (p v : Bx) (w : World) : Calls Tryz.prog 68 #[.agg #[.int .i64 p.x.lo, .int .i64 p.x.hi, .int .i64 p.y.lo, .int .i64 p.y.hi, .int .i64 p.z.lo, .int .i64 p.z.hi], .agg #[.int .i64 v.x.lo, .int .i64 v.x.hi, .int .i64 v.y.lo, .int .i64 v.y.hi, .int .i64 v.z.lo, .int .i64 v.z.hi]] w fun e w' => e = .returned (.agg #[.int .i64 p.x.lo, .int .i64 p.x.hi, .int .i64 p.y.lo, .int .i64 p.y.hi, .int .i64 p.z.lo, .int .i64 p.z.hi, .int .i64 v.x.lo, .int .i64 v.x.hi, .int .i64 v.y.lo, .int .i64 v.y.hi, .int .i64 v.z.lo, .int .i64 v.z.hi]) ∧ Grew w w' := by
  go_enter Tryz.func68, Tryz.ntmps68
  go_wp2
  refine bodyPost_ret (by (simp [results, Tryz.results68, go_sem] <;> rfl)) rfl ?_
  exact ⟨rfl, gw⟩
end Go.Proofs.YtkmjegkdfhiadaaGreat
