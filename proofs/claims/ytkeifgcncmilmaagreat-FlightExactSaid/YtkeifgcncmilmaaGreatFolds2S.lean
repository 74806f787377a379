/-
  The iterator span.all over pairs of spans.
  Contract: span.fold over pairs of spans.
  Contracts: span.few of two lists, span.Dot of two boxes; the plain law of a product.
-/
import Derived.Test.YtkeifgcncmilmaaGreatFoldsS
import Derived.Test.YtkeifgcncmilmaaGreatCalcsS
import Derived.Deep.RegionHeld3
namespace Go.Proofs.YtkeifgcncmilmaaGreat
open Go.RowKit Go.Shelf
set_option maxRecDepth 100000
set_option maxHeartbeats 2000000
attribute [local go_sem] Oper.semAt_some
/-- A pair of spans whose bounds are of 64 bits. -/
def Px : Type := Sx × Sx
instance : Inhabited Px := ⟨(default, default)⟩
def Px.cells (x : Px) : List Value := [.int .i64 x.1.1.lo, .int .i64 x.1.1.hi, .int .i64 x.2.1.lo, .int .i64 x.2.1.hi]
abbrev nthP (L : List Px) (k : Nat) : Nat × Px := (k, L[k]?.getD default)
def encIP (x : Nat × Px) : Array Value := #[.int .i64 (x.1 : Int), .agg #[.int .i64 x.2.1.1.lo, .int .i64 x.2.1.1.hi, .int .i64 x.2.2.1.lo, .int .i64 x.2.2.1.hi]]
end Go.Proofs.YtkeifgcncmilmaaGreat
namespace Go.Proofs.YtkeifgcncmilmaaGreat
open Go.RowKit Go.Shelf
set_option maxRecDepth 100000
set_option maxHeartbeats 2000000
attribute [local go_sem] Oper.semAt_some
/-- A pair of spans. -/
abbrev SS := Sp × Sp
def Px.ss (x : Px) : SS := (x.1.1, x.2.1)
/-- The terms of what has come. -/
def valsOf2 (pre : List (Nat × Px)) : List SS := pre.map fun p => p.2.ss
/-- What is asked of a term: called in any later world it hands back what f computes. -/
def TermOk2 (g : Nat) (lb : Array Value) (f : SS → Res) (w0 : World) : Prop := ∀ (w : World) (x : Px), Grew w0 w → Calls Tryz.prog g (#[.agg #[.int .i64 x.1.1.lo, .int .i64 x.1.1.hi, .int .i64 x.2.1.lo, .int .i64 x.2.1.hi]] ++ lb) w fun e w' => e = .returned (.tuple #[.agg #[.int .i64 (f x.ss).s.lo, .int .i64 (f x.ss).s.hi], .int .i64 (f x.ss).e]) ∧ Grew w w'
end Go.Proofs.YtkeifgcncmilmaaGreat
namespace Go.Proofs.YtkeifgcncmilmaaGreat
open Go.RowKit Go.Shelf
set_option maxRecDepth 100000
set_option maxHeartbeats 2000000
/-- The terms of a product of two boxes. -/
def Bx.terms (a b : Bx) : List SS := [(a.x, b.x), (a.y, b.y), (a.z, b.z)]
def mul2 (p : SS) : Res := mulR p.1 p.2
/-- A product of two boxes. -/
def dotBR (a b : Bx) : Res := if a.okB && b.okB then foldR mul2 z0 (a.terms b) else errR 2
theorem list_ok (a : Bx) : a.list.all Sp.okB = a.okB := by
  unfold Bx.list Bx.okB
  simp [Bool.and_assoc]
def pairsOf (a b : Bx) (ha : B64 a) (hb : B64 b) : List Px := [(⟨a.x, ha.x⟩, ⟨b.x, hb.x⟩), (⟨a.y, ha.y⟩, ⟨b.y, hb.y⟩), (⟨a.z, ha.z⟩, ⟨b.z, hb.z⟩)]
end Go.Proofs.YtkeifgcncmilmaaGreat
