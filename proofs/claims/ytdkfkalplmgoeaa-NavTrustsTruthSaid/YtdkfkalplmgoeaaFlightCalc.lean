/-
  Contracts: flight's calc: keep, do, sub, norm, each; Joint's closure.
-/
import Derived.Test.YtdkfkalplmgoeaaCalcs
import Derived.Test.YtdkfkalplmgoeaaFolds
namespace Go.Proofs.Ytdkfkalplmgoeaa
open Go.RowKit Go.Shelf
set_option maxRecDepth 100000
set_option maxHeartbeats 2000000
/-- A function of two spans that only computes. -/
def BinOk (g : Nat) (op : Sp → Sp → Res) : Prop := ∀ (w : World) (a b : Sp), S64 a → S64 b → Calls Try.prog g #[.agg #[.int .i64 a.lo, .int .i64 a.hi], .agg #[.int .i64 b.lo, .int .i64 b.hi]] w fun e w' => e = .returned (.tuple #[.agg #[.int .i64 (op a b).s.lo, .int .i64 (op a b).s.hi], .int .i64 (op a b).e]) ∧ Grew w w'
theorem bin_sub : BinOk 112 subR := fun w a b _ _ => spSub_any a b w
theorem bin_meet : BinOk 94 meetR := fun w a b _ _ => spMeet_any a b w
theorem spNorm_box (b : Bx) [h : B64 b] (ao : Option Addr) (w : World) (hs : SlAt w (.slice ao 3 3) 3 [.int .i64 b.x.lo, .int .i64 b.x.hi, .int .i64 b.y.lo, .int .i64 b.y.hi, .int .i64 b.z.lo, .int .i64 b.z.hi]) : Calls Try.prog 90 #[.slice ao 3 3] w fun e w' => e = .returned (.tuple #[.agg #[.int .i64 (normR b.list).s.lo, .int .i64 (normR b.list).s.hi], .int .i64 (normR b.list).e]) ∧ Grew w w' := spNorm_any (boxS b) ao 3 w hs
def each1 (f : Sp → Sp → Res) (e : Int) (a b : Bx) : Res := doR e (f a.x b.x)
def each2 (f : Sp → Sp → Res) (e : Int) (a b : Bx) : Res := doR (each1 f e a b).e (f a.y b.y)
def each3 (f : Sp → Sp → Res) (e : Int) (a b : Bx) : Res := doR (each2 f e a b).e (f a.z b.z)
def eachB (f : Sp → Sp → Res) (e : Int) (a b : Bx) : Bx := ⟨(each1 f e a b).s, (each2 f e a b).s, (each3 f e a b).s⟩
/-- What is asked of an operation that keeps errors. -/
def OpC (g : Nat) (lb : Array Value) (op : Sp → Sp → Res) (c : Nat) (w0 : World) : Prop :=
  ∀ (w : World) (e : Int) (a b : Sp), S64 a → S64 b → ButT c w0 w → w.cell? ⟨c, 0, none⟩ = some (.int .i64 e) → w.frozen? ⟨c, 0, none⟩ = false →
    Calls Try.prog g (#[.agg #[.int .i64 a.lo, .int .i64 a.hi], .agg #[.int .i64 b.lo, .int .i64 b.hi]] ++ lb) w (RetC c (.agg #[.int .i64 ((doR e (op a b)).s).lo, .int .i64 ((doR e (op a b)).s).hi]) (doR e (op a b)).e w)
/-- The state of 'each' behind so many components. -/
def eachCells (f : Sp → Sp → Res) (e : Int) (a b : Bx) : Nat → List Value
  | 0 => [.int .i64 0, .int .i64 0, .int .i64 0, .int .i64 0, .int .i64 0, .int .i64 0]
  | 1 => [.int .i64 ((each1 f e a b).s).lo, .int .i64 ((each1 f e a b).s).hi, .int .i64 0, .int .i64 0, .int .i64 0, .int .i64 0]
  | 2 => [.int .i64 ((each1 f e a b).s).lo, .int .i64 ((each1 f e a b).s).hi, .int .i64 ((each2 f e a b).s).lo, .int .i64 ((each2 f e a b).s).hi, .int .i64 0, .int .i64 0]
  | _ => [.int .i64 ((each1 f e a b).s).lo, .int .i64 ((each1 f e a b).s).hi, .int .i64 ((each2 f e a b).s).lo, .int .i64 ((each2 f e a b).s).hi, .int .i64 ((each3 f e a b).s).lo, .int .i64 ((each3 f e a b).s).hi]
def eachErr (f : Sp → Sp → Res) (e : Int) (a b : Bx) : Nat → Int
  | 0 => e
  | 1 => (each1 f e a b).e
  | 2 => (each2 f e a b).e
  | _ => (each3 f e a b).e
structure EachAt (f : Sp → Sp → Res) (e : Int) (a b : Bx) (c B : Nat) (w : World) (k : Nat) (wr : World) : Prop where
  but : But c w wr
  cell : wr.cell? ⟨c, 0, none⟩ = some (.int .i64 (eachErr f e a b k))
  mark : wr.frozen? ⟨c, 0, none⟩ = false
  fst : BoxAt wr w.heap.size [.int .i64 a.x.lo, .int .i64 a.x.hi, .int .i64 a.y.lo, .int .i64 a.y.hi, .int .i64 a.z.lo, .int .i64 a.z.hi]
  snd : BoxAt wr (w.heap.size + 1) [.int .i64 b.x.lo, .int .i64 b.x.hi, .int .i64 b.y.lo, .int .i64 b.y.hi, .int .i64 b.z.lo, .int .i64 b.z.hi]
  res : BoxAt wr (w.heap.size + 1 + 1) [.int .i64 0, .int .i64 0, .int .i64 0, .int .i64 0, .int .i64 0, .int .i64 0]
  out : BoxAt wr B (eachCells f e a b k)
theorem boxAt_six {w : World} {b : Nat} {x0 x1 x2 x3 x4 x5 : Value} (h0 : w.cell? ⟨b, 0, none⟩ = some x0) (f0 : w.frozen? ⟨b, 0, none⟩ = false) (h1 : w.cell? ⟨b, 1, none⟩ = some x1) (f1 : w.frozen? ⟨b, 1, none⟩ = false) (h2 : w.cell? ⟨b, 2, none⟩ = some x2) (f2 : w.frozen? ⟨b, 2, none⟩ = false)
    (h3 : w.cell? ⟨b, 3, none⟩ = some x3) (f3 : w.frozen? ⟨b, 3, none⟩ = false) (h4 : w.cell? ⟨b, 4, none⟩ = some x4) (f4 : w.frozen? ⟨b, 4, none⟩ = false) (h5 : w.cell? ⟨b, 5, none⟩ = some x5) (f5 : w.frozen? ⟨b, 5, none⟩ = false) : BoxAt w b [x0, x1, x2, x3, x4, x5] := by
  intro i v hv
  match i, hv with
  | 0, hv => simp at hv; subst hv; exact ⟨h0, f0⟩
  | 1, hv => simp at hv; subst hv; exact ⟨h1, f1⟩
  | 2, hv => simp at hv; subst hv; exact ⟨h2, f2⟩
  | 3, hv => simp at hv; subst hv; exact ⟨h3, f3⟩
  | 4, hv => simp at hv; subst hv; exact ⟨h4, f4⟩
  | 5, hv => simp at hv; subst hv; exact ⟨h5, f5⟩
end Go.Proofs.Ytdkfkalplmgoeaa
