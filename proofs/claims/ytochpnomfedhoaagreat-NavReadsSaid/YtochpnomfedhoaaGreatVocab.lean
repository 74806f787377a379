/-
  Plain words: the values of api (numbers as integers), what is valid.
-/
import Derived.Test.YtochpnomfedhoaaGreatSlice
namespace Go.Proofs.YtochpnomfedhoaaGreat
open Go.RowKit

structure Sp where
  lo : Int
  hi : Int
structure Bx where
  x : Sp
  y : Sp
  z : Sp
structure Pt where
  place : Int
  value : Sp
structure Sl where
  ao : Option Addr
  n : Nat
  cap : Nat
structure Planet where
  mu : Sp
  radius : Sp
  oblate : Sp
  spin : Sp
  pull : Bx
structure State where
  t : Int
  p : Bx
  v : Bx
  m : Sp
structure Tube where
  a : Int
  z : Int
  p : Bx
  v : Bx
  m : Sp
structure Arc where
  time : Int
  step : Int
  thrust : Sp
  flow : Sp
  dir : Bx
  drag : Sl
  drop : Sp
structure Mode where
  height : Sp
  speed : Sp
  pressure : Sp
  a : Int
  z : Int
  failures : Int
  delay : Int
  arcs : Sl
  load : Int
  floor : Int
  touch : Int

def Sp.cells (a : Sp) : List Value := [.int .i64 a.lo, .int .i64 a.hi]
def Bx.cells (a : Bx) : List Value := [.int .i64 a.x.lo, .int .i64 a.x.hi, .int .i64 a.y.lo, .int .i64 a.y.hi, .int .i64 a.z.lo, .int .i64 a.z.hi]
def Pt.cells (a : Pt) : List Value := [.int .i64 a.place, .int .i64 a.value.lo, .int .i64 a.value.hi]
def Planet.cells (a : Planet) : List Value := [.int .i64 a.mu.lo, .int .i64 a.mu.hi, .int .i64 a.radius.lo, .int .i64 a.radius.hi, .int .i64 a.oblate.lo, .int .i64 a.oblate.hi, .int .i64 a.spin.lo, .int .i64 a.spin.hi, .int .i64 a.pull.x.lo, .int .i64 a.pull.x.hi, .int .i64 a.pull.y.lo, .int .i64 a.pull.y.hi, .int .i64 a.pull.z.lo, .int .i64 a.pull.z.hi]
def State.cells (a : State) : List Value := [.int .i64 a.t, .int .i64 a.p.x.lo, .int .i64 a.p.x.hi, .int .i64 a.p.y.lo, .int .i64 a.p.y.hi, .int .i64 a.p.z.lo, .int .i64 a.p.z.hi, .int .i64 a.v.x.lo, .int .i64 a.v.x.hi, .int .i64 a.v.y.lo, .int .i64 a.v.y.hi, .int .i64 a.v.z.lo, .int .i64 a.v.z.hi, .int .i64 a.m.lo, .int .i64 a.m.hi]
def Tube.cells (a : Tube) : List Value := [.int .i64 a.a, .int .i64 a.z, .int .i64 a.p.x.lo, .int .i64 a.p.x.hi, .int .i64 a.p.y.lo, .int .i64 a.p.y.hi, .int .i64 a.p.z.lo, .int .i64 a.p.z.hi, .int .i64 a.v.x.lo, .int .i64 a.v.x.hi, .int .i64 a.v.y.lo, .int .i64 a.v.y.hi, .int .i64 a.v.z.lo, .int .i64 a.v.z.hi, .int .i64 a.m.lo, .int .i64 a.m.hi]
def Arc.cells (a : Arc) : List Value := [.int .i64 a.time, .int .i64 a.step, .int .i64 a.thrust.lo, .int .i64 a.thrust.hi, .int .i64 a.flow.lo, .int .i64 a.flow.hi, .int .i64 a.dir.x.lo, .int .i64 a.dir.x.hi, .int .i64 a.dir.y.lo, .int .i64 a.dir.y.hi, .int .i64 a.dir.z.lo, .int .i64 a.dir.z.hi, .slice a.drag.ao a.drag.n a.drag.cap, .int .i64 a.drop.lo, .int .i64 a.drop.hi]
def Mode.cells (a : Mode) : List Value := [.int .i64 a.height.lo, .int .i64 a.height.hi, .int .i64 a.speed.lo, .int .i64 a.speed.hi, .int .i64 a.pressure.lo, .int .i64 a.pressure.hi, .int .i64 a.a, .int .i64 a.z, .int .i64 a.failures, .int .i64 a.delay, .slice a.arcs.ao a.arcs.n a.arcs.cap, .int .i64 a.load, .int .i64 a.floor, .int .i64 a.touch]

/-- A result code: 0, or c. -/
def codeB (b : Bool) (c : Int) : Int := if b then 0 else c
@[go_sem, simp] theorem codeB_true (c : Int) : codeB true c = 0 := rfl
@[go_sem, simp] theorem codeB_false (c : Int) : codeB false c = c := rfl

theorem ret_two {k1 k2 : IntKind} {a b c d : Int} (h1 : a = b) (h2 : c = d) : Ending.returned (.tuple #[.int k1 a, .int k2 c]) = .returned (.tuple #[.int k1 b, .int k2 d]) := by rw [h1, h2]
theorem codeB_eq0 {b : Bool} {c : Int} (h : b = true) : codeB b c = 0 := by rw [h]; rfl
theorem codeB_eqc {b : Bool} {c : Int} (h : b = false) : codeB b c = c := by rw [h]; rfl

def numB (n : Int) : Bool := decide (-9223372036854775807 ≤ n)
theorem numB_iff (n : Int) : numB n = true ↔ -9223372036854775807 ≤ n := by simp [numB]
/-- An int64. -/
def I64 (n : Int) : Prop := -9223372036854775808 ≤ n ∧ n ≤ 9223372036854775807
def Sp.I64 (a : Sp) : Prop := YtochpnomfedhoaaGreat.I64 a.lo ∧ YtochpnomfedhoaaGreat.I64 a.hi
def Bx.I64 (a : Bx) : Prop := a.x.I64 ∧ a.y.I64 ∧ a.z.I64
def Sp.okB (a : Sp) : Bool := numB a.lo && numB a.hi && decide (a.lo ≤ a.hi)
def Bx.okB (a : Bx) : Bool := a.x.okB && a.y.okB && a.z.okB
def Sp.inB (a b : Sp) : Bool := a.okB && b.okB && decide (b.lo ≤ a.lo) && decide (a.hi ≤ b.hi)
def Sp.hasB (a : Sp) (n : Int) : Bool := a.okB && decide (a.lo ≤ n) && decide (n ≤ a.hi)
def Sp.leastB (a : Sp) (n : Int) : Bool := a.okB && decide (n ≤ a.lo)
def Planet.okB (p : Planet) : Bool := p.pull.okB && (p.mu.okB && p.radius.okB && p.oblate.okB && p.spin.okB) && decide (0 ≤ p.mu.lo) && decide (0 ≤ p.radius.lo)
def State.okB (s : State) : Bool := numB s.t && (s.p.okB && s.v.okB) && s.m.okB && decide (1 ≤ s.m.lo)
def Tube.okB (t : Tube) : Bool := numB t.a && numB t.z && decide (t.a ≤ t.z) && (t.p.okB && t.v.okB) && t.m.okB && decide (1 ≤ t.m.lo)

def Bx.at (b : Bx) : Nat → Sp
  | 0 => b.x
  | 1 => b.y
  | _ => b.z
abbrev unit : Sp := ⟨-4294967296, 4294967296⟩
/-- The drag table of an arc lies in memory. -/
def DragAt (w : World) (a : Arc) (l : List Pt) : Prop := SlAt w (.slice a.drag.ao a.drag.n a.drag.cap) l.length (l.flatMap Pt.cells)

/-- The first of some Bools that is false. -/
theorem chain2 (a b : Bool) : a = false ∨ (a = true ∧ b = false) ∨ (a = true ∧ b = true) := by cases a <;> cases b <;> simp
theorem chain3 (a b c : Bool) : a = false ∨ (a = true ∧ b = false) ∨ (a = true ∧ b = true ∧ c = false) ∨ (a = true ∧ b = true ∧ c = true) := by cases a <;> cases b <;> cases c <;> simp
theorem chain4 (a b c d : Bool) : a = false ∨ (a = true ∧ b = false) ∨ (a = true ∧ b = true ∧ c = false) ∨ (a = true ∧ b = true ∧ c = true ∧ d = false) ∨ (a = true ∧ b = true ∧ c = true ∧ d = true) := by cases a <;> cases b <;> cases c <;> cases d <;> simp
theorem chain5 (a b c d e : Bool) : a = false ∨ (a = true ∧ b = false) ∨ (a = true ∧ b = true ∧ c = false) ∨ (a = true ∧ b = true ∧ c = true ∧ d = false) ∨ (a = true ∧ b = true ∧ c = true ∧ d = true ∧ e = false) ∨ (a = true ∧ b = true ∧ c = true ∧ d = true ∧ e = true) := by cases a <;> cases b <;> cases c <;> cases d <;> cases e <;> simp

theorem all_take_succ {α : Type} (f : α → Bool) (l : List α) (k : Nat) (h : k < l.length) (h1 : (l.take k).all f = true) (h2 : f l[k] = true) : (l.take (k + 1)).all f = true := by
  rw [List.take_succ_eq_append_getElem h, List.all_append, h1]
  simp [h2]
theorem all_false {α : Type} (f : α → Bool) (l : List α) (k : Nat) (h : k < l.length) (h2 : f l[k] = false) : l.all f = false := by
  rw [List.all_eq_false]
  exact ⟨l[k], List.getElem_mem h, by simp [h2]⟩
theorem all_true {α : Type} (f : α → Bool) (l : List α) (k : Nat) (h : l.length ≤ k) (h1 : (l.take k).all f = true) : l.all f = true := by
  rwa [List.take_of_length_le h] at h1

/-- A slice over a block that has just been made. -/
theorem SlAt.new (w : World) (l : List Value) (t : TypeId) (n cap : Nat) (hn : n ≤ maxLen) : SlAt (w.alloc (.cells l.toArray t)) (.slice (some ⟨w.heap.size, 0, none⟩) n cap) n l :=
  ⟨_, _, rfl, hn, fun i x hx => ⟨w.heap.size, 0, rfl, by rw [Nat.zero_add]; simpa using hx⟩⟩
theorem SlAt.fresh {w : World} {m : Nat} [h : SizeAt w m] (l : List Value) (t : TypeId) (n cap : Nat) (hn : n ≤ maxLen) : SlAt (w.alloc (.cells l.toArray t)) (.slice (some ⟨m, 0, none⟩) n cap) n l := by
  obtain rfl := h.eq
  exact SlAt.new w l t n cap hn
theorem SlAt.len_le {w : World} {v : Value} {n : Nat} {xs : List Value} (h : SlAt w v n xs) : n ≤ maxLen := by
  obtain ⟨_, _, _, h, _⟩ := h
  exact h
end Go.Proofs.YtochpnomfedhoaaGreat
