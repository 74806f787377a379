/-
  Contracts: slices.IndexFunc, slices.ContainsFunc and abort.every at lists of int.
  Lists of int that grow by append; contracts: SameInts, the errors of masks, the choices of a mask, Gaps.
-/
import Derived.Shelf.Abstract
import Derived.Test.YtffbipcdlnfihaaProg
import Derived.Test.YtffbipcdlnfihaaCore
import Derived.Maps.AppendAt
namespace Go.Proofs.Ytffbipcdlnfihaa
open Go.RowKit
set_option maxRecDepth 100000
set_option maxHeartbeats 2000000
def intC (a : Int) : List Value := [.int .i64 a]
/-- The place of the first element that a predicate takes, -1 for none. -/
def idxGo {α : Type} (p : α → Bool) : Nat → List α → Int
  | _, [] => -1
  | k, x :: r => if p x = true then k else idxGo p (k + 1) r
theorem idxGo_drop {α : Type} (p : α → Bool) (l : List α) (k : Nat) (h : k < l.length) : idxGo p k (l.drop k) = if p l[k] = true then (k : Int) else idxGo p (k + 1) (l.drop (k + 1)) := by
  rw [List.drop_eq_getElem_cons h]
  rfl
theorem idxGo_end {α : Type} (p : α → Bool) (l : List α) (k : Nat) (h : l.length ≤ k) : idxGo p k (l.drop k) = -1 := by
  rw [List.drop_of_length_le h]
  rfl
theorem idxGo_any {α : Type} (p : α → Bool) (l : List α) : ∀ k : Nat, decide (0 ≤ idxGo p k l) = l.any p ∧ idxGo p k l < k + l.length := by
  induction l with
  | nil => intro k; exact ⟨rfl, by unfold idxGo; simp; omega⟩
  | cons x r ih =>
    intro k
    unfold idxGo
    cases h : p x
    · rw [if_neg (by decide), List.any_cons, h]
      have := ih (k + 1)
      exact ⟨by rw [this.1]; rfl, by have := this.2; simp at this ⊢; omega⟩
    · rw [if_pos rfl, List.any_cons, h]
      exact ⟨by simp, by simp; omega⟩
theorem all_not_any {α : Type} (p : α → Bool) (l : List α) : l.all p = !l.any (fun x => !p x) := by
  induction l with
  | nil => rfl
  | cons x r ih => rw [List.all_cons, List.any_cons, ih]; simp
/-- A function value that tells what p tells, wherever it is called. -/
def PredOk (g : Nat) (lb : Array Value) (p : Int → Bool) (w0 : World) : Prop := ∀ (w : World) (x : Int), Grew w0 w → Calls Try.prog g (#[.int .i64 x] ++ lb) w fun e w' => e = .returned (.bool (p x)) ∧ Grew w w'
theorem PredOk.grew {g : Nat} {lb : Array Value} {p : Int → Bool} {w w' : World} (h : PredOk g lb p w) (k : Grew w w') : PredOk g lb p w' := fun W x hW => h W x (k.trans hW)
end Go.Proofs.Ytffbipcdlnfihaa
namespace Go.Proofs.Ytffbipcdlnfihaa
open Go.RowKit
set_option maxRecDepth 100000
set_option maxHeartbeats 2000000
theorem infoInt : (Try.prog.info? 3).map (fun i => (i.zero, i.size, i.bytes)) = some (some (.int .i64 0), 1, 8) := by kernel_rfl
theorem intC_snoc (l : List Int) (k : Int) : l.flatMap intC ++ [.int .i64 k] = (l ++ [k]).flatMap intC := by simp [intC]
theorem intC_len (l : List Int) : (l.flatMap intC).length = l.length := by
  induction l with
  | nil => rfl
  | cons a l ih => rw [List.flatMap_cons, List.length_append, ih]; simp [intC]; omega
/-- What a function hands back that returns a list of int. -/
def RetInts (l : List Int) (w : World) (e : Ending) (w' : World) : Prop :=
  ∃ v, e = .returned v ∧ SlAt w' v l.length (l.flatMap intC) ∧ Grew w w'
/-- .. with a code. -/
def RetIntsC (l : List Int) (c : Int) (w : World) (e : Ending) (w' : World) : Prop :=
  ∃ v, e = .returned (.tuple #[v, .int .i64 c]) ∧ SlAt w' v l.length (l.flatMap intC) ∧ Grew w w'
theorem int_cell {w : World} {v : Value} {l : List Int} (h : SlAt w v l.length (l.flatMap intC)) (k : Nat) (hk : k < l.length) :
    ∃ b off cap, v = .slice (some ⟨b, off, none⟩) l.length cap ∧ BlockIn w b ∧ w.cell? ⟨b, off + k, none⟩ = some (.int .i64 l[k]) := by
  obtain ⟨ao, cap, rfl, hm, hc⟩ := h
  obtain ⟨b, off, rfl, hb, h1, -⟩ := SlAt.elem (f := intC) (c := 1) (fun _ => rfl) (by omega) hc k hk
  refine ⟨b, off, cap, rfl, ⟨hb⟩, ?_⟩
  have := h1 _ rfl
  rwa [Nat.mul_one] at this
theorem sl_form {w : World} {v : Value} {n : Nat} {xs : List Value} (h : SlAt w v n xs) : ∃ ao cap, v = .slice ao n cap ∧ n ≤ 2 ^ 63 - 1 := by
  obtain ⟨ao, cap, rfl, hm, -⟩ := h
  exact ⟨ao, cap, rfl, by unfold maxLen at hm; exact hm⟩
end Go.Proofs.Ytffbipcdlnfihaa
