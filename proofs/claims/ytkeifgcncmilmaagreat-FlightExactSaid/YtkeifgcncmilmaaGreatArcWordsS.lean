/-
  Plain words: lists of arcs in memory, their errors.
-/
import Derived.Test.YtkeifgcncmilmaaGreatFlightOksS
namespace Go.Proofs.YtkeifgcncmilmaaGreat
open Go.RowKit
set_option maxRecDepth 100000
abbrev Arcs := List (Arc × List Pt)
def arcCells (x : Arc × List Pt) : List Value := x.1.cells
/-- The arcs of a list lie in memory, with their drag tables. -/
def ArcsAt (w : World) (v : Value) (L : Arcs) : Prop :=
  SlAt w v L.length (L.flatMap arcCells) ∧ ∀ x ∈ L, DragAt w x.1 x.2 ∧ x.1.time ≤ 9223372036854775807 ∧ x.1.step ≤ 9223372036854775807
theorem ArcsAt.grew {w w' : World} {v : Value} {L : Arcs} (h : ArcsAt w v L) (g : Grew w w') : ArcsAt w' v L :=
  ⟨h.1.grew g, fun x hx => ⟨(h.2 x hx).1.grew g, (h.2 x hx).2⟩⟩
/-- The steps of arcs, from a sum on, are at most so many together, and no arc has an error. -/
def fitB (most : Int) : Int → Arcs → Bool
  | _, [] => true
  | s, x :: r => decide (stepsCode x.1 x.2 = 0) && decide (s + stepsNum x.1 x.2 ≤ most) && fitB most (s + stepsNum x.1 x.2) r
theorem stepsNum_bd (a : Arc) (l : List Pt) : 0 ≤ stepsNum a l ∧ stepsNum a l ≤ 4096 := by
  unfold stepsNum
  split
  · rename_i h
    unfold stepsCode at h
    split at h
    · rename_i hok
      split at h
      · have := arc_pos hok
        have := steps_bd a this.1 this.2
        omega
      · cases h
    · cases h
  · omega
theorem drop_cons (L : Arcs) (k : Nat) (h : k < L.length) : L.drop k = L[k] :: L.drop (k + 1) := List.drop_eq_getElem_cons h
/-- The error of the arcs of a flight. -/
def badB (x : Arc × List Pt) : Bool := !(x.1.okB x.2)
def arcsCode (L : Arcs) : Int := if L.any badB = true then 2 else if decide (L.length ≤ 32) && fitB 4096 0 L then 0 else 3
end Go.Proofs.YtkeifgcncmilmaaGreat
