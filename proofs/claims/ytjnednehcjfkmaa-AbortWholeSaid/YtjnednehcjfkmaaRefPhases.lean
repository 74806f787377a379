/-
  Contracts: ullageref11's Phases.
-/
import Derived.Laws.OwnMore
import Derived.Test.YtjnednehcjfkmaaFlown
import Derived.Test.YtjnednehcjfkmaaEvers
import Derived.Test.YtjnednehcjfkmaaCore
import Derived.Deep.RegionHeld3
import Derived.Test.YtjnednehcjfkmaaRow
namespace Go.Proofs.Ytjnednehcjfkmaa
open Go.RowKit
set_option maxRecDepth 100000
set_option maxHeartbeats 8000000
/-- What Phases hands back. -/
def RetPh (c : Int) (l : List Ph) (w : World) (e : Ending) (w' : World) : Prop :=
  ∃ v, e = .returned (.tuple #[v, .int .i64 c]) ∧ SlAt w' v l.length (l.flatMap Ph.cells) ∧ Grew w w'
theorem RetPh.nil {P : List Int} {T : List Tube} {c : Int} {w w' : World} (hc : phasesCode P T = c) (h0 : c ≠ 0) (g : Grew w w') : RetPh (phasesCode P T) (phasesL P T) w (.returned (.tuple #[.slice none 0 0, .int .i64 c])) w' := by
  refine ⟨.slice none 0 0, by rw [hc], ?_, g⟩
  unfold phasesL
  rw [if_neg (by rw [hc]; exact h0)]
  exact SlAt.nil _
theorem RetPh.full {P : List Int} {T : List Tube} {v : Value} {w w' : World} (hc : phasesCode P T = 0) (hs : SlAt w' v (phAt P T P.length).length ((phAt P T P.length).flatMap Ph.cells)) (g : Grew w w') : RetPh (phasesCode P T) (phasesL P T) w (.returned (.tuple #[v, .int .i64 0])) w' := by
  refine ⟨v, by rw [hc], ?_, g⟩
  unfold phasesL
  rw [if_pos hc]
  exact hs
theorem ph_long {P : List Int} {T : List Tube} (h : 4096 < P.length ∨ 4096 < T.length) : phasesCode P T = 3 := by
  unfold phasesCode
  rw [if_neg (by omega)]
theorem ph_arg {P : List Int} {T : List Tube} (h1 : P.length ≤ 4096) (h2 : T.length ≤ 4096) (h : ¬ (flownB T = true ∧ P.length = T.length ∧ P.all pickB = true)) : phasesCode P T = 2 := by
  unfold phasesCode
  rw [if_pos ⟨h1, h2⟩, if_neg h]
theorem ph_ok {P : List Int} {T : List Tube} (h1 : P.length ≤ 4096) (h2 : T.length ≤ 4096) (h : flownB T = true ∧ P.length = T.length ∧ P.all pickB = true) : phasesCode P T = 0 := by
  unfold phasesCode
  rw [if_pos ⟨h1, h2⟩, if_pos h]
theorem plAt_is (P : List Int) (k : Nat) (h : k < P.length) : plAt P k = P[k] := by unfold plAt; simp [h]
theorem int_cells {w : World} {ao : Option Addr} {l : List Int} (h : ∀ i x, (l.flatMap intC)[i]? = some x → ∃ b off, ao = some ⟨b, off, none⟩ ∧ w.cell? ⟨b, off + i, none⟩ = some x) (k : Nat) (hk : k < l.length) :
    ∃ b off, ao = some ⟨b, off, none⟩ ∧ BlockIn w b ∧ w.cell? ⟨b, off + k, none⟩ = some (.int .i64 (plAt l k)) := by
  obtain ⟨b, off, e, hb, h1, -⟩ := SlAt.elem (f := intC) (c := 1) (fun _ => rfl) (by omega) h k hk
  refine ⟨b, off, e, ⟨hb⟩, ?_⟩
  have := h1 _ rfl
  rw [Nat.mul_one] at this
  rw [this, plAt_is l k hk]
theorem tube_two {w : World} {ao : Option Addr} {l : List Tube} (h : ∀ i x, (l.flatMap Tube.cells)[i]? = some x → ∃ b off, ao = some ⟨b, off, none⟩ ∧ w.cell? ⟨b, off + i, none⟩ = some x) (k : Nat) (hk : k < l.length) :
    ∃ b off, ao = some ⟨b, off, none⟩ ∧ BlockIn w b ∧ w.cell? ⟨b, off + k * 16, none⟩ = some (.int .i64 (tuAt l k).a) ∧ w.cell? ⟨b, off + k * 16 + 1, none⟩ = some (.int .i64 (tuAt l k).z) := by
  obtain ⟨b, off, e, hb, -, -, h1, h2⟩ := fl_tube_cells h k hk
  have e2 : tuAt l k = l[k] := by unfold tuAt; simp [hk]
  exact ⟨b, off, e, hb, by rw [h1, e2], by rw [h2, e2]⟩
theorem infoPh : (Try.prog.info? 60).map (fun i => (i.zero, i.size, i.bytes)) = some (some (.agg #[.int .i64 0, .int .i64 0, .int .i64 0, .int .i64 0, .int .i64 0]), 5, 40) := by kernel_rfl
theorem ph_cells_len (l : List Ph) : (l.flatMap Ph.cells).length = l.length * 5 := flat_len Ph.cells 5 (fun _ => rfl) l
/-- The last phase goes on: the cells. -/
theorem goOn_cells (T : List Tube) (k : Nat) (l : List Ph) (p : Ph) : (((l ++ [p]).flatMap Ph.cells).set (l.length * 5 + 2) (.int .i64 k)).set (l.length * 5 + 4) (.int .i64 (tuAt T k).z) = (goOn T k (l ++ [p])).flatMap Ph.cells := by
  have hl := ph_cells_len l
  rw [goOn_snoc, List.flatMap_append, List.flatMap_append]
  rw [List.set_append_right _ _ (by omega), List.set_append_right _ _ (by omega), hl]
  rw [show l.length * 5 + 2 - l.length * 5 = 2 by omega, show l.length * 5 + 4 - l.length * 5 = 4 by omega]
  rfl
theorem goOn_len (T : List Tube) (k : Nat) (l : List Ph) (p : Ph) : (goOn T k (l ++ [p])).length = l.length + 1 := by rw [goOn_snoc]; simp
theorem ph_last (P : List Int) (T : List Tube) (k : Nat) (h : 0 < k) : ∃ l p, phAt P T k = l ++ [p] := by
  have h1 := (phAt_len P T k).2 h
  exact ⟨_, _, (List.dropLast_concat_getLast h1).symm⟩
end Go.Proofs.Ytjnednehcjfkmaa
