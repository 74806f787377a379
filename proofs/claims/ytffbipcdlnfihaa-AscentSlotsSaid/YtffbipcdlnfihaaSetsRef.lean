/-
  Contracts: ullageref04's edges and Mixed.
-/
import Derived.Test.YtffbipcdlnfihaaSetsOk
import Derived.Test.YtffbipcdlnfihaaAppSl
import Derived.Test.YtffbipcdlnfihaaEvers
import Derived.Test.YtffbipcdlnfihaaCore
import Derived.Deep.RegionHeld3
import Derived.Test.YtffbipcdlnfihaaRow
namespace Go.Proofs.Ytffbipcdlnfihaa
open Go.RowKit
set_option maxRecDepth 100000
set_option maxHeartbeats 8000000
theorem endsL_take (l : List (Int × Int)) (k : Nat) (hk : k < l.length) : endsL (l.take (k + 1)) = endsL (l.take k) ++ [l[k].1, l[k].2] := by
  unfold endsL
  rw [List.take_succ_eq_append_getElem hk, List.flatMap_append]
  simp
theorem intC_two (l : List Int) (a b : Int) : l.flatMap intC ++ [.int .i64 a, .int .i64 b] = (l ++ [a, b]).flatMap intC := by simp [intC]
def blkOfS : Value → Option Nat
  | .slice (some a) _ _ => some a.block
  | _ => none
/-- A slice does not lie in a row. -/
def Far (v r : Value) : Prop := ∀ b, blkOfS v = some b → r.ownBlock ≠ some b
theorem SlAt.far {w w' : World} {v r : Value} {n : Nat} {xs : List Value} (h : SlAt w v n xs) (hf : Far v r) (g : w.grownBy w' r.ownBlock) : SlAt w' v n xs := by
  obtain ⟨ao, cap, rfl, h0, h2⟩ := h
  refine ⟨ao, cap, rfl, h0, fun i x hx => ?_⟩
  obtain ⟨c, off, rfl, h4⟩ := h2 i x hx
  exact ⟨c, off, rfl, by rw [g.cell_far _ (World.block_lt_of_cell? w _ h4) (fun e => hf c rfl e.symm), h4]⟩
def lenV : Value → Nat
  | .slice _ n _ => n
  | _ => 0
def capOk : Value → Prop
  | .slice _ n c => n ≤ c
  | _ => True
theorem owns_capOk {w : World} {base : Nat} {e : TypeId} {size : Nat} {v : Value} {n : Nat} {xs : List Value} (h : w.ownsRow base e size v n xs) : capOk v := by
  rcases h.2 with ⟨rfl, rfl⟩ | ⟨g, cap, cur, rfl, -, -, h2, -⟩
  · exact Nat.le_refl _
  · exact h2
theorem far_new {w : World} {base : Nat} {e : TypeId} {size : Nat} {v r : Value} {n : Nat} {xs : List Value} (h : w.ownsRow base e size v n xs) (hr : ∀ b, r.ownBlock = some b → b < base) : Far v r := by
  intro b hb hr2
  rcases h.2 with ⟨rfl, rfl⟩ | ⟨g, cap, cur, rfl, hg, -⟩
  · cases hb
  · cases hb
    have := hr _ hr2
    simp only at this
    omega
theorem one_ints (l : List Int) : ∀ u ∈ l.flatMap intC, u.oneCell' = true := by
  intro u hu
  obtain ⟨x, -, hx⟩ := List.mem_flatMap.1 hu
  simp [intC] at hx
  subst hx
  rfl
theorem ints_part {w : World} {b off cap n : Nat} {l : List Int} (h : SlAt w (.slice (some ⟨b, off, none⟩) n cap) n (l.flatMap intC)) (i m c : Nat) (hm : i + m ≤ n) : SlAt w (.slice (some ⟨b, off + i, none⟩) m c) m (((l.drop i).take m).flatMap intC) := by
  have key : ∀ (l : List Int) i m, (((l.flatMap intC).drop i).take m) = ((l.drop i).take m).flatMap intC := by
    intro l
    have e : l.flatMap intC = l.map (fun a => Value.int .i64 a) := by
      induction l with
      | nil => rfl
      | cons a l ih => rw [List.flatMap_cons, ih]; rfl
    intro i m
    have e2 : ∀ l : List Int, l.flatMap intC = l.map (fun a => Value.int .i64 a) := by
      intro l
      induction l with
      | nil => rfl
      | cons a l ih => rw [List.flatMap_cons, ih]; rfl
    rw [e2, e2, List.map_take, List.map_drop]
  rw [← key]
  exact h.part i m c hm
end Go.Proofs.Ytffbipcdlnfihaa
