/-
  The phases of a plan are its tubes, without gaps: plain law.
-/
import Derived.Test.YtjnednehcjfkmaaPhaseLaw
import Derived.Test.YtjnednehcjfkmaaFewAll
namespace Go.Proofs.Ytjnednehcjfkmaa
open Go.RowKit

/-- A phase of the places from a to z. -/
def phIs (P : List Int) (T : List Tube) (p : Ph) (a z : Nat) : Prop := p = phOf P T (a, z) ∧ a ≤ z ∧ ∀ k, a ≤ k → k ≤ z → plAt P k = p.mode
/-- Phases that are the first k places. -/
inductive Tl (P : List Int) (T : List Tube) : Nat → List Ph → Prop
  | nil : Tl P T 0 []
  | snoc {a z : Nat} {l : List Ph} {p : Ph} : Tl P T a l → phIs P T p a z → (∀ q, l.getLast? = some q → q.mode ≠ p.mode) → Tl P T (z + 1) (l ++ [p])
theorem Tl.pos {P : List Int} {T : List Tube} {k : Nat} {l : List Ph} (h : Tl P T k l) : k = 0 ↔ l = [] := by
  cases h with
  | nil => simp
  | snoc _ _ _ => simp
theorem tl_all (P : List Int) (T : List Tube) (k : Nat) : Tl P T k (phAt P T k) := by
  induction k with
  | zero => exact .nil
  | succ k ih =>
    rw [phAt]
    split
    · rename_i h
      unfold samB at h
      simp at h
      generalize phAt P T k = l at *
      cases ih with
      | nil => omega
      | @snoc a z l p h1 h2 h3 =>
        rw [goOn_snoc]
        obtain ⟨rfl, h5, h6⟩ := h2
        refine .snoc (a := a) (z := z + 1) h1 ⟨?_, by omega, ?_⟩ h3
        · unfold phOf
          rfl
        · intro j hj1 hj2
          show plAt P j = plAt P a
          by_cases c : j = z + 1
          · subst c
            rw [h.2, Nat.add_sub_cancel]
            exact h6 z h5 (Nat.le_refl _)
          · exact h6 j hj1 (by omega)
    · rename_i h
      refine .snoc (a := k) (z := k) ih ⟨rfl, Nat.le_refl _, ?_⟩ ?_
      · intro j h1 h2
        rw [show j = k by omega]
        rfl
      · intro q hq
        unfold samB at h
        simp at h
        generalize phAt P T k = l at *
        cases ih with
        | nil => simp at hq
        | @snoc a z l p h1 h2 h3 =>
          simp at hq
          subst hq
          have h4 := h (by omega)
          obtain ⟨-, h5, h6⟩ := h2
          have h7 := h6 z h5 (Nat.le_refl _)
          intro e
          exact h4 (by show plAt P (z + 1) = _; rw [Nat.add_sub_cancel, h7, e]; rfl)
/-- The phase at an index, behind those before. -/
theorem Tl.at {P : List Int} {T : List Tube} {k : Nat} {l : List Ph} (h : Tl P T k l) (i : Nat) (hi : i < l.length) : ∃ a z, Tl P T a (l.take i) ∧ phIs P T l[i] a z ∧ Tl P T (z + 1) (l.take (i + 1)) ∧ z < k ∧ (∀ q, (l.take i).getLast? = some q → q.mode ≠ l[i].mode) := by
  induction h with
  | nil => simp at hi
  | @snoc a z l p h1 h2 h3 ih =>
    by_cases c : i < l.length
    · obtain ⟨a', z', g1, g2, g3, g4, g5⟩ := ih c
      have ha : a ≤ z := h2.2.1
      refine ⟨a', z', ?_, ?_, ?_, by omega, ?_⟩
      · rw [List.take_append_of_le_length (by omega)]; exact g1
      · rw [List.getElem_append_left c]; exact g2
      · rw [List.take_append_of_le_length (by omega)]; exact g3
      · rw [List.take_append_of_le_length (by omega), List.getElem_append_left c]; exact g5
    · have e : i = l.length := by simp at hi; omega
      subst e
      refine ⟨a, z, ?_, ?_, ?_, by omega, ?_⟩
      · simpa using h1
      · simpa using h2
      · rw [List.take_of_length_le (by simp)]
        exact .snoc h1 h2 h3
      · simpa using h3
/-- Phases of the same list end at the same place. -/
theorem Tl.one {P : List Int} {T : List Tube} {k j : Nat} {l : List Ph} (h : Tl P T k l) (g : Tl P T j l) : k = j := by
  cases h with
  | nil =>
    exact (g.pos.2 rfl).symm
  | @snoc a z l p h1 h2 h3 =>
    generalize hl : l ++ [p] = m at g
    cases g with
    | nil => simp at hl
    | @snoc a' z' l' p' g1 g2 g3 =>
      have e : p = p' := by
        have := congrArg List.getLast? hl
        simpa using this
      subst e
      obtain ⟨e1, -⟩ := h2
      obtain ⟨e2, -⟩ := g2
      rw [e1] at e2
      unfold phOf at e2
      injection e2 with _ _ e3
      simp at e3
      omega
theorem Tl.last {P : List Int} {T : List Tube} {k : Nat} {l : List Ph} {q : Ph} (h : Tl P T k l) (hq : l.getLast? = some q) : 0 < k ∧ q.z = (tuAt T (k - 1)).z := by
  cases h with
  | nil => simp at hq
  | @snoc a z l p h1 h2 h3 =>
    simp at hq
    subst hq
    refine ⟨by omega, ?_⟩
    rw [h2.1]
    rfl
/-- One more than the changes. -/
theorem ph_len (P : List Int) (T : List Tube) (k : Nat) : ((phAt P T k).length : Int) = chA (plAt P) k + (if k = 0 then 0 else 1) := by
  induction k with
  | zero => rfl
  | succ k ih =>
    rw [phAt, chA, if_neg (show ¬ k + 1 = 0 by omega)]
    have hlen : ∀ l : List Ph, l ≠ [] → (goOn T k l).length = l.length := by
      intro l hl
      obtain ⟨l', p, rfl⟩ : ∃ l' p, l = l' ++ [p] := ⟨l.dropLast, l.getLast hl, (List.dropLast_concat_getLast hl).symm⟩
      rw [goOn_snoc]
      simp
    by_cases h0 : k = 0
    · subst h0
      rfl
    · rw [if_neg h0] at ih ⊢
      by_cases h : samB P k = true
      · rw [if_pos h, hlen _ ((phAt_len P T k).2 (by omega)), ih]
        unfold samB at h
        simp at h
        unfold chg
        rw [if_pos h.2.symm]
        omega
      · rw [if_neg h]
        unfold samB at h
        simp at h
        unfold chg
        rw [if_neg (fun e => h (by omega) e.symm)]
        simp
        omega
end Go.Proofs.Ytjnednehcjfkmaa
