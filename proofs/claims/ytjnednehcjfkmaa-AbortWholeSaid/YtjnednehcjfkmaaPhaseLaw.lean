/-
  The phases of a plan: plain law.
-/
import Derived.Test.YtjnednehcjfkmaaCore
namespace Go.Proofs.Ytjnednehcjfkmaa
open Go.RowKit

structure Ph where
  mode : Int
  first : Int
  last : Int
  a : Int
  z : Int
def Ph.cells (p : Ph) : List Value := [.int .i64 p.mode, .int .i64 p.first, .int .i64 p.last, .int .i64 p.a, .int .i64 p.z]
instance : Inhabited Tube := ⟨⟨0, 0, ⟨⟨0, 0⟩, ⟨0, 0⟩, ⟨0, 0⟩⟩, ⟨⟨0, 0⟩, ⟨0, 0⟩, ⟨0, 0⟩⟩, ⟨0, 0⟩⟩⟩
abbrev plAt (P : List Int) (k : Nat) : Int := P[k]?.getD 0
abbrev tuAt (T : List Tube) (k : Nat) : Tube := T[k]?.getD default
/-- A phase from a place to another one. -/
def phOf (P : List Int) (T : List Tube) (x : Nat × Nat) : Ph := ⟨plAt P x.1, x.1, x.2, (tuAt T x.1).a, (tuAt T x.2).z⟩
/-- The last phase goes on to a place. -/
def goOn (T : List Tube) (k : Nat) (l : List Ph) : List Ph :=
  match l.getLast? with
  | some p => l.dropLast ++ [⟨p.mode, p.first, k, p.a, (tuAt T k).z⟩]
  | none => l
/-- Whether a place has the mode of the one before. -/
def samB (P : List Int) (k : Nat) : Bool := decide (0 < k) && decide (plAt P k = plAt P (k - 1))
/-- The phases of the first k places. -/
def phAt (P : List Int) (T : List Tube) : Nat → List Ph
  | 0 => []
  | k + 1 => if samB P k = true then goOn T k (phAt P T k) else phAt P T k ++ [phOf P T (k, k)]
/-- The runs that have ended within the first k places, and where the next one begins. -/
def runsSt (P : List Int) : Nat → List (Nat × Nat) × Nat
  | 0 => ([], 0)
  | k + 1 => if k + 1 < P.length ∧ plAt P (k + 1) = plAt P k then runsSt P k else ((runsSt P k).1 ++ [((runsSt P k).2, k)], k + 1)
theorem goOn_snoc (T : List Tube) (k : Nat) (l : List Ph) (p : Ph) : goOn T k (l ++ [p]) = l ++ [⟨p.mode, p.first, k, p.a, (tuAt T k).z⟩] := by
  unfold goOn
  simp
theorem runs_inv (P : List Int) (T : List Tube) (k : Nat) (hk : k ≤ P.length) :
    ((runsSt P k).2 = k ∧ phAt P T k = (runsSt P k).1.map (phOf P T) ∧ (k < P.length → samB P k = false)) ∨
    ((runsSt P k).2 < k ∧ k < P.length ∧ samB P k = true ∧ phAt P T k = (runsSt P k).1.map (phOf P T) ++ [phOf P T ((runsSt P k).2, k - 1)]) := by
  induction k with
  | zero => exact .inl ⟨rfl, rfl, fun _ => rfl⟩
  | succ k ih =>
    have hph : (runsSt P k).2 ≤ k ∧ phAt P T (k + 1) = (runsSt P k).1.map (phOf P T) ++ [phOf P T ((runsSt P k).2, k)] := by
      rcases ih (by omega) with ⟨h1, h2, h3⟩ | ⟨h1, h2, h3, h4⟩
      · refine ⟨by omega, ?_⟩
        rw [phAt, if_neg (by rw [h3 (by omega)]; decide), h2, h1]
      · refine ⟨by omega, ?_⟩
        rw [phAt, if_pos h3, h4, goOn_snoc]
        rfl
    by_cases h : k + 1 < P.length ∧ plAt P (k + 1) = plAt P k
    · right
      rw [runsSt, if_pos h]
      exact ⟨by omega, h.1, by unfold samB; simp [h.2], hph.2⟩
    · left
      rw [runsSt, if_neg h]
      refine ⟨rfl, by rw [hph.2]; simp, fun h1 => ?_⟩
      unfold samB
      simp
      intro h2
      exact h ⟨h1, h2⟩
theorem runs_all (P : List Int) (T : List Tube) : (runsSt P P.length).1.map (phOf P T) = phAt P T P.length := by
  rcases runs_inv P T P.length (Nat.le_refl _) with ⟨-, h, -⟩ | ⟨-, h, -⟩
  · exact h.symm
  · omega
theorem runs_le (P : List Int) (k : Nat) : (runsSt P k).1.length ≤ k ∧ (runsSt P k).2 ≤ k := by
  induction k with
  | zero => exact ⟨Nat.le_refl _, Nat.le_refl _⟩
  | succ k ih =>
    rw [runsSt]
    split
    · exact ⟨by omega, by omega⟩
    · simp; omega
theorem phAt_len (P : List Int) (T : List Tube) (k : Nat) : (phAt P T k).length ≤ k ∧ (0 < k → phAt P T k ≠ []) := by
  induction k with
  | zero => exact ⟨Nat.le_refl _, fun h => absurd h (by omega)⟩
  | succ k ih =>
    rw [phAt]
    split
    · rename_i h
      have h0 : 0 < k := by unfold samB at h; simp at h; exact h.1
      have := ih.2 h0
      unfold goOn
      cases hl : (phAt P T k).getLast? with
      | none => rw [List.getLast?_eq_none_iff] at hl; exact absurd hl this
      | some p =>
        have h2 : 0 < (phAt P T k).length := List.length_pos_iff.2 this
        simp
        omega
    · simp; omega
/-- Whether tubes are a flight. -/
def flB (T : List Tube) (k : Nat) : Bool := (tuAt T k).okB && (decide (k = 0) || decide ((tuAt T k).a = (tuAt T (k - 1)).z))
def flownB (T : List Tube) : Bool := (List.range T.length).all (flB T)
def pickB (n : Int) : Bool := decide (-1 ≤ n) && decide (n ≤ 15)
def phasesCode (P : List Int) (T : List Tube) : Int :=
  if P.length ≤ 4096 ∧ T.length ≤ 4096 then (if flownB T = true ∧ P.length = T.length ∧ P.all pickB = true then 0 else 2) else 3
def phasesL (P : List Int) (T : List Tube) : List Ph := if phasesCode P T = 0 then phAt P T P.length else []
end Go.Proofs.Ytjnednehcjfkmaa
