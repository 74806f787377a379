/-
  The plan with the fewest changes: plain law.
-/
import Derived.Test.YtgjikdhidakloaaVocab
namespace Go.Proofs.Ytgjikdhidakloaa
open Go.RowKit

def bitB (m : Int) (i : Nat) : Bool := decide (m / 2 ^ i % 2 = 1)
/-- The modes of a mask. -/
def bitsL (m : Int) (k : Nat) : List Int := ((List.range k).filter (bitB m)).map (fun i : Nat => (i : Int))
def choicesL (m : Int) : List Int := if m = 0 then [-1] else bitsL m 16
def chg (a b : Int) : Int := if a = b then 0 else 1
/-- One more (mode, cost): the first of the least; a cost below 0 is none. -/
def bestS (s x : Int × Int) : Int × Int := if s.2 < 0 ∨ x.2 < s.2 then x else s
def best (l : List (Int × Int)) : Int × Int := l.foldl bestS (0, -1)
/-- The costs of choices, behind a mode. -/
def behind (own : Int) (l : List (Int × Int)) : List (Int × Int) := l.map fun x => (x.1, x.2 + chg own x.1)
/-- The costs from each place on, for each choice there. -/
def costs : List Int → List (List (Int × Int))
  | [] => []
  | m :: r => (match costs r with
    | [] => (choicesL m).map fun c => (c, 0)
    | l :: _ => (choicesL m).map fun c => (c, (best (behind c l)).2)) :: costs r
/-- .. at a place. -/
def cst (l : List Int) (i : Nat) : List (Int × Int) := (costs l)[i]?.getD []
/-- What a place of the plan has, with its cost: behind a mode there. -/
def selO (l : List Int) : Nat → Int × Int
  | 0 => best (cst l 0)
  | i + 1 => best (behind (selO l i).1 (cst l (i + 1)))
def planL (l : List Int) : List Int := (List.range l.length).map fun i => (selO l i).1
def planN (l : List Int) : Int := if l.length = 0 then 0 else (selO l 0).2
theorem bitsL_succ (m : Int) (k : Nat) : bitsL m (k + 1) = if bitB m k = true then bitsL m k ++ [(k : Int)] else bitsL m k := by
  unfold bitsL
  rw [List.range_succ, List.filter_append, List.map_append]
  by_cases h : bitB m k = true <;> simp [h]
theorem bitsL_len (m : Int) (k : Nat) : (bitsL m k).length ≤ k := by
  unfold bitsL
  rw [List.length_map]
  exact Nat.le_trans (List.length_filter_le _ _) (by simp)
theorem choicesL_len (m : Int) : (choicesL m).length ≤ 16 := by
  unfold choicesL
  split
  · simp
  · exact bitsL_len m 16
theorem choicesL_bd (m : Int) : ∀ c ∈ choicesL m, -1 ≤ c ∧ c < 16 := by
  unfold choicesL bitsL
  intro c hc
  split at hc
  · simp at hc; omega
  · simp at hc; obtain ⟨a, ⟨h, -⟩, rfl⟩ := hc; omega
theorem bits_none (m : Int) : ∀ k : Nat, (∀ i, i < k → m / 2 ^ i % 2 = 0) → ∃ q : Int, m = 2 ^ k * q := by
  intro k
  induction k with
  | zero => intro _; exact ⟨m, by simp⟩
  | succ k ih =>
    intro h
    obtain ⟨q, hq⟩ := ih (fun i hi => h i (by omega))
    have h1 := h k (by omega)
    have hp : (2 : Int) ^ k ≠ 0 := by
      have : (0 : Int) < 2 ^ k := Int.pow_pos (by decide)
      omega
    rw [hq, Int.mul_ediv_cancel_left _ hp] at h1
    refine ⟨q / 2, ?_⟩
    rw [hq, Int.pow_succ, Int.mul_assoc]
    congr 1
    omega
/-- A mask that is not 0 has a mode. -/
theorem bits_some (m : Int) (h0 : 0 < m) (h1 : m < 65536) : bitsL m 16 ≠ [] := by
  intro h
  have hn : ∀ i, i < 16 → m / 2 ^ i % 2 = 0 := by
    intro i hi
    unfold bitsL at h
    rw [List.map_eq_nil_iff, List.filter_eq_nil_iff] at h
    have := h i (by simpa using hi)
    unfold bitB at this
    simp at this
    omega
  obtain ⟨q, hq⟩ := bits_none m 16 hn
  omega
theorem choices_some (m : Int) (h0 : 0 ≤ m) (h1 : m < 65536) : choicesL m ≠ [] := by
  unfold choicesL
  split
  · simp
  · exact bits_some m (by omega) h1
theorem costs_len (l : List Int) : (costs l).length = l.length := by
  induction l with
  | nil => rfl
  | cons m r ih => simp [costs, ih]
theorem cst_cons (m : Int) (r : List Int) (i : Nat) : cst (m :: r) (i + 1) = cst r i := by
  unfold cst
  rw [costs, List.getElem?_cons_succ]
theorem cst_zero (m : Int) (r : List Int) : cst (m :: r) 0 = (choicesL m).map fun c => (c, if r = [] then 0 else (best (behind c (cst r 0))).2) := by
  unfold cst
  rw [costs, List.getElem?_cons_zero, Option.getD_some]
  cases r with
  | nil => simp [costs]
  | cons a r =>
    rw [costs]
    simp
/-- The costs, from behind. -/
theorem cst_is (l : List Int) (i : Nat) (h : i < l.length) : cst l i = (choicesL l[i]).map fun c => (c, if i + 1 = l.length then 0 else (best (behind c (cst l (i + 1)))).2) := by
  induction l generalizing i with
  | nil => simp at h
  | cons m r ih =>
    cases i with
    | zero =>
      rw [cst_zero, cst_cons]
      have : (r = []) = (0 + 1 = (m :: r).length) := by
        cases r <;> simp
      simp only [this]
      rfl
    | succ i =>
      rw [cst_cons, ih i (by simpa using h), cst_cons]
      simp
theorem cst_out (l : List Int) (i : Nat) (h : l.length ≤ i) : cst l i = [] := by
  unfold cst
  rw [List.getElem?_eq_none (by rw [costs_len]; exact h)]
  rfl
theorem cst_fst (l : List Int) (i : Nat) (h : i < l.length) : (cst l i).map (·.1) = choicesL l[i] := by
  rw [cst_is l i h, List.map_map]
  exact List.map_id' _
theorem cst_len (l : List Int) (i : Nat) (h : i < l.length) : (cst l i).length = (choicesL l[i]).length := by rw [← cst_fst l i h, List.length_map]
theorem chg_bd (a b : Int) : 0 ≤ chg a b ∧ chg a b ≤ 1 := by unfold chg; split <;> omega
/-! The best one. -/
theorem foldl_best (l : List (Int × Int)) (h : ∀ x ∈ l, 0 ≤ x.2) (s : Int × Int) (hs : 0 ≤ s.2) :
    (l.foldl bestS s = s ∧ ∀ x ∈ l, s.2 ≤ x.2) ∨ ∃ k, ∃ hk : k < l.length, l.foldl bestS s = l[k] ∧ (∀ x ∈ l, l[k].2 ≤ x.2) ∧ l[k].2 < s.2 ∧ ∀ j (hj : j < k), l[k].2 < (l[j]'(by omega)).2 := by
  induction l generalizing s with
  | nil => exact .inl ⟨rfl, by simp⟩
  | cons y r ih =>
    have hy := h y (by simp)
    have hr : ∀ x ∈ r, 0 ≤ x.2 := fun x hx => h x (by simp [hx])
    rw [List.foldl_cons]
    by_cases c : y.2 < s.2
    · rw [show bestS s y = y by unfold bestS; rw [if_pos (.inr c)]]
      rcases ih hr y hy with ⟨e, h1⟩ | ⟨k, hk, e, h1, h2, h3⟩
      · refine .inr ⟨0, by simp, by simpa using e, ?_, by simpa using c, fun j hj => by omega⟩
        intro x hx
        rcases List.mem_cons.1 hx with rfl | hx
        · simp
        · simpa using h1 x hx
      · refine .inr ⟨k + 1, by simpa using hk, by simpa using e, ?_, by simp; omega, ?_⟩
        · intro x hx
          rcases List.mem_cons.1 hx with rfl | hx
          · simp; omega
          · simpa using h1 x hx
        · intro j hj
          cases j with
          | zero => simpa using h2
          | succ j => simpa using h3 j (by omega)
    · rw [show bestS s y = s by unfold bestS; rw [if_neg (by omega)]]
      rcases ih hr s hs with ⟨e, h1⟩ | ⟨k, hk, e, h1, h2, h3⟩
      · refine .inl ⟨e, ?_⟩
        intro x hx
        rcases List.mem_cons.1 hx with rfl | hx
        · omega
        · exact h1 x hx
      · refine .inr ⟨k + 1, by simpa using hk, by simpa using e, ?_, by simpa using h2, ?_⟩
        · intro x hx
          rcases List.mem_cons.1 hx with rfl | hx
          · simp; omega
          · simpa using h1 x hx
        · intro j hj
          cases j with
          | zero => simp; omega
          | succ j => simpa using h3 j (by omega)
theorem best_is (l : List (Int × Int)) (h : ∀ x ∈ l, 0 ≤ x.2) (h0 : l ≠ []) :
    ∃ k, ∃ hk : k < l.length, best l = l[k] ∧ (∀ x ∈ l, l[k].2 ≤ x.2) ∧ ∀ j (hj : j < k), l[k].2 < (l[j]'(by omega)).2 := by
  cases l with
  | nil => exact absurd rfl h0
  | cons y r =>
    have hy := h y (by simp)
    have hr : ∀ x ∈ r, 0 ≤ x.2 := fun x hx => h x (by simp [hx])
    unfold best
    rw [List.foldl_cons, show bestS (0, -1) y = y by unfold bestS; rw [if_pos (.inl (by decide))]]
    rcases foldl_best r hr y hy with ⟨e, h1⟩ | ⟨k, hk, e, h1, h2, h3⟩
    · refine ⟨0, by simp, by simpa using e, ?_, fun j hj => by omega⟩
      intro x hx
      rcases List.mem_cons.1 hx with rfl | hx
      · simp
      · simpa using h1 x hx
    · refine ⟨k + 1, by simpa using hk, by simpa using e, ?_, ?_⟩
      · intro x hx
        rcases List.mem_cons.1 hx with rfl | hx
        · simp; omega
        · simpa using h1 x hx
      · intro j hj
        cases j with
        | zero => simpa using h2
        | succ j => simpa using h3 j (by omega)
/-- The first that has the least cost is the best one. -/
theorem best_first (l : List (Int × Int)) (h : ∀ x ∈ l, 0 ≤ x.2) (k : Nat) (hk : k < l.length) (h1 : l[k].2 = (best l).2) (h2 : ∀ j (hj : j < k), (l[j]'(by omega)).2 ≠ (best l).2) : best l = l[k] := by
  have h0 : l ≠ [] := by intro e; rw [e] at hk; simp at hk
  obtain ⟨k', hk', e, h3, h4⟩ := best_is l h h0
  rcases Nat.lt_trichotomy k k' with c | c | c
  · have := h4 k c
    rw [e] at h1
    omega
  · subst c; exact e
  · exact absurd (by rw [e]) (h2 k' c)
theorem best_nonneg (l : List (Int × Int)) (h : ∀ x ∈ l, 0 ≤ x.2) (h0 : l ≠ []) : 0 ≤ (best l).2 := by
  obtain ⟨k, hk, e, -⟩ := best_is l h h0
  rw [e]
  exact h _ (List.getElem_mem hk)
theorem best_snoc (l : List (Int × Int)) (x : Int × Int) : best (l ++ [x]) = bestS (best l) x := by
  unfold best
  rw [List.foldl_append]
  rfl
theorem best_bd (l : List (Int × Int)) (n : Int) (hn : 0 ≤ n) (h : ∀ x ∈ l, 0 ≤ x.2 ∧ x.2 ≤ n) : -1 ≤ (best l).2 ∧ (best l).2 ≤ n := by
  by_cases h0 : l = []
  · subst h0; unfold best; simp; omega
  · obtain ⟨k, hk, e, -⟩ := best_is l (fun x hx => (h x hx).1) h0
    rw [e]
    have := h _ (List.getElem_mem hk)
    omega
theorem behind_mem {own : Int} {l : List (Int × Int)} {n : Int} (h : ∀ x ∈ l, 0 ≤ x.2 ∧ x.2 ≤ n) : ∀ x ∈ behind own l, 0 ≤ x.2 ∧ x.2 ≤ n + 1 := by
  intro x hx
  unfold behind at hx
  obtain ⟨y, hy, rfl⟩ := List.mem_map.1 hx
  have := h y hy
  have := chg_bd own y.1
  simp only
  omega
/-- Costs are no numbers below 0, and no more than the places behind. -/
theorem cst_bd (l : List Int) (hl : ∀ m ∈ l, choicesL m ≠ []) : ∀ d i, i + d = l.length → ∀ x ∈ cst l i, 0 ≤ x.2 ∧ x.2 ≤ (d : Int) := by
  intro d
  induction d with
  | zero =>
    intro i hi x hx
    rw [cst_out l i (by omega)] at hx
    simp at hx
  | succ d ih =>
    intro i hi x hx
    rw [cst_is l i (by omega)] at hx
    obtain ⟨c, hc, rfl⟩ := List.mem_map.1 hx
    simp only
    split
    · omega
    · have h1 := behind_mem (own := c) (ih (i + 1) (by omega))
      have h0 : behind c (cst l (i + 1)) ≠ [] := by
        intro e
        unfold behind at e
        rw [List.map_eq_nil_iff] at e
        have := cst_fst l (i + 1) (by omega)
        rw [e] at this
        exact hl _ (List.getElem_mem _) this.symm
      have h2 := best_nonneg _ (fun x hx => (h1 x hx).1) h0
      have h3 := best_bd _ ((d : Int) + 1) (by omega) h1
      omega
end Go.Proofs.Ytgjikdhidakloaa
