/-
  Plain law: the next meeting of two periodic windows.
-/
import Derived.Test.YtffbipcdlnfihaaCore
namespace Go.Proofs.Ytffbipcdlnfihaa

theorem emod_of {x q r m : Int} (h0 : 0 ≤ r) (h1 : r < m) (e : x = m * q + r) : x % m = r := by
  rw [e, Int.add_comm, Int.add_mul_emod_self_left, Int.emod_eq_of_lt h0 h1]
theorem ediv_of {x q r m : Int} (h0 : 0 ≤ r) (h1 : r < m) (e : x = m * q + r) : x / m = q := by
  have h2 := Int.mul_ediv_add_emod x m
  have h3 := emod_of h0 h1 e
  have h4 : m * (x / m) = m * q := by omega
  exact Int.eq_of_mul_eq_mul_left (by omega) h4

/-- The first k for which a k modulo m is from lo to hi (-1: none). -/
def firstZ (a m lo hi : Int) : Int :=
  if lo = 0 then 0 else
  if h : a ≤ 0 then -1 else
  if (lo + a - 1) / a * a ≤ hi then (lo + a - 1) / a else
  if firstZ (m % a) a (-hi % a) (-lo % a) < 0 then -1 else (lo + m * firstZ (m % a) a (-hi % a) (-lo % a) + a - 1) / a
termination_by a.toNat
decreasing_by
  all_goals
    have h2 := Int.emod_lt_of_pos m (show 0 < a by omega)
    omega
def hitQ (a m lo hi j : Int) : Prop := lo ≤ (a * j) % m ∧ (a * j) % m ≤ hi
def FirstIs (a m lo hi k : Int) : Prop :=
  (k = -1 ∧ ∀ j : Int, 0 ≤ j → ¬ hitQ a m lo hi j) ∨ (0 ≤ k ∧ k < m ∧ hitQ a m lo hi k ∧ ∀ j : Int, 0 ≤ j → j < k → ¬ hitQ a m lo hi j)
theorem ceil_law (x a : Int) (ha : 0 < a) : x ≤ a * ((x + a - 1) / a) ∧ a * ((x + a - 1) / a) < x + a := by
  have h1 := Int.mul_ediv_add_emod (x + a - 1) a
  have h2 := Int.emod_nonneg (x + a - 1) (show a ≠ 0 by omega)
  have h3 := Int.emod_lt_of_pos (x + a - 1) ha
  omega
theorem mul_lt_of {a x y : Int} (ha : 0 < a) (h : a * x < a * y) : x < y := Int.lt_of_mul_lt_mul_left h (by omega)
theorem mul_le_of {a x y : Int} (ha : 0 < a) (h : x ≤ y) : a * x ≤ a * y := Int.mul_le_mul_of_nonneg_left h (by omega)
theorem first_law : ∀ (n : Nat) (a m lo hi : Int), a.toNat ≤ n → 0 ≤ lo → lo ≤ hi → hi < m → 0 ≤ a → a < m → FirstIs a m lo hi (firstZ a m lo hi) := by
  intro n
  induction n with
  | zero =>
    intro a m lo hi hn h1 h2 h3 h4 h5
    obtain rfl : a = 0 := by omega
    unfold firstZ
    split
    · rename_i hl
      refine .inr ⟨by omega, by omega, ?_, fun j h0 hj => by omega⟩
      unfold hitQ; rw [Int.zero_mul, Int.zero_emod]; omega
    · rename_i hl
      refine .inl ⟨rfl, fun j _ hh => ?_⟩
      unfold hitQ at hh; rw [Int.zero_mul, Int.zero_emod] at hh; omega
  | succ n ih =>
    intro a m lo hi hn h1 h2 h3 h4 h5
    unfold firstZ
    split
    · rename_i hl
      refine .inr ⟨by omega, by omega, ?_, fun j h0 hj => by omega⟩
      unfold hitQ; rw [Int.mul_zero, Int.zero_emod]; omega
    rename_i hl
    by_cases ha : a ≤ 0
    · rw [dif_pos ha]
      obtain rfl : a = 0 := by omega
      refine .inl ⟨rfl, fun j _ hh => ?_⟩
      unfold hitQ at hh; rw [Int.zero_mul, Int.zero_emod] at hh; omega
    rw [dif_neg ha]
    obtain ⟨c1, c2⟩ := ceil_law lo a (by omega)
    generalize hk : (lo + a - 1) / a = k at *
    rw [Int.mul_comm k a]
    have hk1 : 1 ≤ k := by
      have : a * 0 < a * k := by omega
      have := mul_lt_of (by omega) this
      omega
    split
    · rename_i hc
      refine .inr ⟨by omega, ?_, ?_, fun j h0 hj hh => ?_⟩
      · have : 1 * k ≤ a * k := Int.mul_le_mul_of_nonneg_right (by omega) (by omega)
        omega
      · unfold hitQ
        rw [Int.emod_eq_of_lt (by omega) (by omega)]
        omega
      · have e : a * j ≤ a * (k - 1) := mul_le_of (by omega) (by omega)
        rw [Int.mul_sub, Int.mul_one] at e
        have e0 := Int.mul_nonneg h4 h0
        unfold hitQ at hh
        rw [Int.emod_eq_of_lt (by omega) (by omega)] at hh
        omega
    rename_i hc
    -- lo = a (k-1) + s, hi = a (k-1) + s'
    obtain ⟨s, hs⟩ : ∃ s, s = lo - a * (k - 1) := ⟨_, rfl⟩
    obtain ⟨s', hs'⟩ : ∃ s', s' = hi - a * (k - 1) := ⟨_, rfl⟩
    have hak : a * (k - 1) = a * k - a := by rw [Int.mul_sub, Int.mul_one]
    have el : -hi % a = a - s' := emod_of (q := -k) (by omega) (by omega) (by rw [Int.mul_neg]; omega)
    have eh : -lo % a = a - s := emod_of (q := -k) (by omega) (by omega) (by rw [Int.mul_neg]; omega)
    have m0 := Int.emod_nonneg m (show a ≠ 0 by omega)
    have m1 := Int.emod_lt_of_pos m (show 0 < a by omega)
    have IH := ih (m % a) a (-hi % a) (-lo % a) (by omega) (by omega) (by omega) (by omega) m0 m1
    -- when the range behind y turns has a multiple of a
    have key : ∀ y : Int, (∃ K : Int, m * y + lo ≤ a * K ∧ a * K ≤ m * y + hi) ↔ hitQ (m % a) a (-hi % a) (-lo % a) y := by
      intro y
      unfold hitQ
      rw [el, eh, Int.mul_comm (m % a) y, Int.mul_emod, Int.emod_emod, ← Int.mul_emod, Int.mul_comm y m]
      have d1 := Int.mul_ediv_add_emod (m * y) a
      have d2 := Int.emod_nonneg (m * y) (show a ≠ 0 by omega)
      have d3 := Int.emod_lt_of_pos (m * y) (show 0 < a by omega)
      generalize (m * y) % a = r at *
      generalize (m * y) / a = q at *
      constructor
      · rintro ⟨K, k1, k2⟩
        have e1 : a * (K - q - k + 1) = a * K - a * q - a * k + a := by rw [Int.mul_add, Int.mul_sub, Int.mul_sub, Int.mul_one]
        have f1 : 0 < K - q - k + 1 := by
          refine mul_lt_of (a := a) (by omega) ?_
          rw [e1, Int.mul_zero]; omega
        have f2 : K - q - k + 1 < 2 := by
          refine mul_lt_of (a := a) (by omega) ?_
          rw [e1]; omega
        obtain rfl : K = q + k := by omega
        rw [Int.mul_add] at k1 k2
        omega
      · rintro ⟨r1, r2⟩
        refine ⟨q + k, ?_, ?_⟩ <;> rw [Int.mul_add] <;> omega
    generalize hy : firstZ (m % a) a (-hi % a) (-lo % a) = y at *
    have down : ∀ j : Int, 0 ≤ j → hitQ a m lo hi j → hitQ (m % a) a (-hi % a) (-lo % a) (a * j / m) ∧ 0 ≤ a * j / m ∧ m * (a * j / m) + lo ≤ a * j := by
      intro j h0 hh
      unfold hitQ at hh
      have d1 := Int.mul_ediv_add_emod (a * j) m
      refine ⟨(key _).1 ⟨j, by omega, by omega⟩, Int.ediv_nonneg (Int.mul_nonneg h4 h0) (by omega), by omega⟩
    rcases IH with ⟨rfl, hno⟩ | ⟨y0, y1, yh, ymin⟩
    · rw [if_pos (by omega)]
      refine .inl ⟨rfl, fun j h0 hh => ?_⟩
      obtain ⟨a1, a2, -⟩ := down j h0 hh
      exact hno _ a2 a1
    · rw [if_neg (by omega)]
      obtain ⟨C1, C2⟩ := ceil_law (lo + m * y) a (by omega)
      generalize hK : (lo + m * y + a - 1) / a = K at *
      obtain ⟨K', e1, e2⟩ := (key y).2 yh
      have hKK : K ≤ K' := by
        have : a * (K - 1) < a * K' := by rw [Int.mul_sub, Int.mul_one]; omega
        have := mul_lt_of (by omega) this
        omega
      have e3 := mul_le_of (a := a) (by omega) hKK
      have hmy : 0 ≤ m * y := Int.mul_nonneg (by omega) y0
      have hK0 : 0 < K := by
        refine mul_lt_of (a := a) (by omega) ?_
        rw [Int.mul_zero]; omega
      refine .inr ⟨by omega, ?_, ?_, fun j h0 hj hh => ?_⟩
      · refine mul_lt_of (a := a) (by omega) ?_
        have : m * y ≤ m * (a - 1) := mul_le_of (by omega) (by omega)
        rw [Int.mul_sub, Int.mul_one, Int.mul_comm m a] at this
        omega
      · unfold hitQ
        rw [emod_of (x := a * K) (q := y) (r := a * K - m * y) (by omega) (by omega) (by omega)]
        omega
      · obtain ⟨a1, a2, a3⟩ := down j h0 hh
        by_cases hlt : a * j / m < y
        · exact ymin _ a2 hlt a1
        · have b1 : m * y ≤ m * (a * j / m) := mul_le_of (by omega) (by omega)
          have b2 : a * (K - 1) < a * j := by rw [Int.mul_sub, Int.mul_one]; omega
          have := mul_lt_of (by omega) b2
          omega

/-- The first time from a place on that is in a window. -/
def meetX (Q G M x0 : Int) : Int := if M ≤ (x0 - G) % Q then x0 + (Q - (x0 - G) % Q) else x0
theorem meet_law (Q G M x0 : Int) (hQ : 0 < Q) (hM : 0 < M) : x0 ≤ meetX Q G M x0 ∧ (meetX Q G M x0 - G) % Q < M ∧ meetX Q G M x0 ≤ x0 + Q ∧ ∀ s, x0 ≤ s → s < meetX Q G M x0 → ¬ (s - G) % Q < M := by
  have h1 := Int.emod_nonneg (x0 - G) (show Q ≠ 0 by omega)
  have h2 := Int.emod_lt_of_pos (x0 - G) hQ
  have h3 := Int.mul_ediv_add_emod (x0 - G) Q
  unfold meetX
  split
  · refine ⟨by omega, ?_, by omega, fun s a1 a2 => ?_⟩
    · rw [emod_of (q := (x0 - G) / Q + 1) (r := 0) (by omega) (by omega) (by rw [Int.mul_add, Int.mul_one]; omega)]
      exact hM
    · rw [emod_of (x := s - G) (q := (x0 - G) / Q) (r := (x0 - G) % Q + (s - x0)) (by omega) (by omega) (by omega)]
      omega
  · exact ⟨by omega, by omega, by omega, fun s a1 a2 => by omega⟩
theorem pass_law (Q M L z : Int) (hQ : 0 < Q) (hL : 1 ≤ L) (hM : 1 ≤ M) (_hMQ : M ≤ Q) :
    (∃ s, 0 ≤ s ∧ s < L ∧ (z + s) % Q < M) ↔ (Q ≤ L + M - 1 ∨ (z + L - 1) % Q < L + M - 1) := by
  have h1 := Int.emod_nonneg (z + L - 1) (show Q ≠ 0 by omega)
  have h2 := Int.emod_lt_of_pos (z + L - 1) hQ
  have h3 := Int.mul_ediv_add_emod (z + L - 1) Q
  constructor
  · rintro ⟨s, s1, s2, s3⟩
    by_cases hr : Q ≤ L + M - 1
    · exact .inl hr
    · refine .inr ?_
      have k1 := Int.emod_nonneg (z + s) (show Q ≠ 0 by omega)
      have k3 := Int.mul_ediv_add_emod (z + s) Q
      rw [emod_of (x := z + L - 1) (q := (z + s) / Q) (r := (z + s) % Q + (L - 1 - s)) (by omega) (by omega) (by omega)]
      omega
  · intro h
    by_cases hw : (z + L - 1) % Q ≤ L - 1
    · refine ⟨L - 1 - (z + L - 1) % Q, by omega, by omega, ?_⟩
      rw [emod_of (q := (z + L - 1) / Q) (r := 0) (by omega) (by omega) (by omega)]
      omega
    · refine ⟨0, by omega, by omega, ?_⟩
      rw [emod_of (x := z + 0) (q := (z + L - 1) / Q) (r := (z + L - 1) % Q - (L - 1)) (by omega) (by omega) (by omega)]
      omega

/-- How many passes are left out (-1: all). -/
def passK (P L Q G M B1 : Int) : Int :=
  if L + M - 1 < Q then
    firstZ (P % Q) Q (if (L + M - 1 - 1 - ((B1 - G) % Q + L - 1) % Q) % Q < (-(((B1 - G) % Q + L - 1) % Q)) % Q then 0 else (-(((B1 - G) % Q + L - 1) % Q)) % Q) ((L + M - 1 - 1 - ((B1 - G) % Q + L - 1) % Q) % Q)
  else 0
theorem passK_law (P L Q G M B1 : Int) (hQ : 0 < Q) (hL : 1 ≤ L) (hM : 1 ≤ M) (hMQ : M ≤ Q) :
    (passK P L Q G M B1 = -1 ∧ ∀ j : Int, 0 ≤ j → ¬ ∃ s, 0 ≤ s ∧ s < L ∧ (B1 + P * j + s - G) % Q < M) ∨
    (0 ≤ passK P L Q G M B1 ∧ passK P L Q G M B1 < Q ∧ (∃ s, 0 ≤ s ∧ s < L ∧ (B1 + P * passK P L Q G M B1 + s - G) % Q < M) ∧ ∀ j : Int, 0 ≤ j → j < passK P L Q G M B1 → ¬ ∃ s, 0 ≤ s ∧ s < L ∧ (B1 + P * j + s - G) % Q < M) := by
  have hpl : ∀ j : Int, (∃ s, 0 ≤ s ∧ s < L ∧ (B1 + P * j + s - G) % Q < M) ↔ (Q ≤ L + M - 1 ∨ (B1 + P * j - G + L - 1) % Q < L + M - 1) := by
    intro j
    have := pass_law Q M L (B1 + P * j - G) hQ hL hM hMQ
    rw [← this]
    constructor
    · rintro ⟨s, a, b, c⟩; exact ⟨s, a, b, by rw [show B1 + P * j - G + s = B1 + P * j + s - G by omega]; exact c⟩
    · rintro ⟨s, a, b, c⟩; exact ⟨s, a, b, by rw [show B1 + P * j + s - G = B1 + P * j - G + s by omega]; exact c⟩
  unfold passK
  split
  · rename_i hr
    have p1 := Int.emod_nonneg ((B1 - G) % Q + L - 1) (show Q ≠ 0 by omega)
    have p2 := Int.emod_lt_of_pos ((B1 - G) % Q + L - 1) hQ
    have hcond : ∀ j : Int, (B1 + P * j - G + L - 1) % Q = (((B1 - G) % Q + L - 1) % Q + (P % Q * j) % Q) % Q := by
      intro j
      have e1 : ((B1 - G) % Q + L - 1) % Q = (B1 - G + (L - 1)) % Q := by rw [← Int.emod_add_emod (B1 - G) Q (L - 1)]; congr 1; omega
      have e2 : (P % Q * j) % Q = (P * j) % Q := by rw [Int.mul_emod, Int.emod_emod, ← Int.mul_emod]
      rw [e1, e2, ← Int.add_emod]
      congr 1
      omega
    generalize ((B1 - G) % Q + L - 1) % Q = a at *
    have hlo : (-a) % Q = if a = 0 then 0 else Q - a := by
      split
      · rename_i h; subst h; rfl
      · exact emod_of (q := -1) (by omega) (by omega) (by omega)
    have hhi : (L + M - 1 - 1 - a) % Q = if a ≤ L + M - 2 then L + M - 2 - a else Q + L + M - 2 - a := by
      split
      · rw [Int.emod_eq_of_lt (by omega) (by omega)]; omega
      · exact emod_of (q := -1) (by omega) (by omega) (by omega)
    have q1 := Int.emod_nonneg P (show Q ≠ 0 by omega)
    have q2 := Int.emod_lt_of_pos P hQ
    have hhit : ∀ j : Int, hitQ (P % Q) Q (if (L + M - 1 - 1 - a) % Q < (-a) % Q then 0 else (-a) % Q) ((L + M - 1 - 1 - a) % Q) j → (B1 + P * j - G + L - 1) % Q < L + M - 1 := by
      intro j hh
      unfold hitQ at hh
      have r1 := Int.emod_nonneg (P % Q * j) (show Q ≠ 0 by omega)
      have r2 := Int.emod_lt_of_pos (P % Q * j) hQ
      rw [hcond]
      generalize (P % Q * j) % Q = x at *
      rw [hlo, hhi] at hh
      by_cases hx : a + x < Q
      · rw [Int.emod_eq_of_lt (by omega) hx]
        (repeat' split at hh) <;> omega
      · rw [emod_of (q := 1) (r := a + x - Q) (by omega) (by omega) (by omega)]
        (repeat' split at hh) <;> omega
    have hback : ¬ ((L + M - 1 - 1 - a) % Q < (-a) % Q) → ∀ j : Int, (B1 + P * j - G + L - 1) % Q < L + M - 1 → hitQ (P % Q) Q ((-a) % Q) ((L + M - 1 - 1 - a) % Q) j := by
      intro hno j hh
      unfold hitQ
      have r1 := Int.emod_nonneg (P % Q * j) (show Q ≠ 0 by omega)
      have r2 := Int.emod_lt_of_pos (P % Q * j) hQ
      rw [hcond] at hh
      generalize (P % Q * j) % Q = x at *
      rw [hlo, hhi] at hno
      rw [hlo, hhi]
      by_cases hx : a + x < Q
      · rw [Int.emod_eq_of_lt (by omega) hx] at hh
        (repeat' split at hno) <;> (repeat' split) <;> omega
      · rw [emod_of (q := 1) (r := a + x - Q) (by omega) (by omega) (by omega)] at hh
        (repeat' split at hno) <;> (repeat' split) <;> omega
    by_cases hw : (L + M - 1 - 1 - a) % Q < (-a) % Q
    · have e0 : ∀ hi, firstZ (P % Q) Q 0 hi = 0 := fun hi => by unfold firstZ; rfl
      simp only [if_pos hw] at hhit ⊢
      rw [e0]
      refine .inr ⟨by omega, hQ, (hpl 0).2 (.inr ?_), fun j h0 h1 => by omega⟩
      have hc0 := hcond 0
      rw [Int.mul_zero (P % Q), Int.zero_emod, Int.add_zero, Int.emod_eq_of_lt p1 p2] at hc0
      rw [hc0]
      rw [hlo, hhi] at hw
      (repeat' split at hw) <;> omega
    · simp only [if_neg hw] at hhit ⊢
      have hlo0 : 0 ≤ (-a) % Q := Int.emod_nonneg _ (by omega)
      have hhi1 : (L + M - 1 - 1 - a) % Q < Q := Int.emod_lt_of_pos _ hQ
      have hF := first_law _ (P % Q) Q ((-a) % Q) ((L + M - 1 - 1 - a) % Q) (Nat.le_refl _) hlo0 (by omega) hhi1 q1 q2
      rcases hF with ⟨e, hno⟩ | ⟨k0, k1, kh, kmin⟩
      · refine .inl ⟨e, fun j h0 hh => ?_⟩
        rcases (hpl j).1 hh with h | h
        · omega
        · exact hno j h0 (hback hw j h)
      · refine .inr ⟨k0, k1, (hpl _).2 (.inr (hhit _ kh)), fun j h0 hj hh => ?_⟩
        rcases (hpl j).1 hh with h | h
        · omega
        · exact kmin j h0 hj (hback hw j h)
  · exact .inr ⟨by omega, hQ, (hpl 0).2 (.inl (by omega)), fun j h0 h1 => by omega⟩

def begZ (P F t : Int) : Int := t - (t - F) % P
/-- The next meeting. -/
def nextZ (P F L Q G M t : Int) : Option Int :=
  if 0 < M ∧ meetX Q G M t < begZ P F t + L then some (meetX Q G M t)
  else if L = 0 ∨ M = 0 then none
  else if passK P L Q G M (begZ P F t + P) < 0 then none
  else some (meetX Q G M (begZ P F t + P + passK P L Q G M (begZ P F t + P) * P))
def bothW (P F L Q G M x : Int) : Prop := (x - F) % P < L ∧ (x - G) % Q < M
def NextIs (P F L Q G M t : Int) : Option Int → Prop
  | some x => t ≤ x ∧ bothW P F L Q G M x ∧ ∀ s, t ≤ s → s < x → ¬ bothW P F L Q G M s
  | none => ∀ s, t ≤ s → ¬ bothW P F L Q G M s
theorem next_law (P F L Q G M t : Int) (hP : 0 < P) (hQ : 0 < Q) (hL : 0 ≤ L) (hLP : L ≤ P) (hM : 0 ≤ M) (hMQ : M ≤ Q) : NextIs P F L Q G M t (nextZ P F L Q G M t) := by
  have b1 := Int.emod_nonneg (t - F) (show P ≠ 0 by omega)
  have b2 := Int.emod_lt_of_pos (t - F) hP
  have b3 := Int.mul_ediv_add_emod (t - F) P
  -- a time of pass j: how far from its beginning
  have hpass : ∀ j d : Int, 0 ≤ d → d < P → (begZ P F t + P * j + d - F) % P = d := by
    intro j d h0 h1
    refine emod_of (q := (t - F) / P + j) h0 h1 ?_
    unfold begZ
    rw [Int.mul_add]
    omega
  have hsplit : ∀ s, ∃ j d, 0 ≤ d ∧ d < P ∧ s = begZ P F t + P * j + d := by
    intro s
    refine ⟨(s - begZ P F t) / P, (s - begZ P F t) % P, Int.emod_nonneg _ (by omega), Int.emod_lt_of_pos _ hP, ?_⟩
    have := Int.mul_ediv_add_emod (s - begZ P F t) P
    omega
  have hbt : begZ P F t ≤ t ∧ t < begZ P F t + P := by unfold begZ; omega
  -- in the first pass nothing, unless it is found at once
  have hfirst : ¬ (0 < M ∧ meetX Q G M t < begZ P F t + L) → ∀ s, t ≤ s → s < begZ P F t + P → ¬ bothW P F L Q G M s := by
    intro hno s h1 h2 hb
    unfold bothW at hb
    have e := hpass 0 (s - begZ P F t) (by omega) (by omega)
    rw [Int.mul_zero, Int.add_zero, show begZ P F t + (s - begZ P F t) = s by omega] at e
    rw [e] at hb
    have k1 := Int.emod_nonneg (s - G) (show Q ≠ 0 by omega)
    have hM0 : 0 < M := by omega
    obtain ⟨m1, m2, m3, m4⟩ := meet_law Q G M t hQ hM0
    by_cases hlt : s < meetX Q G M t
    · exact m4 s h1 hlt hb.2
    · exact hno ⟨hM0, by omega⟩
  unfold nextZ
  split
  · rename_i h
    obtain ⟨m1, m2, m3, m4⟩ := meet_law Q G M t hQ h.1
    refine ⟨m1, ⟨?_, m2⟩, fun s h1 h2 hb => m4 s h1 h2 hb.2⟩
    have e := hpass 0 (meetX Q G M t - begZ P F t) (by omega) (by omega)
    rw [Int.mul_zero, Int.add_zero, show begZ P F t + (meetX Q G M t - begZ P F t) = meetX Q G M t by omega] at e
    rw [e]
    omega
  rename_i hno
  have hfirst := hfirst hno
  split
  · rename_i h0
    intro s h1 hb
    unfold bothW at hb
    have k1 := Int.emod_nonneg (s - G) (show Q ≠ 0 by omega)
    have k2 := Int.emod_nonneg (s - F) (show P ≠ 0 by omega)
    omega
  rename_i h0
  have hL1 : 1 ≤ L := by omega
  have hM1 : 1 ≤ M := by omega
  have hno2 : ∀ j : Int, ¬ (∃ s, 0 ≤ s ∧ s < L ∧ (begZ P F t + P + P * j + s - G) % Q < M) → ∀ d, 0 ≤ d → d < P → ¬ bothW P F L Q G M (begZ P F t + P + P * j + d) := by
    intro j hj d d0 d1 hb
    unfold bothW at hb
    have e := hpass (j + 1) d d0 d1
    rw [Int.mul_add, Int.mul_one, show begZ P F t + (P * j + P) + d = begZ P F t + P + P * j + d by omega] at e
    rw [e] at hb
    exact hj ⟨d, d0, hb.1, hb.2⟩
  rcases passK_law P L Q G M (begZ P F t + P) hQ hL1 hM1 hMQ with ⟨e, hn⟩ | ⟨k0, k1, kh, kmin⟩
  · rw [if_pos (by omega)]
    intro s h1
    by_cases hs : s < begZ P F t + P
    · exact hfirst s h1 hs
    · obtain ⟨j, d, d0, d1, rfl⟩ := hsplit s
      have hj : 0 ≤ j - 1 := by
        have : P * 0 < P * j := by rw [Int.mul_zero]; omega
        have := mul_lt_of hP this
        omega
      have := hno2 (j - 1) (hn (j - 1) hj) d d0 d1
      rwa [Int.mul_sub, Int.mul_one, show begZ P F t + P + (P * j - P) + d = begZ P F t + P * j + d by omega] at this
  · rw [if_neg (by omega)]
    generalize passK P L Q G M (begZ P F t + P) = k at *
    rw [Int.mul_comm k P]
    obtain ⟨m1, m2, m3, m4⟩ := meet_law Q G M (begZ P F t + P + P * k) hQ (by omega)
    obtain ⟨s0, a0, a1, a2⟩ := kh
    have hxs : meetX Q G M (begZ P F t + P + P * k) ≤ begZ P F t + P + P * k + s0 := by
      by_cases h : meetX Q G M (begZ P F t + P + P * k) ≤ begZ P F t + P + P * k + s0
      · exact h
      · exact absurd a2 (m4 _ (by omega) (by omega))
    have hPk := Int.mul_nonneg (show 0 ≤ P by omega) k0
    refine ⟨by omega, ⟨?_, m2⟩, fun s h1 h2 hb => ?_⟩
    · have e := hpass (k + 1) (meetX Q G M (begZ P F t + P + P * k) - (begZ P F t + P + P * k)) (by omega) (by omega)
      rw [Int.mul_add, Int.mul_one, show begZ P F t + (P * k + P) + (meetX Q G M (begZ P F t + P + P * k) - (begZ P F t + P + P * k)) = meetX Q G M (begZ P F t + P + P * k) by omega] at e
      rw [e]
      omega
    · by_cases hs : s < begZ P F t + P
      · exact hfirst s h1 hs hb
      by_cases hs2 : begZ P F t + P + P * k ≤ s
      · exact m4 s hs2 h2 hb.2
      obtain ⟨j, d, d0, d1, rfl⟩ := hsplit s
      have hj : 0 ≤ j - 1 := by
        have : P * 0 < P * j := by rw [Int.mul_zero]; omega
        have := mul_lt_of hP this
        omega
      have hjk : j - 1 < k := by
        refine mul_lt_of hP ?_
        rw [Int.mul_sub, Int.mul_one]; omega
      have := hno2 (j - 1) (kmin (j - 1) hj hjk) d d0 d1
      rw [Int.mul_sub, Int.mul_one, show begZ P F t + P + (P * j - P) + d = begZ P F t + P * j + d by omega] at this
      exact this hb
theorem nextIs_unique {P F L Q G M t : Int} {a b : Option Int} (ha : NextIs P F L Q G M t a) (hb : NextIs P F L Q G M t b) : a = b := by
  cases a with
  | none =>
    cases b with
    | none => rfl
    | some y => exact absurd hb.2.1 (ha y hb.1)
  | some x =>
    cases b with
    | none => exact absurd ha.2.1 (hb x ha.1)
    | some y =>
      have h1 : ¬ x < y := fun h => hb.2.2 x ha.1 h ha.2.1
      have h2 : ¬ y < x := fun h => ha.2.2 y hb.1 h hb.2.1
      rw [show x = y by omega]
end Go.Proofs.Ytffbipcdlnfihaa
