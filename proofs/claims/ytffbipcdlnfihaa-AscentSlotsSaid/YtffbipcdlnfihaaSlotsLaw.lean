/-
  Plain law of AscentSlots: slots and windows, mixed sets, totals.
-/
import Derived.Test.YtffbipcdlnfihaaSetsMix
import Derived.Test.YtffbipcdlnfihaaSlots
import Derived.Test.YtffbipcdlnfihaaWinLaw
namespace Go.Proofs.Ytffbipcdlnfihaa
set_option maxRecDepth 100000
theorem holdsB_append (l m : List (Int × Int)) (t : Int) : holdsB (l ++ m) t = (holdsB l t || holdsB m t) := by simp [holdsB]
theorem holdsB_one (s : Int × Int) (t : Int) : holdsB [s] t = true ↔ s.1 ≤ t ∧ t < s.2 := by simp [holdsB]
theorem holdsB_mem {l : List (Int × Int)} {t : Int} : holdsB l t = true ↔ ∃ s ∈ l, s.1 ≤ t ∧ t < s.2 := by simp [holdsB]
theorem slotsUpto_holds (P F L a z t : Int) (k : Nat) : holdsB (slotsUpto P F L a z k) t = true ↔ ∃ j, j < k ∧ (slotAt P F L a z j).1 ≤ t ∧ t < (slotAt P F L a z j).2 := by
  induction k with
  | zero => simp [slotsUpto, holdsB]
  | succ k ih =>
    by_cases h : (slotAt P F L a z k).1 < (slotAt P F L a z k).2
    · rw [slotsUpto_succ_yes _ _ _ _ _ _ h, holdsB_append, Bool.or_eq_true, ih, holdsB_one]
      constructor
      · rintro (⟨j, hj, h1⟩ | h1)
        · exact ⟨j, by omega, h1⟩
        · exact ⟨k, by omega, h1⟩
      · rintro ⟨j, hj, h1⟩
        by_cases hk : j = k
        · subst hk; exact .inr h1
        · exact .inl ⟨j, by omega, h1⟩
    · rw [slotsUpto_succ_no _ _ _ _ _ _ h, ih]
      constructor
      · rintro ⟨j, hj, h1⟩
        exact ⟨j, by omega, h1⟩
      · rintro ⟨j, hj, h1⟩
        by_cases hk : j = k
        · subst hk; omega
        · exact ⟨j, by omega, h1⟩
theorem slotsAll_holds (P F L a z t : Int) (hP : 1 ≤ P) (_h0 : 0 ≤ L) (hL : L ≤ P) : holdsB (slotsAll P F L a z) t = true ↔ ((t - F) % P < L ∧ a ≤ t ∧ t < z) := by
  unfold slotsAll
  rw [slotsUpto_holds]
  obtain ⟨b1, b2⟩ := b0_bd P F a hP
  have hb : slotB0 P F a - F = P * ((a - F) / P) := by
    have := Int.mul_ediv_add_emod (a - F) P
    unfold slotB0
    omega
  have key : ∀ (j r : Int), 0 ≤ r → r < P → t = slotB0 P F a + j * P + r → (t - F) % P = r := by
    intro j r h1 h2 e
    rw [show t - F = r + P * ((a - F) / P + j) by rw [Int.mul_add, ← hb, e, Int.mul_comm P j]; omega, Int.add_mul_emod_self_left, Int.emod_eq_of_lt h1 h2]
  constructor
  · rintro ⟨j, hj, h1, h2⟩
    unfold slotAt at h1 h2
    simp only at h1 h2
    have e := key j (t - (slotB0 P F a + j * P)) (by split at h1 <;> omega) (by split at h1 <;> split at h2 <;> omega) (by omega)
    rw [e]
    split at h1 <;> split at h2 <;> omega
  · rintro ⟨h1, h2, h3⟩
    have e0 := Int.mul_ediv_add_emod (t - slotB0 P F a) P
    have e1 := Int.emod_nonneg (t - slotB0 P F a) (show P ≠ 0 by omega)
    have e2 := Int.emod_lt_of_pos (t - slotB0 P F a) (show 0 < P by omega)
    have e3 := Int.ediv_nonneg (show 0 ≤ t - slotB0 P F a by omega) (show 0 ≤ P by omega)
    have e4 : (t - slotB0 P F a) / P ≤ t - slotB0 P F a := Int.ediv_le_self _ (by omega)
    have e5 := key ((t - slotB0 P F a) / P) ((t - slotB0 P F a) % P) e1 e2 (by rw [Int.mul_comm] at e0; omega)
    rw [e5] at h1
    refine ⟨((t - slotB0 P F a) / P).toNat, by omega, ?_⟩
    unfold slotAt
    simp only
    rw [show (((t - slotB0 P F a) / P).toNat : Int) = (t - slotB0 P F a) / P by omega]
    rw [Int.mul_comm] at e0
    generalize (t - slotB0 P F a) / P * P = q at *
    generalize (t - slotB0 P F a) % P = r at *
    constructor <;> split <;> omega
theorem slots_law {P F L a z : Int} (h : slotsCode P F L a z = 0) (t : Int) : holdsB (slotsList P F L a z) t = (containsB P F L t && decide (a ≤ t) && decide (t < z)) := by
  have hl : slotsList P F L a z = slotsFull P F L a z := by unfold slotsList; rw [if_pos h]
  have hg : slotsArg P F L a z = true := by
    cases hc : slotsArg P F L a z
    · simp [slotsCode, hc] at h
    · rfl
  simp only [slotsArg, Bool.and_eq_true] at hg
  obtain ⟨⟨⟨hv, -⟩, -⟩, -⟩ := hg
  have hb := (validB_iff P F L).1 hv
  rw [hl, Bool.eq_iff_iff]
  simp only [containsB, hv, Bool.true_and, Bool.and_eq_true, decide_eq_true_eq]
  unfold slotsFull
  by_cases c : L = P ∧ a < z
  · rw [if_pos c, holdsB_one]
    have := Int.emod_lt_of_pos (t - F) (show 0 < P by omega)
    simp only
    omega
  · rw [if_neg c, slotsAll_holds P F L a z t (by omega) (by omega) (by omega)]
    omega
/-! Mixed sets. -/
def GoodS (l : List (Int × Int)) (lo b : Int) : Prop := l.Pairwise (fun x y => x.2 < y.1) ∧ ∀ x ∈ l, lo ≤ x.1 ∧ x.1 < x.2 ∧ x.2 ≤ b
theorem GoodS.mono {l : List (Int × Int)} {lo b c : Int} (h : GoodS l lo b) (hb : b ≤ c) : GoodS l lo c := ⟨h.1, fun x hx => by have := h.2 x hx; omega⟩
theorem sorted_at {P : List Int} (hP : P.Pairwise (· < ·)) {i j : Nat} (hij : i < j) (hj : j < P.length) : P[i] < P[j] := List.pairwise_iff_getElem.1 hP i j (by omega) hj hij
theorem mix_cases (f : Int → Bool) (P : List Int) (i : Nat) (hi : i + 1 < P.length) :
    (f P[i] = false ∧ mixAt f P (i + 1) = mixAt f P i) ∨
    (f P[i] = true ∧ mixAt f P (i + 1) = mixAt f P i ++ [(P[i], P[i + 1])] ∧ (mixAt f P i = [] ∨ ∃ M q, mixAt f P i = M ++ [q] ∧ q.2 ≠ P[i])) ∨
    (f P[i] = true ∧ ∃ M q, mixAt f P i = M ++ [q] ∧ q.2 = P[i] ∧ mixAt f P (i + 1) = M ++ [(q.1, P[i + 1])]) := by
  cases h : f P[i]
  · exact .inl ⟨rfl, mixAt_no f P i (by omega) h⟩
  · rcases List.eq_nil_or_concat (mixAt f P i) with e | ⟨M, q, e⟩
    · exact .inr (.inl ⟨rfl, mixAt_app f P i hi h (.inl e), .inl e⟩)
    · rw [List.concat_eq_append] at e
      by_cases hq : q.2 = P[i]
      · exact .inr (.inr ⟨rfl, M, q, e, hq, mixAt_ext f P i hi h e hq⟩)
      · exact .inr (.inl ⟨rfl, mixAt_app f P i hi h (.inr ⟨M, q, e, hq⟩), .inr ⟨M, q, e, hq⟩⟩)
theorem mix_good (f : Int → Bool) (P : List Int) (hP : P.Pairwise (· < ·)) (i : Nat) (hi : i < P.length) : GoodS (mixAt f P i) (P[0]'(by omega)) P[i] := by
  induction i with
  | zero => exact ⟨by simp [mixAt], fun x hx => by simp [mixAt] at hx⟩
  | succ i ih =>
    have g := ih (by omega)
    have hlt : P[i] < P[i + 1] := sorted_at hP (by omega) hi
    have h0 : P[0]'(by omega) ≤ P[i] := by
      by_cases c : i = 0
      · subst c; omega
      · have := sorted_at hP (show 0 < i by omega) (by omega)
        omega
    rcases mix_cases f P i hi with ⟨-, e⟩ | ⟨-, e, h2⟩ | ⟨-, M, q, e1, hq, e⟩
    · rw [e]; exact g.mono (by omega)
    · rw [e]
      have hall : ∀ x ∈ mixAt f P i, x.2 < P[i] := by
        rcases h2 with h2 | ⟨M, q, h2, hq⟩
        · rw [h2]; simp
        · intro x hx
          rw [h2] at hx g
          have gq := g.2 q (by simp)
          rcases List.mem_append.1 hx with hx | hx
          · have := (List.pairwise_append.1 g.1).2.2 x hx q (by simp)
            omega
          · obtain rfl := List.mem_singleton.1 hx
            omega
      refine ⟨List.pairwise_append.2 ⟨g.1, by simp, fun x hx y hy => ?_⟩, fun x hx => ?_⟩
      · obtain rfl := List.mem_singleton.1 hy
        exact hall x hx
      · rcases List.mem_append.1 hx with hx | hx
        · have := g.2 x hx
          omega
        · obtain rfl := List.mem_singleton.1 hx
          simp only
          omega
    · rw [e]
      rw [e1] at g
      have gq := g.2 q (by simp)
      have gp := List.pairwise_append.1 g.1
      refine ⟨List.pairwise_append.2 ⟨gp.1, by simp, fun x hx y hy => ?_⟩, fun x hx => ?_⟩
      · obtain rfl := List.mem_singleton.1 hy
        exact gp.2.2 x hx q (by simp)
      · rcases List.mem_append.1 hx with hx | hx
        · have := g.2 x (by simp [hx])
          omega
        · obtain rfl := List.mem_singleton.1 hx
          simp only
          omega
theorem mix_holds (f : Int → Bool) (P : List Int) (hP : P.Pairwise (· < ·)) (t : Int) (i : Nat) (hi : i < P.length) :
    holdsB (mixAt f P i) t = true ↔ ∃ j, ∃ h : j < i, f (P[j]'(by omega)) = true ∧ P[j]'(by omega) ≤ t ∧ t < P[j + 1]'(by omega) := by
  induction i with
  | zero => simp [mixAt, holdsB]
  | succ i ih =>
    have ih := ih (by omega)
    have g := mix_good f P hP i (by omega)
    have hlt : P[i] < P[i + 1] := sorted_at hP (by omega) hi
    have step : (∃ j, ∃ h : j < i + 1, f (P[j]'(by omega)) = true ∧ P[j]'(by omega) ≤ t ∧ t < P[j + 1]'(by omega)) ↔ (holdsB (mixAt f P i) t = true ∨ (f P[i] = true ∧ P[i] ≤ t ∧ t < P[i + 1])) := by
      rw [ih]
      constructor
      · rintro ⟨j, hj, h⟩
        by_cases c : j = i
        · subst c; exact .inr h
        · exact .inl ⟨j, by omega, h⟩
      · rintro (⟨j, hj, h⟩ | h)
        · exact ⟨j, by omega, h⟩
        · exact ⟨i, by omega, h⟩
    rw [step]
    rcases mix_cases f P i hi with ⟨hf, e⟩ | ⟨hf, e, -⟩ | ⟨hf, M, q, e1, hq, e⟩
    · rw [e, hf]; simp
    · rw [e, holdsB_append, Bool.or_eq_true, holdsB_one, hf]; simp
    · rw [e, e1, holdsB_append, holdsB_append, Bool.or_eq_true, Bool.or_eq_true, holdsB_one, holdsB_one, hf]
      rw [e1] at g
      have gq := g.2 q (by simp)
      simp only
      constructor
      · rintro (h | h)
        · exact .inl (.inl h)
        · by_cases c : t < P[i]
          · exact .inl (.inr ⟨h.1, by omega⟩)
          · exact .inr ⟨trivial, by omega, h.2⟩
      · rintro ((h | h) | ⟨-, h1, h2⟩)
        · exact .inl h
        · exact .inr ⟨h.1, by omega⟩
        · exact .inr ⟨by omega, h2⟩
theorem sorted_le {P : List Int} (hP : P.Pairwise (· < ·)) {x : Int} (hx : x ∈ P) {j : Nat} (hj : j + 1 < P.length) (h : x < P[j + 1]) : x ≤ P[j] := by
  obtain ⟨i, hi, rfl⟩ := List.mem_iff_getElem.1 hx
  by_cases c : i ≤ j
  · by_cases c2 : i = j
    · subst c2; omega
    · have := sorted_at hP (show i < j by omega) (by omega); omega
  · by_cases c2 : i = j + 1
    · subst c2; omega
    · have := sorted_at hP (show j + 1 < i by omega) hi; omega
theorem holds_between {P : List Int} (hP : P.Pairwise (· < ·)) {l : List (Int × Int)} (hl : ∀ x ∈ endsL l, x ∈ P) {j : Nat} (hj : j + 1 < P.length) {t : Int} (h1 : P[j] ≤ t) (h2 : t < P[j + 1]) : holdsB l t = holdsB l P[j] := by
  rw [Bool.eq_iff_iff, holdsB_mem, holdsB_mem]
  have hs : ∀ s ∈ l, s.1 ∈ P ∧ s.2 ∈ P := fun s hs => ⟨hl _ (List.mem_flatMap.2 ⟨s, hs, by simp⟩), hl _ (List.mem_flatMap.2 ⟨s, hs, by simp⟩)⟩
  constructor
  · rintro ⟨s, m, a, b⟩
    exact ⟨s, m, sorted_le hP (hs s m).1 hj (by omega), by omega⟩
  · rintro ⟨s, m, a, b⟩
    refine ⟨s, m, by omega, ?_⟩
    by_cases c : s.2 < P[j + 1]
    · have := sorted_le hP (hs s m).2 hj c; omega
    · omega
theorem find_gap (P : List Int) (t : Int) : ∀ n, (hn : n < P.length) → P[0]'(by omega) ≤ t → t < P[n] → ∃ j, ∃ h : j < n, P[j]'(by omega) ≤ t ∧ t < P[j + 1]'(by omega)
  | 0, _, h1, h2 => by omega
  | n + 1, hn, h1, h2 => by
    by_cases c : t < P[n]
    · obtain ⟨j, hj, h⟩ := find_gap P t n (by omega) h1 c
      exact ⟨j, by omega, h⟩
    · exact ⟨n, by omega, by omega, h2⟩
theorem mixL_holds (is : Bool → Bool → Bool) (his : is false false = false) (A B : List (Int × Int)) (t : Int) : holdsB (mixL is A B) t = is (holdsB A t) (holdsB B t) := by
  obtain ⟨hP, hm⟩ := placesL_spec A B
  have hA : ∀ x ∈ endsL A, x ∈ placesL A B := fun x hx => (hm x).2 (List.mem_append.2 (.inl hx))
  have hB : ∀ x ∈ endsL B, x ∈ placesL A B := fun x hx => (hm x).2 (List.mem_append.2 (.inr hx))
  unfold mixL
  generalize placesL A B = P at *
  clear hm
  have hs : ∀ l : List (Int × Int), (∀ x ∈ endsL l, x ∈ P) → ∀ s ∈ l, s.1 ∈ P ∧ s.2 ∈ P := fun l hl s hs => ⟨hl _ (List.mem_flatMap.2 ⟨s, hs, by simp⟩), hl _ (List.mem_flatMap.2 ⟨s, hs, by simp⟩)⟩
  by_cases hp : P = []
  · have hz : ∀ l : List (Int × Int), (∀ x ∈ endsL l, x ∈ P) → holdsB l t = false := fun l hl => by
      rw [Bool.eq_false_iff]
      intro h
      obtain ⟨s, m, -⟩ := holdsB_mem.1 h
      have := (hs l hl s m).1
      rw [hp] at this
      cases this
    rw [hz A hA, hz B hB, his, hp]
    rfl
  · have hpos : 0 < P.length := List.length_pos_iff.2 hp
    by_cases c : P[0] ≤ t ∧ t < P[P.length - 1]
    · obtain ⟨j, hj, h1, h2⟩ := find_gap P t (P.length - 1) (by omega) c.1 c.2
      rw [holds_between hP hA (by omega) h1 h2, holds_between hP hB (by omega) h1 h2, Bool.eq_iff_iff, mix_holds _ P hP t _ (by omega)]
      constructor
      · rintro ⟨k, hk, hf, a, b⟩
        have : k = j := by
          rcases Nat.lt_trichotomy k j with x | x | x
          · have : P[k + 1] ≤ P[j] := by
              by_cases e : k + 1 = j
              · subst e; omega
              · have := sorted_at hP (show k + 1 < j by omega) (by omega); omega
            omega
          · exact x
          · have : P[j + 1] ≤ P[k] := by
              by_cases e : j + 1 = k
              · subst e; omega
              · have := sorted_at hP (show j + 1 < k by omega) (by omega); omega
            omega
        subst this
        exact hf
      · intro hf
        exact ⟨j, hj, hf, h1, h2⟩
    · have hz : ∀ l : List (Int × Int), (∀ x ∈ endsL l, x ∈ P) → holdsB l t = false := fun l hl => by
        rw [Bool.eq_false_iff]
        intro h
        obtain ⟨s, m, h1, h2⟩ := holdsB_mem.1 h
        apply c
        obtain ⟨i, hi, e1⟩ := List.mem_iff_getElem.1 (hs l hl s m).1
        obtain ⟨k, hk, e2⟩ := List.mem_iff_getElem.1 (hs l hl s m).2
        constructor
        · by_cases e : i = 0
          · subst e; omega
          · have := sorted_at hP (show 0 < i by omega) hi; omega
        · by_cases e : k = P.length - 1
          · subst e; omega
          · have := sorted_at hP (show k < P.length - 1 by omega) (by omega); omega
      rw [hz A hA, hz B hB, his, Bool.eq_false_iff]
      intro h
      obtain ⟨j, hj, -, h1, h2⟩ := (mix_holds _ P hP t _ (by omega)).1 h
      apply c
      constructor
      · by_cases e : j = 0
        · subst e; omega
        · have := sorted_at hP (show 0 < j by omega) (by omega); omega
      · by_cases e : j + 1 = P.length - 1
        · simp only [← e]; omega
        · have := sorted_at hP (show j + 1 < P.length - 1 by omega) (by omega); omega
theorem setB_of {l : List (Int × Int)} {lo b : Int} (h : GoodS l lo b) (h1 : -1152921504606846976 ≤ lo) (h2 : b ≤ 1152921504606846976) (hl : l.length ≤ 4096) : setB l = true := by
  unfold setB
  rw [Bool.and_eq_true]
  refine ⟨by simpa using hl, ?_⟩
  rw [List.all_eq_true]
  intro k hk
  rw [List.mem_range] at hk
  rw [slotOk_at hk]
  have g := h.2 l[k] (List.getElem_mem _)
  simp only [limT, Bool.and_eq_true, Bool.or_eq_true, decide_eq_true_eq]
  refine ⟨⟨⟨⟨by omega, by omega⟩, by omega, by omega⟩, by omega⟩, ?_⟩
  by_cases e : k = 0
  · exact .inl e
  · exact .inr (List.pairwise_iff_getElem.1 h.1 (k - 1) k (by omega) hk (by omega))
theorem ends_lim {l : List (Int × Int)} (h : setB l = true) {x : Int} (hx : x ∈ endsL l) : -1152921504606846976 ≤ x ∧ x ≤ 1152921504606846976 := by
  obtain ⟨s, hs, hx⟩ := List.mem_flatMap.1 hx
  obtain ⟨k, hk, rfl⟩ := List.mem_iff_getElem.1 hs
  have := setB_at h k hk
  simp only [List.mem_cons, List.not_mem_nil, or_false] at hx
  rcases hx with rfl | rfl <;> omega
theorem mixL_set (is : Bool → Bool → Bool) {A B : List (Int × Int)} (hA : setB A = true) (hB : setB B = true) (lA : A.length ≤ 60) (lB : B.length ≤ 60) : setB (mixL is A B) = true := by
  have hl := mixL_len is A B
  obtain ⟨hP, hm⟩ := placesL_spec A B
  have hlim : ∀ x ∈ placesL A B, -1152921504606846976 ≤ x ∧ x ≤ 1152921504606846976 := fun x hx => by
    rcases List.mem_append.1 ((hm x).1 hx) with h | h
    · exact ends_lim hA h
    · exact ends_lim hB h
  clear hm
  unfold mixL at hl ⊢
  generalize placesL A B = P at *
  by_cases hp : P = []
  · subst hp; rfl
  · have hpos : 0 < P.length := List.length_pos_iff.2 hp
    exact setB_of (mix_good _ P hP _ (by omega)) (hlim _ (List.getElem_mem _)).1 (hlim _ (List.getElem_mem _)).2 (by omega)
/-! Totals. -/
theorem sum_range (a b : Nat) (N : Nat) : sumN N (fun i => ind (a ≤ i ∧ i < b)) = min b N - min a N := by
  induction N with
  | zero => simp [sumN]
  | succ N ih =>
    rw [sumN, ih]
    unfold ind
    split <;> omega
theorem ind_or {p q : Prop} [Decidable p] [Decidable q] [Decidable (p ∨ q)] (h : ¬ (p ∧ q)) : ind (p ∨ q) = ind p + ind q := by
  unfold ind
  by_cases hp : p <;> by_cases hq : q <;> simp_all
theorem total_sum {l : List (Int × Int)} (h : setB l = true) {N : Nat} (hN : (N : Int) = 2305843009213693952) (k : Nat) (hk : k ≤ l.length) : totalAt l k = (sumN N (fun i => ind (holdsB (l.take k) (-1152921504606846976 + (i : Int)) = true)) : Nat) := by
  induction k with
  | zero =>
    rw [sumN_congr (g := fun _ => 0) (fun i _ => by simp [holdsB, ind]), sumN_zero]
    rfl
  | succ k ih =>
    have hb := setB_at h k (by omega)
    rw [totalAt, ih (by omega), List.getElem?_eq_getElem (by omega), Option.getD_some]
    have e : ∀ i : Nat, i < N → ind (holdsB (l.take (k + 1)) (-1152921504606846976 + (i : Int)) = true) = ind (holdsB (l.take k) (-1152921504606846976 + (i : Int)) = true) + ind ((l[k].1 + 1152921504606846976).toNat ≤ i ∧ i < (l[k].2 + 1152921504606846976).toNat) := by
      intro i _
      rw [← ind_or]
      · refine ind_congr ?_
        rw [holds_step (by omega), Bool.or_eq_true, Bool.and_eq_true, decide_eq_true_eq, decide_eq_true_eq]
        constructor
        · rintro (x | x)
          · exact .inl x
          · exact .inr (by omega)
        · rintro (x | x)
          · exact .inl x
          · exact .inr (by omega)
      · rintro ⟨h1, h2⟩
        obtain ⟨s, hs, h3, h4⟩ := holdsB_mem.1 h1
        obtain ⟨j, hj, rfl⟩ := List.mem_iff_getElem.1 hs
        rw [List.length_take] at hj
        rw [List.getElem_take] at h3 h4
        have := setB_lt h j k (by omega) (by omega)
        omega
    rw [sumN_congr e, sumN_add, sum_range]
    omega
theorem totalN_sum {l : List (Int × Int)} (h : setB l = true) {N : Nat} (hN : (N : Int) = 2305843009213693952) : totalN l = (sumN N (fun i => ind (holdsB l (-1152921504606846976 + (i : Int)) = true)) : Nat) := by
  unfold totalN
  rw [if_pos h, total_sum h hN _ (Nat.le_refl _), List.take_length]
theorem mixR_is (is : Bool → Bool → Bool) {A B : List (Int × Int)} (hA : setB A = true) (hB : setB B = true) : mixR is A B = mixL is A B := by unfold mixR; rw [if_pos ⟨hA, hB⟩]
theorem mix_totals {A B : List (Int × Int)} (hA : setB A = true) (hB : setB B = true) (lA : A.length ≤ 60) (lB : B.length ≤ 60) :
    totalN (mixR andB A B) + totalN (mixR orB A B) = totalN A + totalN B ∧ totalN (mixR andB A B) + totalN (mixR butB A B) = totalN A := by
  obtain ⟨N, hN⟩ : ∃ N : Nat, (N : Int) = 2305843009213693952 := ⟨2305843009213693952, rfl⟩
  rw [mixR_is _ hA hB, mixR_is _ hA hB, mixR_is _ hA hB, totalN_sum (mixL_set andB hA hB lA lB) hN, totalN_sum (mixL_set orB hA hB lA lB) hN, totalN_sum (mixL_set butB hA hB lA lB) hN, totalN_sum hA hN, totalN_sum hB hN]
  rw [← Int.natCast_add, ← Int.natCast_add, ← Int.natCast_add, ← sumN_add, ← sumN_add, ← sumN_add]
  constructor
  · refine congrArg _ (sumN_congr fun i _ => ?_)
    rw [mixL_holds andB rfl, mixL_holds orB rfl]
    unfold ind andB orB
    cases holdsB A (-1152921504606846976 + (i : Int)) <;> cases holdsB B (-1152921504606846976 + (i : Int)) <;> rfl
  · refine congrArg _ (sumN_congr fun i _ => ?_)
    rw [mixL_holds andB rfl, mixL_holds butB rfl]
    unfold ind andB butB
    cases holdsB A (-1152921504606846976 + (i : Int)) <;> cases holdsB B (-1152921504606846976 + (i : Int)) <;> rfl
/-- What mixed sets say of a time. -/
theorem mix_laws {A B : List (Int × Int)} (hA : setB A = true) (hB : setB B = true) (t : Int) :
    holdsB (mixR andB A B) t = (holdsB A t && holdsB B t) ∧ holdsB (mixR orB A B) t = (holdsB A t || holdsB B t) ∧ holdsB (mixR butB A B) t = (holdsB A t && !holdsB B t) := by
  rw [mixR_is _ hA hB, mixR_is _ hA hB, mixR_is _ hA hB]
  exact ⟨mixL_holds andB rfl A B t, mixL_holds orB rfl A B t, mixL_holds butB rfl A B t⟩
theorem mixR_set (is : Bool → Bool → Bool) {A B : List (Int × Int)} (hA : setB A = true) (hB : setB B = true) (lA : A.length ≤ 60) (lB : B.length ≤ 60) : setB (mixR is A B) = true := by
  rw [mixR_is _ hA hB]
  exact mixL_set is hA hB lA lB
end Go.Proofs.Ytffbipcdlnfihaa
