/-
  What is within a span: first words.
-/
import Derived.Test.YtdkfkalplmgoeaaNumAll
namespace Go.Proofs.Ytdkfkalplmgoeaa
open Go.RowKit
/-- A span within another one. -/
def Wi (a b : Sp) : Prop := b.lo ≤ a.lo ∧ a.hi ≤ b.hi
theorem Wi.refl (a : Sp) : Wi a a := ⟨Int.le_refl _, Int.le_refl _⟩
theorem Wi.trans {a b c : Sp} (h : Wi a b) (k : Wi b c) : Wi a c := ⟨Int.le_trans k.1 h.1, Int.le_trans h.2 k.2⟩
theorem fit_zero {x y : Int} (h : (fitR x y).e = 0) : fitR x y = ⟨⟨x, y⟩, 0⟩ ∧ (-9223372036854775807 ≤ x ∧ x ≤ 9223372036854775807) ∧ -9223372036854775807 ≤ y ∧ y ≤ 9223372036854775807 := by
  unfold fitR at *
  split at h
  · rename_i h1
    rw [if_pos h1]
    unfold isNum at h1
    simp at h1
    exact ⟨rfl, h1.1, h1.2⟩
  · exact absurd h (by decide)
theorem ok_le {a : Sp} (h : a.okB = true) : a.lo ≤ a.hi := by
  unfold Sp.okB at h
  simp at h
  exact h.2
theorem add_zero {a b : Sp} (h : (addR a b).e = 0) : a.okB = true ∧ b.okB = true ∧ addR a b = ⟨⟨a.lo + b.lo, a.hi + b.hi⟩, 0⟩ := by
  unfold addR at *
  split at h
  · rename_i h1
    rw [if_pos h1]
    simp at h1
    exact ⟨h1.1, h1.2, (fit_zero h).1⟩
  · exact absurd h (by decide)
theorem down_le_up (x d : Int) (hd : 0 < d) : downZ x d ≤ upZ x d := by
  unfold downZ upZ
  have h1 := Int.mul_ediv_add_emod x d
  have h2 := Int.emod_nonneg x (show d ≠ 0 by omega)
  have h3 := Int.mul_ediv_add_emod (-x) d
  have h4 := Int.emod_nonneg (-x) (show d ≠ 0 by omega)
  have h5 : d * (x / d) + d * (-x / d) ≤ 0 := by omega
  rw [← Int.mul_add] at h5
  by_cases c : 0 < x / d + -x / d
  · have := Int.mul_pos hd c
    omega
  · omega
theorem sub_zero {a b : Sp} (h : (subR a b).e = 0) : subR a b = addR a (negS b) ∧ b.okB = true := by
  unfold subR at *
  split at h
  · rename_i h1
    rw [if_pos h1]
    exact ⟨rfl, h1⟩
  · exact absurd h (by decide)
/-! The least and the greatest of four. -/
theorem min4_le (a b c d : Int) : min4 a b c d ≤ a ∧ min4 a b c d ≤ b ∧ min4 a b c d ≤ c ∧ min4 a b c d ≤ d := by
  unfold min4 imin
  (repeat' split) <;> omega
theorem le_max4 (a b c d : Int) : a ≤ max4 a b c d ∧ b ≤ max4 a b c d ∧ c ≤ max4 a b c d ∧ d ≤ max4 a b c d := by
  unfold max4 imax
  (repeat' split) <;> omega
theorem le_min4 {x a b c d : Int} (h1 : x ≤ a) (h2 : x ≤ b) (h3 : x ≤ c) (h4 : x ≤ d) : x ≤ min4 a b c d := by
  unfold min4 imin
  (repeat' split) <;> omega
theorem max4_le {x a b c d : Int} (h1 : a ≤ x) (h2 : b ≤ x) (h3 : c ≤ x) (h4 : d ≤ x) : max4 a b c d ≤ x := by
  unfold max4 imax
  (repeat' split) <;> omega
/-- A product is between those of the ends. -/
theorem mid_mul {lo hi x : Int} (c : Int) (h1 : lo ≤ x) (h2 : x ≤ hi) : (lo * c ≤ x * c ∧ x * c ≤ hi * c) ∨ (hi * c ≤ x * c ∧ x * c ≤ lo * c) := by
  by_cases h : 0 ≤ c
  · exact .inl ⟨Int.mul_le_mul_of_nonneg_right h1 h, Int.mul_le_mul_of_nonneg_right h2 h⟩
  · exact .inr ⟨Int.mul_le_mul_of_nonpos_right h2 (by omega), Int.mul_le_mul_of_nonpos_right h1 (by omega)⟩
theorem mid_mul2 {lo hi y : Int} (c : Int) (h1 : lo ≤ y) (h2 : y ≤ hi) : (c * lo ≤ c * y ∧ c * y ≤ c * hi) ∨ (c * hi ≤ c * y ∧ c * y ≤ c * lo) := by
  rw [Int.mul_comm c lo, Int.mul_comm c y, Int.mul_comm c hi]
  exact mid_mul c h1 h2
theorem corner {a b c d x y : Int} (h1 : a ≤ x) (h2 : x ≤ b) (h3 : c ≤ y) (h4 : y ≤ d) : min4 (a * c) (a * d) (b * c) (b * d) ≤ x * y ∧ x * y ≤ max4 (a * c) (a * d) (b * c) (b * d) := by
  have m1 := min4_le (a * c) (a * d) (b * c) (b * d)
  have m2 := le_max4 (a * c) (a * d) (b * c) (b * d)
  have p1 := mid_mul y h1 h2
  have p2 := mid_mul2 a h3 h4
  have p3 := mid_mul2 b h3 h4
  omega
theorem mul_zero {a b : Sp} (h : (mulR a b).e = 0) : a.okB = true ∧ b.okB = true ∧ mulR a b = ⟨⟨downZ (min4 (a.lo * b.lo) (a.lo * b.hi) (a.hi * b.lo) (a.hi * b.hi)) 4294967296, upZ (max4 (a.lo * b.lo) (a.lo * b.hi) (a.hi * b.lo) (a.hi * b.hi)) 4294967296⟩, 0⟩ := by
  unfold mulR at *
  split at h
  · rename_i h1
    rw [if_pos h1]
    simp at h1
    exact ⟨h1.1, h1.2, (fit_zero h).1⟩
  · exact absurd h (by decide)
theorem down_mono {x y : Int} (d : Int) (hd : 0 < d) (h : x ≤ y) : downZ x d ≤ downZ y d := Int.ediv_le_ediv hd h
theorem up_mono {x y : Int} (d : Int) (hd : 0 < d) (h : x ≤ y) : upZ x d ≤ upZ y d := by
  unfold upZ
  have := Int.ediv_le_ediv (a := -y) (b := -x) hd (by omega)
  omega
/-- What is spanned by valid operations is valid: its ends are in order. -/
theorem mul_ord {a b : Sp} (h : (mulR a b).e = 0) : (mulR a b).s.lo ≤ (mulR a b).s.hi := by
  obtain ⟨ka, kb, e⟩ := mul_zero h
  rw [e]
  have m1 := min4_le (a.lo * b.lo) (a.lo * b.hi) (a.hi * b.lo) (a.hi * b.hi)
  have m2 := le_max4 (a.lo * b.lo) (a.lo * b.hi) (a.hi * b.lo) (a.hi * b.hi)
  have h1 := down_mono 4294967296 (by decide) (show min4 (a.lo * b.lo) (a.lo * b.hi) (a.hi * b.lo) (a.hi * b.hi) ≤ max4 (a.lo * b.lo) (a.lo * b.hi) (a.hi * b.lo) (a.hi * b.hi) by omega)
  have h2 := down_le_up (max4 (a.lo * b.lo) (a.lo * b.hi) (a.hi * b.lo) (a.hi * b.hi)) 4294967296 (by decide)
  exact Int.le_trans h1 h2
theorem abs_lo (a : Sp) : (absS a).lo = if 0 ≤ a.lo then a.lo else if a.hi ≤ 0 then -a.hi else 0 := by
  unfold absS negS
  (repeat' split) <;> rfl
theorem abs_hi (a : Sp) : (absS a).hi = if 0 ≤ a.lo then a.hi else if a.hi ≤ 0 then -a.lo else if -a.lo < a.hi then a.hi else -a.lo := by
  unfold absS negS imax
  (repeat' split) <;> rfl
theorem square_zero {a : Sp} (h : (squareR a).e = 0) : a.okB = true ∧ squareR a = mulR (absS a) (absS a) := by
  unfold squareR at *
  split at h
  · rename_i h1
    rw [if_pos h1]
    exact ⟨h1, rfl⟩
  · exact absurd h (by decide)
/-! Roots. -/
theorem rootAt_law (k : Nat) (r x : Int) (h0 : 0 ≤ r) (h1 : r * r ≤ x) (h2 : x < (r + 2 ^ k) * (r + 2 ^ k)) : 0 ≤ rootAt k r x ∧ rootAt k r x * rootAt k r x ≤ x ∧ x < (rootAt k r x + 1) * (rootAt k r x + 1) := by
  induction k generalizing r with
  | zero => exact ⟨h0, h1, h2⟩
  | succ k ih =>
    unfold rootAt
    have hp : (0 : Int) < 2 ^ k := Int.pow_pos (by decide)
    have e : (2 : Int) ^ (k + 1) = 2 ^ k + 2 ^ k := by rw [Int.pow_succ]; omega
    rw [e] at h2
    split
    · exact ih _ (by omega) (by assumption) (by rw [Int.add_assoc]; exact h2)
    · exact ih _ h0 h1 (by omega)
theorem rootZ_law (x : Int) (h0 : 0 ≤ x) (h1 : x < 316912650057057350374175801344) : 0 ≤ rootZ x ∧ rootZ x * rootZ x ≤ x ∧ x < (rootZ x + 1) * (rootZ x + 1) :=
  rootAt_law 49 0 x (by decide) (by simpa using h0) (by
    have : ((0 : Int) + 2 ^ 49) * (0 + 2 ^ 49) = 316912650057057350374175801344 := by decide +kernel
    rw [this]; exact h1)
theorem sq_lt {a b : Int} (hb : 0 ≤ b) (h : a * a < b * b) : a < b := by
  by_cases c : a < b
  · exact c
  · have := Int.mul_le_mul (show b ≤ a by omega) (show b ≤ a by omega) hb (by omega)
    omega
theorem rootZ_mono {x y : Int} (h0 : 0 ≤ x) (h : x ≤ y) (h1 : y < 316912650057057350374175801344) : rootZ x ≤ rootZ y := by
  obtain ⟨a1, a2, -⟩ := rootZ_law x h0 (by omega)
  obtain ⟨b1, -, b3⟩ := rootZ_law y (by omega) h1
  have := sq_lt (a := rootZ x) (b := rootZ y + 1) (by omega) (by omega)
  omega
theorem rootUp_law (x : Int) (h0 : 0 ≤ x) (h1 : x < 316912650057057350374175801344) : rootZ x ≤ rootUp x ∧ x ≤ rootUp x * rootUp x ∧ ∀ r, 0 ≤ r → x ≤ r * r → rootUp x ≤ r := by
  obtain ⟨a1, a2, a3⟩ := rootZ_law x h0 h1
  unfold rootUp
  split
  · rename_i h
    refine ⟨Int.le_refl _, by omega, fun r hr hx => ?_⟩
    have hrr : (r + 1) * (r + 1) = r * r + r + r + 1 := by rw [Int.add_mul, Int.mul_add]; omega
    have := sq_lt (a := rootZ x) (b := r + 1) (by omega) (by rw [h]; omega)
    omega
  · rename_i h
    refine ⟨by omega, by omega, fun r hr hx => ?_⟩
    have h2 : rootZ x * rootZ x < r * r := by omega
    have := sq_lt hr h2
    omega
theorem rootUp_mono {x y : Int} (h0 : 0 ≤ x) (h : x ≤ y) (h1 : y < 316912650057057350374175801344) : rootUp x ≤ rootUp y := by
  obtain ⟨b0, b1, -⟩ := rootUp_law y (by omega) h1
  obtain ⟨-, -, a3⟩ := rootUp_law x h0 (by omega)
  have := (rootZ_law y (by omega) h1).1
  exact a3 _ (by omega) (by omega)
theorem root_zero {a : Sp} (h : (rootR a).e = 0) : a.okB = true ∧ 0 ≤ a.hi ∧ rootR a = ⟨⟨rootZ (imax a.lo 0 * 4294967296), rootUp (a.hi * 4294967296)⟩, 0⟩ := by
  unfold rootR at *
  split at h
  · rename_i h1
    rw [if_pos h1]
    split at h
    · exact absurd h (by decide)
    · rename_i h2
      rw [if_neg h2]
      exact ⟨h1, by omega, rfl⟩
  · exact absurd h (by decide)
theorem root_ord {a : Sp} (h : (rootR a).e = 0) (hi : a.hi ≤ 9223372036854775807) : 0 ≤ (rootR a).s.lo ∧ (rootR a).s.lo ≤ (rootR a).s.hi := by
  obtain ⟨k, n, e⟩ := root_zero h
  have l := ok_le k
  rw [e]
  have h1 : imax a.lo 0 * 4294967296 ≤ a.hi * 4294967296 := by unfold imax; split <;> omega
  have h2 : 0 ≤ imax a.lo 0 * 4294967296 := by unfold imax; split <;> omega
  have h3 := rootZ_mono h2 h1 (by omega)
  have h4 := (rootUp_law (a.hi * 4294967296) (by omega) (by omega)).1
  exact ⟨(rootZ_law _ h2 (by omega)).1, Int.le_trans h3 h4⟩
/-! Sums of terms. -/
/-- Two lists, element by element. -/
inductive All2 {α : Type} (Q : α → α → Prop) : List α → List α → Prop
  | nil : All2 Q [] []
  | cons {x y : α} {l l' : List α} : Q x y → All2 Q l l' → All2 Q (x :: l) (y :: l')
theorem fold_zero {α : Type} {f : α → Res} {s : Sp} {x : α} {l : List α} (h : (foldR f s (x :: l)).e = 0) : (f x).e = 0 ∧ (addR s (f x).s).e = 0 ∧ foldR f s (x :: l) = foldR f (addR s (f x).s).s l := by
  have e : foldR f s (x :: l) = if (f x).e = 0 then (if (addR s (f x).s).e = 0 then foldR f (addR s (f x).s).s l else errR (addR s (f x).s).e) else errR (f x).e := rfl
  rw [e] at h ⊢
  split at h
  · rename_i h1
    rw [if_pos h1]
    split at h
    · rename_i h2
      rw [if_pos h2]
      exact ⟨h1, h2, rfl⟩
    · rename_i h2
      exact absurd h h2
  · rename_i h1
    exact absurd h h1
theorem fold_num {α : Type} (f : α → Res) : ∀ (l : List α) (s : Sp), s.hi ≤ 9223372036854775807 → (foldR f s l).e = 0 → (foldR f s l).s.hi ≤ 9223372036854775807
  | [], _, h, _ => h
  | x :: l, s, h, h1 => by
    obtain ⟨a1, a2, a3⟩ := fold_zero h1
    rw [a3] at h1 ⊢
    refine fold_num f l _ ?_ h1
    have h2 := a2
    unfold addR at h2 ⊢
    split at h2
    · rename_i h3
      rw [if_pos h3]
      obtain ⟨e, -, -, h4⟩ := fit_zero h2
      rw [e]
      exact h4
    · exact absurd h2 (by decide)
theorem norm_zero {l : List Sp} (h : (normR l).e = 0) : (foldR squareR z0 l).e = 0 ∧ normR l = rootR (foldR squareR z0 l).s := by
  unfold normR at *
  split at h
  · rename_i h1
    rw [if_pos h1]
    split at h
    · rename_i h2
      rw [if_pos h2]
      split at h
      · rename_i h3
        rw [if_pos h3]
        exact ⟨h3, rfl⟩
      · rename_i h3
        exact absurd h h3
    · exact absurd h (by decide)
  · exact absurd h (by decide)
theorem norm_ord {l : List Sp} (h : (normR l).e = 0) : 0 ≤ (normR l).s.lo ∧ (normR l).s.lo ≤ (normR l).s.hi := by
  obtain ⟨a1, a2⟩ := norm_zero h
  rw [a2] at h ⊢
  exact root_ord h (fold_num squareR l z0 (by decide) a1)
end Go.Proofs.Ytdkfkalplmgoeaa
