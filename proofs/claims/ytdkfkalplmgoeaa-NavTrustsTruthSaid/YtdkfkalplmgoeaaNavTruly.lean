/-
  What measurements say of a true place and velocity: cuts keep it (plain law).
  What is cut of a state within another one is within what is cut of the other one (plain law).
  Rounds of cuts: less is left of a narrower state, with more rounds, with more measurements; what is true stays (plain law).
  Contracts of ullageref06.Reading, of both Agrees.
  What is heard of a true state, and what stays of it (plain law).
  The plain laws of layer 6's outright statements.
-/
import Derived.Test.YtdkfkalplmgoeaaNavCutAll
import Derived.Test.YtdkfkalplmgoeaaFuseAll
import Derived.Test.YtdkfkalplmgoeaaNavAll
import Derived.Test.YtdkfkalplmgoeaaRefNavAll
namespace Go.Proofs.Ytdkfkalplmgoeaa
set_option maxRecDepth 100000
/-- A span has a number; a number of a square (times 2^32); a root of one. -/
def Has1 (a : Sp) (n : Int) : Prop := a.lo ≤ n ∧ n ≤ a.hi
def Has2 (a : Sp) (n : Int) : Prop := a.lo * 4294967296 ≤ n ∧ n ≤ a.hi * 4294967296
def HasRoot (r : Sp) (X : Int) : Prop := (r.lo ≤ 0 ∨ r.lo * r.lo ≤ X) ∧ 0 ≤ r.hi ∧ X ≤ r.hi * r.hi
/-- a times the root of X is at most S. -/
def LeR (a S X : Int) : Prop := (a ≤ 0 ∧ 0 ≤ S) ∨ (0 ≤ a ∧ 0 ≤ S ∧ a * a * X ≤ S * S) ∨ (a ≤ 0 ∧ S ≤ 0 ∧ S * S ≤ a * a * X)
def HasQuo (r : Sp) (S X : Int) : Prop := LeR r.lo S X ∧ LeR (-r.hi) (-S) X
/-- It is not said that there is none; without an error it has something. -/
def Fine (r : Res) (P : Sp → Prop) : Prop := r.e ≠ 7 ∧ (r.e = 0 → P r.s)
theorem fine_do {e : Int} {r : Res} {P : Sp → Prop} (he : e ≠ 7) (h : e = 0 → Fine r P) : Fine (doR e r) P := by
  unfold doR
  split
  · rename_i k
    exact h k
  · rename_i k
    exact ⟨he, fun z => absurd z k⟩
theorem do_zero {e : Int} {r : Res} (h : (doR e r).e = 0) : e = 0 ∧ doR e r = r := by
  unfold doR at *
  split at h
  · rename_i k
    exact ⟨k, by rw [if_pos k]⟩
  · rename_i k
    exact absurd h k
theorem fit_e (x y : Int) : (fitR x y).e ≠ 7 := by
  unfold fitR
  split <;> simp [errR]
theorem add_e (a b : Sp) : (addR a b).e ≠ 7 := by
  unfold addR
  split
  · exact fit_e _ _
  · simp [errR]
theorem sub_e (a b : Sp) : (subR a b).e ≠ 7 := by
  unfold subR
  split
  · exact add_e _ _
  · simp [errR]
theorem mul_e (a b : Sp) : (mulR a b).e ≠ 7 := by
  unfold mulR
  split
  · exact fit_e _ _
  · simp [errR]
theorem div_e (a b : Sp) : (divR a b).e ≠ 7 := by
  unfold divR
  split
  · split
    · simp [errR]
    · exact fit_e _ _
  · simp [errR]
theorem square_e (a : Sp) : (squareR a).e ≠ 7 := by
  unfold squareR
  split
  · exact mul_e _ _
  · simp [errR]
theorem root_e (a : Sp) : (rootR a).e ≠ 7 := by
  unfold rootR
  split
  · split
    · simp [errR]
    · simp
  · simp [errR]
theorem fold_e {α : Type} (f : α → Res) (hf : ∀ x, (f x).e ≠ 7) : ∀ (l : List α) (s : Sp), (foldR f s l).e ≠ 7
  | [], _ => by simp [foldR]
  | x :: l, s => by
    unfold foldR
    split
    · split
      · exact fold_e f hf l _
      · exact add_e _ _
    · exact hf x
theorem norm_e (l : List Sp) : (normR l).e ≠ 7 := by
  unfold normR
  split
  · split
    · split
      · exact root_e _
      · exact fold_e squareR square_e _ _
    · simp [errR]
  · simp [errR]
theorem dot_e (a b : Bx) : (dotBR a b).e ≠ 7 := by
  unfold dotBR
  split
  · exact fold_e mul2 (fun p => mul_e _ _) _ _
  · simp [errR]
theorem first_e {a b : Int} (h : a ≠ 7) (k : b ≠ 7) : firstE a b ≠ 7 := by
  unfold firstE
  split
  · exact k
  · exact h
theorem away_e (p f : Bx) : awayE p f ≠ 7 := first_e (first_e (sub_e _ _) (sub_e _ _)) (sub_e _ _)
theorem down_mul (x d : Int) (hd : 0 < d) : downZ x d * d ≤ x := Int.ediv_mul_le x (by omega)
theorem up_mul (x d : Int) (hd : 0 < d) : x ≤ upZ x d * d := by
  unfold upZ
  have := Int.ediv_mul_le (-x) (show d ≠ 0 by omega)
  rw [Int.neg_mul]
  omega
theorem down_le {p q x : Int} (hq : 0 < q) (h : p ≤ x * q) : downZ p q ≤ x := Int.ediv_le_of_le_mul hq h
theorem le_up {p q x : Int} (hq : 0 < q) (h : x * q ≤ p) : x ≤ upZ p q := by
  unfold upZ
  have := Int.ediv_le_of_le_mul (a := -p) (b := -x) hq (by rw [Int.neg_mul]; omega)
  omega
theorem add_has1 {a b : Sp} {x y : Int} (ha : Has1 a x) (hb : Has1 b y) (h : (addR a b).e = 0) : Has1 (addR a b).s (x + y) := by
  rw [(add_zero h).2.2]
  unfold Has1 at *
  simp only
  omega
theorem sub_has1 {a b : Sp} {x y : Int} (ha : Has1 a x) (hb : Has1 b y) (h : (subR a b).e = 0) : Has1 (subR a b).s (x - y) := by
  have e := (sub_zero h).1
  rw [e] at h ⊢
  rw [Int.sub_eq_add_neg]
  refine add_has1 ha ?_ h
  unfold Has1 negS at *
  simp only
  omega
theorem add_has2 {a b : Sp} {x y : Int} (ha : Has2 a x) (hb : Has2 b y) (h : (addR a b).e = 0) : Has2 (addR a b).s (x + y) := by
  rw [(add_zero h).2.2]
  unfold Has2 at *
  simp only
  omega
theorem sub_has2 {a b : Sp} {x y : Int} (ha : Has2 a x) (hb : Has2 b y) (h : (subR a b).e = 0) : Has2 (subR a b).s (x - y) := by
  have e := (sub_zero h).1
  rw [e] at h ⊢
  rw [Int.sub_eq_add_neg]
  refine add_has2 ha ?_ h
  unfold Has2 negS at *
  simp only
  omega
theorem mul_has {a b : Sp} {x y : Int} (ha : Has1 a x) (hb : Has1 b y) (h : (mulR a b).e = 0) : Has2 (mulR a b).s (x * y) := by
  obtain ⟨ka, kb, e⟩ := mul_zero h
  rw [e]
  obtain ⟨c1, c2⟩ := corner ha.1 ha.2 hb.1 hb.2
  have d1 := down_mul (min4 (a.lo * b.lo) (a.lo * b.hi) (a.hi * b.lo) (a.hi * b.hi)) 4294967296 (by decide)
  have d2 := up_mul (max4 (a.lo * b.lo) (a.lo * b.hi) (a.hi * b.lo) (a.hi * b.hi)) 4294967296 (by decide)
  exact ⟨Int.le_trans d1 c1, Int.le_trans c2 d2⟩
theorem square_has {a : Sp} {x : Int} (ha : Has1 a x) (h : (squareR a).e = 0) : Has2 (squareR a).s (x * x) := by
  obtain ⟨k, e⟩ := square_zero h
  have hl := ok_le k
  rw [e] at h ⊢
  obtain ⟨h1, h2⟩ := ha
  have hx : Has1 (absS a) (if 0 ≤ x then x else -x) := by
    unfold Has1
    rw [abs_lo, abs_hi]
    constructor
    · (repeat' split) <;> omega
    · (repeat' split) <;> omega
  have := mul_has hx hx h
  by_cases c : 0 ≤ x
  · rw [if_pos c] at this
    exact this
  · rw [if_neg c, Int.neg_mul_neg] at this
    exact this
theorem sq_le {a b : Int} (ha : 0 ≤ a) (h : a ≤ b) : a * a ≤ b * b := Int.mul_le_mul h h ha (by omega)
theorem sq_nonneg (a : Int) : 0 ≤ a * a := by
  by_cases h : 0 ≤ a
  · exact Int.mul_nonneg h h
  · rw [← Int.neg_mul_neg]
    exact Int.mul_nonneg (by omega) (by omega)
theorem le_of_sq {a b : Int} (hb : 0 ≤ b) (h : a * a ≤ b * b) : a ≤ b := by
  have := sq_lt (a := a) (b := b + 1) (by omega) (by have : (b + 1) * (b + 1) = b * b + b + b + 1 := by rw [Int.add_mul, Int.mul_add]; omega
                                                     omega)
  omega
theorem root_has {f : Sp} {X : Int} (hf : Has2 f X) (hX : 0 ≤ X) (hi : f.hi ≤ 9223372036854775807) (h : (rootR f).e = 0) : HasRoot (rootR f).s X ∧ 0 ≤ (rootR f).s.lo := by
  obtain ⟨k, n, e⟩ := root_zero h
  have l := ok_le k
  rw [e]
  obtain ⟨f1, f2⟩ := hf
  have h1 : 0 ≤ imax f.lo 0 * 4294967296 := by unfold imax; split <;> omega
  have h2 : imax f.lo 0 * 4294967296 ≤ X := by unfold imax; split <;> omega
  obtain ⟨a1, a2, a3⟩ := rootZ_law _ h1 (by unfold imax; split <;> omega)
  obtain ⟨b1, b2, -⟩ := rootUp_law (f.hi * 4294967296) (by omega) (by omega)
  have b0 := (rootZ_law (f.hi * 4294967296) (by omega) (by omega)).1
  refine ⟨⟨.inr ?_, ?_, ?_⟩, a1⟩
  · exact Int.le_trans a2 h2
  · exact Int.le_trans b0 b1
  · exact Int.le_trans f2 b2
/-- Three numbers. -/
structure V3 where
  x : Int
  y : Int
  z : Int
def V3.at (v : V3) : Nat → Int
  | 0 => v.x
  | 1 => v.y
  | _ => v.z
def V3.dot (u v : V3) : Int := u.x * v.x + u.y * v.y + u.z * v.z
def V3.sub (u v : V3) : V3 := ⟨u.x - v.x, u.y - v.y, u.z - v.z⟩
def HasB (b : Bx) (v : V3) : Prop := Has1 b.x v.x ∧ Has1 b.y v.y ∧ Has1 b.z v.z
theorem HasB.at {b : Bx} {v : V3} (h : HasB b v) (i : Nat) : Has1 (b.at i) (v.at i) := by
  match i with
  | 0 => exact h.1
  | 1 => exact h.2.1
  | n + 2 => exact h.2.2
theorem HasB.put {b : Bx} {v : V3} {s : Sp} (h : HasB b v) (i : Nat) (hs : Has1 s (v.at i)) : HasB (b.put i s) v := by
  match i with
  | 0 => exact ⟨hs, h.2⟩
  | 1 => exact ⟨h.1, hs, h.2.2⟩
  | n + 2 => exact ⟨h.1, h.2.1, hs⟩
theorem dot_nonneg (v : V3) : 0 ≤ v.dot v := by
  have h1 := sq_nonneg v.x
  have h2 := sq_nonneg v.y
  have h3 := sq_nonneg v.z
  unfold V3.dot
  omega
theorem norm_has {b : Bx} {v : V3} (hb : HasB b v) (h : (normR b.list).e = 0) : HasRoot (normR b.list).s (v.dot v) ∧ 0 ≤ (normR b.list).s.lo := by
  obtain ⟨h1, h2⟩ := norm_zero h
  rw [h2] at h ⊢
  refine root_has ?_ (dot_nonneg v) (fold_num squareR b.list z0 (by decide) h1) h
  show Has2 (foldR squareR z0 [b.x, b.y, b.z]).s _
  have h1 : (foldR squareR z0 [b.x, b.y, b.z]).e = 0 := h1
  obtain ⟨a1, a2, a3⟩ := fold_zero h1
  rw [a3] at h1 ⊢
  obtain ⟨b1, b2, b3⟩ := fold_zero h1
  rw [b3] at h1 ⊢
  obtain ⟨c1, c2, c3⟩ := fold_zero h1
  rw [c3]
  have z : Has2 z0 0 := ⟨by decide, by decide⟩
  have k1 := add_has2 z (square_has hb.1 a1) a2
  have k2 := add_has2 k1 (square_has hb.2.1 b1) b2
  have k3 := add_has2 k2 (square_has hb.2.2 c1) c2
  rw [show v.dot v = 0 + v.x * v.x + v.y * v.y + v.z * v.z by unfold V3.dot; omega]
  exact k3
theorem dot_has {a b : Bx} {u v : V3} (ha : HasB a u) (hb : HasB b v) (h : (dotBR a b).e = 0) : Has2 (dotBR a b).s (u.dot v) := by
  unfold dotBR at *
  split at h
  · rename_i k
    rw [if_pos k]
    have h1 : (foldR mul2 z0 [(a.x, b.x), (a.y, b.y), (a.z, b.z)]).e = 0 := h
    show Has2 (foldR mul2 z0 [(a.x, b.x), (a.y, b.y), (a.z, b.z)]).s _
    obtain ⟨a1, a2, a3⟩ := fold_zero h1
    rw [a3] at h1 ⊢
    obtain ⟨b1, b2, b3⟩ := fold_zero h1
    rw [b3] at h1 ⊢
    obtain ⟨c1, c2, c3⟩ := fold_zero h1
    rw [c3]
    have z : Has2 z0 0 := ⟨by decide, by decide⟩
    have k1 := add_has2 z (mul_has ha.1 hb.1 a1) a2
    have k2 := add_has2 k1 (mul_has ha.2.1 hb.2.1 b1) b2
    have k3 := add_has2 k2 (mul_has ha.2.2 hb.2.2 c1) c2
    rw [show u.dot v = 0 + u.x * v.x + u.y * v.y + u.z * v.z by unfold V3.dot; omega]
    exact k3
  · exact absurd h (by simp [errR])
theorem first_zero {a b : Int} (h : firstE a b = 0) : a = 0 ∧ b = 0 := by
  unfold firstE at h
  split at h
  · exact ⟨by assumption, h⟩
  · exact absurd h (by assumption)
theorem away_has {p f : Bx} {u v : V3} (hp : HasB p u) (hf : HasB f v) (h : awayE p f = 0) : HasB (awayS p f) (u.sub v) := by
  obtain ⟨h1, h3⟩ := first_zero h
  obtain ⟨h1, h2⟩ := first_zero h1
  exact ⟨sub_has1 hp.1 hf.1 h1, sub_has1 hp.2.1 hf.2.1 h2, sub_has1 hp.2.2 hf.2.2 h3⟩
/-! Quotients. -/
theorem div_zero' {n a : Sp} (h : (divR n a).e = 0) : n.okB = true ∧ a.okB = true ∧ (0 < a.lo ∨ a.hi < 0) ∧
    divR n a = ⟨⟨min4 (ratDown n.lo a.lo) (ratDown n.lo a.hi) (ratDown n.hi a.lo) (ratDown n.hi a.hi), max4 (ratUp n.lo a.lo) (ratUp n.lo a.hi) (ratUp n.hi a.lo) (ratUp n.hi a.hi)⟩, 0⟩ := by
  unfold divR at *
  split at h
  · rename_i k
    simp only [Bool.and_eq_true] at k
    split at h
    · exact absurd h (by simp [errR])
    · rename_i k2
      rw [if_neg k2]
      simp only [Bool.and_eq_true, decide_eq_true_eq, not_and] at k2
      rw [if_pos (by simp [k])]
      refine ⟨k.1, k.2, ?_, (fit_zero h).1⟩
      by_cases c : a.lo ≤ 0
      · exact .inr (by have := k2 c; omega)
      · exact .inl (by omega)
  · exact absurd h (by simp [errR])
theorem mul_le_l {a b c : Int} (hc : 0 ≤ c) (h : a ≤ b) : a * c ≤ b * c := Int.mul_le_mul_of_nonneg_right h hc
theorem div_has {n a : Sp} {g x : Int} (hn : Has2 n (g * x)) (ha : Has1 a g) (h : (divR n a).e = 0) : Has1 (divR n a).s x := by
  obtain ⟨k1, k2, hs, e⟩ := div_zero' h
  rw [e]
  obtain ⟨n1, n2⟩ := hn
  obtain ⟨a1, a2⟩ := ha
  have m1 := min4_le (ratDown n.lo a.lo) (ratDown n.lo a.hi) (ratDown n.hi a.lo) (ratDown n.hi a.hi)
  have m2 := le_max4 (ratUp n.lo a.lo) (ratUp n.lo a.hi) (ratUp n.hi a.lo) (ratUp n.hi a.hi)
  rw [Int.mul_comm g x] at n1 n2
  rcases hs with hs | hs
  · have d : ∀ y z, 0 < z → ratDown y z = downZ (y * 4294967296) z := fun y z hz => by unfold ratDown; rw [if_neg (by omega)]
    have u : ∀ y z, 0 < z → ratUp y z = upZ (y * 4294967296) z := fun y z hz => by unfold ratUp; rw [if_neg (by omega)]
    constructor
    · by_cases c : 0 ≤ x
      · refine Int.le_trans m1.2.1 ?_
        rw [d _ _ (by omega)]
        refine down_le (by omega) ?_
        have := Int.mul_le_mul_of_nonneg_left a2 c
        omega
      · refine Int.le_trans m1.1 ?_
        rw [d _ _ (by omega)]
        refine down_le (by omega) ?_
        have := Int.mul_le_mul_of_nonpos_left (show x ≤ 0 by omega) a1
        omega
    · by_cases c : 0 ≤ x
      · refine Int.le_trans ?_ m2.2.2.1
        rw [u _ _ (by omega)]
        refine le_up (by omega) ?_
        have := Int.mul_le_mul_of_nonneg_left a1 c
        omega
      · refine Int.le_trans ?_ m2.2.2.2
        rw [u _ _ (by omega)]
        refine le_up (by omega) ?_
        have := Int.mul_le_mul_of_nonpos_left (show x ≤ 0 by omega) a2
        omega
  · have d : ∀ y z, z < 0 → ratDown y z = downZ (-y * 4294967296) (-z) := fun y z hz => by unfold ratDown; rw [if_pos (by omega)]
    have u : ∀ y z, z < 0 → ratUp y z = upZ (-y * 4294967296) (-z) := fun y z hz => by unfold ratUp; rw [if_pos (by omega)]
    constructor
    · by_cases c : 0 ≤ x
      · refine Int.le_trans m1.2.2.1 ?_
        rw [d _ _ (by omega)]
        refine down_le (by omega) ?_
        have := Int.mul_le_mul_of_nonneg_left a1 c
        rw [Int.mul_neg, Int.neg_mul]
        omega
      · refine Int.le_trans m1.2.2.2 ?_
        rw [d _ _ (by omega)]
        refine down_le (by omega) ?_
        have := Int.mul_le_mul_of_nonpos_left (show x ≤ 0 by omega) a2
        rw [Int.mul_neg, Int.neg_mul]
        omega
    · by_cases c : 0 ≤ x
      · refine Int.le_trans ?_ m2.2.1
        rw [u _ _ (by omega)]
        refine le_up (by omega) ?_
        have := Int.mul_le_mul_of_nonneg_left a2 c
        rw [Int.mul_neg, Int.neg_mul]
        omega
      · refine Int.le_trans ?_ m2.1
        rw [u _ _ (by omega)]
        refine le_up (by omega) ?_
        have := Int.mul_le_mul_of_nonpos_left (show x ≤ 0 by omega) a1
        rw [Int.mul_neg, Int.neg_mul]
        omega
/-! Quotients by a root. -/
theorem sq_mono {a b X : Int} (hX : 0 ≤ X) (ha : 0 ≤ a) (h : a ≤ b) : a * a * X ≤ b * b * X := Int.mul_le_mul_of_nonneg_right (sq_le ha h) hX
theorem sq_neg_mono {a b X : Int} (hX : 0 ≤ X) (hb : b ≤ 0) (h : a ≤ b) : b * b * X ≤ a * a * X := by
  have := sq_mono hX (a := -b) (b := -a) (by omega) (by omega)
  rw [Int.neg_mul_neg, Int.neg_mul_neg] at this
  exact this
theorem leR_mono {a b S X : Int} (hX : 0 ≤ X) (h : a ≤ b) (k : LeR b S X) : LeR a S X := by
  unfold LeR at *
  rcases k with ⟨k1, k2⟩ | ⟨k1, k2, k3⟩ | ⟨k1, k2, k3⟩
  · exact .inl ⟨by omega, k2⟩
  · by_cases c : a ≤ 0
    · exact .inl ⟨c, k2⟩
    · exact .inr (.inl ⟨by omega, k2, Int.le_trans (sq_mono hX (by omega) h) k3⟩)
  · exact .inr (.inr ⟨by omega, k2, Int.le_trans k3 (sq_neg_mono hX k1 h)⟩)
/-- From below: a number p (times 2^32), divided by both ends of a root. -/
theorem quo_leR {q D lo hi S X : Int} (h0 : 0 < lo) (h1 : lo * lo ≤ X) (h2 : 0 ≤ hi) (h3 : X ≤ hi * hi) (hD : D ≤ S) (q1 : q * lo ≤ D) (q2 : q * hi ≤ D) : LeR q S X := by
  have hX : 0 ≤ X := by have := sq_nonneg lo; omega
  unfold LeR
  by_cases c : 0 ≤ S
  · by_cases k : q ≤ 0
    · exact .inl ⟨k, c⟩
    · refine .inr (.inl ⟨by omega, c, ?_⟩)
      have e1 : q * hi ≤ S := by omega
      have e2 := sq_le (Int.mul_nonneg (show 0 ≤ q by omega) h2) e1
      have e3 : q * q * X ≤ q * q * (hi * hi) := Int.mul_le_mul_of_nonneg_left h3 (sq_nonneg q)
      have e4 : q * q * (hi * hi) = q * hi * (q * hi) := by rw [Int.mul_assoc, Int.mul_assoc, Int.mul_left_comm q hi hi]
      omega
  · have k : q < 0 := by
      by_cases k : 0 ≤ q
      · have := Int.mul_nonneg k (show 0 ≤ lo by omega)
        omega
      · omega
    refine .inr (.inr ⟨by omega, by omega, ?_⟩)
    have e1 : -S ≤ -q * lo := by
      rw [Int.neg_mul]
      omega
    have e2 := sq_le (show 0 ≤ -S by omega) e1
    have e3 : q * q * (lo * lo) ≤ q * q * X := Int.mul_le_mul_of_nonneg_left h1 (sq_nonneg q)
    have e4 : q * q * (lo * lo) = -q * lo * (-q * lo) := by
      rw [Int.neg_mul, Int.neg_mul_neg, Int.mul_assoc, Int.mul_assoc, Int.mul_left_comm q lo lo]
    rw [Int.neg_mul_neg] at e2
    omega
theorem root_lo {r : Sp} {X : Int} (hX : 0 ≤ X) (h : HasRoot r X) (h0 : 0 ≤ r.lo) : r.lo * r.lo ≤ X := by
  rcases h.1 with k | k
  · obtain k2 : r.lo = 0 := by omega
    rw [k2]
    omega
  · exact k
theorem quo_has {n r : Sp} {S X : Int} (hX : 0 ≤ X) (hn : Has2 n S) (hr : HasRoot r X) (h0 : 0 ≤ r.lo) (h : (divR n r).e = 0) : HasQuo (divR n r).s S X := by
  obtain ⟨k1, k2, hs, e⟩ := div_zero' h
  have hl := ok_le k2
  have hp : 0 < r.lo := by omega
  rw [e]
  have m1 := min4_le (ratDown n.lo r.lo) (ratDown n.lo r.hi) (ratDown n.hi r.lo) (ratDown n.hi r.hi)
  have m2 := le_max4 (ratUp n.lo r.lo) (ratUp n.lo r.hi) (ratUp n.hi r.lo) (ratUp n.hi r.hi)
  have d : ∀ y z, 0 < z → ratDown y z = downZ (y * 4294967296) z := fun y z hz => by unfold ratDown; rw [if_neg (by omega)]
  have u : ∀ y z, 0 < z → ratUp y z = upZ (y * 4294967296) z := fun y z hz => by unfold ratUp; rw [if_neg (by omega)]
  constructor
  · refine quo_leR (D := n.lo * 4294967296) hp (root_lo hX hr h0) hr.2.1 hr.2.2 hn.1 ?_ ?_
    · have c1 := Int.le_trans m1.1 (Int.le_of_eq (d _ _ hp))
      exact Int.le_trans (mul_le_l (by omega) c1) (down_mul _ _ hp)
    · have c1 := Int.le_trans m1.2.1 (Int.le_of_eq (d _ _ (show 0 < r.hi by omega)))
      exact Int.le_trans (mul_le_l (by omega) c1) (down_mul _ _ (by omega))
  · refine quo_leR (D := -(n.hi * 4294967296)) hp (root_lo hX hr h0) hr.2.1 hr.2.2 (by have := hn.2; omega) ?_ ?_
    · have c1 := Int.le_trans (Int.le_of_eq (u _ _ hp).symm) m2.2.2.1
      have c2 := up_mul (n.hi * 4294967296) r.lo hp
      have c3 := mul_le_l (c := r.lo) (by omega) c1
      rw [Int.neg_mul]
      exact Int.neg_le_neg (Int.le_trans c2 c3)
    · have c1 := Int.le_trans (Int.le_of_eq (u _ _ (show 0 < r.hi by omega)).symm) m2.2.2.2
      have c2 := up_mul (n.hi * 4294967296) r.hi (by omega)
      have c3 := mul_le_l (c := r.hi) (by omega) c1
      rw [Int.neg_mul]
      exact Int.neg_le_neg (Int.le_trans c2 c3)
theorem quo_wi {a b : Sp} {S X : Int} (hX : 0 ≤ X) (h : Wi a b) (k : HasQuo a S X) : HasQuo b S X :=
  ⟨leR_mono hX h.1 k.1, leR_mono hX (Int.neg_le_neg h.2) k.2⟩
theorem root_wi' {a b : Sp} {X : Int} (h : Wi a b) (k : HasRoot a X) : HasRoot b X := by
  obtain ⟨h1, h2⟩ := h
  obtain ⟨k1, k2, k3⟩ := k
  refine ⟨?_, by omega, Int.le_trans k3 (sq_le k2 h2)⟩
  by_cases c : b.lo ≤ 0
  · exact .inl c
  · rcases k1 with k1 | k1
    · exact .inl (by omega)
    · exact .inr (Int.le_trans (sq_le (by omega) h1) k1)
theorem has2_wi {a b : Sp} {S : Int} (h : Wi a b) (k : Has2 a S) : Has2 b S := by
  unfold Wi Has2 at *
  omega
theorem has1_wi {a b : Sp} {S : Int} (h : Wi a b) (k : Has1 a S) : Has1 b S := by
  unfold Wi Has1 at *
  omega
theorem leR_mul {a S X lo hi : Int} (k : LeR a S X) (h0 : 0 ≤ lo) (h1 : lo * lo ≤ X) (h2 : 0 ≤ hi) (h3 : X ≤ hi * hi) : a * lo ≤ S ∨ a * hi ≤ S := by
  rcases k with ⟨k1, k2⟩ | ⟨k1, k2, k3⟩ | ⟨k1, k2, k3⟩
  · left
    have := Int.mul_le_mul_of_nonneg_right k1 h0
    omega
  · left
    refine le_of_sq k2 ?_
    have e3 : a * a * (lo * lo) ≤ a * a * X := Int.mul_le_mul_of_nonneg_left h1 (sq_nonneg a)
    have e4 : a * a * (lo * lo) = a * lo * (a * lo) := by rw [Int.mul_assoc, Int.mul_assoc, Int.mul_left_comm a lo lo]
    omega
  · right
    have e3 : a * a * X ≤ a * a * (hi * hi) := Int.mul_le_mul_of_nonneg_left h3 (sq_nonneg a)
    have e4 : a * a * (hi * hi) = -a * hi * (-a * hi) := by
      rw [Int.neg_mul, Int.neg_mul_neg, Int.mul_assoc, Int.mul_assoc, Int.mul_left_comm a hi hi]
    have := le_of_sq (a := -S) (b := -a * hi) (Int.mul_nonneg (by omega) h2) (by rw [Int.neg_mul_neg]; omega)
    rw [Int.neg_mul] at this
    omega
theorem mulq_has {v n : Sp} {S X : Int} (hX : 0 ≤ X) (hv : HasQuo v S X) (hn : HasRoot n X) (h0 : 0 ≤ n.lo) (h : (mulR v n).e = 0) : Has2 (mulR v n).s S := by
  obtain ⟨ka, kb, e⟩ := mul_zero h
  rw [e]
  have m1 := min4_le (v.lo * n.lo) (v.lo * n.hi) (v.hi * n.lo) (v.hi * n.hi)
  have m2 := le_max4 (v.lo * n.lo) (v.lo * n.hi) (v.hi * n.lo) (v.hi * n.hi)
  have d1 := down_mul (min4 (v.lo * n.lo) (v.lo * n.hi) (v.hi * n.lo) (v.hi * n.hi)) 4294967296 (by decide)
  have d2 := up_mul (max4 (v.lo * n.lo) (v.lo * n.hi) (v.hi * n.lo) (v.hi * n.hi)) 4294967296 (by decide)
  have c1 := leR_mul hv.1 h0 (root_lo hX hn h0) hn.2.1 hn.2.2
  have c2 := leR_mul hv.2 h0 (root_lo hX hn h0) hn.2.1 hn.2.2
  rw [Int.neg_mul, Int.neg_mul] at c2
  constructor
  · refine Int.le_trans d1 ?_
    rcases c1 with c | c
    · exact Int.le_trans m1.1 c
    · exact Int.le_trans m1.2.1 c
  · refine Int.le_trans ?_ d2
    rcases c2 with c | c
    · exact Int.le_trans (by omega) m2.2.2.1
    · exact Int.le_trans (by omega) m2.2.2.2
/-! Meets. -/
theorem meet_zero {a b : Sp} (h : (meetR a b).e = 0) : a.okB = true ∧ b.okB = true ∧ meetR a b = ⟨meetS a b, 0⟩ ∧ (meetR a b).s.okB = true ∧ Wi (meetR a b).s a ∧ Wi (meetR a b).s b := by
  unfold meetR at *
  split at h
  · rename_i k
    rw [if_pos k]
    simp only [Bool.and_eq_true] at k
    split at h
    · exact absurd h (by simp [errR])
    · rename_i k2
      rw [if_neg k2]
      refine ⟨k.1, k.2, rfl, ?_, ?_, ?_⟩
      · have h1 := okB_num k.1
        have h2 := okB_num k.2
        unfold Sp.okB numB
        simp only [Bool.and_eq_true, decide_eq_true_eq]
        unfold meetS imax imin at *
        simp only at *
        (repeat' split at *) <;> omega
      · unfold Wi meetS imax imin
        simp only
        (repeat' split) <;> omega
      · unfold Wi meetS imax imin
        simp only
        (repeat' split) <;> omega
  · exact absurd h (by simp [errR])
theorem meet_fine {a b : Sp} (h : (meetS a b).lo ≤ (meetS a b).hi) : (meetR a b).e ≠ 7 := by
  unfold meetR
  split
  · rw [if_neg (by omega)]
    simp
  · simp [errR]
theorem meet_has1 {a b : Sp} {x : Int} (ha : Has1 a x) (hb : Has1 b x) : Fine (meetR a b) (fun s => Has1 s x ∧ Wi s a ∧ s.okB = true) := by
  have hm : Has1 (meetS a b) x := by
    unfold Has1 meetS imax imin at *
    simp only
    (repeat' split) <;> omega
  refine ⟨meet_fine (by have := hm.1; have := hm.2; omega), fun h => ?_⟩
  obtain ⟨-, -, e, k1, k2, -⟩ := meet_zero h
  refine ⟨?_, k2, k1⟩
  rw [e]
  exact hm
theorem meet_has2 {a b : Sp} {x : Int} (ha : Has2 a x) (hb : Has2 b x) : (meetR a b).e ≠ 7 := by
  refine meet_fine ?_
  unfold Has2 meetS imax imin at *
  simp only
  (repeat' split) <;> omega
theorem hull_has {a b : Sp} {x : Int} (h : Has1 a x ∨ Has1 b x) : Fine (hullR a b) (Has1 · x) := by
  unfold hullR
  split
  · refine ⟨by simp, fun _ => ?_⟩
    unfold Has1 hullS imin imax at *
    simp only
    (repeat' split) <;> omega
  · exact ⟨by simp [errR], fun h => absurd h (by simp [errR])⟩
theorem meet_ok {a b : Sp} (ha : a.okB = true) (hb : b.okB = true) : (meetR a b).e = 0 ∨ (meetR a b).e = 7 := by
  unfold meetR
  rw [ha, hb]
  simp only [Bool.and_true, if_true]
  split
  · right; rfl
  · left; rfl
theorem meet_bad {a b : Sp} (h : ¬ (a.okB = true ∧ b.okB = true)) : (meetR a b).e = 2 := by
  unfold meetR
  rw [if_neg (by simpa using h)]
  rfl
theorem sides_has {d g : Sp} {x : Int} (hd : Has1 d x) (hg : HasRoot g (x * x)) (h0 : 0 ≤ g.lo) (hk : g.okB = true) (hn : (negS g).okB = true) : Fine (sidesR d g) (Has1 · x) := by
  have hlo : g.lo * g.lo ≤ x * x := root_lo (sq_nonneg x) hg h0
  have hx : Has1 g x ∨ Has1 (negS g) x := by
    by_cases c : 0 ≤ x
    · exact .inl ⟨le_of_sq c hlo, le_of_sq hg.2.1 hg.2.2⟩
    · right
      have e : x * x = -x * -x := (Int.neg_mul_neg x x).symm
      have h2 := hg.2.2
      rw [e] at hlo h2
      have a1 := le_of_sq (show 0 ≤ -x by omega) hlo
      have a2 := le_of_sq hg.2.1 h2
      unfold Has1 negS
      simp only
      omega
  unfold sidesR
  split
  · rename_i h1
    split
    · rename_i h2
      refine hull_has ?_
      rcases hx with hx | hx
      · exact .inr ((meet_has1 hd hx).2 h1).1
      · exact .inl ((meet_has1 hd hx).2 h2).1
    · rename_i h2
      rcases hx with hx | hx
      · exact ⟨by rw [h1]; decide, fun h => ((meet_has1 hd hx).2 h).1⟩
      · refine absurd ?_ h2
        obtain ⟨k1, -, -⟩ := meet_zero h1
        rcases meet_ok k1 hn with h | h
        · exact h
        · exact absurd h (meet_has1 hd hx).1
  · rename_i h1
    rcases hx with hx | hx
    · have hb : ¬ d.okB = true := fun k => by
        rcases meet_ok k hk with h | h
        · exact h1 h
        · exact (meet_has1 hd hx).1 h
      have := meet_bad (a := d) (b := negS g) (fun k => hb k.1)
      exact ⟨by omega, fun h => by omega⟩
    · exact ⟨(meet_has1 hd hx).1, fun h => ((meet_has1 hd hx).2 h).1⟩
/-! Cuts by a sum. -/
def SubB (y x : Bx) : Prop := Wi y.x x.x ∧ Wi y.y x.y ∧ Wi y.z x.z
theorem SubB.refl (x : Bx) : SubB x x := ⟨Wi.refl _, Wi.refl _, Wi.refl _⟩
theorem SubB.trans {x y z : Bx} (h : SubB x y) (k : SubB y z) : SubB x z := ⟨h.1.trans k.1, h.2.1.trans k.2.1, h.2.2.trans k.2.2⟩
theorem SubB.put {y x : Bx} {s : Sp} (h : SubB y x) (i : Nat) (k : Wi s (y.at i)) : SubB (y.put i s) x := by
  match i with
  | 0 => exact ⟨k.trans h.1, h.2⟩
  | 1 => exact ⟨h.1, k.trans h.2.1, h.2.2⟩
  | n + 2 => exact ⟨h.1, h.2.1, k.trans h.2.2⟩
theorem ok_put {y : Bx} {s : Sp} (h : y.okB = true) (i : Nat) (k : s.okB = true) : (y.put i s).okB = true := by
  unfold Bx.okB at *
  simp only [Bool.and_eq_true] at h
  match i with
  | 0 => unfold Bx.put; simp only [Bool.and_eq_true]; exact ⟨⟨k, h.1.2⟩, h.2⟩
  | 1 => unfold Bx.put; simp only [Bool.and_eq_true]; exact ⟨⟨h.1.1, k⟩, h.2⟩
  | n + 2 => unfold Bx.put; simp only [Bool.and_eq_true]; exact ⟨h.1, k⟩
theorem dot_rest (g v : V3) : ∀ i, i < 3 → g.dot v - (g.at (oj i) * v.at (oj i) + g.at (ok i) * v.at (ok i)) = g.at i * v.at i := by
  intro i hi
  rcases (show i = 0 ∨ i = 1 ∨ i = 2 by omega) with rfl | rfl | rfl
  · show g.dot v - (g.y * v.y + g.z * v.z) = g.x * v.x
    unfold V3.dot
    omega
  · show g.dot v - (g.x * v.x + g.z * v.z) = g.y * v.y
    unfold V3.dot
    omega
  · show g.dot v - (g.x * v.x + g.y * v.y) = g.z * v.z
    unfold V3.dot
    omega
def CutAt (v : V3) (x : Bx) (y : Bx × Int) : Prop := y.2 ≠ 7 ∧ (y.2 = 0 → HasB y.1 v ∧ SubB y.1 x ∧ y.1.okB = true)
theorem sum_true {a x : Bx} {r : Sp} {g v : V3} (ha : HasB a g) (hx : HasB x v) (hk : x.okB = true) (hr : Has2 r (g.dot v)) : ∀ i, i ≤ 3 → CutAt v x (sumTo 0 a x r i)
  | 0, _ => ⟨by show (0 : Int) ≠ 7; decide, fun _ => ⟨hx, SubB.refl x, hk⟩⟩
  | i + 1, hi => by
    have ih := sum_true ha hx hk hr i (by omega)
    show CutAt v x (sumStep (sumTo 0 a x r i).2 a (sumTo 0 a x r i).1 r i)
    generalize sumTo 0 a x r i = Y at *
    obtain ⟨y, e⟩ := Y
    simp only
    obtain ⟨h7, hy⟩ := ih
    simp only at h7 hy
    by_cases he : e = 0
    · subst he
      obtain ⟨y1, y2, y3⟩ := hy rfl
      have f1 : Fine (sm1 0 a y i) (Has2 · (g.at (oj i) * v.at (oj i))) := fine_do (by decide) fun _ => ⟨mul_e _ _, fun h => mul_has (ha.at _) (y1.at _) h⟩
      have f2 : Fine (sm2 0 a y i) (Has2 · (g.at (ok i) * v.at (ok i))) := fine_do f1.1 fun _ => ⟨mul_e _ _, fun h => mul_has (ha.at _) (y1.at _) h⟩
      have f3 : Fine (sms 0 a y i) (Has2 · (g.at (oj i) * v.at (oj i) + g.at (ok i) * v.at (ok i))) := fine_do f2.1 fun z => ⟨add_e _ _, fun h => add_has2 (f1.2 (do_zero z).1) (f2.2 z) h⟩
      have f4 : Fine (smn 0 a y r i) (Has2 · (g.at i * v.at i)) := fine_do f3.1 fun z => ⟨sub_e _ _, fun h => by
        have := sub_has2 hr (f3.2 z) h
        rw [dot_rest g v i (by omega)] at this
        exact this⟩
      unfold sumStep
      split
      · rename_i hq
        have f5 : Fine (smt 0 a y r i) (fun s => Has1 s (v.at i) ∧ Wi s (y.at i) ∧ s.okB = true) := fine_do f4.1 fun z => meet_has1 (y1.at i) (div_has (f4.2 z) (ha.at i) hq)
        refine ⟨f5.1, fun z => ?_⟩
        obtain ⟨k1, k2, k3⟩ := f5.2 z
        exact ⟨y1.put i k1, y2.put i k2, ok_put y3 i k3⟩
      · refine ⟨f4.1, fun z => ⟨y1, y2, y3⟩⟩
    · have := sumStep_keep (e := e) a y r i he
      exact ⟨by rw [this]; exact h7, fun z => absurd (this.symm.trans z) he⟩
theorem sumM_true {a x : Bx} {r : Sp} {g v : V3} (ha : HasB a g) (hx : HasB x v) (hk : x.okB = true) (hr : Has2 r (g.dot v)) : (sumM 0 a x r).e ≠ 7 ∧ ((sumM 0 a x r).e = 0 → HasB (sumTo 0 a x r 3).1 v ∧ SubB (sumTo 0 a x r 3).1 x ∧ (sumTo 0 a x r 3).1.okB = true) := by
  obtain ⟨h7, h0⟩ := sum_true ha hx hk hr 3 (by omega)
  have f1 : Fine (sumD 0 a x r) (Has2 · (g.dot v)) := fine_do h7 fun z => ⟨dot_e _ _, fun h => dot_has ha (h0 z).1 h⟩
  have f2 : Fine (sumM 0 a x r) (fun _ => True) := fine_do f1.1 fun z => ⟨meet_has2 (f1.2 z) hr, fun _ => trivial⟩
  exact ⟨f2.1, fun z => h0 (do_zero (do_zero z).1).1⟩
/-! Cuts by a distance. -/
theorem squareRoot_has {r : Sp} {X : Int} (hX : 0 ≤ X) (hr : HasRoot r X) (h0 : 0 ≤ r.lo) (h : (squareR r).e = 0) : Has2 (squareR r).s X := by
  obtain ⟨k, e⟩ := square_zero h
  have ea : absS r = r := by unfold absS; rw [if_pos h0]
  rw [ea] at e
  rw [e] at h ⊢
  obtain ⟨-, -, e2⟩ := mul_zero h
  rw [e2]
  have m1 := min4_le (r.lo * r.lo) (r.lo * r.hi) (r.hi * r.lo) (r.hi * r.hi)
  have m2 := le_max4 (r.lo * r.lo) (r.lo * r.hi) (r.hi * r.lo) (r.hi * r.hi)
  exact ⟨Int.le_trans (down_mul _ _ (by decide)) (Int.le_trans m1.1 (root_lo hX hr h0)), Int.le_trans (Int.le_trans hr.2.2 m2.2.2.2) (up_mul _ _ (by decide))⟩
def HasQ (b : Bx) (v : V3) : Prop := Has2 b.x (v.x * v.x) ∧ Has2 b.y (v.y * v.y) ∧ Has2 b.z (v.z * v.z)
theorem HasQ.at {b : Bx} {v : V3} (h : HasQ b v) (i : Nat) : Has2 (b.at i) (v.at i * v.at i) := by
  match i with
  | 0 => exact h.1
  | 1 => exact h.2.1
  | n + 2 => exact h.2.2
theorem HasQ.put {b : Bx} {v : V3} {s : Sp} (h : HasQ b v) (i : Nat) (hs : Has2 s (v.at i * v.at i)) : HasQ (b.put i s) v := by
  match i with
  | 0 => exact ⟨hs, h.2⟩
  | 1 => exact ⟨h.1, hs, h.2.2⟩
  | n + 2 => exact ⟨h.1, h.2.1, hs⟩
def DsAt (d t : V3) (p : Bx) (y : Ds) : Prop := y.e ≠ 7 ∧ (y.e = 0 → HasB y.d d ∧ HasQ y.q d ∧ HasB y.pl t ∧ SubB y.pl p ∧ y.pl.okB = true)
theorem sub_max {a b : Sp} (h : (subR a b).e = 0) : (subR a b).s.hi ≤ 9223372036854775807 := by
  have e := (sub_zero h).1
  rw [e] at h ⊢
  have h2 := h
  unfold addR at h2 ⊢
  split at h2
  · rename_i h3
    rw [if_pos h3]
    obtain ⟨e, -, -, h4⟩ := fit_zero h2
    rw [e]
    exact h4
  · exact absurd h2 (by simp [errR])
theorem rootOkN {f : Sp} (h : (rootR f).e = 0) (hi : f.hi ≤ 9223372036854775807) : (rootR f).s.okB = true ∧ (negS (rootR f).s).okB = true := by
  obtain ⟨h1, h2⟩ := root_ord h hi
  obtain ⟨-, n, e⟩ := root_zero h
  have h3 : (rootR f).s.hi ≤ 316912650057057 := by
    rw [e]
    have := (rootUp_law (f.hi * 4294967296) (by omega) (by omega)).2.2 316912650057057 (by decide) (by omega)
    exact this
  unfold Sp.okB numB negS
  simp only [Bool.and_eq_true, decide_eq_true_eq]
  omega
theorem next_true {d f t : V3} {p F : Bx} {s : Sp} {y : Ds} (hF : HasB F f) (ht : ∀ i, d.at i + f.at i = t.at i) (hs : Has2 s (d.dot d)) (i : Nat) (hi : i < 3) (h : DsAt d t p y) : DsAt d t p (dsNext y F s i) := by
  obtain ⟨h7, h0⟩ := h
  by_cases he : y.e = 0
  · obtain ⟨k1, k2, k3, k4, k5⟩ := h0 he
    have f1 : Fine (dsA y i) (Has2 · (d.at (oj i) * d.at (oj i) + d.at (ok i) * d.at (ok i))) := fine_do h7 fun _ => ⟨add_e _ _, fun h => add_has2 (k2.at _) (k2.at _) h⟩
    have f2 : Fine (dsF y s i) (fun x => Has2 x (d.at i * d.at i) ∧ x.hi ≤ 9223372036854775807) := fine_do f1.1 fun z => ⟨sub_e _ _, fun h => by
      have := sub_has2 hs (f1.2 z) h
      rw [dot_rest d d i hi] at this
      exact ⟨this, sub_max h⟩⟩
    have f3 : dsE y s i ≠ 7 ∧ (dsE y s i = 0 → (dsF y s i).e = 0) := by
      unfold dsE
      split
      · rename_i z
        have := (f2.2 z).1.2
        have := sq_nonneg (d.at i)
        rw [if_neg (by omega)]
        exact ⟨by decide, fun _ => z⟩
      · exact ⟨f2.1, fun z => z⟩
    have f4 : Fine (dsG y s i) (fun g => (HasRoot g (d.at i * d.at i) ∧ 0 ≤ g.lo) ∧ g.okB = true ∧ (negS g).okB = true) := fine_do f3.1 fun z => ⟨root_e _, fun h => ⟨root_has (f2.2 (f3.2 z)).1 (sq_nonneg _) (f2.2 (f3.2 z)).2 h, rootOkN h (f2.2 (f3.2 z)).2⟩⟩
    have f5 : Fine (dsD y s i) (Has1 · (d.at i)) := fine_do f4.1 fun z => by
      obtain ⟨⟨g1, g2⟩, g3, g4⟩ := f4.2 z
      exact sides_has (k1.at i) g1 g2 g3 g4
    have f6 : Fine (dsP y F s i) (Has1 · (t.at i)) := fine_do f5.1 fun z => ⟨add_e _ _, fun h => by
      have := add_has1 (f5.2 z) (hF.at i) h
      rw [ht i] at this
      exact this⟩
    have f7 : Fine (dsM y F s i) (fun x => Has1 x (t.at i) ∧ Wi x (y.pl.at i) ∧ x.okB = true) := fine_do f6.1 fun z => meet_has1 (k3.at i) (f6.2 z)
    have f8 : Fine (dsQ y F s i) (Has2 · (d.at i * d.at i)) := fine_do f7.1 fun z => ⟨square_e _, fun h => square_has (f5.2 (do_zero (do_zero z).1).1) h⟩
    refine ⟨f8.1, fun z => ?_⟩
    have z7 := (do_zero z).1
    have z6 := (do_zero z7).1
    have z5 := (do_zero z6).1
    obtain ⟨m1, m2, m3⟩ := f7.2 z7
    exact ⟨k1.put i (f5.2 z5), k2.put i (f8.2 z), k3.put i m1, k4.put i m2, ok_put k5 i m3⟩
  · have e := ds_keep (f := F) (s := s) (i := i) he
    exact ⟨by rw [e]; exact h7, fun z => absurd (e.symm.trans z) he⟩
theorem di_true {p F : Bx} {r : Sp} {f t : V3} (hp : HasB p t) (hF : HasB F f) (hk : p.okB = true) (hr : HasRoot r ((t.sub f).dot (t.sub f))) (hm : r.hi ≤ 9223372036854775807) : ∀ i, i ≤ 3 → DsAt (t.sub f) t p (diTo p F r i) := by
  have hX := dot_nonneg (t.sub f)
  have g0 : Fine (diR r) (fun s => HasRoot s ((t.sub f).dot (t.sub f)) ∧ 0 ≤ s.lo) := by
    have e2 := hr.2.1
    have e3 : (meetS r ⟨0, 9223372036854775807⟩).hi = r.hi := by
      unfold meetS imin
      simp only
      rw [if_neg (by omega)]
    have e4 : (meetS r ⟨0, 9223372036854775807⟩).lo = if r.lo < 0 then 0 else r.lo := rfl
    have e1 : (meetS r ⟨0, 9223372036854775807⟩).lo ≤ (meetS r ⟨0, 9223372036854775807⟩).hi := by
      rw [e3, e4]
      split
      · exact e2
      · rcases hr.1 with k | k
        · omega
        · exact le_of_sq e2 (Int.le_trans k hr.2.2)
    refine ⟨meet_fine e1, fun h => ?_⟩
    obtain ⟨-, -, e, -⟩ := meet_zero h
    show HasRoot (meetR r ⟨0, 9223372036854775807⟩).s _ ∧ 0 ≤ (meetR r ⟨0, 9223372036854775807⟩).s.lo
    rw [e]
    unfold HasRoot
    simp only [e3, e4]
    split
    · exact ⟨⟨.inl (by omega), hr.2⟩, by omega⟩
    · exact ⟨⟨hr.1, hr.2⟩, by omega⟩
  have a0 : Fine (aw0 (diR r).e p F) (Has1 · (t.sub f).x) := fine_do g0.1 fun _ => ⟨sub_e _ _, fun h => sub_has1 hp.1 hF.1 h⟩
  have a1 : Fine (aw1 (diR r).e p F) (Has1 · (t.sub f).y) := fine_do a0.1 fun _ => ⟨sub_e _ _, fun h => sub_has1 hp.2.1 hF.2.1 h⟩
  have a2 : Fine (aw2 (diR r).e p F) (Has1 · (t.sub f).z) := fine_do a1.1 fun _ => ⟨sub_e _ _, fun h => sub_has1 hp.2.2 hF.2.2 h⟩
  have s0 : Fine (di0 p F r) (Has2 · ((t.sub f).x * (t.sub f).x)) := fine_do a2.1 fun z => ⟨square_e _, fun h => square_has (a0.2 (do_zero (do_zero z).1).1) h⟩
  have s1 : Fine (di1 p F r) (Has2 · ((t.sub f).y * (t.sub f).y)) := fine_do s0.1 fun z => ⟨square_e _, fun h => square_has (a1.2 (do_zero (do_zero z).1).1) h⟩
  have s2 : Fine (di2 p F r) (Has2 · ((t.sub f).z * (t.sub f).z)) := fine_do s1.1 fun z => ⟨square_e _, fun h => square_has (a2.2 (do_zero (do_zero z).1).1) h⟩
  have s3 : Fine (diS p F r) (Has2 · ((t.sub f).dot (t.sub f))) := fine_do s2.1 fun z => ⟨square_e _, fun h => by
    have z2 := (do_zero z).1
    have z1 := (do_zero z2).1
    have z0 := (do_zero z1).1
    have y2 := (do_zero z0).1
    have y1 := (do_zero y2).1
    have y0 := (do_zero y1).1
    obtain ⟨k1, k2⟩ := g0.2 y0
    exact squareRoot_has hX k1 k2 h⟩
  have st : DsAt (t.sub f) t p (diStart p F r) := ⟨s3.1, fun z => by
    have z3 := (do_zero z).1
    have z2 := (do_zero z3).1
    have z1 := (do_zero z2).1
    have y2 := (do_zero z1).1
    have y1 := (do_zero y2).1
    have y0 := (do_zero y1).1
    exact ⟨⟨a0.2 y0, a1.2 y1, a2.2 y2⟩, ⟨s0.2 z1, s1.2 z2, s2.2 z3⟩, hp, SubB.refl p, hk⟩⟩
  have keep : ∀ i, (diTo p F r i).e = 0 → (diS p F r).e = 0 := fun i => by
    induction i with
    | zero => exact fun h => h
    | succ i ih =>
      intro h
      refine ih ?_
      by_cases c : (diTo p F r i).e = 0
      · exact c
      · have := ds_keep (x := diTo p F r i) (f := F) (s := (diS p F r).s) (i := i) c
        exact absurd (this.symm.trans h) c
  intro i
  induction i with
  | zero => exact fun _ => st
  | succ i ih =>
    intro hi
    have h := ih (by omega)
    by_cases c : (diTo p F r i).e = 0
    · exact next_true hF (fun j => by
        show (t.sub f).at j + f.at j = t.at j
        match j with
        | 0 => show t.x - f.x + f.x = t.x; omega
        | 1 => show t.y - f.y + f.y = t.y; omega
        | n + 2 => show t.z - f.z + f.z = t.z; omega) (s3.2 (keep i c)) i (by omega) h
    · have e := ds_keep (x := diTo p F r i) (f := F) (s := (diS p F r).s) (i := i) c
      exact ⟨by show (dsNext _ _ _ _).e ≠ 7; rw [e]; exact h.1, fun z => absurd (e.symm.trans z) c⟩
/-! Readings, and cuts by them. -/
def HasS (s : State) (t v : V3) : Prop := HasB s.p t ∧ HasB s.v v
def low (b : Bx) : V3 := ⟨b.x.lo, b.y.lo, b.z.lo⟩
theorem low_has {b : Bx} (h : b.okB = true) : HasB b (low b) := by
  unfold Bx.okB at h
  simp only [Bool.and_eq_true] at h
  exact ⟨⟨Int.le_refl _, ok_le h.1.1⟩, ⟨Int.le_refl _, ok_le h.1.2⟩, ⟨Int.le_refl _, ok_le h.2⟩⟩
/-- What a measurement says of a place and a velocity. -/
def Says (m : Radio) (t v : V3) : Prop :=
  if m.kind = 0 then HasRoot m.value ((t.sub (low m.place)).dot (t.sub (low m.place)))
  else if m.kind = 1 then HasQuo m.value ((t.sub (low m.place)).dot v) ((t.sub (low m.place)).dot (t.sub (low m.place)))
  else if m.kind = 2 then Has2 m.value ((low m.dir).dot t) else Has2 m.value ((low m.dir).dot v)
theorem divs_zero {t n : Res} (h : (divsR t n).e = 0) : t.e = 0 ∧ n.e = 0 ∧ divsR t n = divR t.s n.s := by
  unfold divsR at *
  split at h
  · rename_i h1
    split at h
    · rename_i h2
      exact ⟨h1, h2, by rw [if_pos h1, if_pos h2]⟩
    · exact absurd h (by assumption)
  · exact absurd h (by assumption)
theorem read_says {s : State} {m : Radio} {t v : V3} (hs : HasS s t v) (hm : m.place.okB = true) (hd : m.dir.okB = true) (h : (readR s m).e = 0) (hw : Wi (readR s m).s m.value) : Says m t v := by
  have hl := low_has hm
  have hg := low_has hd
  unfold readR at h hw
  unfold Says
  split at h
  · rename_i k
    rw [if_pos k] at hw ⊢
    unfold normAway at h hw
    split at h
    · rename_i k2
      rw [if_pos k2] at hw
      exact root_wi' hw (norm_has (away_has hs.1 hl k2) h).1
    · exact absurd h (by assumption)
  · rename_i k
    rw [if_neg k] at hw ⊢
    split at h
    · rename_i k
      rw [if_pos k] at hw ⊢
      unfold rateR at h hw
      split at h
      · rename_i k2
        rw [if_pos k2] at hw
        obtain ⟨d1, d2, d3⟩ := divs_zero h
        rw [d3] at h hw
        obtain ⟨n1, n2⟩ := norm_has (away_has hs.1 hl k2) d2
        exact quo_wi (dot_nonneg _) hw (quo_has (dot_nonneg _) (dot_has (away_has hs.1 hl k2) hs.2 d1) n1 n2 h)
      · exact absurd h (by assumption)
    · rename_i k
      rw [if_neg k] at hw ⊢
      split at h
      · rename_i k
        rw [if_pos k] at hw ⊢
        exact has2_wi hw (dot_has hg hs.1 h)
      · rename_i k
        rw [if_neg k] at hw ⊢
        exact has2_wi hw (dot_has hg hs.2 h)
/-- A cut by what is true keeps it. -/
theorem cut_says {s : State} {m : Radio} {t v : V3} (hs : HasS s t v) (hp : s.p.okB = true) (hv : s.v.okB = true) (hm : m.place.okB = true) (hd : m.dir.okB = true) (hx : m.value.hi ≤ 9223372036854775807) (h : Says m t v) :
    cutE s m ≠ 7 ∧ (cutE s m = 0 → HasS (cutS s m) t v ∧ (SubB (cutS s m).p s.p ∧ SubB (cutS s m).v s.v) ∧ (cutS s m).p.okB = true ∧ (cutS s m).v.okB = true) := by
  have hl := low_has hm
  have hg := low_has hd
  unfold Says at h
  unfold cutE cutS
  split at h
  · rename_i k
    rw [if_pos k, if_pos k]
    obtain ⟨h7, h0⟩ := di_true hs.1 hl hp h hx 3 (by omega)
    refine ⟨h7, fun z => ?_⟩
    obtain ⟨k1, k2, k3, k4, k5⟩ := h0 z
    exact ⟨⟨k3, hs.2⟩, ⟨k4, SubB.refl _⟩, k5, hv⟩
  · rename_i k
    rw [if_neg k, if_neg k]
    split at h
    · rename_i k
      rw [if_pos k, if_pos k]
      unfold rateE
      split
      · exact ⟨away_e _ _, fun z => absurd z (by assumption)⟩
      · rename_i k1
        have k1 : awayE s.p m.place = 0 := by omega
        have ha : HasB (rateD s m) (t.sub (low m.place)) := away_has hs.1 hl k1
        split
        · exact ⟨norm_e _, fun z => absurd z (by assumption)⟩
        · rename_i k2
          have k2 : (rateN s m).e = 0 := by omega
          split
          · exact ⟨mul_e _ _, fun z => absurd z (by assumption)⟩
          · rename_i k3
            have k3 : (rateM s m).e = 0 := by omega
            obtain ⟨n1, n2⟩ := norm_has ha k2
            obtain ⟨h7, h0⟩ := sumM_true ha hs.2 hv (mulq_has (dot_nonneg _) h n1 n2 k3)
            refine ⟨h7, fun z => ?_⟩
            obtain ⟨q1, q2, q3⟩ := h0 z
            exact ⟨⟨hs.1, q1⟩, ⟨SubB.refl _, q2⟩, hp, q3⟩
    · rename_i k
      rw [if_neg k, if_neg k]
      split at h
      · rename_i k
        rw [if_pos k, if_pos k]
        obtain ⟨h7, h0⟩ := sumM_true hg hs.1 hp h
        refine ⟨h7, fun z => ?_⟩
        obtain ⟨q1, q2, q3⟩ := h0 z
        exact ⟨⟨q1, hs.2⟩, ⟨q2, SubB.refl _⟩, q3, hv⟩
      · rename_i k
        rw [if_neg k, if_neg k]
        obtain ⟨h7, h0⟩ := sumM_true hg hs.2 hv h
        refine ⟨h7, fun z => ?_⟩
        obtain ⟨q1, q2, q3⟩ := h0 z
        exact ⟨⟨hs.1, q1⟩, ⟨SubB.refl _, q2⟩, hp, q3⟩
end Go.Proofs.Ytdkfkalplmgoeaa
namespace Go.Proofs.Ytdkfkalplmgoeaa
set_option maxRecDepth 100000
/-- A valid span within another one. -/
def Nw (a b : Sp) : Prop := a.okB = true ∧ Wi a b
theorem nw_ok {a : Sp} (h : -9223372036854775807 ≤ a.lo) (k : a.lo ≤ a.hi) : a.okB = true := by
  unfold Sp.okB numB
  simp only [Bool.and_eq_true, decide_eq_true_eq]
  omega
/-- Without an error there is none within, and what comes is within. -/
def Mo (r r' : Res) : Prop := r'.e = 0 → r.e = 0 ∧ Nw r.s r'.s
/-- The same, but that nothing may be left. -/
def Mv (r r' : Res) : Prop := (r'.e = 0 → (r.e = 0 ∧ Nw r.s r'.s) ∨ r.e = 7) ∧ (r'.e = 7 → r.e = 7)
theorem fit_mono {x y x' y' : Int} (h : x' ≤ x) (k : y ≤ y') (l : x ≤ y) : Mo (fitR x y) (fitR x' y') := fun z => by
  obtain ⟨e, h1, h2⟩ := fit_zero z
  have : fitR x y = ⟨⟨x, y⟩, 0⟩ := by
    unfold fitR isNum
    rw [if_pos (by simp; omega)]
  rw [this, e]
  exact ⟨rfl, nw_ok (by show _ ≤ x; omega) l, h, k⟩
theorem nw_le {a b : Sp} (h : Nw a b) : a.lo ≤ a.hi := ok_le h.1
theorem add_mono {a a' b b' : Sp} (ha : Nw a a') (hb : Nw b b') : Mo (addR a b) (addR a' b') := fun z => by
  have e' : addR a' b' = fitR (a'.lo + b'.lo) (a'.hi + b'.hi) := by
    obtain ⟨k1, k2, -⟩ := add_zero z
    unfold addR
    rw [k1, k2]
    rfl
  have e : addR a b = fitR (a.lo + b.lo) (a.hi + b.hi) := by unfold addR; rw [ha.1, hb.1]; rfl
  rw [e'] at z ⊢
  rw [e]
  have h1 := nw_le ha
  have h2 := nw_le hb
  obtain ⟨-, ha⟩ := ha
  obtain ⟨-, hb⟩ := hb
  unfold Wi at ha hb
  exact fit_mono (by omega) (by omega) (by omega) z
theorem neg_nw {a a' : Sp} (h : Nw a a') (hi : a.hi ≤ 9223372036854775807) : Nw (negS a) (negS a') := by
  have := nw_le h
  exact ⟨nw_ok (by unfold negS; simp only; omega) (by unfold negS; simp only; omega), neg_wi h.2⟩
theorem ok_max {a : Sp} (h : (negS a).okB = true) : a.hi ≤ 9223372036854775807 := by
  unfold negS Sp.okB numB at h
  simp only [Bool.and_eq_true, decide_eq_true_eq] at h
  omega
theorem sub_mono {a a' b b' : Sp} (ha : Nw a a') (hb : Nw b b') : Mo (subR a b) (subR a' b') := fun z => by
  have e := sub_zero z
  rw [e.1] at z ⊢
  have k := (add_zero z).2.1
  have hm : b.hi ≤ 9223372036854775807 := by
    have := ok_max k
    have := hb.2.2
    omega
  have e2 : subR a b = addR a (negS b) := by unfold subR; rw [hb.1]; rfl
  rw [e2]
  exact add_mono ha (neg_nw hb hm) z
theorem mul_mono {a a' b b' : Sp} (ha : Nw a a') (hb : Nw b b') : Mo (mulR a b) (mulR a' b') := fun z => by
  obtain ⟨k1, k2, -⟩ := mul_zero z
  have e' : mulR a' b' = fitR (downZ (min4 (a'.lo * b'.lo) (a'.lo * b'.hi) (a'.hi * b'.lo) (a'.hi * b'.hi)) 4294967296) (upZ (max4 (a'.lo * b'.lo) (a'.lo * b'.hi) (a'.hi * b'.lo) (a'.hi * b'.hi)) 4294967296) := by
    unfold mulR
    rw [k1, k2]
    rfl
  have e : mulR a b = fitR (downZ (min4 (a.lo * b.lo) (a.lo * b.hi) (a.hi * b.lo) (a.hi * b.hi)) 4294967296) (upZ (max4 (a.lo * b.lo) (a.lo * b.hi) (a.hi * b.lo) (a.hi * b.hi)) 4294967296) := by
    unfold mulR
    rw [ha.1, hb.1]
    rfl
  rw [e'] at z ⊢
  rw [e]
  have la := nw_le ha
  have lb := nw_le hb
  obtain ⟨-, ha⟩ := ha
  obtain ⟨-, hb⟩ := hb
  unfold Wi at ha hb
  have c1 := corner (a := a'.lo) (b := a'.hi) (c := b'.lo) (d := b'.hi) (x := a.lo) (y := b.lo) ha.1 (by omega) hb.1 (by omega)
  have c2 := corner (a := a'.lo) (b := a'.hi) (c := b'.lo) (d := b'.hi) (x := a.lo) (y := b.hi) ha.1 (by omega) (show b'.lo ≤ b.hi by omega) hb.2
  have c3 := corner (a := a'.lo) (b := a'.hi) (c := b'.lo) (d := b'.hi) (x := a.hi) (y := b.lo) (show a'.lo ≤ a.hi by omega) ha.2 hb.1 (by omega)
  have c4 := corner (a := a'.lo) (b := a'.hi) (c := b'.lo) (d := b'.hi) (x := a.hi) (y := b.hi) (show a'.lo ≤ a.hi by omega) ha.2 (show b'.lo ≤ b.hi by omega) hb.2
  refine fit_mono (down_mono _ (by decide) (le_min4 c1.1 c2.1 c3.1 c4.1)) (up_mono _ (by decide) (max4_le c1.2 c2.2 c3.2 c4.2)) ?_ z
  have m1 := min4_le (a.lo * b.lo) (a.lo * b.hi) (a.hi * b.lo) (a.hi * b.hi)
  have m2 := le_max4 (a.lo * b.lo) (a.lo * b.hi) (a.hi * b.lo) (a.hi * b.hi)
  have h1 := down_mono 4294967296 (by decide) (show min4 (a.lo * b.lo) (a.lo * b.hi) (a.hi * b.lo) (a.hi * b.hi) ≤ max4 (a.lo * b.lo) (a.lo * b.hi) (a.hi * b.lo) (a.hi * b.hi) by omega)
  have h2 := down_le_up (max4 (a.lo * b.lo) (a.lo * b.hi) (a.hi * b.lo) (a.hi * b.hi)) 4294967296 (by decide)
  exact Int.le_trans h1 h2
theorem abs_nw {a a' : Sp} (h : Nw a a') : Nw (absS a) (absS a') := by
  have l := nw_le h
  refine ⟨?_, abs_wi h.2 l⟩
  refine nw_ok ?_ ?_
  · rw [abs_lo]
    (repeat' split) <;> omega
  · rw [abs_lo, abs_hi]
    (repeat' split) <;> omega
theorem square_mono {a a' : Sp} (h : Nw a a') : Mo (squareR a) (squareR a') := fun z => by
  obtain ⟨k, e'⟩ := square_zero z
  have e : squareR a = mulR (absS a) (absS a) := by unfold squareR; rw [h.1]; rfl
  rw [e'] at z ⊢
  rw [e]
  exact mul_mono (abs_nw h) (abs_nw h) z
theorem rat_mono {x z : Int} (hz : z ≠ 0) : ratDown x z ≤ ratUp x z := by
  unfold ratDown ratUp
  split
  · exact down_le_up _ _ (by omega)
  · exact down_le_up _ _ (by omega)
/-- A quotient is between those of the ends. -/
theorem quo_corner {a b c d x y : Int} (h1 : a ≤ x) (h2 : x ≤ b) (h3 : c ≤ y) (h4 : y ≤ d) (hs : 0 < c ∨ d < 0) :
    min4 (ratDown a c) (ratDown a d) (ratDown b c) (ratDown b d) ≤ ratDown x y ∧ ratUp x y ≤ max4 (ratUp a c) (ratUp a d) (ratUp b c) (ratUp b d) := by
  have m1 := min4_le (ratDown a c) (ratDown a d) (ratDown b c) (ratDown b d)
  have m2 := le_max4 (ratUp a c) (ratUp a d) (ratUp b c) (ratUp b d)
  have key : ∀ (p q : Int), 0 < q → downZ p q * q ≤ p ∧ p < (downZ p q + 1) * q := fun p q hq => ⟨down_mul p q hq, by
    unfold downZ
    have h1 := Int.mul_ediv_add_emod p q
    have h2 := Int.emod_lt_of_pos p hq
    have h3 : (p / q + 1) * q = q * (p / q) + q := by rw [Int.add_mul, Int.mul_comm]; omega
    omega⟩
  -- down: p / q for p from P on, q between two numbers
  have dn : ∀ (P p q lo hi : Int), 0 < lo → lo ≤ q → q ≤ hi → P ≤ p → downZ P lo ≤ downZ p q ∨ downZ P hi ≤ downZ p q := fun P p q lo hi h0 hl hh hp => by
    by_cases c : 0 ≤ P
    · right
      refine Int.le_ediv_of_mul_le (by omega) ?_
      have k0 : 0 ≤ downZ P hi := Int.ediv_nonneg c (by omega)
      have k1 := down_mul P hi (by omega)
      have k2 := Int.mul_le_mul_of_nonneg_left hh k0
      omega
    · left
      refine Int.le_ediv_of_mul_le (by omega) ?_
      have k1 := down_mul P lo (by omega)
      have k0 : downZ P lo < 0 := Int.ediv_neg_of_neg_of_pos (by omega) h0
      have k2 := Int.mul_le_mul_of_nonpos_left (show downZ P lo ≤ 0 by omega) hl
      omega
  have up : ∀ (P p q lo hi : Int), 0 < lo → lo ≤ q → q ≤ hi → p ≤ P → upZ p q ≤ upZ P lo ∨ upZ p q ≤ upZ P hi := fun P p q lo hi h0 hl hh hp => by
    have := dn (-P) (-p) q lo hi h0 hl hh (by omega)
    unfold downZ at this
    unfold upZ
    omega
  rcases hs with hs | hs
  · have dd : ∀ y z, 0 < z → ratDown y z = downZ (y * 4294967296) z := fun y z hz => by unfold ratDown; rw [if_neg (by omega)]
    have uu : ∀ y z, 0 < z → ratUp y z = upZ (y * 4294967296) z := fun y z hz => by unfold ratUp; rw [if_neg (by omega)]
    rw [dd a c hs, dd a d (by omega), dd b c hs, dd b d (by omega)] at m1 ⊢
    rw [uu a c hs, uu a d (by omega), uu b c hs, uu b d (by omega)] at m2 ⊢
    rw [dd x y (by omega), uu x y (by omega)]
    have q1 := dn (a * 4294967296) (x * 4294967296) y c d hs h3 h4 (by omega)
    have q2 := up (b * 4294967296) (x * 4294967296) y c d hs h3 h4 (by omega)
    omega
  · have dd : ∀ y z, z < 0 → ratDown y z = downZ (-y * 4294967296) (-z) := fun y z hz => by unfold ratDown; rw [if_pos (by omega)]
    have uu : ∀ y z, z < 0 → ratUp y z = upZ (-y * 4294967296) (-z) := fun y z hz => by unfold ratUp; rw [if_pos (by omega)]
    rw [dd a c (by omega), dd a d (by omega), dd b c (by omega), dd b d (by omega)] at m1 ⊢
    rw [uu a c (by omega), uu a d (by omega), uu b c (by omega), uu b d (by omega)] at m2 ⊢
    rw [dd x y (by omega), uu x y (by omega)]
    have q1 := dn (-b * 4294967296) (-x * 4294967296) (-y) (-d) (-c) (by omega) (by omega) (by omega) (by omega)
    have q2 := up (-a * 4294967296) (-x * 4294967296) (-y) (-d) (-c) (by omega) (by omega) (by omega) (by omega)
    omega
theorem div_mono {a a' b b' : Sp} (ha : Nw a a') (hb : Nw b b') : Mo (divR a b) (divR a' b') := fun z => by
  have z2 := z
  unfold divR at z2
  split at z2
  · rename_i k
    split at z2
    · exact absurd z2 (by simp [errR])
    · rename_i k2
      have e' : divR a' b' = fitR (min4 (ratDown a'.lo b'.lo) (ratDown a'.lo b'.hi) (ratDown a'.hi b'.lo) (ratDown a'.hi b'.hi)) (max4 (ratUp a'.lo b'.lo) (ratUp a'.lo b'.hi) (ratUp a'.hi b'.lo) (ratUp a'.hi b'.hi)) := by
        unfold divR
        rw [if_pos k, if_neg k2]
      have la := nw_le ha
      have lb := nw_le hb
      obtain ⟨oa, ha⟩ := ha
      obtain ⟨ob, hb⟩ := hb
      unfold Wi at ha hb
      simp only [Bool.and_eq_true, decide_eq_true_eq, not_and] at k2
      have hs : 0 < b'.lo ∨ b'.hi < 0 := by
        by_cases c : b'.lo ≤ 0
        · exact .inr (by have := k2 c; omega)
        · exact .inl (by omega)
      have e : divR a b = fitR (min4 (ratDown a.lo b.lo) (ratDown a.lo b.hi) (ratDown a.hi b.lo) (ratDown a.hi b.hi)) (max4 (ratUp a.lo b.lo) (ratUp a.lo b.hi) (ratUp a.hi b.lo) (ratUp a.hi b.hi)) := by
        unfold divR
        rw [if_pos (by rw [oa, ob]; rfl), if_neg (by simp; omega)]
      rw [e'] at z ⊢
      rw [e]
      have c1 := quo_corner (a := a'.lo) (b := a'.hi) (c := b'.lo) (d := b'.hi) (x := a.lo) (y := b.lo) ha.1 (by omega) hb.1 (by omega) hs
      have c2 := quo_corner (a := a'.lo) (b := a'.hi) (c := b'.lo) (d := b'.hi) (x := a.lo) (y := b.hi) ha.1 (by omega) (by omega) hb.2 hs
      have c3 := quo_corner (a := a'.lo) (b := a'.hi) (c := b'.lo) (d := b'.hi) (x := a.hi) (y := b.lo) (by omega) ha.2 hb.1 (by omega) hs
      have c4 := quo_corner (a := a'.lo) (b := a'.hi) (c := b'.lo) (d := b'.hi) (x := a.hi) (y := b.hi) (by omega) ha.2 (by omega) hb.2 hs
      refine fit_mono (le_min4 c1.1 c2.1 c3.1 c4.1) (max4_le c1.2 c2.2 c3.2 c4.2) ?_ z
      have m1 := min4_le (ratDown a.lo b.lo) (ratDown a.lo b.hi) (ratDown a.hi b.lo) (ratDown a.hi b.hi)
      have m2 := le_max4 (ratUp a.lo b.lo) (ratUp a.lo b.hi) (ratUp a.hi b.lo) (ratUp a.hi b.hi)
      have := rat_mono (x := a.lo) (z := b.lo) (by omega)
      omega
  · exact absurd z2 (by simp [errR])
theorem root_mono {a a' : Sp} (h : Nw a a') (hn : (rootR a').e = 0 → a'.hi ≤ 9223372036854775807) (hp : 0 ≤ a.hi) : Mo (rootR a) (rootR a') := fun z => by
  obtain ⟨k', n', e'⟩ := root_zero z
  have e : rootR a = ⟨⟨rootZ (imax a.lo 0 * 4294967296), rootUp (a.hi * 4294967296)⟩, 0⟩ := by
    unfold rootR
    rw [h.1, if_pos rfl, if_neg (by omega)]
  have z1 : (rootR a).e = 0 := by rw [e]
  have hm := hn z
  have := h.2.2
  obtain ⟨r0, r1⟩ := root_ord z1 (by omega)
  exact ⟨z1, nw_ok (by omega) r1, root_wi h.2 z1 z hm⟩
/-! Sums of terms. -/
theorem fold_mono {α : Type} (f : α → Res) (Q : α → α → Prop) (hf : ∀ x y, Q x y → Mo (f x) (f y)) : ∀ (l l' : List α) (s s' : Sp), All2 Q l l' → Nw s s' → Mo (foldR f s l) (foldR f s' l')
  | [], [], _, _, _, h => fun _ => ⟨rfl, h⟩
  | x :: l, y :: l', s, s', .cons q r, h => fun z => by
    obtain ⟨b1, b2, b3⟩ := fold_zero z
    rw [b3] at z ⊢
    obtain ⟨a1, a2⟩ := hf x y q b1
    obtain ⟨c1, c2⟩ := add_mono h a2 b2
    have e : foldR f s (x :: l) = foldR f (addR s (f x).s).s l := by
      show (if (f x).e = 0 then (if (addR s (f x).s).e = 0 then foldR f (addR s (f x).s).s l else errR (addR s (f x).s).e) else errR (f x).e) = _
      rw [if_pos a1, if_pos c1]
    rw [e]
    exact fold_mono f Q hf l l' _ _ r c2 z
theorem fold_nonneg {α : Type} (f : α → Res) (hf : ∀ x, (f x).e = 0 → 0 ≤ (f x).s.hi) : ∀ (l : List α) (s : Sp), 0 ≤ s.hi → (foldR f s l).e = 0 → 0 ≤ (foldR f s l).s.hi
  | [], _, h, _ => h
  | x :: l, s, h, h1 => by
    obtain ⟨a1, a2, a3⟩ := fold_zero h1
    rw [a3] at h1 ⊢
    refine fold_nonneg f hf l _ ?_ h1
    rw [(add_zero a2).2.2]
    have := hf x a1
    show 0 ≤ s.hi + (f x).s.hi
    omega
theorem square_nonneg {a : Sp} (h : (squareR a).e = 0) : 0 ≤ (squareR a).s.hi := by
  have l := ok_le (square_zero h).1
  have := (square_has (x := a.lo) ⟨Int.le_refl _, l⟩ h).2
  have := sq_nonneg a.lo
  omega
def NwB (b c : Bx) : Prop := Nw b.x c.x ∧ Nw b.y c.y ∧ Nw b.z c.z
theorem NwB.at {b c : Bx} (h : NwB b c) (i : Nat) : Nw (b.at i) (c.at i) := by
  match i with
  | 0 => exact h.1
  | 1 => exact h.2.1
  | n + 2 => exact h.2.2
theorem NwB.put {b c : Bx} {s t : Sp} (h : NwB b c) (i : Nat) (k : Nw s t) : NwB (b.put i s) (c.put i t) := by
  match i with
  | 0 => exact ⟨k, h.2⟩
  | 1 => exact ⟨h.1, k, h.2.2⟩
  | n + 2 => exact ⟨h.1, h.2.1, k⟩
theorem NwB.put_l {b c : Bx} {s : Sp} (h : NwB b c) (i : Nat) (k : Nw s (b.at i)) : NwB (b.put i s) c := by
  match i with
  | 0 => exact ⟨⟨k.1, k.2.trans h.1.2⟩, h.2⟩
  | 1 => exact ⟨h.1, ⟨k.1, k.2.trans h.2.1.2⟩, h.2.2⟩
  | n + 2 => exact ⟨h.1, h.2.1, ⟨k.1, k.2.trans h.2.2.2⟩⟩
theorem NwB.ok {b c : Bx} (h : NwB b c) : b.okB = true := by
  unfold Bx.okB
  rw [h.1.1, h.2.1.1, h.2.2.1]
  rfl
theorem nwB_refl {b : Bx} (h : b.okB = true) : NwB b b := by
  unfold Bx.okB at h
  simp only [Bool.and_eq_true] at h
  exact ⟨⟨h.1.1, Wi.refl _⟩, ⟨h.1.2, Wi.refl _⟩, ⟨h.2, Wi.refl _⟩⟩
theorem norm_mono {b c : Bx} (h : NwB b c) : Mo (normR b.list) (normR c.list) := fun z => by
  obtain ⟨b1, b2⟩ := norm_zero z
  have hl : All2 Nw b.list c.list := .cons h.1 (.cons h.2.1 (.cons h.2.2 .nil))
  obtain ⟨c1, c2⟩ := fold_mono squareR Nw (fun x y q => square_mono q) b.list c.list z0 z0 hl ⟨by decide, Wi.refl _⟩ b1
  have e : normR b.list = rootR (foldR squareR z0 b.list).s := by
    unfold normR
    rw [if_pos (by show 3 ≤ 64; decide), if_pos (by rw [list_ok]; exact h.ok), if_pos c1]
  rw [b2] at z ⊢
  rw [e]
  exact root_mono c2 (fun _ => fold_num squareR c.list z0 (by decide) b1) (fold_nonneg squareR (fun x => square_nonneg) b.list z0 (by decide) c1) z
theorem dot_mono {a a' b b' : Bx} (ha : NwB a a') (hb : NwB b b') : Mo (dotBR a b) (dotBR a' b') := fun z => by
  have e : dotBR a b = foldR mul2 z0 (a.terms b) := by unfold dotBR; rw [ha.ok, hb.ok]; rfl
  have e' : dotBR a' b' = foldR mul2 z0 (a'.terms b') := by
    unfold dotBR at z ⊢
    split at z
    · rename_i k
      rw [if_pos k]
    · exact absurd z (by simp [errR])
  rw [e'] at z ⊢
  rw [e]
  have hl : All2 (fun p q : SS => Nw p.1 q.1 ∧ Nw p.2 q.2) (a.terms b) (a'.terms b') := .cons ⟨ha.1, hb.1⟩ (.cons ⟨ha.2.1, hb.2.1⟩ (.cons ⟨ha.2.2, hb.2.2⟩ .nil))
  exact fold_mono mul2 _ (fun x y q => mul_mono q.1 q.2) _ _ z0 z0 hl ⟨by decide, Wi.refl _⟩ z
theorem away_mono {p p' f : Bx} (hp : NwB p p') (hf : f.okB = true) (h : awayE p' f = 0) : awayE p f = 0 ∧ NwB (awayS p f) (awayS p' f) := by
  have hf := nwB_refl hf
  obtain ⟨h1, h3⟩ := first_zero h
  obtain ⟨h1, h2⟩ := first_zero h1
  obtain ⟨a1, b1⟩ := sub_mono hp.1 hf.1 h1
  obtain ⟨a2, b2⟩ := sub_mono hp.2.1 hf.2.1 h2
  obtain ⟨a3, b3⟩ := sub_mono hp.2.2 hf.2.2 h3
  exact ⟨by unfold awayE firstE; rw [a1, if_pos rfl, a2, if_pos rfl, a3], b1, b2, b3⟩
/-! Meets. -/
theorem meet_mono {a a' b b' : Sp} (ha : Nw a a') (hb : Nw b b') : Mv (meetR a b) (meetR a' b') := by
  have e : meetR a b = if (meetS a b).hi < (meetS a b).lo then errR 7 else ⟨meetS a b, 0⟩ := by unfold meetR; rw [ha.1, hb.1]; rfl
  have w : Wi (meetS a b) (meetS a' b') := by
    obtain ⟨-, ha⟩ := ha
    obtain ⟨-, hb⟩ := hb
    unfold Wi meetS imax imin at *
    simp only
    constructor <;> (repeat' split) <;> omega
  constructor
  · intro z
    obtain ⟨k1, k2, e', -⟩ := meet_zero z
    rw [e]
    split
    · exact .inr rfl
    · rename_i k
      rw [e']
      refine .inl ⟨rfl, nw_ok ?_ (by show (meetS a b).lo ≤ (meetS a b).hi; omega), w⟩
      have := okB_num ha.1
      show _ ≤ imax a.lo b.lo
      unfold imax
      split
      · have := okB_num hb.1
        omega
      · omega
  · intro z
    rw [e]
    rw [if_pos]
    · rfl
    · unfold meetR at z
      split at z
      · split at z
        · have := w.1
          have := w.2
          omega
        · exact absurd z (by simp)
      · exact absurd z (by simp [errR])
theorem hull_mono {a a' b b' : Sp} (ha : Nw a a') (hb : Nw b b') : Mo (hullR a b) (hullR a' b') := fun z => by
  have e : hullR a b = ⟨hullS a b, 0⟩ := by unfold hullR; rw [ha.1, hb.1]; rfl
  have e' : hullR a' b' = ⟨hullS a' b', 0⟩ := by
    unfold hullR at *
    split at z
    · rename_i k
      rw [if_pos k]
    · exact absurd z (by simp [errR])
  rw [e, e']
  have h1 := nw_le ha
  have h2 := nw_le hb
  have h3 := okB_num ha.1
  have h4 := okB_num hb.1
  obtain ⟨-, ha⟩ := ha
  obtain ⟨-, hb⟩ := hb
  refine ⟨rfl, nw_ok ?_ ?_, ?_⟩
  · unfold hullS imin
    simp only
    split <;> omega
  · unfold hullS imin imax
    simp only
    (repeat' split) <;> omega
  · unfold Wi hullS imin imax at *
    simp only
    constructor <;> (repeat' split) <;> omega
/-- One of two is within the hull of both. -/
theorem hull_one {a b c : Sp} (h : Nw a b) (hb : b.okB = true) (hc : c.okB = true) : Nw a (hullR b c).s ∧ Nw a (hullR c b).s := by
  have e : hullR b c = ⟨hullS b c, 0⟩ := by unfold hullR; rw [hb, hc]; rfl
  have e2 : hullR c b = ⟨hullS c b, 0⟩ := by unfold hullR; rw [hb, hc]; rfl
  rw [e, e2]
  obtain ⟨h1, h2⟩ := h
  refine ⟨⟨h1, ?_⟩, ⟨h1, ?_⟩⟩
  · unfold Wi hullS imin imax at *
    simp only
    constructor <;> (repeat' split) <;> omega
  · unfold Wi hullS imin imax at *
    simp only
    constructor <;> (repeat' split) <;> omega
theorem mv_e {r r' : Res} (h : Mv r r') (k : r'.e = 0 ∨ r'.e = 7) : (r.e = 0 ∧ r'.e = 0 ∧ Nw r.s r'.s) ∨ r.e = 7 := by
  rcases k with k | k
  · rcases h.1 k with ⟨a, b⟩ | a
    · exact .inl ⟨a, k, b⟩
    · exact .inr a
  · exact .inr (h.2 k)
theorem meet_nw {a b : Sp} (h : (meetR a b).e = 0) : (meetR a b).s.okB = true := (meet_zero h).2.2.2.1
theorem sides_mono {d d' g g' : Sp} (hd : Nw d d') (hg : Nw g g') (hn : Nw (negS g) (negS g')) (k2 : g'.okB = true) (k3 : (negS g').okB = true) : Mv (sidesR d g) (sidesR d' g') := by
  have r := meet_mono hd hg
  have l := meet_mono hd hn
  by_cases k1 : d'.okB = true
  · have r' := mv_e r (meet_ok k1 k2)
    have l' := mv_e l (meet_ok k1 k3)
    have rr := meet_ok k1 k2
    have ll := meet_ok k1 k3
    unfold sidesR
    by_cases z1 : (meetR d' g').e = 0
    · have o1 := meet_nw z1
      rw [if_pos z1]
      by_cases z2 : (meetR d' (negS g')).e = 0
      · have o2 := meet_nw z2
        rw [if_pos z2]
        have hz : (hullR (meetR d' (negS g')).s (meetR d' g').s).e = 0 := by unfold hullR; rw [o1, o2]; rfl
        refine ⟨fun _ => ?_, fun z => absurd (hz.symm.trans z) (by decide)⟩
        rcases r' with ⟨a1, -, a2⟩ | a1
        · rw [if_pos a1]
          rcases l' with ⟨b1, -, b2⟩ | b1
          · rw [if_pos b1]
            exact .inl (hull_mono b2 a2 hz)
          · rw [if_neg (by omega)]
            exact .inl ⟨a1, (hull_one a2 o1 o2).2⟩
        · rw [if_neg (by omega)]
          rcases l' with ⟨b1, -, b2⟩ | b1
          · exact .inl ⟨b1, (hull_one b2 o2 o1).1⟩
          · exact .inr b1
      · rw [if_neg z2]
        have z2 : (meetR d' (negS g')).e = 7 := by omega
        have b1 := l.2 z2
        refine ⟨fun _ => ?_, fun z => absurd (z1.symm.trans z) (by decide)⟩
        rcases r' with ⟨a1, -, a2⟩ | a1
        · rw [if_pos a1, if_neg (by omega)]
          exact .inl ⟨a1, a2⟩
        · rw [if_neg (by omega)]
          exact .inr b1
    · rw [if_neg z1]
      have z1 : (meetR d' g').e = 7 := by omega
      have a1 := r.2 z1
      rw [if_neg (by omega)]
      exact l
  · have bad : (sidesR d' g').e = 2 := by
      unfold sidesR
      rw [if_neg (by rw [meet_bad (fun k => k1 k.1)]; decide)]
      exact meet_bad (fun k => k1 k.1)
    exact ⟨fun z => absurd (bad.symm.trans z) (by decide), fun z => absurd (bad.symm.trans z) (by decide)⟩
/-! Operations in a row. -/
theorem do_e {e : Int} {r : Res} (h : e ≠ 0) : (doR e r).e = e := doR_keep r h
theorem do_ok {e : Int} {r : Res} (h : e = 0) : doR e r = r := by rw [h]; rfl
/-- Errors so far: without one in the wide there is none in the narrow, or nothing is left; nothing is left in the wide: nor in the narrow. -/
def Me (e e' : Int) : Prop := (e' = 0 → e = 0 ∨ e = 7) ∧ (e' = 7 → e = 7)
theorem mo_do {e e' : Int} {r r' : Res} (he : Me e e') (h7 : r'.e ≠ 7) (h : e = 0 → e' = 0 → Mo r r') : Mv (doR e r) (doR e' r') ∧ Me (doR e r).e (doR e' r').e := by
  have key : Mv (doR e r) (doR e' r') := by
    constructor
    · intro z
      obtain ⟨z1, z2⟩ := do_zero z
      rw [z2] at z ⊢
      rcases he.1 z1 with k | k
      · rw [do_ok k]
        exact .inl (h k z1 z)
      · exact .inr (by rw [do_e (by omega)]; exact k)
    · intro z
      by_cases c : e' = 0
      · rw [do_ok c] at z
        exact absurd z h7
      · rw [do_e c] at z
        have := he.2 z
        rw [do_e (by omega)]
        exact this
  exact ⟨key, fun z => (key.1 z).imp (·.1) id, key.2⟩
theorem mv_do {e e' : Int} {r r' : Res} (he : Me e e') (h : e = 0 → e' = 0 → Mv r r') : Mv (doR e r) (doR e' r') ∧ Me (doR e r).e (doR e' r').e := by
  have key : Mv (doR e r) (doR e' r') := by
    constructor
    · intro z
      obtain ⟨z1, z2⟩ := do_zero z
      rw [z2] at z ⊢
      rcases he.1 z1 with k | k
      · rw [do_ok k]
        exact (h k z1).1 z
      · exact .inr (by rw [do_e (by omega)]; exact k)
    · intro z
      by_cases c : e' = 0
      · rw [do_ok c] at z
        rcases he.1 c with k | k
        · rw [do_ok k]
          exact (h k c).2 z
        · rw [do_e (by omega)]
          exact k
      · rw [do_e c] at z
        have := he.2 z
        rw [do_e (by omega)]
        exact this
  exact ⟨key, fun z => (key.1 z).imp (·.1) id, key.2⟩
theorem mv_nw {r r' : Res} (h : Mv r r') (z : r.e = 0) (z' : r'.e = 0) : Nw r.s r'.s := by
  rcases h.1 z' with k | k
  · exact k.2
  · omega
theorem div_ok {n a : Sp} (h : (divR n a).e = 0) : (divR n a).s.okB = true := by
  obtain ⟨k1, k2, -⟩ := div_zero' h
  exact (div_mono (a := n) (a' := n) (b := a) (b' := a) ⟨k1, Wi.refl _⟩ ⟨k2, Wi.refl _⟩ h).2.1
def MvB (y y' : Bx × Int) : Prop := Me y.2 y'.2 ∧ (y.2 = 0 → y'.2 = 0 → NwB y.1 y'.1)
theorem sum_mono {a a' x x' : Bx} {r r' : Sp} (ha : NwB a a') (hx : NwB x x') (hr : Nw r r') : ∀ i, MvB (sumTo 0 a x r i) (sumTo 0 a' x' r' i)
  | 0 => ⟨⟨fun _ => .inl rfl, fun z => absurd z (by show ¬ (0 : Int) = 7; decide)⟩, fun _ _ => hx⟩
  | i + 1 => by
    have ih := sum_mono ha hx hr i
    show MvB (sumStep (sumTo 0 a x r i).2 a (sumTo 0 a x r i).1 r i) (sumStep (sumTo 0 a' x' r' i).2 a' (sumTo 0 a' x' r' i).1 r' i)
    generalize sumTo 0 a x r i = Y at *
    generalize sumTo 0 a' x' r' i = Y' at *
    obtain ⟨y, e⟩ := Y
    obtain ⟨y', e'⟩ := Y'
    obtain ⟨he, hy⟩ := ih
    simp only at he hy ⊢
    by_cases c' : e' = 0
    · rcases he.1 c' with c | c
      · have hy := hy c c'
        have f1 : Mv (sm1 e a y i) (sm1 e' a' y' i) ∧ Me (sm1 e a y i).e (sm1 e' a' y' i).e := mo_do he (mul_e _ _) fun _ _ => mul_mono (ha.at _) (hy.at _)
        have f2 : Mv (sm2 e a y i) (sm2 e' a' y' i) ∧ Me (sm2 e a y i).e (sm2 e' a' y' i).e := mo_do f1.2 (mul_e _ _) fun _ _ => mul_mono (ha.at _) (hy.at _)
        have f3 : Mv (sms e a y i) (sms e' a' y' i) ∧ Me (sms e a y i).e (sms e' a' y' i).e := mo_do f2.2 (add_e _ _) fun z z' => add_mono (mv_nw f1.1 (do_zero z).1 (do_zero z').1) (mv_nw f2.1 z z')
        have f4 : Mv (smn e a y r i) (smn e' a' y' r' i) ∧ Me (smn e a y r i).e (smn e' a' y' r' i).e := mo_do f3.2 (sub_e _ _) fun z z' => sub_mono hr (mv_nw f3.1 z z')
        unfold sumStep
        by_cases q' : (divR (smn e' a' y' r' i).s (a'.at i)).e = 0
        · rw [if_pos q']
          by_cases n' : (smn e' a' y' r' i).e = 0
          · rcases f4.1.1 n' with ⟨n, hn⟩ | n
            · obtain ⟨q, hq⟩ := div_mono hn (ha.at i) q'
              rw [if_pos q]
              have f5 : Mv (smt e a y r i) (smt e' a' y' r' i) ∧ Me (smt e a y r i).e (smt e' a' y' r' i).e := mv_do f4.2 fun _ _ => meet_mono (hy.at i) hq
              exact ⟨f5.2, fun z z' => hy.put i (mv_nw f5.1 z z')⟩
            · have k : (smt e a y r i).e = 7 := by
                unfold smt
                rw [do_e (by omega)]
                exact n
              split
              · exact ⟨⟨fun _ => .inr k, fun _ => k⟩, fun z => absurd (k.symm.trans z) (by decide)⟩
              · exact ⟨⟨fun _ => .inr n, fun _ => n⟩, fun z => absurd (n.symm.trans z) (by decide)⟩
          · have h7 : (smn e' a' y' r' i).e ≠ 7 := fun z => by
              unfold smn at z
              have : ∀ (e : Int) (r : Res), e ≠ 7 → r.e ≠ 7 → (doR e r).e ≠ 7 := fun e r h k => by
                unfold doR
                split
                · exact k
                · exact h
              exact this _ _ (this _ _ (this _ _ (this _ _ (by omega) (mul_e _ _)) (mul_e _ _)) (add_e _ _)) (sub_e _ _) z
            have k : (smt e' a' y' r' i).e = (smn e' a' y' r' i).e := by
              unfold smt
              exact do_e n'
            exact ⟨⟨fun z => absurd (k.symm.trans z) n', fun z => absurd (k.symm.trans z) h7⟩, fun _ z => absurd (k.symm.trans z) n'⟩
        · rw [if_neg q']
          split
          · rename_i q
            have f5 : Me (smt e a y r i).e (smn e' a' y' r' i).e := by
              constructor
              · intro z
                rcases f4.1.1 z with ⟨n, -⟩ | n
                · have : (smt e a y r i) = meetR (y.at i) (divR (smn e a y r i).s (a.at i)).s := do_ok n
                  rw [this]
                  exact meet_ok (hy.at i).1 (div_ok q)
                · right
                  unfold smt
                  rw [do_e (by omega)]
                  exact n
              · intro z
                have n := f4.1.2 z
                unfold smt
                rw [do_e (by omega)]
                exact n
            refine ⟨f5, fun z z' => hy.put_l i ?_⟩
            have z2 := do_zero z
            have := meet_zero (a := y.at i) (b := (divR (smn e a y r i).s (a.at i)).s) (by rw [← z2.2]; exact z)
            exact ⟨by unfold smt; rw [z2.2]; exact this.2.2.2.1, by unfold smt; rw [z2.2]; exact this.2.2.2.2.1⟩
          · exact ⟨f4.2, fun _ _ => hy⟩
      · have k := sumStep_keep (e := e) a y r i (by omega)
        exact ⟨⟨fun _ => .inr (k.trans c), fun _ => k.trans c⟩, fun z => absurd (k.symm.trans z) (by omega)⟩
    · have k' := sumStep_keep (e := e') a' y' r' i c'
      refine ⟨⟨fun z => absurd (k'.symm.trans z) c', fun z => ?_⟩, fun _ z => absurd (k'.symm.trans z) c'⟩
      have c := he.2 (k'.symm.trans z)
      have k := sumStep_keep (e := e) a y r i (by omega)
      exact k.trans c
theorem sumM_mono {a a' x x' : Bx} {r r' : Sp} (ha : NwB a a') (hx : NwB x x') (hr : Nw r r') : Me (sumM 0 a x r).e (sumM 0 a' x' r').e ∧ ((sumM 0 a x r).e = 0 → (sumM 0 a' x' r').e = 0 → NwB (sumTo 0 a x r 3).1 (sumTo 0 a' x' r' 3).1) := by
  obtain ⟨he, hy⟩ := sum_mono ha hx hr 3
  have f1 : Mv (sumD 0 a x r) (sumD 0 a' x' r') ∧ Me (sumD 0 a x r).e (sumD 0 a' x' r').e := mo_do he (dot_e _ _) fun z z' => dot_mono ha (hy z z')
  have f2 : Mv (sumM 0 a x r) (sumM 0 a' x' r') ∧ Me (sumM 0 a x r).e (sumM 0 a' x' r').e := mv_do f1.2 fun z z' => meet_mono (mv_nw f1.1 z z') hr
  exact ⟨f2.2, fun z z' => hy (do_zero (do_zero z).1).1 (do_zero (do_zero z').1).1⟩
def NwD (y y' : Ds) : Prop := Me y.e y'.e ∧ (y.e = 0 → y'.e = 0 → NwB y.d y'.d ∧ NwB y.q y'.q ∧ NwB y.pl y'.pl)
theorem root_nonneg {f : Sp} (h : (rootR f).e = 0) : 0 ≤ f.hi := (root_zero h).2.1
theorem next_mono {y y' : Ds} {F : Bx} {s s' : Sp} (hF : F.okB = true) (hs : Nw s s') (i : Nat) (h : NwD y y') : NwD (dsNext y F s i) (dsNext y' F s' i) := by
  obtain ⟨he, hy⟩ := h
  have hF := nwB_refl hF
  have f1 : Mv (dsA y i) (dsA y' i) ∧ Me (dsA y i).e (dsA y' i).e := mo_do he (add_e _ _) fun z z' => add_mono ((hy z z').2.1.at _) ((hy z z').2.1.at _)
  have f2 : Mv (dsF y s i) (dsF y' s' i) ∧ Me (dsF y s i).e (dsF y' s' i).e := mo_do f1.2 (sub_e _ _) fun z z' => sub_mono hs (mv_nw f1.1 z z')
  have f3 : Me (dsE y s i) (dsE y' s' i) := by
    unfold dsE
    by_cases z' : (dsF y' s' i).e = 0
    · rw [if_pos z']
      rcases f2.1.1 z' with ⟨z, w⟩ | z
      · rw [if_pos z]
        have := w.2.2
        constructor
        · intro k
          split
          · exact .inr rfl
          · exact .inl rfl
        · intro k
          split at k
          · rw [if_pos (by omega)]
          · exact absurd k (by decide)
      · rw [if_neg (by omega)]
        exact ⟨fun _ => .inr z, fun _ => z⟩
    · rw [if_neg z']
      constructor
      · intro k
        exact absurd k z'
      · intro k
        have := f2.1.2 k
        rw [if_neg (by omega)]
        exact this
  have ez : ∀ {y : Ds} {s : Sp}, dsE y s i = 0 → (dsF y s i).e = 0 ∧ 0 ≤ (dsF y s i).s.hi := fun {y s} z => by
    unfold dsE at z
    split at z
    · split at z
      · exact absurd z (by decide)
      · exact ⟨by assumption, by omega⟩
    · exact absurd z (by assumption)
  have fm : ∀ {y : Ds} {s : Sp}, (dsF y s i).e = 0 → (dsF y s i).s.hi ≤ 9223372036854775807 := fun {y s} z => by
    obtain ⟨-, z2⟩ := do_zero z
    have z3 : (subR s (dsA y i).s).e = 0 := by rw [← z2]; exact z
    show (doR _ _).s.hi ≤ _
    rw [z2]
    exact sub_max z3
  have f4 : Mv (dsG y s i) (dsG y' s' i) ∧ Me (dsG y s i).e (dsG y' s' i).e := mo_do f3 (root_e _) fun z z' => root_mono (mv_nw f2.1 (ez z).1 (ez z').1) (fun _ => fm (ez z').1) (ez z).2
  have rk : ∀ {y : Ds} {s : Sp}, (dsG y s i).e = 0 → (dsG y s i).s.okB = true ∧ (negS (dsG y s i).s).okB = true := fun {y s} z => by
    obtain ⟨z1, z2⟩ := do_zero z
    have z3 : (rootR (dsF y s i).s).e = 0 := by rw [← z2]; exact z
    have := rootOkN z3 (fm (ez z1).1)
    show (doR _ _).s.okB = true ∧ (negS (doR _ _).s).okB = true
    rw [z2]
    exact this
  have f5 : Mv (dsD y s i) (dsD y' s' i) ∧ Me (dsD y s i).e (dsD y' s' i).e := mv_do f4.2 fun z z' => by
    have z0 := (ez (do_zero z).1).1
    have z0' := (ez (do_zero z').1).1
    have yz := (do_zero (do_zero z0).1).1
    have yz' := (do_zero (do_zero z0').1).1
    have w := mv_nw f4.1 z z'
    exact sides_mono ((hy yz yz').1.at i) w (neg_nw w (ok_max (rk z).2)) (rk z').1 (rk z').2
  have back : ∀ {y : Ds} {s : Sp}, (dsD y s i).e = 0 → y.e = 0 := fun {y s} z => (do_zero (do_zero (ez (do_zero (do_zero z).1).1).1).1).1
  have f6 : Mv (dsP y F s i) (dsP y' F s' i) ∧ Me (dsP y F s i).e (dsP y' F s' i).e := mo_do f5.2 (add_e _ _) fun z z' => add_mono (mv_nw f5.1 z z') (hF.at i)
  have f7 : Mv (dsM y F s i) (dsM y' F s' i) ∧ Me (dsM y F s i).e (dsM y' F s' i).e := mv_do f6.2 fun z z' => meet_mono ((hy (back (do_zero z).1) (back (do_zero z').1)).2.2.at i) (mv_nw f6.1 z z')
  have f8 : Mv (dsQ y F s i) (dsQ y' F s' i) ∧ Me (dsQ y F s i).e (dsQ y' F s' i).e := mo_do f7.2 (square_e _) fun z z' => square_mono (mv_nw f5.1 (do_zero (do_zero z).1).1 (do_zero (do_zero z').1).1)
  refine ⟨f8.2, fun z z' => ?_⟩
  have m := (do_zero z).1
  have m' := (do_zero z').1
  have d := (do_zero (do_zero m).1).1
  have d' := (do_zero (do_zero m').1).1
  obtain ⟨k1, k2, k3⟩ := hy (back d) (back d')
  exact ⟨k1.put i (mv_nw f5.1 d d'), k2.put i (mv_nw f8.1 z z'), k3.put i (mv_nw f7.1 m m')⟩
theorem di_mono {p p' F : Bx} {r : Sp} (hp : NwB p p') (hF : F.okB = true) (hr : r.okB = true) : ∀ i, NwD (diTo p F r i) (diTo p' F r i) := by
  have hF2 := nwB_refl hF
  have hr2 : Nw r r := ⟨hr, Wi.refl _⟩
  have g0 : Mv (diR r) (diR r) ∧ Me (diR r).e (diR r).e := by
    have : Mv (diR r) (diR r) := meet_mono hr2 (b := ⟨0, 9223372036854775807⟩) ⟨by decide, Wi.refl _⟩
    exact ⟨this, fun z => .inl z, fun z => z⟩
  have a0 : Mv (aw0 (diR r).e p F) (aw0 (diR r).e p' F) ∧ Me (aw0 (diR r).e p F).e (aw0 (diR r).e p' F).e := mo_do g0.2 (sub_e _ _) fun _ _ => sub_mono hp.1 hF2.1
  have a1 : Mv (aw1 (diR r).e p F) (aw1 (diR r).e p' F) ∧ Me (aw1 (diR r).e p F).e (aw1 (diR r).e p' F).e := mo_do a0.2 (sub_e _ _) fun _ _ => sub_mono hp.2.1 hF2.2.1
  have a2 : Mv (aw2 (diR r).e p F) (aw2 (diR r).e p' F) ∧ Me (aw2 (diR r).e p F).e (aw2 (diR r).e p' F).e := mo_do a1.2 (sub_e _ _) fun _ _ => sub_mono hp.2.2 hF2.2.2
  have s0 : Mv (di0 p F r) (di0 p' F r) ∧ Me (di0 p F r).e (di0 p' F r).e := mo_do a2.2 (square_e _) fun z z' => square_mono (mv_nw a0.1 (do_zero (do_zero z).1).1 (do_zero (do_zero z').1).1)
  have s1 : Mv (di1 p F r) (di1 p' F r) ∧ Me (di1 p F r).e (di1 p' F r).e := mo_do s0.2 (square_e _) fun z z' => square_mono (mv_nw a1.1 (do_zero (do_zero z).1).1 (do_zero (do_zero z').1).1)
  have s2 : Mv (di2 p F r) (di2 p' F r) ∧ Me (di2 p F r).e (di2 p' F r).e := mo_do s1.2 (square_e _) fun z z' => square_mono (mv_nw a2.1 (do_zero (do_zero z).1).1 (do_zero (do_zero z').1).1)
  have s3 : Mv (diS p F r) (diS p' F r) ∧ Me (diS p F r).e (diS p' F r).e := mo_do s2.2 (square_e _) fun z z' => by
    have b := fun {p : Bx} (z : (di2 p F r).e = 0) => (do_zero (do_zero (do_zero (do_zero (do_zero z).1).1).1).1).1
    exact square_mono (mv_nw g0.1 (do_zero (b z)).1 (do_zero (b z')).1)
  have st : NwD (diStart p F r) (diStart p' F r) := ⟨s3.2, fun z z' => by
    have z3 := (do_zero z).1
    have z2 := (do_zero z3).1
    have z1 := (do_zero z2).1
    have y2 := (do_zero z1).1
    have y1 := (do_zero y2).1
    have y0 := (do_zero y1).1
    have z3' := (do_zero z').1
    have z2' := (do_zero z3').1
    have z1' := (do_zero z2').1
    have y2' := (do_zero z1').1
    have y1' := (do_zero y2').1
    have y0' := (do_zero y1').1
    exact ⟨⟨mv_nw a0.1 y0 y0', mv_nw a1.1 y1 y1', mv_nw a2.1 y2 y2'⟩, ⟨mv_nw s0.1 z1 z1', mv_nw s1.1 z2 z2', mv_nw s2.1 z3 z3'⟩, hp⟩⟩
  have keep : ∀ (p : Bx) i, (diTo p F r i).e = 0 → (diS p F r).e = 0 := fun p i => by
    induction i with
    | zero => exact fun h => h
    | succ i ih =>
      intro h
      refine ih ?_
      by_cases c : (diTo p F r i).e = 0
      · exact c
      · have := ds_keep (x := diTo p F r i) (f := F) (s := (diS p F r).s) (i := i) c
        exact absurd (this.symm.trans h) c
  intro i
  induction i with
  | zero => exact st
  | succ i ih =>
    show NwD (dsNext (diTo p F r i) F (diS p F r).s i) (dsNext (diTo p' F r i) F (diS p' F r).s i)
    by_cases c' : (diTo p' F r i).e = 0
    · rcases ih.1.1 c' with c | c
      · exact next_mono hF (mv_nw s3.1 (keep p i c) (keep p' i c')) i ih
      · have k := ds_keep (x := diTo p F r i) (f := F) (s := (diS p F r).s) (i := i) (by omega)
        exact ⟨⟨fun _ => .inr (k.trans c), fun _ => k.trans c⟩, fun z => absurd (k.symm.trans z) (by omega)⟩
    · have k' := ds_keep (x := diTo p' F r i) (f := F) (s := (diS p' F r).s) (i := i) c'
      refine ⟨⟨fun z => absurd (k'.symm.trans z) c', fun z => ?_⟩, fun _ z => absurd (k'.symm.trans z) c'⟩
      have c := ih.1.2 (k'.symm.trans z)
      have k := ds_keep (x := diTo p F r i) (f := F) (s := (diS p F r).s) (i := i) (by omega)
      exact k.trans c
/-- A state within another one: what is cut of it is within what is cut of the other one. -/
def NwS (s s' : State) : Prop := NwB s.p s'.p ∧ NwB s.v s'.v
theorem cut_mono {s s' : State} {m : Radio} (h : NwS s s') (hm : m.okB = true) : Me (cutE s m) (cutE s' m) ∧ (cutE s m = 0 → cutE s' m = 0 → NwS (cutS s m) (cutS s' m)) := by
  obtain ⟨hp, hv⟩ := h
  unfold Radio.okB at hm
  simp only [Bool.and_eq_true] at hm
  obtain ⟨⟨⟨-, mp⟩, md⟩, mv⟩ := hm
  have hd := nwB_refl md
  have hr : Nw m.value m.value := ⟨mv, Wi.refl _⟩
  unfold cutE cutS
  by_cases k0 : m.kind = 0
  · simp only [if_pos k0]
    obtain ⟨h1, h2⟩ := di_mono hp mp mv 3
    exact ⟨h1, fun z z' => ⟨(h2 z z').2.2, hv⟩⟩
  simp only [if_neg k0]
  by_cases k1 : m.kind = 1
  · simp only [if_pos k1]
    by_cases w0 : awayE s'.p m.place = 0
    · obtain ⟨n0, nd⟩ := away_mono hp mp w0
      by_cases w1 : (rateN s' m).e = 0
      · obtain ⟨n1, nn⟩ := norm_mono nd w1
        by_cases w2 : (rateM s' m).e = 0
        · obtain ⟨n2, nm⟩ := mul_mono hr nn w2
          have e : rateE s m = (sumM 0 (rateD s m) s.v (rateM s m).s).e := by
            unfold rateE
            rw [if_neg (by rw [n0]; decide), if_neg (by show ¬ (normR (awayS s.p m.place).list).e ≠ 0; rw [n1]; decide), if_neg (by show ¬ (mulR m.value (normR (awayS s.p m.place).list).s).e ≠ 0; rw [show (mulR m.value (normR (awayS s.p m.place).list).s).e = 0 from n2]; decide)]
          have e' : rateE s' m = (sumM 0 (rateD s' m) s'.v (rateM s' m).s).e := by
            unfold rateE
            rw [if_neg (by rw [w0]; decide), if_neg (by rw [w1]; decide), if_neg (by rw [w2]; decide)]
          rw [e, e']
          obtain ⟨h1, h2⟩ := sumM_mono (show NwB (rateD s m) (rateD s' m) from nd) hv (show Nw (rateM s m).s (rateM s' m).s from nm)
          exact ⟨h1, fun z z' => ⟨hp, h2 z z'⟩⟩
        · have e' : rateE s' m = (rateM s' m).e := by
            unfold rateE
            rw [if_neg (by rw [w0]; decide), if_neg (by rw [w1]; decide), if_pos w2]
          rw [e']
          exact ⟨⟨fun z => absurd z w2, fun z => absurd z (mul_e _ _)⟩, fun _ z => absurd z w2⟩
      · have e' : rateE s' m = (rateN s' m).e := by
          unfold rateE
          rw [if_neg (by rw [w0]; decide), if_pos w1]
        rw [e']
        exact ⟨⟨fun z => absurd z w1, fun z => absurd z (norm_e _)⟩, fun _ z => absurd z w1⟩
    · have e' : rateE s' m = awayE s'.p m.place := by
        unfold rateE
        rw [if_pos w0]
      rw [e']
      exact ⟨⟨fun z => absurd z w0, fun z => absurd z (away_e _ _)⟩, fun _ z => absurd z w0⟩
  simp only [if_neg k1]
  by_cases k2 : m.kind = 2
  · simp only [if_pos k2]
    obtain ⟨h1, h2⟩ := sumM_mono hd hp hr
    exact ⟨h1, fun z z' => ⟨h2 z z', hv⟩⟩
  · simp only [if_neg k2]
    obtain ⟨h1, h2⟩ := sumM_mono hd hv hr
    exact ⟨h1, fun z z' => ⟨hp, h2 z z'⟩⟩
end Go.Proofs.Ytdkfkalplmgoeaa
namespace Go.Proofs.Ytdkfkalplmgoeaa
set_option maxRecDepth 100000
theorem sum_sub {a x : Bx} {r : Sp} (hx : x.okB = true) : ∀ i, (sumTo 0 a x r i).2 = 0 → NwB (sumTo 0 a x r i).1 x
  | 0, _ => nwB_refl hx
  | i + 1, h => by
    have h : (sumStep (sumTo 0 a x r i).2 a (sumTo 0 a x r i).1 r i).2 = 0 := h
    have he : (sumTo 0 a x r i).2 = 0 := by
      by_cases c : (sumTo 0 a x r i).2 = 0
      · exact c
      · exact (sumStep_keep _ _ r i c).symm.trans h
    have ih := sum_sub hx i he
    show NwB (sumStep (sumTo 0 a x r i).2 a (sumTo 0 a x r i).1 r i).1 x
    unfold sumStep at h ⊢
    split at h
    · rename_i q
      rw [if_pos q]
      obtain ⟨z1, z2⟩ := do_zero h
      have m := meet_zero (a := (sumTo 0 a x r i).1.at i) (b := (divR (smn (sumTo 0 a x r i).2 a (sumTo 0 a x r i).1 r i).s (a.at i)).s) (by rw [← z2]; exact h)
      refine ih.put_l i ?_
      unfold smt
      rw [z2]
      exact ⟨m.2.2.2.1, m.2.2.2.2.1⟩
    · rename_i q
      rw [if_neg q]
      exact ih
theorem di_sub {p F : Bx} {r : Sp} (hp : p.okB = true) : ∀ i, (diTo p F r i).e = 0 → NwB (diTo p F r i).pl p
  | 0, _ => nwB_refl hp
  | i + 1, h => by
    have h : (dsNext (diTo p F r i) F (diS p F r).s i).e = 0 := h
    have he : (diTo p F r i).e = 0 := by
      by_cases c : (diTo p F r i).e = 0
      · exact c
      · exact (ds_keep c).symm.trans h
    have ih := di_sub (F := F) (r := r) hp i he
    obtain ⟨z1, z2⟩ := do_zero (do_zero h).1
    have m := meet_zero (a := (diTo p F r i).pl.at i) (b := (dsP (diTo p F r i) F (diS p F r).s i).s) (by rw [← z2]; exact (do_zero h).1)
    refine ih.put_l i ?_
    show Nw (dsM (diTo p F r i) F (diS p F r).s i).s _
    unfold dsM
    rw [z2]
    exact ⟨m.2.2.2.1, m.2.2.2.2.1⟩
def OkS (s : State) : Prop := s.p.okB = true ∧ s.v.okB = true
theorem nwS_refl {s : State} (h : OkS s) : NwS s s := ⟨nwB_refl h.1, nwB_refl h.2⟩
theorem nw_trans {a b c : Sp} (h : Nw a b) (k : Nw b c) : Nw a c := ⟨h.1, h.2.trans k.2⟩
theorem nwB_trans {a b c : Bx} (h : NwB a b) (k : NwB b c) : NwB a c := ⟨nw_trans h.1 k.1, nw_trans h.2.1 k.2.1, nw_trans h.2.2 k.2.2⟩
theorem nwS_trans {a b c : State} (h : NwS a b) (k : NwS b c) : NwS a c := ⟨nwB_trans h.1 k.1, nwB_trans h.2 k.2⟩
theorem NwS.ok {a b : State} (h : NwS a b) : OkS a := ⟨h.1.ok, h.2.ok⟩
theorem cut_sub {s : State} {m : Radio} (h : OkS s) (z : cutE s m = 0) : NwS (cutS s m) s := by
  unfold cutE at z
  unfold cutS
  split at z
  · rename_i k
    rw [if_pos k]
    exact ⟨di_sub h.1 3 z, nwB_refl h.2⟩
  · rename_i k
    rw [if_neg k]
    split at z
    · rename_i k
      rw [if_pos k]
      unfold rateE at z
      split at z
      · exact absurd z (by assumption)
      · split at z
        · exact absurd z (by assumption)
        · split at z
          · exact absurd z (by assumption)
          · exact ⟨nwB_refl h.1, sum_sub h.2 3 (do_zero (do_zero z).1).1⟩
    · rename_i k
      rw [if_neg k]
      split at z
      · rename_i k
        rw [if_pos k]
        exact ⟨sum_sub h.1 3 (do_zero (do_zero z).1).1, nwB_refl h.2⟩
      · rename_i k
        rw [if_neg k]
        exact ⟨nwB_refl h.1, sum_sub h.2 3 (do_zero (do_zero z).1).1⟩
/-- Time and mass stay. -/
def SameTM (a b : State) : Prop := a.t = b.t ∧ a.m = b.m
theorem cut_tm (s : State) (m : Radio) : SameTM (cutS s m) s := by
  unfold cutS
  split
  · exact ⟨rfl, rfl⟩
  · split
    · exact ⟨rfl, rfl⟩
    · split <;> exact ⟨rfl, rfl⟩
theorem one_sub {s a : State} {m : Radio} (h : OkS s) (z : cutOne s m = some a) : NwS a s ∧ SameTM a s := by
  unfold cutOne at z
  split at z
  · rename_i k
    cases z
    exact ⟨cut_sub h k, cut_tm s m⟩
  · split at z
    · cases z
    · cases z
      exact ⟨nwS_refl h, rfl, rfl⟩
/-- Narrower: nothing is left, or what is left is within. -/
def NwO (a b : Option State) : Prop := match a, b with
  | none, _ => True
  | some _, none => False
  | some x, some y => NwS x y
theorem one_mono {s u : State} {m : Radio} (h : NwS s u) (hm : m.okB = true) : NwO (cutOne s m) (cutOne u m) := by
  obtain ⟨h1, h2⟩ := cut_mono h hm
  unfold cutOne
  by_cases k : cutE u m = 0
  · rw [if_pos k]
    rcases h1.1 k with z | z
    · rw [if_pos z]
      exact h2 z k
    · rw [if_neg (by omega), if_pos z]
      trivial
  · rw [if_neg k]
    by_cases k7 : cutE u m = 7
    · rw [if_pos k7, if_neg (by have := h1.2 k7; omega), if_pos (h1.2 k7)]
      trivial
    · rw [if_neg k7]
      split
      · rename_i z
        exact nwS_trans (cut_sub h.ok z) h
      · split
        · trivial
        · exact h
theorem pass_sub {keep : Nat → Bool} : ∀ (l : List Radio) (i : Nat) (s a : State), OkS s → passR keep l i s = some a → NwS a s ∧ SameTM a s
  | [], _, s, a, h, z => by cases z; exact ⟨nwS_refl h, rfl, rfl⟩
  | m :: l, i, s, a, h, z => by
    unfold passR at z
    split at z
    · cases hc : cutOne s m with
      | none => rw [hc] at z; cases z
      | some x =>
        rw [hc] at z
        obtain ⟨n1, n2⟩ := one_sub h hc
        obtain ⟨k1, k2⟩ := pass_sub l (i + 1) x a n1.ok z
        exact ⟨nwS_trans k1 n1, k2.1.trans n2.1, k2.2.trans n2.2⟩
    · exact pass_sub l (i + 1) s a h z
theorem nwO_of {a b : Option State} (h : ∀ y, b = some y → ∀ x, a = some x → NwS x y) (k : b = none → a = none) : NwO a b := by
  match a, b with
  | none, _ => trivial
  | some x, none => cases k rfl
  | some x, some y => exact h y rfl x rfl
/-- More is kept, from a narrower state: less is left. -/
theorem pass_mono {keep keep' : Nat → Bool} (hk : ∀ i, keep' i = true → keep i = true) : ∀ (l : List Radio) (i : Nat) (s u : State), l.all Radio.okB = true → NwS s u → OkS u → NwO (passR keep l i s) (passR keep' l i u)
  | [], _, s, u, _, h, _ => h
  | m :: l, i, s, u, hl, h, hu => by
    simp only [List.all_cons, Bool.and_eq_true] at hl
    unfold passR
    by_cases c' : keep' i = true
    · rw [if_pos c', if_pos (hk i c')]
      have h1 := one_mono h hl.1
      cases hb : cutOne u m with
      | none =>
        rw [hb] at h1
        cases ha : cutOne s m with
        | none => trivial
        | some x => rw [ha] at h1; exact h1.elim
      | some y =>
        rw [hb] at h1
        cases ha : cutOne s m with
        | none => trivial
        | some x =>
          rw [ha] at h1
          exact pass_mono hk l (i + 1) x y hl.2 h1 (one_sub hu hb).1.ok
    · rw [if_neg c']
      by_cases c : keep i = true
      · rw [if_pos c]
        cases ha : cutOne s m with
        | none => trivial
        | some x => exact pass_mono hk l (i + 1) x u hl.2 (nwS_trans (one_sub h.ok ha).1 h) hu
      · rw [if_neg c]
        exact pass_mono hk l (i + 1) s u hl.2 h hu
/-- So many rounds. -/
def iterP (keep : Nat → Bool) (l : List Radio) : Nat → State → Option State
  | 0, s => some s
  | n + 1, s => match passR keep l 0 s with
    | none => none
    | some x => iterP keep l n x
theorem iter_fix {keep : Nat → Bool} {l : List Radio} {s : State} (h : passR keep l 0 s = some s) : ∀ n, iterP keep l n s = some s
  | 0 => rfl
  | n + 1 => by
    unfold iterP
    rw [h]
    exact iter_fix h n
theorem fuse_iter (keep : Nat → Bool) (l : List Radio) : ∀ (n : Nat) (used : Int) (s : State), (iterP keep l n s = none ∧ fuseR keep l n used s = badF 7) ∨ (∃ k : Nat, iterP keep l n s = some (fuseR keep l n used s).s ∧ (fuseR keep l n used s).e = 0 ∧ (fuseR keep l n used s).n = used + k ∧ k ≤ n)
  | 0, used, s => .inr ⟨0, rfl, rfl, by show used = used + ((0 : Nat) : Int); simp, Nat.le_refl _⟩
  | n + 1, used, s => by
    cases hp : passR keep l 0 s with
    | none => exact .inl ⟨by unfold iterP; rw [hp], fuse_none hp⟩
    | some x =>
      have e1 : iterP keep l (n + 1) s = iterP keep l n x := by
        show (match passR keep l 0 s with | none => none | some x => iterP keep l n x) = _
        rw [hp]
      rw [e1]
      by_cases c : x = s
      · subst c
        rw [fuse_same hp]
        exact .inr ⟨1, iter_fix hp n, rfl, rfl, by omega⟩
      · rw [fuse_next hp c]
        rcases fuse_iter keep l n (used + 1) x with h | ⟨k, h1, h2, h3, h4⟩
        · exact .inl h
        · exact .inr ⟨k + 1, h1, h2, by rw [h3]; simp; omega, by omega⟩
theorem iter_sub {keep : Nat → Bool} {l : List Radio} : ∀ (n : Nat) (s a : State), OkS s → iterP keep l n s = some a → NwS a s ∧ SameTM a s
  | 0, s, a, h, z => by cases z; exact ⟨nwS_refl h, rfl, rfl⟩
  | n + 1, s, a, h, z => by
    unfold iterP at z
    cases hp : passR keep l 0 s with
    | none => rw [hp] at z; cases z
    | some x =>
      rw [hp] at z
      obtain ⟨n1, n2⟩ := pass_sub l 0 s x h hp
      obtain ⟨k1, k2⟩ := iter_sub n x a n1.ok z
      exact ⟨nwS_trans k1 n1, k2.1.trans n2.1, k2.2.trans n2.2⟩
theorem iter_mono {keep keep' : Nat → Bool} (hk : ∀ i, keep' i = true → keep i = true) {l : List Radio} (hl : l.all Radio.okB = true) : ∀ (n : Nat) (s u : State), NwS s u → OkS u → NwO (iterP keep l n s) (iterP keep' l n u)
  | 0, s, u, h, _ => h
  | n + 1, s, u, h, hu => by
    have h1 := pass_mono hk l 0 s u hl h hu
    unfold iterP
    cases hb : passR keep' l 0 u with
    | none =>
      rw [hb] at h1
      cases ha : passR keep l 0 s with
      | none => trivial
      | some x => rw [ha] at h1; exact h1.elim
    | some y =>
      rw [hb] at h1
      cases ha : passR keep l 0 s with
      | none => trivial
      | some x =>
        rw [ha] at h1
        exact iter_mono hk hl n x y h1 (pass_sub l 0 u y hu hb).1.ok
theorem iter_add {keep : Nat → Bool} {l : List Radio} (k : Nat) : ∀ (n : Nat) (s : State), iterP keep l (n + k) s = match iterP keep l n s with | none => none | some x => iterP keep l k x
  | 0, s => by rw [Nat.zero_add]; rfl
  | n + 1, s => by
    rw [show n + 1 + k = (n + k) + 1 by omega]
    show (match passR keep l 0 s with | none => none | some x => iterP keep l (n + k) x) = match (match passR keep l 0 s with | none => none | some x => iterP keep l n x) with | none => none | some x => iterP keep l k x
    cases passR keep l 0 s with
    | none => rfl
    | some x => exact iter_add k n x
theorem pass_cons (keep : Nat → Bool) (m : Radio) (l : List Radio) (i : Nat) (s : State) : passR keep (m :: l) i s = if keep i = true then (match cutOne s m with | some s' => passR keep l (i + 1) s' | none => none) else passR keep l (i + 1) s := rfl
theorem pass_append {keep : Nat → Bool} (m : List Radio) : ∀ (l : List Radio) (i : Nat) (s : State), passR keep (l ++ m) i s = match passR keep l i s with | none => none | some x => passR keep m (i + l.length) x
  | [], i, s => rfl
  | x :: l, i, s => by
    show passR keep (x :: (l ++ m)) i s = match passR keep (x :: l) i s with | none => none | some x => passR keep m (i + (l.length + 1)) x
    rw [show i + (l.length + 1) = i + 1 + l.length by omega]
    rw [pass_cons, pass_cons]
    split
    · cases cutOne s x with
      | none => rfl
      | some y => exact pass_append m l (i + 1) y
    · exact pass_append m l (i + 1) s
/-! What is true stays. -/
def MaxOk (m : Radio) : Prop := m.okB = true ∧ m.value.hi ≤ 9223372036854775807
theorem one_true {s : State} {m : Radio} {t v : V3} (hs : HasS s t v) (h : OkS s) (hm : MaxOk m) (k : Says m t v) : ∃ a, cutOne s m = some a ∧ HasS a t v := by
  have hm2 := hm.1
  unfold Radio.okB at hm2
  simp only [Bool.and_eq_true] at hm2
  obtain ⟨⟨⟨-, mp⟩, md⟩, -⟩ := hm2
  obtain ⟨h7, h0⟩ := cut_says hs h.1 h.2 mp md hm.2 k
  unfold cutOne
  by_cases z : cutE s m = 0
  · exact ⟨_, if_pos z, (h0 z).1⟩
  · exact ⟨s, by rw [if_neg z, if_neg h7], hs⟩
theorem pass_true {keep : Nat → Bool} {t v : V3} : ∀ (l : List Radio) (i : Nat) (s : State), (∀ j (hj : j < l.length), keep (i + j) = true → MaxOk l[j] ∧ Says l[j] t v) → HasS s t v → OkS s → ∃ a, passR keep l i s = some a ∧ HasS a t v
  | [], _, s, _, hs, _ => ⟨s, rfl, hs⟩
  | m :: l, i, s, hl, hs, h => by
    have hl' : ∀ j (hj : j < l.length), keep (i + 1 + j) = true → MaxOk l[j] ∧ Says l[j] t v := fun j hj hk => hl (j + 1) (by simp; omega) (by rw [show i + (j + 1) = i + 1 + j by omega]; exact hk)
    rw [pass_cons]
    split
    · rename_i k
      obtain ⟨h1, h2⟩ := hl 0 (by simp) k
      obtain ⟨a, ha, hb⟩ := one_true hs h h1 h2
      rw [show (m :: l)[0] = m from rfl] at ha
      rw [ha]
      exact pass_true l (i + 1) a hl' hb (one_sub h ha).1.ok
    · exact pass_true l (i + 1) s hl' hs h
theorem iter_true {keep : Nat → Bool} {l : List Radio} {t v : V3} (hl : ∀ j (hj : j < l.length), keep j = true → MaxOk l[j] ∧ Says l[j] t v) : ∀ (n : Nat) (s : State), HasS s t v → OkS s → ∃ a, iterP keep l n s = some a ∧ HasS a t v
  | 0, s, hs, _ => ⟨s, rfl, hs⟩
  | n + 1, s, hs, h => by
    obtain ⟨a, ha, hb⟩ := pass_true (keep := keep) l 0 s (fun j hj hk => hl j hj (by rw [Nat.zero_add] at hk; exact hk)) hs h
    unfold iterP
    rw [ha]
    exact iter_true hl n a hb (pass_sub l 0 s a h ha).1.ok
end Go.Proofs.Ytdkfkalplmgoeaa
namespace Go.Proofs.Ytdkfkalplmgoeaa
open Go.RowKit
set_option maxRecDepth 100000
set_option maxHeartbeats 8000000
def agR (r : Res) (v : Sp) : Int := if r.e = 0 then (if r.s.inB v then 1 else if orderN r.s v = 0 then 0 else -1) else 0
end Go.Proofs.Ytdkfkalplmgoeaa
namespace Go.Proofs.Ytdkfkalplmgoeaa
set_option maxRecDepth 100000
/-! Readings. -/
theorem divs_mono {t t' n n' : Res} (ht : Mo t t') (hn : Mo n n') : Mo (divsR t n) (divsR t' n') := fun z => by
  obtain ⟨z1, z2, z3⟩ := divs_zero z
  obtain ⟨a1, a2⟩ := ht z1
  obtain ⟨b1, b2⟩ := hn z2
  rw [z3] at z ⊢
  have e : divsR t n = divR t.s n.s := by unfold divsR; rw [if_pos a1, if_pos b1]
  rw [e]
  exact div_mono a2 b2 z
theorem read_mono {s s' : State} {m : Radio} (h : NwS s s') (hm : m.okB = true) : Mo (readR s m) (readR s' m) := fun z => by
  obtain ⟨hp, hv⟩ := h
  unfold Radio.okB at hm
  simp only [Bool.and_eq_true] at hm
  obtain ⟨⟨⟨-, mp⟩, md⟩, -⟩ := hm
  have hd := nwB_refl md
  unfold readR at z ⊢
  by_cases k0 : m.kind = 0
  · simp only [if_pos k0] at z ⊢
    unfold normAway at z ⊢
    split at z
    · rename_i w
      obtain ⟨n0, nd⟩ := away_mono hp mp w
      rw [if_pos w, if_pos n0]
      exact norm_mono nd z
    · exact absurd z (by assumption)
  simp only [if_neg k0] at z ⊢
  by_cases k1 : m.kind = 1
  · simp only [if_pos k1] at z ⊢
    unfold rateR at z ⊢
    split at z
    · rename_i w
      obtain ⟨n0, nd⟩ := away_mono hp mp w
      rw [if_pos w, if_pos n0]
      exact divs_mono (dot_mono nd hv) (norm_mono nd) z
    · exact absurd z (by assumption)
  simp only [if_neg k1] at z ⊢
  by_cases k2 : m.kind = 2
  · simp only [if_pos k2] at z ⊢
    exact dot_mono hd hp z
  · simp only [if_neg k2] at z ⊢
    exact dot_mono hd hv z
/-- Points. -/
def pts (u : V3) : Bx := ⟨⟨u.x, u.x⟩, ⟨u.y, u.y⟩, ⟨u.z, u.z⟩⟩
def NumV (u : V3) : Prop := (-1152921504606846976 ≤ u.x ∧ u.x ≤ 1152921504606846976) ∧ (-1152921504606846976 ≤ u.y ∧ u.y ≤ 1152921504606846976) ∧ -1152921504606846976 ≤ u.z ∧ u.z ≤ 1152921504606846976
theorem pts_ok {u : V3} (h : NumV u) : (pts u).okB = true := by
  unfold NumV at h
  unfold Bx.okB
  rw [nw_ok (by show _ ≤ u.x; omega) (Int.le_refl _), nw_ok (by show _ ≤ u.y; omega) (Int.le_refl _), nw_ok (by show _ ≤ u.z; omega) (Int.le_refl _)]
  rfl
theorem pts_has (u : V3) : HasB (pts u) u := ⟨⟨Int.le_refl _, Int.le_refl _⟩, ⟨Int.le_refl _, Int.le_refl _⟩, ⟨Int.le_refl _, Int.le_refl _⟩⟩
theorem pts_nw {b : Bx} {u : V3} (h : HasB b u) (k : NumV u) : NwB (pts u) b := by
  have o := pts_ok k
  unfold Bx.okB at o
  simp only [Bool.and_eq_true] at o
  exact ⟨⟨o.1.1, h.1⟩, ⟨o.1.2, h.2.1⟩, ⟨o.2, h.2.2⟩⟩
abbrev oneS : Sp := ⟨4294967296, 4294967296⟩
/-- A state about a true place and velocity, and these as points. -/
structure About (s t : State) (u v : V3) : Prop where
  st : s.t = 0
  sm : s.m = oneS
  tt : t = ⟨0, pts u, pts v, oneS⟩
  nu : NumV u
  nv : NumV v
  has : HasS s u v
  ok : OkS s
theorem About.tok {s t : State} {u v : V3} (h : About s t u v) : OkS t := by
  rw [h.tt]
  exact ⟨pts_ok h.nu, pts_ok h.nv⟩
theorem About.thas {s t : State} {u v : V3} (h : About s t u v) : HasS t u v := by
  rw [h.tt]
  exact ⟨pts_has u, pts_has v⟩
theorem About.nw {s t : State} {u v : V3} (h : About s t u v) : NwS t s := by
  rw [h.tt]
  exact ⟨pts_nw h.has.1 h.nu, pts_nw h.has.2 h.nv⟩
theorem state_ok {s : State} (h : s.t = 0) (k : s.m = oneS) (o : OkS s) : s.okB = true := by
  unfold State.okB
  rw [h, k, o.1, o.2]
  decide
theorem About.sokB {s t : State} {u v : V3} (h : About s t u v) : s.okB = true := state_ok h.st h.sm h.ok
theorem About.tokB {s t : State} {u v : V3} (h : About s t u v) : t.okB = true := state_ok (by rw [h.tt]) (by rw [h.tt]) h.tok
/-! Has a state all of another one; is it within another one. -/
def hasB (s t : State) : Bool := (t.p.x.inB s.p.x && t.v.x.inB s.v.x) && (t.p.y.inB s.p.y && t.v.y.inB s.v.y) && (t.p.z.inB s.p.z && t.v.z.inB s.v.z)
def withinB (a b : State) : Bool := hasB b a && decide (a.t = b.t) && (decide (a.m.lo = b.m.lo) && decide (a.m.hi = b.m.hi))
theorem in_of {a b : Sp} (h : Nw a b) (k : b.okB = true) : a.inB b = true := by
  unfold Sp.inB
  rw [h.1, k]
  obtain ⟨-, h1, h2⟩ := h
  simp [h1, h2]
theorem has_of {s t : State} (h : NwS t s) (k : OkS s) : hasB s t = true := by
  obtain ⟨h1, h2⟩ := h
  obtain ⟨k1, k2⟩ := k
  unfold Bx.okB at k1 k2
  simp only [Bool.and_eq_true] at k1 k2
  unfold hasB
  rw [in_of h1.1 k1.1.1, in_of h1.2.1 k1.1.2, in_of h1.2.2 k1.2, in_of h2.1 k2.1.1, in_of h2.2.1 k2.1.2, in_of h2.2.2 k2.2]
  rfl
theorem within_of {a b : State} (h : NwS a b) (k : OkS b) (e : SameTM a b) : withinB a b = true := by
  unfold withinB
  rw [has_of h k, e.1, e.2]
  simp
/-! What is heard of the true state. -/
def heardFar (m : Radio) : Int := m.value.lo % 18446744073709551616 / 1099511627776
def heardOk (t : State) (m : Radio) : Bool := decide ((readingR t m).e = 0) && (decide ((readingR t m).s.hi ≤ 9223372036854775807 - heardFar m) && decide (heardFar m - 9223372036854775807 ≤ (readingR t m).s.lo))
def heardM (t : State) (m : Radio) (i : Nat) : Radio := { m with value := ⟨(readingR t m).s.lo - heardFar m / (1 + (i : Int)), (readingR t m).s.hi + heardFar m⟩ }
def heardTo (t : State) (l : List Radio) : Nat → List Radio
  | 0 => []
  | k + 1 => match l[k]? with
    | none => heardTo t l k
    | some m => if heardOk t m then heardTo t l k ++ [heardM t m k] else heardTo t l k
def heardL (t : State) (l : List Radio) : List Radio := heardTo t l l.length
theorem heard_step (t : State) (l : List Radio) (k : Nat) (h : k < l.length) : heardTo t l (k + 1) = if heardOk t l[k] then heardTo t l k ++ [heardM t l[k] k] else heardTo t l k := by
  rw [heardTo, List.getElem?_eq_getElem h]
theorem heard_len (t : State) (l : List Radio) : ∀ k, (heardTo t l k).length ≤ k
  | 0 => Nat.le_refl _
  | k + 1 => by
    have ih := heard_len t l k
    unfold heardTo
    split
    · omega
    · split
      · rw [List.length_append]
        simp
        omega
      · omega
theorem far_bd (m : Radio) : 0 ≤ heardFar m ∧ heardFar m ≤ 16777215 := by
  unfold heardFar
  omega
theorem far_div (m : Radio) (i : Nat) : 0 ≤ heardFar m / (1 + (i : Int)) ∧ heardFar m / (1 + (i : Int)) ≤ heardFar m := by
  have h := (far_bd m).1
  refine ⟨Int.ediv_nonneg h (by omega), ?_⟩
  exact Int.ediv_le_self _ h
/-- What a measurement that is heard has: it is valid, and the reading is within its value. -/
structure Heard (t : State) (m : Radio) : Prop where
  ok : MaxOk m
  zero : (readingR t m).e = 0
  read : readingR t m = readR t m
  ins : Nw (readR t m).s m.value
theorem reading_zero {s : State} {m : Radio} (h : (readingR s m).e = 0) : s.okB = true ∧ m.okB = true ∧ readingR s m = readR s m ∧ (readR s m).e = 0 := by
  unfold readingR at *
  split at h
  · rename_i k
    rw [if_pos k]
    simp only [Bool.and_eq_true] at k
    rw [clean_e] at h
    exact ⟨k.1, k.2, clean_ok h, h⟩
  · exact absurd h (by simp [errR])
theorem heard_one {s t : State} {u v : V3} (ha : About s t u v) {m : Radio} (i : Nat) (h : heardOk t m = true) : Heard t (heardM t m i) := by
  unfold heardOk at h
  simp only [Bool.and_eq_true, decide_eq_true_eq] at h
  obtain ⟨h1, h2, h3⟩ := h
  obtain ⟨k1, k2, k3, k4⟩ := reading_zero h1
  have hn : Nw (readR t m).s (readR t m).s := (read_mono (nwS_refl ha.tok) k2 k4).2
  have hle := nw_le hn
  have hnum := okB_num hn.1
  have f1 := far_bd m
  have f2 := far_div m i
  rw [k3] at h2 h3
  have ev : (heardM t m i).value = ⟨(readR t m).s.lo - heardFar m / (1 + (i : Int)), (readR t m).s.hi + heardFar m⟩ := by
    unfold heardM
    rw [k3]
  have er : readR t (heardM t m i) = readR t m := rfl
  have ho : (heardM t m i).okB = true := by
    have hv : (heardM t m i).value.okB = true := by
      rw [ev]
      exact nw_ok (by simp only; omega) (by simp only; omega)
    unfold Radio.okB at k2 ⊢
    simp only [Bool.and_eq_true] at k2 ⊢
    exact ⟨k2.1, hv⟩
  have z2 : readingR t (heardM t m i) = readR t m := by
    unfold readingR
    rw [k1, ho]
    show clean (readR t m) = _
    exact clean_ok k4
  refine ⟨⟨ho, by rw [ev]; simp only; omega⟩, by rw [z2]; exact k4, z2, ?_⟩
  rw [er, ev]
  exact ⟨hn.1, by unfold Wi; simp only; omega⟩
theorem heard_all {s t : State} {u v : V3} (ha : About s t u v) (l : List Radio) : ∀ k, ∀ m ∈ heardTo t l k, Heard t m
  | 0, m, h => absurd h (List.not_mem_nil)
  | k + 1, m, h => by
    have ih := heard_all ha l k
    unfold heardTo at h
    split at h
    · exact ih m h
    · split at h
      · rename_i x _ hx
        rcases List.mem_append.1 h with h | h
        · exact ih m h
        · rw [List.mem_singleton.1 h]
          exact heard_one ha k hx
      · exact ih m h
theorem Heard.says {s t : State} {u v : V3} {m : Radio} (ha : About s t u v) (h : Heard t m) : Says m u v := by
  have hm := h.ok.1
  unfold Radio.okB at hm
  simp only [Bool.and_eq_true] at hm
  exact read_says ha.thas hm.1.1.2 hm.1.2 (by rw [← h.read]; exact h.zero) h.ins.2
theorem cut_ne7 {s t : State} {u v : V3} {m : Radio} (ha : About s t u v) (h : Heard t m) : cutE s m ≠ 7 ∧ (cutE s m = 0 → hasB (cutS s m) t = true ∧ withinB (cutS s m) s = true) := by
  have hm := h.ok.1
  unfold Radio.okB at hm
  simp only [Bool.and_eq_true] at hm
  obtain ⟨h7, h0⟩ := cut_says ha.has ha.ok.1 ha.ok.2 hm.1.1.2 hm.1.2 h.ok.2 (h.says ha)
  refine ⟨h7, fun z => ?_⟩
  obtain ⟨c1, -, c3, c4⟩ := h0 z
  refine ⟨has_of ?_ ⟨c3, c4⟩, within_of (cut_sub ha.ok z) ha.ok (cut_tm s m)⟩
  rw [ha.tt]
  exact ⟨pts_nw c1.1 ha.nu, pts_nw c1.2 ha.nv⟩
theorem order_zero {a b r : Sp} (ha : Nw r a) (hb : Nw r b) (hr : r.lo ≤ r.hi) : orderN a b = 0 := by
  obtain ⟨-, a1, a2⟩ := ha
  obtain ⟨-, b1, b2⟩ := hb
  unfold orderN
  split
  · rw [if_neg (by omega), if_neg (by omega)]
  · rfl
theorem agrees_ge {s t : State} {u v : V3} {m : Radio} (ha : About s t u v) (h : Heard t m) : 0 ≤ agreesN t m ∧ 0 ≤ agreesN s m := by
  have key : ∀ s', NwS t s' → 0 ≤ agreesN s' m := fun s' hn => by
    unfold agreesN
    split
    · rename_i z
      split
      · decide
      · obtain ⟨z1, z2, z3, z4⟩ := reading_zero z
        have hr := (read_mono hn z2 z4).2
        rw [z3, if_pos (order_zero hr h.ins (nw_le hr))]
        decide
    · decide
  exact ⟨key t (nwS_refl ha.tok), key s ha.nw⟩
theorem all_of {l : List Radio} (h : ∀ m ∈ l, m.okB = true) : l.all Radio.okB = true := List.all_eq_true.2 h
/-- Rounds of cuts by what is heard, but what is not kept: the true state stays. -/
theorem fuse_true {s t : State} {u v : V3} (ha : About s t u v) (keep : Nat → Bool) (l : List Radio) (hl : ∀ j (hj : j < l.length), keep j = true → Heard t l[j]) (n : Nat) (used : Int) :
    (fuseR keep l n used s).e = 0 ∧ hasB (fuseR keep l n used s).s t = true ∧ withinB (fuseR keep l n used s).s s = true ∧ (fuseR keep l n used s).n ≤ used + n ∧ NwS (fuseR keep l n used s).s s ∧ SameTM (fuseR keep l n used s).s s ∧ HasS (fuseR keep l n used s).s u v := by
  obtain ⟨a, e1, e2⟩ := iter_true (keep := keep) (fun j hj hk => ⟨(hl j hj hk).ok, (hl j hj hk).says ha⟩) n s ha.has ha.ok
  rcases fuse_iter keep l n used s with h | ⟨k, h1, h2, h3, h4⟩
  · rw [h.1] at e1
    cases e1
  · rw [h1] at e1
    cases e1
    obtain ⟨n1, n2⟩ := iter_sub n s _ ha.ok h1
    refine ⟨h2, has_of ?_ n1.ok, within_of n1 ha.ok n2, by rw [h3]; omega, n1, n2, e2⟩
    rw [ha.tt]
    exact ⟨pts_nw e2.1 ha.nu, pts_nw e2.2 ha.nv⟩
end Go.Proofs.Ytdkfkalplmgoeaa
namespace Go.Proofs.Ytdkfkalplmgoeaa
set_option maxRecDepth 100000
theorem okB_list {m : Radio} (h : m.okB = true) : m.place.okB = true ∧ m.dir.okB = true ∧ m.value.okB = true := by
  unfold Radio.okB at h
  simp only [Bool.and_eq_true] at h
  exact ⟨h.1.1.2, h.1.2, h.2⟩
theorem heard_from (t : State) (l : List Radio) : ∀ k, ∀ m ∈ heardTo t l k, ∃ (j : Nat) (hj : j < l.length), m = heardM t l[j] j
  | 0, m, h => absurd h (List.not_mem_nil)
  | k + 1, m, h => by
    have ih := heard_from t l k
    by_cases hk : k < l.length
    · rw [heard_step t l k hk] at h
      split at h
      · rcases List.mem_append.1 h with h | h
        · exact ih m h
        · exact ⟨k, hk, List.mem_singleton.1 h⟩
      · exact ih m h
    · unfold heardTo at h
      rw [List.getElem?_eq_none (by omega)] at h
      exact ih m h
theorem fuseE_zero {s : State} {L : List Radio} {n : Int} (hs : s.okB = true) (hL : L.length ≤ 16) (hm : ∀ m ∈ L, m.okB = true) (h0 : 0 ≤ n) (h1 : n ≤ 16) : fuseE s L n = 0 := by
  unfold fuseE
  rw [if_neg (by omega), if_neg (by rw [hs]; simp; omega), all_of hm]
  rfl
theorem keeps_fuse {s t : State} {u v : V3} (ha : About s t u v) {L : List Radio} (hL : L.length ≤ 16) (hm : ∀ m ∈ L, Heard t m) {n : Int} (h0 : 0 ≤ n) (h1 : n ≤ 16) : (fuseRR s L n).e = 0 ∧ hasB (fuseRR s L n).s t = true ∧ withinB (fuseRR s L n).s s = true ∧ (fuseRR s L n).n ≤ n := by
  unfold fuseRR
  rw [if_pos (fuseE_zero ha.sokB hL (fun m h => (hm m h).ok.1) h0 h1)]
  obtain ⟨f1, f2, f3, f4, -⟩ := fuse_true ha (fun _ => true) L (fun j hj _ => hm _ (List.getElem_mem hj)) n.toNat 0
  exact ⟨f1, f2, f3, by omega⟩
theorem keeps_cut {s t : State} {u v : V3} {m : Radio} (ha : About s t u v) (h : Heard t m) : (cutRR s m).e ≠ 7 ∧ ((cutRR s m).e = 0 → hasB (cutRR s m).s t = true ∧ withinB (cutRR s m).s s = true) := by
  obtain ⟨h7, h0⟩ := cut_ne7 ha h
  unfold cutRR
  rw [ha.sokB, h.ok.1]
  simp only [Bool.and_self, if_true]
  unfold cutR
  by_cases z : cutE s m = 0
  · rw [if_pos z]
    exact ⟨by simp, fun _ => h0 z⟩
  · rw [if_neg z]
    exact ⟨h7, fun k => absurd k z⟩
/-! More rounds, more measurements, a narrower state. -/
theorem fuse_e (keep : Nat → Bool) (l : List Radio) (n : Nat) (used : Int) (s : State) : ((fuseR keep l n used s).e = 0 ∧ iterP keep l n s = some (fuseR keep l n used s).s) ∨ ((fuseR keep l n used s).e = 7 ∧ iterP keep l n s = none) := by
  rcases fuse_iter keep l n used s with h | ⟨k, h1, h2, h3, h4⟩
  · exact .inr ⟨by rw [h.2]; rfl, h.1⟩
  · exact .inl ⟨h2, h1⟩
theorem fuseRR_e (s : State) (l : List Radio) (n : Int) : fuseE s l n = 0 ∧ ((fuseRR s l n).e = 0 ∧ iterP (fun _ => true) l n.toNat s = some (fuseRR s l n).s ∨ (fuseRR s l n).e = 7 ∧ iterP (fun _ => true) l n.toNat s = none) ∨ (fuseE s l n ≠ 0 ∧ (fuseRR s l n).e = fuseE s l n) := by
  unfold fuseRR
  by_cases h : fuseE s l n = 0
  · rw [if_pos h]
    exact .inl ⟨h, fuse_e _ l n.toNat 0 s⟩
  · rw [if_neg h]
    exact .inr ⟨h, rfl⟩
theorem fuse_okB {s : State} {l : List Radio} {n : Int} (h : fuseE s l n = 0) : l.all Radio.okB = true := by
  unfold fuseE at h
  split at h
  · exact absurd h (by decide)
  · split at h
    · exact absurd h (by decide)
    · cases k : l.all Radio.okB
      · rw [k] at h
        exact absurd h (by decide)
      · rfl
theorem fuseE_same {s t : State} (l : List Radio) {n m : Int} (hs : s.okB = true) (ht : t.okB = true) (hn : 0 ≤ n ∧ n ≤ 16) (hm : 0 ≤ m ∧ m ≤ 16) : fuseE s l n = fuseE t l m := by
  unfold fuseE
  by_cases h : 16 < l.length
  · rw [if_pos h, if_pos h]
  · rw [if_neg h, if_neg h, if_neg (by rw [hs]; simp; omega), if_neg (by rw [ht]; simp; omega)]
theorem fuseE_two (s : State) (l : List Radio) (n : Int) (hs : s.okB = true) (hl : l.length ≤ 16) (hn : 0 ≤ n ∧ n ≤ 16) : fuseE s l n = 0 ∨ fuseE s l n = 2 := by
  unfold fuseE
  rw [if_neg (by omega), if_neg (by rw [hs]; simp; omega)]
  cases l.all Radio.okB
  · exact .inr rfl
  · exact .inl rfl
/-- With more rounds no more is left. -/
theorem narrows_one {s : State} (hs : s.okB = true) (ho : OkS s) {l : List Radio} (hl : l.length ≤ 16) {n k : Int} (h0 : 0 ≤ n) (h1 : 0 ≤ k) (h2 : n + k ≤ 16) :
    ((fuseRR s l n).e = 2 → (fuseRR s l (n + k)).e = 2) ∧ ((fuseRR s l n).e ≠ 2 → ((fuseRR s l n).e = 0 → (fuseRR s l (n + k)).e = 0 → withinB (fuseRR s l (n + k)).s (fuseRR s l n).s = true) ∧ ((fuseRR s l n).e ≠ 0 → (fuseRR s l (n + k)).e = (fuseRR s l n).e)) := by
  have e1 := fuseE_same (s := s) (t := s) l hs hs ⟨h0, by omega⟩ (⟨by omega, h2⟩ : 0 ≤ n + k ∧ n + k ≤ 16)
  have e2 := fuseE_two s l n hs hl ⟨h0, by omega⟩
  have ha : (n + k).toNat = n.toNat + k.toNat := by omega
  have hi := iter_add (keep := fun _ => true) (l := l) k.toNat n.toNat s
  rw [← ha] at hi
  rcases fuseRR_e s l n with ⟨z, f⟩ | ⟨z, f⟩
  · rcases fuseRR_e s l (n + k) with ⟨z', g⟩ | ⟨z', g⟩
    · refine ⟨fun h => by rcases f with f | f <;> omega, fun _ => ⟨fun h h' => ?_, fun h => ?_⟩⟩
      · rcases f with f | f
        · rcases g with g | g
          · rw [f.2, g.2] at hi
            have hi : iterP (fun _ => true) l k.toNat (fuseRR s l n).s = some (fuseRR s l (n + k)).s := hi.symm
            obtain ⟨i1, i2⟩ := iter_sub n.toNat s _ ho f.2
            obtain ⟨j1, j2⟩ := iter_sub k.toNat _ _ i1.ok hi
            exact within_of j1 i1.ok j2
          · omega
        · omega
      · rcases f with f | f
        · omega
        · rw [f.2] at hi
          rcases g with g | g
          · rw [g.2] at hi
            cases hi
          · omega
    · exact absurd (e1.symm.trans z) z'
  · have z2 : fuseE s l n = 2 := by omega
    rcases fuseRR_e s l (n + k) with ⟨z', g⟩ | ⟨z', g⟩
    · exact absurd (e1.trans z') z
    · exact ⟨fun _ => by rw [g, ← e1, z2], fun h => absurd (f.trans z2) h⟩
/-- With one more measurement behind the others, in one round, no more is left. -/
theorem narrows_two {s : State} (ho : OkS s) {l : List Radio} {m : Radio} (h : (fuseRR s (l ++ [m]) 1).e ≠ 2) (hs : s.okB = true) (hl : l.length + 1 ≤ 16) :
    ((fuseRR s l 1).e = 7 → (fuseRR s (l ++ [m]) 1).e = 7) ∧ ((fuseRR s l 1).e = 0 → (fuseRR s (l ++ [m]) 1).e = 0 → withinB (fuseRR s (l ++ [m]) 1).s (fuseRR s l 1).s = true) := by
  have e2 := fuseE_two s (l ++ [m]) 1 hs (by rw [List.length_append]; simpa using hl) (by omega)
  have one : ∀ x, iterP (fun _ => true) x (1 : Int).toNat s = passR (fun _ => true) x 0 s := fun x => by
    show (match passR (fun _ => true) x 0 s with | none => none | some y => some y) = _
    cases passR (fun _ => true) x 0 s <;> rfl
  have hp := pass_append (keep := fun _ => true) [m] l 0 s
  rcases fuseRR_e s (l ++ [m]) 1 with ⟨z, g⟩ | ⟨z, g⟩
  · rw [one] at g
    rcases fuseRR_e s l 1 with ⟨z', f⟩ | ⟨z', f⟩
    · rw [one] at f
      refine ⟨fun k => ?_, fun k k' => ?_⟩
      · rcases f with f | f
        · omega
        · rw [f.2] at hp
          rcases g with g | g
          · rw [g.2] at hp
            cases hp
          · exact g.1
      · rcases f with f | f
        · rcases g with g | g
          · rw [f.2, g.2] at hp
            have hp : passR (fun _ => true) [m] (0 + l.length) (fuseRR s l 1).s = some (fuseRR s (l ++ [m]) 1).s := hp.symm
            obtain ⟨i1, i2⟩ := pass_sub l 0 s _ ho f.2
            obtain ⟨j1, j2⟩ := pass_sub [m] _ _ _ i1.ok hp
            exact within_of j1 i1.ok j2
          · omega
        · omega
    · have hk := fuse_okB z
      rw [List.all_append, Bool.and_eq_true] at hk
      exact absurd (fuseE_zero hs (by omega) (List.all_eq_true.1 hk.1) (by omega) (by omega)) z'
  · rcases e2 with e2 | e2
    · exact absurd e2 z
    · exact absurd (g.trans e2) h
/-- Within a state no more is left than within a wider one. -/
theorem narrows_three {s t : State} {u v : V3} (ha : About s t u v) {l : List Radio} {n : Int} (h0 : 0 ≤ n) (h1 : n ≤ 16) :
    ((fuseRR s l n).e = 7 → (fuseRR t l n).e = 7) ∧ ((fuseRR t l n).e = 0 → (fuseRR s l n).e = 0 → withinB (fuseRR t l n).s (fuseRR s l n).s = true) := by
  have e := fuseE_same (s := s) (t := t) l ha.sokB ha.tokB ⟨h0, h1⟩ ⟨h0, h1⟩
  rcases fuseRR_e s l n with ⟨z, f⟩ | ⟨z, f⟩
  · have hm := iter_mono (keep := fun _ => true) (keep' := fun _ => true) (fun _ h => h) (fuse_okB z) n.toNat t s ha.nw ha.ok
    rcases fuseRR_e t l n with ⟨z', g⟩ | ⟨z', g⟩
    · refine ⟨fun k => ?_, fun k k' => ?_⟩
      · rcases f with f | f
        · omega
        · rw [f.2] at hm
          rcases g with g | g
          · rw [g.2] at hm
            exact hm.elim
          · exact g.1
      · rcases f with f | f
        · rcases g with g | g
          · rw [f.2, g.2] at hm
            obtain ⟨i1, i2⟩ := iter_sub n.toNat s _ ha.ok f.2
            obtain ⟨j1, j2⟩ := iter_sub n.toNat t _ ha.tok g.2
            refine within_of hm i1.ok ⟨?_, ?_⟩
            · rw [j2.1, i2.1, ha.st, ha.tt]
            · rw [j2.2, i2.2, ha.sm, ha.tt]
          · omega
        · omega
    · exact absurd (e.symm.trans z) z'
  · have : (fuseRR s l n).e ≠ 7 ∧ (fuseRR s l n).e ≠ 0 := by
      rw [f]
      refine ⟨fun k => ?_, z⟩
      unfold fuseE at k
      split at k
      · omega
      · split at k
        · omega
        · cases q : l.all Radio.okB <;> rw [q] at k <;> exact absurd k (by decide)
    exact ⟨fun k => absurd k this.1, fun _ k => absurd k this.2⟩
end Go.Proofs.Ytdkfkalplmgoeaa
