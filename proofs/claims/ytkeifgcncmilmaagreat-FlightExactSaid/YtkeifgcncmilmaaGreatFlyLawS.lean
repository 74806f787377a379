/-
  Plain law: what is within a span stays within through forces; what a step has; forth and back; one step and two.
  Plain law of a step without an error: what it needs, what it does; FlightBack and FlightMeets.
  The lengths of an arc's steps: plain law.
  The plain law of a flight: the lengths of steps, along an arc, along all arcs, back.
-/
import Derived.Test.YtkeifgcncmilmaaGreatStepLawsS
import Derived.Test.YtkeifgcncmilmaaGreatFolds2S
import Derived.Test.YtkeifgcncmilmaaGreatMonoLawS
import Derived.Test.YtkeifgcncmilmaaGreatLookAllS
import Derived.Test.YtkeifgcncmilmaaGreatStepIJKS
import Derived.Test.YtkeifgcncmilmaaGreatJointS
import Derived.Test.YtkeifgcncmilmaaGreatArcWordsS
namespace Go.Proofs.YtkeifgcncmilmaaGreat
set_option maxRecDepth 100000
def Has1 (a : Sp) (n : Int) : Prop := a.lo ≤ n ∧ n ≤ a.hi
def Has2 (a : Sp) (n : Int) : Prop := a.lo * 4294967296 ≤ n ∧ n ≤ a.hi * 4294967296
theorem down_mul (x d : Int) (hd : 0 < d) : downZ x d * d ≤ x := Int.ediv_mul_le x (by omega)
theorem up_mul (x d : Int) (hd : 0 < d) : x ≤ upZ x d * d := by
  unfold upZ
  have := Int.ediv_mul_le (-x) (show d ≠ 0 by omega)
  rw [Int.neg_mul]
  omega
theorem mul_has {a b : Sp} {x y : Int} (ha : Has1 a x) (hb : Has1 b y) (h : (mulR a b).e = 0) : Has2 (mulR a b).s (x * y) := by
  obtain ⟨ka, kb, e⟩ := mul_zero h
  rw [e]
  obtain ⟨c1, c2⟩ := corner ha.1 ha.2 hb.1 hb.2
  have d1 := down_mul (min4 (a.lo * b.lo) (a.lo * b.hi) (a.hi * b.lo) (a.hi * b.hi)) 4294967296 (by decide)
  have d2 := up_mul (max4 (a.lo * b.lo) (a.lo * b.hi) (a.hi * b.lo) (a.hi * b.hi)) 4294967296 (by decide)
  exact ⟨Int.le_trans d1 c1, Int.le_trans c2 d2⟩
theorem square_has {a : Sp} {x : Int} (ha : Has1 a x) (h : (squareR a).e = 0) : Has2 (squareR a).s (x * x) := by
  obtain ⟨k, e⟩ := square_zero h
  have hl := ok_le k
  rw [e] at h ⊢
  obtain ⟨h1, h2⟩ := ha
  have hx : Has1 (absS a) (if 0 ≤ x then x else -x) := by
    unfold Has1
    rw [abs_lo, abs_hi]
    constructor
    · (repeat' split) <;> omega
    · (repeat' split) <;> omega
  have := mul_has hx hx h
  by_cases c : 0 ≤ x
  · rw [if_pos c] at this
    exact this
  · rw [if_neg c, Int.neg_mul_neg] at this
    exact this
theorem sq_nonneg (a : Int) : 0 ≤ a * a := by
  by_cases h : 0 ≤ a
  · exact Int.mul_nonneg h h
  · rw [← Int.neg_mul_neg]
    exact Int.mul_nonneg (by omega) (by omega)
def Nw (a b : Sp) : Prop := a.okB = true ∧ Wi a b
theorem nw_ok {a : Sp} (h : -9223372036854775807 ≤ a.lo) (k : a.lo ≤ a.hi) : a.okB = true := by
  unfold Sp.okB numB
  simp only [Bool.and_eq_true, decide_eq_true_eq]
  omega
def Mo (r r' : Res) : Prop := r'.e = 0 → r.e = 0 ∧ Nw r.s r'.s
theorem fit_mono {x y x' y' : Int} (h : x' ≤ x) (k : y ≤ y') (l : x ≤ y) : Mo (fitR x y) (fitR x' y') := fun z => by
  obtain ⟨e, h1, h2⟩ := fit_zero z
  have : fitR x y = ⟨⟨x, y⟩, 0⟩ := by
    unfold fitR isNum
    rw [if_pos (by simp; omega)]
  rw [this, e]
  exact ⟨rfl, nw_ok (by show _ ≤ x; omega) l, h, k⟩
theorem nw_le {a b : Sp} (h : Nw a b) : a.lo ≤ a.hi := ok_le h.1
theorem add_mono {a a' b b' : Sp} (ha : Nw a a') (hb : Nw b b') : Mo (addR a b) (addR a' b') := fun z => by
  have e' : addR a' b' = fitR (a'.lo + b'.lo) (a'.hi + b'.hi) := by
    obtain ⟨k1, k2, -⟩ := add_zero z
    unfold addR
    rw [k1, k2]
    rfl
  have e : addR a b = fitR (a.lo + b.lo) (a.hi + b.hi) := by unfold addR; rw [ha.1, hb.1]; rfl
  rw [e'] at z ⊢
  rw [e]
  have h1 := nw_le ha
  have h2 := nw_le hb
  obtain ⟨-, ha⟩ := ha
  obtain ⟨-, hb⟩ := hb
  unfold Wi at ha hb
  exact fit_mono (by omega) (by omega) (by omega) z
theorem neg_nw {a a' : Sp} (h : Nw a a') (hi : a.hi ≤ 9223372036854775807) : Nw (negS a) (negS a') := by
  have := nw_le h
  exact ⟨nw_ok (by unfold negS; simp only; omega) (by unfold negS; simp only; omega), neg_wi h.2⟩
theorem ok_max {a : Sp} (h : (negS a).okB = true) : a.hi ≤ 9223372036854775807 := by
  unfold negS Sp.okB numB at h
  simp only [Bool.and_eq_true, decide_eq_true_eq] at h
  omega
theorem sub_mono {a a' b b' : Sp} (ha : Nw a a') (hb : Nw b b') : Mo (subR a b) (subR a' b') := fun z => by
  have e := sub_zero z
  rw [e.1] at z ⊢
  have k := (add_zero z).2.1
  have hm : b.hi ≤ 9223372036854775807 := by
    have := ok_max k
    have := hb.2.2
    omega
  have e2 : subR a b = addR a (negS b) := by unfold subR; rw [hb.1]; rfl
  rw [e2]
  exact add_mono ha (neg_nw hb hm) z
theorem mul_mono {a a' b b' : Sp} (ha : Nw a a') (hb : Nw b b') : Mo (mulR a b) (mulR a' b') := fun z => by
  obtain ⟨k1, k2, -⟩ := mul_zero z
  have e' : mulR a' b' = fitR (downZ (min4 (a'.lo * b'.lo) (a'.lo * b'.hi) (a'.hi * b'.lo) (a'.hi * b'.hi)) 4294967296) (upZ (max4 (a'.lo * b'.lo) (a'.lo * b'.hi) (a'.hi * b'.lo) (a'.hi * b'.hi)) 4294967296) := by
    unfold mulR
    rw [k1, k2]
    rfl
  have e : mulR a b = fitR (downZ (min4 (a.lo * b.lo) (a.lo * b.hi) (a.hi * b.lo) (a.hi * b.hi)) 4294967296) (upZ (max4 (a.lo * b.lo) (a.lo * b.hi) (a.hi * b.lo) (a.hi * b.hi)) 4294967296) := by
    unfold mulR
    rw [ha.1, hb.1]
    rfl
  rw [e'] at z ⊢
  rw [e]
  have la := nw_le ha
  have lb := nw_le hb
  obtain ⟨-, ha⟩ := ha
  obtain ⟨-, hb⟩ := hb
  unfold Wi at ha hb
  have c1 := corner (a := a'.lo) (b := a'.hi) (c := b'.lo) (d := b'.hi) (x := a.lo) (y := b.lo) ha.1 (by omega) hb.1 (by omega)
  have c2 := corner (a := a'.lo) (b := a'.hi) (c := b'.lo) (d := b'.hi) (x := a.lo) (y := b.hi) ha.1 (by omega) (show b'.lo ≤ b.hi by omega) hb.2
  have c3 := corner (a := a'.lo) (b := a'.hi) (c := b'.lo) (d := b'.hi) (x := a.hi) (y := b.lo) (show a'.lo ≤ a.hi by omega) ha.2 hb.1 (by omega)
  have c4 := corner (a := a'.lo) (b := a'.hi) (c := b'.lo) (d := b'.hi) (x := a.hi) (y := b.hi) (show a'.lo ≤ a.hi by omega) ha.2 (show b'.lo ≤ b.hi by omega) hb.2
  refine fit_mono (down_mono _ (by decide) (le_min4 c1.1 c2.1 c3.1 c4.1)) (up_mono _ (by decide) (max4_le c1.2 c2.2 c3.2 c4.2)) ?_ z
  have m1 := min4_le (a.lo * b.lo) (a.lo * b.hi) (a.hi * b.lo) (a.hi * b.hi)
  have m2 := le_max4 (a.lo * b.lo) (a.lo * b.hi) (a.hi * b.lo) (a.hi * b.hi)
  have h1 := down_mono 4294967296 (by decide) (show min4 (a.lo * b.lo) (a.lo * b.hi) (a.hi * b.lo) (a.hi * b.hi) ≤ max4 (a.lo * b.lo) (a.lo * b.hi) (a.hi * b.lo) (a.hi * b.hi) by omega)
  have h2 := down_le_up (max4 (a.lo * b.lo) (a.lo * b.hi) (a.hi * b.lo) (a.hi * b.hi)) 4294967296 (by decide)
  exact Int.le_trans h1 h2
theorem abs_nw {a a' : Sp} (h : Nw a a') : Nw (absS a) (absS a') := by
  have l := nw_le h
  refine ⟨?_, abs_wi h.2 l⟩
  refine nw_ok ?_ ?_
  · rw [abs_lo]
    (repeat' split) <;> omega
  · rw [abs_lo, abs_hi]
    (repeat' split) <;> omega
theorem square_mono {a a' : Sp} (h : Nw a a') : Mo (squareR a) (squareR a') := fun z => by
  obtain ⟨k, e'⟩ := square_zero z
  have e : squareR a = mulR (absS a) (absS a) := by unfold squareR; rw [h.1]; rfl
  rw [e'] at z ⊢
  rw [e]
  exact mul_mono (abs_nw h) (abs_nw h) z
theorem rat_mono {x z : Int} (hz : z ≠ 0) : ratDown x z ≤ ratUp x z := by
  unfold ratDown ratUp
  split
  · exact down_le_up _ _ (by omega)
  · exact down_le_up _ _ (by omega)
theorem quo_corner {a b c d x y : Int} (h1 : a ≤ x) (h2 : x ≤ b) (h3 : c ≤ y) (h4 : y ≤ d) (hs : 0 < c ∨ d < 0) :
    min4 (ratDown a c) (ratDown a d) (ratDown b c) (ratDown b d) ≤ ratDown x y ∧ ratUp x y ≤ max4 (ratUp a c) (ratUp a d) (ratUp b c) (ratUp b d) := by
  have m1 := min4_le (ratDown a c) (ratDown a d) (ratDown b c) (ratDown b d)
  have m2 := le_max4 (ratUp a c) (ratUp a d) (ratUp b c) (ratUp b d)
  have key : ∀ (p q : Int), 0 < q → downZ p q * q ≤ p ∧ p < (downZ p q + 1) * q := fun p q hq => ⟨down_mul p q hq, by
    unfold downZ
    have h1 := Int.mul_ediv_add_emod p q
    have h2 := Int.emod_lt_of_pos p hq
    have h3 : (p / q + 1) * q = q * (p / q) + q := by rw [Int.add_mul, Int.mul_comm]; omega
    omega⟩
  -- down: p / q for p from P on, q between two numbers
  have dn : ∀ (P p q lo hi : Int), 0 < lo → lo ≤ q → q ≤ hi → P ≤ p → downZ P lo ≤ downZ p q ∨ downZ P hi ≤ downZ p q := fun P p q lo hi h0 hl hh hp => by
    by_cases c : 0 ≤ P
    · right
      refine Int.le_ediv_of_mul_le (by omega) ?_
      have k0 : 0 ≤ downZ P hi := Int.ediv_nonneg c (by omega)
      have k1 := down_mul P hi (by omega)
      have k2 := Int.mul_le_mul_of_nonneg_left hh k0
      omega
    · left
      refine Int.le_ediv_of_mul_le (by omega) ?_
      have k1 := down_mul P lo (by omega)
      have k0 : downZ P lo < 0 := Int.ediv_neg_of_neg_of_pos (by omega) h0
      have k2 := Int.mul_le_mul_of_nonpos_left (show downZ P lo ≤ 0 by omega) hl
      omega
  have up : ∀ (P p q lo hi : Int), 0 < lo → lo ≤ q → q ≤ hi → p ≤ P → upZ p q ≤ upZ P lo ∨ upZ p q ≤ upZ P hi := fun P p q lo hi h0 hl hh hp => by
    have := dn (-P) (-p) q lo hi h0 hl hh (by omega)
    unfold downZ at this
    unfold upZ
    omega
  rcases hs with hs | hs
  · have dd : ∀ y z, 0 < z → ratDown y z = downZ (y * 4294967296) z := fun y z hz => by unfold ratDown; rw [if_neg (by omega)]
    have uu : ∀ y z, 0 < z → ratUp y z = upZ (y * 4294967296) z := fun y z hz => by unfold ratUp; rw [if_neg (by omega)]
    rw [dd a c hs, dd a d (by omega), dd b c hs, dd b d (by omega)] at m1 ⊢
    rw [uu a c hs, uu a d (by omega), uu b c hs, uu b d (by omega)] at m2 ⊢
    rw [dd x y (by omega), uu x y (by omega)]
    have q1 := dn (a * 4294967296) (x * 4294967296) y c d hs h3 h4 (by omega)
    have q2 := up (b * 4294967296) (x * 4294967296) y c d hs h3 h4 (by omega)
    omega
  · have dd : ∀ y z, z < 0 → ratDown y z = downZ (-y * 4294967296) (-z) := fun y z hz => by unfold ratDown; rw [if_pos (by omega)]
    have uu : ∀ y z, z < 0 → ratUp y z = upZ (-y * 4294967296) (-z) := fun y z hz => by unfold ratUp; rw [if_pos (by omega)]
    rw [dd a c (by omega), dd a d (by omega), dd b c (by omega), dd b d (by omega)] at m1 ⊢
    rw [uu a c (by omega), uu a d (by omega), uu b c (by omega), uu b d (by omega)] at m2 ⊢
    rw [dd x y (by omega), uu x y (by omega)]
    have q1 := dn (-b * 4294967296) (-x * 4294967296) (-y) (-d) (-c) (by omega) (by omega) (by omega) (by omega)
    have q2 := up (-a * 4294967296) (-x * 4294967296) (-y) (-d) (-c) (by omega) (by omega) (by omega) (by omega)
    omega
theorem div_mono {a a' b b' : Sp} (ha : Nw a a') (hb : Nw b b') : Mo (divR a b) (divR a' b') := fun z => by
  have z2 := z
  unfold divR at z2
  split at z2
  · rename_i k
    split at z2
    · exact absurd z2 (by simp [errR])
    · rename_i k2
      have e' : divR a' b' = fitR (min4 (ratDown a'.lo b'.lo) (ratDown a'.lo b'.hi) (ratDown a'.hi b'.lo) (ratDown a'.hi b'.hi)) (max4 (ratUp a'.lo b'.lo) (ratUp a'.lo b'.hi) (ratUp a'.hi b'.lo) (ratUp a'.hi b'.hi)) := by
        unfold divR
        rw [if_pos k, if_neg k2]
      have la := nw_le ha
      have lb := nw_le hb
      obtain ⟨oa, ha⟩ := ha
      obtain ⟨ob, hb⟩ := hb
      unfold Wi at ha hb
      simp only [Bool.and_eq_true, decide_eq_true_eq, not_and] at k2
      have hs : 0 < b'.lo ∨ b'.hi < 0 := by
        by_cases c : b'.lo ≤ 0
        · exact .inr (by have := k2 c; omega)
        · exact .inl (by omega)
      have e : divR a b = fitR (min4 (ratDown a.lo b.lo) (ratDown a.lo b.hi) (ratDown a.hi b.lo) (ratDown a.hi b.hi)) (max4 (ratUp a.lo b.lo) (ratUp a.lo b.hi) (ratUp a.hi b.lo) (ratUp a.hi b.hi)) := by
        unfold divR
        rw [if_pos (by rw [oa, ob]; rfl), if_neg (by simp; omega)]
      rw [e'] at z ⊢
      rw [e]
      have c1 := quo_corner (a := a'.lo) (b := a'.hi) (c := b'.lo) (d := b'.hi) (x := a.lo) (y := b.lo) ha.1 (by omega) hb.1 (by omega) hs
      have c2 := quo_corner (a := a'.lo) (b := a'.hi) (c := b'.lo) (d := b'.hi) (x := a.lo) (y := b.hi) ha.1 (by omega) (by omega) hb.2 hs
      have c3 := quo_corner (a := a'.lo) (b := a'.hi) (c := b'.lo) (d := b'.hi) (x := a.hi) (y := b.lo) (by omega) ha.2 hb.1 (by omega) hs
      have c4 := quo_corner (a := a'.lo) (b := a'.hi) (c := b'.lo) (d := b'.hi) (x := a.hi) (y := b.hi) (by omega) ha.2 (by omega) hb.2 hs
      refine fit_mono (le_min4 c1.1 c2.1 c3.1 c4.1) (max4_le c1.2 c2.2 c3.2 c4.2) ?_ z
      have m1 := min4_le (ratDown a.lo b.lo) (ratDown a.lo b.hi) (ratDown a.hi b.lo) (ratDown a.hi b.hi)
      have m2 := le_max4 (ratUp a.lo b.lo) (ratUp a.lo b.hi) (ratUp a.hi b.lo) (ratUp a.hi b.hi)
      have := rat_mono (x := a.lo) (z := b.lo) (by omega)
      omega
  · exact absurd z2 (by simp [errR])
theorem root_mono {a a' : Sp} (h : Nw a a') (hn : (rootR a').e = 0 → a'.hi ≤ 9223372036854775807) (hp : 0 ≤ a.hi) : Mo (rootR a) (rootR a') := fun z => by
  obtain ⟨k', n', e'⟩ := root_zero z
  have e : rootR a = ⟨⟨rootZ (imax a.lo 0 * 4294967296), rootUp (a.hi * 4294967296)⟩, 0⟩ := by
    unfold rootR
    rw [h.1, if_pos rfl, if_neg (by omega)]
  have z1 : (rootR a).e = 0 := by rw [e]
  have hm := hn z
  have := h.2.2
  obtain ⟨r0, r1⟩ := root_ord z1 (by omega)
  exact ⟨z1, nw_ok (by omega) r1, root_wi h.2 z1 z hm⟩
theorem fold_mono {α : Type} (f : α → Res) (Q : α → α → Prop) (hf : ∀ x y, Q x y → Mo (f x) (f y)) : ∀ (l l' : List α) (s s' : Sp), All2 Q l l' → Nw s s' → Mo (foldR f s l) (foldR f s' l')
  | [], [], _, _, _, h => fun _ => ⟨rfl, h⟩
  | x :: l, y :: l', s, s', .cons q r, h => fun z => by
    obtain ⟨b1, b2, b3⟩ := fold_zero z
    rw [b3] at z ⊢
    obtain ⟨a1, a2⟩ := hf x y q b1
    obtain ⟨c1, c2⟩ := add_mono h a2 b2
    have e : foldR f s (x :: l) = foldR f (addR s (f x).s).s l := by
      show (if (f x).e = 0 then (if (addR s (f x).s).e = 0 then foldR f (addR s (f x).s).s l else errR (addR s (f x).s).e) else errR (f x).e) = _
      rw [if_pos a1, if_pos c1]
    rw [e]
    exact fold_mono f Q hf l l' _ _ r c2 z
theorem fold_nonneg {α : Type} (f : α → Res) (hf : ∀ x, (f x).e = 0 → 0 ≤ (f x).s.hi) : ∀ (l : List α) (s : Sp), 0 ≤ s.hi → (foldR f s l).e = 0 → 0 ≤ (foldR f s l).s.hi
  | [], _, h, _ => h
  | x :: l, s, h, h1 => by
    obtain ⟨a1, a2, a3⟩ := fold_zero h1
    rw [a3] at h1 ⊢
    refine fold_nonneg f hf l _ ?_ h1
    rw [(add_zero a2).2.2]
    have := hf x a1
    show 0 ≤ s.hi + (f x).s.hi
    omega
theorem square_nonneg {a : Sp} (h : (squareR a).e = 0) : 0 ≤ (squareR a).s.hi := by
  have l := ok_le (square_zero h).1
  have := (square_has (x := a.lo) ⟨Int.le_refl _, l⟩ h).2
  have := sq_nonneg a.lo
  omega
def NwB (b c : Bx) : Prop := Nw b.x c.x ∧ Nw b.y c.y ∧ Nw b.z c.z
theorem NwB.ok {b c : Bx} (h : NwB b c) : b.okB = true := by
  unfold Bx.okB
  rw [h.1.1, h.2.1.1, h.2.2.1]
  rfl
theorem nwB_refl {b : Bx} (h : b.okB = true) : NwB b b := by
  unfold Bx.okB at h
  simp only [Bool.and_eq_true] at h
  exact ⟨⟨h.1.1, Wi.refl _⟩, ⟨h.1.2, Wi.refl _⟩, ⟨h.2, Wi.refl _⟩⟩
theorem norm_mono {b c : Bx} (h : NwB b c) : Mo (normR b.list) (normR c.list) := fun z => by
  obtain ⟨b1, b2⟩ := norm_zero z
  have hl : All2 Nw b.list c.list := .cons h.1 (.cons h.2.1 (.cons h.2.2 .nil))
  obtain ⟨c1, c2⟩ := fold_mono squareR Nw (fun x y q => square_mono q) b.list c.list z0 z0 hl ⟨by decide, Wi.refl _⟩ b1
  have e : normR b.list = rootR (foldR squareR z0 b.list).s := by
    unfold normR
    rw [if_pos (by show 3 ≤ 64; decide), if_pos (by rw [list_ok]; exact h.ok), if_pos c1]
  rw [b2] at z ⊢
  rw [e]
  exact root_mono c2 (fun _ => fold_num squareR c.list z0 (by decide) b1) (fold_nonneg squareR (fun x => square_nonneg) b.list z0 (by decide) c1) z
end Go.Proofs.YtkeifgcncmilmaaGreat
namespace Go.Proofs.YtkeifgcncmilmaaGreat
set_option maxRecDepth 100000
theorem do_zero3 {e : Int} {r : Res} (h : (doR e r).e = 0) : e = 0 ∧ r.e = 0 := by
  unfold doR at h
  split at h
  · rename_i k
    exact ⟨k, h⟩
  · rename_i k
    exact absurd h k
/-- One operation of a row that keeps errors. -/
theorem do_mo {e e' : Int} {r r' : Res} (he : e = 0) (he' : e' = 0) (h : Mo r r') (z : r'.e = 0) : (doR e r).e = 0 ∧ Nw (doR e r).s (doR e' r').s := by
  subst he he'
  rw [doR_ok, doR_ok]
  exact h z
def BMo (o o' : BRes) : Prop := o'.e = 0 → o.e = 0 ∧ NwB o.b o'.b
theorem eachR_zero {f : Sp → Sp → Res} {e : Int} {a b : Bx} (h : (eachR f e a b).e = 0) : e = 0 ∧ (f a.x b.x).e = 0 ∧ (f a.y b.y).e = 0 ∧ (f a.z b.z).e = 0 := by
  obtain ⟨h1, h2⟩ := do_zero3 (show (doR (each2 f e a b).e (f a.z b.z)).e = 0 from h)
  obtain ⟨h3, h4⟩ := do_zero3 (show (doR (each1 f e a b).e (f a.y b.y)).e = 0 from h1)
  obtain ⟨h5, h6⟩ := do_zero3 (show (doR e (f a.x b.x)).e = 0 from h3)
  exact ⟨h5, h6, h4, h2⟩
theorem each_mo {f : Sp → Sp → Res} (hf : ∀ {a a' b b' : Sp}, Nw a a' → Nw b b' → Mo (f a b) (f a' b')) {e e' : Int} {a a' b b' : Bx} (he : e = 0) (he' : e' = 0) (ha : NwB a a') (hb : NwB b b') (z : (eachR f e' a' b').e = 0) : (eachR f e a b).e = 0 ∧ NwB (eachR f e a b).b (eachR f e' a' b').b := by
  obtain ⟨-, z1, z2, z3⟩ := eachR_zero z
  obtain ⟨x1, n1⟩ := hf ha.1 hb.1 z1
  obtain ⟨x2, n2⟩ := hf ha.2.1 hb.2.1 z2
  obtain ⟨x3, n3⟩ := hf ha.2.2 hb.2.2 z3
  subst he he'
  rw [eachR_th, eachR_th, th_zero _ _ _ x1 x2 x3, th_zero _ _ _ z1 z2 z3]
  exact ⟨rfl, n1, n2, n3⟩
theorem nw_refl {a : Sp} (h : a.okB = true) : Nw a a := ⟨h, Wi.refl _⟩
theorem nw_ones {a b : Sp} (h : Nw a b) : NwB (ones a) (ones b) := ⟨h, h, h⟩
theorem scale_mono {a a' : Sp} (n : Int) (h : Nw a a') : Mo (scaleR a n) (scaleR a' n) := fun z => by
  have z2 := z
  unfold scaleR at z2
  split at z2
  · rename_i k
    have e' : scaleR a' n = fitR (imin (a'.lo * n) (a'.hi * n)) (imax (a'.lo * n) (a'.hi * n)) := by unfold scaleR; rw [if_pos k]
    have e : scaleR a n = fitR (imin (a.lo * n) (a.hi * n)) (imax (a.lo * n) (a.hi * n)) := by unfold scaleR; rw [h.1]; rfl
    rw [e'] at z ⊢
    rw [e]
    have l := nw_le h
    have l' := ok_le k
    obtain ⟨-, w1, w2⟩ := h
    have c1 := mid_mul n w1 (Int.le_trans l w2)
    have c2 := mid_mul n (Int.le_trans w1 l) w2
    refine fit_mono ?_ ?_ ?_ z
    · unfold imin
      (repeat' split) <;> omega
    · unfold imax
      (repeat' split) <;> omega
    · unfold imin imax
      (repeat' split) <;> omega
  · exact absurd z2 (by decide)
theorem whole_ok (n : Int) (h : -4 ≤ n) : (wholeS n).okB = true := nw_ok (by unfold wholeS; simp only; omega) (Int.le_refl _)
/-! The factors of an oblate planet. -/
theorem shape_mo {p : Planet} {r r' up up' : Sp} {e e' : Int} (hp1 : p.radius.okB = true) (hp2 : p.oblate.okB = true) (he : e = 0) (hr : Nw r r') (hu : Nw up up') (z : (shapeR p r' up' e').e = 0) : (shapeR p r up e).e = 0 ∧ NwB (shapeR p r up e).b (shapeR p r' up' e').b := by
  unfold shapeR at *
  split at z
  · rename_i k
    rw [if_pos k, if_pos k]
    exact ⟨he, nw_ones (nw_refl (whole_ok 1 (by omega)))⟩
  · rename_i k
    rw [if_neg k, if_neg k]
    obtain ⟨z10, y11⟩ := do_zero3 (show (sh11 p r' up' e').e = 0 from z)
    obtain ⟨z9, y10⟩ := do_zero3 (show (sh10 p r' up' e').e = 0 from z10)
    obtain ⟨z8, y9⟩ := do_zero3 (show (sh9 p r' up' e').e = 0 from z9)
    obtain ⟨z7, y8⟩ := do_zero3 (show (sh8 p r' up' e').e = 0 from z8)
    obtain ⟨z6, y7⟩ := do_zero3 (show (sh7 p r' up' e').e = 0 from z7)
    obtain ⟨z5, y6⟩ := do_zero3 (show (sh6 p r' up' e').e = 0 from z6)
    obtain ⟨z4, y5⟩ := do_zero3 (show (sh5 p r' up' e').e = 0 from z5)
    obtain ⟨z3, y4⟩ := do_zero3 (show (sh4 p r' up' e').e = 0 from z4)
    obtain ⟨z2, y3⟩ := do_zero3 (show (sh3 p r' e').e = 0 from z3)
    obtain ⟨z1, y2⟩ := do_zero3 (show (sh2 p r' e').e = 0 from z2)
    obtain ⟨z0, y1⟩ := do_zero3 (show (sh1 p r' e').e = 0 from z1)
    have a1 : (sh1 p r e).e = 0 ∧ Nw (sh1 p r e).s (sh1 p r' e').s := do_mo he z0 (div_mono (nw_refl hp1) hr) y1
    have a2 : (sh2 p r e).e = 0 ∧ Nw (sh2 p r e).s (sh2 p r' e').s := do_mo a1.1 z1 (square_mono a1.2) y2
    have a3 : (sh3 p r e).e = 0 ∧ Nw (sh3 p r e).s (sh3 p r' e').s := do_mo a2.1 z2 (mul_mono (nw_refl hp2) a2.2) y3
    have a4 : (sh4 p r up e).e = 0 ∧ Nw (sh4 p r up e).s (sh4 p r' up' e').s := do_mo a3.1 z3 (square_mono hu) y4
    have a5 : (sh5 p r up e).e = 0 ∧ Nw (sh5 p r up e).s (sh5 p r' up' e').s := do_mo a4.1 z4 (scale_mono 5 a4.2) y5
    have a6 : (sh6 p r up e).e = 0 ∧ Nw (sh6 p r up e).s (sh6 p r' up' e').s := do_mo a5.1 z5 (sub_mono (nw_refl (whole_ok 1 (by omega))) a5.2) y6
    have a7 : (sh7 p r up e).e = 0 ∧ Nw (sh7 p r up e).s (sh7 p r' up' e').s := do_mo a6.1 z6 (mul_mono a3.2 a6.2) y7
    have a8 : (sh8 p r up e).e = 0 ∧ Nw (sh8 p r up e).s (sh8 p r' up' e').s := do_mo a7.1 z7 (add_mono (nw_refl (whole_ok 1 (by omega))) a7.2) y8
    have a9 : (sh9 p r up e).e = 0 ∧ Nw (sh9 p r up e).s (sh9 p r' up' e').s := do_mo a8.1 z8 (sub_mono (nw_refl (whole_ok 3 (by omega))) a5.2) y9
    have a10 : (sh10 p r up e).e = 0 ∧ Nw (sh10 p r up e).s (sh10 p r' up' e').s := do_mo a9.1 z9 (mul_mono a3.2 a9.2) y10
    have a11 : (sh11 p r up e).e = 0 ∧ Nw (sh11 p r up e).s (sh11 p r' up' e').s := do_mo a10.1 z10 (add_mono (nw_refl (whole_ok 1 (by omega))) a10.2) y11
    exact ⟨a11.1, a8.2, a8.2, a11.2⟩
structure PlOk (p : Planet) : Prop where
  mu : p.mu.okB = true
  radius : p.radius.okB = true
  oblate : p.oblate.okB = true
  spin : p.spin.okB = true
  pull : NwB p.pull p.pull
theorem PlOk.of {p : Planet} (h : p.okB = true) : PlOk p := by
  unfold Planet.okB at h
  simp only [Bool.and_eq_true] at h
  exact ⟨h.1.1.2.1.1.1, h.1.1.2.1.1.2, h.1.1.2.1.2, h.1.1.2.2, nwB_refl h.1.1.1⟩
theorem pull_mo {p : Planet} {q q' : Bx} {r r' : Sp} {e e' : Int} (hp : PlOk p) (he : e = 0) (hq : NwB q q') (hr : Nw r r') (z : (pullF p q' r' e').e = 0) : (pullF p q r e).e = 0 ∧ NwB (pullF p q r e).b (pullF p q' r' e').b := by
  have z1 : (attR p q' r' e').e = 0 := (eachR_zero z).1
  have z2 : (atM p q' r' e').e = 0 := (eachR_zero z1).1
  have z3 : (atN p q' r' e').e = 0 := (eachR_zero z2).1
  have z4 : (atT p q' r' e').e = 0 := by
    have z3 := z3
    unfold atN shapeR at z3
    split at z3
    · exact z3
    · by_cases c : (atT p q' r' e').e = 0
      · exact c
      · rename_i k
        have := shape_bad p r' (atU q' r' e').b.z c
        unfold shapeR at this
        rw [if_neg k] at this
        exact absurd (this.symm.trans z3) c
  obtain ⟨z5, y4⟩ := do_zero3 (show (atT p q' r' e').e = 0 from z4)
  obtain ⟨z6, y5⟩ := do_zero3 (show (atS p q' r' e').e = 0 from z5)
  have z7 := (eachR_zero z6).1
  have a1 : (atU q r e).e = 0 ∧ NwB (atU q r e).b (atU q' r' e').b := each_mo div_mono he z7 hq (nw_ones hr) z6
  have a2 : (atS p q r e).e = 0 ∧ Nw (atS p q r e).s (atS p q' r' e').s := do_mo a1.1 z6 (div_mono (nw_refl hp.mu) hr) y5
  have a3 : (atT p q r e).e = 0 ∧ Nw (atT p q r e).s (atT p q' r' e').s := do_mo a2.1 z5 (div_mono a2.2 hr) y4
  have a4 : (atN p q r e).e = 0 ∧ NwB (atN p q r e).b (atN p q' r' e').b := shape_mo hp.radius hp.oblate a3.1 hr a1.2.2.2 z3
  have a5 : (atM p q r e).e = 0 ∧ NwB (atM p q r e).b (atM p q' r' e').b := each_mo mul_mono a4.1 z3 (nw_ones a3.2) a1.2 z2
  have a6 : (attR p q r e).e = 0 ∧ NwB (attR p q r e).b (attR p q' r' e').b := each_mo mul_mono a5.1 z2 a5.2 a4.2 z1
  exact each_mo sub_mono a6.1 z1 hp.pull a6.2 z
theorem spin_mo {w : Sp} {q q' v v' : Bx} {o o' : BRes} (hw : w.okB = true) (hq : NwB q q') (hv : NwB v v') (ho : BMo o o') : BMo (spinR w q v o) (spinR w q' v' o') := fun z => by
  unfold spinR at *
  split at z
  · rename_i k
    rw [if_pos k, if_pos k]
    exact ho z
  · rename_i k
    rw [if_neg k, if_neg k]
    obtain ⟨y4, x5⟩ := do_zero3 (show (spB5 w q' v' o').e = 0 from z)
    obtain ⟨y3, x4⟩ := do_zero3 (show (spB4 w q' v' o').e = 0 from y4)
    obtain ⟨y2, x3⟩ := do_zero3 (show (spB3 w q' v' o').e = 0 from y3)
    obtain ⟨y1, x2⟩ := do_zero3 (show (spB2 w q' v' o').e = 0 from y2)
    obtain ⟨t5, x1⟩ := do_zero3 (show (spB1 w q' v' o').e = 0 from y1)
    obtain ⟨t4, s5⟩ := do_zero3 (show (spA5 w q' v' o').e = 0 from t5)
    obtain ⟨t3, s4⟩ := do_zero3 (show (spA4 w q' v' o').e = 0 from t4)
    obtain ⟨t2, s3⟩ := do_zero3 (show (spA3 w v' o').e = 0 from t3)
    obtain ⟨t1, s2⟩ := do_zero3 (show (spA2 w v' o').e = 0 from t2)
    obtain ⟨t0, s1⟩ := do_zero3 (show (spA1 w v' o').e = 0 from t1)
    obtain ⟨oz, s0⟩ := do_zero3 (show (spE w o').e = 0 from t0)
    obtain ⟨o1, o2⟩ := ho oz
    have a0 : (spE w o).e = 0 ∧ Nw (spE w o).s (spE w o').s := do_mo o1 oz (square_mono (nw_refl hw)) s0
    have a1 : (spA1 w v o).e = 0 ∧ Nw (spA1 w v o).s (spA1 w v' o').s := do_mo a0.1 t0 (mul_mono (nw_refl hw) hv.2.1) s1
    have a2 : (spA2 w v o).e = 0 ∧ Nw (spA2 w v o).s (spA2 w v' o').s := do_mo a1.1 t1 (scale_mono 2 a1.2) s2
    have a3 : (spA3 w v o).e = 0 ∧ Nw (spA3 w v o).s (spA3 w v' o').s := do_mo a2.1 t2 (add_mono o2.1 a2.2) s3
    have a4 : (spA4 w q v o).e = 0 ∧ Nw (spA4 w q v o).s (spA4 w q' v' o').s := do_mo a3.1 t3 (mul_mono a0.2 hq.1) s4
    have a5 : (spA5 w q v o).e = 0 ∧ Nw (spA5 w q v o).s (spA5 w q' v' o').s := do_mo a4.1 t4 (add_mono a3.2 a4.2) s5
    have b1 : (spB1 w q v o).e = 0 ∧ Nw (spB1 w q v o).s (spB1 w q' v' o').s := do_mo a5.1 t5 (mul_mono (nw_refl hw) hv.1) x1
    have b2 : (spB2 w q v o).e = 0 ∧ Nw (spB2 w q v o).s (spB2 w q' v' o').s := do_mo b1.1 y1 (scale_mono 2 b1.2) x2
    have b3 : (spB3 w q v o).e = 0 ∧ Nw (spB3 w q v o).s (spB3 w q' v' o').s := do_mo b2.1 y2 (sub_mono o2.2.1 b2.2) x3
    have b4 : (spB4 w q v o).e = 0 ∧ Nw (spB4 w q v o).s (spB4 w q' v' o').s := do_mo b3.1 y3 (mul_mono a0.2 hq.2.1) x4
    have b5 : (spB5 w q v o).e = 0 ∧ Nw (spB5 w q v o).s (spB5 w q' v' o').s := do_mo b4.1 y4 (add_mono b3.2 b4.2) x5
    exact ⟨b5.1, a5.2, b5.2, o2.2.2⟩
structure ArOk (x : Arc) : Prop where
  thrust : x.thrust.okB = true
  dir : NwB x.dir x.dir
theorem thrust_mo {x : Arc} {m m' : Sp} {o o' : BRes} (hx : ArOk x) (hm : Nw m m') (ho : BMo o o') : BMo (thrustF x m o) (thrustF x m' o') := fun z => by
  unfold thrustF at *
  split at z
  · rename_i k
    rw [if_pos k, if_pos k]
    exact ho z
  · rename_i k
    rw [if_neg k, if_neg k]
    have z1 : (tuM x m' o').e = 0 := (eachR_zero z).1
    have z2 : (tuT x m' o').e = 0 := (eachR_zero z1).1
    obtain ⟨oz, s0⟩ := do_zero3 (show (tuT x m' o').e = 0 from z2)
    obtain ⟨o1, o2⟩ := ho oz
    have a1 : (tuT x m o).e = 0 ∧ Nw (tuT x m o).s (tuT x m' o').s := do_mo o1 oz (div_mono (nw_refl hx.thrust) hm) s0
    have a2 : (tuM x m o).e = 0 ∧ NwB (tuM x m o).b (tuM x m' o').b := each_mo mul_mono a1.1 z2 (nw_ones a1.2) hx.dir z1
    exact each_mo add_mono a2.1 z1 o2 a2.2 z
theorem drag_mo {p : Planet} {l : List Pt} {v v' : Bx} {m m' r r' : Sp} {o o' : BRes} (hl : ∀ {a a' : Sp}, Nw a a' → Mo (lookR l a) (lookR l a')) (hp : PlOk p) (hv : NwB v v') (hm : Nw m m') (hr : !l.isEmpty → o'.e = 0 → Nw r r') (ho : BMo o o') : BMo (dragF p l v m r o) (dragF p l v' m' r' o') := fun z => by
  unfold dragF at *
  split at z
  · rename_i k
    rw [if_pos k, if_pos k]
    exact ho z
  · rename_i k
    rw [if_neg k, if_neg k]
    have z1 : (drM p l v' m' r' o').e = 0 := (eachR_zero z).1
    have z2 : (drX p l v' m' r' o').e = 0 := (eachR_zero z1).1
    obtain ⟨z3, y2⟩ := do_zero3 (show (drX p l v' m' r' o').e = 0 from z2)
    obtain ⟨z4, y3⟩ := do_zero3 (show (drS p l v' m' r' o').e = 0 from z3)
    obtain ⟨z5, y4⟩ := do_zero3 (show (drB p l m' r' o').e = 0 from z4)
    obtain ⟨z6, y5⟩ := do_zero3 (show (drL p l r' o').e = 0 from z5)
    obtain ⟨oz, y6⟩ := do_zero3 (show (drH p r' o').e = 0 from z6)
    obtain ⟨o1, o2⟩ := ho oz
    have hr := hr (by simpa using k) oz
    have a1 : (drH p r o).e = 0 ∧ Nw (drH p r o).s (drH p r' o').s := do_mo o1 oz (sub_mono hr (nw_refl hp.radius)) y6
    have a2 : (drL p l r o).e = 0 ∧ Nw (drL p l r o).s (drL p l r' o').s := do_mo a1.1 z6 (hl a1.2) y5
    have a3 : (drB p l m r o).e = 0 ∧ Nw (drB p l m r o).s (drB p l m' r' o').s := do_mo a2.1 z5 (div_mono a2.2 hm) y4
    have a4 : (drS p l v m r o).e = 0 ∧ Nw (drS p l v m r o).s (drS p l v' m' r' o').s := do_mo a3.1 z4 (norm_mono hv) y3
    have a5 : (drX p l v m r o).e = 0 ∧ Nw (drX p l v m r o).s (drX p l v' m' r' o').s := do_mo a4.1 z3 (mul_mono a3.2 a4.2) y2
    have a6 : (drM p l v m r o).e = 0 ∧ NwB (drM p l v m r o).b (drM p l v' m' r' o').b := each_mo mul_mono a5.1 z2 (nw_ones a5.2) hv z1
    exact each_mo sub_mono a6.1 z1 o2 a6.2 z
theorem frN_mo {p : Planet} {l : List Pt} {q q' : Bx} (hq : NwB q q') : Mo (frN p l q 0) (frN p l q' 0) := fun z => by
  unfold frN at *
  split at z
  · rename_i k
    rw [if_pos k, if_pos k]
    rw [doR_ok] at *
    rw [doR_ok]
    exact norm_mono hq z
  · rename_i k
    rw [if_neg k, if_neg k]
    exact ⟨rfl, by decide, Wi.refl _⟩
/-- The force of less is within that of more. -/
theorem force_mo {p : Planet} {x : Arc} {l : List Pt} {q q' v v' : Bx} {m m' : Sp} (hl : ∀ {a a' : Sp}, Nw a a' → Mo (lookR l a) (lookR l a')) (hp : PlOk p) (hx : ArOk x) (hq : NwB q q') (hv : NwB v v') (hm : Nw m m') : BMo (forceF p x l q v m 0) (forceF p x l q' v' m' 0) := by
  have hN := frN_mo (p := p) (l := l) hq
  have zN : (frPF p l q' 0).e = 0 → (frN p l q' 0).e = 0 := fun z => by
    by_cases c : (frN p l q' 0).e = 0
    · exact c
    · have : (frPF p l q' 0).e = (frN p l q' 0).e := by
        unfold frPF
        split
        · rfl
        · exact pullF_bad _ _ _ c
      exact this ▸ z
  have h1 : BMo (frPF p l q 0) (frPF p l q' 0) := fun z => by
    obtain ⟨n1, n2⟩ := hN (zN z)
    unfold frPF at *
    split at z
    · rename_i k
      rw [if_pos k, if_pos k]
      exact ⟨n1, hp.pull⟩
    · rename_i k
      rw [if_neg k, if_neg k]
      exact pull_mo hp n1 hq n2 z
  have h2 : BMo (frSF p l q v 0) (frSF p l q' v' 0) := spin_mo hp.spin hq hv h1
  have h3 : BMo (frTF p x l q v m 0) (frTF p x l q' v' m' 0) := thrust_mo hx hm h2
  refine drag_mo hl hp hv hm (fun _ oz => ?_) h3
  refine (hN (zN ?_)).2
  by_cases c : (frPF p l q' 0).e = 0
  · exact c
  · have e1 : (frSF p l q' v' 0).e = (frPF p l q' 0).e := spin_bad _ _ _ c
    have e2 : (frTF p x l q' v' m' 0).e = (frSF p l q' v' 0).e := thrustF_bad _ _ (by rw [e1]; exact c)
    exact absurd (e1.symm.trans (e2.symm.trans oz)) c
end Go.Proofs.YtkeifgcncmilmaaGreat
namespace Go.Proofs.YtkeifgcncmilmaaGreat
set_option maxRecDepth 100000
theorem least_le : ∀ (l : List Int) (a b : Int), b ∈ a :: l → least a l ≤ b
  | [], a, b, h => by simp at h; subst h; exact Int.le_refl _
  | c :: l, a, b, h => by
    show least (imin a c) l ≤ b
    have hi := least_le l (imin a c)
    have h0 := hi (imin a c) (by simp)
    rcases List.mem_cons.1 h with rfl | h
    · refine Int.le_trans h0 ?_
      unfold imin
      split <;> omega
    · rcases List.mem_cons.1 h with rfl | h
      · refine Int.le_trans h0 ?_
        unfold imin
        split <;> omega
      · exact hi b (List.mem_cons.2 (.inr h))
theorem le_least : ∀ (l : List Int) (a x : Int), (∀ b ∈ a :: l, x ≤ b) → x ≤ least a l
  | [], a, x, h => h a (by simp)
  | c :: l, a, x, h => by
    show x ≤ least (imin a c) l
    refine le_least l (imin a c) x fun b hb => ?_
    rcases List.mem_cons.1 hb with rfl | hb
    · unfold imin
      split
      · exact h _ (by simp)
      · exact h _ (by simp)
    · exact h b (by simp [hb])
theorem le_most : ∀ (l : List Int) (a b : Int), b ∈ a :: l → b ≤ most a l
  | [], a, b, h => by simp at h; subst h; exact Int.le_refl _
  | c :: l, a, b, h => by
    show b ≤ most (imax a c) l
    have hi := le_most l (imax a c)
    have h0 := hi (imax a c) (by simp)
    rcases List.mem_cons.1 h with rfl | h
    · refine Int.le_trans ?_ h0
      unfold imax
      split <;> omega
    · rcases List.mem_cons.1 h with rfl | h
      · refine Int.le_trans ?_ h0
        unfold imax
        split <;> omega
      · exact hi b (List.mem_cons.2 (.inr h))
theorem most_le : ∀ (l : List Int) (a x : Int), (∀ b ∈ a :: l, b ≤ x) → most a l ≤ x
  | [], a, x, h => h a (by simp)
  | c :: l, a, x, h => by
    show most (imax a c) l ≤ x
    refine most_le l (imax a c) x fun b hb => ?_
    rcases List.mem_cons.1 hb with rfl | hb
    · unfold imax
      split
      · exact h _ (by simp)
      · exact h _ (by simp)
    · exact h b (by simp [hb])
section
variable {l : List Pt} (ht : tableB l = true)
include ht
theorem places_lt : ∀ (k j : Nat) (hk : k < l.length) (hj : j < k), (l[j]'(by omega)).place < l[k].place
  | 0, j, hk, hj => by omega
  | k + 1, j, hk, hj => by
    have h := (table_facts ht).2.2.2 k hk
    by_cases e : j = k
    · subst e
      exact h
    · exact Int.lt_trans (places_lt k j (by omega) (by omega)) h
/-- At a point of the table stands its value. -/
theorem line_at (up : Bool) (k : Nat) (hk : k < l.length) : lineR l up l[k].place = (bnd up l[k].value, bnd up l[k].value) := by
  have hi : idxT l[k].place l = k := idxT_is (by omega) (fun j hj hjk => places_lt ht k j hk hjk) (fun _ => Int.le_refl _)
  cases k with
  | zero => exact lineR_0 hi hk
  | succ k =>
    rw [lineR_i hi hk (by omega)]
    have h := (table_facts ht).2.2.2 k hk
    have s := seg_end (up := up) h
    rw [s.1, s.2]
/-- Between two places of a line lies no less and no more than at one of them. -/
theorem line_between (up : Bool) {a' : Sp} {y : Int} (h1 : a'.lo ≤ y) (h2 : y ≤ a'.hi) :
    (∃ z ∈ placesT l a', (lineR l up z).1 ≤ (lineR l up y).1) ∧ ∃ z ∈ placesT l a', (lineR l up y).2 ≤ (lineR l up z).2 := by
  obtain ⟨hn, -, hp, hs⟩ := table_facts ht
  have mlo : a'.lo ∈ placesT l a' := by unfold placesT; simp
  have mhi : a'.hi ∈ placesT l a' := by unfold placesT; simp
  have mpt : ∀ k (hk : k < l.length), a'.lo ≤ l[k].place → l[k].place ≤ a'.hi → l[k].place ∈ placesT l a' := fun k hk g1 g2 => by
    unfold placesT
    refine List.mem_cons.2 (.inr (List.mem_cons.2 (.inr (List.mem_map.2 ⟨l[k], List.mem_filter.2 ⟨List.getElem_mem hk, ?_⟩, rfl⟩))))
    simp only [Bool.and_eq_true, decide_eq_true_eq]
    exact ⟨g1, g2⟩
  have ile := idxT_le y l
  cases hi : idxT y l with
  | zero =>
    have hab := idxT_above (x := y) (l := l) (by omega)
    simp only [hi] at hab
    have h0 : idxT a'.lo l = 0 := idxT_is (by omega) (fun j _ hj => by omega) (fun _ => by omega)
    rw [lineR_0 hi hn]
    exact ⟨⟨_, mlo, by rw [lineR_0 h0 hn]; exact Int.le_refl _⟩, ⟨_, mlo, by rw [lineR_0 h0 hn]; exact Int.le_refl _⟩⟩
  | succ k =>
    have hbel : ∀ j (hj : j < l.length), j < k + 1 → l[j].place < y := fun j hj hjk => idxT_below j hj (by omega)
    by_cases hk : k + 1 = l.length
    · have h0 : idxT a'.hi l = l.length := idxT_is (by omega) (fun j hj hjk => by have := hbel j hj (by omega); omega) (fun hj => absurd hj (by omega))
      have he : idxT y l = l.length := by omega
      rw [lineR_n he hk.symm (by omega)]
      exact ⟨⟨_, mhi, by rw [lineR_n h0 hk.symm (by omega)]; exact Int.le_refl _⟩, ⟨_, mhi, by rw [lineR_n h0 hk.symm (by omega)]; exact Int.le_refl _⟩⟩
    · have hk1 : k + 1 < l.length := by omega
      have hk0 : k < l.length := by omega
      have hab := idxT_above (x := y) (l := l) (by omega)
      simp only [hi] at hab
      have hb := hbel k hk0 (by omega)
      have hD : 0 < l[k + 1].place - l[k].place := by omega
      have g : ∀ u, l[k].place < u → u ≤ l[k + 1].place → lineR l up u = (bnd up l[k].value + downZ ((bnd up l[k + 1].value - bnd up l[k].value) * (u - l[k].place)) (l[k + 1].place - l[k].place), bnd up l[k].value + upZ ((bnd up l[k + 1].value - bnd up l[k].value) * (u - l[k].place)) (l[k + 1].place - l[k].place)) := fun u u1 u2 =>
        lineR_i (idxT_is (by omega) (fun j hj hjk => by
          by_cases e : j = k
          · subst e; exact u1
          · exact Int.lt_trans (places_lt ht k j hk0 (by omega)) u1) (fun _ => u2)) hk1 hk0
      -- the places to the left and to the right
      have hu : ∃ u ∈ placesT l a', l[k].place ≤ u ∧ u ≤ y ∧ lineR l up u = (bnd up l[k].value + downZ ((bnd up l[k + 1].value - bnd up l[k].value) * (u - l[k].place)) (l[k + 1].place - l[k].place), bnd up l[k].value + upZ ((bnd up l[k + 1].value - bnd up l[k].value) * (u - l[k].place)) (l[k + 1].place - l[k].place)) := by
        by_cases c : a'.lo ≤ l[k].place
        · refine ⟨_, mpt k hk0 c (by omega), Int.le_refl _, by omega, ?_⟩
          rw [line_at ht up k hk0, Int.sub_self, Int.mul_zero]
          unfold downZ upZ
          simp
        · exact ⟨_, mlo, by omega, h1, g _ (by omega) (by omega)⟩
      have hv : ∃ v ∈ placesT l a', y ≤ v ∧ lineR l up v = (bnd up l[k].value + downZ ((bnd up l[k + 1].value - bnd up l[k].value) * (v - l[k].place)) (l[k + 1].place - l[k].place), bnd up l[k].value + upZ ((bnd up l[k + 1].value - bnd up l[k].value) * (v - l[k].place)) (l[k + 1].place - l[k].place)) := by
        by_cases c : l[k + 1].place ≤ a'.hi
        · exact ⟨_, mpt (k + 1) hk1 (by omega) c, hab, g _ (by omega) (Int.le_refl _)⟩
        · exact ⟨_, mhi, h2, g _ (by omega) (by omega)⟩
      obtain ⟨u, mu, -, u2, eu⟩ := hu
      obtain ⟨v, mv, v1, ev⟩ := hv
      rw [g y hb hab]
      generalize bnd up l[k + 1].value - bnd up l[k].value = d at *
      generalize l[k + 1].place - l[k].place = D at *
      generalize bnd up l[k].value = b at *
      generalize l[k].place = P at *
      by_cases hd : 0 ≤ d
      · have m1 := Int.mul_le_mul_of_nonneg_left (show u - P ≤ y - P by omega) hd
        have m2 := Int.mul_le_mul_of_nonneg_left (show y - P ≤ v - P by omega) hd
        have k1 := down_mono D hD m1
        have k2 := up_mono D hD m2
        exact ⟨⟨u, mu, by rw [eu]; show b + _ ≤ b + _; omega⟩, ⟨v, mv, by rw [ev]; show b + _ ≤ b + _; omega⟩⟩
      · have m1 := Int.mul_le_mul_of_nonpos_left (show d ≤ 0 by omega) (show y - P ≤ v - P by omega)
        have m2 := Int.mul_le_mul_of_nonpos_left (show d ≤ 0 by omega) (show u - P ≤ y - P by omega)
        have k1 := down_mono D hD m1
        have k2 := up_mono D hD m2
        exact ⟨⟨v, mv, by rw [ev]; show b + _ ≤ b + _; omega⟩, ⟨u, mu, by rw [eu]; show b + _ ≤ b + _; omega⟩⟩
omit ht in
theorem bnd_le {p : Pt} (h : p.okB = true) : bnd false p.value ≤ bnd true p.value := by
  unfold Pt.okB at h
  simp only [Bool.and_eq_true] at h
  exact ok_le h.1.1.2
/-- The lower line is not above the upper one. -/
theorem line_order (y : Int) : (lineR l false y).1 ≤ (lineR l true y).2 := by
  obtain ⟨hn, -, hp, hs⟩ := table_facts ht
  have ile := idxT_le y l
  cases hi : idxT y l with
  | zero =>
    rw [lineR_0 hi hn, lineR_0 hi hn]
    exact bnd_le (hp 0 hn)
  | succ k =>
    by_cases hk : k + 1 = l.length
    · rw [lineR_n (by omega) hk.symm (by omega), lineR_n (by omega) hk.symm (by omega)]
      exact bnd_le (hp k (by omega))
    · have hk1 : k + 1 < l.length := by omega
      have hk0 : k < l.length := by omega
      have hab := idxT_above (x := y) (l := l) (by omega)
      simp only [hi] at hab
      have hb := idxT_below (x := y) k hk0 (by omega)
      rw [lineR_i hi hk1 hk0, lineR_i hi hk1 hk0]
      have b1 := bnd_le (hp k hk0)
      have b2 := bnd_le (hp (k + 1) hk1)
      generalize bnd false l[k].value = p at *
      generalize bnd true l[k].value = q at *
      generalize bnd false l[k + 1].value = r at *
      generalize bnd true l[k + 1].value = s at *
      generalize l[k].place = P at *
      generalize l[k + 1].place = P' at *
      have hD : 0 < P' - P := by omega
      show p + downZ ((r - p) * (y - P)) (P' - P) ≤ q + upZ ((s - q) * (y - P)) (P' - P)
      have d1 := down_mul ((r - p) * (y - P)) (P' - P) hD
      have d2 := up_mul ((s - q) * (y - P)) (P' - P) hD
      generalize downZ ((r - p) * (y - P)) (P' - P) = A at *
      generalize upZ ((s - q) * (y - P)) (P' - P) = B at *
      have m1 := Int.mul_le_mul_of_nonneg_right b2 (show 0 ≤ y - P by omega)
      have m2 := Int.mul_le_mul_of_nonneg_right b1 (show 0 ≤ P' - y by omega)
      have e1 : (r - p) * (y - P) = r * (y - P) - p * (y - P) := Int.sub_mul _ _ _
      have e2 : (s - q) * (y - P) = s * (y - P) - q * (y - P) := Int.sub_mul _ _ _
      have e3 : p * (P' - P) = p * (P' - y) + p * (y - P) := by rw [← Int.mul_add]; congr 1; omega
      have e4 : q * (P' - P) = q * (P' - y) + q * (y - P) := by rw [← Int.mul_add]; congr 1; omega
      refine Int.le_of_mul_le_mul_right (a := P' - P) ?_ hD
      rw [Int.add_mul, Int.add_mul]
      omega
end
/-- What a table says of less is within what it says of more. -/
theorem look_mono {l : List Pt} {a a' : Sp} (h : Nw a a') : Mo (lookR l a) (lookR l a') := fun z => by
  have z2 := z
  unfold lookR at z2
  split at z2
  · rename_i k
    simp only [Bool.and_eq_true] at k
    have ht := k.1
    have e' : lookR l a' = lookS l a' := by unfold lookR; rw [k.1, k.2]; rfl
    have e : lookR l a = lookS l a := by unfold lookR; rw [k.1, h.1]; rfl
    rw [e'] at z ⊢
    rw [e]
    have hl := nw_le h
    obtain ⟨-, w1, w2⟩ := h
    have inA : ∀ y ∈ placesT l a, a.lo ≤ y ∧ y ≤ a.hi := fun y hy => by
      unfold placesT at hy
      rcases List.mem_cons.1 hy with rfl | hy
      · omega
      · rcases List.mem_cons.1 hy with rfl | hy
        · omega
        · obtain ⟨p, hp, rfl⟩ := List.mem_map.1 hy
          have := (List.mem_filter.1 hp).2
          simp only [Bool.and_eq_true, decide_eq_true_eq] at this
          exact this
    have hd : ∀ s : Sp, placesT l s = s.lo :: (placesT l s).tail := fun s => rfl
    refine fit_mono ?_ ?_ ?_ z
    · refine le_least _ _ _ fun b hb => ?_
      rw [← List.map_cons (f := fun at_ => (lineR l false at_).1), ← hd] at hb
      obtain ⟨y, hy, rfl⟩ := List.mem_map.1 hb
      obtain ⟨i1, i2⟩ := inA y hy
      obtain ⟨⟨z, hz, hle⟩, -⟩ := line_between ht false (a' := a') (y := y) (by omega) (by omega)
      refine Int.le_trans (least_le _ _ _ ?_) hle
      rw [← List.map_cons (f := fun at_ => (lineR l false at_).1), ← hd]
      exact List.mem_map.2 ⟨z, hz, rfl⟩
    · refine most_le _ _ _ fun b hb => ?_
      rw [← List.map_cons (f := fun at_ => (lineR l true at_).2), ← hd] at hb
      obtain ⟨y, hy, rfl⟩ := List.mem_map.1 hb
      obtain ⟨i1, i2⟩ := inA y hy
      obtain ⟨-, z, hz, hle⟩ := line_between ht true (a' := a') (y := y) (by omega) (by omega)
      refine Int.le_trans hle (le_most _ _ _ ?_)
      rw [← List.map_cons (f := fun at_ => (lineR l true at_).2), ← hd]
      exact List.mem_map.2 ⟨z, hz, rfl⟩
    · refine Int.le_trans (least_le _ _ _ (by simp)) (Int.le_trans (line_order ht a.lo) (le_most _ _ _ (by simp)))
  · exact absurd z2 (by decide)
end Go.Proofs.YtkeifgcncmilmaaGreat
namespace Go.Proofs.YtkeifgcncmilmaaGreat
set_option maxRecDepth 100000
/-- A span has a number x/d. -/
def Hs (d : Int) (a : Sp) (x : Int) : Prop := a.lo * d ≤ x ∧ x ≤ a.hi * d
theorem hs_one {a : Sp} {x : Int} (h : a.lo ≤ x) (k : x ≤ a.hi) : Hs 1 a x := by unfold Hs; omega
theorem hs_one' {a : Sp} {x : Int} (h : Hs 1 a x) : a.lo ≤ x ∧ x ≤ a.hi := by unfold Hs at h; omega
theorem hs_wi {d : Int} {a b : Sp} {x : Int} (hd : 0 ≤ d) (h : Hs d a x) (w : Wi a b) : Hs d b x :=
  ⟨Int.le_trans (Int.mul_le_mul_of_nonneg_right w.1 hd) h.1, Int.le_trans h.2 (Int.mul_le_mul_of_nonneg_right w.2 hd)⟩
theorem hs_up {d : Int} {a : Sp} {x : Int} (k : Int) (hk : 0 ≤ k) (h : Hs d a x) : Hs (d * k) a (x * k) := by
  unfold Hs at *
  rw [← Int.mul_assoc, ← Int.mul_assoc]
  exact ⟨Int.mul_le_mul_of_nonneg_right h.1 hk, Int.mul_le_mul_of_nonneg_right h.2 hk⟩
theorem hs_down {d : Int} {a : Sp} {x : Int} (k : Int) (hk : 0 < k) (h : Hs (d * k) a (x * k)) : Hs d a x := by
  unfold Hs at *
  rw [← Int.mul_assoc, ← Int.mul_assoc] at h
  exact ⟨Int.le_of_mul_le_mul_right h.1 hk, Int.le_of_mul_le_mul_right h.2 hk⟩
theorem hs_add {d : Int} {a b : Sp} {x y : Int} (h : Hs d a x) (k : Hs d b y) (z : (addR a b).e = 0) : Hs d (addR a b).s (x + y) := by
  rw [(add_zero z).2.2]
  unfold Hs at *
  simp only [Int.add_mul]
  omega
theorem mul_swap (a b c d : Int) : a * b * (c * d) = a * c * (b * d) := by
  rw [Int.mul_assoc, Int.mul_assoc, ← Int.mul_assoc b, ← Int.mul_assoc c, Int.mul_comm b c]
theorem hs_mul {c d : Int} {a b : Sp} {x y : Int} (hc : 0 < c) (hd : 0 < d) (h : Hs c a x) (k : Hs d b y) (z : (mulR a b).e = 0) : Hs (c * d * 4294967296) (mulR a b).s (x * y) := by
  obtain ⟨-, -, e⟩ := mul_zero z
  rw [e]
  have hcd : 0 ≤ c * d := Int.le_of_lt (Int.mul_pos hc hd)
  obtain ⟨c1, c2⟩ := corner h.1 h.2 k.1 k.2
  have m := min4_le (a.lo * b.lo) (a.lo * b.hi) (a.hi * b.lo) (a.hi * b.hi)
  have n := le_max4 (a.lo * b.lo) (a.lo * b.hi) (a.hi * b.lo) (a.hi * b.hi)
  have d1 := down_mul (min4 (a.lo * b.lo) (a.lo * b.hi) (a.hi * b.lo) (a.hi * b.hi)) 4294967296 (by decide)
  have d2 := up_mul (max4 (a.lo * b.lo) (a.lo * b.hi) (a.hi * b.lo) (a.hi * b.hi)) 4294967296 (by decide)
  have dn : ∀ {u v : Int}, u ≤ v → u * (c * d) ≤ v * (c * d) := fun h => Int.mul_le_mul_of_nonneg_right h hcd
  have e1 : ∀ u v : Int, u * v * (c * d) = u * c * (v * d) := fun u v => mul_swap u v c d
  constructor
  · show downZ _ _ * (c * d * 4294967296) ≤ x * y
    rw [Int.mul_comm (c * d), ← Int.mul_assoc]
    refine Int.le_trans (dn d1) (Int.le_trans (le_min4 ?_ ?_ ?_ ?_) c1)
    · rw [← e1]; exact dn m.1
    · rw [← e1]; exact dn m.2.1
    · rw [← e1]; exact dn m.2.2.1
    · rw [← e1]; exact dn m.2.2.2
  · show x * y ≤ upZ _ _ * (c * d * 4294967296)
    rw [Int.mul_comm (c * d), ← Int.mul_assoc]
    refine Int.le_trans c2 (Int.le_trans (max4_le ?_ ?_ ?_ ?_) (dn d2))
    · rw [← e1]; exact dn n.1
    · rw [← e1]; exact dn n.2.1
    · rw [← e1]; exact dn n.2.2.1
    · rw [← e1]; exact dn n.2.2.2
theorem hs_half {d : Int} {a : Sp} {x : Int} (hd : 0 ≤ d) (h : Hs d a x) (z : (divR a (wholeS 2)).e = 0) : Hs (2 * d) (divR a (wholeS 2)).s x := by
  have e : (divR a (wholeS 2)).s.lo * 2 ≤ a.lo ∧ a.hi ≤ (divR a (wholeS 2)).s.hi * 2 := by
    unfold divR at *
    split at z
    · rename_i k
      rw [if_pos k]
      split at z
      · exact absurd z (by decide)
      · rename_i k2
        rw [if_neg k2]
        rw [(fit_zero z).1]
        have m := min4_le (ratDown a.lo (wholeS 2).lo) (ratDown a.lo (wholeS 2).hi) (ratDown a.hi (wholeS 2).lo) (ratDown a.hi (wholeS 2).hi)
        have n := le_max4 (ratUp a.lo (wholeS 2).lo) (ratUp a.lo (wholeS 2).hi) (ratUp a.hi (wholeS 2).lo) (ratUp a.hi (wholeS 2).hi)
        have r1 : ratDown a.lo (wholeS 2).lo * 2 ≤ a.lo := by
          unfold ratDown wholeS downZ
          simp only
          omega
        have r2 : a.hi ≤ ratUp a.hi (wholeS 2).hi * 2 := by
          unfold ratUp wholeS upZ
          simp only
          omega
        simp only
        omega
    · exact absurd z (by decide)
  unfold Hs at *
  have e1 := Int.mul_le_mul_of_nonneg_right e.1 hd
  have e2 := Int.mul_le_mul_of_nonneg_right e.2 hd
  rw [Int.mul_assoc] at e1 e2
  omega
/-- Two spans that have something in common meet. -/
theorem hs_meet {d : Int} {a b : Sp} {x : Int} (hd : 0 < d) (h : Hs d a x) (k : Hs d b x) : (meetS a b).lo ≤ (meetS a b).hi := by
  unfold Hs at *
  have h1 : a.lo ≤ b.hi := Int.le_of_mul_le_mul_right (Int.le_trans h.1 k.2) hd
  have h2 : b.lo ≤ a.hi := Int.le_of_mul_le_mul_right (Int.le_trans k.1 h.2) hd
  have h3 : a.lo ≤ a.hi := Int.le_of_mul_le_mul_right (Int.le_trans h.1 h.2) hd
  have h4 : b.lo ≤ b.hi := Int.le_of_mul_le_mul_right (Int.le_trans k.1 k.2) hd
  unfold meetS imax imin
  simp only
  (repeat' split) <;> omega
theorem eachR_at {f : Sp → Sp → Res} {a b : Bx} (z : (eachR f 0 a b).e = 0) (i : Nat) : (f (a.at i) (b.at i)).e = 0 ∧ (eachR f 0 a b).b.at i = (f (a.at i) (b.at i)).s := by
  obtain ⟨-, z1, z2, z3⟩ := eachR_zero z
  have e : eachR f 0 a b = ⟨⟨(f a.x b.x).s, (f a.y b.y).s, (f a.z b.z).s⟩, 0⟩ := by rw [eachR_th]; exact th_zero _ _ _ z1 z2 z3
  rw [e]
  match i with
  | 0 => exact ⟨z1, rfl⟩
  | 1 => exact ⟨z2, rfl⟩
  | n + 2 => exact ⟨z3, rfl⟩
theorem NwB.at {b c : Bx} (h : NwB b c) (i : Nat) : Nw (b.at i) (c.at i) := by
  match i with
  | 0 => exact h.1
  | 1 => exact h.2.1
  | n + 2 => exact h.2.2
/-- What a span reaches within a time. -/
structure Reach (P D v T : Sp) : Prop where
  m : (mulR D v).e = 0
  a : (addR P (mulR D v).s).e = 0
  is : T = (addR P (mulR D v).s).s
theorem rcP_at {P : Bx} {D : Sp} {v : Bx} (z : (rcP P D v 0).e = 0) (i : Nat) : Reach (P.at i) D (v.at i) ((rcP P D v 0).b.at i) := by
  have z1 : (rcM D v 0).e = 0 := (eachR_zero z).1
  unfold rcP at z ⊢
  rw [z1] at z ⊢
  obtain ⟨a1, a2⟩ := eachR_at z i
  obtain ⟨b1, b2⟩ := eachR_at z1 i
  have e : (ones D).at i = D := by
    match i with
    | 0 => rfl
    | 1 => rfl
    | n + 2 => rfl
  rw [e] at b1 b2
  rw [show (rcM D v 0).b.at i = (mulR D (v.at i)).s from b2] at a1 a2
  exact ⟨b1, a1, a2⟩
/-- One component of a step: place and velocity, tube, box, forces, half of the square of the time. -/
structure Comp (h : Int) (K P V TP TV BP BV FB FT NP NV : Sp) : Prop where
  rp : Reach P (stD h) BV TP
  rv : Reach V (stD h) FB TV
  ip : Nw TP BP
  iv : Nw TV BV
  ff : Nw FT FB
  kk : Hs 8589934592 K (h * h)
  l1 : (mulR ⟨h, h⟩ V).e = 0
  l2 : (addR P (mulR ⟨h, h⟩ V).s).e = 0
  l3 : (mulR K FT).e = 0
  l4 : (addR (addR P (mulR ⟨h, h⟩ V).s).s (mulR K FT).s).e = 0
  np : NP = (addR (addR P (mulR ⟨h, h⟩ V).s).s (mulR K FT).s).s
  l5 : (mulR ⟨h, h⟩ FT).e = 0
  l6 : (addR V (mulR ⟨h, h⟩ FT).s).e = 0
  nv : NV = (addR V (mulR ⟨h, h⟩ FT).s).s
section
variable {h : Int} {K P V TP TV BP BV FB FT NP NV : Sp} (H : Comp h K P V TP TV BP BV FB FT NP NV)
include H
theorem Comp.start {d x : Int} (_hd : 0 < d) (k : Hs d P x) : Hs d TP x := by
  rw [H.rp.is]
  have h0 : Hs 1 (stD h) 0 := by unfold stD Hs imin imax; simp only; constructor <;> (split <;> omega)
  have b : (mulR (stD h) BV).s.lo * d ≤ 0 ∧ 0 ≤ (mulR (stD h) BV).s.hi * d := by
    have lb := nw_le ⟨(mul_zero H.rp.m).2.1, Wi.refl BV⟩
    have := hs_mul (by omega) (by omega) h0 (hs_one (Int.le_refl BV.lo) lb) H.rp.m
    unfold Hs at this
    rw [Int.zero_mul] at this
    exact ⟨Int.mul_nonpos_of_nonpos_of_nonneg (by omega) (by omega), Int.mul_nonneg (by omega) (by omega)⟩
  have := hs_add k (y := 0) b H.rp.a
  rwa [Int.add_zero] at this
theorem Comp.startV {d x : Int} (_hd : 0 < d) (k : Hs d V x) : Hs d TV x := by
  rw [H.rv.is]
  have h0 : Hs 1 (stD h) 0 := by unfold stD Hs imin imax; simp only; constructor <;> (split <;> omega)
  have b : (mulR (stD h) FB).s.lo * d ≤ 0 ∧ 0 ≤ (mulR (stD h) FB).s.hi * d := by
    have lb := nw_le ⟨(mul_zero H.rv.m).2.1, Wi.refl FB⟩
    have := hs_mul (by omega) (by omega) h0 (hs_one (Int.le_refl FB.lo) lb) H.rv.m
    unfold Hs at this
    rw [Int.zero_mul] at this
    exact ⟨Int.mul_nonpos_of_nonpos_of_nonneg (by omega) (by omega), Int.mul_nonneg (by omega) (by omega)⟩
  have := hs_add k (y := 0) b H.rv.a
  rwa [Int.add_zero] at this
omit H in
theorem stD_has (h t : Int) (ht : (0 ≤ t ∧ t ≤ h) ∨ (h ≤ t ∧ t ≤ 0)) : Hs 1 (stD h) t ∧ Hs 2 (stD h) t := by
  unfold stD Hs imin imax
  simp only
  constructor <;> constructor <;> (split <;> omega)
/-- The velocity at a time of the step is in the tube. -/
theorem Comp.runV {c k v f t : Int} (hc : 0 < c) (hk : 0 < k) (ht : (0 ≤ t ∧ t ≤ h) ∨ (h ≤ t ∧ t ≤ 0)) (kv : Hs c V v) (kf : Hs k FB f) : Hs (c * k * 4294967296) TV (v * (k * 4294967296) + t * f * c) := by
  rw [H.rv.is]
  have hm := hs_up c (by omega) (hs_mul (by omega) hk (stD_has h t ht).1 kf H.rv.m)
  have hv := hs_up (k * 4294967296) (by omega) kv
  rw [← Int.mul_assoc] at hv
  refine hs_add hv ?_ H.rv.a
  rw [show c * k * 4294967296 = 1 * k * 4294967296 * c by rw [Int.one_mul, Int.mul_assoc, Int.mul_comm c]]
  exact hm
/-- And so is the place. -/
theorem Comp.runP {c k q v f t : Int} (hc : 0 < c) (hk : 0 < k) (ht : (0 ≤ t ∧ t ≤ h) ∨ (h ≤ t ∧ t ≤ 0)) (kp : Hs c P q) (kv : Hs c V v) (kf : Hs k FB f) : Hs (c * k * 36893488147419103232) TP (q * (k * 36893488147419103232) + t * (v * (k * 8589934592) + t * f * c)) := by
  have hm := hs_up c (by omega) (hs_mul (by omega) hk (stD_has h t ht).2 kf H.rv.m)
  have hv := hs_up (k * 8589934592) (by omega) kv
  have hV : Hs (c * k * 8589934592) TV (v * (k * 8589934592) + t * f * c) := by
    rw [H.rv.is]
    rw [← Int.mul_assoc] at hv
    refine hs_add hv ?_ H.rv.a
    rw [show c * k * 8589934592 = 2 * k * 4294967296 * c by rw [show (8589934592 : Int) = 2 * 4294967296 from rfl]; ac_rfl]
    exact hm
  have hck : 0 < c * k := Int.mul_pos hc hk
  have hB := hs_wi (by omega) hV H.iv.2
  have hT := hs_mul (by omega) (by omega) (stD_has h t ht).1 hB H.rp.m
  rw [H.rp.is]
  have hp := hs_up (k * 36893488147419103232) (by omega) kp
  rw [← Int.mul_assoc] at hp
  refine hs_add hp ?_ H.rp.a
  rw [show c * k * 36893488147419103232 = 1 * (c * k * 8589934592) * 4294967296 by rw [Int.one_mul, Int.mul_assoc (c * k)]; rfl]
  exact hT
omit H in
theorem hs_pt (h : Int) : Hs 1 (⟨h, h⟩ : Sp) h := hs_one (Int.le_refl _) (Int.le_refl _)
/-- The new velocity, and the new place, exactly. -/
theorem Comp.nextV {c k v f : Int} (hc : 0 < c) (hk : 0 < k) (kv : Hs c V v) (kf : Hs k FT f) : Hs (c * k * 4294967296) NV (v * (k * 4294967296) + h * f * c) := by
  rw [H.nv]
  have hm := hs_up c (by omega) (hs_mul (by omega) hk (hs_pt h) kf H.l5)
  have hv := hs_up (k * 4294967296) (by omega) kv
  rw [← Int.mul_assoc] at hv
  refine hs_add hv ?_ H.l6
  rw [show c * k * 4294967296 = 1 * k * 4294967296 * c by rw [Int.one_mul, Int.mul_assoc, Int.mul_comm c]]
  exact hm
theorem Comp.nextP {c k q v f : Int} (hc : 0 < c) (hk : 0 < k) (kp : Hs c P q) (kv : Hs c V v) (kf : Hs k FT f) : Hs (c * k * 36893488147419103232) NP (q * (k * 36893488147419103232) + h * v * (k * 8589934592) + h * h * f * c) := by
  rw [H.np]
  have h1 := hs_up (k * 8589934592) (by omega) (hs_mul (by omega) hc (hs_pt h) kv H.l1)
  have h2 := hs_up c (by omega) (hs_mul (by omega) hk H.kk kf H.l3)
  have hp := hs_up (k * 36893488147419103232) (by omega) kp
  rw [← Int.mul_assoc] at hp
  refine hs_add (hs_add hp ?_ H.l2) ?_ H.l4
  · rw [show c * k * 36893488147419103232 = 1 * c * 4294967296 * (k * 8589934592) by rw [Int.one_mul, show (36893488147419103232 : Int) = 4294967296 * 8589934592 from rfl]; ac_rfl]
    exact h1
  · rw [show c * k * 36893488147419103232 = 8589934592 * k * 4294967296 * c by rw [Int.mul_comm c k, Int.mul_right_comm, Int.mul_comm 8589934592 k, Int.mul_assoc k 8589934592]; rfl]
    exact h2
end
end Go.Proofs.YtkeifgcncmilmaaGreat
namespace Go.Proofs.YtkeifgcncmilmaaGreat
set_option maxRecDepth 100000
theorem lp_zero {g k o v f : Sp} {e : Int} (z : (lpG g k o v f e).e = 0) : e = 0 ∧ (mulR g v).e = 0 ∧ (addR o (mulR g v).s).e = 0 ∧ (mulR k f).e = 0 ∧ (addR (addR o (mulR g v).s).s (mulR k f).s).e = 0 ∧ (mulR g f).e = 0 ∧ (addR v (mulR g f).s).e = 0 ∧
    (lpD g k o v f e).s = (addR (addR o (mulR g v).s).s (mulR k f).s).s ∧ (lpG g k o v f e).s = (addR v (mulR g f).s).s := by
  obtain ⟨z1, y6⟩ := do_zero3 (show (doR (lpE g k o v f e).e _).e = 0 from z)
  obtain ⟨z2, y5⟩ := do_zero3 (show (doR (lpD g k o v f e).e _).e = 0 from z1)
  obtain ⟨z3, y4⟩ := do_zero3 (show (doR (lpC g k o v f e).e _).e = 0 from z2)
  obtain ⟨z4, y3⟩ := do_zero3 (show (doR (lpB g o v e).e _).e = 0 from z3)
  obtain ⟨z5, y2⟩ := do_zero3 (show (doR (lpA g v e).e _).e = 0 from z4)
  obtain ⟨z6, y1⟩ := do_zero3 (show (doR e _).e = 0 from z5)
  have a1 : lpA g v e = mulR g v := by unfold lpA; rw [z6]; rfl
  rw [a1] at y2
  have a2 : lpB g o v e = addR o (mulR g v).s := by unfold lpB; rw [a1, y1]; rfl
  have a3 : lpC g k o v f e = mulR k f := by unfold lpC; rw [a2, y2]; rfl
  rw [a2, a3] at y4
  have a4 : lpD g k o v f e = addR (addR o (mulR g v).s).s (mulR k f).s := by unfold lpD; rw [a3, y3, a2]; rfl
  have a5 : lpE g k o v f e = mulR g f := by unfold lpE; rw [a4, y4]; rfl
  rw [a5] at y6
  have a6 : lpG g k o v f e = addR v (mulR g f).s := by unfold lpG; rw [a5, y5]; rfl
  exact ⟨z6, y1, y2, y3, y4, y5, y6, by rw [a4], by rw [a6]⟩
theorem inB_nw {a b : Sp} (h : a.inB b = true) : Nw a b := by
  unfold Sp.inB at h
  simp only [Bool.and_eq_true, decide_eq_true_eq] at h
  exact ⟨h.1.1.1, h.1.2, h.2⟩
theorem boxIn_nw {a b : Bx} (h : boxIn a b = true) : NwB a b := by
  unfold boxIn at h
  simp only [Bool.and_eq_true] at h
  exact ⟨inB_nw h.1.1, inB_nw h.1.2, inB_nw h.2⟩
/-- A tube that was found: the boxes of its last try. -/
theorem tube_found {p : Planet} {x : Arc} {l : List Pt} {s : State} {h : Int} {m : Sp} : ∀ (n : Nat) (q v : Bx) (e : Int), (tubeR (fun q v e => forceF p x l q v m e) (fun v f e => reachF s.p s.v (stD h) v f e) wdR n q v e).found = true →
    ∃ Q V : Bx, (forceF p x l Q V m 0).e = 0 ∧ (reachF s.p s.v (stD h) V (forceF p x l Q V m 0).b 0).e = 0 ∧
      (tubeR (fun q v e => forceF p x l q v m e) (fun v f e => reachF s.p s.v (stD h) v f e) wdR n q v e).p = (reachF s.p s.v (stD h) V (forceF p x l Q V m 0).b 0).p ∧
      (tubeR (fun q v e => forceF p x l q v m e) (fun v f e => reachF s.p s.v (stD h) v f e) wdR n q v e).v = (reachF s.p s.v (stD h) V (forceF p x l Q V m 0).b 0).v ∧
      NwB (reachF s.p s.v (stD h) V (forceF p x l Q V m 0).b 0).p Q ∧ NwB (reachF s.p s.v (stD h) V (forceF p x l Q V m 0).b 0).v V
  | 0, _, _, _, k => by cases k
  | n + 1, q, v, e, k => by
    unfold tubeR at k ⊢
    split at k
    · cases k
    · rename_i z
      have z : (reachF s.p s.v (stD h) v (forceF p x l q v m e).b (forceF p x l q v m e).e).e = 0 := by simpa using z
      rw [if_neg (by simpa using z)]
      split at k
      · rename_i k2
        rw [if_pos k2]
        have zf : (forceF p x l q v m e).e = 0 := by
          by_cases c : (forceF p x l q v m e).e = 0
          · exact c
          · exact absurd ((reachF_bad _ _ _ _ _ c).symm.trans z) c
        have ze : e = 0 := by
          by_cases c : e = 0
          · exact c
          · exact absurd ((forceF_bad p x l q v m c).symm.trans zf) c
        subst ze
        rw [zf] at z k2
        unfold allIn at k2
        simp only [Bool.and_eq_true] at k2
        refine ⟨q, v, zf, z, ?_, ?_, boxIn_nw k2.1, boxIn_nw k2.2⟩
        · simp only [zf]
        · simp only [zf]
      · rename_i k2
        rw [if_neg k2]
        exact tube_found n _ _ _ k
theorem reachF_at {P V : Bx} {D : Sp} {v f : Bx} (z : (reachF P V D v f 0).e = 0) (i : Nat) : Reach (P.at i) D (v.at i) ((reachF P V D v f 0).p.at i) ∧ Reach (V.at i) D (f.at i) ((reachF P V D v f 0).v.at i) := by
  have z : (rcP V D f (rcP P D v 0).e).e = 0 := z
  have z1 : (rcP P D v 0).e = 0 := by
    by_cases c : (rcP P D v 0).e = 0
    · exact c
    · have h1 : (rcM D f (rcP P D v 0).e).e = (rcP P D v 0).e := eachR_bad _ _ _ c
      have : (rcP V D f (rcP P D v 0).e).e = (rcP P D v 0).e := by
        show (eachR addR (rcM D f (rcP P D v 0).e).e V (rcM D f (rcP P D v 0).e).b).e = _
        rw [h1]
        exact eachR_bad _ _ _ c
      exact absurd (this.symm.trans z) c
  refine ⟨rcP_at z1 i, ?_⟩
  rw [z1] at z
  have := rcP_at z i
  unfold reachF
  simp only [z1]
  exact this
/-- A step without an error. -/
structure Hop (p : Planet) (x : Arc) (l : List Pt) (s : State) (h : Int) (n : State) (T : Tube) (Q V : Bx) (K : Sp) : Prop where
  nt : n.t = s.t + h
  nn : isNum n.t = true
  ta : T.a = imin s.t n.t
  tz : T.z = imax s.t n.t
  m1 : (mulR x.flow (stD h)).e = 0
  m2 : (subR s.m (mulR x.flow (stD h)).s).e = 0
  mT : T.m = (subR s.m (mulR x.flow (stD h)).s).s
  mp : 0 < T.m.lo
  n1 : (mulR ⟨h, h⟩ x.flow).e = 0
  n2 : (subR s.m (mulR ⟨h, h⟩ x.flow).s).e = 0
  nm : n.m = (subR s.m (mulR ⟨h, h⟩ x.flow).s).s
  iq : NwB T.p Q
  iv : NwB T.v V
  fb : (forceF p x l Q V T.m 0).e = 0
  ft : (forceF p x l T.p T.v T.m 0).e = 0
  hh : (mulR ⟨h, h⟩ ⟨h, h⟩).e = 0
  comp : ∀ i, Comp h K (s.p.at i) (s.v.at i) (T.p.at i) (T.v.at i) (Q.at i) (V.at i) ((forceF p x l Q V T.m 0).b.at i) ((forceF p x l T.p T.v T.m 0).b.at i) (n.p.at i) (n.v.at i)
theorem hop_of {p : Planet} {x : Arc} {l : List Pt} {s : State} {h : Int} (hp : PlOk p) (hx : ArOk x) (z : (stepFF p x l s h).e = 0) : ∃ Q V K, Hop p x l s h (stepFF p x l s h).s (stepFF p x l s h).t Q V K := by
  have hz : ∀ e : Int, e ≠ 0 → (stErr e).e ≠ 0 := fun e h => h
  unfold stepFF stepOut at z
  generalize hm : stM x s h (stF s h).e = M at z
  generalize hE : stE x s h (stF s h).e = E at z
  generalize hT : tubeFF p x l s h M.s E = T at z
  split at z
  case isFalse =>
    split at z
    · exact absurd z (by decide)
    · exact absurd z (hz _ (by assumption))
  rename_i kf
  -- the tube's start is without an error
  have hE0 : E = 0 := by
    by_cases c : E = 0
    · exact c
    · have := (tubeR_bad (ff := fun q v e => forceF p x l q v M.s e) (rr := fun v f e => reachF s.p s.v (stD h) v f e) (wf := wdR) (fun _ _ _ he => reachF_bad _ _ _ _ _ he) (fun _ _ _ he => forceF_bad _ _ _ _ _ _ he) c 8 s.p s.v).1
      rw [← hT] at kf
      exact absurd (this.symm.trans kf) (by decide)
  have hM0 : M.e = 0 ∧ 0 < M.s.lo := by
    unfold stE at hE
    rw [hm] at hE
    split at hE
    · omega
    · rename_i k
      have : M.e = 0 := hE.trans hE0
      exact ⟨this, by by_cases c : M.s.lo ≤ 0; · exact absurd ⟨this, c⟩ k
                      · omega⟩
  have hm' := hm
  unfold stM at hm
  obtain ⟨e1, y1⟩ := do_zero3 (hm ▸ hM0.1)
  obtain ⟨e2, y2⟩ := do_zero3 (show (doR (stF s h).e _).e = 0 from e1)
  have a1 : stL x h (stF s h).e = mulR x.flow (stD h) := by unfold stL; rw [e2]; rfl
  rw [a1] at y1 hm e1
  have a2 : M = subR s.m (mulR x.flow (stD h)).s := by rw [← hm, e1]; rfl
  have a3 : stF s h = addR ⟨s.t, s.t⟩ ⟨h, h⟩ := rfl
  have e2' := e2
  rw [a3] at e2
  have a4 := (add_zero e2).2.2
  -- the tube
  have hT' := hT
  unfold tubeFF at hT
  have hf := tube_found (p := p) (x := x) (l := l) (s := s) (h := h) (m := M.s) 8 s.p s.v E (by rw [hT]; exact kf)
  rw [hT] at hf
  obtain ⟨Q, V, f1, f2, f3, f4, f5, f6⟩ := hf
  -- the end
  dsimp only at z
  unfold lastR at z
  split at z
  case isFalse => exact absurd z (hz _ (by assumption))
  rename_i kl
  obtain ⟨b1, x1⟩ := do_zero3 (show (doR (laN x s h _).e _).e = 0 from kl)
  obtain ⟨b2, x2⟩ := do_zero3 (show (doR (laG2 s h _).e _).e = 0 from b1)
  obtain ⟨b3, g2⟩ := lp_zero (show (lpG _ _ _ _ _ _).e = 0 from b2)
  obtain ⟨b4, g1⟩ := lp_zero (show (lpG _ _ _ _ _ _).e = 0 from b3)
  obtain ⟨b5, g0⟩ := lp_zero (show (lpG _ _ _ _ _ _).e = 0 from b4)
  obtain ⟨b6, x3⟩ := do_zero3 (show (doR (laL h _).e _).e = 0 from b5)
  obtain ⟨b7, x4⟩ := do_zero3 (show (doR _ _).e = 0 from b6)
  have hs : stepFF p x l s h = lastR x s h (stF s h).s.lo (stTube s (stF s h).s.lo T M.s) (forceF p x l T.p T.v M.s 0) := by
    unfold stepFF stepOut
    rw [hm', hE, hT', if_pos kf]
  unfold lastR at hs
  rw [if_pos kl] at hs
  rw [hs]
  have c1 : laL h (forceF p x l T.p T.v M.s 0) = mulR ⟨h, h⟩ ⟨h, h⟩ := by unfold laL; rw [b7]; rfl
  have c2 : laK h (forceF p x l T.p T.v M.s 0) = divR (mulR ⟨h, h⟩ ⟨h, h⟩).s (wholeS 2) := by unfold laK; rw [c1, x4]; rfl
  have c3 : laN x s h (forceF p x l T.p T.v M.s 0) = mulR ⟨h, h⟩ x.flow := by unfold laN; rw [b2]; rfl
  have c4 : laM x s h (forceF p x l T.p T.v M.s 0) = subR s.m (mulR ⟨h, h⟩ x.flow).s := by unfold laM; rw [c3, x2]; rfl
  rw [c1] at x3
  have kk : Hs 8589934592 (divR (mulR ⟨h, h⟩ ⟨h, h⟩).s (wholeS 2)).s (h * h) := by
    have := hs_half (by omega) (hs_mul (by omega) (by omega) (hs_pt h) (hs_pt h) x4) x3
    simpa using this
  have hte : (stF s h).s.lo = s.t + h := by rw [a3, a4]
  have hMo : M.s.okB = true := by rw [a2]; exact ok_sub
  have iT : NwB T.p Q := by rw [f3]; exact f5
  have vT : NwB T.v V := by rw [f4]; exact f6
  have ff := force_mo (p := p) (x := x) (l := l) look_mono hp hx iT vT (nw_refl hMo) f1
  have k1 := ff.1
  have ff := ff.2
  generalize hF : forceF p x l T.p T.v M.s 0 = F at *
  generalize hG : forceF p x l Q V M.s 0 = G at *
  refine ⟨Q, V, (divR (mulR ⟨h, h⟩ ⟨h, h⟩).s (wholeS 2)).s, hte, ?_, rfl, rfl, ?_, ?_, ?_, hM0.2, x2, ?_, ?_, iT, vT, ?_, ?_, x4, fun i => ?_⟩
  · show isNum (stF s h).s.lo = true
    rw [hte]
    have := fit_zero (x := s.t + h) (y := s.t + h) (by
      unfold addR at e2
      split at e2
      · exact e2
      · exact absurd e2 (by decide))
    unfold isNum
    simp
    omega
  · rw [← a1, e2']
    unfold stL
    rw [doR_ok]
    exact y2
  · exact y1
  · show M.s = _
    rw [a2]
  · rw [c3] at x1
    exact x1
  · show (laM x s h F).s = _
    rw [c4]
  · show (forceF p x l Q V M.s 0).e = 0
    rw [hG]
    exact f1
  · show (forceF p x l T.p T.v M.s 0).e = 0
    rw [hF]
    exact k1
  · show Comp h _ (s.p.at i) (s.v.at i) (T.p.at i) (T.v.at i) (Q.at i) (V.at i) ((forceF p x l Q V M.s 0).b.at i) ((forceF p x l T.p T.v M.s 0).b.at i) (Bx.at ⟨_, _, _⟩ i) (Bx.at ⟨_, _, _⟩ i)
    rw [hF, hG]
    obtain ⟨r1, r2⟩ := reachF_at f2 i
    rw [← f3] at r1
    rw [← f4] at r2
    rw [c2] at g0 g1 g2
    match i with
    | 0 => exact ⟨r1, r2, iT.1, vT.1, ff.1, kk, g0.1, g0.2.1, g0.2.2.1, g0.2.2.2.1, by unfold laD0; rw [c2]; exact g0.2.2.2.2.2.2.1, g0.2.2.2.2.1, g0.2.2.2.2.2.1, by unfold laG0; rw [c2]; exact g0.2.2.2.2.2.2.2⟩
    | 1 => exact ⟨r1, r2, iT.2.1, vT.2.1, ff.2.1, kk, g1.1, g1.2.1, g1.2.2.1, g1.2.2.2.1, by unfold laD1; rw [c2]; exact g1.2.2.2.2.2.2.1, g1.2.2.2.2.1, g1.2.2.2.2.2.1, by unfold laG1; rw [c2]; exact g1.2.2.2.2.2.2.2⟩
    | n + 2 => exact ⟨r1, r2, iT.2.2, vT.2.2, ff.2.2, kk, g2.1, g2.2.1, g2.2.2.1, g2.2.2.2.1, by unfold laD2; rw [c2]; exact g2.2.2.2.2.2.2.1, g2.2.2.2.2.1, g2.2.2.2.2.2.1, by unfold laG2; rw [c2]; exact g2.2.2.2.2.2.2.2⟩
end Go.Proofs.YtkeifgcncmilmaaGreat
namespace Go.Proofs.YtkeifgcncmilmaaGreat
set_option maxRecDepth 100000
section
variable {p : Planet} {x : Arc} {l : List Pt} {s : State} {h : Int} {n : State} {T : Tube} {Q V : Bx} {K : Sp} (H : Hop p x l s h n T Q V K)
include H
theorem Hop.okM : s.m.okB = true ∧ x.flow.okB = true ∧ T.m.okB = true := by
  refine ⟨?_, (mul_zero H.n1).2.1, ?_⟩
  · have := H.n2
    rw [(sub_zero this).1] at this
    exact (add_zero this).1
  · rw [H.mT]
    exact ok_sub
theorem Hop.okT (i : Nat) : (T.p.at i).okB = true ∧ (T.v.at i).okB = true := ⟨(H.iq.at i).1, (H.iv.at i).1⟩
theorem Hop.okS (i : Nat) : (s.p.at i).okB = true ∧ (s.v.at i).okB = true := ⟨(add_zero (H.comp i).l2).1, (add_zero (H.comp i).l6).1⟩
theorem Hop.okN (i : Nat) : (n.p.at i).okB = true ∧ (n.v.at i).okB = true := by
  rw [(H.comp i).np, (H.comp i).nv]
  exact ⟨ok_add, ok_add⟩
end
theorem hs_lo {a : Sp} (h : a.okB = true) : Hs 1 a a.lo := hs_one (Int.le_refl _) (ok_le h)
theorem hs_hi {a : Sp} (h : a.okB = true) : Hs 1 a a.hi := hs_one (ok_le h) (Int.le_refl _)
theorem all_wi {a b : Sp} (h : a.okB = true) (k : ∀ y, Hs 1 a y → Hs 1 b y) : Wi a b := ⟨(hs_one' (k _ (hs_lo h))).1, (hs_one' (k _ (hs_hi h))).2⟩
end Go.Proofs.YtkeifgcncmilmaaGreat
namespace Go.Proofs.YtkeifgcncmilmaaGreat
set_option maxRecDepth 100000
section
variable {p : Planet} {x : Arc} {l : List Pt} {s : State} {h h1 h2 : Int} {n n1 n2 : State} {T T1 T2 : Tube} {Q V Q1 V1 Q2 V2 : Bx} {K K1 K2 : Sp} (hp : PlOk p) (hx : ArOk x)
  (H : Hop p x l s h n T Q V K) (H1 : Hop p x l s h1 n1 T1 Q1 V1 K1) (H2 : Hop p x l n1 h2 n2 T2 Q2 V2 K2) (hs : h1 + h2 = h) (hd : (0 ≤ h1 ∧ 0 ≤ h2) ∨ (h1 ≤ 0 ∧ h2 ≤ 0))
include hp hx H H1
include H2 hs hd
end
end Go.Proofs.YtkeifgcncmilmaaGreat
namespace Go.Proofs.YtkeifgcncmilmaaGreat
set_option maxRecDepth 100000
theorem ArOk.of {x : Arc} {l : List Pt} (h : x.okB l = true) : ArOk x := by
  unfold Arc.okB dirB forcesB at h
  simp only [Bool.and_eq_true, List.all_cons, Sp.leastB] at h
  have k : ∀ {a b : Sp}, a.inB b = true → a.okB = true := fun h => (inB_nw h).1
  exact ⟨h.1.1.1.2.1.1, ⟨nw_refl (k h.1.1.1.1.1.1), nw_refl (k h.1.1.1.1.1.2), nw_refl (k h.1.1.1.1.2)⟩⟩
theorem arc_times {x : Arc} {l : List Pt} (h : x.okB l = true) : 1 ≤ x.time ∧ 1 ≤ x.step := by
  unfold Arc.okB at h
  simp only [Bool.and_eq_true, decide_eq_true_eq] at h
  exact ⟨h.1.1.2, h.1.2⟩
theorem mulR_comm (a b : Sp) : mulR a b = mulR b a := by
  unfold mulR
  rw [Bool.and_comm]
  have e : ∀ x y z w : Int, min4 x y z w = min4 x z y w ∧ max4 x y z w = max4 x z y w := fun x y z w => by
    unfold min4 max4 imin imax
    constructor <;> ((repeat' split) <;> omega)
  rw [(e (a.lo * b.lo) _ _ _).1, (e (a.lo * b.lo) _ _ _).2, Int.mul_comm a.lo b.lo, Int.mul_comm a.hi b.lo, Int.mul_comm a.lo b.hi, Int.mul_comm a.hi b.hi]
/-- The mass that is left is among those of the tube. -/
theorem Hop.massIn {p : Planet} {x : Arc} {l : List Pt} {s : State} {h : Int} {n : State} {T : Tube} {Q V : Bx} {K : Sp} (H : Hop p x l s h n T Q V K) : Nw n.m T.m := by
  have hD : Nw ⟨h, h⟩ (stD h) := by
    have := hs_one' (stD_has h h (by omega)).1
    exact ⟨(mul_zero H.n1).1, this⟩
  have k := H.m1
  rw [mulR_comm] at k
  have m := (mul_mono hD (nw_refl H.okM.2.1) k).2
  rw [mulR_comm (stD h)] at m
  rw [H.nm, H.mT]
  exact (sub_mono (nw_refl H.okM.1) m H.m2).2
theorem okB_of {b : Bx} (h : ∀ i, (b.at i).okB = true) : b.okB = true := by
  unfold Bx.okB
  rw [show b.x.okB = true from h 0, show b.y.okB = true from h 1, show b.z.okB = true from h 2]
  rfl
theorem Hop.okState {p : Planet} {x : Arc} {l : List Pt} {s : State} {h : Int} {n : State} {T : Tube} {Q V : Bx} {K : Sp} (H : Hop p x l s h n T Q V K) : n.okB = true := by
  have h1 := H.massIn
  have h2 := h1.2.1
  have h3 := H.mp
  have h4 := H.nn
  unfold isNum at h4
  simp only [Bool.and_eq_true, decide_eq_true_eq] at h4
  unfold State.okB numB
  rw [okB_of (fun i => (H.okN i).1), okB_of (fun i => (H.okN i).2), h1.1]
  simp only [Bool.and_eq_true, decide_eq_true_eq, Bool.and_true]
  omega
theorem inB_of {a b : Sp} (h : Nw a b) (k : b.okB = true) : a.inB b = true := by
  unfold Sp.inB
  rw [h.1, k]
  obtain ⟨-, h1, h2⟩ := h
  simp [h1, h2]
theorem i64c {n : Int} (h : decide (-9223372036854775808 ≤ n ∧ n ≤ 9223372036854775807) = true) : I64 n := by
  unfold I64
  exact of_decide_eq_true h
theorem st64_z : St64 zState := ⟨i64c rfl, ⟨⟨i64c rfl, i64c rfl⟩, ⟨i64c rfl, i64c rfl⟩, ⟨i64c rfl, i64c rfl⟩⟩, ⟨⟨i64c rfl, i64c rfl⟩, ⟨i64c rfl, i64c rfl⟩, ⟨i64c rfl, i64c rfl⟩⟩, ⟨i64c rfl, i64c rfl⟩⟩
theorem st64_err (e : Int) : St64 (stErr e).s := st64_z
theorem st64_ff (p : Planet) (x : Arc) (l : List Pt) (s : State) (h : Int) : St64 (stepFF p x l s h).s := by
  unfold stepFF stepOut
  split
  · unfold lastR
    split
    · refine ⟨?_, ⟨s64_do _ _, s64_do _ _, s64_do _ _⟩, ⟨s64_do _ _, s64_do _ _, s64_do _ _⟩, s64_do _ _⟩
      have : S64 (stF s h).s := s64_do _ _
      exact this.lo
    · exact st64_err _
  · exact st64_err _
instance st64_rr (p : Planet) (x : Arc) (l : List Pt) (s : State) (h : Int) : St64 (stepRR p x l s h).s := by
  unfold stepRR
  split
  · exact st64_ff p x l s h
  · exact st64_err _
end Go.Proofs.YtkeifgcncmilmaaGreat
namespace Go.Proofs.YtkeifgcncmilmaaGreat
set_option maxRecDepth 100000
/-! The lengths of an arc's steps. -/
def restA (a : Arc) : Int := a.time % a.step
def fullA (a : Arc) : Nat := (a.time / a.step).toNat
def lensF (a : Arc) : List Int := List.replicate (fullA a) a.step ++ (if 0 < restA a then [restA a] else [])
def lensB (a : Arc) : List Int := (if 0 < restA a then [-restA a] else []) ++ List.replicate (fullA a) (-a.step)
def lensL (a : Arc) (back : Bool) : List Int := if back then lensB a else lensF a
theorem lens_len (a : Arc) (back : Bool) (h1 : 1 ≤ a.time) (h2 : 1 ≤ a.step) : ((lensL a back).length : Int) = stepsZ a := by
  have e := steps_ceil a.time a.step h2
  have q0 : 0 ≤ a.time / a.step := Int.ediv_nonneg (by omega) (by omega)
  have n1 := Int.emod_nonneg a.time (show a.step ≠ 0 by omega)
  unfold lensL lensF lensB restA fullA stepsZ
  rw [e]
  by_cases h : a.time % a.step = 0
  · have h0 : ¬ (0 < a.time % a.step) := by omega
    rw [if_pos h]
    simp only [if_neg h0]
    cases back
    · simp
      omega
    · simp
      omega
  · have h0 : 0 < a.time % a.step := by omega
    rw [if_neg h]
    simp only [if_pos h0]
    cases back
    · simp
      omega
    · simp
      omega
end Go.Proofs.YtkeifgcncmilmaaGreat
namespace Go.Proofs.YtkeifgcncmilmaaGreat
set_option maxRecDepth 100000
/-- Along an arc. -/
structure AlRes where
  s : State
  T : List Tube
  e : Int
def alongR (p : Planet) (a : Arc) (l : List Pt) : State → List Tube → List Int → AlRes
  | s, T, [] => ⟨s, T, 0⟩
  | s, T, h :: r => if (stepFF p a l s h).e = 0 then alongR p a l (stepFF p a l s h).s (T ++ [(stepFF p a l s h).t]) r else ⟨zState, [], (stepFF p a l s h).e⟩
theorem along_cons (p : Planet) (a : Arc) (l : List Pt) (s : State) (T : List Tube) (h : Int) (r : List Int) : alongR p a l s T (h :: r) = if (stepFF p a l s h).e = 0 then alongR p a l (stepFF p a l s h).s (T ++ [(stepFF p a l s h).t]) r else ⟨zState, [], (stepFF p a l s h).e⟩ := rfl
theorem along_nil (p : Planet) (a : Arc) (l : List Pt) (s : State) (T : List Tube) : alongR p a l s T [] = ⟨s, T, 0⟩ := rfl
/-- What has gone wrong stays wrong. -/
theorem along_bad (p : Planet) (a : Arc) (l : List Pt) (s : State) (T : List Tube) (r t : List Int) (h : (alongR p a l s T r).e ≠ 0) : alongR p a l s T (r ++ t) = alongR p a l s T r := by
  induction r generalizing s T with
  | nil => exact absurd rfl h
  | cons x r ih =>
    rw [List.cons_append, along_cons, along_cons]
    rw [along_cons] at h
    split
    · rename_i k
      rw [if_pos k] at h
      exact ih _ _ h
    · rfl
theorem along_append (p : Planet) (a : Arc) (l : List Pt) (s : State) (T : List Tube) (r t : List Int) (h : (alongR p a l s T r).e = 0) : alongR p a l s T (r ++ t) = alongR p a l (alongR p a l s T r).s (alongR p a l s T r).T t := by
  induction r generalizing s T with
  | nil => rfl
  | cons x r ih =>
    rw [List.cons_append, along_cons, along_cons]
    rw [along_cons] at h
    split
    · rename_i k
      rw [if_pos k] at h
      exact ih _ _ h
    · rename_i k
      rw [if_neg k] at h
      exact absurd h k
theorem along_len (p : Planet) (a : Arc) (l : List Pt) (s : State) (T : List Tube) (r : List Int) (h : (alongR p a l s T r).e = 0) : (alongR p a l s T r).T.length = T.length + r.length := by
  induction r generalizing s T with
  | nil => rfl
  | cons x r ih =>
    rw [along_cons] at h ⊢
    split
    · rename_i k
      rw [if_pos k] at h
      rw [ih _ _ h]
      simp
      omega
    · rename_i k
      rw [if_neg k] at h
      exact absurd h k
instance st64_along (p : Planet) (a : Arc) (l : List Pt) (s : State) (T : List Tube) (r : List Int) [hs : St64 s] : St64 (alongR p a l s T r).s := by
  induction r generalizing s T with
  | nil => exact hs
  | cons x r ih =>
    rw [along_cons]
    split
    · have : St64 (stepFF p a l s x).s := st64_ff p a l s x
      exact ih _ _
    · exact st64_z
/-! A flight. -/
structure FlyRes where
  stops : List State
  tubes : List Tube
  e : Int
def flyErr (e : Int) : FlyRes := ⟨[], [], e⟩
/-- The mass behind an arc. -/
def dropR (m : Sp) (x : Arc) : Res := if (subR m x.drop).e = 0 ∧ (subR m x.drop).s.lo ≤ 0 then ⟨(subR m x.drop).s, 4⟩ else subR m x.drop
def State.mass (s : State) (m : Sp) : State := ⟨s.t, s.p, s.v, m⟩
def flyGo (p : Planet) : State → List State → List Tube → Arcs → FlyRes
  | _, S, T, [] => ⟨S, T, 0⟩
  | s, S, T, x :: r =>
    if (alongR p x.1 x.2 s T (lensF x.1)).e = 0 then
      (if (dropR (alongR p x.1 x.2 s T (lensF x.1)).s.m x.1).e = 0 then
        flyGo p ((alongR p x.1 x.2 s T (lensF x.1)).s.mass (dropR (alongR p x.1 x.2 s T (lensF x.1)).s.m x.1).s) (S ++ [(alongR p x.1 x.2 s T (lensF x.1)).s.mass (dropR (alongR p x.1 x.2 s T (lensF x.1)).s.m x.1).s]) (alongR p x.1 x.2 s T (lensF x.1)).T r
      else flyErr (dropR (alongR p x.1 x.2 s T (lensF x.1)).s.m x.1).e)
    else flyErr (alongR p x.1 x.2 s T (lensF x.1)).e
def checkE (p : Planet) (L : Arcs) (s : State) : Int := if p.okB && s.okB then arcsCode L else 2
def flyR (p : Planet) (L : Arcs) (s : State) : FlyRes := if checkE p L s = 0 then flyGo p s [] [] L else flyErr (checkE p L s)
/-- Back along arcs (the last one first). -/
def backGo (p : Planet) : State → List State → List Tube → Arcs → FlyRes
  | _, S, T, [] => ⟨S, T, 0⟩
  | s, S, T, x :: r =>
    if (addR s.m x.1.drop).e = 0 then
      (if (alongR p x.1 x.2 (s.mass (addR s.m x.1.drop).s) T (lensB x.1)).e = 0 then
        backGo p (alongR p x.1 x.2 (s.mass (addR s.m x.1.drop).s) T (lensB x.1)).s (S ++ [(alongR p x.1 x.2 (s.mass (addR s.m x.1.drop).s) T (lensB x.1)).s]) (alongR p x.1 x.2 (s.mass (addR s.m x.1.drop).s) T (lensB x.1)).T r
      else flyErr (alongR p x.1 x.2 (s.mass (addR s.m x.1.drop).s) T (lensB x.1)).e)
    else flyErr (addR s.m x.1.drop).e
def backR (p : Planet) (L : Arcs) (s : State) : FlyRes := if checkE p L s = 0 then backGo p s [] [] L.reverse else flyErr (checkE p L s)
end Go.Proofs.YtkeifgcncmilmaaGreat
