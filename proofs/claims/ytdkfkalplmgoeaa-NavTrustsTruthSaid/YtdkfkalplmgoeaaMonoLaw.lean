/-
  What is within a span stays within, through all operations: plain law.
-/
import Derived.Test.YtdkfkalplmgoeaaMonoFew
namespace Go.Proofs.Ytdkfkalplmgoeaa
open Go.RowKit

theorem add_wi {a a' b b' : Sp} (ha : Wi a a') (hb : Wi b b') (h : (addR a b).e = 0) (h' : (addR a' b').e = 0) : Wi (addR a b).s (addR a' b').s := by
  rw [(add_zero h).2.2, (add_zero h').2.2]
  unfold Wi at *
  simp only
  omega
theorem neg_wi {a a' : Sp} (ha : Wi a a') : Wi (negS a) (negS a') := by
  unfold Wi negS at *
  simp only
  omega
theorem sub_wi {a a' b b' : Sp} (ha : Wi a a') (hb : Wi b b') (h : (subR a b).e = 0) (h' : (subR a' b').e = 0) : Wi (subR a b).s (subR a' b').s := by
  have h1 := (sub_zero h).1
  have h2 := (sub_zero h').1
  rw [h1] at h ⊢
  rw [h2] at h' ⊢
  exact add_wi ha (neg_wi hb) h h'
theorem mul_wi {a a' b b' : Sp} (ha : Wi a a') (hb : Wi b b') (h : (mulR a b).e = 0) (h' : (mulR a' b').e = 0) : Wi (mulR a b).s (mulR a' b').s := by
  obtain ⟨ka, kb, e⟩ := mul_zero h
  obtain ⟨-, -, e'⟩ := mul_zero h'
  rw [e, e']
  have la := ok_le ka
  have lb := ok_le kb
  unfold Wi at ha hb
  have c1 := corner (a := a'.lo) (b := a'.hi) (c := b'.lo) (d := b'.hi) (x := a.lo) (y := b.lo) ha.1 (by omega) hb.1 (by omega)
  have c2 := corner (a := a'.lo) (b := a'.hi) (c := b'.lo) (d := b'.hi) (x := a.lo) (y := b.hi) ha.1 (by omega) (show b'.lo ≤ b.hi by omega) hb.2
  have c3 := corner (a := a'.lo) (b := a'.hi) (c := b'.lo) (d := b'.hi) (x := a.hi) (y := b.lo) (show a'.lo ≤ a.hi by omega) ha.2 hb.1 (by omega)
  have c4 := corner (a := a'.lo) (b := a'.hi) (c := b'.lo) (d := b'.hi) (x := a.hi) (y := b.hi) (show a'.lo ≤ a.hi by omega) ha.2 (show b'.lo ≤ b.hi by omega) hb.2
  exact ⟨down_mono _ (by decide) (le_min4 c1.1 c2.1 c3.1 c4.1), up_mono _ (by decide) (max4_le c1.2 c2.2 c3.2 c4.2)⟩
theorem abs_wi {a a' : Sp} (ha : Wi a a') (h : a.lo ≤ a.hi) : Wi (absS a) (absS a') := by
  unfold Wi at *
  rw [abs_lo, abs_lo, abs_hi, abs_hi]
  constructor
  · (repeat' split) <;> omega
  · (repeat' split) <;> omega
theorem square_wi {a a' : Sp} (ha : Wi a a') (h : (squareR a).e = 0) (h' : (squareR a').e = 0) : Wi (squareR a).s (squareR a').s := by
  obtain ⟨k, e⟩ := square_zero h
  obtain ⟨k', e'⟩ := square_zero h'
  rw [e] at h ⊢
  rw [e'] at h' ⊢
  exact mul_wi (abs_wi ha (ok_le k)) (abs_wi ha (ok_le k)) h h'
theorem root_wi {a a' : Sp} (ha : Wi a a') (h : (rootR a).e = 0) (h' : (rootR a').e = 0) (hi : a'.hi ≤ 9223372036854775807) : Wi (rootR a).s (rootR a').s := by
  obtain ⟨k, n, e⟩ := root_zero h
  obtain ⟨k', n', e'⟩ := root_zero h'
  have l := ok_le k
  have l' := ok_le k'
  unfold Wi at ha
  rw [e, e']
  constructor
  · refine rootZ_mono ?_ ?_ ?_ <;> (unfold imax; (repeat' split) <;> omega)
  · exact rootUp_mono (by omega) (by omega) (by omega)
theorem fold_wi {α : Type} (f : α → Res) (Q : α → α → Prop) (hf : ∀ x y, Q x y → (f x).e = 0 → (f y).e = 0 → Wi (f x).s (f y).s) : ∀ (l l' : List α) (s s' : Sp), All2 Q l l' → Wi s s' → (foldR f s l).e = 0 → (foldR f s' l').e = 0 → Wi (foldR f s l).s (foldR f s' l').s
  | [], [], _, _, _, h, _, _ => h
  | x :: l, y :: l', s, s', .cons q r, h, h1, h2 => by
    obtain ⟨a1, a2, a3⟩ := fold_zero h1
    obtain ⟨b1, b2, b3⟩ := fold_zero h2
    rw [a3] at h1 ⊢
    rw [b3] at h2 ⊢
    exact fold_wi f Q hf l l' _ _ r (add_wi h (hf x y q a1 b1) a2 b2) h1 h2
theorem norm_wi {l l' : List Sp} (hl : All2 Wi l l') (h : (normR l).e = 0) (h' : (normR l').e = 0) : Wi (normR l).s (normR l').s := by
  obtain ⟨a1, a2⟩ := norm_zero h
  obtain ⟨b1, b2⟩ := norm_zero h'
  rw [a2] at h ⊢
  rw [b2] at h' ⊢
  exact root_wi (fold_wi squareR Wi (fun x y q => square_wi q) l l' z0 z0 hl (Wi.refl _) a1 b1) h h' (fold_num squareR l' z0 (by decide) b1)
/-- The same sum, added up from 0. -/
def sumR (l : List Sp) : Res := foldR (fun x => ⟨x, 0⟩) z0 l
theorem sum_three {x y z : Sp} (h : (sumR [x, y, z]).e = 0) : (sumR [x, y, z]).s = ⟨x.lo + y.lo + z.lo, x.hi + y.hi + z.hi⟩ := by
  unfold sumR at *
  obtain ⟨-, a2, a3⟩ := fold_zero h
  rw [a3] at h ⊢
  obtain ⟨-, b2, b3⟩ := fold_zero h
  rw [b3] at h ⊢
  obtain ⟨-, c2, c3⟩ := fold_zero h
  rw [c3, (add_zero c2).2.2, (add_zero b2).2.2, (add_zero a2).2.2]
  simp [foldR]

end Go.Proofs.Ytdkfkalplmgoeaa
