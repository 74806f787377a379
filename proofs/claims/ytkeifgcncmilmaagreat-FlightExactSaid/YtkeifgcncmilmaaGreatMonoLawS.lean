/-
  What is within a span stays within, through all operations: plain law.
-/
import Derived.Test.YtkeifgcncmilmaaGreatMonoFewS
namespace Go.Proofs.YtkeifgcncmilmaaGreat
open Go.RowKit

theorem neg_wi {a a' : Sp} (ha : Wi a a') : Wi (negS a) (negS a') := by
  unfold Wi negS at *
  simp only
  omega
theorem abs_wi {a a' : Sp} (ha : Wi a a') (h : a.lo ≤ a.hi) : Wi (absS a) (absS a') := by
  unfold Wi at *
  rw [abs_lo, abs_lo, abs_hi, abs_hi]
  constructor
  · (repeat' split) <;> omega
  · (repeat' split) <;> omega
theorem root_wi {a a' : Sp} (ha : Wi a a') (h : (rootR a).e = 0) (h' : (rootR a').e = 0) (hi : a'.hi ≤ 9223372036854775807) : Wi (rootR a).s (rootR a').s := by
  obtain ⟨k, n, e⟩ := root_zero h
  obtain ⟨k', n', e'⟩ := root_zero h'
  have l := ok_le k
  have l' := ok_le k'
  unfold Wi at ha
  rw [e, e']
  constructor
  · refine rootZ_mono ?_ ?_ ?_ <;> (unfold imax; (repeat' split) <;> omega)
  · exact rootUp_mono (by omega) (by omega) (by omega)
/-- The same sum, added up from 0. -/
def sumR (l : List Sp) : Res := foldR (fun x => ⟨x, 0⟩) z0 l
end Go.Proofs.YtkeifgcncmilmaaGreat
