/-
  What abort's Clear and Separates compute: plain law.
-/
import Derived.Test.YtjnednehcjfkmaaRefDivs
namespace Go.Proofs.Ytjnednehcjfkmaa
open Go.RowKit
set_option maxRecDepth 100000
/-- A component at some times: the place d, the velocity v, the acceleration a. -/
def al1 (v u : Sp) : Res := mulR v u
def al2 (d v u : Sp) : Res := doR (al1 v u).e (addR d (al1 v u).s)
def al3 (d v u : Sp) : Res := doR (al2 d v u).e (squareR u)
def al4 (d v a u : Sp) : Res := doR (al3 d v u).e (mulR a (al3 d v u).s)
def al5 (d v a u : Sp) : Res := doR (al4 d v a u).e (divR (al4 d v a u).s (wholeS 2))
def alongR (d v a u : Sp) : Res := doR (al5 d v a u).e (addR (al2 d v u).s (al5 d v a u).s)
instance s64_al1 (v u : Sp) : S64 (al1 v u).s := s64_mul v u
instance s64_al2 (d v u : Sp) : S64 (al2 d v u).s := s64_do _ _
instance s64_al3 (d v u : Sp) : S64 (al3 d v u).s := s64_do _ _
instance s64_al4 (d v a u : Sp) : S64 (al4 d v a u).s := s64_do _ _
instance s64_al5 (d v a u : Sp) : S64 (al5 d v a u).s := s64_do _ _
instance s64_along (d v a u : Sp) : S64 (alongR d v a u).s := s64_do _ _
theorem doR_doR (e : Int) (r : Res) (f : Sp → Res) : doR (doR e r).e (f (doR e r).s) = doR e (doR r.e (f r.s)) := by
  by_cases h : e = 0
  · subst h
    rw [doR_ok, doR_ok]
  · rw [doR_bad r h, doR_bad _ h]
    exact doR_bad _ h
theorem doR_e_ne {e : Int} (r : Res) (h : e ≠ 0) : (doR e r).e = e := by rw [doR_bad r h]; rfl
/-- The same of a calculation that has an error already: it stays. -/
theorem doR_stay {e : Int} (h : e ≠ 0) (r : Res) : doR e r = errR e := doR_bad r h
structure Mo where
  d : Bx
  w : Bx
  a : Bx
  t : Int
  n : Int
class Mo64 (m : Mo) : Prop where
  d : B64 m.d
  w : B64 m.w
  a : B64 m.a
instance mo64_d (m : Mo) [h : Mo64 m] : B64 m.d := h.d
instance mo64_w (m : Mo) [h : Mo64 m] : B64 m.w := h.w
instance mo64_a (m : Mo) [h : Mo64 m] : B64 m.a := h.a
def ln1 (m : Mo) (u : Sp) : Res := alongR m.d.x m.w.x m.a.x u
def ln2 (m : Mo) (u : Sp) : Res := doR (ln1 m u).e (alongR m.d.y m.w.y m.a.y u)
def ln3 (m : Mo) (u : Sp) : Res := doR (ln2 m u).e (alongR m.d.z m.w.z m.a.z u)
def lengthR (m : Mo) (u : Sp) : Res := doR (ln3 m u).e (normR [(ln1 m u).s, (ln2 m u).s, (ln3 m u).s])
instance s64_length (m : Mo) (u : Sp) : S64 (lengthR m u).s := s64_do _ _
instance s64_ln1 (m : Mo) (u : Sp) : S64 (ln1 m u).s := s64_along _ _ _ _
instance s64_ln2 (m : Mo) (u : Sp) : S64 (ln2 m u).s := s64_do _ _
instance s64_ln3 (m : Mo) (u : Sp) : S64 (ln3 m u).s := s64_do _ _
def mo1 (m : Mo) (k : Int) : Res := scaleR ⟨m.t, m.t⟩ k
def momentR (m : Mo) (k : Int) : Res := doR (mo1 m k).e (divR (mo1 m k).s (wholeS m.n))
instance s64_moment (m : Mo) (k : Int) : S64 (momentR m k).s := s64_do _ _
instance s64_mo1 (m : Mo) (k : Int) : S64 (mo1 m k).s := s64_scale _ _
/-- The numbers of a motion are in their ranges. -/
def Mo.fair (m : Mo) : Prop := 0 ≤ m.t ∧ m.t ≤ 9223372036854775807 ∧ 1 ≤ m.n ∧ m.n ≤ 1024
def Mo.spansB (m : Mo) : Bool := m.d.okB && m.w.okB && m.a.okB
def Mo.flagB (m : Mo) : Bool := decide (0 ≤ m.t) && decide (1 ≤ m.n) && decide (m.n ≤ 1024)
def Mo.okB (m : Mo) : Bool := m.spansB && m.flagB
theorem Mo.fair_of {m : Mo} (h : m.flagB = true) (ht : I64 m.t) : m.fair := by
  unfold Mo.flagB at h
  unfold I64 at ht
  simp at h
  unfold Mo.fair
  omega
theorem moment_law (m : Mo) (k : Int) (hm : m.fair) (h0 : 0 ≤ k) : momentR m k = if m.t * k ≤ 9223372036854775807 then ⟨⟨m.t * k / m.n, upZ (m.t * k) m.n⟩, 0⟩ else errR 4 := by
  obtain ⟨h1, h2, h3, h4⟩ := hm
  have hp : 0 ≤ m.t * k := Int.mul_nonneg h1 h0
  have e1 : mo1 m k = fitR (m.t * k) (m.t * k) := by
    unfold mo1 scaleR
    rw [if_pos (show (⟨m.t, m.t⟩ : Sp).okB = true by unfold Sp.okB numB; simp; omega)]
    unfold imin imax
    simp
  unfold momentR
  rw [e1]
  by_cases hk : m.t * k ≤ 9223372036854775807
  · rw [if_pos hk]
    have e2 : fitR (m.t * k) (m.t * k) = ⟨⟨m.t * k, m.t * k⟩, 0⟩ := by unfold fitR isNum; rw [if_pos (by simp; omega)]
    rw [e2]
    show doR 0 (divR ⟨m.t * k, m.t * k⟩ (wholeS m.n)) = _
    rw [doR_ok]
    generalize m.t * k = x at *
    have hq : x * 4294967296 / (m.n * 4294967296) = x / m.n := Int.mul_ediv_mul_of_pos_left x m.n (by omega)
    have hq2 : -x * 4294967296 / (m.n * 4294967296) = -x / m.n := Int.mul_ediv_mul_of_pos_left (-x) m.n (by omega)
    have e3 : ratDown x (m.n * 4294967296) = x / m.n := by unfold ratDown downZ; rw [if_neg (by omega), hq]
    have e4 : ratUp x (m.n * 4294967296) = upZ x m.n := by unfold ratUp upZ; rw [if_neg (by omega), show -(x * 4294967296) = -x * 4294967296 by rw [Int.neg_mul], hq2]
    have b1 := downZ_bd x m.n x hp (by omega) (by omega) h3
    have b2 := upZ_bd x m.n x hp (by omega) (by omega) h3
    unfold downZ at b1
    unfold divR wholeS
    rw [if_pos (by unfold Sp.okB numB; simp; omega), if_neg (by simp; omega)]
    simp only [e3, e4]
    unfold min4 max4 imin imax
    simp only [Int.lt_irrefl, if_false]
    unfold fitR isNum
    rw [if_pos (by simp; omega)]
  · rw [if_neg hk]
    have e2 : fitR (m.t * k) (m.t * k) = errR 4 := by unfold fitR isNum; rw [if_neg (by simp; omega)]
    rw [e2]
    rfl
/-- The span of times of a piece: from the least of its beginning to the greatest of its end. -/
def pieceE (m : Mo) (k : Int) : Int := (doR (momentR m k).e (momentR m (k + 1))).e
def pieceU (m : Mo) (k : Int) : Sp := ⟨(momentR m k).s.lo, (doR (momentR m k).e (momentR m (k + 1))).s.hi⟩
def pieceR (m : Mo) (k : Int) : Res := doR (pieceE m k) (lengthR m (pieceU m k))
theorem piece_err (m : Mo) (k : Int) (hm : m.fair) (h0 : 0 ≤ k) : ((momentR m k).e ≠ 0 → (momentR m k).e = 4 ∧ (momentR m (k + 1)).e = 4) ∧ ((momentR m (k + 1)).e ≠ 0 → (momentR m (k + 1)).e = 4) := by
  rw [moment_law m k hm h0, moment_law m (k + 1) hm (by omega)]
  obtain ⟨h1, h2, h3, h4⟩ := hm
  have hp : 0 ≤ m.t * k := Int.mul_nonneg h1 h0
  rw [Int.mul_add, Int.mul_one]
  refine ⟨fun h => ?_, fun h => ?_⟩
  · split at h
    · exact absurd rfl h
    · rename_i h5
      rw [if_neg h5, if_neg (by omega)]
      exact ⟨rfl, rfl⟩
  · split at h
    · exact absurd rfl h
    · rename_i h5
      rw [if_neg h5]
      rfl
theorem piece_span (m : Mo) (k : Int) (hm : m.fair) (h0 : 0 ≤ k) (h : pieceE m k = 0) : (momentR m k).e = 0 ∧ (momentR m (k + 1)).e = 0 ∧ hullR (momentR m k).s (momentR m (k + 1)).s = ⟨pieceU m k, 0⟩ ∧ pieceU m k = ⟨(momentR m k).s.lo, (momentR m (k + 1)).s.hi⟩ := by
  unfold pieceE at h
  have h5 : (momentR m k).e = 0 := by
    by_cases h6 : (momentR m k).e = 0
    · exact h6
    · rw [doR_e_ne _ h6] at h; exact absurd h h6
  have hU : pieceU m k = ⟨(momentR m k).s.lo, (momentR m (k + 1)).s.hi⟩ := by unfold pieceU; rw [h5, doR_ok]
  rw [h5, doR_ok] at h
  refine ⟨h5, h, ?_, hU⟩
  rw [hU]
  have l1 := moment_law m k hm h0
  have l2 := moment_law m (k + 1) hm (by omega)
  by_cases c1 : m.t * k ≤ 9223372036854775807
  · by_cases c2 : m.t * (k + 1) ≤ 9223372036854775807
    · rw [if_pos c1] at l1
      rw [if_pos c2] at l2
      rw [l1, l2]
      obtain ⟨h1, h2, h3, h4⟩ := hm
      have hp : 0 ≤ m.t * k := Int.mul_nonneg h1 h0
      have hp2 : m.t * k ≤ m.t * (k + 1) := Int.mul_le_mul_of_nonneg_left (by omega) h1
      generalize m.t * k = x at *
      generalize m.t * (k + 1) = y at *
      have d1 : x / m.n ≤ y / m.n := Int.ediv_le_ediv (by omega) hp2
      have d2 : -y / m.n ≤ -x / m.n := Int.ediv_le_ediv (by omega) (by omega)
      have b1 := downZ_bd x m.n x hp (by omega) (by omega) h3
      have b2 := upZ_bd x m.n x hp (by omega) (by omega) h3
      have b3 := downZ_bd y m.n y (by omega) (by omega) (by omega) h3
      have b4 := upZ_bd y m.n y (by omega) (by omega) (by omega) h3
      have u1 := upZ_law x m.n h3
      have u2 := upZ_law y m.n h3
      have n1 := Int.ediv_nonneg hp (show 0 ≤ m.n by omega)
      have n2 := Int.ediv_nonneg (show 0 ≤ y by omega) (show 0 ≤ m.n by omega)
      have c3 : upZ x m.n ≤ upZ y m.n := by unfold upZ; omega
      have c4 : x / m.n ≤ upZ x m.n := by rw [u1]; split <;> omega
      have c5 : y / m.n ≤ upZ y m.n := by rw [u2]; split <;> omega
      unfold downZ at b1 b3
      unfold hullR
      rw [if_pos (by unfold Sp.okB numB; simp; omega)]
      unfold hullS imin imax
      simp only []
      congr 2
      · rw [if_neg (by omega)]
      · split <;> omega
    · rw [l2, if_neg c2] at h
      exact absurd h (by decide)
  · rw [l1, if_neg c1] at h5
    exact absurd h5 (by decide)
/-- The least of the pieces from k on, or the first error. -/
def clearScan (f : Nat → Res) : Nat → Nat → Int → Int × Int
  | 0, _, out => (out, 0)
  | j + 1, k, out => if (f k).e = 0 then clearScan f j (k + 1) (imin out (f k).s.lo) else (0, (f k).e)
def clearR (m : Mo) : Int × Int := if m.okB then clearScan (fun k => pieceR m k) m.n.toNat 0 9223372036854775807 else (0, 2)
/-- Whether it is near at a time, or the first error. -/
def nearR (m : Mo) (k : Int) : Res := doR (momentR m k).e (lengthR m (momentR m k).s)
def nearScan (f : Nat → Res) (keep : Int) : Nat → Nat → Bool → Bool × Int
  | 0, _, b => (b, 0)
  | j + 1, k, b => if (f k).e = 0 then nearScan f keep j (k + 1) (b || decide ((f k).s.hi < keep)) else (false, (f k).e)
def sepR (m : Mo) (keep : Int) : Int × Int :=
  if m.okB && numB keep then
    if (clearR m).2 = 0 then
      if (nearScan (fun k => nearR m k) keep (m.n.toNat + 1) 0 false).2 = 0 then
        (if keep ≤ (clearR m).1 then 1 else if (nearScan (fun k => nearR m k) keep (m.n.toNat + 1) 0 false).1 then -1 else 0, 0)
      else (0, (nearScan (fun k => nearR m k) keep (m.n.toNat + 1) 0 false).2)
    else (0, (clearR m).2)
  else (0, 2)
end Go.Proofs.Ytjnednehcjfkmaa
