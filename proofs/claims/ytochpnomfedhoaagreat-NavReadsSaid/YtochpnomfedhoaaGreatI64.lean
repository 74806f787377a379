/-
  What is of 64 bits (met by instances).
-/
import Derived.Test.YtochpnomfedhoaaGreatNum
namespace Go.Proofs.YtochpnomfedhoaaGreat
open Go.RowKit

/-- Two halves of 128 bits (two's complement). -/
structure W where
  h : Int
  l : Int
def mkW (x : Int) : W := ⟨x / 18446744073709551616, x % 18446744073709551616⟩
/-- An integer of 128 bits. -/
def R128 (x : Int) : Prop := -170141183460469231731687303715884105728 ≤ x ∧ x ≤ 170141183460469231731687303715884105727
theorem mkW_parts (x : Int) (hx : R128 x) : I64 (mkW x).h ∧ U64 (mkW x).l ∧ (mkW x).h * 18446744073709551616 + (mkW x).l = x := by
  unfold R128 at hx
  unfold mkW I64 U64
  simp only []
  omega
theorem mkW_of {h l x : Int} (hl : U64 l) (e : h * 18446744073709551616 + l = x) : (⟨h, l⟩ : W) = mkW x := by
  unfold U64 at hl
  unfold mkW
  congr 1 <;> omega
theorem ret_w {x y : Int} {r : W} (h : (⟨x, y⟩ : W) = r) : Ending.returned (.agg #[.int .i64 x, .int .u64 y]) = .returned (.agg #[.int .i64 r.h, .int .u64 r.l]) := by rw [← h]
class N64 (n : Int) : Prop where
  is : I64 n
class S64 (a : Sp) : Prop where
  lo : I64 a.lo
  hi : I64 a.hi
class B64 (a : Bx) : Prop where
  x : S64 a.x
  y : S64 a.y
  z : S64 a.z
instance n64_lo (a : Sp) [h : S64 a] : N64 a.lo := ⟨h.lo⟩
instance n64_hi (a : Sp) [h : S64 a] : N64 a.hi := ⟨h.hi⟩
instance n64_zero : N64 0 := ⟨by unfold I64; omega⟩
instance s64_mk (x y : Int) [h : N64 x] [k : N64 y] : S64 ⟨x, y⟩ := ⟨h.is, k.is⟩
instance s64_x (a : Bx) [h : B64 a] : S64 a.x := h.x
instance s64_y (a : Bx) [h : B64 a] : S64 a.y := h.y
instance s64_z (a : Bx) [h : B64 a] : S64 a.z := h.z
instance b64_mk (x y z : Sp) [h : S64 x] [k : S64 y] [m : S64 z] : B64 ⟨x, y, z⟩ := ⟨h, k, m⟩
theorem isNum_i64 {n : Int} (h : isNum n = true) : I64 n := by
  unfold isNum at h
  unfold I64
  simp at h
  omega
instance s64_err (e : Int) : S64 (errR e).s := ⟨by unfold I64 errR; simp, by unfold I64 errR; simp⟩
instance s64_fit (lo hi : Int) : S64 (fitR lo hi).s := by
  unfold fitR
  split
  · rename_i h
    rw [Bool.and_eq_true] at h
    exact ⟨isNum_i64 h.1, isNum_i64 h.2⟩
  · exact s64_err 4
theorem s64_ite {c : Prop} [Decidable c] {r r' : Res} (h : S64 r.s) (h' : S64 r'.s) : S64 (if c then r else r').s := by
  split
  · exact h
  · exact h'
instance s64_add (a b : Sp) : S64 (addR a b).s := s64_ite (s64_fit _ _) (s64_err _)
instance s64_sub (a b : Sp) : S64 (subR a b).s := s64_ite (s64_add _ _) (s64_err _)
instance s64_scale (a : Sp) (n : Int) : S64 (scaleR a n).s := s64_ite (s64_fit _ _) (s64_err _)
instance s64_mul (a b : Sp) : S64 (mulR a b).s := s64_ite (s64_fit _ _) (s64_err _)
instance s64_div (a b : Sp) : S64 (divR a b).s := s64_ite (s64_ite (s64_err _) (s64_fit _ _)) (s64_err _)
instance s64_square (a : Sp) : S64 (squareR a).s := s64_ite (s64_mul _ _) (s64_err _)
theorem okB_num {a : Sp} (h : a.okB = true) : -9223372036854775807 ≤ a.lo ∧ -9223372036854775807 ≤ a.hi ∧ a.lo ≤ a.hi := by
  unfold Sp.okB numB at h
  simp at h
  omega
theorem s64_neg {a : Sp} [h : S64 a] (k : a.okB = true) : S64 (negS a) := by
  have := okB_num k
  have h1 := h.lo
  have h2 := h.hi
  unfold I64 at h1 h2
  exact ⟨by unfold I64 negS; simp only []; omega, by unfold I64 negS; simp only []; omega⟩
instance s64_negR (a : Sp) [h : S64 a] : S64 (negR a).s := by
  unfold negR
  split
  · rename_i k; exact s64_neg k
  · exact s64_err 2
theorem s64_abs {a : Sp} [h : S64 a] (k : a.okB = true) : S64 (absS a) := by
  unfold absS
  split
  · exact h
  · split
    · exact s64_neg k
    · have := okB_num k
      have h1 := h.lo
      have h2 := h.hi
      unfold I64 at h1 h2
      exact ⟨by unfold I64; simp, by unfold I64 imax; simp only []; split <;> omega⟩
instance s64_absR (a : Sp) [h : S64 a] : S64 (absR a).s := by
  unfold absR
  split
  · rename_i k; exact s64_abs k
  · exact s64_err 2
instance s64_hull (a b : Sp) [h : S64 a] [k : S64 b] : S64 (hullS a b) := by
  have h1 := h.lo
  have h2 := h.hi
  have k1 := k.lo
  have k2 := k.hi
  exact ⟨by unfold hullS imin; simp only []; split <;> assumption, by unfold hullS imax; simp only []; split <;> assumption⟩
instance s64_hullR (a b : Sp) [h : S64 a] [k : S64 b] : S64 (hullR a b).s := s64_ite (r := ⟨hullS a b, 0⟩) (s64_hull a b) (s64_err _)
instance s64_meet (a b : Sp) [h : S64 a] [k : S64 b] : S64 (meetS a b) := by
  have h1 := h.lo
  have h2 := h.hi
  have k1 := k.lo
  have k2 := k.hi
  exact ⟨by unfold meetS imax; simp only []; split <;> assumption, by unfold meetS imin; simp only []; split <;> assumption⟩
instance s64_meetR (a b : Sp) [h : S64 a] [k : S64 b] : S64 (meetR a b).s := s64_ite (s64_ite (s64_err _) (show S64 (⟨meetS a b, 0⟩ : Res).s from s64_meet a b)) (s64_err _)
end Go.Proofs.YtochpnomfedhoaaGreat
