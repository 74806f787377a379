/-
  Plain words: integers of 128 bits with a sign; spans with an error, and what the operations of layer 1 compute.
  Plain arithmetic: how a number of four halves is divided by one of two halves (Knuth's step).
  What is of 64 bits (met by instances).
-/
import Derived.Test.YtffbipcdlnfihaaCore
namespace Go.Proofs.Ytffbipcdlnfihaa
open Go.RowKit

/-- A sign and 128 bits. -/
structure Big where
  neg : Bool
  hi : Int
  lo : Int
def Big.m (a : Big) : Int := a.hi * 18446744073709551616 + a.lo
def Big.val (a : Big) : Int := if a.neg then -a.m else a.m
/-- A Big as a number, if it fits. -/
def Big.numB (a : Big) : Bool := decide (a.m ≤ 9223372036854775807)
def Big.numV (a : Big) : Int := if a.m ≤ 9223372036854775807 then a.val else 0
theorem ret_num {x : Int} {b : Bool} {a : Big} (h1 : x = a.numV) (h2 : b = a.numB) : Ending.returned (.tuple #[.int .i64 x, .bool b]) = .returned (.tuple #[.int .i64 a.numV, .bool a.numB]) := by rw [h1, h2]
def U64 (n : Int) : Prop := 0 ≤ n ∧ n ≤ 18446744073709551615
def Big.ok (a : Big) : Prop := U64 a.hi ∧ U64 a.lo
def mkBig (neg : Bool) (m : Int) : Big := ⟨neg, m / 18446744073709551616, m % 18446744073709551616⟩
/-- Below 2^128. -/
def B128 (m : Int) : Prop := 0 ≤ m ∧ m ≤ 340282366920938463463374607431768211455
theorem mkBig_m (neg : Bool) (m : Int) : (mkBig neg m).m = m := by
  unfold Big.m mkBig; simp only []; omega
theorem mkBig_neg (neg : Bool) (m : Int) : (mkBig neg m).neg = neg := rfl
theorem mkBig_val (neg : Bool) (m : Int) : (mkBig neg m).val = if neg then -m else m := by
  unfold Big.val; rw [mkBig_m, mkBig_neg]
theorem mkBig_ok (neg : Bool) (m : Int) (h : B128 m) : (mkBig neg m).ok := by
  unfold Big.ok mkBig U64; unfold B128 at h; simp only []; omega
theorem Big.ok_m {a : Big} (h : a.ok) : B128 a.m := by
  unfold Big.ok U64 at h; unfold B128 Big.m; omega
theorem big_mk {a : Big} (h : a.ok) : mkBig a.neg a.m = a := by
  unfold Big.ok U64 at h
  obtain ⟨n, x, y⟩ := a
  unfold mkBig Big.m
  simp only [] at h ⊢
  congr 1 <;> omega
theorem big_eq {n : Bool} {x y m : Int} (_hx : U64 x) (hy : U64 y) (h : x * 18446744073709551616 + y = m) : (⟨n, x, y⟩ : Big) = mkBig n m := by
  unfold U64 at hy
  unfold mkBig
  congr 1 <;> omega
/-- The sum of two signed integers, as a sign and a size. -/
def plusB (a b : Big) : Big := if a.neg = b.neg then mkBig a.neg (a.m + b.m) else if a.m < b.m then mkBig b.neg (b.m - a.m) else mkBig a.neg (a.m - b.m)
theorem plusB_val (a b : Big) : (plusB a b).val = a.val + b.val := by
  unfold plusB
  split
  · rw [mkBig_val]; unfold Big.val; rename_i h; rw [← h]; split <;> omega
  · rename_i h
    split <;> rw [mkBig_val] <;> unfold Big.val <;> cases h1 : a.neg <;> cases h2 : b.neg <;> simp_all <;> omega
theorem plusB_ok {a b : Big} (ha : a.ok) (hb : b.ok) (h : B128 (a.m + b.m)) : (plusB a b).ok := by
  have h1 := Big.ok_m ha
  have h2 := Big.ok_m hb
  unfold B128 at *
  unfold plusB
  split
  · exact mkBig_ok _ _ (by unfold B128; omega)
  · split <;> exact mkBig_ok _ _ (by unfold B128; omega)

theorem ret_big {n : Bool} {x y : Int} {r : Big} (h : (⟨n, x, y⟩ : Big) = r) : Ending.returned (.agg #[.bool n, .int .u64 x, .int .u64 y]) = .returned (.agg #[.bool r.neg, .int .u64 r.hi, .int .u64 r.lo]) := by rw [← h]
/-! Spans with an error. -/
structure Res where
  s : Sp
  e : Int
theorem ret_sp {x y : Int} {r : Sp} (h : (⟨x, y⟩ : Sp) = r) : Ending.returned (.agg #[.int .i64 x, .int .i64 y]) = .returned (.agg #[.int .i64 r.lo, .int .i64 r.hi]) := by rw [← h]
theorem ret_res {x y e : Int} {r : Res} (h : (⟨⟨x, y⟩, e⟩ : Res) = r) : Ending.returned (.tuple #[.agg #[.int .i64 x, .int .i64 y], .int .i64 e]) = .returned (.tuple #[.agg #[.int .i64 r.s.lo, .int .i64 r.s.hi], .int .i64 r.e]) := by rw [← h]
abbrev z0 : Sp := ⟨0, 0⟩
def errR (e : Int) : Res := ⟨⟨0, 0⟩, e⟩
def isNum (n : Int) : Bool := decide (-9223372036854775807 ≤ n) && decide (n ≤ 9223372036854775807)
/-- A span of two integers, if they fit. -/
def fitR (lo hi : Int) : Res := if isNum lo && isNum hi then ⟨⟨lo, hi⟩, 0⟩ else errR 4
theorem fit_law (a b : Big) (ha : a.ok) (hb : b.ok) : fitR a.val b.val = if a.numB && b.numB then ⟨⟨a.numV, b.numV⟩, 0⟩ else errR 4 := by
  have h1 := Big.ok_m ha
  have h2 := Big.ok_m hb
  have e1 : isNum a.val = a.numB := by
    rw [Bool.eq_iff_iff]; unfold isNum Big.numB Big.val; unfold B128 at h1; cases a.neg <;> simp <;> omega
  have e2 : isNum b.val = b.numB := by
    rw [Bool.eq_iff_iff]; unfold isNum Big.numB Big.val; unfold B128 at h2; cases b.neg <;> simp <;> omega
  unfold fitR
  rw [e1, e2]
  cases h3 : a.numB <;> cases h4 : b.numB <;> simp
  unfold Big.numB at h3 h4
  unfold Big.numV
  rw [if_pos (by simpa using h3), if_pos (by simpa using h4)]
  exact ⟨rfl, rfl⟩
def addR (a b : Sp) : Res := if a.okB && b.okB then fitR (a.lo + b.lo) (a.hi + b.hi) else errR 2
def negS (a : Sp) : Sp := ⟨-a.hi, -a.lo⟩
def negR (a : Sp) : Res := if a.okB then ⟨negS a, 0⟩ else errR 2
def subR (a b : Sp) : Res := if b.okB then addR a (negS b) else errR 2
def imin (a b : Int) : Int := if b < a then b else a
def imax (a b : Int) : Int := if a < b then b else a
def min4 (a b c d : Int) : Int := imin (imin (imin a b) c) d
def max4 (a b c d : Int) : Int := imax (imax (imax a b) c) d
/-- A quotient rounded down, and up (the divisor is above 0). -/
def downZ (a b : Int) : Int := a / b
def upZ (a b : Int) : Int := -(-a / b)
def scaleR (a : Sp) (n : Int) : Res := if a.okB then fitR (imin (a.lo * n) (a.hi * n)) (imax (a.lo * n) (a.hi * n)) else errR 2
def mulR (a b : Sp) : Res := if a.okB && b.okB then fitR (downZ (min4 (a.lo * b.lo) (a.lo * b.hi) (a.hi * b.lo) (a.hi * b.hi)) 4294967296) (upZ (max4 (a.lo * b.lo) (a.lo * b.hi) (a.hi * b.lo) (a.hi * b.hi)) 4294967296) else errR 2
/-- A quotient times 2^32, rounded down, and up (the divisor is not 0). -/
def ratDown (a b : Int) : Int := if b < 0 then downZ (-a * 4294967296) (-b) else downZ (a * 4294967296) b
def ratUp (a b : Int) : Int := if b < 0 then upZ (-a * 4294967296) (-b) else upZ (a * 4294967296) b
def divR (a b : Sp) : Res :=
  if a.okB && b.okB then
    if decide (b.lo ≤ 0) && decide (0 ≤ b.hi) then errR 10
    else fitR (min4 (ratDown a.lo b.lo) (ratDown a.lo b.hi) (ratDown a.hi b.lo) (ratDown a.hi b.hi)) (max4 (ratUp a.lo b.lo) (ratUp a.lo b.hi) (ratUp a.hi b.lo) (ratUp a.hi b.hi))
  else errR 2
def absS (a : Sp) : Sp := if 0 ≤ a.lo then a else if a.hi ≤ 0 then negS a else ⟨0, imax (-a.lo) a.hi⟩
def absR (a : Sp) : Res := if a.okB then ⟨absS a, 0⟩ else errR 2
def squareR (a : Sp) : Res := if a.okB then mulR (absS a) (absS a) else errR 2
/-- The greatest r whose square is at most x, bit by bit. -/
def rootAt : Nat → Int → Int → Int
  | 0, r, _ => r
  | k + 1, r, x => rootAt k (if (r + 2 ^ k) * (r + 2 ^ k) ≤ x then r + 2 ^ k else r) x
def rootZ (x : Int) : Int := rootAt 49 0 x
def rootUp (x : Int) : Int := if rootZ x * rootZ x = x then rootZ x else rootZ x + 1
def rootR (a : Sp) : Res := if a.okB then (if a.hi < 0 then errR 4 else ⟨⟨rootZ (imax a.lo 0 * 4294967296), rootUp (a.hi * 4294967296)⟩, 0⟩) else errR 2
def hullS (a b : Sp) : Sp := ⟨imin a.lo b.lo, imax a.hi b.hi⟩
def hullR (a b : Sp) : Res := if a.okB && b.okB then ⟨hullS a b, 0⟩ else errR 2
def meetS (a b : Sp) : Sp := ⟨imax a.lo b.lo, imin a.hi b.hi⟩
def meetR (a b : Sp) : Res := if a.okB && b.okB then (if (meetS a b).hi < (meetS a b).lo then errR 7 else ⟨meetS a b, 0⟩) else errR 2
/-- Terms are added up, up to the first error. -/
def foldR {α : Type} (f : α → Res) : Sp → List α → Res
  | s, [] => ⟨s, 0⟩
  | s, x :: l => if (f x).e = 0 then (if (addR s (f x).s).e = 0 then foldR f (addR s (f x).s).s l else errR (addR s (f x).s).e) else errR (f x).e
def normR (l : List Sp) : Res :=
  if l.length ≤ 64 then (if l.all Sp.okB then (if (foldR squareR z0 l).e = 0 then rootR (foldR squareR z0 l).s else errR (foldR squareR z0 l).e) else errR 2) else errR 3
def dotR (l : List (Sp × Sp)) : Res := foldR (fun p => mulR p.1 p.2) z0 l
end Go.Proofs.Ytffbipcdlnfihaa
namespace Go.Proofs.Ytffbipcdlnfihaa
/-- Knuth's step: a quotient digit of a number of three halves by one of two halves. -/
theorem digit_start (u32 u1 y1 y0 : Int) (hy1 : 2147483648 ≤ y1) (hy0 : 0 ≤ y0) (hy0' : y0 < 4294967296) (hu : 0 ≤ u32) (hu2 : u32 < y1 * 4294967296 + y0) (hu1 : 0 ≤ u1) (hu1' : u1 < 4294967296) :
    (u32 * 4294967296 + u1) / (y1 * 4294967296 + y0) ≤ u32 / y1 ∧ u32 / y1 ≤ 4294967297 ∧ 0 ≤ u32 - u32 / y1 * y1 ∧ u32 - u32 / y1 * y1 < y1 ∧ 0 ≤ u32 / y1 := by
  have h1 := Int.emod_nonneg u32 (show y1 ≠ 0 by omega)
  have h2 := Int.emod_lt_of_pos u32 (show 0 < y1 by omega)
  have h3 := Int.mul_ediv_add_emod u32 y1
  rw [Int.mul_comm] at h3
  have h0 : 0 ≤ u32 / y1 := Int.ediv_nonneg hu (by omega)
  generalize u32 / y1 = q at *
  refine ⟨?_, ?_, by omega, by omega, h0⟩
  · apply Int.le_of_lt_add_one
    apply Int.ediv_lt_of_lt_mul (by omega)
    have e1 : (q + 1) * (y1 * 4294967296 + y0) = (q * y1 + y1) * 4294967296 + (q + 1) * y0 := by
      rw [Int.mul_add, ← Int.mul_assoc, Int.add_mul, Int.one_mul]
    have e2 : 0 ≤ (q + 1) * y0 := Int.mul_nonneg (by omega) hy0
    rw [e1]
    omega
  · apply Int.le_of_lt_add_one
    have : q * y1 < 4294967298 * y1 := by omega
    exact Int.lt_of_mul_lt_mul_right this (by omega)
theorem digit_test (q u32 u1 y1 y0 : Int) : (4294967296 * (u32 - q * y1) + u1 < q * y0) ↔ (u32 * 4294967296 + u1 < q * (y1 * 4294967296 + y0)) := by
  rw [Int.mul_add, ← Int.mul_assoc, Int.mul_sub]
  omega
theorem digit_over (q u32 u1 y1 y0 : Int) (hy0 : 0 ≤ y0) (hy0' : y0 < 4294967296) (hu1 : 0 ≤ u1) (_hq : 0 ≤ q) (hq2 : q ≤ 4294967296) (hr : 4294967296 ≤ u32 - q * y1) : q * (y1 * 4294967296 + y0) ≤ u32 * 4294967296 + u1 := by
  have h := (digit_test q u32 u1 y1 y0)
  have : q * y0 ≤ 4294967296 * y0 := Int.mul_le_mul_of_nonneg_right hq2 hy0
  omega
theorem digit_end (q u y : Int) (hy : 0 < y) (h1 : u / y ≤ q) (h2 : q * y ≤ u) : q = u / y :=
  Int.le_antisymm (Int.le_ediv_of_mul_le hy h2) h1
theorem digit_next (q u y : Int) (hy : 0 < y) (h2 : u < q * y) : u / y ≤ q - 1 := by
  have := Int.ediv_lt_of_lt_mul hy h2
  omega
/-- A digit is below the base. -/
theorem digit_lt (u32 u1 y : Int) (hy : 0 < y) (hu : u32 < y) (_hu : u1 < 4294967296) : (u32 * 4294967296 + u1) / y < 4294967296 := by
  apply Int.ediv_lt_of_lt_mul hy
  have : (u32 + 1) * 4294967296 ≤ y * 4294967296 := Int.mul_le_mul_of_nonneg_right (by omega) (by omega)
  omega
/-- Two digits are the quotient. -/
theorem digits (u32 u1 u0 y : Int) (hy : 0 < y) :
    (u32 * 4294967296 + u1) / y * 4294967296 + ((u32 * 4294967296 + u1) % y * 4294967296 + u0) / y = (u32 * 18446744073709551616 + (u1 * 4294967296 + u0)) / y ∧
    ((u32 * 4294967296 + u1) % y * 4294967296 + u0) % y = (u32 * 18446744073709551616 + (u1 * 4294967296 + u0)) % y := by
  have h1 := Int.mul_ediv_add_emod (u32 * 4294967296 + u1) y
  generalize (u32 * 4294967296 + u1) / y = q at *
  generalize (u32 * 4294967296 + u1) % y = r at *
  have e : u32 * 18446744073709551616 + (u1 * 4294967296 + u0) = (r * 4294967296 + u0) + y * (q * 4294967296) := by
    rw [← Int.mul_assoc]; omega
  rw [e, Int.add_mul_ediv_left _ _ (by omega), Int.add_mul_emod_self_left]
  exact ⟨by omega, rfl⟩
end Go.Proofs.Ytffbipcdlnfihaa
namespace Go.Proofs.Ytffbipcdlnfihaa
open Go.RowKit

/-- Two halves of 128 bits (two's complement). -/
structure W where
  h : Int
  l : Int
def mkW (x : Int) : W := ⟨x / 18446744073709551616, x % 18446744073709551616⟩
/-- An integer of 128 bits. -/
def R128 (x : Int) : Prop := -170141183460469231731687303715884105728 ≤ x ∧ x ≤ 170141183460469231731687303715884105727
theorem mkW_parts (x : Int) (hx : R128 x) : I64 (mkW x).h ∧ U64 (mkW x).l ∧ (mkW x).h * 18446744073709551616 + (mkW x).l = x := by
  unfold R128 at hx
  unfold mkW I64 U64
  simp only []
  omega
theorem mkW_of {h l x : Int} (hl : U64 l) (e : h * 18446744073709551616 + l = x) : (⟨h, l⟩ : W) = mkW x := by
  unfold U64 at hl
  unfold mkW
  congr 1 <;> omega
theorem ret_w {x y : Int} {r : W} (h : (⟨x, y⟩ : W) = r) : Ending.returned (.agg #[.int .i64 x, .int .u64 y]) = .returned (.agg #[.int .i64 r.h, .int .u64 r.l]) := by rw [← h]
class N64 (n : Int) : Prop where
  is : I64 n
class S64 (a : Sp) : Prop where
  lo : I64 a.lo
  hi : I64 a.hi
class B64 (a : Bx) : Prop where
  x : S64 a.x
  y : S64 a.y
  z : S64 a.z
instance n64_lo (a : Sp) [h : S64 a] : N64 a.lo := ⟨h.lo⟩
instance n64_hi (a : Sp) [h : S64 a] : N64 a.hi := ⟨h.hi⟩
instance n64_zero : N64 0 := ⟨by unfold I64; omega⟩
instance s64_mk (x y : Int) [h : N64 x] [k : N64 y] : S64 ⟨x, y⟩ := ⟨h.is, k.is⟩
instance s64_x (a : Bx) [h : B64 a] : S64 a.x := h.x
instance s64_y (a : Bx) [h : B64 a] : S64 a.y := h.y
instance s64_z (a : Bx) [h : B64 a] : S64 a.z := h.z
instance b64_mk (x y z : Sp) [h : S64 x] [k : S64 y] [m : S64 z] : B64 ⟨x, y, z⟩ := ⟨h, k, m⟩
theorem isNum_i64 {n : Int} (h : isNum n = true) : I64 n := by
  unfold isNum at h
  unfold I64
  simp at h
  omega
instance s64_err (e : Int) : S64 (errR e).s := ⟨by unfold I64 errR; simp, by unfold I64 errR; simp⟩
instance s64_fit (lo hi : Int) : S64 (fitR lo hi).s := by
  unfold fitR
  split
  · rename_i h
    rw [Bool.and_eq_true] at h
    exact ⟨isNum_i64 h.1, isNum_i64 h.2⟩
  · exact s64_err 4
theorem s64_ite {c : Prop} [Decidable c] {r r' : Res} (h : S64 r.s) (h' : S64 r'.s) : S64 (if c then r else r').s := by
  split
  · exact h
  · exact h'
instance s64_add (a b : Sp) : S64 (addR a b).s := s64_ite (s64_fit _ _) (s64_err _)
instance s64_sub (a b : Sp) : S64 (subR a b).s := s64_ite (s64_add _ _) (s64_err _)
instance s64_scale (a : Sp) (n : Int) : S64 (scaleR a n).s := s64_ite (s64_fit _ _) (s64_err _)
instance s64_mul (a b : Sp) : S64 (mulR a b).s := s64_ite (s64_fit _ _) (s64_err _)
instance s64_div (a b : Sp) : S64 (divR a b).s := s64_ite (s64_ite (s64_err _) (s64_fit _ _)) (s64_err _)
instance s64_square (a : Sp) : S64 (squareR a).s := s64_ite (s64_mul _ _) (s64_err _)
theorem okB_num {a : Sp} (h : a.okB = true) : -9223372036854775807 ≤ a.lo ∧ -9223372036854775807 ≤ a.hi ∧ a.lo ≤ a.hi := by
  unfold Sp.okB numB at h
  simp at h
  omega
theorem s64_neg {a : Sp} [h : S64 a] (k : a.okB = true) : S64 (negS a) := by
  have := okB_num k
  have h1 := h.lo
  have h2 := h.hi
  unfold I64 at h1 h2
  exact ⟨by unfold I64 negS; simp only []; omega, by unfold I64 negS; simp only []; omega⟩
instance s64_negR (a : Sp) [h : S64 a] : S64 (negR a).s := by
  unfold negR
  split
  · rename_i k; exact s64_neg k
  · exact s64_err 2
theorem s64_abs {a : Sp} [h : S64 a] (k : a.okB = true) : S64 (absS a) := by
  unfold absS
  split
  · exact h
  · split
    · exact s64_neg k
    · have := okB_num k
      have h1 := h.lo
      have h2 := h.hi
      unfold I64 at h1 h2
      exact ⟨by unfold I64; simp, by unfold I64 imax; simp only []; split <;> omega⟩
instance s64_absR (a : Sp) [h : S64 a] : S64 (absR a).s := by
  unfold absR
  split
  · rename_i k; exact s64_abs k
  · exact s64_err 2
instance s64_hull (a b : Sp) [h : S64 a] [k : S64 b] : S64 (hullS a b) := by
  have h1 := h.lo
  have h2 := h.hi
  have k1 := k.lo
  have k2 := k.hi
  exact ⟨by unfold hullS imin; simp only []; split <;> assumption, by unfold hullS imax; simp only []; split <;> assumption⟩
instance s64_hullR (a b : Sp) [h : S64 a] [k : S64 b] : S64 (hullR a b).s := s64_ite (r := ⟨hullS a b, 0⟩) (s64_hull a b) (s64_err _)
instance s64_meet (a b : Sp) [h : S64 a] [k : S64 b] : S64 (meetS a b) := by
  have h1 := h.lo
  have h2 := h.hi
  have k1 := k.lo
  have k2 := k.hi
  exact ⟨by unfold meetS imax; simp only []; split <;> assumption, by unfold meetS imin; simp only []; split <;> assumption⟩
instance s64_meetR (a b : Sp) [h : S64 a] [k : S64 b] : S64 (meetR a b).s := s64_ite (s64_ite (s64_err _) (show S64 (⟨meetS a b, 0⟩ : Res).s from s64_meet a b)) (s64_err _)
end Go.Proofs.Ytffbipcdlnfihaa
