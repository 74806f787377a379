/-
  Plain words: integers of 128 bits with a sign; spans with an error, and what the operations of layer 1 compute.
-/
import Derived.Test.YtochpnomfedhoaaGreatVocab
namespace Go.Proofs.YtochpnomfedhoaaGreat
open Go.RowKit

/-- A sign and 128 bits. -/
structure Big where
  neg : Bool
  hi : Int
  lo : Int
def Big.m (a : Big) : Int := a.hi * 18446744073709551616 + a.lo
def Big.val (a : Big) : Int := if a.neg then -a.m else a.m
/-- A Big as a number, if it fits. -/
def Big.numB (a : Big) : Bool := decide (a.m ≤ 9223372036854775807)
def Big.numV (a : Big) : Int := if a.m ≤ 9223372036854775807 then a.val else 0
theorem ret_num {x : Int} {b : Bool} {a : Big} (h1 : x = a.numV) (h2 : b = a.numB) : Ending.returned (.tuple #[.int .i64 x, .bool b]) = .returned (.tuple #[.int .i64 a.numV, .bool a.numB]) := by rw [h1, h2]
def U64 (n : Int) : Prop := 0 ≤ n ∧ n ≤ 18446744073709551615
def Big.ok (a : Big) : Prop := U64 a.hi ∧ U64 a.lo
def mkBig (neg : Bool) (m : Int) : Big := ⟨neg, m / 18446744073709551616, m % 18446744073709551616⟩
/-- Below 2^128. -/
def B128 (m : Int) : Prop := 0 ≤ m ∧ m ≤ 340282366920938463463374607431768211455
theorem mkBig_m (neg : Bool) (m : Int) : (mkBig neg m).m = m := by
  unfold Big.m mkBig; simp only []; omega
theorem mkBig_neg (neg : Bool) (m : Int) : (mkBig neg m).neg = neg := rfl
theorem mkBig_val (neg : Bool) (m : Int) : (mkBig neg m).val = if neg then -m else m := by
  unfold Big.val; rw [mkBig_m, mkBig_neg]
theorem mkBig_ok (neg : Bool) (m : Int) (h : B128 m) : (mkBig neg m).ok := by
  unfold Big.ok mkBig U64; unfold B128 at h; simp only []; omega
theorem Big.ok_m {a : Big} (h : a.ok) : B128 a.m := by
  unfold Big.ok U64 at h; unfold B128 Big.m; omega
theorem big_mk {a : Big} (h : a.ok) : mkBig a.neg a.m = a := by
  unfold Big.ok U64 at h
  obtain ⟨n, x, y⟩ := a
  unfold mkBig Big.m
  simp only [] at h ⊢
  congr 1 <;> omega
theorem big_eq {n : Bool} {x y m : Int} (_hx : U64 x) (hy : U64 y) (h : x * 18446744073709551616 + y = m) : (⟨n, x, y⟩ : Big) = mkBig n m := by
  unfold U64 at hy
  unfold mkBig
  congr 1 <;> omega
/-- The sum of two signed integers, as a sign and a size. -/
def plusB (a b : Big) : Big := if a.neg = b.neg then mkBig a.neg (a.m + b.m) else if a.m < b.m then mkBig b.neg (b.m - a.m) else mkBig a.neg (a.m - b.m)
theorem plusB_val (a b : Big) : (plusB a b).val = a.val + b.val := by
  unfold plusB
  split
  · rw [mkBig_val]; unfold Big.val; rename_i h; rw [← h]; split <;> omega
  · rename_i h
    split <;> rw [mkBig_val] <;> unfold Big.val <;> cases h1 : a.neg <;> cases h2 : b.neg <;> simp_all <;> omega
theorem plusB_ok {a b : Big} (ha : a.ok) (hb : b.ok) (h : B128 (a.m + b.m)) : (plusB a b).ok := by
  have h1 := Big.ok_m ha
  have h2 := Big.ok_m hb
  unfold B128 at *
  unfold plusB
  split
  · exact mkBig_ok _ _ (by unfold B128; omega)
  · split <;> exact mkBig_ok _ _ (by unfold B128; omega)

theorem ret_big {n : Bool} {x y : Int} {r : Big} (h : (⟨n, x, y⟩ : Big) = r) : Ending.returned (.agg #[.bool n, .int .u64 x, .int .u64 y]) = .returned (.agg #[.bool r.neg, .int .u64 r.hi, .int .u64 r.lo]) := by rw [← h]
/-! Spans with an error. -/
structure Res where
  s : Sp
  e : Int
theorem ret_sp {x y : Int} {r : Sp} (h : (⟨x, y⟩ : Sp) = r) : Ending.returned (.agg #[.int .i64 x, .int .i64 y]) = .returned (.agg #[.int .i64 r.lo, .int .i64 r.hi]) := by rw [← h]
theorem ret_res {x y e : Int} {r : Res} (h : (⟨⟨x, y⟩, e⟩ : Res) = r) : Ending.returned (.tuple #[.agg #[.int .i64 x, .int .i64 y], .int .i64 e]) = .returned (.tuple #[.agg #[.int .i64 r.s.lo, .int .i64 r.s.hi], .int .i64 r.e]) := by rw [← h]
abbrev z0 : Sp := ⟨0, 0⟩
def errR (e : Int) : Res := ⟨⟨0, 0⟩, e⟩
def isNum (n : Int) : Bool := decide (-9223372036854775807 ≤ n) && decide (n ≤ 9223372036854775807)
/-- A span of two integers, if they fit. -/
def fitR (lo hi : Int) : Res := if isNum lo && isNum hi then ⟨⟨lo, hi⟩, 0⟩ else errR 4
theorem fit_law (a b : Big) (ha : a.ok) (hb : b.ok) : fitR a.val b.val = if a.numB && b.numB then ⟨⟨a.numV, b.numV⟩, 0⟩ else errR 4 := by
  have h1 := Big.ok_m ha
  have h2 := Big.ok_m hb
  have e1 : isNum a.val = a.numB := by
    rw [Bool.eq_iff_iff]; unfold isNum Big.numB Big.val; unfold B128 at h1; cases a.neg <;> simp <;> omega
  have e2 : isNum b.val = b.numB := by
    rw [Bool.eq_iff_iff]; unfold isNum Big.numB Big.val; unfold B128 at h2; cases b.neg <;> simp <;> omega
  unfold fitR
  rw [e1, e2]
  cases h3 : a.numB <;> cases h4 : b.numB <;> simp
  unfold Big.numB at h3 h4
  unfold Big.numV
  rw [if_pos (by simpa using h3), if_pos (by simpa using h4)]
  exact ⟨rfl, rfl⟩
def addR (a b : Sp) : Res := if a.okB && b.okB then fitR (a.lo + b.lo) (a.hi + b.hi) else errR 2
def negS (a : Sp) : Sp := ⟨-a.hi, -a.lo⟩
def negR (a : Sp) : Res := if a.okB then ⟨negS a, 0⟩ else errR 2
def subR (a b : Sp) : Res := if b.okB then addR a (negS b) else errR 2
def imin (a b : Int) : Int := if b < a then b else a
def imax (a b : Int) : Int := if a < b then b else a
def min4 (a b c d : Int) : Int := imin (imin (imin a b) c) d
def max4 (a b c d : Int) : Int := imax (imax (imax a b) c) d
/-- A quotient rounded down, and up (the divisor is above 0). -/
def downZ (a b : Int) : Int := a / b
def upZ (a b : Int) : Int := -(-a / b)
def scaleR (a : Sp) (n : Int) : Res := if a.okB then fitR (imin (a.lo * n) (a.hi * n)) (imax (a.lo * n) (a.hi * n)) else errR 2
def mulR (a b : Sp) : Res := if a.okB && b.okB then fitR (downZ (min4 (a.lo * b.lo) (a.lo * b.hi) (a.hi * b.lo) (a.hi * b.hi)) 4294967296) (upZ (max4 (a.lo * b.lo) (a.lo * b.hi) (a.hi * b.lo) (a.hi * b.hi)) 4294967296) else errR 2
/-- A quotient times 2^32, rounded down, and up (the divisor is not 0). -/
def ratDown (a b : Int) : Int := if b < 0 then downZ (-a * 4294967296) (-b) else downZ (a * 4294967296) b
def ratUp (a b : Int) : Int := if b < 0 then upZ (-a * 4294967296) (-b) else upZ (a * 4294967296) b
def divR (a b : Sp) : Res :=
  if a.okB && b.okB then
    if decide (b.lo ≤ 0) && decide (0 ≤ b.hi) then errR 10
    else fitR (min4 (ratDown a.lo b.lo) (ratDown a.lo b.hi) (ratDown a.hi b.lo) (ratDown a.hi b.hi)) (max4 (ratUp a.lo b.lo) (ratUp a.lo b.hi) (ratUp a.hi b.lo) (ratUp a.hi b.hi))
  else errR 2
def absS (a : Sp) : Sp := if 0 ≤ a.lo then a else if a.hi ≤ 0 then negS a else ⟨0, imax (-a.lo) a.hi⟩
def absR (a : Sp) : Res := if a.okB then ⟨absS a, 0⟩ else errR 2
def squareR (a : Sp) : Res := if a.okB then mulR (absS a) (absS a) else errR 2
/-- The greatest r whose square is at most x, bit by bit. -/
def rootAt : Nat → Int → Int → Int
  | 0, r, _ => r
  | k + 1, r, x => rootAt k (if (r + 2 ^ k) * (r + 2 ^ k) ≤ x then r + 2 ^ k else r) x
def rootZ (x : Int) : Int := rootAt 49 0 x
def rootUp (x : Int) : Int := if rootZ x * rootZ x = x then rootZ x else rootZ x + 1
def rootR (a : Sp) : Res := if a.okB then (if a.hi < 0 then errR 4 else ⟨⟨rootZ (imax a.lo 0 * 4294967296), rootUp (a.hi * 4294967296)⟩, 0⟩) else errR 2
def hullS (a b : Sp) : Sp := ⟨imin a.lo b.lo, imax a.hi b.hi⟩
def hullR (a b : Sp) : Res := if a.okB && b.okB then ⟨hullS a b, 0⟩ else errR 2
def meetS (a b : Sp) : Sp := ⟨imax a.lo b.lo, imin a.hi b.hi⟩
def meetR (a b : Sp) : Res := if a.okB && b.okB then (if (meetS a b).hi < (meetS a b).lo then errR 7 else ⟨meetS a b, 0⟩) else errR 2
/-- Terms are added up, up to the first error. -/
def foldR {α : Type} (f : α → Res) : Sp → List α → Res
  | s, [] => ⟨s, 0⟩
  | s, x :: l => if (f x).e = 0 then (if (addR s (f x).s).e = 0 then foldR f (addR s (f x).s).s l else errR (addR s (f x).s).e) else errR (f x).e
def normR (l : List Sp) : Res :=
  if l.length ≤ 64 then (if l.all Sp.okB then (if (foldR squareR z0 l).e = 0 then rootR (foldR squareR z0 l).s else errR (foldR squareR z0 l).e) else errR 2) else errR 3
def dotR (l : List (Sp × Sp)) : Res := foldR (fun p => mulR p.1 p.2) z0 l
end Go.Proofs.YtochpnomfedhoaaGreat
