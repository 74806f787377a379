/-
  The lines of a table: plain law.
-/
import Derived.Test.YtkeifgcncmilmaaGreatFlightOksS
import Derived.Test.YtkeifgcncmilmaaGreatSpanDivsS
namespace Go.Proofs.YtkeifgcncmilmaaGreat
open Go.RowKit
/-- The Lo or the Hi of a span. -/
def bnd (up : Bool) (v : Sp) : Int := if up then v.hi else v.lo
/-- How many points at the head of a list lie below a place. -/
def idxT (x : Int) : List Pt → Nat
  | [] => 0
  | p :: l => if p.place < x then idxT x l + 1 else 0
theorem idxT_le (x : Int) : ∀ l : List Pt, idxT x l ≤ l.length
  | [] => Nat.le_refl 0
  | p :: l => by
    unfold idxT
    split
    · have := idxT_le x l
      simp only [List.length_cons]
      omega
    · exact Nat.zero_le _
theorem idxT_is {x : Int} : ∀ {l : List Pt} {i : Nat}, i ≤ l.length → (∀ j (hj : j < l.length), j < i → l[j].place < x) → (∀ hj : i < l.length, x ≤ l[i].place) → idxT x l = i
  | [], i, hi, _, _ => by
    have : i = 0 := by simpa using hi
    subst this
    rfl
  | p :: l, 0, _, _, h2 => by
    have h := h2 (by simp)
    simp only [List.getElem_cons_zero] at h
    unfold idxT
    rw [if_neg (by omega)]
  | p :: l, i + 1, hi, h1, h2 => by
    have h0 := h1 0 (by simp) (by omega)
    simp only [List.getElem_cons_zero] at h0
    unfold idxT
    rw [if_pos h0]
    have := idxT_is (x := x) (l := l) (i := i) (by simpa using hi) (fun j hj hji => by
      have := h1 (j + 1) (by simp only [List.length_cons]; omega) (by omega)
      simpa using this) (fun hj => by
      have := h2 (by simp only [List.length_cons]; omega)
      simpa using this)
    rw [this]
theorem idxT_below {x : Int} : ∀ {l : List Pt} (j : Nat) (hj : j < l.length), j < idxT x l → l[j].place < x
  | [], j, hj, _ => by simp at hj
  | p :: l, j, hj, h => by
    unfold idxT at h
    split at h
    · rename_i hp
      cases j with
      | zero => simpa using hp
      | succ j =>
        have := idxT_below (x := x) (l := l) j (by simpa using hj) (by omega)
        simpa using this
    · omega
theorem idxT_above {x : Int} : ∀ {l : List Pt} (hj : idxT x l < l.length), x ≤ (l[idxT x l]'hj).place
  | [], hj => by simp at hj
  | p :: l, hj => by
    by_cases hp : p.place < x
    · have e : idxT x (p :: l) = idxT x l + 1 := by rw [idxT]; exact if_pos hp
      have hj' : idxT x l < l.length := by rw [e] at hj; simpa using hj
      have := idxT_above (x := x) (l := l) hj'
      simp only [e, List.getElem_cons_succ]
      exact this
    · have e : idxT x (p :: l) = 0 := by rw [idxT]; exact if_neg hp
      simp only [e, List.getElem_cons_zero]
      omega
/-- A line between two points, rounded down and up. -/
def segD (up : Bool) (p q : Pt) (x : Int) : Big := plusB (ofB (bnd up p.value)) (divDown (timesB (bnd up q.value - bnd up p.value) (x - p.place)) (q.place - p.place))
def segU (up : Bool) (p q : Pt) (x : Int) : Big := plusB (ofB (bnd up p.value)) (divUp (timesB (bnd up q.value - bnd up p.value) (x - p.place)) (q.place - p.place))
theorem part_bd {n : Int} (h : partB n = true) : -2305843009213693952 ≤ n ∧ n ≤ 2305843009213693952 := by
  unfold partB at h
  simpa using h
theorem pt_bd {p : Pt} (h : p.okB = true) (up : Bool) : (-2305843009213693952 ≤ p.place ∧ p.place ≤ 2305843009213693952) ∧ -2305843009213693952 ≤ bnd up p.value ∧ bnd up p.value ≤ 2305843009213693952 := by
  unfold Pt.okB at h
  simp only [Bool.and_eq_true] at h
  obtain ⟨⟨⟨h1, -⟩, h3⟩, h4⟩ := h
  refine ⟨part_bd h1, ?_⟩
  unfold bnd
  split
  · exact part_bd h4
  · exact part_bd h3
theorem mul_bd {a b : Int} (ha : -4611686018427387904 ≤ a ∧ a ≤ 4611686018427387904) (hb : 0 ≤ b ∧ b ≤ 4611686018427387904) : (a.natAbs : Int) * b.natAbs < 170141183460469231731687303715884105728 := by
  have h1 : (a.natAbs : Int) ≤ 4611686018427387904 := by omega
  have h2 : (b.natAbs : Int) ≤ 4611686018427387904 := by omega
  calc (a.natAbs : Int) * b.natAbs ≤ 4611686018427387904 * 4611686018427387904 := Int.mul_le_mul h1 h2 (by omega) (by omega)
    _ < _ := by omega
section
variable {up : Bool} {p q : Pt} {x : Int}
theorem seg_facts (hp : p.okB = true) (hq : q.okB = true) (h1 : p.place < x) (h2 : x ≤ q.place) :
    (timesB (bnd up q.value - bnd up p.value) (x - p.place)).ok ∧ (divDown (timesB (bnd up q.value - bnd up p.value) (x - p.place)) (q.place - p.place)).ok ∧ (divUp (timesB (bnd up q.value - bnd up p.value) (x - p.place)) (q.place - p.place)).ok ∧ (segD up p q x).ok ∧ (segU up p q x).ok ∧ B128 ((ofB (bnd up p.value)).m + (divDown (timesB (bnd up q.value - bnd up p.value) (x - p.place)) (q.place - p.place)).m) ∧ B128 ((ofB (bnd up p.value)).m + (divUp (timesB (bnd up q.value - bnd up p.value) (x - p.place)) (q.place - p.place)).m) ∧ (ofB (bnd up p.value)).ok := by
  obtain ⟨p1, p2⟩ := pt_bd hp up
  obtain ⟨q1, q2⟩ := pt_bd hq up
  have hm := mul_bd (a := bnd up q.value - bnd up p.value) (b := x - p.place) (by omega) (by omega)
  have h0 : (0 : Int) ≤ (bnd up q.value - bnd up p.value).natAbs * (x - p.place).natAbs := Int.mul_nonneg (by omega) (by omega)
  have em : (timesB (bnd up q.value - bnd up p.value) (x - p.place)).m = (bnd up q.value - bnd up p.value).natAbs * (x - p.place).natAbs := mkBig_m _ _
  have hd := b128_div (timesB (bnd up q.value - bnd up p.value) (x - p.place)).m (q.place - p.place) (by rw [em]; exact h0) (by rw [em]; exact hm) (by omega)
  have hle := Int.ediv_le_self (q.place - p.place) h0
  have hle2 : (timesB (bnd up q.value - bnd up p.value) (x - p.place)).m ≤ 170141183460469231731687303715884105727 := by rw [em]; omega
  have okT : (timesB (bnd up q.value - bnd up p.value) (x - p.place)).ok := timesB_ok _ _ (by unfold I64; omega) (by unfold I64; omega)
  have bdn : ∀ n m, B128 m → m < 170141183460469231731687303715884105729 → (mkBig n m).ok ∧ B128 ((ofB (bnd up p.value)).m + (mkBig n m).m) := fun n m hb hlt => by
    refine ⟨mkBig_ok _ _ hb, ?_⟩
    rw [mkBig_m, ofB_m]
    unfold B128 at *
    omega
  have hup : ∀ m d : Int, 0 ≤ m → m ≤ 170141183460469231731687303715884105727 → 1 ≤ d → upZ m d < 170141183460469231731687303715884105729 ∧ downZ m d < 170141183460469231731687303715884105729 := fun m d h0 hm hd => by
    have h2 := Int.ediv_le_self d h0
    rw [upZ_law m d hd]
    unfold downZ
    refine ⟨?_, by omega⟩
    split <;> omega
  have hub := hup _ (q.place - p.place) (by rw [em]; exact h0) hle2 (by omega)
  have okD : (divDown (timesB (bnd up q.value - bnd up p.value) (x - p.place)) (q.place - p.place)).ok ∧ B128 ((ofB (bnd up p.value)).m + (divDown (timesB (bnd up q.value - bnd up p.value) (x - p.place)) (q.place - p.place)).m) := by
    unfold divDown
    split
    · exact bdn _ _ hd.2 hub.1
    · exact bdn _ _ hd.1 hub.2
  have okU : (divUp (timesB (bnd up q.value - bnd up p.value) (x - p.place)) (q.place - p.place)).ok ∧ B128 ((ofB (bnd up p.value)).m + (divUp (timesB (bnd up q.value - bnd up p.value) (x - p.place)) (q.place - p.place)).m) := by
    unfold divUp
    split
    · exact bdn _ _ hd.1 hub.2
    · exact bdn _ _ hd.2 hub.1
  have okP : (ofB (bnd up p.value)).ok := ofB_ok _ (by unfold I64; omega)
  exact ⟨okT, okD.1, okU.1, plusB_ok okP okD.1 okD.2, plusB_ok okP okU.1 okU.2, okD.2, okU.2, okP⟩
theorem segD_val : (segD up p q x).val = bnd up p.value + downZ ((bnd up q.value - bnd up p.value) * (x - p.place)) (q.place - p.place) := by
  unfold segD
  rw [plusB_val, ofB_val, divDown_val, timesB_val]
theorem segU_val : (segU up p q x).val = bnd up p.value + upZ ((bnd up q.value - bnd up p.value) * (x - p.place)) (q.place - p.place) := by
  unfold segU
  rw [plusB_val, ofB_val, divUp_val, timesB_val]
/-- At its second point a line has what stands there. -/
theorem seg_end (h : p.place < q.place) : bnd up p.value + downZ ((bnd up q.value - bnd up p.value) * (q.place - p.place)) (q.place - p.place) = bnd up q.value ∧
    bnd up p.value + upZ ((bnd up q.value - bnd up p.value) * (q.place - p.place)) (q.place - p.place) = bnd up q.value := by
  unfold downZ upZ
  rw [Int.mul_ediv_cancel _ (by omega), ← Int.neg_mul, Int.mul_ediv_cancel _ (by omega)]
  omega
end
/-- The lower or the upper line of a table at a place, rounded down and up. -/
def lineR (l : List Pt) (up : Bool) (x : Int) : Int × Int :=
  if idxT x l = 0 then (bnd up (l.getD 0 ⟨0, ⟨0, 0⟩⟩).value, bnd up (l.getD 0 ⟨0, ⟨0, 0⟩⟩).value)
  else if idxT x l = l.length then (bnd up (l.getD (l.length - 1) ⟨0, ⟨0, 0⟩⟩).value, bnd up (l.getD (l.length - 1) ⟨0, ⟨0, 0⟩⟩).value)
  else
    let p := l.getD (idxT x l - 1) ⟨0, ⟨0, 0⟩⟩
    let q := l.getD (idxT x l) ⟨0, ⟨0, 0⟩⟩
    (bnd up p.value + downZ ((bnd up q.value - bnd up p.value) * (x - p.place)) (q.place - p.place), bnd up p.value + upZ ((bnd up q.value - bnd up p.value) * (x - p.place)) (q.place - p.place))
/-- The places at which a table is looked at. -/
def placesT (l : List Pt) (x : Sp) : List Int := x.lo :: x.hi :: (l.filter fun p => decide (x.lo ≤ p.place) && decide (p.place ≤ x.hi)).map Pt.place
def least : Int → List Int → Int
  | a, [] => a
  | a, b :: l => least (imin a b) l
def most : Int → List Int → Int
  | a, [] => a
  | a, b :: l => most (imax a b) l
def lookS (l : List Pt) (x : Sp) : Res :=
  fitR (least (lineR l false x.lo).1 ((placesT l x).tail.map fun at_ => (lineR l false at_).1)) (most (lineR l true x.lo).2 ((placesT l x).tail.map fun at_ => (lineR l true at_).2))
def lookR (l : List Pt) (x : Sp) : Res := if tableB l && x.okB then lookS l x else errR 2
end Go.Proofs.YtkeifgcncmilmaaGreat
