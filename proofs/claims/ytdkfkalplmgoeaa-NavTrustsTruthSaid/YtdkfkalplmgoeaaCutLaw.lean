/-
  Cuts of three spans by a sum: plain law.
-/
import Derived.Test.YtdkfkalplmgoeaaNavSides
import Derived.Test.YtdkfkalplmgoeaaCalcs
namespace Go.Proofs.Ytdkfkalplmgoeaa
open Go.RowKit
/-- The two numbers of 0, 1, 2 that are not i. -/
def oj (i : Nat) : Nat := if i = 0 then 1 else 0
def ok (i : Nat) : Nat := if i = 0 then 2 else 3 - i
def Bx.put (b : Bx) (i : Nat) (v : Sp) : Bx :=
  match i with
  | 0 => ⟨v, b.y, b.z⟩
  | 1 => ⟨b.x, v, b.z⟩
  | _ => ⟨b.x, b.y, v⟩
def zeroB (a : Sp) : Bool := decide (a.lo ≤ 0) && decide (0 ≤ a.hi)
/-- What is left of a sum for the number i, step by step; e: the error that is kept. -/
def sm1 (e : Int) (a x : Bx) (i : Nat) : Res := doR e (mulR (a.at (oj i)) (x.at (oj i)))
def sm2 (e : Int) (a x : Bx) (i : Nat) : Res := doR (sm1 e a x i).e (mulR (a.at (ok i)) (x.at (ok i)))
def sms (e : Int) (a x : Bx) (i : Nat) : Res := doR (sm2 e a x i).e (addR (sm1 e a x i).s (sm2 e a x i).s)
def smn (e : Int) (a x : Bx) (r : Sp) (i : Nat) : Res := doR (sms e a x i).e (subR r (sms e a x i).s)
def smt (e : Int) (a x : Bx) (r : Sp) (i : Nat) : Res := doR (smn e a x r i).e (meetR (x.at i) (divR (smn e a x r i).s (a.at i)).s)
def sumStep (e : Int) (a x : Bx) (r : Sp) (i : Nat) : Bx × Int :=
  if (divR (smn e a x r i).s (a.at i)).e = 0 then (x.put i (smt e a x r i).s, (smt e a x r i).e) else (x, (smn e a x r i).e)
def sumTo (e : Int) (a x : Bx) (r : Sp) : Nat → Bx × Int
  | 0 => (x, e)
  | i + 1 => sumStep (sumTo e a x r i).2 a (sumTo e a x r i).1 r i
def sumD (e : Int) (a x : Bx) (r : Sp) : Res := doR (sumTo e a x r 3).2 (dotBR a (sumTo e a x r 3).1)
def sumM (e : Int) (a x : Bx) (r : Sp) : Res := doR (sumD e a x r).e (meetR (sumD e a x r).s r)
/-- By a span that has 0 nothing is divided. -/
theorem div_zero {n a : Sp} (h : zeroB a = true) : (divR n a).e ≠ 0 := by
  unfold zeroB at h
  unfold divR
  split
  · first | decide | (rw [if_pos h]; decide)
  · decide
theorem doR_keep {e : Int} (r : Res) (h : e ≠ 0) : (doR e r).e = e := by rw [doR_bad r h]; rfl
theorem sm1_keep {e : Int} (a x : Bx) (i : Nat) (h : e ≠ 0) : (sm1 e a x i).e = e := doR_keep _ h
theorem sm2_keep {e : Int} (a x : Bx) (i : Nat) (h : e ≠ 0) : (sm2 e a x i).e = e := by
  unfold sm2
  rw [doR_keep _ (by rw [sm1_keep a x i h]; exact h), sm1_keep a x i h]
theorem sms_keep {e : Int} (a x : Bx) (i : Nat) (h : e ≠ 0) : (sms e a x i).e = e := by
  unfold sms
  rw [doR_keep _ (by rw [sm2_keep a x i h]; exact h), sm2_keep a x i h]
theorem smn_keep {e : Int} (a x : Bx) (r : Sp) (i : Nat) (h : e ≠ 0) : (smn e a x r i).e = e := by
  unfold smn
  rw [doR_keep _ (by rw [sms_keep a x i h]; exact h), sms_keep a x i h]
theorem smt_keep {e : Int} (a x : Bx) (r : Sp) (i : Nat) (h : e ≠ 0) : (smt e a x r i).e = e := by
  unfold smt
  rw [doR_keep _ (by rw [smn_keep a x r i h]; exact h), smn_keep a x r i h]
/-- An error that is kept stays. -/
theorem sumStep_keep {e : Int} (a x : Bx) (r : Sp) (i : Nat) (h : e ≠ 0) : (sumStep e a x r i).2 = e := by
  unfold sumStep
  split
  · exact smt_keep a x r i h
  · exact smn_keep a x r i h
theorem sumTo_keep (e : Int) (a x : Bx) (r : Sp) (i : Nat) (h : (sumTo e a x r i).2 ≠ 0) : ∀ k, (sumTo e a x r (i + k)).2 = (sumTo e a x r i).2
  | 0 => rfl
  | k + 1 => by
    have ih := sumTo_keep e a x r i h k
    show (sumStep (sumTo e a x r (i + k)).2 a (sumTo e a x r (i + k)).1 r (i + k)).2 = _
    rw [sumStep_keep _ _ _ _ (by rw [ih]; exact h), ih]
theorem sumD_keep {e : Int} {a x : Bx} {r : Sp} (h : (sumTo e a x r 3).2 ≠ 0) : (sumD e a x r).e = (sumTo e a x r 3).2 := doR_keep _ h
theorem sumM_keep {e : Int} {a x : Bx} {r : Sp} (h : (sumD e a x r).e ≠ 0) : (sumM e a x r).e = (sumD e a x r).e := doR_keep _ h
/-- The error of a round is that of the whole. -/
theorem sumM_round {e : Int} {a x : Bx} {r : Sp} (i : Nat) (hi : i ≤ 3) (h : (sumTo e a x r i).2 ≠ 0) : (sumM e a x r).e = (sumTo e a x r i).2 := by
  have h3 := sumTo_keep e a x r i h (3 - i)
  rw [show i + (3 - i) = 3 by omega] at h3
  have h4 : (sumTo e a x r 3).2 ≠ 0 := by rw [h3]; exact h
  rw [sumM_keep (by rw [sumD_keep h4]; exact h4), sumD_keep h4, h3]
instance s64_at (b : Bx) [h : B64 b] (i : Nat) : S64 (b.at i) := by
  match i with
  | 0 => exact h.x
  | 1 => exact h.y
  | (n + 2) => exact h.z
instance b64_put (b : Bx) [h : B64 b] (i : Nat) (v : Sp) [hv : S64 v] : B64 (b.put i v) := by
  match i with
  | 0 => exact ⟨hv, h.y, h.z⟩
  | 1 => exact ⟨h.x, hv, h.z⟩
  | (n + 2) => exact ⟨h.x, h.y, hv⟩
instance s64_smt (e : Int) (a x : Bx) (r : Sp) (i : Nat) [hx : B64 x] : S64 (smt e a x r i).s := by unfold smt; infer_instance
theorem b64_sumTo (e : Int) (a x : Bx) (r : Sp) [hx : B64 x] : ∀ i, B64 (sumTo e a x r i).1
  | 0 => hx
  | i + 1 => by
    have ih := b64_sumTo e a x r i
    show B64 (sumStep (sumTo e a x r i).2 a (sumTo e a x r i).1 r i).1
    unfold sumStep
    split
    · exact inferInstance
    · exact ih
end Go.Proofs.Ytdkfkalplmgoeaa
