/-
  Cuts of a place by its distance from another one: plain law.
-/
import Derived.Test.YtdkfkalplmgoeaaCutLaw
import Derived.Test.YtdkfkalplmgoeaaMonoLaw
import Derived.Test.YtdkfkalplmgoeaaRefNavAll
namespace Go.Proofs.Ytdkfkalplmgoeaa
open Go.RowKit
/-- What has been found of the three numbers: the differences, their squares, the places; the error that is kept. -/
structure Ds where
  d : Bx
  q : Bx
  pl : Bx
  e : Int
/-- What is left for the square of the number i. -/
def dsA (x : Ds) (i : Nat) : Res := doR x.e (addR (x.q.at (oj i)) (x.q.at (ok i)))
def dsF (x : Ds) (s : Sp) (i : Nat) : Res := doR (dsA x i).e (subR s (dsA x i).s)
def dsE (x : Ds) (s : Sp) (i : Nat) : Int := if (dsF x s i).e = 0 then (if (dsF x s i).s.hi < 0 then 7 else 0) else (dsF x s i).e
def dsG (x : Ds) (s : Sp) (i : Nat) : Res := doR (dsE x s i) (rootR (dsF x s i).s)
def dsD (x : Ds) (s : Sp) (i : Nat) : Res := doR (dsG x s i).e (sidesR (x.d.at i) (dsG x s i).s)
def dsP (x : Ds) (f : Bx) (s : Sp) (i : Nat) : Res := doR (dsD x s i).e (addR (dsD x s i).s (f.at i))
def dsM (x : Ds) (f : Bx) (s : Sp) (i : Nat) : Res := doR (dsP x f s i).e (meetR (x.pl.at i) (dsP x f s i).s)
def dsQ (x : Ds) (f : Bx) (s : Sp) (i : Nat) : Res := doR (dsM x f s i).e (squareR (dsD x s i).s)
def dsNext (x : Ds) (f : Bx) (s : Sp) (i : Nat) : Ds := ⟨x.d.put i (dsD x s i).s, x.q.put i (dsQ x f s i).s, x.pl.put i (dsM x f s i).s, (dsQ x f s i).e⟩
/-- The start: the distance, the differences and their squares. -/
def diR (r : Sp) : Res := meetR r ⟨0, 9223372036854775807⟩
def diD (p f : Bx) (r : Sp) : Bx := awC (diR r).e p f
def diE (p f : Bx) (r : Sp) : Int := (aw2 (diR r).e p f).e
def di0 (p f : Bx) (r : Sp) : Res := doR (diE p f r) (squareR (diD p f r).x)
def di1 (p f : Bx) (r : Sp) : Res := doR (di0 p f r).e (squareR (diD p f r).y)
def di2 (p f : Bx) (r : Sp) : Res := doR (di1 p f r).e (squareR (diD p f r).z)
def diS (p f : Bx) (r : Sp) : Res := doR (di2 p f r).e (squareR (diR r).s)
def diStart (p f : Bx) (r : Sp) : Ds := ⟨diD p f r, ⟨(di0 p f r).s, (di1 p f r).s, (di2 p f r).s⟩, p, (diS p f r).e⟩
def diTo (p f : Bx) (r : Sp) : Nat → Ds
  | 0 => diStart p f r
  | i + 1 => dsNext (diTo p f r i) f (diS p f r).s i
section
variable {x : Ds} {f : Bx} {s : Sp} {i : Nat}
theorem dsA_keep (h : x.e ≠ 0) : (dsA x i).e = x.e := doR_keep _ h
theorem dsF_keep (h : (dsA x i).e ≠ 0) : (dsF x s i).e = (dsA x i).e := doR_keep _ h
theorem dsE_keep (h : (dsF x s i).e ≠ 0) : dsE x s i = (dsF x s i).e := by unfold dsE; rw [if_neg h]
theorem dsG_keep (h : dsE x s i ≠ 0) : (dsG x s i).e = dsE x s i := doR_keep _ h
theorem dsD_keep (h : (dsG x s i).e ≠ 0) : (dsD x s i).e = (dsG x s i).e := doR_keep _ h
theorem dsP_keep (h : (dsD x s i).e ≠ 0) : (dsP x f s i).e = (dsD x s i).e := doR_keep _ h
theorem dsM_keep (h : (dsP x f s i).e ≠ 0) : (dsM x f s i).e = (dsP x f s i).e := doR_keep _ h
theorem dsQ_keep (h : (dsM x f s i).e ≠ 0) : (dsQ x f s i).e = (dsM x f s i).e := doR_keep _ h
/-- An error within a step is that of the step. -/
theorem ds_atM (h : (dsM x f s i).e ≠ 0) : (dsNext x f s i).e = (dsM x f s i).e := dsQ_keep h
theorem ds_atP (h : (dsP x f s i).e ≠ 0) : (dsNext x f s i).e = (dsP x f s i).e := by
  have e := dsM_keep h
  rw [ds_atM (by rw [e]; exact h), e]
theorem ds_atD (h : (dsD x s i).e ≠ 0) : (dsNext x f s i).e = (dsD x s i).e := by
  have e := dsP_keep (f := f) h
  rw [ds_atP (by rw [e]; exact h), e]
theorem ds_atG (h : (dsG x s i).e ≠ 0) : (dsNext x f s i).e = (dsG x s i).e := by
  have e := dsD_keep h
  rw [ds_atD (by rw [e]; exact h), e]
theorem ds_atE (h : dsE x s i ≠ 0) : (dsNext x f s i).e = dsE x s i := by
  have e := dsG_keep h
  rw [ds_atG (by rw [e]; exact h), e]
theorem ds_atF (h : (dsF x s i).e ≠ 0) : (dsNext x f s i).e = (dsF x s i).e := by
  have e := dsE_keep h
  rw [ds_atE (by rw [e]; exact h), e]
theorem ds_atA (h : (dsA x i).e ≠ 0) : (dsNext x f s i).e = (dsA x i).e := by
  have e := dsF_keep (s := s) h
  rw [ds_atF (by rw [e]; exact h), e]
theorem ds_keep (h : x.e ≠ 0) : (dsNext x f s i).e = x.e := by
  have e := dsA_keep (i := i) h
  rw [ds_atA (by rw [e]; exact h), e]
end
section
variable {x : Ds} {f : Bx} {s : Sp} {i : Nat} {A F G D P M : Res}
/-- A step without an error so far: what it comes to. -/
theorem ds_A (h0 : x.e = 0) : dsA x i = addR (x.q.at (oj i)) (x.q.at (ok i)) := by unfold dsA; rw [h0, doR_ok]
theorem ds_F (hA : dsA x i = A) (h : A.e = 0) : dsF x s i = subR s A.s := by unfold dsF; rw [hA, h, doR_ok]
theorem ds_E (hF : dsF x s i = F) (h : F.e = 0) (h1 : ¬ F.s.hi < 0) : dsE x s i = 0 := by unfold dsE; rw [hF, if_pos h, if_neg h1]
theorem ds_seven (hF : dsF x s i = F) (h : F.e = 0) (h1 : F.s.hi < 0) : dsE x s i = 7 := by unfold dsE; rw [hF, if_pos h, if_pos h1]
theorem ds_G (hF : dsF x s i = F) (h : dsE x s i = 0) : dsG x s i = rootR F.s := by unfold dsG; rw [h, doR_ok, hF]
theorem ds_D (hG : dsG x s i = G) (h : G.e = 0) : dsD x s i = sidesR (x.d.at i) G.s := by unfold dsD; rw [hG, h, doR_ok]
theorem ds_P (hD : dsD x s i = D) (h : D.e = 0) : dsP x f s i = addR D.s (f.at i) := by unfold dsP; rw [hD, h, doR_ok]
theorem ds_M (hP : dsP x f s i = P) (h : P.e = 0) : dsM x f s i = meetR (x.pl.at i) P.s := by unfold dsM; rw [hP, h, doR_ok]
theorem ds_Q (hM : dsM x f s i = M) (h : M.e = 0) (hD : dsD x s i = D) : dsQ x f s i = squareR D.s := by unfold dsQ; rw [hM, h, doR_ok, hD]
end
theorem diTo_keep (p f : Bx) (r : Sp) (i : Nat) (h : (diTo p f r i).e ≠ 0) : ∀ k, (diTo p f r (i + k)).e = (diTo p f r i).e
  | 0 => rfl
  | k + 1 => by
    have ih := diTo_keep p f r i h k
    show (dsNext (diTo p f r (i + k)) f (diS p f r).s (i + k)).e = _
    rw [ds_keep (by rw [ih]; exact h), ih]
/-- The error of a round is that of the whole. -/
theorem di_round {p f : Bx} {r : Sp} (i : Nat) (hi : i ≤ 3) (h : (diTo p f r i).e ≠ 0) : (diTo p f r 3).e = (diTo p f r i).e := by
  have := diTo_keep p f r i h (3 - i)
  rwa [show i + (3 - i) = 3 by omega] at this
theorem root_bd (a : Sp) : (0 ≤ (rootR a).s.lo ∧ (rootR a).s.lo ≤ 562949953421312) ∧ 0 ≤ (rootR a).s.hi ∧ (rootR a).s.hi ≤ 562949953421312 := by
  unfold rootR
  split
  · split
    · simp [errR]
    · have h1 := rootZ_bd (imax a.lo 0 * 4294967296)
      have h2 := rootZ_bd (a.hi * 4294967296)
      simp only []
      unfold rootUp
      refine ⟨⟨h1.1, by omega⟩, ?_⟩
      split <;> omega
  · simp [errR]
theorem dsG_bd (x : Ds) (s : Sp) (i : Nat) : (0 ≤ (dsG x s i).s.lo ∧ (dsG x s i).s.lo ≤ 562949953421312) ∧ 0 ≤ (dsG x s i).s.hi ∧ (dsG x s i).s.hi ≤ 562949953421312 := by
  unfold dsG doR
  split
  · exact root_bd _
  · simp [errR]
instance s64_dsG (x : Ds) (s : Sp) (i : Nat) : S64 (dsG x s i).s := s64_do _ _
instance s64_dsGn (x : Ds) (s : Sp) (i : Nat) : S64 (negS (dsG x s i).s) := by
  obtain ⟨⟨h1, h2⟩, h3, h4⟩ := dsG_bd x s i
  exact ⟨⟨by unfold negS; simp only []; omega, by unfold negS; simp only []; omega⟩, ⟨by unfold negS; simp only []; omega, by unfold negS; simp only []; omega⟩⟩
theorem s64_sides (d g : Sp) [hd : S64 d] [hg : S64 g] [hn : S64 (negS g)] : S64 (sidesR d g).s := by
  unfold sidesR
  (repeat' split) <;> infer_instance
instance b64_put' (b : Bx) [h : B64 b] (i : Nat) (v : Sp) [hv : S64 v] : B64 (b.put i v) := b64_put b i v
theorem b64_diTo (p f : Bx) (r : Sp) [hp : B64 p] : ∀ i, B64 (diTo p f r i).d ∧ B64 (diTo p f r i).q ∧ B64 (diTo p f r i).pl
  | 0 => by
    refine ⟨?_, ?_, hp⟩
    · show B64 (diD p f r)
      unfold diD
      infer_instance
    · show B64 ⟨(di0 p f r).s, (di1 p f r).s, (di2 p f r).s⟩
      unfold di0 di1 di2
      exact ⟨inferInstance, inferInstance, inferInstance⟩
  | i + 1 => by
    obtain ⟨h1, h2, h3⟩ := b64_diTo p f r i
    have hs : S64 (sidesR ((diTo p f r i).d.at i) (dsG (diTo p f r i) (diS p f r).s i).s).s := s64_sides _ _
    have hD : S64 (dsD (diTo p f r i) (diS p f r).s i).s := s64_do _ _
    have hP : S64 (dsP (diTo p f r i) f (diS p f r).s i).s := s64_do _ _
    have hQ : S64 (dsQ (diTo p f r i) f (diS p f r).s i).s := s64_do _ _
    have hM : S64 (dsM (diTo p f r i) f (diS p f r).s i).s := s64_do _ _
    exact ⟨b64_put _ _ _, b64_put _ _ _, b64_put _ _ _⟩
end Go.Proofs.Ytdkfkalplmgoeaa
