/-
  Contracts of ullageref06.away, ullageref06.reading.
  Contracts of ullageref06.reading, Reading, Agrees.
  Contracts of ullageref06.reading of a rate, of ullageref06.reading.
-/
import Derived.Test.YtdkfkalplmgoeaaNavLaw
import Derived.Test.YtdkfkalplmgoeaaRefDot
import Derived.Test.YtdkfkalplmgoeaaRefDivs
import Derived.Test.YtdkfkalplmgoeaaCalcs
namespace Go.Proofs.Ytdkfkalplmgoeaa
open Go.RowKit Go.Shelf
set_option maxRecDepth 100000
set_option maxHeartbeats 16000000
def aw0 (e : Int) (p f : Bx) : Res := doR e (subR p.x f.x)
def aw1 (e : Int) (p f : Bx) : Res := doR (aw0 e p f).e (subR p.y f.y)
def aw2 (e : Int) (p f : Bx) : Res := doR (aw1 e p f).e (subR p.z f.z)
def awC (e : Int) (p f : Bx) : Bx := ⟨(aw0 e p f).s, (aw1 e p f).s, (aw2 e p f).s⟩
instance b64_awC (e : Int) (p f : Bx) : B64 (awC e p f) := by
  unfold awC aw0 aw1 aw2
  exact ⟨inferInstance, inferInstance, inferInstance⟩
end Go.Proofs.Ytdkfkalplmgoeaa
namespace Go.Proofs.Ytdkfkalplmgoeaa
open Go.RowKit Go.Shelf
set_option maxRecDepth 100000
set_option maxHeartbeats 16000000
theorem aw_good {p f : Bx} (h : awayE p f = 0) : (aw2 0 p f).e = 0 ∧ awC 0 p f = awayS p f := by
  unfold awayE firstE at h
  have h0 : (subR p.x f.x).e = 0 := by
    by_cases a : (subR p.x f.x).e = 0
    · exact a
    · rw [if_neg a, if_neg a] at h; exact absurd h a
  rw [if_pos h0] at h
  have h1 : (subR p.y f.y).e = 0 := by
    by_cases a : (subR p.y f.y).e = 0
    · exact a
    · rw [if_neg a] at h; exact absurd h a
  rw [if_pos h1] at h
  have e0 : aw0 0 p f = subR p.x f.x := rfl
  have e1 : aw1 0 p f = subR p.y f.y := by unfold aw1; rw [e0, h0]; rfl
  have e2 : aw2 0 p f = subR p.z f.z := by unfold aw2; rw [e1, h1]; rfl
  refine ⟨by rw [e2]; exact h, ?_⟩
  unfold awC awayS
  rw [e0, e1, e2]
theorem aw_e (p f : Bx) : (aw2 0 p f).e = awayE p f := by
  unfold awayE firstE
  have e0 : aw0 0 p f = subR p.x f.x := rfl
  by_cases h0 : (subR p.x f.x).e = 0
  · rw [if_pos h0]
    have e1 : aw1 0 p f = subR p.y f.y := by unfold aw1; rw [e0, h0]; rfl
    by_cases h1 : (subR p.y f.y).e = 0
    · rw [if_pos h1]
      unfold aw2
      rw [e1, h1]
      rfl
    · rw [if_neg h1]
      unfold aw2
      rw [e1, doR_bad _ h1]
      rfl
  · rw [if_neg h0, if_neg h0]
    have e1 : aw1 0 p f = errR (subR p.x f.x).e := by unfold aw1; rw [e0, doR_bad _ h0]
    unfold aw2
    rw [e1, doR_bad _ (show (errR (subR p.x f.x).e).e ≠ 0 from h0)]
    rfl
/-- The last step of each kind of reading. -/
def rd0 (p f : Bx) : Res := doR (aw2 0 p f).e (normR (awC 0 p f).list)
def rd1a (p v f : Bx) : Res := doR (aw2 0 p f).e (dotBR (awC 0 p f) v)
def rd1b (p v f : Bx) : Res := doR (rd1a p v f).e (normR (awC 0 p f).list)
def rd1 (p v f : Bx) : Res := doR (rd1b p v f).e (divR (rd1a p v f).s (rd1b p v f).s)
theorem clean_same {a b : Res} (h : a.e = b.e) (h2 : b.e = 0 → a = b) : clean a = clean b := by
  by_cases h0 : b.e = 0
  · rw [h2 h0]
  · rw [clean_bad h0, clean_bad (by rw [h]; exact h0), h]
theorem rd0_is (p f : Bx) : clean (rd0 p f) = clean (normAway p f) := by
  unfold rd0 normAway
  by_cases h : awayE p f = 0
  · rw [(aw_good h).1, (aw_good h).2, if_pos h]
    rfl
  · rw [aw_e, doR_bad _ h, if_neg h]
theorem rd1_is (p v f : Bx) : clean (rd1 p v f) = clean (rateR p v f) := by
  unfold rateR
  by_cases h : awayE p f = 0
  · rw [if_pos h]
    have e1 : rd1a p v f = dotBR (awayS p f) v := by unfold rd1a; rw [(aw_good h).1, (aw_good h).2]; rfl
    unfold divsR rd1
    by_cases h1 : (dotBR (awayS p f) v).e = 0
    · rw [if_pos h1]
      have e2 : rd1b p v f = normR (awayS p f).list := by unfold rd1b; rw [e1, h1, (aw_good h).2]; rfl
      by_cases h2 : (normR (awayS p f).list).e = 0
      · rw [if_pos h2, e2, e1, h2]; rfl
      · rw [if_neg h2, e2, doR_bad _ h2]
    · rw [if_neg h1]
      have e2 : rd1b p v f = errR (dotBR (awayS p f) v).e := by unfold rd1b; rw [e1, doR_bad _ h1]
      rw [e2, doR_bad _ (show (errR (dotBR (awayS p f) v).e).e ≠ 0 from h1)]
      rfl
  · rw [if_neg h]
    have e1 : rd1a p v f = errR (awayE p f) := by unfold rd1a; rw [aw_e, doR_bad _ h]
    have e2 : rd1b p v f = errR (awayE p f) := by unfold rd1b; rw [e1, doR_bad _ (show (errR (awayE p f)).e ≠ 0 from h)]; rfl
    unfold rd1
    rw [e2, doR_bad _ (show (errR (awayE p f)).e ≠ 0 from h)]
    rfl
instance s64_rd1a (p v f : Bx) : S64 (rd1a p v f).s := by unfold rd1a; infer_instance
instance s64_rd1b (p v f : Bx) : S64 (rd1b p v f).s := by unfold rd1b; infer_instance
theorem res_eta2 {r : Res} (h : r.e = 0) : (⟨⟨r.s.lo, r.s.hi⟩, 0⟩ : Res) = r := by
  cases r
  simp only at h
  subst h
  rfl
end Go.Proofs.Ytdkfkalplmgoeaa
namespace Go.Proofs.Ytdkfkalplmgoeaa
open Go.RowKit Go.Shelf
set_option maxRecDepth 100000
set_option maxHeartbeats 16000000
end Go.Proofs.Ytdkfkalplmgoeaa
