/-
  Readings of measurements: plain law.
-/
import Derived.Test.YtdkfkalplmgoeaaRadio
import Derived.Test.YtdkfkalplmgoeaaFolds2
import Derived.Test.YtdkfkalplmgoeaaOrder
import Derived.Test.YtdkfkalplmgoeaaNavCalls
namespace Go.Proofs.Ytdkfkalplmgoeaa
open Go.RowKit
/-- A result; nothing with an error. -/
def clean (r : Res) : Res := if r.e = 0 then r else errR r.e
theorem clean_e (r : Res) : (clean r).e = r.e := by unfold clean; split <;> rfl
theorem clean_ok {r : Res} (h : r.e = 0) : clean r = r := if_pos h
theorem clean_bad {r : Res} (h : r.e ≠ 0) : clean r = errR r.e := if_neg h
theorem clean_errR (c : Int) : clean (errR c) = errR c := by unfold clean; split <;> rfl
def divsR (t n : Res) : Res := if t.e = 0 then (if n.e = 0 then divR t.s n.s else errR n.e) else errR t.e
def normAway (p f : Bx) : Res := if awayE p f = 0 then normR (awayS p f).list else errR (awayE p f)
def rateR (p v f : Bx) : Res := if awayE p f = 0 then divsR (dotBR (awayS p f) v) (normR (awayS p f).list) else errR (awayE p f)
/-- The reading of a valid measurement at a valid state. -/
def readR (s : State) (m : Radio) : Res :=
  if m.kind = 0 then normAway s.p m.place
  else if m.kind = 1 then rateR s.p s.v m.place
  else if m.kind = 2 then dotBR m.dir s.p else dotBR m.dir s.v
def readingR (s : State) (m : Radio) : Res := if s.okB && m.okB then clean (readR s m) else errR 2
def agreesN (s : State) (m : Radio) : Int := if (readingR s m).e = 0 then (if (readingR s m).s.inB m.value then 1 else if orderN (readingR s m).s m.value = 0 then 0 else -1) else 0
instance s64_dot (a b : Bx) : S64 (dotBR a b).s := by
  unfold dotBR
  split
  · exact s64_foldR mul2 (fun x => by unfold mul2; infer_instance) _ _ inferInstance
  · exact s64_err _
end Go.Proofs.Ytdkfkalplmgoeaa
