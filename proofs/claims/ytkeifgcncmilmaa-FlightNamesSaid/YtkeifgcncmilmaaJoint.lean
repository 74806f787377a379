/-
  flight.Joint: what two states have in common.
-/
import Derived.Test.YtkeifgcncmilmaaFlightCalc
import Derived.Test.YtkeifgcncmilmaaFlightOks
namespace Go.Proofs.Ytkeifgcncmilmaa
open Go.RowKit Go.Shelf
set_option maxRecDepth 100000
set_option maxHeartbeats 4000000
def E07 (r : Res) : Prop := r.e = 0 ∨ r.e = 7
theorem meet_e {a b : Sp} (ha : a.okB = true) (hb : b.okB = true) : E07 (meetR a b) := by
  unfold E07 meetR
  rw [ha, hb]
  simp only [Bool.and_self, if_true]
  split
  · exact .inr rfl
  · exact .inl rfl
/-- All meets of two boxes. -/
def meetOk (a b : Bx) : Bool := decide ((meetR a.x b.x).e = 0) && decide ((meetR a.y b.y).e = 0) && decide ((meetR a.z b.z).e = 0)
def meetB (a b : Bx) : Bx := ⟨(meetR a.x b.x).s, (meetR a.y b.y).s, (meetR a.z b.z).s⟩
def jointAll (a b : State) : Bool := meetOk a.p b.p && meetOk a.v b.v && decide ((meetR a.m b.m).e = 0)
structure SRes where
  s : State
  e : Int
def zState : State := ⟨0, ⟨⟨0, 0⟩, ⟨0, 0⟩, ⟨0, 0⟩⟩, ⟨⟨0, 0⟩, ⟨0, 0⟩, ⟨0, 0⟩⟩, ⟨0, 0⟩⟩
def jointR (a b : State) : SRes :=
  if a.okB && b.okB then (if a.t = b.t then (if jointAll a b then ⟨⟨a.t, meetB a.p b.p, meetB a.v b.v, (meetR a.m b.m).s⟩, 0⟩ else ⟨zState, 7⟩) else ⟨zState, 9⟩) else ⟨zState, 2⟩
theorem doR_e (e : Int) (r : Res) (h : E07 r) (he : e = 0 ∨ e = 7) : (doR e r).e = 0 ∨ (doR e r).e = 7 := by
  unfold doR
  split
  · exact h
  · exact he
theorem doR_zero {e : Int} {r : Res} (h : (doR e r).e = 0) : e = 0 ∧ r.e = 0 ∧ doR e r = r := by
  unfold doR at h ⊢
  split at h
  · rename_i h0; exact ⟨h0, h, if_pos h0⟩
  · rename_i h0; exact absurd h h0
theorem each_ok {a b : Bx} (h : meetOk a b = true) : each3 meetR 0 a b = ⟨(meetR a.z b.z).s, 0⟩ ∧ eachB meetR 0 a b = meetB a b := by
  unfold meetOk at h
  simp only [Bool.and_eq_true, decide_eq_true_eq] at h
  obtain ⟨⟨h1, h2⟩, h3⟩ := h
  have e1 : each1 meetR 0 a b = meetR a.x b.x := rfl
  have e2 : each2 meetR 0 a b = meetR a.y b.y := by unfold each2; rw [e1, h1]; rfl
  have e3 : each3 meetR 0 a b = meetR a.z b.z := by unfold each3; rw [e2, h2]; rfl
  refine ⟨by rw [e3, ← h3], ?_⟩
  unfold eachB meetB
  rw [e1, e2, e3]
theorem each_bad {a b : Bx} (ha : a.okB = true) (hb : b.okB = true) (h : meetOk a b = false) : (each3 meetR 0 a b).e = 7 := by
  unfold Bx.okB at ha hb
  simp only [Bool.and_eq_true] at ha hb
  have h1 : E07 (each1 meetR 0 a b) := doR_e _ _ (meet_e ha.1.1 hb.1.1) (.inl rfl)
  have h2 : E07 (each2 meetR 0 a b) := doR_e _ _ (meet_e ha.1.2 hb.1.2) h1
  have h3 : E07 (each3 meetR 0 a b) := doR_e _ _ (meet_e ha.2 hb.2) h2
  rcases h3 with h3 | h3
  · exfalso
    obtain ⟨a1, a2, -⟩ := doR_zero h3
    obtain ⟨b1, b2, -⟩ := doR_zero a1
    obtain ⟨-, c2, -⟩ := doR_zero b1
    unfold meetOk at h
    simp [a2, b2, c2] at h
  · exact h3
theorem each_stay {f : Sp → Sp → Res} {e : Int} {a b : Bx} (he : e ≠ 0) : (each3 f e a b).e = e := by
  unfold each3 each2 each1
  rw [doR_bad _ he]
  show (doR (doR e (f a.y b.y)).e (f a.z b.z)).e = e
  rw [doR_bad _ he]
  show (doR e (f a.z b.z)).e = e
  rw [doR_bad _ he]
  rfl
theorem state_parts {a : State} (h : a.okB = true) : a.p.okB = true ∧ a.v.okB = true ∧ a.m.okB = true := by
  unfold State.okB at h
  simp only [Bool.and_eq_true] at h
  exact ⟨h.1.1.2.1, h.1.1.2.2, h.1.2⟩
/-- The error of the program's order. -/
theorem joint_err (a b : State) (ha : a.okB = true) (hb : b.okB = true) : (doR (each3 meetR (each3 meetR 0 a.p b.p).e a.v b.v).e (meetR a.m b.m)).e = if jointAll a b then 0 else 7 := by
  obtain ⟨a1, a2, a3⟩ := state_parts ha
  obtain ⟨b1, b2, b3⟩ := state_parts hb
  unfold jointAll
  cases hp : meetOk a.p b.p
  · rw [each_bad a1 b1 hp, each_stay (by omega), doR_bad _ (by omega)]
    rfl
  · rw [(each_ok hp).1]
    show (doR (each3 meetR 0 a.v b.v).e (meetR a.m b.m)).e = _
    cases hv : meetOk a.v b.v
    · rw [each_bad a2 b2 hv, doR_bad _ (by omega)]
      rfl
    · rw [(each_ok hv).1]
      show (doR 0 (meetR a.m b.m)).e = _
      rw [doR_ok]
      rcases meet_e a3 b3 with h | h <;> simp [h]
theorem joint_val (a b : State) (h : jointAll a b = true) : eachB meetR 0 a.p b.p = meetB a.p b.p ∧ (each3 meetR 0 a.p b.p).e = 0 ∧ eachB meetR 0 a.v b.v = meetB a.v b.v ∧ (each3 meetR 0 a.v b.v).e = 0 ∧ doR 0 (meetR a.m b.m) = ⟨(meetR a.m b.m).s, 0⟩ := by
  unfold jointAll at h
  simp only [Bool.and_eq_true, decide_eq_true_eq] at h
  obtain ⟨⟨h1, h2⟩, h3⟩ := h
  refine ⟨(each_ok h1).2, by rw [(each_ok h1).1], (each_ok h2).2, by rw [(each_ok h2).1], ?_⟩
  rw [doR_ok, ← h3]
class St64 (s : State) : Prop where
  t : I64 s.t
  p : B64 s.p
  v : B64 s.v
  m : S64 s.m
instance st64_p (s : State) [h : St64 s] : B64 s.p := h.p
instance st64_v (s : State) [h : St64 s] : B64 s.v := h.v
instance st64_m (s : State) [h : St64 s] : S64 s.m := h.m
theorem ret_state {t px0 px1 py0 py1 pz0 pz1 vx0 vx1 vy0 vy1 vz0 vz1 m0 m1 e : Int} {r : SRes} (h : (⟨⟨t, ⟨⟨px0, px1⟩, ⟨py0, py1⟩, ⟨pz0, pz1⟩⟩, ⟨⟨vx0, vx1⟩, ⟨vy0, vy1⟩, ⟨vz0, vz1⟩⟩, ⟨m0, m1⟩⟩, e⟩ : SRes) = r) :
    Ending.returned (.tuple #[.agg #[.int .i64 t, .int .i64 px0, .int .i64 px1, .int .i64 py0, .int .i64 py1, .int .i64 pz0, .int .i64 pz1, .int .i64 vx0, .int .i64 vx1, .int .i64 vy0, .int .i64 vy1, .int .i64 vz0, .int .i64 vz1, .int .i64 m0, .int .i64 m1], .int .i64 e]) = .returned (.tuple #[.agg #[.int .i64 r.s.t, .int .i64 r.s.p.x.lo, .int .i64 r.s.p.x.hi, .int .i64 r.s.p.y.lo, .int .i64 r.s.p.y.hi, .int .i64 r.s.p.z.lo, .int .i64 r.s.p.z.hi, .int .i64 r.s.v.x.lo, .int .i64 r.s.v.x.hi, .int .i64 r.s.v.y.lo, .int .i64 r.s.v.y.hi, .int .i64 r.s.v.z.lo, .int .i64 r.s.v.z.hi, .int .i64 r.s.m.lo, .int .i64 r.s.m.hi], .int .i64 r.e]) := by rw [← h]
def RetSt (r : SRes) (w : World) (e : Ending) (w' : World) : Prop := e = .returned (.tuple #[.agg #[.int .i64 r.s.t, .int .i64 r.s.p.x.lo, .int .i64 r.s.p.x.hi, .int .i64 r.s.p.y.lo, .int .i64 r.s.p.y.hi, .int .i64 r.s.p.z.lo, .int .i64 r.s.p.z.hi, .int .i64 r.s.v.x.lo, .int .i64 r.s.v.x.hi, .int .i64 r.s.v.y.lo, .int .i64 r.s.v.y.hi, .int .i64 r.s.v.z.lo, .int .i64 r.s.v.z.hi, .int .i64 r.s.m.lo, .int .i64 r.s.m.hi], .int .i64 r.e]) ∧ Grew w w'
theorem flState_yes (s : State) (h : s.okB = true) (w : World) : Calls Try.prog 50 #[.agg #[.int .i64 s.t, .int .i64 s.p.x.lo, .int .i64 s.p.x.hi, .int .i64 s.p.y.lo, .int .i64 s.p.y.hi, .int .i64 s.p.z.lo, .int .i64 s.p.z.hi, .int .i64 s.v.x.lo, .int .i64 s.v.x.hi, .int .i64 s.v.y.lo, .int .i64 s.v.y.hi, .int .i64 s.v.z.lo, .int .i64 s.v.z.hi, .int .i64 s.m.lo, .int .i64 s.m.hi]] w fun e w' => e = .returned (.int .i64 0) ∧ Grew w w' := is_int (by rw [h]; rfl) (flState_any s w)
theorem flState_no (s : State) (h : s.okB = false) (w : World) : Calls Try.prog 50 #[.agg #[.int .i64 s.t, .int .i64 s.p.x.lo, .int .i64 s.p.x.hi, .int .i64 s.p.y.lo, .int .i64 s.p.y.hi, .int .i64 s.p.z.lo, .int .i64 s.p.z.hi, .int .i64 s.v.x.lo, .int .i64 s.v.x.hi, .int .i64 s.v.y.lo, .int .i64 s.v.y.hi, .int .i64 s.v.z.lo, .int .i64 s.v.z.hi, .int .i64 s.m.lo, .int .i64 s.m.hi]] w fun e w' => e = .returned (.int .i64 2) ∧ Grew w w' := is_int (by rw [h]; rfl) (flState_any s w)
end Go.Proofs.Ytkeifgcncmilmaa
