/-
  Contracts: ullageref03.Joint.
-/
import Derived.Test.YtdanaclplmacgaaJoint
import Derived.Test.YtdanaclplmacgaaFlightRefOk
import Derived.LoopN
namespace Go.Proofs.Ytdanaclplmacgaa
open Go.RowKit Go.Shelf
set_option maxRecDepth 100000
set_option maxHeartbeats 16000000
theorem chain_stay (rs : List Res) (e : Int) (he : e ≠ 0) : rs.foldl (fun e r => (doR e r).e) e = e := by
  induction rs with
  | nil => rfl
  | cons r rs ih => rw [List.foldl_cons, doR_bad r he]; exact ih
theorem chain_err (rs : List Res) (h : ∀ r ∈ rs, E07 r) : rs.foldl (fun e r => (doR e r).e) 0 = if rs.all (fun r => decide (r.e = 0)) then 0 else 7 := by
  induction rs with
  | nil => rfl
  | cons r rs ih =>
    rw [List.foldl_cons, List.all_cons, doR_ok]
    rcases h r (by simp) with h0 | h0
    · rw [h0, ih (fun x hx => h x (by simp [hx]))]; simp
    · rw [h0, chain_stay _ _ (by omega)]; simp
def q1 (a b : State) : Res := doR 0 (meetR a.p.x b.p.x)
def q2 (a b : State) : Res := doR (q1 a b).e (meetR a.v.x b.v.x)
def q3 (a b : State) : Res := doR (q2 a b).e (meetR a.p.y b.p.y)
def q4 (a b : State) : Res := doR (q3 a b).e (meetR a.v.y b.v.y)
def q5 (a b : State) : Res := doR (q4 a b).e (meetR a.p.z b.p.z)
def q6 (a b : State) : Res := doR (q5 a b).e (meetR a.v.z b.v.z)
def q7 (a b : State) : Res := doR (q6 a b).e (meetR a.m b.m)
theorem box_parts {a : Bx} (h : a.okB = true) : a.x.okB = true ∧ a.y.okB = true ∧ a.z.okB = true := by
  unfold Bx.okB at h
  simp only [Bool.and_eq_true] at h
  exact ⟨h.1.1, h.1.2, h.2⟩
theorem q_err (a b : State) (ha : a.okB = true) (hb : b.okB = true) : (q7 a b).e = if jointAll a b then 0 else 7 := by
  obtain ⟨a1, a2, a3⟩ := state_parts ha
  obtain ⟨b1, b2, b3⟩ := state_parts hb
  obtain ⟨ax, ay, az⟩ := box_parts a1
  obtain ⟨avx, avy, avz⟩ := box_parts a2
  obtain ⟨bx, by_, bz⟩ := box_parts b1
  obtain ⟨bvx, bvy, bvz⟩ := box_parts b2
  have h := chain_err [meetR a.p.x b.p.x, meetR a.v.x b.v.x, meetR a.p.y b.p.y, meetR a.v.y b.v.y, meetR a.p.z b.p.z, meetR a.v.z b.v.z, meetR a.m b.m] (by
    intro r hr
    simp only [List.mem_cons, List.not_mem_nil, or_false] at hr
    rcases hr with rfl | rfl | rfl | rfl | rfl | rfl | rfl
    · exact meet_e ax bx
    · exact meet_e avx bvx
    · exact meet_e ay by_
    · exact meet_e avy bvy
    · exact meet_e az bz
    · exact meet_e avz bvz
    · exact meet_e a3 b3)
  have e1 : (q7 a b).e = [meetR a.p.x b.p.x, meetR a.v.x b.v.x, meetR a.p.y b.p.y, meetR a.v.y b.v.y, meetR a.p.z b.p.z, meetR a.v.z b.v.z, meetR a.m b.m].foldl (fun e r => (doR e r).e) 0 := rfl
  rw [e1, h]
  have e2 : [meetR a.p.x b.p.x, meetR a.v.x b.v.x, meetR a.p.y b.p.y, meetR a.v.y b.v.y, meetR a.p.z b.p.z, meetR a.v.z b.v.z, meetR a.m b.m].all (fun r => decide (r.e = 0)) = jointAll a b := by
    unfold jointAll meetOk
    simp only [List.all_cons, List.all_nil]
    generalize decide ((meetR a.p.x b.p.x).e = 0) = c1
    generalize decide ((meetR a.p.y b.p.y).e = 0) = c2
    generalize decide ((meetR a.p.z b.p.z).e = 0) = c3
    generalize decide ((meetR a.v.x b.v.x).e = 0) = c4
    generalize decide ((meetR a.v.y b.v.y).e = 0) = c5
    generalize decide ((meetR a.v.z b.v.z).e = 0) = c6
    generalize decide ((meetR a.m b.m).e = 0) = c7
    revert c1 c2 c3 c4 c5 c6 c7
    decide
  rw [e2]
theorem q_val (a b : State) (h : jointAll a b = true) : ((⟨(q1 a b).s, (q3 a b).s, (q5 a b).s⟩, ⟨(q2 a b).s, (q4 a b).s, (q6 a b).s⟩) : Bx × Bx) = (meetB a.p b.p, meetB a.v b.v) ∧ (q7 a b).s = (meetR a.m b.m).s := by
  unfold jointAll meetOk at h
  simp only [Bool.and_eq_true, decide_eq_true_eq] at h
  obtain ⟨⟨⟨⟨h1, h3⟩, h5⟩, ⟨⟨h2, h4⟩, h6⟩⟩, h7⟩ := h
  have e1 : q1 a b = meetR a.p.x b.p.x := rfl
  have e2 : q2 a b = meetR a.v.x b.v.x := by unfold q2; rw [e1, h1]; rfl
  have e3 : q3 a b = meetR a.p.y b.p.y := by unfold q3; rw [e2, h2]; rfl
  have e4 : q4 a b = meetR a.v.y b.v.y := by unfold q4; rw [e3, h3]; rfl
  have e5 : q5 a b = meetR a.p.z b.p.z := by unfold q5; rw [e4, h4]; rfl
  have e6 : q6 a b = meetR a.v.z b.v.z := by unfold q6; rw [e5, h5]; rfl
  have e7 : q7 a b = meetR a.m b.m := by unfold q7; rw [e6, h6]; rfl
  rw [e1, e2, e3, e4, e5, e6, e7]
  exact ⟨rfl, rfl⟩
theorem r3State_yes (s : State) (h : s.okB = true) (w : World) : Calls Try.prog 37 #[.agg #[.int .i64 s.t, .int .i64 s.p.x.lo, .int .i64 s.p.x.hi, .int .i64 s.p.y.lo, .int .i64 s.p.y.hi, .int .i64 s.p.z.lo, .int .i64 s.p.z.hi, .int .i64 s.v.x.lo, .int .i64 s.v.x.hi, .int .i64 s.v.y.lo, .int .i64 s.v.y.hi, .int .i64 s.v.z.lo, .int .i64 s.v.z.hi, .int .i64 s.m.lo, .int .i64 s.m.hi]] w fun e w' => e = .returned (.int .i64 0) ∧ Grew w w' := is_int (by rw [h]; rfl) (r3State_any s w)
theorem r3State_no (s : State) (h : s.okB = false) (w : World) : Calls Try.prog 37 #[.agg #[.int .i64 s.t, .int .i64 s.p.x.lo, .int .i64 s.p.x.hi, .int .i64 s.p.y.lo, .int .i64 s.p.y.hi, .int .i64 s.p.z.lo, .int .i64 s.p.z.hi, .int .i64 s.v.x.lo, .int .i64 s.v.x.hi, .int .i64 s.v.y.lo, .int .i64 s.v.y.hi, .int .i64 s.v.z.lo, .int .i64 s.v.z.hi, .int .i64 s.m.lo, .int .i64 s.m.hi]] w fun e w' => e = .returned (.int .i64 2) ∧ Grew w w' := is_int (by rw [h]; rfl) (r3State_any s w)
end Go.Proofs.Ytdanaclplmacgaa
