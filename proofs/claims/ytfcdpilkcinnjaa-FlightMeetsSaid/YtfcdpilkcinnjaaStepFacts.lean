/-
  Plain law of a step without an error: what it needs, what it does; FlightBack and FlightMeets.
-/
import Derived.Test.YtfcdpilkcinnjaaStepIJK
import Derived.Test.YtfcdpilkcinnjaaStepMono
import Derived.Test.YtfcdpilkcinnjaaJoint
namespace Go.Proofs.Ytfcdpilkcinnjaa
set_option maxRecDepth 100000
theorem stepRR_zero {p : Planet} {x : Arc} {l : List Pt} {s : State} {h : Int} (z : (stepRR p x l s h).e = 0) : stepOk p x l s h = true ∧ stepRR p x l s h = stepFF p x l s h := by
  unfold stepRR at *
  split at z
  · rename_i k
    exact ⟨k, if_pos k⟩
  · exact absurd z (by decide)
theorem ArOk.of {x : Arc} {l : List Pt} (h : x.okB l = true) : ArOk x := by
  unfold Arc.okB dirB forcesB at h
  simp only [Bool.and_eq_true, List.all_cons, Sp.leastB] at h
  have k : ∀ {a b : Sp}, a.inB b = true → a.okB = true := fun h => (inB_nw h).1
  exact ⟨h.1.1.1.2.1.1, ⟨nw_refl (k h.1.1.1.1.1.1), nw_refl (k h.1.1.1.1.1.2), nw_refl (k h.1.1.1.1.2)⟩⟩
theorem arc_times {x : Arc} {l : List Pt} (h : x.okB l = true) : 1 ≤ x.time ∧ 1 ≤ x.step := by
  unfold Arc.okB at h
  simp only [Bool.and_eq_true, decide_eq_true_eq] at h
  exact ⟨h.1.1.2, h.1.2⟩
/-- A step without an error: what it needs, what it does. -/
theorem hop_rr {p : Planet} {x : Arc} {l : List Pt} {s : State} {h : Int} (z : (stepRR p x l s h).e = 0) : PlOk p ∧ ArOk x ∧ (numB h = true ∧ h ≠ 0) ∧ ∃ Q V K, Hop p x l s h (stepRR p x l s h).s (stepRR p x l s h).t Q V K := by
  obtain ⟨k, e⟩ := stepRR_zero z
  unfold stepOk at k
  simp only [Bool.and_eq_true, Bool.not_eq_true', decide_eq_false_iff_not] at k
  obtain ⟨h1, h2, -, h4, h5⟩ := k
  rw [e] at z ⊢
  exact ⟨PlOk.of h1, ArOk.of h2, ⟨h4, h5⟩, hop_of (PlOk.of h1) (ArOk.of h2) z⟩
theorem mulR_comm (a b : Sp) : mulR a b = mulR b a := by
  unfold mulR
  rw [Bool.and_comm]
  have e : ∀ x y z w : Int, min4 x y z w = min4 x z y w ∧ max4 x y z w = max4 x z y w := fun x y z w => by
    unfold min4 max4 imin imax
    constructor <;> ((repeat' split) <;> omega)
  rw [(e (a.lo * b.lo) _ _ _).1, (e (a.lo * b.lo) _ _ _).2, Int.mul_comm a.lo b.lo, Int.mul_comm a.hi b.lo, Int.mul_comm a.lo b.hi, Int.mul_comm a.hi b.hi]
/-- The mass that is left is among those of the tube. -/
theorem Hop.massIn {p : Planet} {x : Arc} {l : List Pt} {s : State} {h : Int} {n : State} {T : Tube} {Q V : Bx} {K : Sp} (H : Hop p x l s h n T Q V K) : Nw n.m T.m := by
  have hD : Nw ⟨h, h⟩ (stD h) := by
    have := hs_one' (stD_has h h (by omega)).1
    exact ⟨(mul_zero H.n1).1, this⟩
  have k := H.m1
  rw [mulR_comm] at k
  have m := (mul_mono hD (nw_refl H.okM.2.1) k).2
  rw [mulR_comm (stD h)] at m
  rw [H.nm, H.mT]
  exact (sub_mono (nw_refl H.okM.1) m H.m2).2
theorem okB_of {b : Bx} (h : ∀ i, (b.at i).okB = true) : b.okB = true := by
  unfold Bx.okB
  rw [show b.x.okB = true from h 0, show b.y.okB = true from h 1, show b.z.okB = true from h 2]
  rfl
theorem Hop.okState {p : Planet} {x : Arc} {l : List Pt} {s : State} {h : Int} {n : State} {T : Tube} {Q V : Bx} {K : Sp} (H : Hop p x l s h n T Q V K) : n.okB = true := by
  have h1 := H.massIn
  have h2 := h1.2.1
  have h3 := H.mp
  have h4 := H.nn
  unfold isNum at h4
  simp only [Bool.and_eq_true, decide_eq_true_eq] at h4
  unfold State.okB numB
  rw [okB_of (fun i => (H.okN i).1), okB_of (fun i => (H.okN i).2), h1.1]
  simp only [Bool.and_eq_true, decide_eq_true_eq, Bool.and_true]
  omega
theorem inB_of {a b : Sp} (h : Nw a b) (k : b.okB = true) : a.inB b = true := by
  unfold Sp.inB
  rw [h.1, k]
  obtain ⟨-, h1, h2⟩ := h
  simp [h1, h2]
/-- FlightBack: what goes forward by a step and back by it has all that was there. -/
theorem back_facts {p : Planet} {x : Arc} {l : List Pt} {s : State} {h : Int} (z : (stepRR p x l s h).e = 0) (z2 : (stepRR p x l (stepRR p x l s h).s (-h)).e = 0) :
    (stepRR p x l (stepRR p x l s h).s (-h)).s.t = s.t ∧ (∀ i, (s.p.at i).inB ((stepRR p x l (stepRR p x l s h).s (-h)).s.p.at i) = true ∧ (s.v.at i).inB ((stepRR p x l (stepRR p x l s h).s (-h)).s.v.at i) = true) ∧ s.m.inB (stepRR p x l (stepRR p x l s h).s (-h)).s.m = true := by
  obtain ⟨hp, hx, -, Q, V, K, H⟩ := hop_rr z
  obtain ⟨-, -, -, Q2, V2, K2, H2⟩ := hop_rr z2
  obtain ⟨h1, h2, h3⟩ := back_law hp hx H H2
  exact ⟨h1, fun i => ⟨inB_of (h2 i).1 (H2.okN i).1, inB_of (h2 i).2 (H2.okN i).2⟩, inB_of h3 H2.massIn.1⟩
theorem meetR_e {a b : Sp} (ha : a.okB = true) (hb : b.okB = true) (h : (meetS a b).lo ≤ (meetS a b).hi) : (meetR a b).e = 0 := by
  unfold meetR
  rw [ha, hb, if_pos (by rfl), if_neg (by omega)]
/-- FlightMeets: one step, and two. -/
theorem meets_facts {p : Planet} {x : Arc} {l : List Pt} {s : State} {h h1 h2 : Int} (hs : h1 + h2 = h) (hd : (0 ≤ h1 ∧ 0 ≤ h2) ∨ (h1 ≤ 0 ∧ h2 ≤ 0)) (z : (stepRR p x l s h).e = 0) (z1 : (stepRR p x l s h1).e = 0) (z2 : (stepRR p x l (stepRR p x l s h1).s h2).e = 0) :
    (jointR (stepRR p x l s h).s (stepRR p x l (stepRR p x l s h1).s h2).s).e = 0 := by
  obtain ⟨hp, hx, hh, Q, V, K, H⟩ := hop_rr z
  obtain ⟨-, -, -, Q1, V1, K1, H1⟩ := hop_rr z1
  obtain ⟨-, -, -, Q2, V2, K2, H2⟩ := hop_rr z2
  obtain ⟨k1, k2, k3⟩ := meets_law hp hx H H1 H2 hs hd hh.2
  unfold jointR
  rw [H.okState, H2.okState, if_pos (by rfl), if_pos k1.symm]
  have e : ∀ i, (meetR ((stepRR p x l s h).s.p.at i) ((stepRR p x l (stepRR p x l s h1).s h2).s.p.at i)).e = 0 ∧ (meetR ((stepRR p x l s h).s.v.at i) ((stepRR p x l (stepRR p x l s h1).s h2).s.v.at i)).e = 0 := fun i => ⟨meetR_e (H.okN i).1 (H2.okN i).1 (k2 i).1, meetR_e (H.okN i).2 (H2.okN i).2 (k2 i).2⟩
  have em := meetR_e H.massIn.1 H2.massIn.1 k3
  have all : jointAll (stepRR p x l s h).s (stepRR p x l (stepRR p x l s h1).s h2).s = true := by
    unfold jointAll meetOk
    simp only [Bool.and_eq_true, decide_eq_true_eq]
    exact ⟨⟨⟨⟨(e 0).1, (e 1).1⟩, (e 2).1⟩, ⟨⟨(e 0).2, (e 1).2⟩, (e 2).2⟩⟩, em⟩
  rw [if_pos all]
theorem i64c {n : Int} (h : decide (-9223372036854775808 ≤ n ∧ n ≤ 9223372036854775807) = true) : I64 n := by
  unfold I64
  exact of_decide_eq_true h
theorem st64_z : St64 zState := ⟨i64c rfl, ⟨⟨i64c rfl, i64c rfl⟩, ⟨i64c rfl, i64c rfl⟩, ⟨i64c rfl, i64c rfl⟩⟩, ⟨⟨i64c rfl, i64c rfl⟩, ⟨i64c rfl, i64c rfl⟩, ⟨i64c rfl, i64c rfl⟩⟩, ⟨i64c rfl, i64c rfl⟩⟩
theorem st64_err (e : Int) : St64 (stErr e).s := st64_z
theorem st64_ff (p : Planet) (x : Arc) (l : List Pt) (s : State) (h : Int) : St64 (stepFF p x l s h).s := by
  unfold stepFF stepOut
  split
  · unfold lastR
    split
    · refine ⟨?_, ⟨s64_do _ _, s64_do _ _, s64_do _ _⟩, ⟨s64_do _ _, s64_do _ _, s64_do _ _⟩, s64_do _ _⟩
      have : S64 (stF s h).s := s64_do _ _
      exact this.lo
    · exact st64_err _
  · exact st64_err _
instance st64_rr (p : Planet) (x : Arc) (l : List Pt) (s : State) (h : Int) : St64 (stepRR p x l s h).s := by
  unfold stepRR
  split
  · exact st64_ff p x l s h
  · exact st64_err _
end Go.Proofs.Ytfcdpilkcinnjaa
