/-
  The plain law of a step: the tube, the new state, the program's order and the document's.
  The plain law of a step, second part: the tube's tries, the last part, the whole step.
  The plain law of a step, third part: the program's step is the document's.
-/
import Derived.Test.YtkeifgcncmilmaaForceLaw
import Derived.Test.YtkeifgcncmilmaaJoint
namespace Go.Proofs.Ytkeifgcncmilmaa
set_option maxRecDepth 100000
/-- The errors of operations in a row. -/
def runE : Int → List Res → Int
  | e, [] => e
  | e, a :: l => runE (doR e a).e l
theorem runE_bad {e : Int} (h : e ≠ 0) : ∀ l, runE e l = e
  | [] => rfl
  | a :: l => by
    show runE (doR e a).e l = e
    rw [doR_ee a h]
    exact runE_bad h l
theorem runE_zero : ∀ (l : List Res), (∀ a ∈ l, a.e = 0) → runE 0 l = 0
  | [], _ => rfl
  | a :: l, h => by
    show runE (doR 0 a).e l = 0
    rw [doR_ok, h a (by simp)]
    exact runE_zero l fun b hb => h b (by simp [hb])
theorem runE_four : ∀ (l : List Res), (∀ a ∈ l, E4 a) → ¬ (∀ a ∈ l, a.e = 0) → runE 0 l = 4
  | [], _, h => absurd (fun a ha => by simp at ha) h
  | a :: l, h4, h => by
    show runE (doR 0 a).e l = 4
    rw [doR_ok]
    rcases h4 a (by simp) with h0 | h0
    · rw [h0]
      refine runE_four l (fun b hb => h4 b (by simp [hb])) fun k => h fun b hb => ?_
      rcases List.mem_cons.1 hb with rfl | hb
      · exact h0
      · exact k b hb
    · rw [h0]
      exact runE_bad (by omega) l
/-- Six spans: a place and a velocity, and the error. -/
structure CRes where
  p : Bx
  v : Bx
  e : Int
def AlikeC (x y : CRes) : Prop := x.e = y.e ∧ (x.e = 0 → x.p = y.p ∧ x.v = y.v)
theorem AlikeC.refl (x : CRes) : AlikeC x x := ⟨rfl, fun _ => ⟨rfl, rfl⟩⟩
theorem AlikeC.trans {x y z : CRes} (h : AlikeC x y) (k : AlikeC y z) : AlikeC x z :=
  ⟨h.1.trans k.1, fun e => ⟨(h.2 e).1.trans (k.2 (h.1 ▸ e)).1, (h.2 e).2.trans (k.2 (h.1 ▸ e)).2⟩⟩
theorem alikeC_bad {x y : CRes} {e : Int} (he : e ≠ 0) (h : x.e = e) (k : y.e = e) : AlikeC x y := ⟨h.trans k.symm, fun z => absurd (h.symm.trans z) he⟩
theorem alikeC_cases {o o' : CRes} (h : AlikeC o o') : o = o' ∨ (o.e ≠ 0 ∧ o'.e ≠ 0 ∧ o.e = o'.e) := by
  by_cases he : o.e = 0
  · left
    obtain ⟨p, v, e⟩ := o
    obtain ⟨p', v', e'⟩ := o'
    have := h.2 he
    have := h.1
    simp_all
  · exact .inr ⟨he, by rw [← h.1]; exact he, h.1⟩
/-! Where something may be within a time. -/
def rcM (d : Sp) (v : Bx) (e : Int) : BRes := eachR mulR e (ones d) v
def rcP (s : Bx) (d : Sp) (v : Bx) (e : Int) : BRes := eachR addR (rcM d v e).e s (rcM d v e).b
/-- The program's: all of the place, then all of the velocity. -/
def reachF (P V : Bx) (d : Sp) (v f : Bx) (e : Int) : CRes := ⟨(rcP P d v e).b, (rcP V d f (rcP P d v e).e).b, (rcP V d f (rcP P d v e).e).e⟩
/-- The document's: component by component. -/
def rgE0 (P _V : Bx) (d : Sp) (v _f : Bx) (e : Int) : Res := mulAdd d v.x P.x e
def rgE1 (P V : Bx) (d : Sp) (v f : Bx) (e : Int) : Res := mulAdd d f.x V.x (rgE0 P V d v f e).e
def rgE2 (P V : Bx) (d : Sp) (v f : Bx) (e : Int) : Res := mulAdd d v.y P.y (rgE1 P V d v f e).e
def rgE3 (P V : Bx) (d : Sp) (v f : Bx) (e : Int) : Res := mulAdd d f.y V.y (rgE2 P V d v f e).e
def rgE4 (P V : Bx) (d : Sp) (v f : Bx) (e : Int) : Res := mulAdd d v.z P.z (rgE3 P V d v f e).e
def rgE5 (P V : Bx) (d : Sp) (v f : Bx) (e : Int) : Res := mulAdd d f.z V.z (rgE4 P V d v f e).e
def reachG (P V : Bx) (d : Sp) (v f : Bx) (e : Int) : CRes := ⟨⟨(rgE0 P V d v f e).s, (rgE2 P V d v f e).s, (rgE4 P V d v f e).s⟩, ⟨(rgE1 P V d v f e).s, (rgE3 P V d v f e).s, (rgE5 P V d v f e).s⟩, (rgE5 P V d v f e).e⟩
/-- One component, without what was wrong before. -/
def ma (d u o : Sp) : Res := bindR (mulR d u) (fun y => addR o y)
theorem e4_ma {d u o : Sp} (hd : d.okB = true) (hu : u.okB = true) (ho : o.okB = true) : E4 (ma d u o) := bind_e4 (e4_mul hd hu) (e4_add ho ok_mul)
theorem rcP_alike (s : Bx) (d : Sp) (v : Bx) (e : Int) (hd : d.okB = true) (hv : v.Ok) (hs : s.Ok) : Alike (rcP s d v e) (th (fun e => doR e (ma d v.x s.x)) (fun e => doR e (ma d v.y s.y)) (fun e => doR e (ma d v.z s.z)) e) :=
  th_fuse e _ _ _ (fun y => addR s.x y) (fun y => addR s.y y) (fun y => addR s.z y) (e4_mul hd hv.1) (e4_mul hd hv.2.1) (e4_mul hd hv.2.2) (e4_add hs.1 ok_mul) (e4_add hs.2.1 ok_mul) (e4_add hs.2.2 ok_mul) (rcM d v e) (by unfold rcM; rw [eachR_th]; exact Alike.refl _)
theorem th_run (a b c : Res) (e : Int) : (th (fun e => doR e a) (fun e => doR e b) (fun e => doR e c) e).e = runE e [a, b, c] := rfl
theorem runE_append (e : Int) : ∀ (l m : List Res), runE e (l ++ m) = runE (runE e l) m := by
  intro l
  induction l generalizing e with
  | nil => exact fun _ => rfl
  | cons a l ih => exact fun m => ih _ m
theorem reach_alike (P V : Bx) (d : Sp) (v f : Bx) (e : Int) (hP : P.Ok) (hV : V.Ok) (hd : d.okB = true) (hv : v.Ok) (hf : f.Ok) : AlikeC (reachF P V d v f e) (reachG P V d v f e) := by
  have h1 := rcP_alike P d v e hd hv hP
  have hg : (reachG P V d v f e).e = runE e [ma d v.x P.x, ma d f.x V.x, ma d v.y P.y, ma d f.y V.y, ma d v.z P.z, ma d f.z V.z] := rfl
  by_cases he : e = 0
  · subst he
    have h2 := rcP_alike V d f (rcP P d v 0).e hd hf hV
    have a1 := e4_ma hd hv.1 hP.1
    have a2 := e4_ma hd hv.2.1 hP.2.1
    have a3 := e4_ma hd hv.2.2 hP.2.2
    have b1 := e4_ma hd hf.1 hV.1
    have b2 := e4_ma hd hf.2.1 hV.2.1
    have b3 := e4_ma hd hf.2.2 hV.2.2
    have hr : (reachF P V d v f 0).e = runE 0 ([ma d v.x P.x, ma d v.y P.y, ma d v.z P.z] ++ [ma d f.x V.x, ma d f.y V.y, ma d f.z V.z]) := by
      rw [runE_append, show runE 0 [ma d v.x P.x, ma d v.y P.y, ma d v.z P.z] = (rcP P d v 0).e from h1.1.symm]
      exact h2.1.trans (th_run _ _ _ _)
    by_cases hz : (∀ a ∈ [ma d v.x P.x, ma d f.x V.x, ma d v.y P.y, ma d f.y V.y, ma d v.z P.z, ma d f.z V.z], a.e = 0)
    · have hz' : ∀ a ∈ [ma d v.x P.x, ma d v.y P.y, ma d v.z P.z] ++ [ma d f.x V.x, ma d f.y V.y, ma d f.z V.z], a.e = 0 := fun a ha => hz a (by simp at ha ⊢; rcases ha with h | h | h | h | h | h <;> simp [h])
      refine ⟨by rw [hr, hg, runE_zero _ hz, runE_zero _ hz'], fun _ => ?_⟩
      have k1 := hz (ma d v.x P.x) (by simp)
      have k2 := hz (ma d f.x V.x) (by simp)
      have k3 := hz (ma d v.y P.y) (by simp)
      have k4 := hz (ma d f.y V.y) (by simp)
      have k5 := hz (ma d v.z P.z) (by simp)
      have k6 := hz (ma d f.z V.z) (by simp)
      rw [th_zero _ _ _ k1 k3 k5] at h1
      have e1 : (rcP P d v 0).e = 0 := h1.1
      rw [e1, th_zero _ _ _ k2 k4 k6] at h2
      have g0 : rgE0 P V d v f 0 = ma d v.x P.x := rfl
      have g1 : rgE1 P V d v f 0 = ma d f.x V.x := by unfold rgE1; rw [g0, k1]; rfl
      have g2 : rgE2 P V d v f 0 = ma d v.y P.y := by unfold rgE2; rw [g1, k2]; rfl
      have g3 : rgE3 P V d v f 0 = ma d f.y V.y := by unfold rgE3; rw [g2, k3]; rfl
      have g4 : rgE4 P V d v f 0 = ma d v.z P.z := by unfold rgE4; rw [g3, k4]; rfl
      have g5 : rgE5 P V d v f 0 = ma d f.z V.z := by unfold rgE5; rw [g4, k5]; rfl
      unfold reachF reachG
      simp only [g0, g1, g2, g3, g4, g5]
      exact ⟨h1.2 e1, by rw [e1]; exact h2.2 h2.1⟩
    · have hz' : ¬ ∀ a ∈ [ma d v.x P.x, ma d v.y P.y, ma d v.z P.z] ++ [ma d f.x V.x, ma d f.y V.y, ma d f.z V.z], a.e = 0 := fun k => hz fun a ha => k a (by simp at ha ⊢; rcases ha with h | h | h | h | h | h <;> simp [h])
      have f4 : ∀ a ∈ [ma d v.x P.x, ma d f.x V.x, ma d v.y P.y, ma d f.y V.y, ma d v.z P.z, ma d f.z V.z], E4 a := fun a ha => by
        simp at ha
        rcases ha with rfl | rfl | rfl | rfl | rfl | rfl <;> assumption
      have f4' : ∀ a ∈ [ma d v.x P.x, ma d v.y P.y, ma d v.z P.z] ++ [ma d f.x V.x, ma d f.y V.y, ma d f.z V.z], E4 a := fun a ha => by
        simp at ha
        rcases ha with rfl | rfl | rfl | rfl | rfl | rfl <;> assumption
      exact alikeC_bad (e := 4) (by omega) (by rw [hr, runE_four _ f4' hz']) (by rw [hg, runE_four _ f4 hz])
  · refine alikeC_bad he ?_ (by rw [hg, runE_bad he])
    have k1 : (rcP P d v e).e = e := h1.1.trans (th_bad _ _ _ he)
    have h2 := rcP_alike V d f e hd hf hV
    show (rcP V d f (rcP P d v e).e).e = e
    rw [k1]
    exact h2.1.trans (th_bad _ _ _ he)
/-! Spans that do not contain others are grown. -/
structure NRes where
  n : Int
  e : Int
def wideR (a : Sp) : NRes := if a.okB then (if 9223372036854775807 < a.hi - a.lo then ⟨0, 4⟩ else ⟨a.hi - a.lo, 0⟩) else ⟨0, 2⟩
def growR (a : Sp) (by_ : Int) : Res := if a.okB && decide (0 ≤ by_) then fitR (a.lo - by_) (a.hi + by_) else errR 2
def doN (e : Int) (r : NRes) : Int := if e = 0 then r.e else e
/-- The program's, one span: what was wrong before, the span, what it is to contain. -/
def wdH (b m : Sp) (e : Int) : Res := doR e (hullR b m)
def wdE (b m : Sp) (e : Int) : Int := doN (wdH b m e).e (wideR (wdH b m e).s)
def wdBy (b m : Sp) (e : Int) : Int := (wideR (wdH b m e).s).n / 8 + 65536
def wdR (b m : Sp) (e : Int) : Res := if m.inB b then ⟨b, e⟩ else doR (wdE b m e) (addR (wdH b m e).s ⟨-wdBy b m e, wdBy b m e⟩)
/-- The document's. -/
def gwN (b m : Sp) : Int := if (hullR b m).e = 0 then (wideR (hullR b m).s).n else 0
def gwR (b m : Sp) (e : Int) : Res := if m.inB b then ⟨b, e⟩ else if e = 0 then doR (wdE b m 0) (growR (hullR b m).s (gwN b m / 8 + 65536)) else ⟨b, e⟩
theorem hull_ok {a b : Sp} (ha : a.okB = true) (hb : b.okB = true) : hullR a b = ⟨hullS a b, 0⟩ ∧ (hullS a b).okB = true := by
  unfold hullR
  rw [ha, hb]
  refine ⟨rfl, ?_⟩
  unfold Sp.okB numB at *
  unfold hullS imin imax
  simp only [Bool.and_eq_true, decide_eq_true_eq] at *
  split <;> split <;> omega
theorem wide_n {a : Sp} (h : a.okB = true) : 0 ≤ (wideR a).n ∧ (wideR a).n ≤ 9223372036854775807 := by
  have := ok_le h
  unfold wideR
  rw [if_pos h]
  split
  · exact ⟨Int.le_refl _, by decide⟩
  · exact ⟨by show 0 ≤ a.hi - a.lo; omega, by show a.hi - a.lo ≤ _; omega⟩
theorem grow_add {a : Sp} {y : Int} (h : a.okB = true) (h0 : 0 ≤ y) (h1 : y ≤ 9223372036854775807) : addR a ⟨-y, y⟩ = growR a y := by
  unfold addR growR
  have : (⟨-y, y⟩ : Sp).okB = true := by
    unfold Sp.okB numB
    simp only [Bool.and_eq_true, decide_eq_true_eq]
    omega
  rw [h, this, show decide (0 ≤ y) = true by simpa using h0]
  show fitR (a.lo + -y) (a.hi + y) = fitR (a.lo - y) (a.hi + y)
  rw [Int.sub_eq_add_neg]
theorem wd_same {b m : Sp} (hb : b.okB = true) (hm : m.okB = true) : wdR b m 0 = gwR b m 0 := by
  unfold wdR gwR
  split
  · rfl
  · rw [if_pos rfl]
    obtain ⟨h1, h2⟩ := hull_ok hb hm
    have hn := wide_n h2
    have e1 : wdH b m 0 = ⟨hullS b m, 0⟩ := h1
    have e2 : wdBy b m 0 = gwN b m / 8 + 65536 := by unfold wdBy gwN; rw [e1, h1]; rfl
    have e3 : gwN b m = (wideR (hullS b m)).n := by unfold gwN; rw [h1]; rfl
    rw [e2, h1, show (wdH b m 0).s = hullS b m by rw [e1]]
    rw [grow_add h2 (by omega) (by omega)]
theorem wd_e (b m : Sp) {e : Int} (h : e ≠ 0) : (wdR b m e).e = e ∧ (gwR b m e).e = e := by
  unfold wdR gwR
  split
  · exact ⟨rfl, rfl⟩
  · refine ⟨?_, rfl⟩
    have e1 : (wdH b m e).e = e := doR_ee _ h
    have e2 : wdE b m e = e := by unfold wdE doN; rw [e1, if_neg h]
    rw [e2]
    exact doR_ee _ h
end Go.Proofs.Ytkeifgcncmilmaa
namespace Go.Proofs.Ytkeifgcncmilmaa
set_option maxRecDepth 100000
def wid0 (f : Sp → Sp → Int → Res) (q mq : Bx) (e : Int) : Res := f q.x mq.x e
def wid1 (f : Sp → Sp → Int → Res) (q mq : Bx) (e : Int) : Res := f q.y mq.y (wid0 f q mq e).e
def wid2 (f : Sp → Sp → Int → Res) (q mq : Bx) (e : Int) : Res := f q.z mq.z (wid1 f q mq e).e
/-- Three spans, one after another. -/
def widB (f : Sp → Sp → Int → Res) (q mq : Bx) (e : Int) : BRes := ⟨⟨(wid0 f q mq e).s, (wid1 f q mq e).s, (wid2 f q mq e).s⟩, (wid2 f q mq e).e⟩
/-- The place, then the velocity. -/
def widC (f : Sp → Sp → Int → Res) (q v mq mv : Bx) (e : Int) : CRes := ⟨(widB f q mq e).b, (widB f v mv (widB f q mq e).e).b, (widB f v mv (widB f q mq e).e).e⟩
theorem widB_bad {q mq : Bx} {e : Int} (h : e ≠ 0) : (widB wdR q mq e).e = e ∧ (widB gwR q mq e).e = e := by
  have a0 := wd_e q.x mq.x h
  have a1 := wd_e q.y mq.y h
  have a2 := wd_e q.z mq.z h
  unfold widB wid2 wid1 wid0
  simp only [a0.1, a0.2, a1.1, a1.2]
  exact a2
theorem widB_alike {q mq : Bx} (hq : q.Ok) (hm : mq.Ok) : Alike (widB wdR q mq 0) (widB gwR q mq 0) := by
  have a0 : wid0 wdR q mq 0 = wid0 gwR q mq 0 := wd_same hq.1 hm.1
  by_cases h0 : (wid0 gwR q mq 0).e = 0
  · have a1 : wid1 wdR q mq 0 = wid1 gwR q mq 0 := by unfold wid1; rw [a0, h0]; exact wd_same hq.2.1 hm.2.1
    by_cases h1 : (wid1 gwR q mq 0).e = 0
    · have a2 : wid2 wdR q mq 0 = wid2 gwR q mq 0 := by unfold wid2; rw [a1, h1]; exact wd_same hq.2.2 hm.2.2
      unfold widB
      rw [a0, a1, a2]
      exact Alike.refl _
    · refine alike_bad h1 ?_ ?_
      · show (wid2 wdR q mq 0).e = _
        unfold wid2
        rw [a1]
        exact (wd_e _ _ h1).1
      · exact (wd_e _ _ h1).2
  · refine alike_bad h0 ?_ ?_
    · show (wid2 wdR q mq 0).e = _
      have : (wid1 wdR q mq 0).e = (wid0 gwR q mq 0).e := by unfold wid1; rw [a0]; exact (wd_e _ _ h0).1
      unfold wid2
      rw [this]
      exact (wd_e _ _ h0).1
    · show (wid2 gwR q mq 0).e = _
      have : (wid1 gwR q mq 0).e = (wid0 gwR q mq 0).e := (wd_e _ _ h0).2
      unfold wid2
      rw [this]
      exact (wd_e _ _ h0).2
theorem widC_alike {q v mq mv : Bx} (hq : q.Ok) (hv : v.Ok) (hm : mq.Ok) (hn : mv.Ok) : AlikeC (widC wdR q v mq mv 0) (widC gwR q v mq mv 0) := by
  have h1 := widB_alike hq hm
  rcases alike_cases h1 with h | ⟨k1, k2, k3⟩
  · unfold widC
    rw [h]
    by_cases he : (widB gwR q mq 0).e = 0
    · rw [he]
      have h2 := widB_alike hv hn
      exact ⟨h2.1, fun e => ⟨rfl, h2.2 e⟩⟩
    · exact alikeC_bad he (widB_bad he).1 (widB_bad he).2
  · exact alikeC_bad k1 (widB_bad k1).1 ((widB_bad k2).2.trans k3.symm)
theorem ok_wd {b m : Sp} (hb : b.okB = true) (e : Int) : (wdR b m e).s.okB = true ∧ (gwR b m e).s.okB = true := by
  refine ⟨?_, ?_⟩
  · unfold wdR
    split
    · exact hb
    · exact ok_do ok_add
  · unfold gwR
    split
    · exact hb
    · split
      · refine ok_do ?_
        unfold growR
        cases ho : (hullR b m).s.okB
        · rfl
        · split
          · rename_i h
            simp only [Bool.true_and, decide_eq_true_eq] at h
            exact ok_fit (by have := ok_le ho; omega)
          · rfl
      · exact hb
theorem ok_widB {q mq : Bx} (hq : q.Ok) (e : Int) : (widB wdR q mq e).b.Ok ∧ (widB gwR q mq e).b.Ok := ⟨⟨(ok_wd hq.1 _).1, (ok_wd hq.2.1 _).1, (ok_wd hq.2.2 _).1⟩, ⟨(ok_wd hq.1 _).2, (ok_wd hq.2.1 _).2, (ok_wd hq.2.2 _).2⟩⟩
/-- All six spans contain what they are to contain. -/
def boxIn (a b : Bx) : Bool := a.x.inB b.x && a.y.inB b.y && a.z.inB b.z
def allIn (q v mq mv : Bx) : Bool := boxIn mq q && boxIn mv v
structure TRes where
  found : Bool
  p : Bx
  v : Bx
  e : Int
def AlikeT (x y : TRes) : Prop := x.e = y.e ∧ x.found = y.found ∧ (x.found = true → x.p = y.p ∧ x.v = y.v)
/-- The tries of a tube: the force, what is reached, what is grown. -/
def tubeR (ff : Bx → Bx → Int → BRes) (rr : Bx → Bx → Int → CRes) (wf : Sp → Sp → Int → Res) : Nat → Bx → Bx → Int → TRes
  | 0, q, v, e => ⟨false, q, v, e⟩
  | n + 1, q, v, e =>
    if (rr v (ff q v e).b (ff q v e).e).e ≠ 0 then ⟨false, q, v, (rr v (ff q v e).b (ff q v e).e).e⟩
    else if allIn q v (rr v (ff q v e).b (ff q v e).e).p (rr v (ff q v e).b (ff q v e).e).v then ⟨true, (rr v (ff q v e).b (ff q v e).e).p, (rr v (ff q v e).b (ff q v e).e).v, 0⟩
    else tubeR ff rr wf n (widC wf q v (rr v (ff q v e).b (ff q v e).e).p (rr v (ff q v e).b (ff q v e).e).v 0).p (widC wf q v (rr v (ff q v e).b (ff q v e).e).p (rr v (ff q v e).b (ff q v e).e).v 0).v (widC wf q v (rr v (ff q v e).b (ff q v e).e).p (rr v (ff q v e).b (ff q v e).e).v 0).e
theorem tubeR_bad {ff : Bx → Bx → Int → BRes} {rr : Bx → Bx → Int → CRes} {wf : Sp → Sp → Int → Res} (hr : ∀ v f e, e ≠ 0 → (rr v f e).e = e) (hf : ∀ q v e, e ≠ 0 → (ff q v e).e = e) {e : Int} (he : e ≠ 0) : ∀ (n : Nat) (q v : Bx), (tubeR ff rr wf n q v e).found = false ∧ (tubeR ff rr wf n q v e).e = e
  | 0, _, _ => ⟨rfl, rfl⟩
  | n + 1, q, v => by
    have h1 : (rr v (ff q v e).b (ff q v e).e).e = e := by rw [hr _ _ _ (by rw [hf q v e he]; exact he), hf q v e he]
    unfold tubeR
    rw [if_pos (by rw [h1]; exact he)]
    exact ⟨rfl, h1⟩
theorem tube_alike {ff ff' : Bx → Bx → Int → BRes} {rr rr' : Bx → Bx → Int → CRes} (hf : ∀ q v, v.Ok → Alike (ff q v 0) (ff' q v 0)) (hfo : ∀ q v e, (ff' q v e).b.Ok)
    (hr : ∀ v f e, v.Ok → f.Ok → AlikeC (rr v f e) (rr' v f e)) (hro : ∀ v f e, (rr' v f e).p.Ok ∧ (rr' v f e).v.Ok)
    (hb : ∀ v f e, e ≠ 0 → (rr v f e).e = e) (hb' : ∀ v f e, e ≠ 0 → (rr' v f e).e = e) (gb : ∀ q v e, e ≠ 0 → (ff q v e).e = e) (gb' : ∀ q v e, e ≠ 0 → (ff' q v e).e = e) :
    ∀ (n : Nat) (q v : Bx) (e : Int), q.Ok → v.Ok → AlikeT (tubeR ff rr wdR n q v e) (tubeR ff' rr' gwR n q v e)
  | 0, _, _, _, _, _ => ⟨rfl, rfl, fun h => by cases h⟩
  | n + 1, q, v, e, hq, hv => by
    by_cases he : e = 0
    · subst he
      have h1 := hf q v hv
      have h2 : AlikeC (rr v (ff q v 0).b (ff q v 0).e) (rr' v (ff' q v 0).b (ff' q v 0).e) := by
        rcases alike_cases h1 with h | ⟨k1, k2, k3⟩
        · rw [h]
          exact hr _ _ _ hv (hfo _ _ _)
        · exact alikeC_bad k1 (hb _ _ _ k1) ((hb' _ _ _ k2).trans k3.symm)
      have ho := hro v (ff' q v 0).b (ff' q v 0).e
      show AlikeT (tubeR ff rr wdR (n + 1) q v 0) (tubeR ff' rr' gwR (n + 1) q v 0)
      unfold tubeR
      rcases alikeC_cases h2 with h | ⟨k1, k2, k3⟩
      · rw [h]
        generalize rr' v (ff' q v 0).b (ff' q v 0).e = M at *
        split
        · exact ⟨rfl, rfl, fun h => by cases h⟩
        · split
          · exact ⟨rfl, rfl, fun _ => ⟨rfl, rfl⟩⟩
          · have h3 := widC_alike hq hv ho.1 ho.2
            rcases alikeC_cases h3 with h | ⟨k1, k2, k3⟩
            · rw [h]
              exact tube_alike hf hfo hr hro hb hb' gb gb' n _ _ _ (ok_widB hq _).2 (ok_widB hv _).2
            · have t1 := tubeR_bad (wf := wdR) hb gb k1 n (widC wdR q v M.p M.v 0).p (widC wdR q v M.p M.v 0).v
              have t2 := tubeR_bad (wf := gwR) hb' gb' k2 n (widC gwR q v M.p M.v 0).p (widC gwR q v M.p M.v 0).v
              exact ⟨by rw [t1.2, t2.2, k3], by rw [t1.1, t2.1], fun h => by rw [t1.1] at h; cases h⟩
      · rw [if_pos k1, if_pos k2]
        exact ⟨k3, rfl, fun h => by cases h⟩
    · have t1 := tubeR_bad (wf := wdR) hb gb he (n + 1) q v
      have t2 := tubeR_bad (wf := gwR) hb' gb' he (n + 1) q v
      exact ⟨by rw [t1.2, t2.2], by rw [t1.1, t2.1], fun h => by rw [t1.1] at h; cases h⟩
end Go.Proofs.Ytkeifgcncmilmaa
namespace Go.Proofs.Ytkeifgcncmilmaa
set_option maxRecDepth 100000
theorem spin_bad (w : Sp) (q v : Bx) {o : BRes} (h : o.e ≠ 0) : (spinR w q v o).e = o.e := (spin_alike w q v (o := o) (o' := ⟨q, o.e⟩) ⟨rfl, fun k => absurd k h⟩).1.trans (by
  unfold spinR
  split
  · rfl
  · have k : ∀ x : BRes, x.e ≠ 0 → (spB5 w q v x).e = x.e := fun x hx => by
      have h0 : (spE w x).e = x.e := doR_ee _ hx
      have h1 : (spA1 w v x).e = x.e := by unfold spA1; rw [h0, doR_ee _ hx]
      have h2 : (spA2 w v x).e = x.e := by unfold spA2; rw [h1, doR_ee _ hx]
      have h3 : (spA3 w v x).e = x.e := by unfold spA3; rw [h2, doR_ee _ hx]
      have h4 : (spA4 w q v x).e = x.e := by unfold spA4; rw [h3, doR_ee _ hx]
      have h5 : (spA5 w q v x).e = x.e := by unfold spA5; rw [h4, doR_ee _ hx]
      have g1 : (spB1 w q v x).e = x.e := by unfold spB1; rw [h5, doR_ee _ hx]
      have g2 : (spB2 w q v x).e = x.e := by unfold spB2; rw [g1, doR_ee _ hx]
      have g3 : (spB3 w q v x).e = x.e := by unfold spB3; rw [g2, doR_ee _ hx]
      have g4 : (spB4 w q v x).e = x.e := by unfold spB4; rw [g3, doR_ee _ hx]
      unfold spB5
      rw [g4, doR_ee _ hx]
    exact k ⟨q, o.e⟩ h)
theorem frN_bad (p : Planet) (l : List Pt) (q : Bx) {e : Int} (h : e ≠ 0) : (frN p l q e).e = e := by
  unfold frN
  split
  · exact doR_ee _ h
  · rfl
theorem shape_bad (p : Planet) (r up : Sp) {e : Int} (h : e ≠ 0) : (shapeR p r up e).e = e := by
  have h1 : (sh1 p r e).e = e := doR_ee _ h
  have h2 : (sh2 p r e).e = e := by unfold sh2; rw [h1, doR_ee _ h]
  have h3 : (sh3 p r e).e = e := by unfold sh3; rw [h2, doR_ee _ h]
  have h4 : (sh4 p r up e).e = e := by unfold sh4; rw [h3, doR_ee _ h]
  have h5 : (sh5 p r up e).e = e := by unfold sh5; rw [h4, doR_ee _ h]
  have h6 : (sh6 p r up e).e = e := by unfold sh6; rw [h5, doR_ee _ h]
  have h7 : (sh7 p r up e).e = e := by unfold sh7; rw [h6, doR_ee _ h]
  have h8 : (sh8 p r up e).e = e := by unfold sh8; rw [h7, doR_ee _ h]
  have h9 : (sh9 p r up e).e = e := by unfold sh9; rw [h8, doR_ee _ h]
  have h10 : (sh10 p r up e).e = e := by unfold sh10; rw [h9, doR_ee _ h]
  have h11 : (sh11 p r up e).e = e := by unfold sh11; rw [h10, doR_ee _ h]
  unfold shapeR
  split
  · rfl
  · exact h11
theorem atN_bad (p : Planet) (q : Bx) (r : Sp) {e : Int} (h : e ≠ 0) : (atN p q r e).e = e := by
  have h1 : (atU q r e).e = e := eachR_bad _ _ _ h
  have h2 : (atS p q r e).e = e := by unfold atS; rw [h1, doR_ee _ h]
  have h3 : (atT p q r e).e = e := by unfold atT; rw [h2, doR_ee _ h]
  unfold atN
  rw [h3]
  exact shape_bad _ _ _ h
theorem pullG_bad (p : Planet) (q : Bx) (r : Sp) {e : Int} (h : e ≠ 0) : (pullG p q r e).e = e := by
  unfold pullG mulSub
  rw [atN_bad p q r h]
  exact th_bad _ _ _ h
theorem thrustG_bad (x : Arc) (m : Sp) {o : BRes} (h : o.e ≠ 0) : (thrustG x m o).e = o.e := by
  unfold thrustG mulAdd
  split
  · rfl
  · have h1 : (tuT x m o).e = o.e := doR_ee _ h
    rw [h1]
    exact th_bad _ _ _ h
theorem dragG_bad (p : Planet) (l : List Pt) (v : Bx) (m r : Sp) {o : BRes} (h : o.e ≠ 0) : (dragG p l v m r o).e = o.e := by
  unfold dragG mulSub
  split
  · rfl
  · have h1 : (drH p r o).e = o.e := doR_ee _ h
    have h2 : (drL p l r o).e = o.e := by unfold drL; rw [h1]; exact doR_ee _ h
    have h3 : (drB p l m r o).e = o.e := by unfold drB; rw [h2]; exact doR_ee _ h
    have h4 : (drS p l v m r o).e = o.e := by unfold drS; rw [h3]; exact doR_ee _ h
    rw [h4]
    exact th_bad _ _ _ h
theorem pullF_bad (p : Planet) (q : Bx) (r : Sp) {e : Int} (h : e ≠ 0) : (pullF p q r e).e = e := by
  have h4 := atN_bad p q r h
  have h5 : (atM p q r e).e = e := by unfold atM; rw [h4]; exact eachR_bad _ _ _ h
  have h6 : (attR p q r e).e = e := by unfold attR; rw [h5]; exact eachR_bad _ _ _ h
  unfold pullF
  rw [h6]
  exact eachR_bad _ _ _ h
theorem thrustF_bad (x : Arc) (m : Sp) {o : BRes} (h : o.e ≠ 0) : (thrustF x m o).e = o.e := by
  unfold thrustF
  split
  · rfl
  · have h1 : (tuT x m o).e = o.e := doR_ee _ h
    have h2 : (tuM x m o).e = o.e := by unfold tuM; rw [h1]; exact eachR_bad _ _ _ h
    rw [h2]
    exact eachR_bad _ _ _ h
theorem dragF_bad (p : Planet) (l : List Pt) (v : Bx) (m r : Sp) {o : BRes} (h : o.e ≠ 0) : (dragF p l v m r o).e = o.e := by
  unfold dragF
  split
  · rfl
  · have h1 : (drH p r o).e = o.e := doR_ee _ h
    have h2 : (drL p l r o).e = o.e := by unfold drL; rw [h1]; exact doR_ee _ h
    have h3 : (drB p l m r o).e = o.e := by unfold drB; rw [h2]; exact doR_ee _ h
    have h4 : (drS p l v m r o).e = o.e := by unfold drS; rw [h3]; exact doR_ee _ h
    have h5 : (drX p l v m r o).e = o.e := by unfold drX; rw [h4]; exact doR_ee _ h
    have h6 : (drM p l v m r o).e = o.e := by unfold drM; rw [h5]; exact eachR_bad _ _ _ h
    rw [h6]
    exact eachR_bad _ _ _ h
theorem forceF_bad (p : Planet) (x : Arc) (l : List Pt) (q v : Bx) (m : Sp) {e : Int} (h : e ≠ 0) : (forceF p x l q v m e).e = e := by
  have h1 : (frPF p l q e).e = e := by
    unfold frPF
    rw [frN_bad p l q h]
    split
    · rfl
    · exact pullF_bad _ _ _ h
  have h2 : (frSF p l q v e).e = e := (spin_bad _ _ _ (by rw [h1]; exact h)).trans h1
  have h3 : (frTF p x l q v m e).e = e := (thrustF_bad _ _ (by rw [h2]; exact h)).trans h2
  exact (dragF_bad _ _ _ _ _ (by rw [h3]; exact h)).trans h3
theorem forceG_bad (p : Planet) (x : Arc) (l : List Pt) (q v : Bx) (m : Sp) {e : Int} (h : e ≠ 0) : (forceG p x l q v m e).e = e := by
  have h1 : (frPG p l q e).e = e := by
    unfold frPG
    rw [frN_bad p l q h]
    split
    · rfl
    · exact pullG_bad _ _ _ h
  have h2 : (frSG p l q v e).e = e := (spin_bad _ _ _ (by rw [h1]; exact h)).trans h1
  have h3 : (frTG p x l q v m e).e = e := (thrustG_bad _ _ (by rw [h2]; exact h)).trans h2
  exact (dragG_bad _ _ _ _ _ (by rw [h3]; exact h)).trans h3
theorem ok_mulSub (s u n o : Sp) (e : Int) : (mulSub s u n o e).s.okB = true := by
  unfold mulSub
  exact ok_do (ok_bind fun _ => ok_sub)
theorem ok_mulAdd (s u o : Sp) (e : Int) : (mulAdd s u o e).s.okB = true := by
  unfold mulAdd
  exact ok_do (ok_bind fun _ => ok_add)
theorem ok_forceG (p : Planet) (x : Arc) (l : List Pt) (q v : Bx) (m : Sp) (e : Int) (hp : p.pull.Ok) : (forceG p x l q v m e).b.Ok := by
  have o3 : (frTG p x l q v m e).b.Ok := ok_thrustG x m (ok_spin _ _ _ (ok_frPG p l q e hp))
  unfold forceG dragG
  split
  · exact o3
  · exact ⟨ok_mulSub _ _ _ _ _, ok_mulSub _ _ _ _ _, ok_mulSub _ _ _ _ _⟩
theorem reachF_bad (P V : Bx) (d : Sp) (v f : Bx) {e : Int} (h : e ≠ 0) : (reachF P V d v f e).e = e := by
  have k : ∀ s v, (rcP s d v e).e = e := fun _ v => by
    have h1 : (rcM d v e).e = e := eachR_bad _ _ _ h
    unfold rcP
    rw [h1]
    exact eachR_bad _ _ _ h
  unfold reachF
  rw [k P v]
  exact k V f
theorem reachG_bad (P V : Bx) (d : Sp) (v f : Bx) {e : Int} (h : e ≠ 0) : (reachG P V d v f e).e = e := runE_bad h [ma d v.x P.x, ma d f.x V.x, ma d v.y P.y, ma d f.y V.y, ma d v.z P.z, ma d f.z V.z]
theorem ok_reachG (P V : Bx) (d : Sp) (v f : Bx) (e : Int) : (reachG P V d v f e).p.Ok ∧ (reachG P V d v f e).v.Ok := ⟨⟨ok_mulAdd _ _ _ _, ok_mulAdd _ _ _ _, ok_mulAdd _ _ _ _⟩, ⟨ok_mulAdd _ _ _ _, ok_mulAdd _ _ _ _, ok_mulAdd _ _ _ _⟩⟩
/-! The step. -/
def stD (h : Int) : Sp := ⟨imin h 0, imax h 0⟩
def stF (s : State) (h : Int) : Res := doR 0 (addR ⟨s.t, s.t⟩ ⟨h, h⟩)
def stL (x : Arc) (h e : Int) : Res := doR e (mulR x.flow (stD h))
def stM (x : Arc) (s : State) (h e : Int) : Res := doR (stL x h e).e (subR s.m (stL x h e).s)
def stE (x : Arc) (s : State) (h e : Int) : Int := if (stM x s h e).e = 0 ∧ (stM x s h e).s.lo ≤ 0 then 4 else (stM x s h e).e
def tubeFF (p : Planet) (x : Arc) (l : List Pt) (s : State) (h : Int) (m : Sp) (e : Int) : TRes := tubeR (fun q v e => forceF p x l q v m e) (fun v f e => reachF s.p s.v (stD h) v f e) wdR 8 s.p s.v e
def tubeGG (p : Planet) (x : Arc) (l : List Pt) (s : State) (h : Int) (m : Sp) (e : Int) : TRes := tubeR (fun q v e => forceG p x l q v m e) (fun v f e => reachG s.p s.v (stD h) v f e) gwR 8 s.p s.v e
def lpA (g v : Sp) (e : Int) : Res := doR e (mulR g v)
def lpB (g o v : Sp) (e : Int) : Res := doR (lpA g v e).e (addR o (lpA g v e).s)
def lpC (g k o v f : Sp) (e : Int) : Res := doR (lpB g o v e).e (mulR k f)
def lpD (g k o v f : Sp) (e : Int) : Res := doR (lpC g k o v f e).e (addR (lpB g o v e).s (lpC g k o v f e).s)
def lpE (g k o v f : Sp) (e : Int) : Res := doR (lpD g k o v f e).e (mulR g f)
def lpG (g k o v f : Sp) (e : Int) : Res := doR (lpE g k o v f e).e (addR v (lpE g k o v f e).s)
theorem lpG_bad (g k o v f : Sp) {e : Int} (h : e ≠ 0) : (lpG g k o v f e).e = e := by
  have h1 : (lpA g v e).e = e := doR_ee _ h
  have h2 : (lpB g o v e).e = e := by unfold lpB; rw [h1]; exact doR_ee _ h
  have h3 : (lpC g k o v f e).e = e := by unfold lpC; rw [h2]; exact doR_ee _ h
  have h4 : (lpD g k o v f e).e = e := by unfold lpD; rw [h3]; exact doR_ee _ h
  have h5 : (lpE g k o v f e).e = e := by unfold lpE; rw [h4]; exact doR_ee _ h
  unfold lpG
  rw [h5]
  exact doR_ee _ h
def laL (h : Int) (F : BRes) : Res := doR F.e (mulR ⟨h, h⟩ ⟨h, h⟩)
def laK (h : Int) (F : BRes) : Res := doR (laL h F).e (divR (laL h F).s (wholeS 2))
def laD0 (s : State) (h : Int) (F : BRes) : Res := lpD ⟨h, h⟩ (laK h F).s s.p.x s.v.x F.b.x (laK h F).e
def laG0 (s : State) (h : Int) (F : BRes) : Res := lpG ⟨h, h⟩ (laK h F).s s.p.x s.v.x F.b.x (laK h F).e
def laD1 (s : State) (h : Int) (F : BRes) : Res := lpD ⟨h, h⟩ (laK h F).s s.p.y s.v.y F.b.y (laG0 s h F).e
def laG1 (s : State) (h : Int) (F : BRes) : Res := lpG ⟨h, h⟩ (laK h F).s s.p.y s.v.y F.b.y (laG0 s h F).e
def laD2 (s : State) (h : Int) (F : BRes) : Res := lpD ⟨h, h⟩ (laK h F).s s.p.z s.v.z F.b.z (laG1 s h F).e
def laG2 (s : State) (h : Int) (F : BRes) : Res := lpG ⟨h, h⟩ (laK h F).s s.p.z s.v.z F.b.z (laG1 s h F).e
def laN (x : Arc) (s : State) (h : Int) (F : BRes) : Res := doR (laG2 s h F).e (mulR ⟨h, h⟩ x.flow)
def laM (x : Arc) (s : State) (h : Int) (F : BRes) : Res := doR (laN x s h F).e (subR s.m (laN x s h F).s)
theorem la_bad (x : Arc) (s : State) (h : Int) {F : BRes} (hF : F.e ≠ 0) : (laM x s h F).e = F.e := by
  have h1 : (laL h F).e = F.e := doR_ee _ hF
  have h2 : (laK h F).e = F.e := by unfold laK; rw [h1]; exact doR_ee _ hF
  have h3 : (laG0 s h F).e = F.e := by unfold laG0; rw [h2]; exact lpG_bad _ _ _ _ _ hF
  have h4 : (laG1 s h F).e = F.e := by unfold laG1; rw [h3]; exact lpG_bad _ _ _ _ _ hF
  have h5 : (laG2 s h F).e = F.e := by unfold laG2; rw [h4]; exact lpG_bad _ _ _ _ _ hF
  have h6 : (laN x s h F).e = F.e := by unfold laN; rw [h5]; exact doR_ee _ hF
  unfold laM
  rw [h6]
  exact doR_ee _ hF
structure StRes where
  s : State
  t : Tube
  e : Int
def zTube : Tube := ⟨0, 0, ⟨⟨0, 0⟩, ⟨0, 0⟩, ⟨0, 0⟩⟩, ⟨⟨0, 0⟩, ⟨0, 0⟩, ⟨0, 0⟩⟩, ⟨0, 0⟩⟩
def stErr (e : Int) : StRes := ⟨zState, zTube, e⟩
/-- The end of a step that has a tube. -/
def lastR (x : Arc) (s : State) (h t : Int) (T : Tube) (F : BRes) : StRes :=
  if (laM x s h F).e = 0 then ⟨⟨t, ⟨(laD0 s h F).s, (laD1 s h F).s, (laD2 s h F).s⟩, ⟨(laG0 s h F).s, (laG1 s h F).s, (laG2 s h F).s⟩, (laM x s h F).s⟩, T, 0⟩ else stErr (laM x s h F).e
theorem last_alike (x : Arc) (s : State) (h t : Int) (T : Tube) {F F' : BRes} (k : Alike F F') : lastR x s h t T F = lastR x s h t T F' := by
  rcases alike_cases k with rfl | ⟨h1, h2, h3⟩
  · rfl
  · unfold lastR
    rw [la_bad x s h h1, la_bad x s h h2, if_neg h1, if_neg h2, h3]
def stTube (s : State) (t : Int) (T : TRes) (m : Sp) : Tube := ⟨imin s.t t, imax s.t t, T.p, T.v, m⟩
def stepOut (ff : Bx → Bx → Int → BRes) (x : Arc) (s : State) (h t : Int) (m : Sp) (T : TRes) : StRes :=
  if T.found then lastR x s h t (stTube s t T m) (ff T.p T.v 0) else stErr (if T.e = 0 then 9 else T.e)
def stepFF (p : Planet) (x : Arc) (l : List Pt) (s : State) (h : Int) : StRes :=
  stepOut (fun q v e => forceF p x l q v (stM x s h (stF s h).e).s e) x s h (stF s h).s.lo (stM x s h (stF s h).e).s (tubeFF p x l s h (stM x s h (stF s h).e).s (stE x s h (stF s h).e))
def stepGG (p : Planet) (x : Arc) (l : List Pt) (s : State) (h : Int) : StRes :=
  if (stF s h).e ≠ 0 then stErr (stF s h).e else
  stepOut (fun q v e => forceG p x l q v (stM x s h 0).s e) x s h (stF s h).s.lo (stM x s h 0).s (tubeGG p x l s h (stM x s h 0).s (stE x s h 0))
theorem tubes_alike {p : Planet} {x : Arc} (l : List Pt) {s : State} (h : Int) (m : Sp) (e : Int) (hp : p.pull.Ok) (hx : x.dir.Ok) (h1 : s.p.Ok) (h2 : s.v.Ok) (hd : (stD h).okB = true) : AlikeT (tubeFF p x l s h m e) (tubeGG p x l s h m e) :=
  tube_alike (fun q v hv => force_alike p x l q v m 0 hp hx hv) (fun q v e => ok_forceG p x l q v m e hp) (fun v f e hv hf => reach_alike s.p s.v (stD h) v f e h1 h2 hd hv hf) (fun _ _ _ => ok_reachG _ _ _ _ _ _)
    (fun _ _ _ he => reachF_bad _ _ _ _ _ he) (fun _ _ _ he => reachG_bad _ _ _ _ _ he) (fun _ _ _ he => forceF_bad _ _ _ _ _ _ he) (fun _ _ _ he => forceG_bad _ _ _ _ _ _ he) 8 s.p s.v e h1 h2
theorem tubeR_ok {ff : Bx → Bx → Int → BRes} {rr : Bx → Bx → Int → CRes} {wf : Sp → Sp → Int → Res} (hro : ∀ v f e, (rr v f e).p.Ok ∧ (rr v f e).v.Ok) : ∀ (n : Nat) (q v : Bx) (e : Int), (tubeR ff rr wf n q v e).found = true → (tubeR ff rr wf n q v e).v.Ok
  | 0, _, _, _, h => by cases h
  | n + 1, q, v, e, h => by
    unfold tubeR at h ⊢
    split at h
    · cases h
    · rename_i k
      rw [if_neg k]
      split at h
      · rename_i k2
        rw [if_pos k2]
        exact (hro _ _ _).2
      · rename_i k2
        rw [if_neg k2]
        exact tubeR_ok hro n _ _ _ h
theorem tubeG_ok (p : Planet) (x : Arc) (l : List Pt) (s : State) (h : Int) (m : Sp) (e : Int) (k : (tubeGG p x l s h m e).found = true) : (tubeGG p x l s h m e).v.Ok := tubeR_ok (fun _ _ _ => ok_reachG _ _ _ _ _ _) 8 _ _ _ k
theorem tube_wrong {ff : Bx → Bx → Int → BRes} {x : Arc} {s : State} {h t : Int} {m : Sp} {T : TRes} {e : Int} (he : e ≠ 0) (h1 : T.found = false) (h2 : T.e = e) : stepOut ff x s h t m T = stErr e := by
  unfold stepOut
  rw [h1, h2, if_neg (by decide), if_neg he]
/-- The program's step is the document's. -/
theorem step_same {p : Planet} {x : Arc} (l : List Pt) {s : State} (h : Int) (hp : p.pull.Ok) (hx : x.dir.Ok) (h1 : s.p.Ok) (h2 : s.v.Ok) (hd : (stD h).okB = true) : stepFF p x l s h = stepGG p x l s h := by
  unfold stepFF stepGG
  by_cases he : (stF s h).e = 0
  · rw [he, if_neg (by simp)]
    have ht := tubes_alike l h (stM x s h 0).s (stE x s h 0) hp hx h1 h2 hd
    have hv : (tubeFF p x l s h (stM x s h 0).s (stE x s h 0)).found = true → (tubeGG p x l s h (stM x s h 0).s (stE x s h 0)).v.Ok := fun k => tubeG_ok p x l s h _ _ (ht.2.1.symm.trans k)
    generalize tubeFF p x l s h (stM x s h 0).s (stE x s h 0) = T at *
    generalize tubeGG p x l s h (stM x s h 0).s (stE x s h 0) = T' at *
    obtain ⟨t1, t2, t3⟩ := ht
    unfold stepOut
    rw [← t2, ← t1]
    split
    · rename_i k
      obtain ⟨e1, e2⟩ := t3 k
      unfold stTube
      rw [e1, e2]
      exact last_alike _ _ _ _ _ (force_alike _ _ _ _ _ _ 0 hp hx (hv k))
    · rfl
  · rw [if_pos he]
    have l1 : (stL x h (stF s h).e).e = (stF s h).e := doR_ee _ he
    have l2 : (stM x s h (stF s h).e).e = (stF s h).e := by unfold stM; rw [l1]; exact doR_ee _ he
    have l3 : stE x s h (stF s h).e = (stF s h).e := by unfold stE; rw [l2, if_neg (fun k => he k.1)]
    have t := tubeR_bad (ff := fun q v e => forceF p x l q v (stM x s h (stF s h).e).s e) (rr := fun v f e => reachF s.p s.v (stD h) v f e) (wf := wdR) (fun _ _ _ he => reachF_bad _ _ _ _ _ he) (fun _ _ _ he => forceF_bad _ _ _ _ _ _ he) he 8 s.p s.v
    rw [l3]
    exact tube_wrong he t.1 t.2
end Go.Proofs.Ytkeifgcncmilmaa
