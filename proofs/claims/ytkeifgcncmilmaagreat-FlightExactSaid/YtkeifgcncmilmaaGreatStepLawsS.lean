/-
  The plain law of a step: the tube, the new state, the program's order and the document's.
  The plain law of a step, second part: the tube's tries, the last part, the whole step.
  The plain law of a step, third part: the program's step is the document's.
-/
import Derived.Test.YtkeifgcncmilmaaGreatForceLawS
import Derived.Test.YtkeifgcncmilmaaGreatJointS
namespace Go.Proofs.YtkeifgcncmilmaaGreat
set_option maxRecDepth 100000
/-- The errors of operations in a row. -/
def runE : Int → List Res → Int
  | e, [] => e
  | e, a :: l => runE (doR e a).e l
/-- Six spans: a place and a velocity, and the error. -/
structure CRes where
  p : Bx
  v : Bx
  e : Int
def AlikeC (x y : CRes) : Prop := x.e = y.e ∧ (x.e = 0 → x.p = y.p ∧ x.v = y.v)
theorem AlikeC.refl (x : CRes) : AlikeC x x := ⟨rfl, fun _ => ⟨rfl, rfl⟩⟩
theorem AlikeC.trans {x y z : CRes} (h : AlikeC x y) (k : AlikeC y z) : AlikeC x z :=
  ⟨h.1.trans k.1, fun e => ⟨(h.2 e).1.trans (k.2 (h.1 ▸ e)).1, (h.2 e).2.trans (k.2 (h.1 ▸ e)).2⟩⟩
/-! Where something may be within a time. -/
def rcM (d : Sp) (v : Bx) (e : Int) : BRes := eachR mulR e (ones d) v
def rcP (s : Bx) (d : Sp) (v : Bx) (e : Int) : BRes := eachR addR (rcM d v e).e s (rcM d v e).b
/-- The program's: all of the place, then all of the velocity. -/
def reachF (P V : Bx) (d : Sp) (v f : Bx) (e : Int) : CRes := ⟨(rcP P d v e).b, (rcP V d f (rcP P d v e).e).b, (rcP V d f (rcP P d v e).e).e⟩
/-- The document's: component by component. -/
def rgE0 (P _V : Bx) (d : Sp) (v _f : Bx) (e : Int) : Res := mulAdd d v.x P.x e
def rgE1 (P V : Bx) (d : Sp) (v f : Bx) (e : Int) : Res := mulAdd d f.x V.x (rgE0 P V d v f e).e
def rgE2 (P V : Bx) (d : Sp) (v f : Bx) (e : Int) : Res := mulAdd d v.y P.y (rgE1 P V d v f e).e
def rgE3 (P V : Bx) (d : Sp) (v f : Bx) (e : Int) : Res := mulAdd d f.y V.y (rgE2 P V d v f e).e
def rgE4 (P V : Bx) (d : Sp) (v f : Bx) (e : Int) : Res := mulAdd d v.z P.z (rgE3 P V d v f e).e
def rgE5 (P V : Bx) (d : Sp) (v f : Bx) (e : Int) : Res := mulAdd d f.z V.z (rgE4 P V d v f e).e
def reachG (P V : Bx) (d : Sp) (v f : Bx) (e : Int) : CRes := ⟨⟨(rgE0 P V d v f e).s, (rgE2 P V d v f e).s, (rgE4 P V d v f e).s⟩, ⟨(rgE1 P V d v f e).s, (rgE3 P V d v f e).s, (rgE5 P V d v f e).s⟩, (rgE5 P V d v f e).e⟩
/-- One component, without what was wrong before. -/
def ma (d u o : Sp) : Res := bindR (mulR d u) (fun y => addR o y)
/-! Spans that do not contain others are grown. -/
structure NRes where
  n : Int
  e : Int
def wideR (a : Sp) : NRes := if a.okB then (if 9223372036854775807 < a.hi - a.lo then ⟨0, 4⟩ else ⟨a.hi - a.lo, 0⟩) else ⟨0, 2⟩
def growR (a : Sp) (by_ : Int) : Res := if a.okB && decide (0 ≤ by_) then fitR (a.lo - by_) (a.hi + by_) else errR 2
def doN (e : Int) (r : NRes) : Int := if e = 0 then r.e else e
/-- The program's, one span: what was wrong before, the span, what it is to contain. -/
def wdH (b m : Sp) (e : Int) : Res := doR e (hullR b m)
def wdE (b m : Sp) (e : Int) : Int := doN (wdH b m e).e (wideR (wdH b m e).s)
def wdBy (b m : Sp) (e : Int) : Int := (wideR (wdH b m e).s).n / 8 + 65536
def wdR (b m : Sp) (e : Int) : Res := if m.inB b then ⟨b, e⟩ else doR (wdE b m e) (addR (wdH b m e).s ⟨-wdBy b m e, wdBy b m e⟩)
/-- The document's. -/
def gwN (b m : Sp) : Int := if (hullR b m).e = 0 then (wideR (hullR b m).s).n else 0
def gwR (b m : Sp) (e : Int) : Res := if m.inB b then ⟨b, e⟩ else if e = 0 then doR (wdE b m 0) (growR (hullR b m).s (gwN b m / 8 + 65536)) else ⟨b, e⟩
theorem wide_n {a : Sp} (h : a.okB = true) : 0 ≤ (wideR a).n ∧ (wideR a).n ≤ 9223372036854775807 := by
  have := ok_le h
  unfold wideR
  rw [if_pos h]
  split
  · exact ⟨Int.le_refl _, by decide⟩
  · exact ⟨by show 0 ≤ a.hi - a.lo; omega, by show a.hi - a.lo ≤ _; omega⟩
theorem wd_e (b m : Sp) {e : Int} (h : e ≠ 0) : (wdR b m e).e = e ∧ (gwR b m e).e = e := by
  unfold wdR gwR
  split
  · exact ⟨rfl, rfl⟩
  · refine ⟨?_, rfl⟩
    have e1 : (wdH b m e).e = e := doR_ee _ h
    have e2 : wdE b m e = e := by unfold wdE doN; rw [e1, if_neg h]
    rw [e2]
    exact doR_ee _ h
end Go.Proofs.YtkeifgcncmilmaaGreat
namespace Go.Proofs.YtkeifgcncmilmaaGreat
set_option maxRecDepth 100000
def wid0 (f : Sp → Sp → Int → Res) (q mq : Bx) (e : Int) : Res := f q.x mq.x e
def wid1 (f : Sp → Sp → Int → Res) (q mq : Bx) (e : Int) : Res := f q.y mq.y (wid0 f q mq e).e
def wid2 (f : Sp → Sp → Int → Res) (q mq : Bx) (e : Int) : Res := f q.z mq.z (wid1 f q mq e).e
/-- Three spans, one after another. -/
def widB (f : Sp → Sp → Int → Res) (q mq : Bx) (e : Int) : BRes := ⟨⟨(wid0 f q mq e).s, (wid1 f q mq e).s, (wid2 f q mq e).s⟩, (wid2 f q mq e).e⟩
/-- The place, then the velocity. -/
def widC (f : Sp → Sp → Int → Res) (q v mq mv : Bx) (e : Int) : CRes := ⟨(widB f q mq e).b, (widB f v mv (widB f q mq e).e).b, (widB f v mv (widB f q mq e).e).e⟩
/-- All six spans contain what they are to contain. -/
def boxIn (a b : Bx) : Bool := a.x.inB b.x && a.y.inB b.y && a.z.inB b.z
def allIn (q v mq mv : Bx) : Bool := boxIn mq q && boxIn mv v
structure TRes where
  found : Bool
  p : Bx
  v : Bx
  e : Int
def AlikeT (x y : TRes) : Prop := x.e = y.e ∧ x.found = y.found ∧ (x.found = true → x.p = y.p ∧ x.v = y.v)
/-- The tries of a tube: the force, what is reached, what is grown. -/
def tubeR (ff : Bx → Bx → Int → BRes) (rr : Bx → Bx → Int → CRes) (wf : Sp → Sp → Int → Res) : Nat → Bx → Bx → Int → TRes
  | 0, q, v, e => ⟨false, q, v, e⟩
  | n + 1, q, v, e =>
    if (rr v (ff q v e).b (ff q v e).e).e ≠ 0 then ⟨false, q, v, (rr v (ff q v e).b (ff q v e).e).e⟩
    else if allIn q v (rr v (ff q v e).b (ff q v e).e).p (rr v (ff q v e).b (ff q v e).e).v then ⟨true, (rr v (ff q v e).b (ff q v e).e).p, (rr v (ff q v e).b (ff q v e).e).v, 0⟩
    else tubeR ff rr wf n (widC wf q v (rr v (ff q v e).b (ff q v e).e).p (rr v (ff q v e).b (ff q v e).e).v 0).p (widC wf q v (rr v (ff q v e).b (ff q v e).e).p (rr v (ff q v e).b (ff q v e).e).v 0).v (widC wf q v (rr v (ff q v e).b (ff q v e).e).p (rr v (ff q v e).b (ff q v e).e).v 0).e
theorem tubeR_bad {ff : Bx → Bx → Int → BRes} {rr : Bx → Bx → Int → CRes} {wf : Sp → Sp → Int → Res} (hr : ∀ v f e, e ≠ 0 → (rr v f e).e = e) (hf : ∀ q v e, e ≠ 0 → (ff q v e).e = e) {e : Int} (he : e ≠ 0) : ∀ (n : Nat) (q v : Bx), (tubeR ff rr wf n q v e).found = false ∧ (tubeR ff rr wf n q v e).e = e
  | 0, _, _ => ⟨rfl, rfl⟩
  | n + 1, q, v => by
    have h1 : (rr v (ff q v e).b (ff q v e).e).e = e := by rw [hr _ _ _ (by rw [hf q v e he]; exact he), hf q v e he]
    unfold tubeR
    rw [if_pos (by rw [h1]; exact he)]
    exact ⟨rfl, h1⟩
end Go.Proofs.YtkeifgcncmilmaaGreat
namespace Go.Proofs.YtkeifgcncmilmaaGreat
set_option maxRecDepth 100000
theorem spin_bad (w : Sp) (q v : Bx) {o : BRes} (h : o.e ≠ 0) : (spinR w q v o).e = o.e := (spin_alike w q v (o := o) (o' := ⟨q, o.e⟩) ⟨rfl, fun k => absurd k h⟩).1.trans (by
  unfold spinR
  split
  · rfl
  · have k : ∀ x : BRes, x.e ≠ 0 → (spB5 w q v x).e = x.e := fun x hx => by
      have h0 : (spE w x).e = x.e := doR_ee _ hx
      have h1 : (spA1 w v x).e = x.e := by unfold spA1; rw [h0, doR_ee _ hx]
      have h2 : (spA2 w v x).e = x.e := by unfold spA2; rw [h1, doR_ee _ hx]
      have h3 : (spA3 w v x).e = x.e := by unfold spA3; rw [h2, doR_ee _ hx]
      have h4 : (spA4 w q v x).e = x.e := by unfold spA4; rw [h3, doR_ee _ hx]
      have h5 : (spA5 w q v x).e = x.e := by unfold spA5; rw [h4, doR_ee _ hx]
      have g1 : (spB1 w q v x).e = x.e := by unfold spB1; rw [h5, doR_ee _ hx]
      have g2 : (spB2 w q v x).e = x.e := by unfold spB2; rw [g1, doR_ee _ hx]
      have g3 : (spB3 w q v x).e = x.e := by unfold spB3; rw [g2, doR_ee _ hx]
      have g4 : (spB4 w q v x).e = x.e := by unfold spB4; rw [g3, doR_ee _ hx]
      unfold spB5
      rw [g4, doR_ee _ hx]
    exact k ⟨q, o.e⟩ h)
theorem frN_bad (p : Planet) (l : List Pt) (q : Bx) {e : Int} (h : e ≠ 0) : (frN p l q e).e = e := by
  unfold frN
  split
  · exact doR_ee _ h
  · rfl
theorem shape_bad (p : Planet) (r up : Sp) {e : Int} (h : e ≠ 0) : (shapeR p r up e).e = e := by
  have h1 : (sh1 p r e).e = e := doR_ee _ h
  have h2 : (sh2 p r e).e = e := by unfold sh2; rw [h1, doR_ee _ h]
  have h3 : (sh3 p r e).e = e := by unfold sh3; rw [h2, doR_ee _ h]
  have h4 : (sh4 p r up e).e = e := by unfold sh4; rw [h3, doR_ee _ h]
  have h5 : (sh5 p r up e).e = e := by unfold sh5; rw [h4, doR_ee _ h]
  have h6 : (sh6 p r up e).e = e := by unfold sh6; rw [h5, doR_ee _ h]
  have h7 : (sh7 p r up e).e = e := by unfold sh7; rw [h6, doR_ee _ h]
  have h8 : (sh8 p r up e).e = e := by unfold sh8; rw [h7, doR_ee _ h]
  have h9 : (sh9 p r up e).e = e := by unfold sh9; rw [h8, doR_ee _ h]
  have h10 : (sh10 p r up e).e = e := by unfold sh10; rw [h9, doR_ee _ h]
  have h11 : (sh11 p r up e).e = e := by unfold sh11; rw [h10, doR_ee _ h]
  unfold shapeR
  split
  · rfl
  · exact h11
theorem atN_bad (p : Planet) (q : Bx) (r : Sp) {e : Int} (h : e ≠ 0) : (atN p q r e).e = e := by
  have h1 : (atU q r e).e = e := eachR_bad _ _ _ h
  have h2 : (atS p q r e).e = e := by unfold atS; rw [h1, doR_ee _ h]
  have h3 : (atT p q r e).e = e := by unfold atT; rw [h2, doR_ee _ h]
  unfold atN
  rw [h3]
  exact shape_bad _ _ _ h
theorem pullF_bad (p : Planet) (q : Bx) (r : Sp) {e : Int} (h : e ≠ 0) : (pullF p q r e).e = e := by
  have h4 := atN_bad p q r h
  have h5 : (atM p q r e).e = e := by unfold atM; rw [h4]; exact eachR_bad _ _ _ h
  have h6 : (attR p q r e).e = e := by unfold attR; rw [h5]; exact eachR_bad _ _ _ h
  unfold pullF
  rw [h6]
  exact eachR_bad _ _ _ h
theorem thrustF_bad (x : Arc) (m : Sp) {o : BRes} (h : o.e ≠ 0) : (thrustF x m o).e = o.e := by
  unfold thrustF
  split
  · rfl
  · have h1 : (tuT x m o).e = o.e := doR_ee _ h
    have h2 : (tuM x m o).e = o.e := by unfold tuM; rw [h1]; exact eachR_bad _ _ _ h
    rw [h2]
    exact eachR_bad _ _ _ h
theorem dragF_bad (p : Planet) (l : List Pt) (v : Bx) (m r : Sp) {o : BRes} (h : o.e ≠ 0) : (dragF p l v m r o).e = o.e := by
  unfold dragF
  split
  · rfl
  · have h1 : (drH p r o).e = o.e := doR_ee _ h
    have h2 : (drL p l r o).e = o.e := by unfold drL; rw [h1]; exact doR_ee _ h
    have h3 : (drB p l m r o).e = o.e := by unfold drB; rw [h2]; exact doR_ee _ h
    have h4 : (drS p l v m r o).e = o.e := by unfold drS; rw [h3]; exact doR_ee _ h
    have h5 : (drX p l v m r o).e = o.e := by unfold drX; rw [h4]; exact doR_ee _ h
    have h6 : (drM p l v m r o).e = o.e := by unfold drM; rw [h5]; exact eachR_bad _ _ _ h
    rw [h6]
    exact eachR_bad _ _ _ h
theorem forceF_bad (p : Planet) (x : Arc) (l : List Pt) (q v : Bx) (m : Sp) {e : Int} (h : e ≠ 0) : (forceF p x l q v m e).e = e := by
  have h1 : (frPF p l q e).e = e := by
    unfold frPF
    rw [frN_bad p l q h]
    split
    · rfl
    · exact pullF_bad _ _ _ h
  have h2 : (frSF p l q v e).e = e := (spin_bad _ _ _ (by rw [h1]; exact h)).trans h1
  have h3 : (frTF p x l q v m e).e = e := (thrustF_bad _ _ (by rw [h2]; exact h)).trans h2
  exact (dragF_bad _ _ _ _ _ (by rw [h3]; exact h)).trans h3
theorem reachF_bad (P V : Bx) (d : Sp) (v f : Bx) {e : Int} (h : e ≠ 0) : (reachF P V d v f e).e = e := by
  have k : ∀ s v, (rcP s d v e).e = e := fun _ v => by
    have h1 : (rcM d v e).e = e := eachR_bad _ _ _ h
    unfold rcP
    rw [h1]
    exact eachR_bad _ _ _ h
  unfold reachF
  rw [k P v]
  exact k V f
/-! The step. -/
def stD (h : Int) : Sp := ⟨imin h 0, imax h 0⟩
def stF (s : State) (h : Int) : Res := doR 0 (addR ⟨s.t, s.t⟩ ⟨h, h⟩)
def stL (x : Arc) (h e : Int) : Res := doR e (mulR x.flow (stD h))
def stM (x : Arc) (s : State) (h e : Int) : Res := doR (stL x h e).e (subR s.m (stL x h e).s)
def stE (x : Arc) (s : State) (h e : Int) : Int := if (stM x s h e).e = 0 ∧ (stM x s h e).s.lo ≤ 0 then 4 else (stM x s h e).e
def tubeFF (p : Planet) (x : Arc) (l : List Pt) (s : State) (h : Int) (m : Sp) (e : Int) : TRes := tubeR (fun q v e => forceF p x l q v m e) (fun v f e => reachF s.p s.v (stD h) v f e) wdR 8 s.p s.v e
def tubeGG (p : Planet) (x : Arc) (l : List Pt) (s : State) (h : Int) (m : Sp) (e : Int) : TRes := tubeR (fun q v e => forceG p x l q v m e) (fun v f e => reachG s.p s.v (stD h) v f e) gwR 8 s.p s.v e
def lpA (g v : Sp) (e : Int) : Res := doR e (mulR g v)
def lpB (g o v : Sp) (e : Int) : Res := doR (lpA g v e).e (addR o (lpA g v e).s)
def lpC (g k o v f : Sp) (e : Int) : Res := doR (lpB g o v e).e (mulR k f)
def lpD (g k o v f : Sp) (e : Int) : Res := doR (lpC g k o v f e).e (addR (lpB g o v e).s (lpC g k o v f e).s)
def lpE (g k o v f : Sp) (e : Int) : Res := doR (lpD g k o v f e).e (mulR g f)
def lpG (g k o v f : Sp) (e : Int) : Res := doR (lpE g k o v f e).e (addR v (lpE g k o v f e).s)
def laL (h : Int) (F : BRes) : Res := doR F.e (mulR ⟨h, h⟩ ⟨h, h⟩)
def laK (h : Int) (F : BRes) : Res := doR (laL h F).e (divR (laL h F).s (wholeS 2))
def laD0 (s : State) (h : Int) (F : BRes) : Res := lpD ⟨h, h⟩ (laK h F).s s.p.x s.v.x F.b.x (laK h F).e
def laG0 (s : State) (h : Int) (F : BRes) : Res := lpG ⟨h, h⟩ (laK h F).s s.p.x s.v.x F.b.x (laK h F).e
def laD1 (s : State) (h : Int) (F : BRes) : Res := lpD ⟨h, h⟩ (laK h F).s s.p.y s.v.y F.b.y (laG0 s h F).e
def laG1 (s : State) (h : Int) (F : BRes) : Res := lpG ⟨h, h⟩ (laK h F).s s.p.y s.v.y F.b.y (laG0 s h F).e
def laD2 (s : State) (h : Int) (F : BRes) : Res := lpD ⟨h, h⟩ (laK h F).s s.p.z s.v.z F.b.z (laG1 s h F).e
def laG2 (s : State) (h : Int) (F : BRes) : Res := lpG ⟨h, h⟩ (laK h F).s s.p.z s.v.z F.b.z (laG1 s h F).e
def laN (x : Arc) (s : State) (h : Int) (F : BRes) : Res := doR (laG2 s h F).e (mulR ⟨h, h⟩ x.flow)
def laM (x : Arc) (s : State) (h : Int) (F : BRes) : Res := doR (laN x s h F).e (subR s.m (laN x s h F).s)
structure StRes where
  s : State
  t : Tube
  e : Int
def zTube : Tube := ⟨0, 0, ⟨⟨0, 0⟩, ⟨0, 0⟩, ⟨0, 0⟩⟩, ⟨⟨0, 0⟩, ⟨0, 0⟩, ⟨0, 0⟩⟩, ⟨0, 0⟩⟩
def stErr (e : Int) : StRes := ⟨zState, zTube, e⟩
/-- The end of a step that has a tube. -/
def lastR (x : Arc) (s : State) (h t : Int) (T : Tube) (F : BRes) : StRes :=
  if (laM x s h F).e = 0 then ⟨⟨t, ⟨(laD0 s h F).s, (laD1 s h F).s, (laD2 s h F).s⟩, ⟨(laG0 s h F).s, (laG1 s h F).s, (laG2 s h F).s⟩, (laM x s h F).s⟩, T, 0⟩ else stErr (laM x s h F).e
def stTube (s : State) (t : Int) (T : TRes) (m : Sp) : Tube := ⟨imin s.t t, imax s.t t, T.p, T.v, m⟩
def stepOut (ff : Bx → Bx → Int → BRes) (x : Arc) (s : State) (h t : Int) (m : Sp) (T : TRes) : StRes :=
  if T.found then lastR x s h t (stTube s t T m) (ff T.p T.v 0) else stErr (if T.e = 0 then 9 else T.e)
def stepFF (p : Planet) (x : Arc) (l : List Pt) (s : State) (h : Int) : StRes :=
  stepOut (fun q v e => forceF p x l q v (stM x s h (stF s h).e).s e) x s h (stF s h).s.lo (stM x s h (stF s h).e).s (tubeFF p x l s h (stM x s h (stF s h).e).s (stE x s h (stF s h).e))
def stepGG (p : Planet) (x : Arc) (l : List Pt) (s : State) (h : Int) : StRes :=
  if (stF s h).e ≠ 0 then stErr (stF s h).e else
  stepOut (fun q v e => forceG p x l q v (stM x s h 0).s e) x s h (stF s h).s.lo (stM x s h 0).s (tubeGG p x l s h (stM x s h 0).s (stE x s h 0))
end Go.Proofs.YtkeifgcncmilmaaGreat
