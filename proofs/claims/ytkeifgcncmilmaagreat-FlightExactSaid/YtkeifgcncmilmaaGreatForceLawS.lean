/-
  The plain law of forces: three components of an operation that keeps errors, the program's order and the document's.
-/
import Derived.Test.YtkeifgcncmilmaaGreatFlightCalcS
import Derived.Test.YtkeifgcncmilmaaGreatRefDivsS
import Derived.Test.YtkeifgcncmilmaaGreatLookLawS
import Derived.Test.YtkeifgcncmilmaaGreatMonoFewS
namespace Go.Proofs.YtkeifgcncmilmaaGreat
set_option maxRecDepth 100000
structure BRes where
  b : Bx
  e : Int
/-- Three operations in a row. -/
def th (f1 f2 f3 : Int → Res) (e : Int) : BRes := ⟨⟨(f1 e).s, (f2 (f1 e).e).s, (f3 (f2 (f1 e).e).e).s⟩, (f3 (f2 (f1 e).e).e).e⟩
def ones (a : Sp) : Bx := ⟨a, a, a⟩
def eachR (f : Sp → Sp → Res) (e : Int) (a b : Bx) : BRes := ⟨eachB f e a b, (each3 f e a b).e⟩
theorem eachR_th (f : Sp → Sp → Res) (e : Int) (a b : Bx) : eachR f e a b = th (fun e => doR e (f a.x b.x)) (fun e => doR e (f a.y b.y)) (fun e => doR e (f a.z b.z)) e := rfl
def zeroB (a : Sp) : Bool := decide (a.lo = 0) && decide (a.hi = 0)
/-- The same, but for the values beside an error. -/
def Alike (x y : BRes) : Prop := x.e = y.e ∧ (x.e = 0 → x.b = y.b)
theorem Alike.refl (x : BRes) : Alike x x := ⟨rfl, fun _ => rfl⟩
theorem Alike.trans {x y z : BRes} (h : Alike x y) (k : Alike y z) : Alike x z := ⟨h.1.trans k.1, fun e => (h.2 e).trans (k.2 (h.1 ▸ e))⟩
def E4 (r : Res) : Prop := r.e = 0 ∨ r.e = 4
/-- One operation behind another one. -/
def bindR (a : Res) (g : Sp → Res) : Res := if a.e = 0 then g a.s else errR a.e
theorem doR_ee {e : Int} (r : Res) (h : e ≠ 0) : (doR e r).e = e := by rw [doR_bad r h]; rfl
theorem th_bad {e : Int} (a b c : Res) (h : e ≠ 0) : (th (fun e => doR e a) (fun e => doR e b) (fun e => doR e c) e).e = e := by
  show (doR (doR (doR e a).e b).e c).e = e
  rw [doR_ee a h, doR_ee b h, doR_ee c h]
theorem eachR_bad (f : Sp → Sp → Res) {e : Int} (a b : Bx) (h : e ≠ 0) : (eachR f e a b).e = e := by rw [eachR_th]; exact th_bad _ _ _ h
theorem th_zero (a b c : Res) (ha : a.e = 0) (hb : b.e = 0) (hc : c.e = 0) : th (fun e => doR e a) (fun e => doR e b) (fun e => doR e c) 0 = ⟨⟨a.s, b.s, c.s⟩, 0⟩ := by
  unfold th
  simp only [doR_ok, ha, hb, hc]
theorem ok_fit {x y : Int} (h : x ≤ y) : (fitR x y).s.okB = true := by
  unfold fitR
  cases h1 : isNum x <;> cases h2 : isNum y <;> try rfl
  unfold isNum at h1 h2
  unfold Sp.okB numB
  simp only [Bool.and_eq_true, decide_eq_true_eq, Bool.true_and, if_true] at *
  omega
theorem ok_add {a b : Sp} : (addR a b).s.okB = true := by
  unfold addR
  cases ha : a.okB
  · rfl
  cases hb : b.okB
  · rfl
  exact ok_fit (by have := ok_le ha; have := ok_le hb; omega)
theorem ok_sub {a b : Sp} : (subR a b).s.okB = true := by
  unfold subR
  split
  · exact ok_add
  · rfl
/-! The factors of an oblate planet. -/
def sh1 (p : Planet) (r : Sp) (e : Int) : Res := doR e (divR p.radius r)
def sh2 (p : Planet) (r : Sp) (e : Int) : Res := doR (sh1 p r e).e (squareR (sh1 p r e).s)
def sh3 (p : Planet) (r : Sp) (e : Int) : Res := doR (sh2 p r e).e (mulR p.oblate (sh2 p r e).s)
def sh4 (p : Planet) (r up : Sp) (e : Int) : Res := doR (sh3 p r e).e (squareR up)
def sh5 (p : Planet) (r up : Sp) (e : Int) : Res := doR (sh4 p r up e).e (scaleR (sh4 p r up e).s 5)
def sh6 (p : Planet) (r up : Sp) (e : Int) : Res := doR (sh5 p r up e).e (subR (wholeS 1) (sh5 p r up e).s)
def sh7 (p : Planet) (r up : Sp) (e : Int) : Res := doR (sh6 p r up e).e (mulR (sh3 p r e).s (sh6 p r up e).s)
def sh8 (p : Planet) (r up : Sp) (e : Int) : Res := doR (sh7 p r up e).e (addR (wholeS 1) (sh7 p r up e).s)
def sh9 (p : Planet) (r up : Sp) (e : Int) : Res := doR (sh8 p r up e).e (subR (wholeS 3) (sh5 p r up e).s)
def sh10 (p : Planet) (r up : Sp) (e : Int) : Res := doR (sh9 p r up e).e (mulR (sh3 p r e).s (sh9 p r up e).s)
def sh11 (p : Planet) (r up : Sp) (e : Int) : Res := doR (sh10 p r up e).e (addR (wholeS 1) (sh10 p r up e).s)
def shapeR (p : Planet) (r up : Sp) (e : Int) : BRes := if zeroB p.oblate then ⟨ones (wholeS 1), e⟩ else ⟨⟨(sh8 p r up e).s, (sh8 p r up e).s, (sh11 p r up e).s⟩, (sh11 p r up e).e⟩
/-! The attraction of a planet. -/
def atU (place : Bx) (r : Sp) (e : Int) : BRes := eachR divR e place (ones r)
def atS (p : Planet) (place : Bx) (r : Sp) (e : Int) : Res := doR (atU place r e).e (divR p.mu r)
def atT (p : Planet) (place : Bx) (r : Sp) (e : Int) : Res := doR (atS p place r e).e (divR (atS p place r e).s r)
def atN (p : Planet) (place : Bx) (r : Sp) (e : Int) : BRes := shapeR p r (atU place r e).b.z (atT p place r e).e
def atM (p : Planet) (place : Bx) (r : Sp) (e : Int) : BRes := eachR mulR (atN p place r e).e (ones (atT p place r e).s) (atU place r e).b
def attR (p : Planet) (place : Bx) (r : Sp) (e : Int) : BRes := eachR mulR (atM p place r e).e (atM p place r e).b (atN p place r e).b
def pullF (p : Planet) (place : Bx) (r : Sp) (e : Int) : BRes := eachR subR (attR p place r e).e p.pull (attR p place r e).b
/-- One component of the document's. -/
def mulSub (s u n o : Sp) (e : Int) : Res := doR e (bindR (bindR (mulR s u) (fun y => mulR y n)) (fun y => subR o y))
def pullG (p : Planet) (place : Bx) (r : Sp) (e : Int) : BRes :=
  th (mulSub (atT p place r e).s (atU place r e).b.x (atN p place r e).b.x p.pull.x) (mulSub (atT p place r e).s (atU place r e).b.y (atN p place r e).b.y p.pull.y) (mulSub (atT p place r e).s (atU place r e).b.z (atN p place r e).b.z p.pull.z) (atN p place r e).e
def Bx.Ok (b : Bx) : Prop := b.x.okB = true ∧ b.y.okB = true ∧ b.z.okB = true
/-! The turning of a planet. -/
def spE (w : Sp) (o : BRes) : Res := doR o.e (squareR w)
def spA1 (w : Sp) (v : Bx) (o : BRes) : Res := doR (spE w o).e (mulR w v.y)
def spA2 (w : Sp) (v : Bx) (o : BRes) : Res := doR (spA1 w v o).e (scaleR (spA1 w v o).s 2)
def spA3 (w : Sp) (v : Bx) (o : BRes) : Res := doR (spA2 w v o).e (addR o.b.x (spA2 w v o).s)
def spA4 (w : Sp) (q v : Bx) (o : BRes) : Res := doR (spA3 w v o).e (mulR (spE w o).s q.x)
def spA5 (w : Sp) (q v : Bx) (o : BRes) : Res := doR (spA4 w q v o).e (addR (spA3 w v o).s (spA4 w q v o).s)
def spB1 (w : Sp) (q v : Bx) (o : BRes) : Res := doR (spA5 w q v o).e (mulR w v.x)
def spB2 (w : Sp) (q v : Bx) (o : BRes) : Res := doR (spB1 w q v o).e (scaleR (spB1 w q v o).s 2)
def spB3 (w : Sp) (q v : Bx) (o : BRes) : Res := doR (spB2 w q v o).e (subR o.b.y (spB2 w q v o).s)
def spB4 (w : Sp) (q v : Bx) (o : BRes) : Res := doR (spB3 w q v o).e (mulR (spE w o).s q.y)
def spB5 (w : Sp) (q v : Bx) (o : BRes) : Res := doR (spB4 w q v o).e (addR (spB3 w q v o).s (spB4 w q v o).s)
def spinR (w : Sp) (q v : Bx) (o : BRes) : BRes := if zeroB w then o else ⟨⟨(spA5 w q v o).s, (spB5 w q v o).s, o.b.z⟩, (spB5 w q v o).e⟩
theorem spin_alike (w : Sp) (q v : Bx) {o o' : BRes} (h : Alike o o') : Alike (spinR w q v o) (spinR w q v o') := by
  unfold spinR
  split
  · exact h
  · by_cases he : o.e = 0
    · have e1 : o = o' := by
        obtain ⟨b, e⟩ := o
        obtain ⟨b', e'⟩ := o'
        have := h.2 he
        have := h.1
        simp_all
      rw [e1]
      exact Alike.refl _
    · have he' : o'.e ≠ 0 := by rw [← h.1]; exact he
      have key : ∀ x : BRes, x.e ≠ 0 → (spB5 w q v x).e = x.e := fun x hx => by
        have h0 : (spE w x).e = x.e := doR_ee _ hx
        have h1 : (spA1 w v x).e = x.e := by unfold spA1; rw [h0, doR_ee _ hx]
        have h2 : (spA2 w v x).e = x.e := by unfold spA2; rw [h1, doR_ee _ hx]
        have h3 : (spA3 w v x).e = x.e := by unfold spA3; rw [h2, doR_ee _ hx]
        have h4 : (spA4 w q v x).e = x.e := by unfold spA4; rw [h3, doR_ee _ hx]
        have h5 : (spA5 w q v x).e = x.e := by unfold spA5; rw [h4, doR_ee _ hx]
        have g1 : (spB1 w q v x).e = x.e := by unfold spB1; rw [h5, doR_ee _ hx]
        have g2 : (spB2 w q v x).e = x.e := by unfold spB2; rw [g1, doR_ee _ hx]
        have g3 : (spB3 w q v x).e = x.e := by unfold spB3; rw [g2, doR_ee _ hx]
        have g4 : (spB4 w q v x).e = x.e := by unfold spB4; rw [g3, doR_ee _ hx]
        unfold spB5
        rw [g4, doR_ee _ hx]
      exact ⟨by show (spB5 w q v o).e = (spB5 w q v o').e; rw [key o he, key o' he', h.1], fun k => absurd ((key o he).symm.trans k) he⟩
/-! The thrust. -/
def tuT (a : Arc) (m : Sp) (o : BRes) : Res := doR o.e (divR a.thrust m)
def tuM (a : Arc) (m : Sp) (o : BRes) : BRes := eachR mulR (tuT a m o).e (ones (tuT a m o).s) a.dir
def thrustF (a : Arc) (m : Sp) (o : BRes) : BRes := if zeroB a.thrust then o else eachR addR (tuM a m o).e o.b (tuM a m o).b
def mulAdd (s u o : Sp) (e : Int) : Res := doR e (bindR (mulR s u) (fun y => addR o y))
def thrustG (a : Arc) (m : Sp) (o : BRes) : BRes := if zeroB a.thrust then o else th (mulAdd (tuT a m o).s a.dir.x o.b.x) (mulAdd (tuT a m o).s a.dir.y o.b.y) (mulAdd (tuT a m o).s a.dir.z o.b.z) (tuT a m o).e
/-! The drag. -/
def drH (p : Planet) (r : Sp) (o : BRes) : Res := doR o.e (subR r p.radius)
def drL (p : Planet) (l : List Pt) (r : Sp) (o : BRes) : Res := doR (drH p r o).e (lookR l (drH p r o).s)
def drB (p : Planet) (l : List Pt) (m r : Sp) (o : BRes) : Res := doR (drL p l r o).e (divR (drL p l r o).s m)
def drS (p : Planet) (l : List Pt) (v : Bx) (m r : Sp) (o : BRes) : Res := doR (drB p l m r o).e (normR v.list)
def drX (p : Planet) (l : List Pt) (v : Bx) (m r : Sp) (o : BRes) : Res := doR (drS p l v m r o).e (mulR (drB p l m r o).s (drS p l v m r o).s)
def drM (p : Planet) (l : List Pt) (v : Bx) (m r : Sp) (o : BRes) : BRes := eachR mulR (drX p l v m r o).e (ones (drX p l v m r o).s) v
def dragF (p : Planet) (l : List Pt) (v : Bx) (m r : Sp) (o : BRes) : BRes := if l.isEmpty then o else eachR subR (drM p l v m r o).e o.b (drM p l v m r o).b
def dragG (p : Planet) (l : List Pt) (v : Bx) (m r : Sp) (o : BRes) : BRes :=
  if l.isEmpty then o else th (mulSub (drB p l m r o).s (drS p l v m r o).s v.x o.b.x) (mulSub (drB p l m r o).s (drS p l v m r o).s v.y o.b.y) (mulSub (drB p l m r o).s (drS p l v m r o).s v.z o.b.z) (drS p l v m r o).e
/-! The force. -/
def frN (p : Planet) (l : List Pt) (q : Bx) (e : Int) : Res := if !zeroB p.mu || !l.isEmpty then doR e (normR q.list) else ⟨z0, e⟩
def frPF (p : Planet) (l : List Pt) (q : Bx) (e : Int) : BRes := if zeroB p.mu then ⟨p.pull, (frN p l q e).e⟩ else pullF p q (frN p l q e).s (frN p l q e).e
def frPG (p : Planet) (l : List Pt) (q : Bx) (e : Int) : BRes := if zeroB p.mu then ⟨p.pull, (frN p l q e).e⟩ else pullG p q (frN p l q e).s (frN p l q e).e
def frSF (p : Planet) (l : List Pt) (q v : Bx) (e : Int) : BRes := spinR p.spin q v (frPF p l q e)
def frSG (p : Planet) (l : List Pt) (q v : Bx) (e : Int) : BRes := spinR p.spin q v (frPG p l q e)
def frTF (p : Planet) (a : Arc) (l : List Pt) (q v : Bx) (m : Sp) (e : Int) : BRes := thrustF a m (frSF p l q v e)
def frTG (p : Planet) (a : Arc) (l : List Pt) (q v : Bx) (m : Sp) (e : Int) : BRes := thrustG a m (frSG p l q v e)
def forceF (p : Planet) (a : Arc) (l : List Pt) (q v : Bx) (m : Sp) (e : Int) : BRes := dragF p l v m (frN p l q e).s (frTF p a l q v m e)
def forceG (p : Planet) (a : Arc) (l : List Pt) (q v : Bx) (m : Sp) (e : Int) : BRes := dragG p l v m (frN p l q e).s (frTG p a l q v m e)
end Go.Proofs.YtkeifgcncmilmaaGreat
