/-
  The plain law of forces: three components of an operation that keeps errors, the program's order and the document's.
-/
import Derived.Test.YtkeifgcncmilmaaFlightCalc
import Derived.Test.YtkeifgcncmilmaaRefDivs
import Derived.Test.YtkeifgcncmilmaaLookLaw
import Derived.Test.YtkeifgcncmilmaaMonoFew
namespace Go.Proofs.Ytkeifgcncmilmaa
set_option maxRecDepth 100000
structure BRes where
  b : Bx
  e : Int
/-- Three operations in a row. -/
def th (f1 f2 f3 : Int → Res) (e : Int) : BRes := ⟨⟨(f1 e).s, (f2 (f1 e).e).s, (f3 (f2 (f1 e).e).e).s⟩, (f3 (f2 (f1 e).e).e).e⟩
def ones (a : Sp) : Bx := ⟨a, a, a⟩
def eachR (f : Sp → Sp → Res) (e : Int) (a b : Bx) : BRes := ⟨eachB f e a b, (each3 f e a b).e⟩
theorem eachR_th (f : Sp → Sp → Res) (e : Int) (a b : Bx) : eachR f e a b = th (fun e => doR e (f a.x b.x)) (fun e => doR e (f a.y b.y)) (fun e => doR e (f a.z b.z)) e := rfl
def zeroB (a : Sp) : Bool := decide (a.lo = 0) && decide (a.hi = 0)
/-- The same, but for the values beside an error. -/
def Alike (x y : BRes) : Prop := x.e = y.e ∧ (x.e = 0 → x.b = y.b)
theorem Alike.refl (x : BRes) : Alike x x := ⟨rfl, fun _ => rfl⟩
theorem Alike.trans {x y z : BRes} (h : Alike x y) (k : Alike y z) : Alike x z := ⟨h.1.trans k.1, fun e => (h.2 e).trans (k.2 (h.1 ▸ e))⟩
def E4 (r : Res) : Prop := r.e = 0 ∨ r.e = 4
/-- One operation behind another one. -/
def bindR (a : Res) (g : Sp → Res) : Res := if a.e = 0 then g a.s else errR a.e
theorem errR_e (e : Int) : (errR e).e = e := rfl
theorem doR_bind (e : Int) (a : Res) (g : Sp → Res) : doR (doR e a).e (g (doR e a).s) = doR e (bindR a g) := by
  by_cases h : e = 0
  · subst h
    rw [doR_ok, doR_ok]
    unfold bindR doR
    rfl
  · rw [doR_bad a h, doR_bad _ h, errR_e, doR_bad _ h]
theorem doR_ee {e : Int} (r : Res) (h : e ≠ 0) : (doR e r).e = e := by rw [doR_bad r h]; rfl
theorem th_bad {e : Int} (a b c : Res) (h : e ≠ 0) : (th (fun e => doR e a) (fun e => doR e b) (fun e => doR e c) e).e = e := by
  show (doR (doR (doR e a).e b).e c).e = e
  rw [doR_ee a h, doR_ee b h, doR_ee c h]
theorem eachR_bad (f : Sp → Sp → Res) {e : Int} (a b : Bx) (h : e ≠ 0) : (eachR f e a b).e = e := by rw [eachR_th]; exact th_bad _ _ _ h
theorem th_zero (a b c : Res) (ha : a.e = 0) (hb : b.e = 0) (hc : c.e = 0) : th (fun e => doR e a) (fun e => doR e b) (fun e => doR e c) 0 = ⟨⟨a.s, b.s, c.s⟩, 0⟩ := by
  unfold th
  simp only [doR_ok, ha, hb, hc]
theorem th_four (a b c : Res) (ha : E4 a) (hb : E4 b) (hc : E4 c) (h : ¬ (a.e = 0 ∧ b.e = 0 ∧ c.e = 0)) : (th (fun e => doR e a) (fun e => doR e b) (fun e => doR e c) 0).e = 4 := by
  show (doR (doR (doR 0 a).e b).e c).e = 4
  rw [doR_ok]
  rcases ha with ha | ha
  · rw [ha, doR_ok]
    rcases hb with hb | hb
    · rw [hb, doR_ok]
      rcases hc with hc | hc
      · exact absurd ⟨ha, hb, hc⟩ h
      · exact hc
    · rw [hb, doR_ee _ (by omega)]
  · rw [ha, doR_ee b (by omega), doR_ee c (by omega)]
theorem bind_e4 {a : Res} {g : Sp → Res} (ha : E4 a) (hg : E4 (g a.s)) : E4 (bindR a g) := by
  unfold bindR
  split
  · exact hg
  · rename_i h
    rcases ha with ha | ha
    · exact absurd ha h
    · exact .inr ha
/-- First all operations of one kind, then all of the other: or each component by itself. -/
theorem th_fuse (e : Int) (a1 a2 a3 : Res) (g1 g2 g3 : Sp → Res) (ha1 : E4 a1) (ha2 : E4 a2) (ha3 : E4 a3) (hg1 : E4 (g1 a1.s)) (hg2 : E4 (g2 a2.s)) (hg3 : E4 (g3 a3.s)) (x : BRes) (hx : Alike x (th (fun e => doR e a1) (fun e => doR e a2) (fun e => doR e a3) e)) :
    Alike (th (fun e => doR e (g1 x.b.x)) (fun e => doR e (g2 x.b.y)) (fun e => doR e (g3 x.b.z)) x.e) (th (fun e => doR e (bindR a1 g1)) (fun e => doR e (bindR a2 g2)) (fun e => doR e (bindR a3 g3)) e) := by
  obtain ⟨h1, h2⟩ := hx
  by_cases he : e = 0
  · subst he
    by_cases h : a1.e = 0 ∧ a2.e = 0 ∧ a3.e = 0
    · obtain ⟨k1, k2, k3⟩ := h
      rw [th_zero _ _ _ k1 k2 k3] at h1 h2
      have h0 : x.e = 0 := h1
      rw [h2 h0, h0]
      unfold bindR
      rw [if_pos k1, if_pos k2, if_pos k3]
      exact Alike.refl _
    · rw [th_four _ _ _ ha1 ha2 ha3 h] at h1
      have hn : ¬ ((bindR a1 g1).e = 0 ∧ (bindR a2 g2).e = 0 ∧ (bindR a3 g3).e = 0) := by
        intro ⟨k1, k2, k3⟩
        refine h ⟨?_, ?_, ?_⟩
        · unfold bindR at k1; split at k1; · assumption
          · exact k1
        · unfold bindR at k2; split at k2; · assumption
          · exact k2
        · unfold bindR at k3; split at k3; · assumption
          · exact k3
      have hf := th_four _ _ _ (bind_e4 ha1 hg1) (bind_e4 ha2 hg2) (bind_e4 ha3 hg3) hn
      rw [h1]
      refine ⟨by rw [th_bad _ _ _ (by omega), hf], fun k => ?_⟩
      rw [th_bad _ _ _ (by omega)] at k
      omega
  · rw [th_bad _ _ _ he] at h1
    rw [h1]
    refine ⟨by rw [th_bad _ _ _ he, th_bad _ _ _ he], fun k => ?_⟩
    rw [th_bad _ _ _ he] at k
    exact absurd k he
theorem ok_zero (e : Int) : (errR e).s.okB = true := rfl
theorem ok_do {e : Int} {r : Res} (h : r.s.okB = true) : (doR e r).s.okB = true := by
  unfold doR
  split
  · exact h
  · rfl
theorem ok_fit {x y : Int} (h : x ≤ y) : (fitR x y).s.okB = true := by
  unfold fitR
  cases h1 : isNum x <;> cases h2 : isNum y <;> try rfl
  unfold isNum at h1 h2
  unfold Sp.okB numB
  simp only [Bool.and_eq_true, decide_eq_true_eq, Bool.true_and, if_true] at *
  omega
theorem e4_fit (x y : Int) : E4 (fitR x y) := by
  unfold fitR
  split
  · exact .inl rfl
  · exact .inr rfl
theorem e4_add {a b : Sp} (ha : a.okB = true) (hb : b.okB = true) : E4 (addR a b) := by
  unfold addR
  rw [ha, hb]
  exact e4_fit _ _
theorem ok_neg {a : Sp} (ha : a.okB = true) (h64 : a.hi ≤ 9223372036854775807) : (negS a).okB = true := by
  unfold Sp.okB numB at *
  unfold negS
  simp only [Bool.and_eq_true, decide_eq_true_eq] at *
  omega
theorem e4_sub {a b : Sp} (ha : a.okB = true) (hb : b.okB = true) (h64 : b.hi ≤ 9223372036854775807) : E4 (subR a b) := by
  unfold subR
  rw [hb]
  exact e4_add ha (ok_neg hb h64)
theorem e4_mul {a b : Sp} (ha : a.okB = true) (hb : b.okB = true) : E4 (mulR a b) := by
  unfold mulR
  rw [ha, hb]
  exact e4_fit _ _
theorem ok_add {a b : Sp} : (addR a b).s.okB = true := by
  unfold addR
  cases ha : a.okB
  · rfl
  cases hb : b.okB
  · rfl
  exact ok_fit (by have := ok_le ha; have := ok_le hb; omega)
theorem ok_sub {a b : Sp} : (subR a b).s.okB = true := by
  unfold subR
  split
  · exact ok_add
  · rfl
theorem ok_mul {a b : Sp} : (mulR a b).s.okB = true := by
  unfold mulR
  cases ha : a.okB
  · rfl
  cases hb : b.okB
  · rfl
  refine ok_fit (Int.le_trans (down_le_up _ _ (by omega)) (up_mono _ (by omega) ?_))
  exact Int.le_trans (min4_le _ _ _ _).1 (le_max4 _ _ _ _).1
theorem ok_scale {a : Sp} {n : Int} : (scaleR a n).s.okB = true := by
  unfold scaleR
  cases ha : a.okB
  · rfl
  refine ok_fit ?_
  unfold imin imax
  split <;> split <;> omega
theorem ok_square {a : Sp} : (squareR a).s.okB = true := by
  unfold squareR
  split
  · exact ok_mul
  · rfl
theorem rat_le (a b : Int) (h : b ≠ 0) : ratDown a b ≤ ratUp a b := by
  unfold ratDown ratUp
  split
  · exact down_le_up _ _ (by omega)
  · exact down_le_up _ _ (by omega)
theorem ok_div {a b : Sp} : (divR a b).s.okB = true := by
  unfold divR
  cases ha : a.okB
  · rfl
  cases hb : b.okB
  · rfl
  rw [Bool.and_self, if_pos rfl]
  split
  · rfl
  · rename_i h
    refine ok_fit (Int.le_trans (min4_le _ _ _ _).1 (Int.le_trans (rat_le _ _ ?_) (le_max4 _ _ _ _).1))
    intro h0
    have := ok_le hb
    simp only [Bool.and_eq_true, decide_eq_true_eq] at h
    omega
theorem norm_z (l : List Sp) (h : (normR l).e ≠ 0) : (normR l).s = z0 := by
  unfold normR at *
  split at h
  · rename_i h1
    rw [if_pos h1]
    split at h
    · rename_i h2
      rw [if_pos h2]
      split at h
      · rename_i h3
        rw [if_pos h3]
        unfold rootR at *
        split at h
        · split at h
          · rename_i h4 h5
            rw [if_pos h4, if_pos h5]
            rfl
          · exact absurd rfl h
        · rename_i h4
          rw [if_neg h4]
          rfl
      · rename_i h3
        rw [if_neg h3]
        rfl
    · rename_i h2
      rw [if_neg h2]
      rfl
  · rename_i h1
    rw [if_neg h1]
    rfl
theorem ok_norm {l : List Sp} : (normR l).s.okB = true := by
  by_cases h : (normR l).e = 0
  · have := norm_ord h
    unfold Sp.okB numB
    simp only [Bool.and_eq_true, decide_eq_true_eq]
    omega
  · rw [norm_z l h]
    rfl
/-! The factors of an oblate planet. -/
def sh1 (p : Planet) (r : Sp) (e : Int) : Res := doR e (divR p.radius r)
def sh2 (p : Planet) (r : Sp) (e : Int) : Res := doR (sh1 p r e).e (squareR (sh1 p r e).s)
def sh3 (p : Planet) (r : Sp) (e : Int) : Res := doR (sh2 p r e).e (mulR p.oblate (sh2 p r e).s)
def sh4 (p : Planet) (r up : Sp) (e : Int) : Res := doR (sh3 p r e).e (squareR up)
def sh5 (p : Planet) (r up : Sp) (e : Int) : Res := doR (sh4 p r up e).e (scaleR (sh4 p r up e).s 5)
def sh6 (p : Planet) (r up : Sp) (e : Int) : Res := doR (sh5 p r up e).e (subR (wholeS 1) (sh5 p r up e).s)
def sh7 (p : Planet) (r up : Sp) (e : Int) : Res := doR (sh6 p r up e).e (mulR (sh3 p r e).s (sh6 p r up e).s)
def sh8 (p : Planet) (r up : Sp) (e : Int) : Res := doR (sh7 p r up e).e (addR (wholeS 1) (sh7 p r up e).s)
def sh9 (p : Planet) (r up : Sp) (e : Int) : Res := doR (sh8 p r up e).e (subR (wholeS 3) (sh5 p r up e).s)
def sh10 (p : Planet) (r up : Sp) (e : Int) : Res := doR (sh9 p r up e).e (mulR (sh3 p r e).s (sh9 p r up e).s)
def sh11 (p : Planet) (r up : Sp) (e : Int) : Res := doR (sh10 p r up e).e (addR (wholeS 1) (sh10 p r up e).s)
def shapeR (p : Planet) (r up : Sp) (e : Int) : BRes := if zeroB p.oblate then ⟨ones (wholeS 1), e⟩ else ⟨⟨(sh8 p r up e).s, (sh8 p r up e).s, (sh11 p r up e).s⟩, (sh11 p r up e).e⟩
/-! The attraction of a planet. -/
def atU (place : Bx) (r : Sp) (e : Int) : BRes := eachR divR e place (ones r)
def atS (p : Planet) (place : Bx) (r : Sp) (e : Int) : Res := doR (atU place r e).e (divR p.mu r)
def atT (p : Planet) (place : Bx) (r : Sp) (e : Int) : Res := doR (atS p place r e).e (divR (atS p place r e).s r)
def atN (p : Planet) (place : Bx) (r : Sp) (e : Int) : BRes := shapeR p r (atU place r e).b.z (atT p place r e).e
def atM (p : Planet) (place : Bx) (r : Sp) (e : Int) : BRes := eachR mulR (atN p place r e).e (ones (atT p place r e).s) (atU place r e).b
def attR (p : Planet) (place : Bx) (r : Sp) (e : Int) : BRes := eachR mulR (atM p place r e).e (atM p place r e).b (atN p place r e).b
def pullF (p : Planet) (place : Bx) (r : Sp) (e : Int) : BRes := eachR subR (attR p place r e).e p.pull (attR p place r e).b
/-- One component of the document's. -/
def mulSub (s u n o : Sp) (e : Int) : Res := doR e (bindR (bindR (mulR s u) (fun y => mulR y n)) (fun y => subR o y))
def pullG (p : Planet) (place : Bx) (r : Sp) (e : Int) : BRes :=
  th (mulSub (atT p place r e).s (atU place r e).b.x (atN p place r e).b.x p.pull.x) (mulSub (atT p place r e).s (atU place r e).b.y (atN p place r e).b.y p.pull.y) (mulSub (atT p place r e).s (atU place r e).b.z (atN p place r e).b.z p.pull.z) (atN p place r e).e
theorem mulSub_is (s u n o : Sp) (e : Int) : mulSub s u n o e = doR (doR (doR e (mulR s u)).e (mulR (doR e (mulR s u)).s n)).e (subR o (doR (doR e (mulR s u)).e (mulR (doR e (mulR s u)).s n)).s) := by
  unfold mulSub
  rw [doR_bind e (mulR s u) (fun y => mulR y n), doR_bind e _ (fun y => subR o y)]
def Bx.Ok (b : Bx) : Prop := b.x.okB = true ∧ b.y.okB = true ∧ b.z.okB = true
theorem Bx.ok_of {b : Bx} (h : b.okB = true) : b.Ok := by
  unfold Bx.okB at h
  simp only [Bool.and_eq_true] at h
  exact ⟨h.1.1, h.1.2, h.2⟩
theorem hi64 (a : Sp) [h : S64 a] : a.hi ≤ 9223372036854775807 := h.hi.2
theorem e4_mulSub {s u n o : Sp} (hs : s.okB = true) (hu : u.okB = true) (hn : n.okB = true) (ho : o.okB = true) : E4 (mulR s u) ∧ E4 (mulR (mulR s u).s n) ∧ E4 (bindR (mulR s u) (fun y => mulR y n)) ∧ E4 (subR o (bindR (mulR s u) (fun y => mulR y n)).s) := by
  have h1 := e4_mul hs hu
  have h2 : E4 (mulR (mulR s u).s n) := e4_mul ok_mul hn
  refine ⟨h1, h2, bind_e4 h1 h2, ?_⟩
  unfold bindR
  split
  · exact e4_sub ho ok_mul (hi64 _)
  · exact e4_sub ho rfl (hi64 _)
theorem ok_atU (place : Bx) (r : Sp) (e : Int) : (atU place r e).b.Ok := ⟨ok_do ok_div, ok_do ok_div, ok_do ok_div⟩
theorem ok_atT (p : Planet) (place : Bx) (r : Sp) (e : Int) : (atT p place r e).s.okB = true := ok_do ok_div
theorem ok_shape (p : Planet) (r up : Sp) (e : Int) : (shapeR p r up e).b.Ok := by
  unfold shapeR
  split
  · exact ⟨rfl, rfl, rfl⟩
  · exact ⟨ok_do ok_add, ok_do ok_add, ok_do ok_add⟩
theorem pull_alike (p : Planet) (place : Bx) (r : Sp) (e : Int) (hp : p.pull.Ok) : Alike (pullF p place r e) (pullG p place r e) := by
  have hu := ok_atU place r e
  have ht := ok_atT p place r e
  have hn : (atN p place r e).b.Ok := ok_shape p r _ _
  unfold pullF pullG attR atM mulSub
  generalize (atU place r e).b = u at *
  generalize (atT p place r e).s = s at *
  generalize atN p place r e = n at *
  have k1 := e4_mulSub ht hu.1 hn.1 hp.1
  have k2 := e4_mulSub ht hu.2.1 hn.2.1 hp.2.1
  have k3 := e4_mulSub ht hu.2.2 hn.2.2 hp.2.2
  have f1 := th_fuse n.e _ _ _ (fun y => mulR y n.b.x) (fun y => mulR y n.b.y) (fun y => mulR y n.b.z) k1.1 k2.1 k3.1 k1.2.1 k2.2.1 k3.2.1 (eachR mulR n.e (ones s) u) (by rw [eachR_th]; exact Alike.refl _)
  exact th_fuse n.e _ _ _ (fun y => subR p.pull.x y) (fun y => subR p.pull.y y) (fun y => subR p.pull.z y) k1.2.2.1 k2.2.2.1 k3.2.2.1 k1.2.2.2 k2.2.2.2 k3.2.2.2 _ f1
/-! The turning of a planet. -/
def spE (w : Sp) (o : BRes) : Res := doR o.e (squareR w)
def spA1 (w : Sp) (v : Bx) (o : BRes) : Res := doR (spE w o).e (mulR w v.y)
def spA2 (w : Sp) (v : Bx) (o : BRes) : Res := doR (spA1 w v o).e (scaleR (spA1 w v o).s 2)
def spA3 (w : Sp) (v : Bx) (o : BRes) : Res := doR (spA2 w v o).e (addR o.b.x (spA2 w v o).s)
def spA4 (w : Sp) (q v : Bx) (o : BRes) : Res := doR (spA3 w v o).e (mulR (spE w o).s q.x)
def spA5 (w : Sp) (q v : Bx) (o : BRes) : Res := doR (spA4 w q v o).e (addR (spA3 w v o).s (spA4 w q v o).s)
def spB1 (w : Sp) (q v : Bx) (o : BRes) : Res := doR (spA5 w q v o).e (mulR w v.x)
def spB2 (w : Sp) (q v : Bx) (o : BRes) : Res := doR (spB1 w q v o).e (scaleR (spB1 w q v o).s 2)
def spB3 (w : Sp) (q v : Bx) (o : BRes) : Res := doR (spB2 w q v o).e (subR o.b.y (spB2 w q v o).s)
def spB4 (w : Sp) (q v : Bx) (o : BRes) : Res := doR (spB3 w q v o).e (mulR (spE w o).s q.y)
def spB5 (w : Sp) (q v : Bx) (o : BRes) : Res := doR (spB4 w q v o).e (addR (spB3 w q v o).s (spB4 w q v o).s)
def spinR (w : Sp) (q v : Bx) (o : BRes) : BRes := if zeroB w then o else ⟨⟨(spA5 w q v o).s, (spB5 w q v o).s, o.b.z⟩, (spB5 w q v o).e⟩
theorem spin_alike (w : Sp) (q v : Bx) {o o' : BRes} (h : Alike o o') : Alike (spinR w q v o) (spinR w q v o') := by
  unfold spinR
  split
  · exact h
  · by_cases he : o.e = 0
    · have e1 : o = o' := by
        obtain ⟨b, e⟩ := o
        obtain ⟨b', e'⟩ := o'
        have := h.2 he
        have := h.1
        simp_all
      rw [e1]
      exact Alike.refl _
    · have he' : o'.e ≠ 0 := by rw [← h.1]; exact he
      have key : ∀ x : BRes, x.e ≠ 0 → (spB5 w q v x).e = x.e := fun x hx => by
        have h0 : (spE w x).e = x.e := doR_ee _ hx
        have h1 : (spA1 w v x).e = x.e := by unfold spA1; rw [h0, doR_ee _ hx]
        have h2 : (spA2 w v x).e = x.e := by unfold spA2; rw [h1, doR_ee _ hx]
        have h3 : (spA3 w v x).e = x.e := by unfold spA3; rw [h2, doR_ee _ hx]
        have h4 : (spA4 w q v x).e = x.e := by unfold spA4; rw [h3, doR_ee _ hx]
        have h5 : (spA5 w q v x).e = x.e := by unfold spA5; rw [h4, doR_ee _ hx]
        have g1 : (spB1 w q v x).e = x.e := by unfold spB1; rw [h5, doR_ee _ hx]
        have g2 : (spB2 w q v x).e = x.e := by unfold spB2; rw [g1, doR_ee _ hx]
        have g3 : (spB3 w q v x).e = x.e := by unfold spB3; rw [g2, doR_ee _ hx]
        have g4 : (spB4 w q v x).e = x.e := by unfold spB4; rw [g3, doR_ee _ hx]
        unfold spB5
        rw [g4, doR_ee _ hx]
      exact ⟨by show (spB5 w q v o).e = (spB5 w q v o').e; rw [key o he, key o' he', h.1], fun k => absurd ((key o he).symm.trans k) he⟩
/-! The thrust. -/
def tuT (a : Arc) (m : Sp) (o : BRes) : Res := doR o.e (divR a.thrust m)
def tuM (a : Arc) (m : Sp) (o : BRes) : BRes := eachR mulR (tuT a m o).e (ones (tuT a m o).s) a.dir
def thrustF (a : Arc) (m : Sp) (o : BRes) : BRes := if zeroB a.thrust then o else eachR addR (tuM a m o).e o.b (tuM a m o).b
def mulAdd (s u o : Sp) (e : Int) : Res := doR e (bindR (mulR s u) (fun y => addR o y))
theorem mulAdd_is (s u o : Sp) (e : Int) : mulAdd s u o e = doR (doR e (mulR s u)).e (addR o (doR e (mulR s u)).s) := by
  unfold mulAdd
  rw [doR_bind e (mulR s u) (fun y => addR o y)]
def thrustG (a : Arc) (m : Sp) (o : BRes) : BRes := if zeroB a.thrust then o else th (mulAdd (tuT a m o).s a.dir.x o.b.x) (mulAdd (tuT a m o).s a.dir.y o.b.y) (mulAdd (tuT a m o).s a.dir.z o.b.z) (tuT a m o).e
theorem alike_cases {o o' : BRes} (h : Alike o o') : o = o' ∨ (o.e ≠ 0 ∧ o'.e ≠ 0 ∧ o.e = o'.e) := by
  by_cases he : o.e = 0
  · left
    obtain ⟨b, e⟩ := o
    obtain ⟨b', e'⟩ := o'
    have := h.2 he
    have := h.1
    simp_all
  · exact .inr ⟨he, by rw [← h.1]; exact he, h.1⟩
theorem alike_bad {x y : BRes} {e : Int} (he : e ≠ 0) (h : x.e = e) (k : y.e = e) : Alike x y := ⟨h.trans k.symm, fun z => absurd (h.symm.trans z) he⟩
theorem thrust_alike (a : Arc) (m : Sp) {o o' : BRes} (h : Alike o o') (ho : o'.b.Ok) (hd : a.dir.Ok) : Alike (thrustF a m o) (thrustG a m o') := by
  unfold thrustF thrustG
  split
  · exact h
  · rcases alike_cases h with rfl | ⟨h1, h2, h3⟩
    · unfold tuM
      have ht : (tuT a m o).s.okB = true := ok_do ok_div
      generalize tuT a m o = t at *
      exact th_fuse t.e _ _ _ (fun y => addR o.b.x y) (fun y => addR o.b.y y) (fun y => addR o.b.z y) (e4_mul ht hd.1) (e4_mul ht hd.2.1) (e4_mul ht hd.2.2) (e4_add ho.1 ok_mul) (e4_add ho.2.1 ok_mul) (e4_add ho.2.2 ok_mul) _ (by rw [eachR_th]; exact Alike.refl _)
    · have e1 : (tuT a m o).e = o.e := doR_ee _ h1
      have e2 : (tuT a m o').e = o'.e := doR_ee _ h2
      refine alike_bad h1 ?_ ?_
      · have : (tuM a m o).e = o.e := by unfold tuM; rw [e1]; exact eachR_bad _ _ _ h1
        rw [this]
        exact eachR_bad _ _ _ h1
      · rw [e2, h3]
        exact th_bad _ _ _ h2
/-! The drag. -/
def drH (p : Planet) (r : Sp) (o : BRes) : Res := doR o.e (subR r p.radius)
def drL (p : Planet) (l : List Pt) (r : Sp) (o : BRes) : Res := doR (drH p r o).e (lookR l (drH p r o).s)
def drB (p : Planet) (l : List Pt) (m r : Sp) (o : BRes) : Res := doR (drL p l r o).e (divR (drL p l r o).s m)
def drS (p : Planet) (l : List Pt) (v : Bx) (m r : Sp) (o : BRes) : Res := doR (drB p l m r o).e (normR v.list)
def drX (p : Planet) (l : List Pt) (v : Bx) (m r : Sp) (o : BRes) : Res := doR (drS p l v m r o).e (mulR (drB p l m r o).s (drS p l v m r o).s)
def drM (p : Planet) (l : List Pt) (v : Bx) (m r : Sp) (o : BRes) : BRes := eachR mulR (drX p l v m r o).e (ones (drX p l v m r o).s) v
def dragF (p : Planet) (l : List Pt) (v : Bx) (m r : Sp) (o : BRes) : BRes := if l.isEmpty then o else eachR subR (drM p l v m r o).e o.b (drM p l v m r o).b
def dragG (p : Planet) (l : List Pt) (v : Bx) (m r : Sp) (o : BRes) : BRes :=
  if l.isEmpty then o else th (mulSub (drB p l m r o).s (drS p l v m r o).s v.x o.b.x) (mulSub (drB p l m r o).s (drS p l v m r o).s v.y o.b.y) (mulSub (drB p l m r o).s (drS p l v m r o).s v.z o.b.z) (drS p l v m r o).e
theorem drag_alike (p : Planet) (l : List Pt) (v : Bx) (m r : Sp) {o o' : BRes} (h : Alike o o') (ho : o'.b.Ok) (hv : v.Ok) : Alike (dragF p l v m r o) (dragG p l v m r o') := by
  unfold dragF dragG
  split
  · exact h
  · rcases alike_cases h with rfl | ⟨h1, h2, h3⟩
    · unfold drM
      have hb : (drB p l m r o).s.okB = true := ok_do ok_div
      have hs : (drS p l v m r o).s.okB = true := ok_do ok_norm
      have hx : drX p l v m r o = doR (drS p l v m r o).e (mulR (drB p l m r o).s (drS p l v m r o).s) := rfl
      have hxo : (drX p l v m r o).s.okB = true := ok_do ok_mul
      generalize drX p l v m r o = x at *
      generalize (drB p l m r o).s = b at *
      generalize drS p l v m r o = s at *
      have f1 := th_fuse x.e _ _ _ (fun y => subR o.b.x y) (fun y => subR o.b.y y) (fun y => subR o.b.z y) (e4_mul hxo hv.1) (e4_mul hxo hv.2.1) (e4_mul hxo hv.2.2) (e4_sub ho.1 ok_mul (hi64 _)) (e4_sub ho.2.1 ok_mul (hi64 _)) (e4_sub ho.2.2 ok_mul (hi64 _)) (eachR mulR x.e (ones x.s) v) (by rw [eachR_th]; exact Alike.refl _)
      refine Alike.trans f1 ?_
      unfold mulSub
      by_cases hse : s.e = 0
      · rw [hse, doR_ok] at hx
        subst hx
        rw [hse]
        rcases e4_mul hb hs with h0 | h4
        · rw [h0]
          unfold bindR
          simp only [h0, if_true]
          exact Alike.refl _
        · refine alike_bad (e := 4) (by omega) (by rw [h4]; exact th_bad _ _ _ (by omega)) ?_
          have q : ∀ y z, bindR (bindR (mulR b s.s) y) z = errR 4 := fun y z => by
            have h : bindR (mulR b s.s) y = errR 4 := by
              unfold bindR
              rw [if_neg (by rw [h4]; decide), h4]
            rw [h]
            rfl
          rw [q, q, q]
          rfl
      · have hxe : x.e = s.e := by rw [hx]; exact doR_ee _ hse
        exact alike_bad hse (by rw [hxe]; exact th_bad _ _ _ hse) (th_bad _ _ _ hse)
    · have e1 : (drS p l v m r o).e = o.e := by unfold drS drB drL drH; rw [doR_ee _ h1, doR_ee _ h1, doR_ee _ h1, doR_ee _ h1]
      have e2 : (drS p l v m r o').e = o'.e := by unfold drS drB drL drH; rw [doR_ee _ h2, doR_ee _ h2, doR_ee _ h2, doR_ee _ h2]
      have e3 : (drX p l v m r o).e = o.e := by unfold drX; rw [e1]; exact doR_ee _ h1
      refine alike_bad h1 ?_ ?_
      · have : (drM p l v m r o).e = o.e := by unfold drM; rw [e3]; exact eachR_bad _ _ _ h1
        rw [this]
        exact eachR_bad _ _ _ h1
      · rw [e2, h3]
        exact th_bad _ _ _ h2
/-! The force. -/
def frN (p : Planet) (l : List Pt) (q : Bx) (e : Int) : Res := if !zeroB p.mu || !l.isEmpty then doR e (normR q.list) else ⟨z0, e⟩
def frPF (p : Planet) (l : List Pt) (q : Bx) (e : Int) : BRes := if zeroB p.mu then ⟨p.pull, (frN p l q e).e⟩ else pullF p q (frN p l q e).s (frN p l q e).e
def frPG (p : Planet) (l : List Pt) (q : Bx) (e : Int) : BRes := if zeroB p.mu then ⟨p.pull, (frN p l q e).e⟩ else pullG p q (frN p l q e).s (frN p l q e).e
def frSF (p : Planet) (l : List Pt) (q v : Bx) (e : Int) : BRes := spinR p.spin q v (frPF p l q e)
def frSG (p : Planet) (l : List Pt) (q v : Bx) (e : Int) : BRes := spinR p.spin q v (frPG p l q e)
def frTF (p : Planet) (a : Arc) (l : List Pt) (q v : Bx) (m : Sp) (e : Int) : BRes := thrustF a m (frSF p l q v e)
def frTG (p : Planet) (a : Arc) (l : List Pt) (q v : Bx) (m : Sp) (e : Int) : BRes := thrustG a m (frSG p l q v e)
def forceF (p : Planet) (a : Arc) (l : List Pt) (q v : Bx) (m : Sp) (e : Int) : BRes := dragF p l v m (frN p l q e).s (frTF p a l q v m e)
def forceG (p : Planet) (a : Arc) (l : List Pt) (q v : Bx) (m : Sp) (e : Int) : BRes := dragG p l v m (frN p l q e).s (frTG p a l q v m e)
theorem ok_bind {a : Res} {g : Sp → Res} (h : ∀ y, (g y).s.okB = true) : (bindR a g).s.okB = true := by
  unfold bindR
  split
  · exact h _
  · rfl
theorem ok_pullG (p : Planet) (q : Bx) (r : Sp) (e : Int) : (pullG p q r e).b.Ok := by
  have h : ∀ s u n o e, (mulSub s u n o e).s.okB = true := fun s u n o e => by
    unfold mulSub
    exact ok_do (ok_bind fun _ => ok_sub)
  exact ⟨h _ _ _ _ _, h _ _ _ _ _, h _ _ _ _ _⟩
theorem ok_frPG (p : Planet) (l : List Pt) (q : Bx) (e : Int) (hp : p.pull.Ok) : (frPG p l q e).b.Ok := by
  unfold frPG
  split
  · exact hp
  · exact ok_pullG _ _ _ _
theorem ok_spin (w : Sp) (q v : Bx) {o : BRes} (h : o.b.Ok) : (spinR w q v o).b.Ok := by
  unfold spinR
  split
  · exact h
  · exact ⟨ok_do ok_add, ok_do ok_add, h.2.2⟩
theorem ok_thrustG (a : Arc) (m : Sp) {o : BRes} (h : o.b.Ok) : (thrustG a m o).b.Ok := by
  unfold thrustG
  split
  · exact h
  · have k : ∀ s u o e, (mulAdd s u o e).s.okB = true := fun s u o e => by
      unfold mulAdd
      exact ok_do (ok_bind fun _ => ok_add)
    exact ⟨k _ _ _ _, k _ _ _ _, k _ _ _ _⟩
theorem force_alike (p : Planet) (a : Arc) (l : List Pt) (q v : Bx) (m : Sp) (e : Int) (hp : p.pull.Ok) (hd : a.dir.Ok) (hv : v.Ok) : Alike (forceF p a l q v m e) (forceG p a l q v m e) := by
  have h1 : Alike (frPF p l q e) (frPG p l q e) := by
    unfold frPF frPG
    split
    · exact Alike.refl _
    · exact pull_alike _ _ _ _ hp
  have h2 : Alike (frSF p l q v e) (frSG p l q v e) := spin_alike _ _ _ h1
  have o2 : (frSG p l q v e).b.Ok := ok_spin _ _ _ (ok_frPG p l q e hp)
  have h3 : Alike (frTF p a l q v m e) (frTG p a l q v m e) := thrust_alike a m h2 o2 hd
  exact drag_alike p l v m _ h3 (ok_thrustG a m o2) hv
end Go.Proofs.Ytkeifgcncmilmaa
