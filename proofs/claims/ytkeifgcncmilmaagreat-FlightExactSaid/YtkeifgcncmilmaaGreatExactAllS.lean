/-
  The plain law of a uniform pull: the exact place and velocity stay, forwards and backwards.
  Contracts of ullageref01.Up: times 2, 2^24 and 2^33.
  Contracts of layer 3's parabola and held, where the answer is yes.
  Contract of ullageref03.Long (what it answers is left open); tubes and states of a list, each as a whole.
  Contracts: flight.Back.
  Words of the statements about single steps: a table that is long, the argument Move opened.
-/
import Derived.Test.YtkeifgcncmilmaaGreatFlyFlyS
import Derived.Test.YtkeifgcncmilmaaGreatWidesS
import Derived.Deep.DeepCutAuto
import Derived.Deep.QuietTactic
import Derived.BigQuiet
import Derived.Deep.CutRange
import Derived.StillTailTactics
import Derived.Deep.RegionLaw
import Derived.Test.YtkeifgcncmilmaaGreatAlive03S
import Derived.Test.YtkeifgcncmilmaaGreatOpenAllS
namespace Go.Proofs.YtkeifgcncmilmaaGreat
set_option maxRecDepth 100000
def Er4 (e : Int) : Prop := e = 0 ∨ e = 4 ∨ e = 9
theorem er4_0 : Er4 0 := .inl rfl
theorem er4_4 : Er4 4 := .inr (.inl rfl)
/-- A valid span of two int64. -/
def Vd (a : Sp) : Prop := -9223372036854775807 ≤ a.lo ∧ a.lo ≤ a.hi ∧ a.hi ≤ 9223372036854775807
theorem Vd.ok {a : Sp} (h : Vd a) : a.okB = true := by
  obtain ⟨h1, h2, h3⟩ := h
  unfold Sp.okB numB
  simp only [Bool.and_eq_true, decide_eq_true_eq]
  omega
def VdB (b : Bx) : Prop := Vd b.x ∧ Vd b.y ∧ Vd b.z
structure Gd (r : Res) : Prop where
  s : Vd r.s
  e : Er4 r.e
theorem vd_z : Vd (⟨0, 0⟩ : Sp) := ⟨by decide, by decide, by decide⟩
theorem gd_do {e : Int} {r : Res} (he : Er4 e) (hr : Gd r) : Gd (doR e r) := by
  unfold doR
  split
  · exact hr
  · exact ⟨vd_z, he⟩
theorem gd_fit {x y : Int} (h : x ≤ y) : Gd (fitR x y) := by
  unfold fitR
  split
  · rename_i k
    unfold isNum at k
    simp only [Bool.and_eq_true, decide_eq_true_eq] at k
    exact ⟨⟨k.1.1, h, k.2.2⟩, er4_0⟩
  · exact ⟨vd_z, er4_4⟩
theorem gd_add {a b : Sp} (ha : Vd a) (hb : Vd b) : Gd (addR a b) := by
  unfold addR
  rw [ha.ok, hb.ok, if_pos (by rfl)]
  exact gd_fit (by have := ha.2.1; have := hb.2.1; omega)
theorem vd_neg {a : Sp} (h : Vd a) : Vd (negS a) := by
  obtain ⟨h1, h2, h3⟩ := h
  exact ⟨by show _ ≤ -a.hi; omega, by show -a.hi ≤ -a.lo; omega, by show -a.lo ≤ _; omega⟩
theorem gd_sub {a b : Sp} (ha : Vd a) (hb : Vd b) : Gd (subR a b) := by
  unfold subR
  rw [hb.ok, if_pos (by rfl)]
  exact gd_add ha (vd_neg hb)
theorem gd_mul {a b : Sp} (ha : Vd a) (hb : Vd b) : Gd (mulR a b) := by
  unfold mulR
  rw [ha.ok, hb.ok, if_pos (by rfl)]
  refine gd_fit ?_
  have h := Int.le_trans (min4_le (a.lo * b.lo) (a.lo * b.hi) (a.hi * b.lo) (a.hi * b.hi)).1 (le_max4 (a.lo * b.lo) (a.lo * b.hi) (a.hi * b.lo) (a.hi * b.hi)).1
  generalize min4 (a.lo * b.lo) (a.lo * b.hi) (a.hi * b.lo) (a.hi * b.hi) = x at *
  generalize max4 (a.lo * b.lo) (a.lo * b.hi) (a.hi * b.lo) (a.hi * b.hi) = y at *
  unfold downZ upZ
  omega
theorem gd_half {a : Sp} (ha : Vd a) : Gd (divR a (wholeS 2)) := by
  unfold divR
  rw [ha.ok, show (wholeS 2).okB = true by decide, if_pos (by rfl), if_neg (by decide)]
  refine gd_fit ?_
  have k : ratDown a.lo (wholeS 2).lo ≤ ratUp a.lo (wholeS 2).lo := rat_mono (by decide)
  exact Int.le_trans (Int.le_trans (min4_le _ _ _ _).1 k) (le_max4 _ _ _ _).1
theorem gd_hull {a b : Sp} (ha : Vd a) (hb : Vd b) : Gd (hullR a b) := by
  unfold hullR
  rw [ha.ok, hb.ok, if_pos (by rfl)]
  obtain ⟨h1, h2, h3⟩ := ha
  obtain ⟨k1, k2, k3⟩ := hb
  refine ⟨?_, er4_0⟩
  unfold Vd hullS imin imax
  refine ⟨?_, ?_, ?_⟩ <;> simp only <;> (repeat' split) <;> omega
theorem gd_wide {a : Sp} (ha : Vd a) : Er4 (wideR a).e ∧ 0 ≤ (wideR a).n ∧ (wideR a).n ≤ 9223372036854775807 := by
  unfold wideR
  rw [ha.ok, if_pos rfl]
  have := ha.2.1
  split
  · exact ⟨er4_4, by simp⟩
  · exact ⟨er4_0, by simp only; omega⟩
theorem gd_wd {b m : Sp} {e : Int} (hb : Vd b) (hm : Vd m) (he : Er4 e) : Gd (wdR b m e) := by
  unfold wdR
  split
  · exact ⟨hb, he⟩
  · have h := gd_do he (gd_hull hb hm)
    have w := gd_wide h.s
    have e2 : Er4 (wdE b m e) := by
      unfold wdE doN
      split
      · exact w.1
      · exact h.e
    refine gd_do e2 (gd_add h.s ?_)
    have h2 : 0 ≤ (wideR (wdH b m e).s).n ∧ (wideR (wdH b m e).s).n ≤ 9223372036854775807 := w.2
    unfold Vd wdBy
    generalize (wideR (wdH b m e).s).n = y at *
    simp only
    omega
structure GdB (o : BRes) : Prop where
  b : VdB o.b
  e : Er4 o.e
theorem gd_each {f : Sp → Sp → Res} (hf : ∀ {a b}, Vd a → Vd b → Gd (f a b)) {e : Int} (he : Er4 e) {a b : Bx} (ha : VdB a) (hb : VdB b) : GdB (eachR f e a b) := by
  have h1 := gd_do he (hf ha.1 hb.1)
  have h2 := gd_do h1.e (hf ha.2.1 hb.2.1)
  have h3 := gd_do h2.e (hf ha.2.2 hb.2.2)
  exact ⟨⟨h1.s, h2.s, h3.s⟩, h3.e⟩
structure GdC (o : CRes) : Prop where
  p : VdB o.p
  v : VdB o.v
  e : Er4 o.e
theorem gd_reach {P V : Bx} {d : Sp} {v f : Bx} {e : Int} (hP : VdB P) (hV : VdB V) (hd : Vd d) (hv : VdB v) (hf : VdB f) (he : Er4 e) : GdC (reachF P V d v f e) := by
  have k : ∀ {s v : Bx} {e : Int}, VdB s → VdB v → Er4 e → GdB (rcP s d v e) := fun hs hv he => by
    have h1 := gd_each gd_mul he (a := ones d) ⟨hd, hd, hd⟩ hv
    exact gd_each gd_add h1.e hs h1.b
  have h1 := k hP hv he
  have h2 := k hV hf h1.e
  exact ⟨h1.b, h2.b, h2.e⟩
theorem gd_widC {q v mq mv : Bx} {e : Int} (hq : VdB q) (hv : VdB v) (hmq : VdB mq) (hmv : VdB mv) (he : Er4 e) : GdC (widC wdR q v mq mv e) := by
  have k : ∀ {q mq : Bx} {e : Int}, VdB q → VdB mq → Er4 e → GdB (widB wdR q mq e) := fun hq hm he => by
    have h1 := gd_wd hq.1 hm.1 he
    have h2 := gd_wd hq.2.1 hm.2.1 h1.e
    have h3 := gd_wd hq.2.2 hm.2.2 h2.e
    exact ⟨⟨h1.s, h2.s, h3.s⟩, h3.e⟩
  have h1 := k hq hmq he
  have h2 := k hv hmv h1.e
  exact ⟨h1.b, h2.b, h2.e⟩
/-- An arc without forces, of so many steps. -/
def exA (t d : Int) : Arc := ⟨t, d, ⟨0, 0⟩, ⟨0, 0⟩, ⟨⟨0, 0⟩, ⟨0, 0⟩, ⟨0, 0⟩⟩, ⟨none, 0, 0⟩, ⟨0, 0⟩⟩
theorem gd_tube {g : Bx} (hg : VdB g) (t u : Int) {P V : Bx} {d m : Sp} (hP : VdB P) (hV : VdB V) (hd : Vd d) : ∀ (n : Nat) (q v : Bx) (e : Int), VdB q → VdB v → Er4 e → Er4 (tubeR (fun q v e => forceF (freeP g) (exA t u) [] q v m e) (fun v f e => reachF P V d v f e) wdR n q v e).e
  | 0, _, _, _, _, _, he => he
  | n + 1, q, v, e, hq, hv, he => by
    have h1 : GdC (reachF P V d v (forceF (freeP g) (exA t u) [] q v m e).b (forceF (freeP g) (exA t u) [] q v m e).e) := gd_reach hP hV hd hv hg he
    unfold tubeR
    split
    · exact h1.e
    · split
      · exact er4_0
      · have h2 := gd_widC hq hv h1.p h1.v er4_0
        exact gd_tube hg t u hP hV hd n _ _ _ h2.p h2.v h2.e
structure StVd (s : State) : Prop where
  t : -9223372036854775807 ≤ s.t ∧ s.t ≤ 9223372036854775807
  p : VdB s.p
  v : VdB s.v
  m : Vd s.m
theorem gd_lp {g k o v f : Sp} {e : Int} (hg : Vd g) (hk : Vd k) (ho : Vd o) (hv : Vd v) (hf : Vd f) (he : Er4 e) : Gd (lpG g k o v f e) := by
  have h1 := gd_do he (gd_mul hg hv)
  have h2 := gd_do h1.e (gd_add ho h1.s)
  have h3 := gd_do h2.e (gd_mul hk hf)
  have h4 := gd_do h3.e (gd_add h2.s h3.s)
  have h5 := gd_do h4.e (gd_mul hg hf)
  exact gd_do h5.e (gd_add hv h5.s)
theorem er4_step {g : Bx} (hg : VdB g) (t u : Int) {s : State} (hs : StVd s) {h : Int} (hh : -9223372036854775807 ≤ h ∧ h ≤ 9223372036854775807) : Er4 (stepFF (freeP g) (exA t u) [] s h).e := by
  have hd : Vd (stD h) := by
    unfold Vd stD imin imax
    simp only
    refine ⟨?_, ?_, ?_⟩ <;> (repeat' split) <;> omega
  have hpt : Vd ⟨h, h⟩ := ⟨hh.1, Int.le_refl _, hh.2⟩
  have h0 : Gd (stF s h) := gd_do er4_0 (gd_add (a := ⟨s.t, s.t⟩) ⟨hs.t.1, Int.le_refl _, hs.t.2⟩ hpt)
  have h1 : Gd (stL (exA t u) h (stF s h).e) := gd_do h0.e (gd_mul vd_z hd)
  have hm : Gd (stM (exA t u) s h (stF s h).e) := gd_do h1.e (gd_sub hs.m h1.s)
  unfold stepFF stepOut
  split
  · unfold lastR
    split
    · exact er4_0
    · show Er4 (laM _ _ _ _).e
      have hl : Gd (laL h (forceF (freeP g) (exA t u) [] (tubeFF (freeP g) (exA t u) [] s h (stM (exA t u) s h (stF s h).e).s (stE (exA t u) s h (stF s h).e)).p (tubeFF (freeP g) (exA t u) [] s h (stM (exA t u) s h (stF s h).e).s (stE (exA t u) s h (stF s h).e)).v (stM (exA t u) s h (stF s h).e).s 0)) := gd_do er4_0 (gd_mul hpt hpt)
      have hk := gd_do hl.e (gd_half hl.s)
      have a0 := gd_lp hpt hk.s hs.p.1 hs.v.1 hg.1 hk.e
      have a1 := gd_lp hpt hk.s hs.p.2.1 hs.v.2.1 hg.2.1 a0.e
      have a2 := gd_lp hpt hk.s hs.p.2.2 hs.v.2.2 hg.2.2 a1.e
      have a3 := gd_do a2.e (gd_mul hpt vd_z)
      exact (gd_do a3.e (gd_sub hs.m a3.s)).e
  · show Er4 (if _ then _ else _)
    split
    · exact .inr (.inr rfl)
    · refine gd_tube hg t u hs.p hs.v hd 8 _ _ _ hs.p hs.v ?_
      unfold stE
      split
      · exact er4_4
      · exact hm.e
/-! The parabola, at times that are multiples of 2^28 (in units of 2^-65). -/
def exP (p v g m : Int) : Int := p * 8589934592 + v * m * 536870912 + g * m * m * 16777216
def exV (v g m : Int) : Int := v * 8589934592 + g * m * 536870912
/-- Boxes that have the parabola's place and velocity. -/
def OnPar (p v g : Nat → Int) (m : Int) (P V : Bx) : Prop := (∀ i, Hs 8589934592 (P.at i) (exP (p i) (v i) (g i) m) ∧ Hs 8589934592 (V.at i) (exV (v i) (g i) m)) ∧ ∀ i, S64 (P.at i) ∧ S64 (V.at i)
theorem step_par {g : Bx} {t u : Int} {s : State} {h : Int} (hok : PlOk (freeP g)) (gs : Nat → Int) (hgs : ∀ i, Hs 1 (g.at i) (gs i)) (p v : Nat → Int) (m k : Int) (hk : h = k * 268435456) (hp : OnPar p v gs m s.p s.v) (z : (stepFF (freeP g) (exA t u) [] s h).e = 0) :
    OnPar p v gs (m + k) (stepFF (freeP g) (exA t u) [] s h).s.p (stepFF (freeP g) (exA t u) [] s h).s.v ∧
    OnPar p v gs m (stepFF (freeP g) (exA t u) [] s h).t.p (stepFF (freeP g) (exA t u) [] s h).t.v ∧
    OnPar p v gs (m + k) (stepFF (freeP g) (exA t u) [] s h).t.p (stepFF (freeP g) (exA t u) [] s h).t.v := by
  obtain ⟨Q, V, K, H⟩ := hop_of (p := freeP g) (x := exA t u) hok ⟨by show (⟨0, 0⟩ : Sp).okB = true; decide, nwB_refl (by show Bx.okB ⟨⟨0, 0⟩, ⟨0, 0⟩, ⟨0, 0⟩⟩ = true; decide)⟩ z
  have key : ∀ i, _ := fun i => H.comp i
  have hall : ∀ i, (Hs 8589934592 ((stepFF (freeP g) (exA t u) [] s h).s.p.at i) (exP (p i) (v i) (gs i) (m + k)) ∧ Hs 8589934592 ((stepFF (freeP g) (exA t u) [] s h).s.v.at i) (exV (v i) (gs i) (m + k))) ∧
      (Hs 8589934592 ((stepFF (freeP g) (exA t u) [] s h).t.p.at i) (exP (p i) (v i) (gs i) m) ∧ Hs 8589934592 ((stepFF (freeP g) (exA t u) [] s h).t.v.at i) (exV (v i) (gs i) m)) ∧
      (Hs 8589934592 ((stepFF (freeP g) (exA t u) [] s h).t.p.at i) (exP (p i) (v i) (gs i) (m + k)) ∧ Hs 8589934592 ((stepFF (freeP g) (exA t u) [] s h).t.v.at i) (exV (v i) (gs i) (m + k))) := fun i => by
    have C := key i
    obtain ⟨h1, h2⟩ := hp.1 i
    have h3 := hgs i
    have ht : (0 ≤ h ∧ h ≤ h) ∨ (h ≤ h ∧ h ≤ 0) := by omega
    have a1 := C.nextP (by omega) (by omega) h1 h2 h3
    have a2 := C.nextV (by omega) (by omega) h2 h3
    have a3 := C.runP (t := h) (by omega) (by omega) ht h1 h2 h3
    have a4 := C.runV (t := h) (by omega) (by omega) ht h2 h3
    have a5 := C.start (by omega) h1
    have a6 := C.startV (by omega) h2
    generalize p i = pp at *
    generalize v i = vv at *
    generalize gs i = gg at *
    have e1 : exP pp vv gg (m + k) * 36893488147419103232 = exP pp vv gg m * (1 * 36893488147419103232) + h * exV vv gg m * (1 * 8589934592) + h * h * gg * 8589934592 := by
      subst hk
      unfold exP exV
      grind
    have e2 : exV vv gg (m + k) * 4294967296 = exV vv gg m * (1 * 4294967296) + h * gg * 8589934592 := by
      subst hk
      unfold exV
      grind
    have e3 : exP pp vv gg (m + k) * 36893488147419103232 = exP pp vv gg m * (1 * 36893488147419103232) + h * (exV vv gg m * (1 * 8589934592) + h * gg * 8589934592) := by
      rw [e1]
      grind
    rw [← e1] at a1
    rw [← e2] at a2
    rw [← e3] at a3
    rw [← e2] at a4
    exact ⟨⟨hs_down _ (by omega) a1, hs_down _ (by omega) a2⟩, ⟨a5, a6⟩, hs_down _ (by omega) a3, hs_down _ (by omega) a4⟩
  have sN : ∀ i, S64 ((stepFF (freeP g) (exA t u) [] s h).s.p.at i) ∧ S64 ((stepFF (freeP g) (exA t u) [] s h).s.v.at i) := fun i => by
    rw [(key i).np, (key i).nv]
    exact ⟨inferInstance, inferInstance⟩
  have sT : ∀ i, S64 ((stepFF (freeP g) (exA t u) [] s h).t.p.at i) ∧ S64 ((stepFF (freeP g) (exA t u) [] s h).t.v.at i) := fun i => by
    rw [(key i).rp.is, (key i).rv.is]
    exact ⟨inferInstance, inferInstance⟩
  exact ⟨⟨fun i => (hall i).1, sN⟩, ⟨fun i => (hall i).2.1, sT⟩, fun i => (hall i).2.2, sT⟩
theorem stVd_of {s : State} (h : s.okB = true) [k : St64 s] : StVd s := by
  have hp := k.p
  have hv := k.v
  have hm := k.m
  unfold State.okB Bx.okB at h
  simp only [Bool.and_eq_true, decide_eq_true_eq] at h
  obtain ⟨⟨⟨h1, ⟨⟨p1, p2⟩, p3⟩, ⟨v1, v2⟩, v3⟩, m1⟩, -⟩ := h
  have q : ∀ {a : Sp}, a.okB = true → S64 a → Vd a := fun h k => ⟨(okB_num h).1, (okB_num h).2.2, k.hi.2⟩
  refine ⟨⟨(numB_iff _).1 h1, k.t.2⟩, ⟨q p1 hp.x, q p2 hp.y, q p3 hp.z⟩, ⟨q v1 hv.x, q v2 hv.y, q v3 hv.z⟩, q m1 hm⟩
/-- Along an arc: errors of three, or all that is exact is there. -/
theorem along_par {g : Bx} (hg : VdB g) (hok : PlOk (freeP g)) {t u h k : Int} (hh : -9223372036854775807 ≤ h ∧ h ≤ 9223372036854775807) (hk : h = k * 268435456) (gs : Nat → Int) (hgs : ∀ i, Hs 1 (g.at i) (gs i)) (p v : Nat → Int) :
    ∀ (n : Nat) (s : State) (T : List Tube), s.okB = true → St64 s → OnPar p v gs (T.length * k) s.p s.v → (∀ j, j < T.length → OnPar p v gs (j * k) (T.getD j zTube).p (T.getD j zTube).v ∧ OnPar p v gs (j * k + k) (T.getD j zTube).p (T.getD j zTube).v) →
      Er4 (alongR (freeP g) (exA t u) [] s T (List.replicate n h)).e ∧ ((alongR (freeP g) (exA t u) [] s T (List.replicate n h)).e = 0 →
        ((alongR (freeP g) (exA t u) [] s T (List.replicate n h)).s.okB = true ∧ (alongR (freeP g) (exA t u) [] s T (List.replicate n h)).T.length = T.length + n ∧
        OnPar p v gs ((T.length + n : Nat) * k) (alongR (freeP g) (exA t u) [] s T (List.replicate n h)).s.p (alongR (freeP g) (exA t u) [] s T (List.replicate n h)).s.v ∧
        ∀ j, j < T.length + n → OnPar p v gs (j * k) ((alongR (freeP g) (exA t u) [] s T (List.replicate n h)).T.getD j zTube).p ((alongR (freeP g) (exA t u) [] s T (List.replicate n h)).T.getD j zTube).v ∧
          OnPar p v gs (j * k + k) ((alongR (freeP g) (exA t u) [] s T (List.replicate n h)).T.getD j zTube).p ((alongR (freeP g) (exA t u) [] s T (List.replicate n h)).T.getD j zTube).v))
  | 0, s, T, hs, _, h1, h2 => ⟨er4_0, fun _ => ⟨hs, rfl, h1, h2⟩⟩
  | n + 1, s, T, hs, h64, h1, h2 => by
    have e4 := er4_step hg t u (stVd_of hs) hh
    rw [List.replicate_succ, along_cons]
    split
    case isFalse z => exact ⟨e4, fun z2 => absurd z2 z⟩
    rename_i z
    obtain ⟨a1, a2, a3⟩ := step_par hok gs hgs p v _ k hk h1 z
    have st : St64 (stepFF (freeP g) (exA t u) [] s h).s := st64_ff _ _ _ _ _
    obtain ⟨Q, V, K, H⟩ := hop_of (p := freeP g) (x := exA t u) hok ⟨by show (⟨0, 0⟩ : Sp).okB = true; decide, nwB_refl (by show Bx.okB ⟨⟨0, 0⟩, ⟨0, 0⟩, ⟨0, 0⟩⟩ = true; decide)⟩ z
    have ok2 := H.okState
    generalize (stepFF (freeP g) (exA t u) [] s h).s = s2 at *
    generalize (stepFF (freeP g) (exA t u) [] s h).t = t2 at *
    have el : ((T ++ [t2]).length : Int) * k = T.length * k + k := by
      rw [List.length_append, List.length_singleton, Int.natCast_add, Int.add_mul]
      simp
    have ih := along_par (t := t) (u := u) hg hok hh hk gs hgs p v n s2 (T ++ [t2]) ok2 st (by rw [el]; exact a1) (fun j hj => by
      rw [List.length_append, List.length_singleton] at hj
      by_cases c : j < T.length
      · have e : (T ++ [t2]).getD j zTube = T.getD j zTube := by
          rw [List.getD_eq_getElem?_getD, List.getD_eq_getElem?_getD, List.getElem?_append_left c]
        rw [e]
        exact h2 j c
      · obtain rfl : j = T.length := by omega
        have e : (T ++ [t2]).getD T.length zTube = t2 := by
          rw [List.getD_eq_getElem?_getD, List.getElem?_append_right (Nat.le_refl _)]
          simp
        rw [e]
        exact ⟨a2, a3⟩)
    have el2 : (T ++ [t2]).length + n = T.length + (n + 1) := by simp; omega
    rw [el2] at ih
    exact ih
theorem exA_ok {t d : Int} (h1 : 1 ≤ t) (h2 : 1 ≤ d) : (exA t d).okB [] = true := by
  unfold Arc.okB
  simp only [Bool.and_eq_true, decide_eq_true_eq]
  exact ⟨⟨⟨⟨by rfl, by rfl⟩, h1⟩, h2⟩, by rfl⟩
theorem exA_lens {d : Int} (hd : 1 ≤ d) (n : Nat) : lensF (exA (n * d) d) = List.replicate n d ∧ lensB (exA (n * d) d) = List.replicate n (-d) := by
  have e1 : restA (exA (n * d) d) = 0 := by show ((n : Int) * d) % d = 0; exact Int.mul_emod_left _ _
  have e2 : fullA (exA (n * d) d) = n := by show (((n : Int) * d) / d).toNat = n; rw [Int.mul_ediv_cancel _ (by omega)]; rfl
  unfold lensF lensB
  rw [e1, e2]
  simp [exA]
theorem exA_code {d : Int} (hd : 1 ≤ d) {n : Nat} (h1 : 1 ≤ n) (h2 : n ≤ 16) : arcsCode [(exA (n * d) d, [])] = 0 := by
  have hnd : 1 ≤ (n : Int) * d := by
    have : 1 * 1 ≤ (n : Int) * d := Int.mul_le_mul (by omega) hd (by omega) (by omega)
    omega
  have hok := exA_ok hnd hd
  have hz : stepsZ (exA (n * d) d) = n := by
    rw [← lens_len _ false hnd hd]
    show ((lensF (exA (n * d) d)).length : Int) = n
    rw [(exA_lens hd n).1, List.length_replicate]
  have hc : stepsCode (exA (n * d) d) [] = 0 := by
    unfold stepsCode
    rw [if_pos hok, if_pos (by rw [hz]; omega)]
  unfold arcsCode
  rw [if_neg (by simp [badB, hok]), if_pos]
  simp only [fitB, Bool.and_eq_true, decide_eq_true_eq, hc, stepsNum, List.length_cons, List.length_nil]
  rw [if_pos trivial, hz]
  exact ⟨by omega, ⟨trivial, by omega⟩, trivial⟩
theorem exA_check {g : Bx} (hg : (freeP g).okB = true) {d : Int} (hd : 1 ≤ d) {n : Nat} (h1 : 1 ≤ n) (h2 : n ≤ 16) {s : State} (hs : s.okB = true) : checkE (freeP g) [(exA (n * d) d, [])] s = 0 := by
  unfold checkE
  rw [hg, hs, exA_code hd h1 h2]
  rfl
/-- FlightExact: forwards. -/
theorem exact_fly {g : Bx} (hg : VdB g) (hgok : (freeP g).okB = true) (gs : Nat → Int) (hgs : ∀ i, Hs 1 (g.at i) (gs i)) (p v : Nat → Int) {k : Int} (hk : 1 ≤ k) (hk2 : k ≤ 256) {n : Nat} (h1 : 1 ≤ n) (h2 : n ≤ 16) {s : State} (hs : s.okB = true) [h64 : St64 s] (hp : OnPar p v gs 0 s.p s.v) :
    Er4 (flyR (freeP g) [(exA (n * (k * 268435456)) (k * 268435456), [])] s).e ∧ ((flyR (freeP g) [(exA (n * (k * 268435456)) (k * 268435456), [])] s).e = 0 →
      ∃ st, (flyR (freeP g) [(exA (n * (k * 268435456)) (k * 268435456), [])] s).stops = [st] ∧ OnPar p v gs (n * k) st.p st.v ∧ (flyR (freeP g) [(exA (n * (k * 268435456)) (k * 268435456), [])] s).tubes.length = n ∧
        ∀ j, j < n → OnPar p v gs (j * k) ((flyR (freeP g) [(exA (n * (k * 268435456)) (k * 268435456), [])] s).tubes.getD j zTube).p ((flyR (freeP g) [(exA (n * (k * 268435456)) (k * 268435456), [])] s).tubes.getD j zTube).v ∧
          OnPar p v gs (j * k + k) ((flyR (freeP g) [(exA (n * (k * 268435456)) (k * 268435456), [])] s).tubes.getD j zTube).p ((flyR (freeP g) [(exA (n * (k * 268435456)) (k * 268435456), [])] s).tubes.getD j zTube).v) := by
  have hd : 1 ≤ k * 268435456 := by omega
  have ha := along_par (t := n * (k * 268435456)) (u := k * 268435456) hg (PlOk.of hgok) (h := k * 268435456) (by omega) rfl gs hgs p v n s [] hs h64 (by simpa using hp) (fun j hj => by simp at hj)
  unfold flyR
  rw [if_pos (exA_check hgok hd h1 h2 hs)]
  show Er4 (flyGo _ _ _ _ [_]).e ∧ ((flyGo _ _ _ _ [_]).e = 0 → _)
  unfold flyGo
  simp only [(exA_lens hd n).1]
  generalize alongR (freeP g) (exA (n * (k * 268435456)) (k * 268435456)) [] s [] (List.replicate n (k * 268435456)) = A at *
  obtain ⟨e4, hA⟩ := ha
  split
  case isFalse z => exact ⟨e4, fun z2 => absurd z2 z⟩
  rename_i z
  obtain ⟨o1, o2, o3, o4⟩ := hA z
  simp only [List.length_nil, Nat.zero_add] at o2 o3 o4
  split
  case isFalse z2 =>
    refine ⟨?_, fun z3 => absurd z3 z2⟩
    show Er4 (dropR A.s.m (exA (n * (k * 268435456)) (k * 268435456))).e
    unfold dropR
    split
    · exact er4_4
    · have hm : A.s.m.okB = true := by
        unfold State.okB at o1
        simp only [Bool.and_eq_true] at o1
        exact o1.1.2
      have hi : Er4 (subR A.s.m ⟨0, 0⟩).e := by
        unfold subR addR
        rw [hm, show (⟨0, 0⟩ : Sp).okB = true by decide, show (negS ⟨0, 0⟩).okB = true by decide, if_pos rfl, if_pos (by rfl)]
        exact (gd_fit (by show A.s.m.lo + -0 ≤ A.s.m.hi + -0; have := ok_le hm; omega)).e
      exact hi
  exact ⟨er4_0, fun _ => ⟨_, rfl, o3, o2, o4⟩⟩
theorem exact_back {g : Bx} (hg : VdB g) (hgok : (freeP g).okB = true) (gs : Nat → Int) (hgs : ∀ i, Hs 1 (g.at i) (gs i)) (p v : Nat → Int) {k : Int} (hk : 1 ≤ k) (hk2 : k ≤ 256) {n : Nat} (h1 : 1 ≤ n) (h2 : n ≤ 16) {s : State} (hs : s.okB = true) [h64 : St64 s] (hp : OnPar p v gs 0 s.p s.v) :
    Er4 (backR (freeP g) [(exA (n * (k * 268435456)) (k * 268435456), [])] s).e ∧ ((backR (freeP g) [(exA (n * (k * 268435456)) (k * 268435456), [])] s).e = 0 →
      ∃ st, (backR (freeP g) [(exA (n * (k * 268435456)) (k * 268435456), [])] s).stops = [st] ∧ OnPar p v gs (-(n * k)) st.p st.v) := by
  have hd : 1 ≤ k * 268435456 := by omega
  have e0 : addR s.m (exA (n * (k * 268435456)) (k * 268435456)).drop = ⟨s.m, 0⟩ := by
    have q := stVd_of hs
    show addR s.m ⟨0, 0⟩ = _
    unfold addR
    rw [q.m.ok, show (⟨0, 0⟩ : Sp).okB = true by decide, if_pos (by rfl)]
    have := q.m
    unfold Vd at this
    unfold fitR isNum
    rw [if_pos (by simp only [Bool.and_eq_true, decide_eq_true_eq]; omega)]
    simp
  have e1 : s.mass s.m = s := rfl
  have ha := along_par (t := n * (k * 268435456)) (u := k * 268435456) hg (PlOk.of hgok) (h := -(k * 268435456)) (k := -k) (by omega) (by omega) gs hgs p v n s [] hs h64 (by simpa using hp) (fun j hj => by simp at hj)
  unfold backR
  rw [if_pos (exA_check hgok hd h1 h2 hs), List.reverse_singleton]
  unfold backGo
  simp only [(exA_lens hd n).2, e0, e1]
  generalize alongR (freeP g) (exA (n * (k * 268435456)) (k * 268435456)) [] s [] (List.replicate n (-(k * 268435456))) = A at *
  obtain ⟨e4, hA⟩ := ha
  rw [if_pos trivial]
  split
  case isFalse z => exact ⟨e4, fun z2 => absurd z2 z⟩
  rename_i z
  obtain ⟨o1, o2, o3, o4⟩ := hA z
  simp only [List.length_nil, Nat.zero_add] at o3
  refine ⟨er4_0, fun _ => ⟨_, rfl, ?_⟩⟩
  rw [show -((n : Int) * k) = (n : Int) * -k by rw [Int.mul_neg]]
  exact o3
end Go.Proofs.YtkeifgcncmilmaaGreat
namespace Go.Proofs.YtkeifgcncmilmaaGreat
open Go.RowKit
set_option maxRecDepth 100000
set_option maxHeartbeats 4000000
theorem wUp1_any (x : Int) (hx : -85070591730234615865843651857942052864 ≤ x ∧ x ≤ 85070591730234615865843651857942052863) (w : World) : Calls Tryz.prog 49 #[.agg #[.int .i64 (mkW x).h, .int .u64 (mkW x).l], .int .i64 1] w fun e w' => e = .returned (.agg #[.int .i64 (mkW (x * 2)).h, .int .u64 (mkW (x * 2)).l]) ∧ Grew w w' := by
  obtain ⟨x1, x2, x3⟩ := mkW_parts x (by unfold R128; omega)
  have Hx := Lib.hid x3
  clear x3
  generalize (mkW x).h = xh at *
  generalize (mkW x).l = xl at *
  unfold I64 at x1
  unfold U64 at x2
  go_enter Tryz.func49, Tryz.ntmps49
  go_wp2
  go_region
  go_wp2
  refine bodyPost_ret (by (simp [results, Tryz.results49, go_sem] <;> rfl)) rfl ?_
  refine ⟨ret_w (mkW_of ?_ ?_), gw⟩
  all_goals
    have h1 := Hx.out
    simp only [IntKind.wrap_u64]
    try unfold U64
    try unfold wrap64
    omega
theorem wUp24_any (x : Int) (hx : -10141204801825835211973625643008 ≤ x ∧ x ≤ 10141204801825835211973625643007) (w : World) : Calls Tryz.prog 49 #[.agg #[.int .i64 (mkW x).h, .int .u64 (mkW x).l], .int .i64 24] w fun e w' => e = .returned (.agg #[.int .i64 (mkW (x * 16777216)).h, .int .u64 (mkW (x * 16777216)).l]) ∧ Grew w w' := by
  obtain ⟨x1, x2, x3⟩ := mkW_parts x (by unfold R128; omega)
  have Hx := Lib.hid x3
  clear x3
  generalize (mkW x).h = xh at *
  generalize (mkW x).l = xl at *
  unfold I64 at x1
  unfold U64 at x2
  go_enter Tryz.func49, Tryz.ntmps49
  go_wp2
  go_region
  go_wp2
  refine bodyPost_ret (by (simp [results, Tryz.results49, go_sem] <;> rfl)) rfl ?_
  refine ⟨ret_w (mkW_of ?_ ?_), gw⟩
  all_goals
    have h1 := Hx.out
    simp only [IntKind.wrap_u64]
    try unfold U64
    try unfold wrap64
    omega
theorem wUp33_any (x : Int) (hx : -19807040628566084398385987584 ≤ x ∧ x ≤ 19807040628566084398385987583) (w : World) : Calls Tryz.prog 49 #[.agg #[.int .i64 (mkW x).h, .int .u64 (mkW x).l], .int .i64 33] w fun e w' => e = .returned (.agg #[.int .i64 (mkW (x * 8589934592)).h, .int .u64 (mkW (x * 8589934592)).l]) ∧ Grew w w' := by
  obtain ⟨x1, x2, x3⟩ := mkW_parts x (by unfold R128; omega)
  have Hx := Lib.hid x3
  clear x3
  generalize (mkW x).h = xh at *
  generalize (mkW x).l = xl at *
  unfold I64 at x1
  unfold U64 at x2
  go_enter Tryz.func49, Tryz.ntmps49
  go_wp2
  go_region
  go_wp2
  refine bodyPost_ret (by (simp [results, Tryz.results49, go_sem] <;> rfl)) rfl ?_
  refine ⟨ret_w (mkW_of ?_ ?_), gw⟩
  all_goals
    have h1 := Hx.out
    simp only [IntKind.wrap_u64]
    try unfold U64
    try unfold wrap64
    omega
end Go.Proofs.YtkeifgcncmilmaaGreat
namespace Go.Proofs.YtkeifgcncmilmaaGreat
open Go.RowKit Go.Shelf
set_option maxRecDepth 100000
set_option maxHeartbeats 16000000
set_option linter.unusedSimpArgs false
theorem l3Held_any (a : Sp) (x : Int) [ha : S64 a] (hx : R128 x) (h : Hs 8589934592 a x) (w : World) : Calls Tryz.prog 52 #[.agg #[.int .i64 a.lo, .int .i64 a.hi], .agg #[.int .i64 (mkW x).h, .int .u64 (mkW x).l]] w fun e w' => e = .returned (.bool true) ∧ Grew w w' := by
  obtain ⟨h1, h2⟩ := h
  have hl := ha.lo
  have hh := ha.hi
  unfold I64 at hl hh
  have P1 := Lib.hid (fun w => is_bool (show decide (x < a.lo * 8589934592) = false by simp; omega) (wLess_any x (a.lo * 8589934592) hx (by unfold R128; omega) w))
  have P2 := Lib.hid (fun w => is_bool (show decide (a.hi * 8589934592 < x) = false by simp; omega) (wLess_any (a.hi * 8589934592) x (by unfold R128; omega) hx w))
  have U1 := Lib.hid (fun w => wUp33_any a.lo (by omega) w)
  have U2 := Lib.hid (fun w => wUp33_any a.hi (by omega) w)
  clear h1 h2 hl hh hx
  generalize a.lo * 8589934592 = y1 at *
  generalize a.hi * 8589934592 = y2 at *
  go_enter Tryz.func52, Tryz.ntmps52
  go_wp2_with (first | (go_at_call 50; (with_reducible refine call_later (wOf_any _ ha.lo _) ?_); intro u) | (go_at_call 50; (with_reducible refine call_later (wOf_any _ ha.hi _) ?_); intro u) | (go_at_call 49; (with_reducible refine call_later (U1.out _) ?_); intro u) | (go_at_call 49; (with_reducible refine call_later (U2.out _) ?_); intro u) | (go_at_call 93; (with_reducible refine call_later (P1.out _) ?_); intro u) | (go_at_call 93; (with_reducible refine call_later (P2.out _) ?_); intro u) | ((with_reducible refine wp_region_later ?_ ?_ ?_); (· kernel_rfl); (· kernel_rfl); (try simp only [List.append_eq, List.cons_append, List.nil_append]); (repeat (go_big_quiet_step ((first | (go_at_call 50; (with_reducible exact call_quiet (wOf_any _ ha.lo _))) | (go_at_call 50; (with_reducible exact call_quiet (wOf_any _ ha.hi _))) | (go_at_call 49; (with_reducible exact call_quiet (U1.out _))) | (go_at_call 49; (with_reducible exact call_quiet (U2.out _))) | (go_at_call 93; (with_reducible exact call_quiet (P1.out _))) | (go_at_call 93; (with_reducible exact call_quiet (P2.out _))))))); refine wpQuiet_nil ?_; rintro _ ⟨u, rfl⟩))
  go_ret
  exact ⟨rfl, gw⟩
theorem mul_bd2 {a b A B : Int} (h1 : -A ≤ a ∧ a ≤ A) (h2 : -B ≤ b ∧ b ≤ B) : -(A * B) ≤ a * b ∧ a * b ≤ A * B := by
  have hA : 0 ≤ A := by omega
  have hB : 0 ≤ B := by omega
  have k1 : 0 ≤ (A - a) * (B + b) := Int.mul_nonneg (by omega) (by omega)
  have k2 : 0 ≤ (A + a) * (B - b) := Int.mul_nonneg (by omega) (by omega)
  have k3 : 0 ≤ (A - a) * (B - b) := Int.mul_nonneg (by omega) (by omega)
  have k4 : 0 ≤ (A + a) * (B + b) := Int.mul_nonneg (by omega) (by omega)
  rw [Int.sub_mul, Int.mul_add, Int.mul_add] at k1
  rw [Int.add_mul, Int.mul_sub, Int.mul_sub] at k2
  rw [Int.sub_mul, Int.mul_sub, Int.mul_sub] at k3
  rw [Int.add_mul, Int.mul_add, Int.mul_add] at k4
  omega
theorem l3Parab_any (s : State) (i : Nat) (hi : i < 3) (p v g m t : Int) (hsp : S64 (s.p.at i)) (hsv : S64 (s.v.at i)) (hp : -2199023255552 ≤ p ∧ p ≤ 2199023255552) (hv : -34359738368 ≤ v ∧ v ≤ 34359738368) (hg : -34359738368 ≤ g ∧ g ≤ 34359738368) (hm : -4096 ≤ m ∧ m ≤ 4096) (ht : t = m * 268435456)
    (h1 : Hs 8589934592 (s.p.at i) (exP p v g m)) (h2 : Hs 8589934592 (s.v.at i) (exV v g m)) (w : World) :
    Calls Tryz.prog 25 #[.agg #[.int .i64 s.t, .int .i64 s.p.x.lo, .int .i64 s.p.x.hi, .int .i64 s.p.y.lo, .int .i64 s.p.y.hi, .int .i64 s.p.z.lo, .int .i64 s.p.z.hi, .int .i64 s.v.x.lo, .int .i64 s.v.x.hi, .int .i64 s.v.y.lo, .int .i64 s.v.y.hi, .int .i64 s.v.z.lo, .int .i64 s.v.z.hi, .int .i64 s.m.lo, .int .i64 s.m.hi], .int .i64 i, .int .i64 p, .int .i64 v, .int .i64 g, .int .i64 t] w fun e w' => e = .returned (.bool true) ∧ Grew w w' := by
  have b1 : -(34359738368 * 1099511627776) ≤ v * t ∧ v * t ≤ 34359738368 * 1099511627776 := mul_bd2 hv (by omega)
  have b2 : -(34359738368 * 4096) ≤ g * m ∧ g * m ≤ 34359738368 * 4096 := mul_bd2 hg hm
  have b3 : -(34359738368 * 4096 * 4096) ≤ g * m * m ∧ g * m * m ≤ 34359738368 * 4096 * 4096 := mul_bd2 b2 hm
  have b4 : -(34359738368 * 1099511627776) ≤ g * t ∧ g * t ≤ 34359738368 * 1099511627776 := mul_bd2 hg (by omega)
  have hsh : t / 268435456 = m := by omega
  have e1 : exP p v g m = p * 8589934592 + v * t * 2 + g * m * m * 16777216 := by
    unfold exP
    have : v * t * 2 = v * m * 536870912 := by rw [ht]; grind
    omega
  have e2 : exV v g m = v * 8589934592 + g * t * 2 := by
    unfold exV
    have : g * t * 2 = g * m * 536870912 := by rw [ht]; grind
    omega
  rw [e1] at h1
  rw [e2] at h2
  obtain ⟨a2, q2⟩ : ∃ x, x = v * t := ⟨_, rfl⟩
  obtain ⟨a4, q4⟩ : ∃ x, x = g * t := ⟨_, rfl⟩
  obtain ⟨a7, q7⟩ : ∃ x, x = g * m := ⟨_, rfl⟩
  obtain ⟨a6, q6⟩ : ∃ x, x = a7 * m := ⟨_, rfl⟩
  obtain ⟨a1, q1⟩ : ∃ x, x = a2 * 2 := ⟨_, rfl⟩
  obtain ⟨a3, q3⟩ : ∃ x, x = a4 * 2 := ⟨_, rfl⟩
  obtain ⟨a5, q5⟩ : ∃ x, x = a6 * 16777216 := ⟨_, rfl⟩
  obtain ⟨a8, q8⟩ : ∃ x, x = p * 8589934592 := ⟨_, rfl⟩
  obtain ⟨a9, q9⟩ : ∃ x, x = v * 8589934592 := ⟨_, rfl⟩
  obtain ⟨aA, qA⟩ : ∃ x, x = a8 + a1 := ⟨_, rfl⟩
  obtain ⟨aB, qB⟩ : ∃ x, x = aA + a5 := ⟨_, rfl⟩
  obtain ⟨aC, qC⟩ : ∃ x, x = a9 + a3 := ⟨_, rfl⟩
  rw [← q7, ← q6, ← q5, ← q2, ← q1, ← q8, ← qA, ← qB] at h1
  rw [← q4, ← q3, ← q9, ← qC] at h2
  rw [← q2] at b1
  rw [← q7] at b2
  rw [← q7, ← q6] at b3
  rw [← q4] at b4
  have ip : I64 p := by unfold I64; omega
  have iv : I64 v := by unfold I64; omega
  have ig : I64 g := by unfold I64; omega
  have im : I64 m := by unfold I64; omega
  have it : I64 t := by unfold I64; omega
  have igm : I64 a7 := by unfold I64; omega
  have F1 := Lib.hid (fun w => wOf_any p ip w)
  have F2 := Lib.hid (fun w => show Calls Tryz.prog 49 #[.agg #[.int .i64 (mkW p).h, .int .u64 (mkW p).l], .int .i64 33] w fun e w' => e = .returned (.agg #[.int .i64 (mkW a8).h, .int .u64 (mkW a8).l]) ∧ Grew w w' from by rw [q8]; exact wUp33_any p (by omega) w)
  have F3 := Lib.hid (fun w => show Calls Tryz.prog 51 #[.int .i64 v, .int .i64 t] w fun e w' => e = .returned (.agg #[.int .i64 (mkW a2).h, .int .u64 (mkW a2).l]) ∧ Grew w w' from by rw [q2]; exact wTimes_any v t iv it w)
  have F4 := Lib.hid (fun w => show Calls Tryz.prog 49 #[.agg #[.int .i64 (mkW a2).h, .int .u64 (mkW a2).l], .int .i64 1] w fun e w' => e = .returned (.agg #[.int .i64 (mkW a1).h, .int .u64 (mkW a1).l]) ∧ Grew w w' from by rw [q1]; exact wUp1_any a2 (by omega) w)
  have F5 := Lib.hid (fun w => show Calls Tryz.prog 48 #[.agg #[.int .i64 (mkW a8).h, .int .u64 (mkW a8).l], .agg #[.int .i64 (mkW a1).h, .int .u64 (mkW a1).l]] w fun e w' => e = .returned (.agg #[.int .i64 (mkW aA).h, .int .u64 (mkW aA).l]) ∧ Grew w w' from by rw [qA]; exact wPlus_any a8 a1 (by unfold R128; omega) (by unfold R128; omega) (by unfold R128; omega) w)
  have F6 := Lib.hid (fun w => show Calls Tryz.prog 51 #[.int .i64 g, .int .i64 m] w fun e w' => e = .returned (.agg #[.int .i64 (mkW a7).h, .int .u64 (mkW a7).l]) ∧ Grew w w' from by rw [q7]; exact wTimes_any g m ig im w)
  have F7 := Lib.hid (fun w => show Calls Tryz.prog 51 #[.int .i64 a7, .int .i64 m] w fun e w' => e = .returned (.agg #[.int .i64 (mkW a6).h, .int .u64 (mkW a6).l]) ∧ Grew w w' from by rw [q6]; exact wTimes_any a7 m igm im w)
  have F8 := Lib.hid (fun w => show Calls Tryz.prog 49 #[.agg #[.int .i64 (mkW a6).h, .int .u64 (mkW a6).l], .int .i64 24] w fun e w' => e = .returned (.agg #[.int .i64 (mkW a5).h, .int .u64 (mkW a5).l]) ∧ Grew w w' from by rw [q5]; exact wUp24_any a6 (by omega) w)
  have F9 := Lib.hid (fun w => show Calls Tryz.prog 48 #[.agg #[.int .i64 (mkW aA).h, .int .u64 (mkW aA).l], .agg #[.int .i64 (mkW a5).h, .int .u64 (mkW a5).l]] w fun e w' => e = .returned (.agg #[.int .i64 (mkW aB).h, .int .u64 (mkW aB).l]) ∧ Grew w w' from by rw [qB]; exact wPlus_any aA a5 (by unfold R128; omega) (by unfold R128; omega) (by unfold R128; omega) w)
  have G1 := Lib.hid (fun w => wOf_any v iv w)
  have G2 := Lib.hid (fun w => show Calls Tryz.prog 49 #[.agg #[.int .i64 (mkW v).h, .int .u64 (mkW v).l], .int .i64 33] w fun e w' => e = .returned (.agg #[.int .i64 (mkW a9).h, .int .u64 (mkW a9).l]) ∧ Grew w w' from by rw [q9]; exact wUp33_any v (by omega) w)
  have G3 := Lib.hid (fun w => show Calls Tryz.prog 51 #[.int .i64 g, .int .i64 t] w fun e w' => e = .returned (.agg #[.int .i64 (mkW a4).h, .int .u64 (mkW a4).l]) ∧ Grew w w' from by rw [q4]; exact wTimes_any g t ig it w)
  have G4 := Lib.hid (fun w => show Calls Tryz.prog 49 #[.agg #[.int .i64 (mkW a4).h, .int .u64 (mkW a4).l], .int .i64 1] w fun e w' => e = .returned (.agg #[.int .i64 (mkW a3).h, .int .u64 (mkW a3).l]) ∧ Grew w w' from by rw [q3]; exact wUp1_any a4 (by omega) w)
  have G5 := Lib.hid (fun w => show Calls Tryz.prog 48 #[.agg #[.int .i64 (mkW a9).h, .int .u64 (mkW a9).l], .agg #[.int .i64 (mkW a3).h, .int .u64 (mkW a3).l]] w fun e w' => e = .returned (.agg #[.int .i64 (mkW aC).h, .int .u64 (mkW aC).l]) ∧ Grew w w' from by rw [qC]; exact wPlus_any a9 a3 (by unfold R128; omega) (by unfold R128; omega) (by unfold R128; omega) w)
  have hl : IntKind.i64.wrap (mkW a7).l = a7 := by
    unfold mkW
    simp only [IntKind.wrap, IntKind.bits, IntKind.signed]
    simp
    omega
  have R1 : R128 aB := by unfold R128; omega
  have R2 : R128 aC := by unfold R128; omega
  have Kp := Lib.hid (fun w => l3Held_any (s.p.at i) aB R1 h1 w)
  have Kv := Lib.hid (fun w => l3Held_any (s.v.at i) aC R2 h2 w)
  clear h1 h2 e1 e2 R1 R2 ip iv ig im it igm b1 b2 b3 b4 q1 q2 q3 q4 q5 q6 q7 q8 q9 qA qB qC ht hp hv hg hm
  rcases (by omega : i = 0 ∨ i = 1 ∨ i = 2) with rfl | rfl | rfl
  all_goals
    simp only [Bx.at] at Kp Kv
    go_enter Tryz.func25, Tryz.ntmps25
    go_upto_region 5 with (first | (go_at_call 50; (with_reducible refine call_later (F1.out _) ?_); intro u) | (go_at_call 50; (with_reducible refine call_later (G1.out _) ?_); intro u) | (go_at_call 49; (with_reducible refine call_later (F2.out _) ?_); intro u) | (go_at_call 49; (with_reducible refine call_later (F4.out _) ?_); intro u) | (go_at_call 51; (with_reducible refine call_later (F3.out _) ?_); intro u) | (go_at_call 51; (with_reducible refine call_later (F6.out _) ?_); intro u) | (go_at_call 51; (with_reducible refine call_later (F7.out _) ?_); intro u) | (go_at_call 48; (with_reducible refine call_later (F5.out _) ?_); intro u))
    refine wp_region_grown 4 [] [2, 3] [] (fun W0 => []) [.agg #[.int .i64 (mkW a5).h, .int .u64 (mkW a5).l], .agg #[.int .i64 (mkW aB).h, .int .u64 (mkW aB).l]] [4] (by rfl) (fun _ x hx => absurd hx (List.not_mem_nil)) (by kernel_rfl) (by kernel_rfl) (by kernel_rfl) ?_
    intro p
    apply Exists.intro
    apply And.intro
    iterate 2 (apply lexg_pure (by kernel_rfl); (· intro u; unfold opPure; go_simp; rfl))
    apply lexg_call 0 (by kernel_rfl) (by rfl) (by decide)
    · intro u hF; clear hF; unfold opCall; go_simp; exact F8.out _
    apply lexg_call 1 (by kernel_rfl) (by rfl) (by decide)
    · intro u hF; clear hF; unfold opCall; go_simp; exact F9.out _
    apply lexg_end
    rotate_left
    · rfl
    intro u hR hD
    clear hR hD
    refine tail_store (by rfl) ?_; unfold opStore; go_simp
    refine tail_end ?_
    go_wp2_with (first | (go_at_call 50; (with_reducible refine call_later (G1.out _) ?_); intro u) | (go_at_call 49; (with_reducible refine call_later (G2.out _) ?_); intro u) | (go_at_call 51; (with_reducible refine call_later (G3.out _) ?_); intro u) | (go_at_call 49; (with_reducible refine call_later (G4.out _) ?_); intro u) | (go_at_call 48; (with_reducible refine call_later (G5.out _) ?_); intro u) | (go_at_call 52; (with_reducible refine call_later (Kp.out _) ?_); intro u) | (go_at_call 52; (with_reducible refine call_later (Kv.out _) ?_); intro u) | ((with_reducible refine wp_region_later ?_ ?_ ?_); (· kernel_rfl); (· kernel_rfl); (try simp only [List.append_eq, List.cons_append, List.nil_append]); (repeat (go_big_quiet_step ((first | (go_at_call 50; (with_reducible exact call_quiet (G1.out _))) | (go_at_call 49; (with_reducible exact call_quiet (G2.out _))) | (go_at_call 51; (with_reducible exact call_quiet (G3.out _))) | (go_at_call 49; (with_reducible exact call_quiet (G4.out _))) | (go_at_call 48; (with_reducible exact call_quiet (G5.out _))) | (go_at_call 52; (with_reducible exact call_quiet (Kp.out _))) | (go_at_call 52; (with_reducible exact call_quiet (Kv.out _))))))); refine wpQuiet_nil ?_; rintro _ ⟨u, rfl⟩))
    go_ret
    exact ⟨rfl, gw⟩
end Go.Proofs.YtkeifgcncmilmaaGreat
namespace Go.Proofs.YtkeifgcncmilmaaGreat
open Go.RowKit Go.Shelf
set_option maxRecDepth 100000
set_option maxHeartbeats 16000000
set_option linter.unusedSimpArgs false
theorem tube_elem {w : World} {v : Value} {T : List Tube} (h : SlAt w v T.length (T.flatMap Tube.cells)) : ∃ ao cap, v = .slice ao T.length cap ∧ T.length ≤ 9223372036854775807 ∧ ∀ k (hk : k < T.length), ∃ b o, ao = some ⟨b, o, none⟩ ∧ b < w.heap.size ∧ RangeIs w b (o + k * 16) 16 (T[k]'hk).cells := by
  obtain ⟨ao, cap, rfl, hm, hc⟩ := h
  unfold maxLen at hm
  refine ⟨ao, cap, rfl, by omega, fun k hk => ?_⟩
  obtain ⟨b, o, e, hb, -, h2⟩ := SlAt.elem (f := Tube.cells) (c := 16) (fun _ => rfl) (by omega) hc k hk
  exact ⟨b, o, e, hb, ⟨fun j u hu => h2 j u hu, rfl⟩⟩
theorem state_elem {w : World} {v : Value} {S : List State} (h : SlAt w v S.length (S.flatMap State.cells)) : ∃ ao cap, v = .slice ao S.length cap ∧ S.length ≤ 9223372036854775807 ∧ ∀ k (hk : k < S.length), ∃ b o, ao = some ⟨b, o, none⟩ ∧ b < w.heap.size ∧ RangeIs w b (o + k * 15) 15 (S[k]'hk).cells := by
  obtain ⟨ao, cap, rfl, hm, hc⟩ := h
  unfold maxLen at hm
  refine ⟨ao, cap, rfl, by omega, fun k hk => ?_⟩
  obtain ⟨b, o, e, hb, -, h2⟩ := SlAt.elem (f := State.cells) (c := 15) (fun _ => rfl) (by omega) hc k hk
  exact ⟨b, o, e, hb, ⟨fun j u hu => h2 j u hu, rfl⟩⟩
/-- A yes or a no. -/
def AnyB (e : Ending) : Prop := ∃ b, e = .returned (.bool b)
theorem r3Long_any (most : Int) (L : Arcs) (v : Value) (w : World) (hd : ArcsAt w v L) : Calls Tryz.prog 12 #[v, .int .i64 most] w (fun e w' => AnyB e ∧ Grew w w') := by
  have Hdr := Lib.hid hd.2
  obtain ⟨ao, cap, rfl, hm, hel⟩ := arc_elem hd
  have Hel := Lib.hid hel
  clear hd hel
  go_enter Tryz.func12, Tryz.ntmps12
  go_wp2
  go_loopw [5, 6] (fun q t wr => ∃ (k : Nat) (sm : Int), t = .int .i64 k ∧ q = .int .i64 sm ∧ k ≤ L.length ∧ Grew w wr) (fun _ t _ => L.length - (intOf t).toNat)
  case atStart => exact ⟨0, 0, rfl, rfl, by omega, gw⟩
  case round =>
    obtain ⟨k, sm, rfl, rfl, hk, hg⟩ := hrel
    obtain ⟨z, rfl⟩ := later_of hg
    clear hg
    by_cases hlt : k < L.length ∧ k ≤ 32
    · obtain ⟨hlt, h32⟩ := hlt
      obtain ⟨b, o, rfl, hb, hr⟩ := Hel.out k hlt
      obtain ⟨hdr, ht, hst⟩ := Hdr.out _ (List.getElem_mem hlt)
      have HA := Lib.hid (fun w' (g : Grew w w') => show Calls Tryz.prog 34 #[.agg L[k].1.cells.toArray] w' _ from r3Steps_any L[k].1 L[k].2 w' (hdr.grew g) ht hst)
      have ib : BlockIn w b := ⟨hb⟩
      have rz := hr.grew z.grew
      have hd12 := hr.is 12 _ rfl
      clear Hel Hdr hdr hr ht hst
      generalize stepsNum L[k].1 L[k].2 = sn at *
      generalize stepsCode L[k].1 L[k].2 = sc at *
      generalize L[k].1 = x at *
      by_cases h11 : sc = 0
      · have h11' : (sc == 0) = true := by simp [h11]
        clear h11
        by_cases h8 : 8 < x.drag.n
        · have h8' : (8 : Int) < x.drag.n := by omega
          go_wp2_with (first | (go_at_call 34; (with_reducible refine call_later (HA.out _ ?_) ?_); (· exact gwr); intro u) | ((with_reducible refine wpList_load_rng ?_ ?_ ?_ ?_ ?_ ?_ ?_ ?_ ?_ ?_ ?_ ?_); rotate_left 6; (· rfl); (· rfl); (· rfl); (· infer_instance); (· infer_instance)) | ((with_reducible refine wpList_load_is ?_ ?_ ?_ ?_ ?_ ?_ ?_ ?_ ?_ ?_ ?_ ?_ ?_); rotate_left 6; (· rfl); (· rfl); (· rfl); (· infer_instance); (· infer_instance); (· rfl)) | ((with_reducible refine wpList_store_fresh ?_ ?_ ?_ ?_ ?_ ?_ ?_ ?_ ?_ ?_ ?_ ?_ ?_ ?_ ?_ ?_ ?_); rotate_left 5; (· rfl); (· rfl); (· rfl); (· rfl); (· rfl); (· infer_instance); (· infer_instance); (· infer_instance); (· infer_instance)) | ((with_reducible refine wpList_store_is ?_ ?_ ?_ ?_ ?_ ?_ ?_ ?_ ?_ ?_ ?_ ?_ ?_ ?_ ?_ ?_ ?_); rotate_left 7; (· rfl); (· rfl); (· rfl); (· rfl); (· rfl); (· infer_instance); (· infer_instance); (· infer_instance); (· infer_instance)))
          go_ret
          exact ⟨⟨_, rfl⟩, gwr⟩
        · have h8' : ¬ ((8 : Int) < x.drag.n) := by omega
          go_wp2_with (first | (go_at_call 34; (with_reducible refine call_later (HA.out _ ?_) ?_); (· exact gwr); intro u) | ((with_reducible refine wpList_load_rng ?_ ?_ ?_ ?_ ?_ ?_ ?_ ?_ ?_ ?_ ?_ ?_); rotate_left 6; (· rfl); (· rfl); (· rfl); (· infer_instance); (· infer_instance)) | ((with_reducible refine wpList_load_is ?_ ?_ ?_ ?_ ?_ ?_ ?_ ?_ ?_ ?_ ?_ ?_ ?_); rotate_left 6; (· rfl); (· rfl); (· rfl); (· infer_instance); (· infer_instance); (· rfl)) | ((with_reducible refine wpList_store_fresh ?_ ?_ ?_ ?_ ?_ ?_ ?_ ?_ ?_ ?_ ?_ ?_ ?_ ?_ ?_ ?_ ?_); rotate_left 5; (· rfl); (· rfl); (· rfl); (· rfl); (· rfl); (· infer_instance); (· infer_instance); (· infer_instance); (· infer_instance)) | ((with_reducible refine wpList_store_is ?_ ?_ ?_ ?_ ?_ ?_ ?_ ?_ ?_ ?_ ?_ ?_ ?_ ?_ ?_ ?_ ?_); rotate_left 7; (· rfl); (· rfl); (· rfl); (· rfl); (· rfl); (· infer_instance); (· infer_instance); (· infer_instance); (· infer_instance)))
          go_roundw
          case rel => exact ⟨k + 1, _, by go_num, rfl, by omega, gwr⟩
          case measure => simp [intOf]; omega
      · have h11' : (sc == 0) = false := by simp [h11]
        clear h11
        by_cases h8 : 8 < x.drag.n
        · have h8' : (8 : Int) < x.drag.n := by omega
          go_wp2_with (first | (go_at_call 34; (with_reducible refine call_later (HA.out _ ?_) ?_); (· exact gwr); intro u) | ((with_reducible refine wpList_load_rng ?_ ?_ ?_ ?_ ?_ ?_ ?_ ?_ ?_ ?_ ?_ ?_); rotate_left 6; (· rfl); (· rfl); (· rfl); (· infer_instance); (· infer_instance)) | ((with_reducible refine wpList_load_is ?_ ?_ ?_ ?_ ?_ ?_ ?_ ?_ ?_ ?_ ?_ ?_ ?_); rotate_left 6; (· rfl); (· rfl); (· rfl); (· infer_instance); (· infer_instance); (· rfl)) | ((with_reducible refine wpList_store_fresh ?_ ?_ ?_ ?_ ?_ ?_ ?_ ?_ ?_ ?_ ?_ ?_ ?_ ?_ ?_ ?_ ?_); rotate_left 5; (· rfl); (· rfl); (· rfl); (· rfl); (· rfl); (· infer_instance); (· infer_instance); (· infer_instance); (· infer_instance)) | ((with_reducible refine wpList_store_is ?_ ?_ ?_ ?_ ?_ ?_ ?_ ?_ ?_ ?_ ?_ ?_ ?_ ?_ ?_ ?_ ?_); rotate_left 7; (· rfl); (· rfl); (· rfl); (· rfl); (· rfl); (· infer_instance); (· infer_instance); (· infer_instance); (· infer_instance)))
          go_ret
          exact ⟨⟨_, rfl⟩, gwr⟩
        · have h8' : ¬ ((8 : Int) < x.drag.n) := by omega
          go_wp2_with (first | (go_at_call 34; (with_reducible refine call_later (HA.out _ ?_) ?_); (· exact gwr); intro u) | ((with_reducible refine wpList_load_rng ?_ ?_ ?_ ?_ ?_ ?_ ?_ ?_ ?_ ?_ ?_ ?_); rotate_left 6; (· rfl); (· rfl); (· rfl); (· infer_instance); (· infer_instance)) | ((with_reducible refine wpList_load_is ?_ ?_ ?_ ?_ ?_ ?_ ?_ ?_ ?_ ?_ ?_ ?_ ?_); rotate_left 6; (· rfl); (· rfl); (· rfl); (· infer_instance); (· infer_instance); (· rfl)) | ((with_reducible refine wpList_store_fresh ?_ ?_ ?_ ?_ ?_ ?_ ?_ ?_ ?_ ?_ ?_ ?_ ?_ ?_ ?_ ?_ ?_); rotate_left 5; (· rfl); (· rfl); (· rfl); (· rfl); (· rfl); (· infer_instance); (· infer_instance); (· infer_instance); (· infer_instance)) | ((with_reducible refine wpList_store_is ?_ ?_ ?_ ?_ ?_ ?_ ?_ ?_ ?_ ?_ ?_ ?_ ?_ ?_ ?_ ?_ ?_); rotate_left 7; (· rfl); (· rfl); (· rfl); (· rfl); (· rfl); (· infer_instance); (· infer_instance); (· infer_instance); (· infer_instance)))
          go_roundw
          case rel => exact ⟨k + 1, _, by go_num, rfl, by omega, gwr⟩
          case measure => simp [intOf]; omega
    · by_cases h1 : k < L.length
      · have h2 : ¬ ((k : Int) ≤ 32) := by omega
        clear Hel Hdr
        by_cases hq : most < sm
        · go_wp2
          go_ret
          exact ⟨⟨_, rfl⟩, gwr⟩
        · by_cases h34 : (34 : Int) < L.length
          all_goals
            go_wp2
            go_ret
            exact ⟨⟨_, rfl⟩, gwr⟩
      · clear Hel Hdr
        by_cases hq : most < sm
        · go_wp2
          go_ret
          exact ⟨⟨_, rfl⟩, gwr⟩
        · by_cases h34 : (34 : Int) < L.length
          all_goals
            go_wp2
            go_ret
            exact ⟨⟨_, rfl⟩, gwr⟩
end Go.Proofs.YtkeifgcncmilmaaGreat
namespace Go.Proofs.YtkeifgcncmilmaaGreat
open Go.RowKit Go.Shelf
set_option maxRecDepth 100000
set_option maxHeartbeats 16000000
set_option linter.unusedSimpArgs false
/-- The steps of arcs together. -/
def sumN : Arcs → Int
  | [] => 0
  | x :: r => stepsNum x.1 x.2 + sumN r
theorem sumN_nonneg (L : Arcs) : 0 ≤ sumN L := by
  induction L with
  | nil => exact Int.le_refl _
  | cons x r ih =>
    have := (stepsNum_bd x.1 x.2).1
    show 0 ≤ stepsNum x.1 x.2 + sumN r
    omega
theorem sumN_append (L M : Arcs) : sumN (L ++ M) = sumN L + sumN M := by
  induction L with
  | nil => simp [sumN]
  | cons x r ih =>
    show stepsNum x.1 x.2 + sumN (r ++ M) = stepsNum x.1 x.2 + sumN r + sumN M
    rw [ih]
    omega
theorem sumN_rev (L : Arcs) : sumN L.reverse = sumN L := by
  induction L with
  | nil => rfl
  | cons x r ih =>
    rw [List.reverse_cons, sumN_append, ih]
    show sumN r + (stepsNum x.1 x.2 + 0) = stepsNum x.1 x.2 + sumN r
    omega
theorem fit_sum {m : Int} : ∀ {L : Arcs} {s : Int}, s ≤ m → fitB m s L = true → s + sumN L ≤ m ∧ ∀ x ∈ L, stepsCode x.1 x.2 = 0
  | [], s, hs, _ => ⟨by show s + 0 ≤ m; omega, fun x hx => by cases hx⟩
  | x :: r, s, hs, h => by
    unfold fitB at h
    simp only [Bool.and_eq_true, decide_eq_true_eq] at h
    obtain ⟨k1, k2⟩ := fit_sum h.1.2 h.2
    refine ⟨by show s + (stepsNum x.1 x.2 + sumN r) ≤ m; omega, fun y hy => ?_⟩
    rcases List.mem_cons.1 hy with rfl | hy
    · exact h.1.1
    · exact k2 y hy
theorem wrapI (x : Int) (h1 : -9223372036854775808 ≤ x) (h2 : x ≤ 9223372036854775807) : IntKind.i64.wrap x = x := by simp [IntKind.wrap, IntKind.bits, IntKind.signed]; omega
theorem flBack_bad (p : Planet) (L : Arcs) (s : State) (v : Value) (w : World) (hd : ArcsAt w v L) (hc : checkE p L s ≠ 0) : Calls Tryz.prog 15 #[.agg p.cells.toArray, v, .agg s.cells.toArray] w (RetFl (backR p L s) w) := by
  have HC := Lib.hid (fun w' (g : Grew w w') => show Calls Tryz.prog 35 #[.agg p.cells.toArray, v, .agg s.cells.toArray] w' _ from flCheck_any p L s v w' (hd.grew g))
  have HR := Lib.hid (show backR p L s = flyErr (checkE p L s) by unfold backR; rw [if_neg hc])
  have te : (checkE p L s != 0) = true := by simp [hc]
  clear hd hc
  rw [HR.out]
  generalize checkE p L s = e at *
  clear HR
  go_enter Tryz.func15, Tryz.ntmps15
  go_wp2_with (first | (go_at_call 35; (with_reducible refine call_later (HC.out _ ?_) ?_); (· exact gwr); intro u) | ((with_reducible refine wpList_load_is ?_ ?_ ?_ ?_ ?_ ?_ ?_ ?_ ?_ ?_ ?_ ?_ ?_); rotate_left 6; (· rfl); (· rfl); (· rfl); (· infer_instance); (· infer_instance); (· rfl)))
  go_ret3
  exact RetFl.bad gwr
theorem flBack_run (p : Planet) (L : Arcs) (s : State) [hp : Pl64 p] [hs : St64 s] (hL : ArcsI L) (v : Value) (w : World) (hd : ArcsAt w v L) (hc : checkE p L s = 0) : Calls Tryz.prog 15 #[.agg p.cells.toArray, v, .agg s.cells.toArray] w (RetFl (backR p L s) w) := by
  have HC := Lib.hid (fun w' (g : Grew w w') => show Calls Tryz.prog 35 #[.agg p.cells.toArray, v, .agg s.cells.toArray] w' (fun e w2 => e = .returned (.int .i64 0) ∧ Grew w' w2) from is_int hc (flCheck_any p L s v w' (hd.grew g)))
  have HR := Lib.hid (show backR p L s = backGo p s [] [] L.reverse by unfold backR; rw [if_pos hc])
  obtain ⟨-, -, hl32, hfit, hoks⟩ := check_zero hc
  obtain ⟨hsum, hcodes⟩ := fit_sum (by omega) hfit
  have Hsum0 := Lib.hid (show ((([] : List Tube).length : Nat) : Int) + sumN (L.reverse.drop 0) ≤ 4096 by rw [List.drop_zero, sumN_rev]; simpa using hsum)
  have Hcodes := Lib.hid hcodes
  have Hoks := Lib.hid hoks
  have HL := Lib.hid hL
  have Hdr := Lib.hid hd.2
  obtain ⟨ao, cap, rfl, hm, hel⟩ := arc_elem hd
  have Hel := Lib.hid hel
  have wl : IntKind.i64.wrap ((L.length : Int) - 1) = L.length - 1 := wrapI _ (by omega) (by omega)
  clear hd hel hc hfit hoks hL hsum hcodes
  generalize backR p L s = R at *
  go_enter Tryz.func15, Tryz.ntmps15
  go_wp2_with (first | (go_at_call 35; (with_reducible refine call_later (HC.out _ ?_) ?_); (· exact gwr); intro u) | ((with_reducible refine wpList_load_is ?_ ?_ ?_ ?_ ?_ ?_ ?_ ?_ ?_ ?_ ?_ ?_ ?_); rotate_left 6; (· rfl); (· rfl); (· rfl); (· infer_instance); (· infer_instance); (· rfl)))
  go_loopw [6, 7, 8, 10] (fun v6 v7 v8 t wr => ∃ (k : Nat) (st : State) (S : List State) (T : List Tube), t = .int .i64 ((L.length : Int) - 1 - k) ∧ v8 = .int .i64 0 ∧ k ≤ L.length ∧ S.length = k ∧ wr.ownsRow (w.heap.size + 1 + 1) 28 15 v6 S.length (S.flatMap State.cells) ∧ wr.ownsRow w.heap.size 64 16 v7 T.length (T.flatMap Tube.cells) ∧ RowIs wr w.heap.size 43 p.cells ∧ RowIs wr (w.heap.size + 1) 28 st.cells ∧ Grew w wr ∧ St64 st ∧ Hid (R = backGo p st S T (L.reverse.drop k)) ∧ Hid ((T.length : Int) + sumN (L.reverse.drop k) ≤ 4096)) (fun _ _ _ t _ => (intOf t + 1).toNat)
  case atStart => exact ⟨0, s, [], [], by go_simp, rfl, by omega, rfl, World.ownsRow_nil _ _ _ _, World.ownsRow_nil _ _ _ _, inferInstance, inferInstance, gwr, hs, HR, Hsum0⟩
  case round =>
    obtain ⟨k, st, S, T, rfl, rfl, hk, hSk, hrow6, hrow7, r3, r5, hg, hst, Hgo, Hsum⟩ := hrel
    obtain ⟨z, rfl⟩ := later_of hg
    clear hg
    have i3 := r3.blockIn
    have i5 := r5.blockIn
    by_cases hlt : k < L.length
    · obtain ⟨i, hi⟩ : ∃ i : Nat, i + k + 1 = L.length := ⟨L.length - 1 - k, by omega⟩
      have hti : (L.length : Int) - 1 - k = i := by omega
      rw [hti]
      have hil : i < L.length := by omega
      have hrd : L.reverse.drop k = L[i] :: L.reverse.drop (k + 1) := by
        rw [List.drop_eq_getElem_cons (by simp; omega), List.getElem_reverse]
        congr 2
        omega
      obtain ⟨b, o, rfl, hb, hr⟩ := Hel.out i hil
      obtain ⟨hdr, ht, hst2⟩ := Hdr.out _ (List.getElem_mem hil)
      obtain ⟨hx1, hx2, hx3, hx4⟩ := HL.out _ (List.getElem_mem hil)
      have hok := Hoks.out _ (List.getElem_mem hil)
      have hcode := Hcodes.out _ (List.getElem_mem hil)
      obtain ⟨hp1, hp2⟩ := arc_pos hok
      have ib : BlockIn w b := ⟨hb⟩
      have rz := hr.grew z.grew
      have hs0 := Hsum.out
      rw [hrd] at hs0
      have hs1 : (T.length : Int) + (stepsNum L[i].1 L[i].2 + sumN (L.reverse.drop (k + 1))) ≤ 4096 := hs0
      have hn0 := sumN_nonneg (L.reverse.drop (k + 1))
      have hll := lens_num true hok hcode
      have hlen : T.length + (lensL L[i].1 true).length ≤ 8192 := by have := (stepsNum_bd L[i].1 L[i].2).1; omega
      have hgo := Hgo.out
      rw [hrd] at hgo
      have HM := Lib.hid (fun w' => spAdd_any st.m L[i].1.drop w')
      have HM64 : S64 (addR st.m L[i].1.drop).s := inferInstance
      have hgo2 : R = if (addR st.m L[i].1.drop).e = 0 then (if (alongR p L[i].1 L[i].2 (st.mass (addR st.m L[i].1.drop).s) T (lensL L[i].1 true)).e = 0 then backGo p (alongR p L[i].1 L[i].2 (st.mass (addR st.m L[i].1.drop).s) T (lensL L[i].1 true)).s (S ++ [(alongR p L[i].1 L[i].2 (st.mass (addR st.m L[i].1.drop).s) T (lensL L[i].1 true)).s]) (alongR p L[i].1 L[i].2 (st.mass (addR st.m L[i].1.drop).s) T (lensL L[i].1 true)).T (L.reverse.drop (k + 1)) else flyErr (alongR p L[i].1 L[i].2 (st.mass (addR st.m L[i].1.drop).s) T (lensL L[i].1 true)).e) else flyErr (addR st.m L[i].1.drop).e := hgo
      have Hgo2 := Lib.hid hgo2
      have Hs1 := Lib.hid hs1
      have Hll := Lib.hid hll
      clear Hel Hdr HL Hoks Hcodes Hsum hs0 hs1 Hgo hgo hgo2 hll
      have t5 : decide ((0 : Int) ≤ (i : Int)) = true := by simp
      go_upto_region 7 with (fail)
      go_cut [8] from 21 to 57 (fun q wx => q = .int .i64 (addR st.m L[i].1.drop).e ∧ RowIs wx w.heap.size 43 p.cells ∧ RowIs wx (w.heap.size + 1) 28 (st.mass (addR st.m L[i].1.drop).s).cells ∧ wx.ownsRow (w.heap.size + 1 + 1) 28 15 u6 S.length (S.flatMap State.cells) ∧ wx.ownsRow w.heap.size 64 16 u7 T.length (T.flatMap Tube.cells) ∧ Grew w wx)
      case first =>
        have c13 := cell_is r5 13 rfl
        have c14 := cell_is r5 14 rfl
        have e13 : z.world.cell? ⟨b, o + i * 15 + 13, none⟩ = some (.int .i64 L[i].1.drop.lo) := rz.is 13 _ rfl
        have e14 : z.world.cell? ⟨b, o + i * 15 + 14, none⟩ = some (.int .i64 L[i].1.drop.hi) := rz.is 14 _ rfl
        go_region_with (go_at_call 41; (with_reducible refine call_later (HM.out _) ?_); intro um)
        all_goals
          have gu : Grew z.world um.world := Grew.trans (by first | exact Grew.refl _ | exact (Grew.refl _).drew | exact (Grew.refl _).drew.drew) um.grew
          have hne5 : u6.ownBlock ≠ some (w.heap.size + 1) := fun e => by have := owns_base hrow6 _ e; omega
          have q6' := owns_setCell_far (owns_setCell_far (owns_grew hrow6 gu) (w.heap.size + 1) 13 (.int .i64 (addR st.m L[i].1.drop).s.lo) hne5) (w.heap.size + 1) 14 (.int .i64 (addR st.m L[i].1.drop).s.hi) hne5
          have hne7 : u7.ownBlock ≠ some (w.heap.size + 1) := (r5.not_row (by decide) hrow7).symm
          have q7' := owns_setCell_far (owns_setCell_far (owns_grew hrow7 gu) (w.heap.size + 1) 13 (.int .i64 (addR st.m L[i].1.drop).s.lo) hne7) (w.heap.size + 1) 14 (.int .i64 (addR st.m L[i].1.drop).s.hi) hne7
          go_wp2
          go_meet
          case rel => exact ⟨rfl, inferInstance, row_as inferInstance rfl, q6', q7', gwr⟩
      case rest =>
        clear i3 i5 r3 r5 hrow6 hrow7 rz
        obtain ⟨rfl, r3, r5, hrow6, hrow7, gY⟩ := hcut
        have hm64 : St64 (st.mass (addR st.m L[i].1.drop).s) := ⟨hst.t, hst.p, hst.v, HM64⟩
        have HA := Lib.hid (fun v W (g : Grew w W) ho => flAlong_any p L[i].1 L[i].2 (st.mass (addR st.m L[i].1.drop).s) true T hp1 hp2 ht hst2 w W g hdr v ho hlen)
        have hA64 : St64 (alongR p L[i].1 L[i].2 (st.mass (addR st.m L[i].1.drop).s) T (lensL L[i].1 true)).s := inferInstance
        have Hlen2 := Lib.hid (along_len p L[i].1 L[i].2 (st.mass (addR st.m L[i].1.drop).s) T (lensL L[i].1 true))
        obtain ⟨y, rfl⟩ := later_of gY
        clear gY
        have i3 := r3.blockIn
        have i5 := r5.blockIn
        clear hx1 hx2 hx3 hx4 hok hp1 hp2 ht hst2 hdr hlen
        generalize alongR p L[i].1 L[i].2 (st.mass (addR st.m L[i].1.drop).s) T (lensL L[i].1 true) = A at *
        by_cases e1 : (addR st.m L[i].1.drop).e = 0
        rotate_left
        · have te1 : ((addR st.m L[i].1.drop).e == 0) = false := by simp [e1]
          have te2 : ((addR st.m L[i].1.drop).e != 0) = true := by simp [e1]
          have HE := Lib.hid (Hgo2.out.trans (if_neg e1))
          go_wp2
          go_ret3
          rw [HE.out]
          exact RetFl.bad gwr
        have te1 : ((addR st.m L[i].1.drop).e == 0) = true := by simp [e1]
        have HE := Lib.hid (Hgo2.out.trans (if_pos e1))
        clear Hgo2
        go_upto_region 9 with (fail)
        go_cut [7, 8] from 21 to 57 (fun v7 q wx => q = .int .i64 A.e ∧ RowIs wx w.heap.size 43 p.cells ∧ RowIs wx (w.heap.size + 1) 28 A.s.cells ∧ wx.ownsRow (w.heap.size + 1 + 1) 28 15 u6 S.length (S.flatMap State.cells) ∧ wx.ownsRow w.heap.size 64 16 v7 A.T.length (A.T.flatMap Tube.cells) ∧ Grew w wx)
        case first =>
          have a0 := (hr.grew y.grew).is 0 _ rfl
          have a1 := (hr.grew y.grew).is 1 _ rfl
          have a2 := (hr.grew y.grew).is 2 _ rfl
          have a3 := (hr.grew y.grew).is 3 _ rfl
          have a4 := (hr.grew y.grew).is 4 _ rfl
          have a5 := (hr.grew y.grew).is 5 _ rfl
          have a6 := (hr.grew y.grew).is 6 _ rfl
          have a7 := (hr.grew y.grew).is 7 _ rfl
          have a8 := (hr.grew y.grew).is 8 _ rfl
          have a9 := (hr.grew y.grew).is 9 _ rfl
          have a10 := (hr.grew y.grew).is 10 _ rfl
          have a11 := (hr.grew y.grew).is 11 _ rfl
          have a12 := (hr.grew y.grew).is 12 _ rfl
          have a13 := (hr.grew y.grew).is 13 _ rfl
          have a14 := (hr.grew y.grew).is 14 _ rfl
          simp only [Nat.add_zero] at a0
          have HA2 := Lib.hid (fun v W (g : Grew w W) ho => show Calls Tryz.prog 36 #[.agg #[.int .i64 p.mu.lo, .int .i64 p.mu.hi, .int .i64 p.radius.lo, .int .i64 p.radius.hi, .int .i64 p.oblate.lo, .int .i64 p.oblate.hi, .int .i64 p.spin.lo, .int .i64 p.spin.hi, .int .i64 p.pull.x.lo, .int .i64 p.pull.x.hi, .int .i64 p.pull.y.lo, .int .i64 p.pull.y.hi, .int .i64 p.pull.z.lo, .int .i64 p.pull.z.hi], .agg #[.int .i64 L[i].1.time, .int .i64 L[i].1.step, .int .i64 L[i].1.thrust.lo, .int .i64 L[i].1.thrust.hi, .int .i64 L[i].1.flow.lo, .int .i64 L[i].1.flow.hi, .int .i64 L[i].1.dir.x.lo, .int .i64 L[i].1.dir.x.hi, .int .i64 L[i].1.dir.y.lo, .int .i64 L[i].1.dir.y.hi, .int .i64 L[i].1.dir.z.lo, .int .i64 L[i].1.dir.z.hi, .slice L[i].1.drag.ao L[i].1.drag.n L[i].1.drag.cap, .int .i64 L[i].1.drop.lo, .int .i64 L[i].1.drop.hi], .agg #[.int .i64 ((st.mass (addR st.m L[i].1.drop).s)).t, .int .i64 ((st.mass (addR st.m L[i].1.drop).s)).p.x.lo, .int .i64 ((st.mass (addR st.m L[i].1.drop).s)).p.x.hi, .int .i64 ((st.mass (addR st.m L[i].1.drop).s)).p.y.lo, .int .i64 ((st.mass (addR st.m L[i].1.drop).s)).p.y.hi, .int .i64 ((st.mass (addR st.m L[i].1.drop).s)).p.z.lo, .int .i64 ((st.mass (addR st.m L[i].1.drop).s)).p.z.hi, .int .i64 ((st.mass (addR st.m L[i].1.drop).s)).v.x.lo, .int .i64 ((st.mass (addR st.m L[i].1.drop).s)).v.x.hi, .int .i64 ((st.mass (addR st.m L[i].1.drop).s)).v.y.lo, .int .i64 ((st.mass (addR st.m L[i].1.drop).s)).v.y.hi, .int .i64 ((st.mass (addR st.m L[i].1.drop).s)).v.z.lo, .int .i64 ((st.mass (addR st.m L[i].1.drop).s)).v.z.hi, .int .i64 ((st.mass (addR st.m L[i].1.drop).s)).m.lo, .int .i64 ((st.mass (addR st.m L[i].1.drop).s)).m.hi], .bool true, v] W _ from HA.out v W g ho)
          clear HA
          go_region_with (go_at_call 36; go_loud (refine (HA2.out _ _ ?_ ?_).mono ?_; (· exact gwr); (· exact owns_grew hrow7 (Grew.refl _).drew); rintro en w2 ⟨v7', rfl, ho2, hgr⟩; have r3w := (r3.grew (Grew.refl _).drew).kept hgr ((r3.grew (Grew.refl _).drew).not_row (by decide) (owns_grew hrow7 (Grew.refl _).drew)); have r5w := (r5.grew (Grew.refl _).drew).kept hgr ((r5.grew (Grew.refl _).drew).not_row (by decide) (owns_grew hrow7 (Grew.refl _).drew)); have hst := store_st w2 (w.heap.size + 1) A.s.cells (st.mass (addR st.m L[i].1.drop).s).cells))
          all_goals
            have g0 := (Grew.refl y.world).drew
            have ho6 := (owns_grew hrow6 g0).kept hgr (own_apart (owns_grew hrow6 g0) (owns_grew hrow7 g0) (by decide))
            have hne5 : u6.ownBlock ≠ some (w.heap.size + 1) := fun e => by have := owns_base hrow6 _ e; omega
            have q6 := ho6.kept (grownBy_setRow' w2 (w.heap.size + 1) A.s.cells.toArray) (.inr hne5)
            have hne7 : v7'.ownBlock ≠ some (w.heap.size + 1) := (r5w.not_row (by decide) ho2).symm
            have q7 := ho2.kept (grownBy_setRow' w2 (w.heap.size + 1) A.s.cells.toArray) (.inr hne7)
            have g2 : Grew w w2 := Grew.grown (y.grew.trans g0) hgr (owns_base hrow7)
            have g3 : Grew w (w2.setRow (w.heap.size + 1) A.s.cells.toArray) := by
              obtain ⟨x2, rfl⟩ := later_of g2
              exact gwr
            go_wp2
            go_meet
            case rel => exact ⟨rfl, r3w.kept (grownBy_setRow' _ _ _) (by simp), rowIs_setRow_new w2 (w.heap.size + 1) 28 15 A.s.cells, q6, q7, g3⟩
        case rest =>
          clear i3 i5 r3 r5 hrow6 hrow7
          obtain ⟨rfl, r3, r5, hrow6, hrow7, gY⟩ := hcut
          by_cases e2 : A.e = 0
          rotate_left
          · obtain ⟨x, rfl⟩ := later_of gY
            clear gY
            have te3 : (A.e != 0) = true := by simp [e2]
            have HE2 := Lib.hid (HE.out.trans (if_neg e2))
            go_wp2
            go_ret3
            rw [HE2.out]
            exact RetFl.bad gwr
          have te3 : (A.e != 0) = false := by simp [e2]
          have HE2 := Lib.hid (HE.out.trans (if_pos e2))
          have hT2 := Hlen2.out e2
          generalize hcs : A.s = cs at *
          clear hcs
          have r5' : RowIs wc (w.heap.size + 1) 28 [.int .i64 cs.t, .int .i64 cs.p.x.lo, .int .i64 cs.p.x.hi, .int .i64 cs.p.y.lo, .int .i64 cs.p.y.hi, .int .i64 cs.p.z.lo, .int .i64 cs.p.z.hi, .int .i64 cs.v.x.lo, .int .i64 cs.v.x.hi, .int .i64 cs.v.y.lo, .int .i64 cs.v.y.hi, .int .i64 cs.v.z.lo, .int .i64 cs.v.z.hi, .int .i64 cs.m.lo, .int .i64 cs.m.hi] := row_as r5 rfl
          have hyY : w.heap.size + 1 + 1 ≤ wc.heap.size := by have := r5.lt; omega
          have n5 : some (w.heap.size + 1) ≠ u6.ownBlock := fun e => by have := owns_base hrow6 _ e.symm; omega
          have b6 : ∀ k, u6.ownBlock = some k → w.heap.size ≤ k := fun k e => by have := owns_base hrow6 _ e; omega
          have i3 := r3.blockIn
          have i5 := r5.blockIn
          clear r5
          have hcs64 : St64 cs := hA64
          go_wp2_with (first | ((with_reducible refine wpList_load_is ?_ ?_ ?_ ?_ ?_ ?_ ?_ ?_ ?_ ?_ ?_ ?_ ?_); rotate_left 6; (· rfl); (· rfl); (· rfl); (· infer_instance); (· infer_instance); (· rfl)) | (at_builtin; go_loud (refine wpList_app_st (w.heap.size + 1 + 1) wc hyY rfl _ _ rfl u6 S hrow6 rfl cs _ rfl (by omega) ?_; intro v' w1 ho6' hg6; have t3 := r3.kept hg6 (r3.not_row (by decide) hrow6); have t5 := r5'.kept hg6 n5; have t7 := hrow7.kept hg6 (own_apart hrow7 hrow6 (by decide)); have g1 : Grew w w1 := gY.grown hg6 b6)))
          go_roundw
          · exact ⟨k + 1, cs, S ++ [cs], A.T, by go_simp; omega, by go_simp, by omega, by simp [hSk], ho6', t7, t3, t5, g1, hcs64, HE2, Lib.hid (by have := Hs1.out; have := Hll.out; omega)⟩
          · simp [intOf]
    · have hend := Hgo.out
      rw [List.drop_of_length_le (by simp; omega)] at hend
      have tf : decide ((0 : Int) ≤ (L.length : Int) - 1 - k) = false := by simp; omega
      go_wp2
      go_ret3
      rw [hend]
      exact ⟨_, _, rfl, SlAt.of_owns hrow6, SlAt.of_owns hrow7, z.grew⟩
theorem flBack_any (p : Planet) (L : Arcs) (s : State) [hp : Pl64 p] [hs : St64 s] (hL : ArcsI L) (v : Value) (w : World) (hd : ArcsAt w v L) : Calls Tryz.prog 15 #[.agg p.cells.toArray, v, .agg s.cells.toArray] w (RetFl (backR p L s) w) := by
  by_cases h : checkE p L s = 0
  · exact flBack_run p L s hL v w hd h
  · exact flBack_bad p L s v w hd h
end Go.Proofs.YtkeifgcncmilmaaGreat
namespace Go.Proofs.YtkeifgcncmilmaaGreat
open Go.RowKit Go.ChangeShapes Go.WideShapes Go.ChangeAt Go.Deep
set_option maxRecDepth 100000
set_option maxHeartbeats 16000000
theorem b64_of {b : Bx} (h1 : I64 b.x.lo) (h2 : I64 b.x.hi) (h3 : I64 b.y.lo) (h4 : I64 b.y.hi) (h5 : I64 b.z.lo) (h6 : I64 b.z.hi) : B64 b := ⟨⟨h1, h2⟩, ⟨h3, h4⟩, ⟨h5, h6⟩⟩
def Arc.longB (a : Arc) : Bool := decide (70 < a.drag.n)
section
variable {H : Type} {enc : TypeId × Value → H} {w : World} {base : Nat} {spare : Nat → Bool} {held : Bool}
end
end Go.Proofs.YtkeifgcncmilmaaGreat
