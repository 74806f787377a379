/-
  The plain law of FlightMasses: the errors of a flight without a force, the mass behind its steps.
  FlightMasses: for every state, flow (in 1/256) and number of steps (up to 16): the mass behind the flight is that of the flow alone. No condition.
-/
import Derived.Test.YtfcdpilkcinnjaaFlyLaw
import Derived.Test.YtfcdpilkcinnjaaAlive03
import Derived.Test.YtfcdpilkcinnjaaFlyFly
import Derived.Test.YtfcdpilkcinnjaaLaw03W
import Derived.Deep.DeepCutAuto
import Derived.LoopN
import Derived.Deep.QuietTactic
import Derived.BigQuiet
import Derived.Test.YtfcdpilkcinnjaaRows
namespace Go.Proofs.Ytfcdpilkcinnjaa
set_option maxRecDepth 100000
/-- No error, or one of three. -/
def Er (e : Int) : Prop := e = 0 ∨ e = 2 ∨ e = 4 ∨ e = 9
theorem er0 : Er 0 := .inl rfl
theorem er2 : Er (errR 2).e := .inr (.inl rfl)
theorem er_do {e : Int} {r : Res} (he : Er e) (hr : Er r.e) : Er (doR e r).e := by
  unfold doR
  split
  · exact hr
  · exact he
theorem er_fit (x y : Int) : Er (fitR x y).e := by
  unfold fitR
  split
  · exact er0
  · exact .inr (.inr (.inl rfl))
theorem er_add (a b : Sp) : Er (addR a b).e := by
  unfold addR
  split
  · exact er_fit _ _
  · exact er2
theorem er_sub (a b : Sp) : Er (subR a b).e := by
  unfold subR
  split
  · exact er_add _ _
  · exact er2
theorem er_mul (a b : Sp) : Er (mulR a b).e := by
  unfold mulR
  split
  · exact er_fit _ _
  · exact er2
theorem er_half (a : Sp) : Er (divR a (wholeS 2)).e := by
  unfold divR
  split
  · split
    · rename_i k
      exact absurd k (by decide)
    · exact er_fit _ _
  · exact er2
theorem er_hull (a b : Sp) : Er (hullR a b).e := by
  unfold hullR
  split
  · exact er0
  · exact er2
theorem er_wide (a : Sp) : Er (wideR a).e := by
  unfold wideR
  split
  · split
    · exact .inr (.inr (.inl rfl))
    · exact er0
  · exact .inr (.inl rfl)
theorem er_doN {e : Int} {r : NRes} (he : Er e) (hr : Er r.e) : Er (doN e r) := by
  unfold doN
  split
  · exact hr
  · exact he
theorem er_wd (b m : Sp) {e : Int} (he : Er e) : Er (wdR b m e).e := by
  unfold wdR
  split
  · exact he
  · exact er_do (er_doN (er_do he (er_hull _ _)) (er_wide _)) (er_add _ _)
theorem er_each {f : Sp → Sp → Res} (hf : ∀ a b, Er (f a b).e) {e : Int} (he : Er e) (a b : Bx) : Er (eachR f e a b).e := er_do (er_do (er_do he (hf _ _)) (hf _ _)) (hf _ _)
theorem er_reach (P V : Bx) (d : Sp) (v f : Bx) {e : Int} (he : Er e) : Er (reachF P V d v f e).e := by
  have k : ∀ (s v : Bx) {e : Int}, Er e → Er (rcP s d v e).e := fun s v e he => er_each er_add (er_each er_mul he _ _) _ _
  exact k _ _ (k _ _ he)
theorem er_widC (q v mq mv : Bx) {e : Int} (he : Er e) : Er (widC wdR q v mq mv e).e := by
  have k : ∀ (q mq : Bx) {e : Int}, Er e → Er (widB wdR q mq e).e := fun q mq e he => er_wd _ _ (er_wd _ _ (er_wd _ _ he))
  exact k _ _ (k _ _ he)
/-- An arc without forces that only has a flow. -/
def massA (f t : Int) : Arc := ⟨t, 4294967296, ⟨0, 0⟩, ⟨f, f⟩, zBx, ⟨none, 0, 0⟩, ⟨0, 0⟩⟩
theorem force_free (f t : Int) (q v : Bx) (m : Sp) (e : Int) : forceF (freeP zBx) (massA f t) [] q v m e = ⟨zBx, e⟩ := rfl
theorem er_tube (f t : Int) (P V : Bx) (d m : Sp) : ∀ (n : Nat) (q v : Bx) (e : Int), Er e → Er (tubeR (fun q v e => forceF (freeP zBx) (massA f t) [] q v m e) (fun v f e => reachF P V d v f e) wdR n q v e).e
  | 0, _, _, _, he => he
  | n + 1, q, v, e, he => by
    unfold tubeR
    split
    · exact er_reach _ _ _ _ _ he
    · split
      · exact er0
      · exact er_tube f t P V d m n _ _ _ (er_widC _ _ _ _ er0)
theorem er_step (f t : Int) (s : State) (h : Int) : Er (stepFF (freeP zBx) (massA f t) [] s h).e := by
  have lp : ∀ (g k o v f : Sp) {e : Int}, Er e → Er (lpG g k o v f e).e := fun g k o v f e he => er_do (er_do (er_do (er_do (er_do (er_do he (er_mul _ _)) (er_add _ _)) (er_mul _ _)) (er_add _ _)) (er_mul _ _)) (er_add _ _)
  have hm : Er (stM (massA f t) s h (stF s h).e).e := er_do (er_do (er_do er0 (er_add _ _)) (er_mul _ _)) (er_sub _ _)
  unfold stepFF stepOut
  split
  · unfold lastR
    split
    · exact er0
    · show Er (laM _ _ _ _).e
      refine er_do (er_do ?_ (er_mul _ _)) (er_sub _ _)
      exact lp _ _ _ _ _ (lp _ _ _ _ _ (lp _ _ _ _ _ (er_do (er_do er0 (er_mul _ _)) (er_half _))))
  · show Er (if _ then _ else _)
    split
    · exact .inr (.inr (.inr rfl))
    · refine er_tube f t _ _ _ _ 8 _ _ _ ?_
      unfold stE
      split
      · exact .inr (.inr (.inl rfl))
      · exact hm
theorem er_along (f t : Int) : ∀ (r : List Int) (s : State) (T : List Tube), Er (alongR (freeP zBx) (massA f t) [] s T r).e
  | [], _, _ => er0
  | h :: r, s, T => by
    rw [along_cons]
    split
    · exact er_along f t r _ _
    · exact er_step f t s h
theorem sub_pt {a : Sp} {f : Int} (z : (subR a ⟨f, f⟩).e = 0) : (subR a ⟨f, f⟩).s = ⟨a.lo - f, a.hi - f⟩ ∧ -9223372036854775807 ≤ a.lo - f ∧ a.hi - f ≤ 9223372036854775807 ∧ a.lo ≤ a.hi := by
  obtain ⟨e1, -⟩ := sub_zero z
  rw [e1] at z ⊢
  obtain ⟨h1, h2, h3⟩ := add_zero z
  have e2 : addR a (negS ⟨f, f⟩) = fitR (a.lo + -f) (a.hi + -f) := by
    unfold addR
    rw [h1, h2]
    rfl
  rw [e2] at z ⊢
  obtain ⟨k1, k2, k3⟩ := fit_zero z
  rw [k1]
  have := ok_le h1
  refine ⟨?_, by omega, by omega, this⟩
  rw [Int.sub_eq_add_neg, Int.sub_eq_add_neg]
theorem mul_one_pt {f : Int} (h0 : 0 ≤ f) (h1 : f ≤ 4294967296) : mulR ⟨4294967296, 4294967296⟩ ⟨f, f⟩ = ⟨⟨f, f⟩, 0⟩ := by
  have k : (⟨f, f⟩ : Sp).okB = true := by
    unfold Sp.okB numB
    simp only [Bool.and_eq_true, decide_eq_true_eq]
    omega
  have e : ∀ x : Int, min4 x x x x = x ∧ max4 x x x x = x := fun x => by
    unfold min4 max4 imin imax
    simp
  unfold mulR
  rw [k, show (⟨4294967296, 4294967296⟩ : Sp).okB = true by decide]
  show fitR (downZ (min4 (4294967296 * f) (4294967296 * f) (4294967296 * f) (4294967296 * f)) 4294967296) (upZ (max4 (4294967296 * f) (4294967296 * f) (4294967296 * f) (4294967296 * f)) 4294967296) = _
  rw [(e _).1, (e _).2]
  have d1 : downZ (4294967296 * f) 4294967296 = f := by unfold downZ; omega
  have d2 : upZ (4294967296 * f) 4294967296 = f := by unfold upZ; omega
  rw [d1, d2]
  unfold fitR isNum
  rw [if_pos (by simp only [Bool.and_eq_true, decide_eq_true_eq]; omega)]
theorem step_mass {f t : Int} {s : State} (h0 : 0 ≤ f) (h1 : f ≤ 4294967296) (z : (stepFF (freeP zBx) (massA f t) [] s 4294967296).e = 0) : (stepFF (freeP zBx) (massA f t) [] s 4294967296).s.m = ⟨s.m.lo - f, s.m.hi - f⟩ := by
  obtain ⟨Q, V, K, H⟩ := hop_of (p := freeP zBx) (x := massA f t) (PlOk.of (by decide)) ⟨by show (⟨0, 0⟩ : Sp).okB = true; decide, nwB_refl (by show zBx.okB = true; decide)⟩ z
  have n2 := H.n2
  rw [H.nm]
  have e : mulR ⟨4294967296, 4294967296⟩ (massA f t).flow = ⟨⟨f, f⟩, 0⟩ := mul_one_pt h0 h1
  rw [e] at n2 ⊢
  exact (sub_pt n2).1
theorem along_mass {f t : Int} (h0 : 0 ≤ f) (h1 : f ≤ 4294967296) : ∀ (k : Nat) (s : State) (T : List Tube), (alongR (freeP zBx) (massA f t) [] s T (List.replicate k 4294967296)).e = 0 → (alongR (freeP zBx) (massA f t) [] s T (List.replicate k 4294967296)).s.m = ⟨s.m.lo - k * f, s.m.hi - k * f⟩
  | 0, s, T, _ => by
    show s.m = _
    simp
  | k + 1, s, T, z => by
    rw [List.replicate_succ, along_cons] at z ⊢
    split at z
    case isFalse h => exact absurd z h
    rename_i h
    rw [if_pos h, along_mass h0 h1 k _ _ z, step_mass h0 h1 h]
    simp only [Sp.mk.injEq]
    constructor <;> (rw [Int.natCast_add, Int.add_mul]; omega)
theorem massA_ok {f t : Int} (h0 : 0 ≤ f) (h1 : f ≤ 4294967296) (ht : 1 ≤ t) : (massA f t).okB [] = true := by
  unfold Arc.okB
  simp only [Bool.and_eq_true, decide_eq_true_eq]
  refine ⟨⟨⟨⟨by rfl, ?_⟩, ht⟩, by show (1 : Int) ≤ 4294967296; decide⟩, by rfl⟩
  rw [show forcesB (massA f t) = ((⟨0, 0⟩ : Sp).leastB 0 && ((⟨f, f⟩ : Sp).leastB 0 && ((⟨0, 0⟩ : Sp).leastB 0 && true))) from rfl]
  unfold Sp.leastB Sp.okB numB
  simp
  omega
theorem mass_lens {f : Int} (k : Nat) : lensF (massA f (k * 4294967296)) = List.replicate k 4294967296 := by
  have e1 : restA (massA f (k * 4294967296)) = 0 := by show ((k : Int) * 4294967296) % 4294967296 = 0; omega
  have e2 : fullA (massA f (k * 4294967296)) = k := by show (((k : Int) * 4294967296) / 4294967296).toNat = k; omega
  unfold lensF
  rw [e1, e2]
  simp [massA]
/-- A flight of so many steps: an error of three, or the mass is that of the flow. -/
theorem fly_mass {f : Int} {k : Nat} {s : State} (h0 : 0 ≤ f) (h1 : f ≤ 4294967296) (hk : 1 ≤ k) (hk2 : k ≤ 16) :
    Er (flyR (freeP zBx) [(massA f (k * 4294967296), [])] s).e ∧ ((flyR (freeP zBx) [(massA f (k * 4294967296), [])] s).e = 0 → ∃ st, (flyR (freeP zBx) [(massA f (k * 4294967296), [])] s).stops = [st] ∧ st.m = ⟨s.m.lo - k * f, s.m.hi - k * f⟩ ∧ I64 st.m.lo ∧ I64 st.m.hi) := by
  have hok := massA_ok h0 h1 (t := k * 4294967296) (by omega)
  have hz : stepsZ (massA f (k * 4294967296)) = k := by show ((k : Int) * 4294967296 - 1) / 4294967296 + 1 = k; omega
  have hc : stepsCode (massA f (k * 4294967296)) [] = 0 := by unfold stepsCode; rw [if_pos hok, if_pos (by omega)]
  have ha : arcsCode [(massA f (k * 4294967296), [])] = 0 := by
    unfold arcsCode
    rw [if_neg (by simp [badB, hok]), if_pos]
    simp only [fitB, Bool.and_eq_true, decide_eq_true_eq, hc, stepsNum, List.length_cons, List.length_nil]
    rw [if_pos trivial, hz]
    exact ⟨by omega, ⟨trivial, by omega⟩, trivial⟩
  have hce : checkE (freeP zBx) [(massA f (k * 4294967296), [])] s = if s.okB = true then 0 else 2 := by
    unfold checkE
    rw [ha]
    rfl
  unfold flyR
  by_cases hs : s.okB = true
  rotate_left
  · rw [hce, if_neg hs, if_neg (by decide)]
    exact ⟨er2, fun h => absurd h (by decide)⟩
  rw [hce, if_pos hs, if_pos rfl]
  show Er (flyGo _ _ _ _ [_]).e ∧ ((flyGo _ _ _ _ [_]).e = 0 → ∃ st, (flyGo _ _ _ _ [_]).stops = _ ∧ _)
  unfold flyGo
  simp only [mass_lens]
  split
  case isFalse h => exact ⟨er_along _ _ _ _ _, fun z => absurd z h⟩
  rename_i z
  have hm := along_mass h0 h1 k s [] z
  generalize alongR (freeP zBx) (massA f (k * 4294967296)) [] s [] (List.replicate k 4294967296) = A at *
  split
  case isFalse h =>
    refine ⟨?_, fun z => absurd z h⟩
    show Er (dropR A.s.m (massA f (k * 4294967296))).e
    unfold dropR
    split
    · exact .inr (.inr (.inl rfl))
    · exact er_sub _ _
  rename_i z2
  refine ⟨er0, fun _ => ⟨_, rfl, ?_⟩⟩
  unfold dropR at z2 ⊢
  split at z2
  · exact absurd z2 (show ¬ ((4 : Int) = 0) by decide)
  rename_i z3
  rw [if_neg z3]
  have e := sub_pt (a := A.s.m) (f := 0) z2
  show (subR A.s.m ⟨0, 0⟩).s = _ ∧ I64 (subR A.s.m ⟨0, 0⟩).s.lo ∧ I64 (subR A.s.m ⟨0, 0⟩).s.hi
  rw [e.1]
  obtain ⟨-, e2, e3, e4⟩ := e
  rw [hm] at e2 e3 e4 ⊢
  simp only [Int.sub_zero] at *
  unfold I64
  refine ⟨trivial, ?_, ?_⟩ <;> omega
end Go.Proofs.Ytfcdpilkcinnjaa
namespace Go.Proofs.Ytfcdpilkcinnjaa
open Go.RowKit Go.ChangeShapes Go.WideShapes Go.ChangeAt Go.Deep
set_option maxRecDepth 100000
set_option maxHeartbeats 16000000
set_option linter.unusedSimpArgs false
theorem wrap_i64 (x : Int) (h1 : -9223372036854775808 ≤ x) (h2 : x ≤ 9223372036854775807) : IntKind.i64.wrap x = x := by simp [IntKind.wrap, IntKind.bits, IntKind.signed]; omega
@[go_sem] theorem freeA_set (a b c d : Int) : (((freeA.cells.set 4 (.int .i64 a)).set 5 (.int .i64 b)).set 1 (.int .i64 c)).set 0 (.int .i64 d) = [.int .i64 d, .int .i64 c, .int .i64 0, .int .i64 0, .int .i64 a, .int .i64 b, .int .i64 0, .int .i64 0, .int .i64 0, .int .i64 0, .int .i64 0, .int .i64 0, .slice none 0 0, .int .i64 0, .int .i64 0] := rfl
theorem one_stop {R : FlyRes} {st : State} {w' : World} {v : Value} (h : R.stops = [st]) (hs : SlAt w' v R.stops.length (R.stops.flatMap State.cells)) : ∃ b o cap, v = .slice (some ⟨b, o, none⟩) 1 cap ∧ b < w'.heap.size ∧ w'.cell? ⟨b, o + 13, none⟩ = some (.int .i64 st.m.lo) ∧ w'.cell? ⟨b, o + 14, none⟩ = some (.int .i64 st.m.hi) := by
  rw [h] at hs
  obtain ⟨ao, cap, rfl, -, hc⟩ := hs
  obtain ⟨b, o, rfl, hb, -, h2⟩ := SlAt.elem (f := State.cells) (c := 15) (fun _ => rfl) (by omega) hc 0 (by simp)
  exact ⟨b, o, cap, rfl, hb, by simpa using h2 13 _ rfl, by simpa using h2 14 _ rfl⟩
theorem masses_walk (s : State) (x n : Int) [hs : St64 s] (hx0 : 0 ≤ x) (hx1 : x ≤ 255) (hn0 : 0 ≤ n) (hn1 : n ≤ 255) (w : World) :
    Calls Try.prog 5 #[.agg #[.int .i64 s.t, .int .i64 s.p.x.lo, .int .i64 s.p.x.hi, .int .i64 s.p.y.lo, .int .i64 s.p.y.hi, .int .i64 s.p.z.lo, .int .i64 s.p.z.hi, .int .i64 s.v.x.lo, .int .i64 s.v.x.hi, .int .i64 s.v.y.lo, .int .i64 s.v.y.hi, .int .i64 s.v.z.lo, .int .i64 s.v.z.hi, .int .i64 s.m.lo, .int .i64 s.m.hi], .int .u8 x, .int .u8 n] w fun e w' => e = .returned (.bool true) ∧ Grew w w' := by
  obtain ⟨f, hf⟩ : ∃ f, f = x * 16777216 := ⟨_, rfl⟩
  obtain ⟨k, hk⟩ : ∃ k : Nat, (k : Int) = 1 + n % 16 := ⟨(1 + n % 16).toNat, by omega⟩
  have k1 : 1 ≤ k := by omega
  have k2 : k ≤ 16 := by omega
  have a1 : IntKind.i64.wrap x = x := wrap_i64 _ (by omega) (by omega)
  have a2 : IntKind.i64.wrap (x * 4294967296) = x * 4294967296 := wrap_i64 _ (by omega) (by omega)
  have a3 : (x * 4294967296).tdiv 256 = f := by rw [Int.tdiv_eq_ediv_of_nonneg (by omega)]; omega
  have a4 : IntKind.i64.wrap f = f := wrap_i64 _ (by omega) (by omega)
  have a5 : IntKind.i64.wrap n = n := wrap_i64 _ (by omega) (by omega)
  have a6 : n.tmod 16 = n % 16 := Int.tmod_eq_emod_of_nonneg hn0
  have a7 : IntKind.i64.wrap (n % 16) = n % 16 := wrap_i64 _ (by omega) (by omega)
  have a8 : IntKind.i64.wrap (1 + n % 16) = k := by rw [wrap_i64 _ (by omega) (by omega), hk]
  have a9 : IntKind.i64.wrap ((k : Int) * 4294967296) = k * 4294967296 := wrap_i64 _ (by omega) (by omega)
  have b1 : IntKind.i64.wrap ((k : Int) * x) = k * x := by
    have h1 : 0 ≤ (k : Int) * x := Int.mul_nonneg (by omega) hx0
    have h2 : (k : Int) * x ≤ 16 * 255 := Int.mul_le_mul (by omega) hx1 hx0 (by omega)
    exact wrap_i64 _ (by omega) (by omega)
  have b2 : IntKind.i64.wrap ((k : Int) * x * 4294967296) = k * x * 4294967296 := by
    have h1 : 0 ≤ (k : Int) * x := Int.mul_nonneg (by omega) hx0
    have h2 : (k : Int) * x ≤ 16 * 255 := Int.mul_le_mul (by omega) hx1 hx0 (by omega)
    exact wrap_i64 _ (by omega) (by omega)
  have b3 : ((k : Int) * x * 4294967296).tdiv 256 = k * f := by
    have h1 : 0 ≤ (k : Int) * x := Int.mul_nonneg (by omega) hx0
    rw [Int.tdiv_eq_ediv_of_nonneg (by omega), hf, ← Int.mul_assoc]
    omega
  have b4 : IntKind.i64.wrap ((k : Int) * f) = k * f := by
    have h1 : 0 ≤ (k : Int) * x := Int.mul_nonneg (by omega) hx0
    have h2 : (k : Int) * x ≤ 16 * 255 := Int.mul_le_mul (by omega) hx1 hx0 (by omega)
    rw [hf, ← Int.mul_assoc]
    exact wrap_i64 _ (by omega) (by omega)
  obtain ⟨hE, hM⟩ := fly_mass (f := f) (k := k) (s := s) (by omega) (by omega) k1 k2
  have HF := Lib.hid (fun (v : Value) (w' : World) (h : SlAt w' v 1 (massA f (k * 4294967296)).cells) => show Calls Try.prog 14 #[.agg (freeP zBx).cells.toArray, v, .agg #[.int .i64 s.t, .int .i64 s.p.x.lo, .int .i64 s.p.x.hi, .int .i64 s.p.y.lo, .int .i64 s.p.y.hi, .int .i64 s.p.z.lo, .int .i64 s.p.z.hi, .int .i64 s.v.x.lo, .int .i64 s.v.x.hi, .int .i64 s.v.y.lo, .int .i64 s.v.y.hi, .int .i64 s.v.z.lo, .int .i64 s.v.z.hi, .int .i64 s.m.lo, .int .i64 s.m.hi]] w' (RetFl (flyR (freeP zBx) [(massA f (k * 4294967296), [])] s) w') from by
    have hp := pl64_free zBx (h := ⟨⟨i64c rfl, i64c rfl⟩, ⟨i64c rfl, i64c rfl⟩, ⟨i64c rfl, i64c rfl⟩⟩)
    refine flFly_any (freeP zBx) [(massA f (k * 4294967296), [])] s ?_ v w' ⟨by simpa [arcCells] using h, ?_⟩
    · intro y hy
      obtain rfl : y = _ := by simpa using hy
      have z : ∀ a : Int, a = 0 → I64 a := fun a h => by subst h; exact i64c rfl
      have q : I64 f := by unfold I64; omega
      exact ⟨⟨z _ rfl, z _ rfl⟩, ⟨q, q⟩, ⟨⟨z _ rfl, z _ rfl⟩, ⟨z _ rfl, z _ rfl⟩, ⟨z _ rfl, z _ rfl⟩⟩, ⟨z _ rfl, z _ rfl⟩⟩
    · intro y hy
      obtain rfl : y = _ := by simpa using hy
      refine ⟨SlAt.nil _, ?_, ?_⟩
      · show (k : Int) * 4294967296 ≤ _
        omega
      · show (4294967296 : Int) ≤ _
        omega)
  generalize flyR (freeP zBx) [(massA f (k * 4294967296), [])] s = R at *
  clear hf hk
  by_cases e0 : R.e = 0
  rotate_left
  · have t0 : (R.e != 0) = true := by simp [e0]
    clear hM
    by_cases e2 : R.e = 2
    · have t2 : (R.e == 2) = true := by simp [e2]
      clear hE e0 e2
      go_enter Try.func5, Try.ntmps5
      go_wp2_with (first | (go_at_call 14; refine (HF.out _ _ (SlAt.fresh _ _ _ _ (by simp [maxLen]))).mono ?_; rintro en w2 ⟨v1, v2, rfl, hs1, hs2, hg⟩; obtain ⟨uy, rfl⟩ := later_of hg; clear hg) | (go_at_call 7; (with_reducible refine call_later (l3Alive_any _) ?_); intro ua) | (go_at_call 12; (with_reducible refine call_later (l3Free_any ⟨⟨0, 0⟩, ⟨0, 0⟩, ⟨0, 0⟩⟩ _) ?_); intro uf) | (go_at_call 13; (with_reducible refine call_later (l3Point_any _ _) ?_); intro up) | ((with_reducible refine wpList_built ?_ ?_ ?_ ?_ ?_ ?_ ?_ ?_ ?_); rotate_left 4; (· rfl); (· rfl); (· rfl); (· infer_instance)) | ((with_reducible refine wpList_load_rng ?_ ?_ ?_ ?_ ?_ ?_ ?_ ?_ ?_ ?_ ?_ ?_); rotate_left 6; (· rfl); (· rfl); (· rfl); (· infer_instance); (· infer_instance)) | ((with_reducible refine wpList_load_is ?_ ?_ ?_ ?_ ?_ ?_ ?_ ?_ ?_ ?_ ?_ ?_ ?_); rotate_left 6; (· rfl); (· rfl); (· rfl); (· infer_instance); (· infer_instance); (· rfl)) | ((with_reducible refine wpList_store_fresh ?_ ?_ ?_ ?_ ?_ ?_ ?_ ?_ ?_ ?_ ?_ ?_ ?_ ?_ ?_ ?_ ?_); rotate_left 5; (· rfl); (· rfl); (· rfl); (· rfl); (· rfl); (· infer_instance); (· infer_instance); (· infer_instance); (· infer_instance)) | ((with_reducible refine wpList_store_is ?_ ?_ ?_ ?_ ?_ ?_ ?_ ?_ ?_ ?_ ?_ ?_ ?_ ?_ ?_ ?_ ?_); rotate_left 7; (· rfl); (· rfl); (· rfl); (· rfl); (· rfl); (· infer_instance); (· infer_instance); (· infer_instance); (· infer_instance)))
      go_ret
      exact ⟨rfl, gwr⟩
    have t2 : (R.e == 2) = false := by simp [e2]
    by_cases e4 : R.e = 4
    · have t4 : (R.e == 4) = true := by simp [e4]
      clear hE e0 e2 e4
      go_enter Try.func5, Try.ntmps5
      go_wp2_with (first | (go_at_call 14; refine (HF.out _ _ (SlAt.fresh _ _ _ _ (by simp [maxLen]))).mono ?_; rintro en w2 ⟨v1, v2, rfl, hs1, hs2, hg⟩; obtain ⟨uy, rfl⟩ := later_of hg; clear hg) | (go_at_call 7; (with_reducible refine call_later (l3Alive_any _) ?_); intro ua) | (go_at_call 12; (with_reducible refine call_later (l3Free_any ⟨⟨0, 0⟩, ⟨0, 0⟩, ⟨0, 0⟩⟩ _) ?_); intro uf) | (go_at_call 13; (with_reducible refine call_later (l3Point_any _ _) ?_); intro up) | ((with_reducible refine wpList_built ?_ ?_ ?_ ?_ ?_ ?_ ?_ ?_ ?_); rotate_left 4; (· rfl); (· rfl); (· rfl); (· infer_instance)) | ((with_reducible refine wpList_load_rng ?_ ?_ ?_ ?_ ?_ ?_ ?_ ?_ ?_ ?_ ?_ ?_); rotate_left 6; (· rfl); (· rfl); (· rfl); (· infer_instance); (· infer_instance)) | ((with_reducible refine wpList_load_is ?_ ?_ ?_ ?_ ?_ ?_ ?_ ?_ ?_ ?_ ?_ ?_ ?_); rotate_left 6; (· rfl); (· rfl); (· rfl); (· infer_instance); (· infer_instance); (· rfl)) | ((with_reducible refine wpList_store_fresh ?_ ?_ ?_ ?_ ?_ ?_ ?_ ?_ ?_ ?_ ?_ ?_ ?_ ?_ ?_ ?_ ?_); rotate_left 5; (· rfl); (· rfl); (· rfl); (· rfl); (· rfl); (· infer_instance); (· infer_instance); (· infer_instance); (· infer_instance)) | ((with_reducible refine wpList_store_is ?_ ?_ ?_ ?_ ?_ ?_ ?_ ?_ ?_ ?_ ?_ ?_ ?_ ?_ ?_ ?_ ?_); rotate_left 7; (· rfl); (· rfl); (· rfl); (· rfl); (· rfl); (· infer_instance); (· infer_instance); (· infer_instance); (· infer_instance)))
      go_ret
      exact ⟨rfl, gwr⟩
    have t4 : (R.e == 4) = false := by simp [e4]
    have t9 : (R.e == 9) = true := by rcases hE with h | h | h | h <;> simp_all
    clear hE e0 e2 e4
    go_enter Try.func5, Try.ntmps5
    go_wp2_with (first | (go_at_call 14; refine (HF.out _ _ (SlAt.fresh _ _ _ _ (by simp [maxLen]))).mono ?_; rintro en w2 ⟨v1, v2, rfl, hs1, hs2, hg⟩; obtain ⟨uy, rfl⟩ := later_of hg; clear hg) | (go_at_call 7; (with_reducible refine call_later (l3Alive_any _) ?_); intro ua) | (go_at_call 12; (with_reducible refine call_later (l3Free_any ⟨⟨0, 0⟩, ⟨0, 0⟩, ⟨0, 0⟩⟩ _) ?_); intro uf) | (go_at_call 13; (with_reducible refine call_later (l3Point_any _ _) ?_); intro up) | ((with_reducible refine wpList_built ?_ ?_ ?_ ?_ ?_ ?_ ?_ ?_ ?_); rotate_left 4; (· rfl); (· rfl); (· rfl); (· infer_instance)) | ((with_reducible refine wpList_load_rng ?_ ?_ ?_ ?_ ?_ ?_ ?_ ?_ ?_ ?_ ?_ ?_); rotate_left 6; (· rfl); (· rfl); (· rfl); (· infer_instance); (· infer_instance)) | ((with_reducible refine wpList_load_is ?_ ?_ ?_ ?_ ?_ ?_ ?_ ?_ ?_ ?_ ?_ ?_ ?_); rotate_left 6; (· rfl); (· rfl); (· rfl); (· infer_instance); (· infer_instance); (· rfl)) | ((with_reducible refine wpList_store_fresh ?_ ?_ ?_ ?_ ?_ ?_ ?_ ?_ ?_ ?_ ?_ ?_ ?_ ?_ ?_ ?_ ?_); rotate_left 5; (· rfl); (· rfl); (· rfl); (· rfl); (· rfl); (· infer_instance); (· infer_instance); (· infer_instance); (· infer_instance)) | ((with_reducible refine wpList_store_is ?_ ?_ ?_ ?_ ?_ ?_ ?_ ?_ ?_ ?_ ?_ ?_ ?_ ?_ ?_ ?_ ?_); rotate_left 7; (· rfl); (· rfl); (· rfl); (· rfl); (· rfl); (· infer_instance); (· infer_instance); (· infer_instance); (· infer_instance)))
    go_ret
    exact ⟨rfl, gwr⟩
  have t0 : (R.e != 0) = false := by simp [e0]
  obtain ⟨st, hst, hm, i1, i2⟩ := hM e0
  have hst := Lib.hid hst
  clear hM hE e0
  obtain ⟨m1, m2⟩ : s.m.lo - k * f = st.m.lo ∧ s.m.hi - k * f = st.m.hi := by rw [hm]; exact ⟨rfl, rfl⟩
  have c1 : IntKind.i64.wrap (s.m.lo - k * f) = st.m.lo := by rw [m1]; exact wrap_i64 _ i1.1 i1.2
  have c2 : IntKind.i64.wrap (s.m.hi - k * f) = st.m.hi := by rw [m2]; exact wrap_i64 _ i2.1 i2.2
  clear m1 m2 hm i1 i2
  go_enter Try.func5, Try.ntmps5
  go_upto_region 11 with (first | (go_at_call 14; refine (HF.out _ _ (SlAt.fresh _ _ _ _ (by simp [maxLen]))).mono ?_; rintro en w2 ⟨v1, v2, rfl, hs1, hs2, hg⟩; obtain ⟨uy, rfl⟩ := later_of hg; clear hg) | (go_at_call 7; (with_reducible refine call_later (l3Alive_any _) ?_); intro ua) | (go_at_call 12; (with_reducible refine call_later (l3Free_any ⟨⟨0, 0⟩, ⟨0, 0⟩, ⟨0, 0⟩⟩ _) ?_); intro uf) | (go_at_call 13; (with_reducible refine call_later (l3Point_any _ _) ?_); intro up) | ((with_reducible refine wpList_built ?_ ?_ ?_ ?_ ?_ ?_ ?_ ?_ ?_); rotate_left 4; (· rfl); (· rfl); (· rfl); (· infer_instance)) | ((with_reducible refine wpList_load_rng ?_ ?_ ?_ ?_ ?_ ?_ ?_ ?_ ?_ ?_ ?_ ?_); rotate_left 6; (· rfl); (· rfl); (· rfl); (· infer_instance); (· infer_instance)) | ((with_reducible refine wpList_load_is ?_ ?_ ?_ ?_ ?_ ?_ ?_ ?_ ?_ ?_ ?_ ?_ ?_); rotate_left 6; (· rfl); (· rfl); (· rfl); (· infer_instance); (· infer_instance); (· rfl)) | ((with_reducible refine wpList_store_fresh ?_ ?_ ?_ ?_ ?_ ?_ ?_ ?_ ?_ ?_ ?_ ?_ ?_ ?_ ?_ ?_ ?_); rotate_left 5; (· rfl); (· rfl); (· rfl); (· rfl); (· rfl); (· infer_instance); (· infer_instance); (· infer_instance); (· infer_instance)) | ((with_reducible refine wpList_store_is ?_ ?_ ?_ ?_ ?_ ?_ ?_ ?_ ?_ ?_ ?_ ?_ ?_ ?_ ?_ ?_ ?_); rotate_left 7; (· rfl); (· rfl); (· rfl); (· rfl); (· rfl); (· infer_instance); (· infer_instance); (· infer_instance); (· infer_instance)))
  obtain ⟨b, o, cap, rfl, hb, hc13, hc14⟩ := one_stop hst.out hs1
  refine wp_named (fun Y => RowIs Y w.heap.size 35 [.int .i64 s.t, .int .i64 s.p.x.lo, .int .i64 s.p.x.hi, .int .i64 s.p.y.lo, .int .i64 s.p.y.hi, .int .i64 s.p.z.lo, .int .i64 s.p.z.hi, .int .i64 s.v.x.lo, .int .i64 s.v.x.hi, .int .i64 s.v.y.lo, .int .i64 s.v.y.hi, .int .i64 s.v.z.lo, .int .i64 s.v.z.hi, .int .i64 s.m.lo, .int .i64 s.m.hi] ∧ Y.cell? ⟨b, o + 13, none⟩ = some (.int .i64 st.m.lo) ∧ Y.cell? ⟨b, o + 14, none⟩ = some (.int .i64 st.m.hi) ∧ b < Y.heap.size ∧ Grew w Y) ⟨inferInstance, hc13, hc14, hb, gwr⟩ ?_
  clear hc13 hc14 hb hs1 hs2
  rintro Y ⟨rS, hc13, hc14, hb, gY⟩
  have ib : BlockIn Y b := ⟨hb⟩
  have d13 := cell_is rS 13 rfl
  have d14 := cell_is rS 14 rfl
  go_quiet (fail)
  go_wp2
  go_ret
  exact ⟨rfl, ⟨gY.os, gY.tape, gY.output, gY.size, gY.block⟩⟩
theorem open_byte {H : Type} {enc : TypeId × Value → H} {P : Program} {w : World} {base : Nat} {spare : Nat → Bool} {held : Bool} {r : Go.Reach} {b0 : Nat} {t : TypeId} {v : Value} {d : DataW H} {p : List MemPlace} (hs : P.underlying t = some (.int .u8))
    (hv : Value.okWide P w r b0 t v) (h : DataW.Trod enc P w base spare held t v d p) : ∃ k : Int, v = .int .u8 k ∧ 0 ≤ k ∧ k ≤ 255 := by
  obtain ⟨k, rfl, -, -, hw⟩ := open_int hs hv h
  exact ⟨k, rfl, by simpa [Lit.wf, IntKind.min, IntKind.max, IntKind.signed, IntKind.bits] using hw⟩
namespace flightMassesRow
open Go.ChangeShapes Go.WideShapes Go.ChangeAt Go.RowKit
theorem own : ownKnob Try.prog.godebug = none := by kernel_rfl
theorem lifted (os : Os) (started : os.Started) (H : Type) (enc : TypeId × Value → H) :
    ReturnsInHanded {} Try.checked os 5 .any (Rows.flightMassesSpec.pre6 enc Try.prog Try.f5 Rows.flightMassesRow.domain false) (Rows.flightMassesSpec.post enc Try.prog Try.f5 false true false false) := by
  refine returnsInHanded_of_change (C := Try.checked) own started (by kernel_rfl) Try.func5
    (ChangeSpec.witness6 (enc := enc) (C := Try.checked) false ⟨#[], #[.agg #[.int .i64 0, .int .i64 0, .int .i64 0, .int .i64 0, .int .i64 0, .int .i64 0, .int .i64 0, .int .i64 0, .int .i64 0, .int .i64 0, .int .i64 0, .int .i64 0, .int .i64 0, .int .i64 0, .int .i64 0], .int .u8 0, .int .u8 0], []⟩ 8 (by as_aux_lemma => kernel_rfl) (by as_aux_lemma => kernel_rfl) (by as_aux_lemma => kernel_rfl) (by as_aux_lemma => kernel_rfl)) ?_
  intro W base args ds gs before hval0 hW _ _
  have hval : ∀ (j : Nat) t v, Try.f5.params[j]? = some t → args[j]? = some v → Value.okWide Try.prog W .any base t v := hval0
  have hW' := hW
  obtain ⟨p, q, hA0, hV, rfl, hfz, hnd⟩ := hW
  have hA : DataW.TrodAll enc Try.prog W 0 (fun _ => true) true Try.f5.params.toList args.toList ds p := hA0
  rw [Try.params5] at hA hval
  obtain ⟨v0, vs0, d0, ds0, p0, q0, hargs, rfl, rfl, h0, r0⟩ := trodAll_cons hA
  obtain ⟨v1, vs1, d1, ds1, p1, q1, rfl, rfl, rfl, h1, r1⟩ := trodAll_cons r0
  obtain ⟨v2, vs2, d2, ds2, p2, q2, rfl, rfl, rfl, h2, r2⟩ := trodAll_cons r1
  obtain ⟨rfl, rfl, rfl⟩ := trodAll_nil r2
  obtain rfl : args = #[v0, v1, v2] := by cases args; simp_all
  obtain ⟨rfl, rfl⟩ := trodVars_none hV
  obtain ⟨cs0, rfl, -⟩ := okWide_struct Try.underlying35 (hval 0 35 v0 rfl rfl)
  obtain ⟨a1, rfl, g0, g1⟩ := open_byte Try.underlying5 (hval 1 5 v1 rfl rfl) h1
  obtain ⟨a2, rfl, g2, g3⟩ := open_byte Try.underlying5 (hval 2 5 v2 rfl rfl) h2
  obtain ⟨_, h0⟩ := h0
  obtain ⟨a0, e0, s1, s2, s3, s4, s5, s6, s7, s8, s9, s10, s11, s12, s13, s14, s15⟩ := state_trod h0
  obtain rfl : cs0 = a0.cells.toArray := Array.ext' (by simpa [Value.cells] using e0)
  have hS : St64 a0 := ⟨s1, b64_of s2 s3 s4 s5 s6 s7, b64_of s8 s9 s10 s11 s12 s13, ⟨s14, s15⟩⟩
  refine (masses_walk a0 a1 a2 g0 g1 g2 g3 W).mono fun e W' ⟨he, hg⟩ => ?_
  subst he
  exact ⟨_, rfl, law_post (by kernel_rfl) (by kernel_rfl) rfl rfl Try.underlying4 hW' rfl hg⟩
theorem proved : Rows.FlightMassesSaid :=
  OpenClaim.holds_of_wide 5 Try.f5 rfl rfl rfl rfl rfl rfl rfl ⟨rfl, rfl, rfl, rfl, rfl⟩ rfl rfl rfl rfl rfl (by as_aux_lemma => kernel_rfl) Try.func5 (by as_aux_lemma => kernel_rfl)
    (of_decide_eq_true (by as_aux_lemma => kernel_rfl)) (by unfold Func.isWrapper; first | (rw [if_pos (by decide +kernel)]; kernel_rfl) | (rw [if_neg (by decide +kernel)]; exact ⟨rfl, rfl⟩))
    (fun os started H enc _ => lifted os started H enc)
end flightMassesRow
end Go.Proofs.Ytfcdpilkcinnjaa
