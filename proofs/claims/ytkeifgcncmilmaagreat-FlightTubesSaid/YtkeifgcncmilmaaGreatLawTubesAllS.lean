/-
  The plain law of tubes: they follow each other, have what they come from, touch what they lead to.
  Contract of ullageref03.Long (what it answers is left open); tubes and states of a list, each as a whole.
  FlightTubes: for every planet, arcs (together at most 40 steps, each table of at most 8 points) and state: a flight without an error has tubes that follow each other without a gap, each with what it comes from and something of what it leads to, and its stops are at the ends of the arcs. No condition.
-/
import Derived.Test.YtkeifgcncmilmaaGreatFlyFlyS
import Derived.Test.YtkeifgcncmilmaaGreatOrderS
import Derived.Test.YtkeifgcncmilmaaGreatLaw03WS
import Derived.Deep.DeepCutAuto
import Derived.LoopN
import Derived.Deep.QuietTactic
import Derived.BigQuiet
import Derived.Test.YtkeifgcncmilmaaGreatRows
namespace Go.Proofs.YtkeifgcncmilmaaGreat
set_option maxRecDepth 100000
/-- The time at which the k-th tube begins. -/
def tmAt (s : State) (T : List Tube) : Nat → Int
  | 0 => s.t
  | k + 1 => (T.getD k zTube).z
theorem tmAt_prefix (s : State) (T U : List Tube) : ∀ k, k ≤ T.length → tmAt s (T ++ U) k = tmAt s T k
  | 0, _ => rfl
  | k + 1, h => by
    show ((T ++ U).getD k zTube).z = (T.getD k zTube).z
    rw [List.getD_eq_getElem?_getD, List.getD_eq_getElem?_getD, List.getElem?_append_left (by omega)]
theorem getD_prefix (T U : List Tube) (k : Nat) (h : k < T.length) : (T ++ U).getD k zTube = T.getD k zTube := by
  rw [List.getD_eq_getElem?_getD, List.getD_eq_getElem?_getD, List.getElem?_append_left h]
theorem getD_last (T : List Tube) (t : Tube) : (T ++ [t]).getD T.length zTube = t := by
  rw [List.getD_eq_getElem?_getD, List.getElem?_append_right (Nat.le_refl _)]
  simp
/-- Two boxes and two others have something in common, component by component. -/
def Touch (t : Tube) (s : State) : Prop := ∀ i, orderN (t.p.at i) (s.p.at i) = 0 ∧ orderN (t.v.at i) (s.v.at i) = 0
def Holds (s : State) (t : Tube) : Prop := ∀ i, (s.p.at i).inB (t.p.at i) = true ∧ (s.v.at i).inB (t.v.at i) = true
/-- Where something has come along tubes. -/
structure Trail (s0 s : State) (T : List Tube) : Prop where
  a : ∀ k, k < T.length → (T.getD k zTube).a = tmAt s0 T k
  up : ∀ k : Nat, k ≤ T.length → s0.t ≤ tmAt s0 T k ∧ tmAt s0 T k ≤ s0.t + k * 281474976710656
  last : s.t = tmAt s0 T T.length
  start : T.length = 0 → s.p = s0.p ∧ s.v = s0.v
  first : 0 < T.length → Holds s0 (T.getD 0 zTube)
  touch : 0 < T.length → Touch (T.getD (T.length - 1) zTube) s
theorem Trail.nil (s : State) : Trail s s [] := ⟨fun k h => by simp at h, fun k h => by
  simp at h
  subst h
  simp [tmAt], rfl, fun _ => ⟨rfl, rfl⟩, fun h => by simp at h, fun h => by simp at h⟩
theorem Trail.mass {s0 s : State} {T : List Tube} (H : Trail s0 s T) (m : Sp) : Trail s0 (s.mass m) T := ⟨H.a, H.up, H.last, H.start, H.first, fun h => H.touch h⟩
theorem sq_small {h : Int} (z : (mulR ⟨h, h⟩ ⟨h, h⟩).e = 0) : h < 281474976710656 := by
  have k := mul_has (x := h) (y := h) (a := ⟨h, h⟩) (b := ⟨h, h⟩) ⟨Int.le_refl _, Int.le_refl _⟩ ⟨Int.le_refl _, Int.le_refl _⟩ z
  have b : (mulR ⟨h, h⟩ ⟨h, h⟩).s.hi ≤ 9223372036854775807 := by
    have z2 := z
    unfold mulR at z2 ⊢
    split at z2
    · rename_i c
      rw [if_pos c]
      have := fit_zero z2
      rw [this.1]
      exact this.2.2.2
    · exact absurd z2 (by decide)
  have k2 := k.2
  apply Int.lt_of_not_ge
  intro c
  have : 281474976710656 * 281474976710656 ≤ h * h := Int.mul_le_mul c c (by omega) (by omega)
  omega
theorem meet_order {a b : Sp} (ha : a.okB = true) (hb : b.okB = true) (h : (meetS a b).lo ≤ (meetS a b).hi) : orderN a b = 0 := by
  have h1 := ok_le ha
  have h2 := ok_le hb
  unfold orderN
  rw [ha, hb, if_pos (by rfl)]
  unfold meetS imin imax at h
  simp only at h
  rw [if_neg (by split at h <;> split at h <;> omega), if_neg (by split at h <;> split at h <;> omega)]
theorem Hop.ends {p : Planet} {x : Arc} {l : List Pt} {s : State} {h : Int} {n : State} {T : Tube} {Q V : Bx} {K : Sp} (H : Hop p x l s h n T Q V K) : Touch T n := fun i => by
  have C := H.comp i
  have hf := nw_le C.ff
  have hp := hs_lo (H.okS i).1
  have hv := hs_lo (H.okS i).2
  have kT : Hs 1 ((forceF p x l T.p T.v T.m 0).b.at i) ((forceF p x l T.p T.v T.m 0).b.at i).lo := hs_one (Int.le_refl _) hf
  have kB := hs_wi (by omega) kT C.ff.2
  have ht : (0 ≤ h ∧ h ≤ h) ∨ (h ≤ h ∧ h ≤ 0) := by omega
  have a1 := C.runP (t := h) (by omega) (by omega) ht hp hv kB
  have a2 := C.nextP (by omega) (by omega) hp hv kT
  have a3 := C.runV (t := h) (by omega) (by omega) ht hv kB
  have a4 := C.nextV (by omega) (by omega) hv kT
  refine ⟨meet_order (H.okT i).1 (H.okN i).1 (hs_meet (by omega) a1 ?_), meet_order (H.okT i).2 (H.okN i).2 (hs_meet (by omega) a3 a4)⟩
  refine cast (congrArg (Hs _ _) ?_) a2
  grind
theorem Hop.holds {p : Planet} {x : Arc} {l : List Pt} {s : State} {h : Int} {n : State} {T : Tube} {Q V : Bx} {K : Sp} (H : Hop p x l s h n T Q V K) : Holds s T := fun i => by
  have C := H.comp i
  have h1 := H.okS i
  have h2 := H.okT i
  exact ⟨inB_of ⟨h1.1, all_wi h1.1 fun y hy => C.start (by omega) hy⟩ h2.1, inB_of ⟨h1.2, all_wi h1.2 fun y hy => C.startV (by omega) hy⟩ h2.2⟩
theorem Trail.step {s0 s : State} {T : List Tube} (H : Trail s0 s T) {p : Planet} {x : Arc} {l : List Pt} {h : Int} (hp : PlOk p) (hx : ArOk x) (hh : 0 < h) (z : (stepFF p x l s h).e = 0) : Trail s0 (stepFF p x l s h).s (T ++ [(stepFF p x l s h).t]) := by
  obtain ⟨Q, V, K, P⟩ := hop_of hp hx z
  generalize (stepFF p x l s h).s = n at *
  generalize (stepFF p x l s h).t = t at *
  have hn := P.nt
  have hta : t.a = s.t := by rw [P.ta, hn]; unfold imin; split <;> omega
  have htz : t.z = n.t := by rw [P.tz, hn]; unfold imax; split <;> omega
  have hsm := sq_small P.hh
  have hl : tmAt s0 (T ++ [t]) (T.length + 1) = n.t := by
    show ((T ++ [t]).getD T.length zTube).z = n.t
    rw [getD_last, htz]
  have hu := H.up T.length (Nat.le_refl _)
  have hla := H.last
  refine ⟨fun k hk => ?_, fun k hk => ?_, ?_, fun h0 => by simp at h0, fun _ => ?_, fun _ => ?_⟩
  · rw [List.length_append, List.length_singleton] at hk
    by_cases c : k < T.length
    · rw [getD_prefix _ _ _ c, tmAt_prefix _ _ _ _ (by omega), H.a k c]
    · obtain rfl : k = T.length := by omega
      rw [getD_last, tmAt_prefix _ _ _ _ (Nat.le_refl _), hta, H.last]
  · rw [List.length_append, List.length_singleton] at hk
    by_cases c : k ≤ T.length
    · rw [tmAt_prefix _ _ _ _ c]
      exact H.up k c
    · obtain rfl : k = T.length + 1 := by omega
      rw [hl]
      have : ((T.length + 1 : Nat) : Int) * 281474976710656 = (T.length : Int) * 281474976710656 + 281474976710656 := by
        rw [Int.natCast_add, Int.add_mul]; rfl
      rw [this]
      omega
  · rw [List.length_append, List.length_singleton, hl]
  · by_cases c : 0 < T.length
    · rw [getD_prefix _ _ _ c]
      exact H.first c
    · have c0 : T.length = 0 := by omega
      have : T = [] := List.length_eq_zero_iff.1 c0
      subst this
      obtain ⟨e1, e2⟩ := H.start rfl
      have := P.holds
      intro i
      rw [← e1, ← e2]
      exact this i
  · rw [List.length_append, List.length_singleton, Nat.add_sub_cancel, getD_last]
    exact P.ends
theorem along_prefix (p : Planet) (a : Arc) (l : List Pt) : ∀ (r : List Int) (s : State) (T : List Tube), (alongR p a l s T r).e = 0 → ∃ U, (alongR p a l s T r).T = T ++ U
  | [], _, T, _ => ⟨[], by simp [alongR]⟩
  | h :: r, s, T, z => by
    rw [along_cons] at z ⊢
    split
    · rename_i k
      rw [if_pos k] at z
      obtain ⟨U, hU⟩ := along_prefix p a l r _ _ z
      exact ⟨(stepFF p a l s h).t :: U, by rw [hU]; simp⟩
    · rename_i k
      rw [if_neg k] at z
      exact absurd z k
theorem Trail.along {s0 : State} {p : Planet} {x : Arc} {l : List Pt} (hp : PlOk p) (hx : ArOk x) : ∀ (r : List Int) (s : State) (T : List Tube), Trail s0 s T → (∀ h ∈ r, 0 < h) → (alongR p x l s T r).e = 0 → Trail s0 (alongR p x l s T r).s (alongR p x l s T r).T
  | [], s, T, H, _, _ => H
  | h :: r, s, T, H, hh, z => by
    rw [along_cons] at z ⊢
    split
    · rename_i k
      rw [if_pos k] at z
      exact Trail.along hp hx r _ _ (H.step hp hx (hh h (by simp)) k) (fun y hy => hh y (by simp [hy])) z
    · rename_i k
      rw [if_neg k] at z
      exact absurd z k
theorem lensF_pos (a : Arc) (h1 : 1 ≤ a.time) (h2 : 1 ≤ a.step) : (∀ h ∈ lensF a, 0 < h) ∧ 0 < (lensF a).length := by
  constructor
  · intro h hh
    unfold lensF at hh
    rcases List.mem_append.1 hh with hh | hh
    · have := (List.mem_replicate.1 hh).2
      omega
    · split at hh
      · simp at hh
        omega
      · simp at hh
  · unfold lensF
    rw [List.length_append, List.length_replicate]
    split
    · simp
    · rename_i k
      unfold restA at k
      have n1 := Int.emod_nonneg a.time (show a.step ≠ 0 by omega)
      have n2 := Int.mul_ediv_add_emod a.time a.step
      have n3 : 0 < a.time / a.step := by
        apply Int.lt_of_not_ge
        intro c
        have : a.step * (a.time / a.step) ≤ 0 := Int.mul_nonpos_of_nonneg_of_nonpos (by omega) c
        omega
      unfold fullA
      simp
      omega
/-- The number of steps of the first arcs. -/
def numTo (L : Arcs) (k : Nat) : Nat := ((L.take k).map fun x => (lensF x.1).length).sum
theorem numTo_prefix (L R : Arcs) (k : Nat) (h : k ≤ L.length) : numTo (L ++ R) k = numTo L k := by
  unfold numTo
  rw [List.take_append_of_le_length h]
theorem numTo_last (L : Arcs) (x : Arc × List Pt) : numTo (L ++ [x]) (L.length + 1) = numTo L L.length + (lensF x.1).length := by
  unfold numTo
  rw [show L.length + 1 = (L ++ [x]).length by simp, List.take_length, List.take_length]
  simp
/-- A flight so far. -/
structure Flight (s0 s : State) (L : Arcs) (S : List State) (T : List Tube) : Prop where
  tr : Trail s0 s T
  ls : S.length = L.length
  lt : T.length = numTo L L.length
  st : ∀ i, i < S.length → (S.getD i zState).t = tmAt s0 T (numTo L (i + 1))
  mt : ∀ i, i < S.length → 0 < numTo L (i + 1) ∧ numTo L (i + 1) ≤ T.length ∧ Touch (T.getD (numTo L (i + 1) - 1) zTube) (S.getD i zState)
theorem Flight.nil (s : State) : Flight s s [] [] [] := ⟨Trail.nil s, rfl, rfl, fun i h => by simp at h, fun i h => by simp at h⟩
theorem Flight.arc {s0 s : State} {L : Arcs} {S : List State} {T : List Tube} (H : Flight s0 s L S T) {p : Planet} (hp : PlOk p) (x : Arc × List Pt) (hx : x.1.okB x.2 = true) (z : (alongR p x.1 x.2 s T (lensF x.1)).e = 0) (m : Sp) :
    Flight s0 ((alongR p x.1 x.2 s T (lensF x.1)).s.mass m) (L ++ [x]) (S ++ [(alongR p x.1 x.2 s T (lensF x.1)).s.mass m]) (alongR p x.1 x.2 s T (lensF x.1)).T := by
  obtain ⟨t1, t2⟩ := arc_times hx
  obtain ⟨k1, k2⟩ := lensF_pos x.1 t1 t2
  have hT := (Trail.along hp (ArOk.of hx) (lensF x.1) s T H.tr k1 z).mass m
  obtain ⟨U, hU⟩ := along_prefix p x.1 x.2 _ s T z
  have hl := along_len p x.1 x.2 s T _ z
  generalize (alongR p x.1 x.2 s T (lensF x.1)).s.mass m = n at *
  generalize (alongR p x.1 x.2 s T (lensF x.1)).T = T2 at *
  have hls := H.ls
  have hlt := H.lt
  have hn := numTo_last L x
  refine ⟨hT, by simp [hls], by rw [List.length_append, List.length_singleton, hn, hl, hlt], fun i hi => ?_, fun i hi => ?_⟩
  · rw [List.length_append, List.length_singleton] at hi
    by_cases c : i < S.length
    · have h1 := H.mt i c
      rw [numTo_prefix _ _ _ (by omega), hU, tmAt_prefix _ _ _ _ h1.2.1, List.getD_eq_getElem?_getD, List.getElem?_append_left c, ← List.getD_eq_getElem?_getD]
      exact H.st i c
    · obtain rfl : i = S.length := by omega
      rw [List.getD_eq_getElem?_getD, List.getElem?_append_right (Nat.le_refl _), hls, hn, ← hlt, ← hl]
      simpa using hT.last
  · rw [List.length_append, List.length_singleton] at hi
    by_cases c : i < S.length
    · have h1 := H.mt i c
      rw [numTo_prefix _ _ _ (by omega)]
      refine ⟨h1.1, by rw [hl]; omega, ?_⟩
      rw [hU, getD_prefix _ _ _ (by omega), List.getD_eq_getElem?_getD (l := S ++ [n]), List.getElem?_append_left c, ← List.getD_eq_getElem?_getD]
      exact h1.2.2
    · obtain rfl : i = S.length := by omega
      rw [hls, hn, ← hlt, ← hl]
      refine ⟨by omega, Nat.le_refl _, ?_⟩
      rw [List.getD_eq_getElem?_getD (l := S ++ [n]), List.getElem?_append_right (by omega)]
      simpa [hls] using hT.touch (by omega)
theorem Flight.go {s0 : State} {p : Planet} (hp : PlOk p) : ∀ (r L : Arcs) (s : State) (S : List State) (T : List Tube), Flight s0 s L S T → (∀ x ∈ r, x.1.okB x.2 = true) → (flyGo p s S T r).e = 0 → ∃ s', Flight s0 s' (L ++ r) (flyGo p s S T r).stops (flyGo p s S T r).tubes
  | [], L, s, S, T, H, _, _ => ⟨s, by simpa [flyGo] using H⟩
  | x :: r, L, s, S, T, H, hr, z => by
    unfold flyGo at z ⊢
    split
    · rename_i k
      rw [if_pos k] at z
      split
      · rename_i k2
        rw [if_pos k2] at z
        have := Flight.go hp r (L ++ [x]) _ _ _ (H.arc hp x (hr x (by simp)) k _) (fun y hy => hr y (by simp [hy])) z
        rwa [List.append_assoc] at this
      · rename_i k2
        rw [if_neg k2] at z
        exact absurd z k2
    · rename_i k
      rw [if_neg k] at z
      exact absurd z k
theorem flight_of {p : Planet} {L : Arcs} {s : State} (z : (flyR p L s).e = 0) : checkE p L s = 0 ∧ ∃ s', Flight s s' L (flyR p L s).stops (flyR p L s).tubes := by
  unfold flyR at z ⊢
  split at z
  · rename_i k
    rw [if_pos k]
    obtain ⟨h1, -, -, -, h5⟩ := check_zero k
    exact ⟨k, by simpa using Flight.go (PlOk.of h1) L [] s [] [] (Flight.nil s) h5 z⟩
  · rename_i k
    exact absurd z k
theorem num_bound : ∀ (L : Arcs) (s : Int), fitB 4096 s L = true → (∀ x ∈ L, x.1.okB x.2 = true) → s + (numTo L L.length : Nat) ≤ 4096 ∨ L = []
  | [], _, _, _ => Or.inr rfl
  | x :: r, s, h, hx => by
    obtain ⟨a1, a2, a3⟩ := fit_head h
    have e := lens_num false (hx x (by simp)) a1
    have ih := num_bound r _ a3 (fun y hy => hx y (by simp [hy]))
    left
    have e2 : numTo (x :: r) (x :: r).length = (lensF x.1).length + numTo r r.length := by
      unfold numTo
      rw [List.take_length, List.take_length]
      simp
    rw [e2]
    have e3 : ((lensF x.1).length : Int) = stepsNum x.1 x.2 := e
    rcases ih with ih | ih
    · omega
    · subst ih
      simp [numTo]
      omega
theorem numTo_succ (L : Arcs) (i : Nat) (h : i < L.length) : numTo L (i + 1) = numTo L i + (lensF L[i].1).length := by
  unfold numTo
  rw [List.take_succ_eq_append_getElem h, List.map_append, List.sum_append]
  simp only [List.map_cons, List.map_nil, List.sum_cons, List.sum_nil, Nat.add_zero]
theorem numTo_mono (L : Arcs) : ∀ j i, i ≤ j → numTo L i ≤ numTo L j := by
  intro j
  induction j with
  | zero => intro i h; simp at h; subst h; exact Nat.le_refl _
  | succ j ih =>
    intro i h
    by_cases c : i = j + 1
    · subst c; exact Nat.le_refl _
    · have h1 := ih i (by omega)
      by_cases c2 : j < L.length
      · have := numTo_succ L j c2
        omega
      · have : numTo L (j + 1) = numTo L j := by
          unfold numTo
          rw [List.take_of_length_le (by omega), List.take_of_length_le (by omega)]
        omega
/-- The tubes of a flight without an error. -/
structure FlownT (L : Arcs) (s : State) (S : List State) (T : List Tube) (n : Nat → Nat) (tm : Nat → Int) : Prop where
  n0 : n 0 = 0
  num : ∀ i (h : i < L.length), stepsNum L[i].1 L[i].2 = ((n (i + 1) : Nat) : Int) - ((n i : Nat) : Int)
  lt : ∀ i, i < L.length → n i < n (i + 1) ∧ n (i + 1) ≤ T.length
  tl : T.length = n L.length
  few : T.length ≤ 4096
  sl : S.length = L.length
  t0 : tm 0 = s.t
  ta : ∀ k (h : k < T.length), T[k].a = tm k ∧ T[k].z = tm (k + 1)
  up : ∀ k, k ≤ T.length → s.t ≤ tm k ∧ tm k ≤ s.t + 1152921504606846976
  st : ∀ i (h : i < S.length), S[i].t = tm (n (i + 1))
  touch : ∀ i (h : i < S.length) (h2 : n (i + 1) - 1 < T.length), Touch T[n (i + 1) - 1] S[i]
  first : ∀ h : 0 < T.length, Holds s T[0]
theorem getD_get {α : Type} (l : List α) (d : α) (k : Nat) (h : k < l.length) : l.getD k d = l[k] := by
  rw [List.getD_eq_getElem?_getD, List.getElem?_eq_getElem h]
  rfl
theorem fit_codes : ∀ (L : Arcs) (s : Int), fitB 4096 s L = true → ∀ x ∈ L, stepsCode x.1 x.2 = 0
  | [], _, _, x, hx => by simp at hx
  | y :: r, s, h, x, hx => by
    obtain ⟨a1, a2, a3⟩ := fit_head h
    rcases List.mem_cons.1 hx with e | e
    · subst e; exact a1
    · exact fit_codes r _ a3 x e
theorem flown_facts {p : Planet} {L : Arcs} {s : State} (z : (flyR p L s).e = 0) : checkE p L s = 0 ∧ FlownT L s (flyR p L s).stops (flyR p L s).tubes (numTo L) (tmAt s (flyR p L s).tubes) := by
  obtain ⟨hc, s', F⟩ := flight_of z
  obtain ⟨-, -, -, hf, hok⟩ := check_zero hc
  have hnum : ∀ i (h : i < L.length), stepsNum L[i].1 L[i].2 = ((lensF L[i].1).length : Int) := fun i h => (lens_num false (hok _ (List.getElem_mem h)) (fit_codes L 0 hf _ (List.getElem_mem h))).symm
  have hle : numTo L L.length ≤ 4096 := by
    rcases num_bound L 0 hf hok with h | h
    · omega
    · subst h; simp [numTo]
  generalize (flyR p L s).stops = S at *
  generalize (flyR p L s).tubes = T at *
  have hlt := F.lt
  have hls := F.ls
  refine ⟨hc, ⟨rfl, fun i h => ?_, fun i h => ?_, hlt, by omega, hls, rfl, fun k h => ⟨?_, ?_⟩, fun k h => ?_, fun i h => ?_, fun i h h2 => ?_, fun h => ?_⟩⟩
  · rw [hnum i h, numTo_succ L i h]
    omega
  · have h1 := numTo_succ L i h
    have h2 := numTo_mono L L.length (i + 1) (by omega)
    obtain ⟨t1, t2⟩ := arc_times (hok _ (List.getElem_mem h))
    have := (lensF_pos L[i].1 t1 t2).2
    omega
  · have := F.tr.a k h
    rwa [getD_get _ _ _ h] at this
  · show _ = (T.getD k zTube).z
    rw [getD_get _ _ _ h]
  · have := F.tr.up k h
    have h4 : (k : Int) * 281474976710656 ≤ 4096 * 281474976710656 := Int.mul_le_mul_of_nonneg_right (by omega) (by omega)
    omega
  · have := F.st i h
    rwa [getD_get _ _ _ h] at this
  · have := (F.mt i h).2.2
    rwa [getD_get _ _ _ h, getD_get _ _ _ h2] at this
  · have := F.tr.first h
    rwa [getD_get _ _ _ h] at this
theorem flyGo_err (p : Planet) : ∀ (r : Arcs) (s : State) (S : List State) (T : List Tube), (flyGo p s S T r).e ≠ 0 → flyGo p s S T r = flyErr (flyGo p s S T r).e
  | [], _, _, _, h => absurd rfl h
  | x :: r, s, S, T, h => by
    unfold flyGo at h ⊢
    split
    · rename_i k
      rw [if_pos k] at h
      split
      · rename_i k2
        rw [if_pos k2] at h
        exact flyGo_err p r _ _ _ h
      · rfl
    · rfl
theorem flyR_err {p : Planet} {L : Arcs} {s : State} (h : (flyR p L s).e ≠ 0) : (flyR p L s).stops = [] ∧ (flyR p L s).tubes = [] := by
  unfold flyR at h ⊢
  split
  · rename_i k
    rw [if_pos k] at h
    rw [flyGo_err p L s [] [] h]
    exact ⟨rfl, rfl⟩
  · exact ⟨rfl, rfl⟩
end Go.Proofs.YtkeifgcncmilmaaGreat
namespace Go.Proofs.YtkeifgcncmilmaaGreat
open Go.RowKit Go.Shelf
set_option maxRecDepth 100000
set_option maxHeartbeats 16000000
set_option linter.unusedSimpArgs false
theorem tube_elem {w : World} {v : Value} {T : List Tube} (h : SlAt w v T.length (T.flatMap Tube.cells)) : ∃ ao cap, v = .slice ao T.length cap ∧ T.length ≤ 9223372036854775807 ∧ ∀ k (hk : k < T.length), ∃ b o, ao = some ⟨b, o, none⟩ ∧ b < w.heap.size ∧ RangeIs w b (o + k * 16) 16 (T[k]'hk).cells := by
  obtain ⟨ao, cap, rfl, hm, hc⟩ := h
  unfold maxLen at hm
  refine ⟨ao, cap, rfl, by omega, fun k hk => ?_⟩
  obtain ⟨b, o, e, hb, -, h2⟩ := SlAt.elem (f := Tube.cells) (c := 16) (fun _ => rfl) (by omega) hc k hk
  exact ⟨b, o, e, hb, ⟨fun j u hu => h2 j u hu, rfl⟩⟩
theorem state_elem {w : World} {v : Value} {S : List State} (h : SlAt w v S.length (S.flatMap State.cells)) : ∃ ao cap, v = .slice ao S.length cap ∧ S.length ≤ 9223372036854775807 ∧ ∀ k (hk : k < S.length), ∃ b o, ao = some ⟨b, o, none⟩ ∧ b < w.heap.size ∧ RangeIs w b (o + k * 15) 15 (S[k]'hk).cells := by
  obtain ⟨ao, cap, rfl, hm, hc⟩ := h
  unfold maxLen at hm
  refine ⟨ao, cap, rfl, by omega, fun k hk => ?_⟩
  obtain ⟨b, o, e, hb, -, h2⟩ := SlAt.elem (f := State.cells) (c := 15) (fun _ => rfl) (by omega) hc k hk
  exact ⟨b, o, e, hb, ⟨fun j u hu => h2 j u hu, rfl⟩⟩
/-- A yes or a no. -/
def AnyB (e : Ending) : Prop := ∃ b, e = .returned (.bool b)
theorem r3Long_any (most : Int) (L : Arcs) (v : Value) (w : World) (hd : ArcsAt w v L) : Calls Tryz.prog 12 #[v, .int .i64 most] w (fun e w' => AnyB e ∧ Grew w w') := by
  have Hdr := Lib.hid hd.2
  obtain ⟨ao, cap, rfl, hm, hel⟩ := arc_elem hd
  have Hel := Lib.hid hel
  clear hd hel
  go_enter Tryz.func12, Tryz.ntmps12
  go_wp2
  go_loopw [5, 6] (fun q t wr => ∃ (k : Nat) (sm : Int), t = .int .i64 k ∧ q = .int .i64 sm ∧ k ≤ L.length ∧ Grew w wr) (fun _ t _ => L.length - (intOf t).toNat)
  case atStart => exact ⟨0, 0, rfl, rfl, by omega, gw⟩
  case round =>
    obtain ⟨k, sm, rfl, rfl, hk, hg⟩ := hrel
    obtain ⟨z, rfl⟩ := later_of hg
    clear hg
    by_cases hlt : k < L.length ∧ k ≤ 32
    · obtain ⟨hlt, h32⟩ := hlt
      obtain ⟨b, o, rfl, hb, hr⟩ := Hel.out k hlt
      obtain ⟨hdr, ht, hst⟩ := Hdr.out _ (List.getElem_mem hlt)
      have HA := Lib.hid (fun w' (g : Grew w w') => show Calls Tryz.prog 34 #[.agg L[k].1.cells.toArray] w' _ from r3Steps_any L[k].1 L[k].2 w' (hdr.grew g) ht hst)
      have ib : BlockIn w b := ⟨hb⟩
      have rz := hr.grew z.grew
      have hd12 := hr.is 12 _ rfl
      clear Hel Hdr hdr hr ht hst
      generalize stepsNum L[k].1 L[k].2 = sn at *
      generalize stepsCode L[k].1 L[k].2 = sc at *
      generalize L[k].1 = x at *
      by_cases h11 : sc = 0
      · have h11' : (sc == 0) = true := by simp [h11]
        clear h11
        by_cases h8 : 8 < x.drag.n
        · have h8' : (8 : Int) < x.drag.n := by omega
          go_wp2_with (first | (go_at_call 34; (with_reducible refine call_later (HA.out _ ?_) ?_); (· exact gwr); intro u) | ((with_reducible refine wpList_load_rng ?_ ?_ ?_ ?_ ?_ ?_ ?_ ?_ ?_ ?_ ?_ ?_); rotate_left 6; (· rfl); (· rfl); (· rfl); (· infer_instance); (· infer_instance)) | ((with_reducible refine wpList_load_is ?_ ?_ ?_ ?_ ?_ ?_ ?_ ?_ ?_ ?_ ?_ ?_ ?_); rotate_left 6; (· rfl); (· rfl); (· rfl); (· infer_instance); (· infer_instance); (· rfl)) | ((with_reducible refine wpList_store_fresh ?_ ?_ ?_ ?_ ?_ ?_ ?_ ?_ ?_ ?_ ?_ ?_ ?_ ?_ ?_ ?_ ?_); rotate_left 5; (· rfl); (· rfl); (· rfl); (· rfl); (· rfl); (· infer_instance); (· infer_instance); (· infer_instance); (· infer_instance)) | ((with_reducible refine wpList_store_is ?_ ?_ ?_ ?_ ?_ ?_ ?_ ?_ ?_ ?_ ?_ ?_ ?_ ?_ ?_ ?_ ?_); rotate_left 7; (· rfl); (· rfl); (· rfl); (· rfl); (· rfl); (· infer_instance); (· infer_instance); (· infer_instance); (· infer_instance)))
          go_ret
          exact ⟨⟨_, rfl⟩, gwr⟩
        · have h8' : ¬ ((8 : Int) < x.drag.n) := by omega
          go_wp2_with (first | (go_at_call 34; (with_reducible refine call_later (HA.out _ ?_) ?_); (· exact gwr); intro u) | ((with_reducible refine wpList_load_rng ?_ ?_ ?_ ?_ ?_ ?_ ?_ ?_ ?_ ?_ ?_ ?_); rotate_left 6; (· rfl); (· rfl); (· rfl); (· infer_instance); (· infer_instance)) | ((with_reducible refine wpList_load_is ?_ ?_ ?_ ?_ ?_ ?_ ?_ ?_ ?_ ?_ ?_ ?_ ?_); rotate_left 6; (· rfl); (· rfl); (· rfl); (· infer_instance); (· infer_instance); (· rfl)) | ((with_reducible refine wpList_store_fresh ?_ ?_ ?_ ?_ ?_ ?_ ?_ ?_ ?_ ?_ ?_ ?_ ?_ ?_ ?_ ?_ ?_); rotate_left 5; (· rfl); (· rfl); (· rfl); (· rfl); (· rfl); (· infer_instance); (· infer_instance); (· infer_instance); (· infer_instance)) | ((with_reducible refine wpList_store_is ?_ ?_ ?_ ?_ ?_ ?_ ?_ ?_ ?_ ?_ ?_ ?_ ?_ ?_ ?_ ?_ ?_); rotate_left 7; (· rfl); (· rfl); (· rfl); (· rfl); (· rfl); (· infer_instance); (· infer_instance); (· infer_instance); (· infer_instance)))
          go_roundw
          case rel => exact ⟨k + 1, _, by go_num, rfl, by omega, gwr⟩
          case measure => simp [intOf]; omega
      · have h11' : (sc == 0) = false := by simp [h11]
        clear h11
        by_cases h8 : 8 < x.drag.n
        · have h8' : (8 : Int) < x.drag.n := by omega
          go_wp2_with (first | (go_at_call 34; (with_reducible refine call_later (HA.out _ ?_) ?_); (· exact gwr); intro u) | ((with_reducible refine wpList_load_rng ?_ ?_ ?_ ?_ ?_ ?_ ?_ ?_ ?_ ?_ ?_ ?_); rotate_left 6; (· rfl); (· rfl); (· rfl); (· infer_instance); (· infer_instance)) | ((with_reducible refine wpList_load_is ?_ ?_ ?_ ?_ ?_ ?_ ?_ ?_ ?_ ?_ ?_ ?_ ?_); rotate_left 6; (· rfl); (· rfl); (· rfl); (· infer_instance); (· infer_instance); (· rfl)) | ((with_reducible refine wpList_store_fresh ?_ ?_ ?_ ?_ ?_ ?_ ?_ ?_ ?_ ?_ ?_ ?_ ?_ ?_ ?_ ?_ ?_); rotate_left 5; (· rfl); (· rfl); (· rfl); (· rfl); (· rfl); (· infer_instance); (· infer_instance); (· infer_instance); (· infer_instance)) | ((with_reducible refine wpList_store_is ?_ ?_ ?_ ?_ ?_ ?_ ?_ ?_ ?_ ?_ ?_ ?_ ?_ ?_ ?_ ?_ ?_); rotate_left 7; (· rfl); (· rfl); (· rfl); (· rfl); (· rfl); (· infer_instance); (· infer_instance); (· infer_instance); (· infer_instance)))
          go_ret
          exact ⟨⟨_, rfl⟩, gwr⟩
        · have h8' : ¬ ((8 : Int) < x.drag.n) := by omega
          go_wp2_with (first | (go_at_call 34; (with_reducible refine call_later (HA.out _ ?_) ?_); (· exact gwr); intro u) | ((with_reducible refine wpList_load_rng ?_ ?_ ?_ ?_ ?_ ?_ ?_ ?_ ?_ ?_ ?_ ?_); rotate_left 6; (· rfl); (· rfl); (· rfl); (· infer_instance); (· infer_instance)) | ((with_reducible refine wpList_load_is ?_ ?_ ?_ ?_ ?_ ?_ ?_ ?_ ?_ ?_ ?_ ?_ ?_); rotate_left 6; (· rfl); (· rfl); (· rfl); (· infer_instance); (· infer_instance); (· rfl)) | ((with_reducible refine wpList_store_fresh ?_ ?_ ?_ ?_ ?_ ?_ ?_ ?_ ?_ ?_ ?_ ?_ ?_ ?_ ?_ ?_ ?_); rotate_left 5; (· rfl); (· rfl); (· rfl); (· rfl); (· rfl); (· infer_instance); (· infer_instance); (· infer_instance); (· infer_instance)) | ((with_reducible refine wpList_store_is ?_ ?_ ?_ ?_ ?_ ?_ ?_ ?_ ?_ ?_ ?_ ?_ ?_ ?_ ?_ ?_ ?_); rotate_left 7; (· rfl); (· rfl); (· rfl); (· rfl); (· rfl); (· infer_instance); (· infer_instance); (· infer_instance); (· infer_instance)))
          go_roundw
          case rel => exact ⟨k + 1, _, by go_num, rfl, by omega, gwr⟩
          case measure => simp [intOf]; omega
    · by_cases h1 : k < L.length
      · have h2 : ¬ ((k : Int) ≤ 32) := by omega
        clear Hel Hdr
        by_cases hq : most < sm
        · go_wp2
          go_ret
          exact ⟨⟨_, rfl⟩, gwr⟩
        · by_cases h34 : (34 : Int) < L.length
          all_goals
            go_wp2
            go_ret
            exact ⟨⟨_, rfl⟩, gwr⟩
      · clear Hel Hdr
        by_cases hq : most < sm
        · go_wp2
          go_ret
          exact ⟨⟨_, rfl⟩, gwr⟩
        · by_cases h34 : (34 : Int) < L.length
          all_goals
            go_wp2
            go_ret
            exact ⟨⟨_, rfl⟩, gwr⟩
end Go.Proofs.YtkeifgcncmilmaaGreat
namespace Go.Proofs.YtkeifgcncmilmaaGreat
open Go.RowKit Go.ChangeShapes Go.WideShapes Go.ChangeAt Go.Deep
set_option maxRecDepth 100000
set_option maxHeartbeats 16000000
set_option linter.unusedSimpArgs false
theorem wrap_at (x : Int) (h1 : -9223372036854775808 ≤ x) (h2 : x ≤ 9223372036854775807) : IntKind.i64.wrap x = x := by simp [IntKind.wrap, IntKind.bits, IntKind.signed]; omega
section
variable {H : Type} {enc : TypeId × Value → H} {w : World} {base : Nat} {spare : Nat → Bool} {held : Bool}
theorem arcsI_trod {fuel : Nat} {cs : List Value} {x : DataW H × List MemPlace} (h : DataW.trod enc Tryz.prog w base spare held fuel 44 cs = some x) :
    ∃ (ao : Option Addr) (m cap : Nat) (l : Arcs), cs = [.slice ao m cap] ∧ ArcsAt w (.slice ao m cap) l ∧ ArcsI l := by
  obtain ⟨ao, n, cap, l, e, -, h1, h2⟩ := slice_trod arcCells (c := 15) (fun _ => rfl) (fun x => (DragAt w x.1 x.2 ∧ x.1.time ≤ 9223372036854775807 ∧ x.1.step ≤ 9223372036854775807) ∧ S64 x.1.thrust ∧ S64 x.1.flow ∧ B64 x.1.dir ∧ S64 x.1.drop) Tryz.underlying44 (by kernel_rfl) (fun m cs' x' h' => by obtain ⟨a, l, e, hd, i1, i2, i3, i4, i5, i6, i7, i8, i9, i10, i11, i12, i13, i14⟩ := arc_trod h'; exact ⟨(a, l), e, ⟨hd, i1.2, i2.2⟩, ⟨i3, i4⟩, ⟨i5, i6⟩, b64_of i7 i8 i9 i10 i11 i12, ⟨i13, i14⟩⟩) h
  exact ⟨ao, n, cap, l, e, ⟨h1, fun x hx => (h2 x hx).1⟩, fun x hx => (h2 x hx).2⟩
end
theorem tubes_walk (p : Planet) (L : Arcs) (s : State) [hp : Pl64 p] [hs : St64 s] (hL : ArcsI L) (v : Value) (w : World) (hd : ArcsAt w v L) :
    Calls Tryz.prog 5 #[.agg p.cells.toArray, v, .agg s.cells.toArray] w fun e w' => e = .returned (.bool true) ∧ Grew w w' := by
  have HLong := Lib.hid (fun w' (g : Grew w w') => r3Long_any 40 L v w' (hd.grew g))
  have HF := Lib.hid (fun w' (g : Grew w w') => show Calls Tryz.prog 13 #[.agg p.cells.toArray, v, .agg s.cells.toArray] w' (RetFl (flyR p L s) w') from flFly_any p L s hL v w' (hd.grew g))
  have HX := Lib.hid (fun z => @flown_facts p L s z)
  have HE := Lib.hid (fun z => @flyR_err p L s z)
  generalize flyR p L s = R at *
  generalize numTo L = n at *
  by_cases e1 : R.e = 0
  rotate_left
  · have te1 : (R.e != 0) = true := by simp [e1]
    obtain ⟨q1, q2⟩ := HE.out e1
    clear HX HE hd
    obtain ⟨R1, R2, R3⟩ := R
    simp only at q1 q2 te1 e1
    subst q1
    subst q2
    clear e1
    go_enter Tryz.func5, Tryz.ntmps5
    go_wp2_with (first | (go_at_call 19; (with_reducible refine call_later (l3Alive_any _) ?_); intro ua) | (go_at_call 12; (with_reducible refine (HLong.out _ ?_).mono ?_); (· exact gwr); rintro en w1 ⟨⟨b, rfl⟩, hg⟩; obtain ⟨ul, rfl⟩ := later_of hg; clear hg; cases b) | (go_at_call 13; (with_reducible refine (HF.out _ ?_).mono ?_); (· exact gwr); rintro en w2 ⟨v1, v2, rfl, hs1, hs2, hg⟩; obtain ⟨uy, rfl⟩ := later_of hg; clear hg; obtain ⟨ao1, cap1, rfl, -, -⟩ := hs1; obtain ⟨ao2, cap2, rfl, -, -⟩ := hs2) | ((with_reducible refine wpList_built ?_ ?_ ?_ ?_ ?_ ?_ ?_ ?_ ?_); rotate_left 4; (· rfl); (· rfl); (· rfl); (· infer_instance)) | ((with_reducible refine wpList_load_rng ?_ ?_ ?_ ?_ ?_ ?_ ?_ ?_ ?_ ?_ ?_ ?_); rotate_left 6; (· rfl); (· rfl); (· rfl); (· infer_instance); (· infer_instance)) | ((with_reducible refine wpList_load_is ?_ ?_ ?_ ?_ ?_ ?_ ?_ ?_ ?_ ?_ ?_ ?_ ?_); rotate_left 6; (· rfl); (· rfl); (· rfl); (· infer_instance); (· infer_instance); (· rfl)) | ((with_reducible refine wpList_store_fresh ?_ ?_ ?_ ?_ ?_ ?_ ?_ ?_ ?_ ?_ ?_ ?_ ?_ ?_ ?_ ?_ ?_); rotate_left 5; (· rfl); (· rfl); (· rfl); (· rfl); (· rfl); (· infer_instance); (· infer_instance); (· infer_instance); (· infer_instance)) | ((with_reducible refine wpList_store_is ?_ ?_ ?_ ?_ ?_ ?_ ?_ ?_ ?_ ?_ ?_ ?_ ?_ ?_ ?_ ?_ ?_); rotate_left 7; (· rfl); (· rfl); (· rfl); (· rfl); (· rfl); (· infer_instance); (· infer_instance); (· infer_instance); (· infer_instance)))
    all_goals go_ret
    all_goals exact ⟨rfl, gwr⟩
  have te1 : (R.e != 0) = false := by simp [e1]
  obtain ⟨-, hfl⟩ := HX.out e1
  have Hfl := Lib.hid hfl
  have Hdr := Lib.hid hd.2
  obtain ⟨ao, cap, rfl, hm, hel⟩ := arc_elem hd
  have Hel := Lib.hid hel
  clear HX HE hd hel hfl
  generalize tmAt s R.tubes = tm at *
  obtain ⟨S, T, e⟩ := R
  simp only at e1 te1
  subst e1
  go_enter Tryz.func5, Tryz.ntmps5
  go_upto_region 7 with (first | (go_at_call 19; (with_reducible refine call_later (l3Alive_any _) ?_); intro ua) | (go_at_call 12; (with_reducible refine (HLong.out _ ?_).mono ?_); (· exact gwr); rintro en w1 ⟨⟨b, rfl⟩, hg⟩; obtain ⟨ul, rfl⟩ := later_of hg; clear hg; cases b) | (go_at_call 13; (with_reducible refine (HF.out _ ?_).mono ?_); (· exact gwr); rintro en w2 ⟨v1, v2, rfl, hs1, hs2, hg⟩; obtain ⟨uy, rfl⟩ := later_of hg; clear hg) | ((with_reducible refine wpList_built ?_ ?_ ?_ ?_ ?_ ?_ ?_ ?_ ?_); rotate_left 4; (· rfl); (· rfl); (· rfl); (· infer_instance)) | ((with_reducible refine wpList_load_rng ?_ ?_ ?_ ?_ ?_ ?_ ?_ ?_ ?_ ?_ ?_ ?_); rotate_left 6; (· rfl); (· rfl); (· rfl); (· infer_instance); (· infer_instance)) | ((with_reducible refine wpList_load_is ?_ ?_ ?_ ?_ ?_ ?_ ?_ ?_ ?_ ?_ ?_ ?_ ?_); rotate_left 6; (· rfl); (· rfl); (· rfl); (· infer_instance); (· infer_instance); (· rfl)) | ((with_reducible refine wpList_store_fresh ?_ ?_ ?_ ?_ ?_ ?_ ?_ ?_ ?_ ?_ ?_ ?_ ?_ ?_ ?_ ?_ ?_); rotate_left 5; (· rfl); (· rfl); (· rfl); (· rfl); (· rfl); (· infer_instance); (· infer_instance); (· infer_instance); (· infer_instance)) | ((with_reducible refine wpList_store_is ?_ ?_ ?_ ?_ ?_ ?_ ?_ ?_ ?_ ?_ ?_ ?_ ?_ ?_ ?_ ?_ ?_); rotate_left 7; (· rfl); (· rfl); (· rfl); (· rfl); (· rfl); (· infer_instance); (· infer_instance); (· infer_instance); (· infer_instance)))
  rotate_left
  · go_wp2
    go_ret
    exact ⟨rfl, gwr⟩
  obtain ⟨ao1, cap1, rfl, hm1, hel1⟩ := state_elem hs1
  obtain ⟨ao2, cap2, rfl, hm2, hel2⟩ := tube_elem hs2
  refine wp_named (fun Y => RowIs Y (w.heap.size + 1) 28 s.cells ∧ Hid (∀ k (hk : k < S.length), ∃ b o, ao1 = some ⟨b, o, none⟩ ∧ b < Y.heap.size ∧ RangeIs Y b (o + k * 15) 15 S[k].cells) ∧ Hid (∀ k (hk : k < T.length), ∃ b o, ao2 = some ⟨b, o, none⟩ ∧ b < Y.heap.size ∧ RangeIs Y b (o + k * 16) 16 T[k].cells) ∧ Grew w Y) ⟨inferInstance, Lib.hid hel1, Lib.hid hel2, gwr⟩ ?_
  clear hs1 hs2 hel1 hel2
  rintro Yw ⟨rS, HS, HT, gY⟩
  obtain ⟨Y, rfl⟩ := later_of gY
  clear gY
  have hSl : S.length = L.length := Hfl.out.sl
  rw [hSl] at hm1 ⊢
  have hm2' := Hfl.out.few
  have iS := rS.blockIn
  go_wp2_with (first | ((with_reducible refine wpList_load_is ?_ ?_ ?_ ?_ ?_ ?_ ?_ ?_ ?_ ?_ ?_ ?_ ?_); rotate_left 6; (· rfl); (· rfl); (· rfl); (· infer_instance); (· infer_instance); (· rfl)))
  go_loopw [11, 12, 50] (fun a11 k12 t wr => ∃ (i m : Nat) (A : Int), t = .int .i64 i ∧ k12 = .int .i64 m ∧ a11 = .int .i64 A ∧ i ≤ L.length ∧ Hid (m = n i ∧ A = tm m) ∧ Grew Y.world wr) (fun _ _ t _ => L.length - (intOf t).toNat)
  case atStart => exact ⟨0, 0, s.t, rfl, rfl, rfl, by omega, Lib.hid ⟨Hfl.out.n0.symm, Hfl.out.t0.symm⟩, gwr⟩
  case round =>
    obtain ⟨i, m, A, rfl, rfl, rfl, hi, Hm, hg⟩ := hrel
    obtain ⟨z, rfl⟩ := later_of hg
    clear hg
    by_cases hlt : i < L.length
    · obtain ⟨b, o, rfl, hb, hr⟩ := Hel.out i hlt
      obtain ⟨hdr, ht, hst⟩ := Hdr.out _ (List.getElem_mem hlt)
      have ib : BlockIn w b := ⟨hb⟩
      have rz := (hr.grew Y.grew).grew z.grew
      obtain ⟨d, hd⟩ : ∃ d : Nat, n (i + 1) = m + d := ⟨n (i + 1) - m, by have := (Hfl.out.lt i hlt).1; rw [← Hm.out.1] at this; omega⟩
      have hd1 : 0 < d := by have := (Hfl.out.lt i hlt).1; rw [← Hm.out.1] at this; omega
      have hdT : m + d ≤ T.length := by have := (Hfl.out.lt i hlt).2; omega
      have hnum : stepsNum L[i].1 L[i].2 = d := by rw [Hfl.out.num i hlt, hd, ← Hm.out.1]; omega
      have HA := Lib.hid (fun w' (g : Grew w w') => show Calls Tryz.prog 20 #[.agg L[i].1.cells.toArray] w' (fun e w2 => e = .returned (.tuple #[.int .i64 d, .int .i64 (stepsCode L[i].1 L[i].2)]) ∧ Grew w' w2) from by
        have h := flSteps_any L[i].1 L[i].2 w' (hdr.grew g) ht hst
        rw [hnum] at h
        exact h)
      have Hd := Lib.hid hd
      clear Hel Hdr hdr hr ht hst hnum hd
      generalize stepsCode L[i].1 L[i].2 = sc at *
      go_wp2_with (first | (go_at_call 20; (with_reducible refine call_later (HA.out _ ?_) ?_); (· exact gwr); intro u) | ((with_reducible refine wpList_load_rng ?_ ?_ ?_ ?_ ?_ ?_ ?_ ?_ ?_ ?_ ?_ ?_); rotate_left 6; (· rfl); (· rfl); (· rfl); (· infer_instance); (· infer_instance)) | ((with_reducible refine wpList_load_is ?_ ?_ ?_ ?_ ?_ ?_ ?_ ?_ ?_ ?_ ?_ ?_ ?_); rotate_left 6; (· rfl); (· rfl); (· rfl); (· infer_instance); (· infer_instance); (· rfl)) | ((with_reducible refine wpList_store_fresh ?_ ?_ ?_ ?_ ?_ ?_ ?_ ?_ ?_ ?_ ?_ ?_ ?_ ?_ ?_ ?_ ?_); rotate_left 5; (· rfl); (· rfl); (· rfl); (· rfl); (· rfl); (· infer_instance); (· infer_instance); (· infer_instance); (· infer_instance)) | ((with_reducible refine wpList_store_is ?_ ?_ ?_ ?_ ?_ ?_ ?_ ?_ ?_ ?_ ?_ ?_ ?_ ?_ ?_ ?_ ?_); rotate_left 7; (· rfl); (· rfl); (· rfl); (· rfl); (· rfl); (· infer_instance); (· infer_instance); (· infer_instance); (· infer_instance)))
      go_loopw [11, 12, 62] (fun a11 k12 t wr => ∃ (j m2 : Nat) (A2 : Int), t = .int .i64 j ∧ k12 = .int .i64 m2 ∧ a11 = .int .i64 A2 ∧ j ≤ d ∧ Hid (m2 = m + j ∧ A2 = tm m2) ∧ Grew Y.world wr) (fun _ _ t _ => d - (intOf t).toNat)
      case atStart => exact ⟨0, m, A, rfl, rfl, rfl, by omega, Lib.hid ⟨rfl, Hm.out.2⟩, gwr⟩
      case round =>
        obtain ⟨j, m2, A2, rfl, rfl, rfl, hj, Hm2, hg⟩ := hrel
        obtain ⟨z2, rfl⟩ := later_of hg
        clear hg
        by_cases hjd : j < d
        · have hm2T : m2 < T.length := by rw [Hm2.out.1]; omega
          obtain ⟨b2, o2, rfl, hb2, hr2⟩ := HT.out m2 hm2T
          have ib2 : BlockIn Y.world b2 := ⟨hb2⟩
          have hta := Hfl.out.ta m2 hm2T
          have c0 : Y.world.cell? ⟨b2, o2 + m2 * 16, none⟩ = some (.int .i64 A2) := by
            rw [Hm2.out.2, ← hta.1]
            simpa using hr2.is 0 _ rfl
          have c1 : Y.world.cell? ⟨b2, o2 + m2 * 16 + 1, none⟩ = some (.int .i64 (tm (m2 + 1))) := by
            rw [← hta.2]
            simpa using hr2.is 1 _ rfl
          have hm3 : m2 < 4096 := by omega
          obtain ⟨A3, hA3⟩ : ∃ A3, A3 = tm (m2 + 1) := ⟨_, rfl⟩
          have Hn : Hid (m2 + 1 = m + (j + 1) ∧ A3 = tm (m2 + 1)) := Lib.hid ⟨by rw [Hm2.out.1]; omega, hA3⟩
          rw [← hA3] at c1
          clear hr2 hta hA3
          go_wp2
          go_roundw
          case rel => exact ⟨j + 1, m2 + 1, A3, by go_num, by go_num, rfl, by omega, Hn, gwr⟩
          case measure => simp [intOf]; omega
        · have hm2 : m2 = n (i + 1) := by rw [Hm2.out.1, Hd.out]; omega
          obtain ⟨m3, hm3⟩ : ∃ m3 : Nat, m2 = m3 + 1 := ⟨m2 - 1, by have := Hm2.out.1; omega⟩
          have hm2T : m2 ≤ T.length := by have := Hm2.out.1; omega
          have hm3T : m3 < T.length := by omega
          have hiS : i < S.length := by omega
          obtain ⟨b1, o1, rfl, hb1, hr1⟩ := HS.out i hiS
          obtain ⟨b2, o2, rfl, hb2, hr2⟩ := HT.out m3 hm3T
          have ib1 : BlockIn Y.world b1 := ⟨hb1⟩
          have ib2 : BlockIn Y.world b2 := ⟨hb2⟩
          have hst := Hfl.out.st i hiS
          rw [← hm2, ← Hm2.out.2] at hst
          have hup := Hfl.out.up m2 hm2T
          rw [← Hm2.out.2] at hup
          have hto : Touch T[m3] S[i] := by
            have h := Hfl.out.touch i hiS (by omega)
            simpa only [show n (i + 1) - 1 = m3 by omega] using h
          have Hrel : Hid (m2 = n (i + 1) ∧ A2 = tm m2) := Lib.hid ⟨hm2, Hm2.out.2⟩
          have rz2 := hr2.grew z2.grew
          have f0 : Y.world.cell? ⟨b1, o1 + i * 15, none⟩ = some (.int .i64 S[i].t) := by simpa using hr1.is 0 _ rfl
          have f1 : Y.world.cell? ⟨b1, o1 + i * 15 + 1, none⟩ = some (.int .i64 S[i].p.x.lo) := hr1.is 1 _ rfl
          have f2 : Y.world.cell? ⟨b1, o1 + i * 15 + 2, none⟩ = some (.int .i64 S[i].p.x.hi) := hr1.is 2 _ rfl
          have f3 : Y.world.cell? ⟨b1, o1 + i * 15 + 3, none⟩ = some (.int .i64 S[i].p.y.lo) := hr1.is 3 _ rfl
          have f4 : Y.world.cell? ⟨b1, o1 + i * 15 + 4, none⟩ = some (.int .i64 S[i].p.y.hi) := hr1.is 4 _ rfl
          have f5 : Y.world.cell? ⟨b1, o1 + i * 15 + 5, none⟩ = some (.int .i64 S[i].p.z.lo) := hr1.is 5 _ rfl
          have f6 : Y.world.cell? ⟨b1, o1 + i * 15 + 6, none⟩ = some (.int .i64 S[i].p.z.hi) := hr1.is 6 _ rfl
          have f7 : Y.world.cell? ⟨b1, o1 + i * 15 + 7, none⟩ = some (.int .i64 S[i].v.x.lo) := hr1.is 7 _ rfl
          have f8 : Y.world.cell? ⟨b1, o1 + i * 15 + 8, none⟩ = some (.int .i64 S[i].v.x.hi) := hr1.is 8 _ rfl
          have f9 : Y.world.cell? ⟨b1, o1 + i * 15 + 9, none⟩ = some (.int .i64 S[i].v.y.lo) := hr1.is 9 _ rfl
          have f10 : Y.world.cell? ⟨b1, o1 + i * 15 + 10, none⟩ = some (.int .i64 S[i].v.y.hi) := hr1.is 10 _ rfl
          have f11 : Y.world.cell? ⟨b1, o1 + i * 15 + 11, none⟩ = some (.int .i64 S[i].v.z.lo) := hr1.is 11 _ rfl
          have f12 : Y.world.cell? ⟨b1, o1 + i * 15 + 12, none⟩ = some (.int .i64 S[i].v.z.hi) := hr1.is 12 _ rfl
          rw [hst] at f0
          generalize S[i] = st at *
          generalize T[m3] = tb at *
          have O0p := Lib.hid (fun w => is_int (show orderN tb.p.x st.p.x = 0 from (hto 0).1) (spOrder_any tb.p.x st.p.x w))
          have O0v := Lib.hid (fun w => is_int (show orderN tb.v.x st.v.x = 0 from (hto 0).2) (spOrder_any tb.v.x st.v.x w))
          have O1p := Lib.hid (fun w => is_int (show orderN tb.p.y st.p.y = 0 from (hto 1).1) (spOrder_any tb.p.y st.p.y w))
          have O1v := Lib.hid (fun w => is_int (show orderN tb.v.y st.v.y = 0 from (hto 1).2) (spOrder_any tb.v.y st.v.y w))
          have O2p := Lib.hid (fun w => is_int (show orderN tb.p.z st.p.z = 0 from (hto 2).1) (spOrder_any tb.p.z st.p.z w))
          have O2v := Lib.hid (fun w => is_int (show orderN tb.v.z st.v.z = 0 from (hto 2).2) (spOrder_any tb.v.z st.v.z w))
          have hx : IntKind.i64.wrap ((m2 : Int) - 1) = (m3 : Int) := by rw [wrap_at _ (by omega) (by omega)]; omega
          have hst64 := hs.t
          unfold I64 at hst64
          have hw : IntKind.i64.wrap (A2 - s.t) = A2 - s.t := by
            have := Hm2.out.2
            rw [wrap_at _ (by omega) (by omega)]
          have hd0 : decide (A2 - s.t < 0) = false := by simp; omega
          have hd1' : (0 : Int) < (d : Int) := by omega
          have hjd' : ¬ ((j : Int) < (d : Int)) := by omega
          clear hto hr1 hr2 hst hup hm3 Hm2 Hd hst64 hm2
          go_wp2_with (first | ((with_reducible refine wpList_load_rng ?_ ?_ ?_ ?_ ?_ ?_ ?_ ?_ ?_ ?_ ?_ ?_); rotate_left 6; (· rfl); (· rfl); (· rfl); (· infer_instance); (· infer_instance)) | ((with_reducible refine wpList_load_is ?_ ?_ ?_ ?_ ?_ ?_ ?_ ?_ ?_ ?_ ?_ ?_ ?_); rotate_left 6; (· rfl); (· rfl); (· rfl); (· infer_instance); (· infer_instance); (· rfl)) | ((with_reducible refine wpList_store_fresh ?_ ?_ ?_ ?_ ?_ ?_ ?_ ?_ ?_ ?_ ?_ ?_ ?_ ?_ ?_ ?_ ?_); rotate_left 5; (· rfl); (· rfl); (· rfl); (· rfl); (· rfl); (· infer_instance); (· infer_instance); (· infer_instance); (· infer_instance)) | ((with_reducible refine wpList_store_is ?_ ?_ ?_ ?_ ?_ ?_ ?_ ?_ ?_ ?_ ?_ ?_ ?_ ?_ ?_ ?_ ?_); rotate_left 7; (· rfl); (· rfl); (· rfl); (· rfl); (· rfl); (· infer_instance); (· infer_instance); (· infer_instance); (· infer_instance)))
          refine wp_loop_rounds 4 ?_
          rw [rounds_succ]
          go_wp2_with (first | (go_at_call 21; (with_reducible refine call_later (O0p.out _) ?_); intro u) | (go_at_call 21; (with_reducible refine call_later (O0v.out _) ?_); intro u) | ((with_reducible refine wp_region_later ?_ ?_ ?_); (· kernel_rfl); (· kernel_rfl); (try simp only [List.append_eq, List.cons_append, List.nil_append]); (repeat (go_big_quiet_step ((first | (go_at_call 21; (with_reducible exact call_quiet (O0p.out _))) | (go_at_call 21; (with_reducible exact call_quiet (O0v.out _))))))); refine wpQuiet_nil ?_; rintro _ ⟨u, rfl⟩))
          rw [rounds_succ]
          go_wp2_with (first | (go_at_call 21; (with_reducible refine call_later (O1p.out _) ?_); intro u) | (go_at_call 21; (with_reducible refine call_later (O1v.out _) ?_); intro u) | ((with_reducible refine wp_region_later ?_ ?_ ?_); (· kernel_rfl); (· kernel_rfl); (try simp only [List.append_eq, List.cons_append, List.nil_append]); (repeat (go_big_quiet_step ((first | (go_at_call 21; (with_reducible exact call_quiet (O1p.out _))) | (go_at_call 21; (with_reducible exact call_quiet (O1v.out _))))))); refine wpQuiet_nil ?_; rintro _ ⟨u, rfl⟩))
          rw [rounds_succ]
          go_wp2_with (first | (go_at_call 21; (with_reducible refine call_later (O2p.out _) ?_); intro u) | (go_at_call 21; (with_reducible refine call_later (O2v.out _) ?_); intro u) | ((with_reducible refine wp_region_later ?_ ?_ ?_); (· kernel_rfl); (· kernel_rfl); (try simp only [List.append_eq, List.cons_append, List.nil_append]); (repeat (go_big_quiet_step ((first | (go_at_call 21; (with_reducible exact call_quiet (O2p.out _))) | (go_at_call 21; (with_reducible exact call_quiet (O2v.out _))))))); refine wpQuiet_nil ?_; rintro _ ⟨u, rfl⟩))
          rw [rounds_succ]
          go_wp2
          go_roundw
          case rel => exact ⟨i + 1, m2, A2, by go_num, rfl, rfl, by omega, Hrel, gwr⟩
          case measure => simp [intOf]; omega
    · obtain rfl : i = L.length := by omega
      obtain rfl : m = T.length := by rw [Hm.out.1, ← Hfl.out.tl]
      by_cases hT0 : 0 < T.length
      · have hT0' : (0 : Int) < (T.length : Int) := by omega
        obtain ⟨b2, o2, rfl, hb2, hr2⟩ := HT.out 0 hT0
        have ib2 : BlockIn Y.world b2 := ⟨hb2⟩
        have hh := Hfl.out.first hT0
        have f2 : Y.world.cell? ⟨b2, o2 + 2, none⟩ = some (.int .i64 T[0].p.x.lo) := by simpa using hr2.is 2 _ rfl
        have f3 : Y.world.cell? ⟨b2, o2 + 3, none⟩ = some (.int .i64 T[0].p.x.hi) := by simpa using hr2.is 3 _ rfl
        have f4 : Y.world.cell? ⟨b2, o2 + 4, none⟩ = some (.int .i64 T[0].p.y.lo) := by simpa using hr2.is 4 _ rfl
        have f5 : Y.world.cell? ⟨b2, o2 + 5, none⟩ = some (.int .i64 T[0].p.y.hi) := by simpa using hr2.is 5 _ rfl
        have f6 : Y.world.cell? ⟨b2, o2 + 6, none⟩ = some (.int .i64 T[0].p.z.lo) := by simpa using hr2.is 6 _ rfl
        have f7 : Y.world.cell? ⟨b2, o2 + 7, none⟩ = some (.int .i64 T[0].p.z.hi) := by simpa using hr2.is 7 _ rfl
        have f8 : Y.world.cell? ⟨b2, o2 + 8, none⟩ = some (.int .i64 T[0].v.x.lo) := by simpa using hr2.is 8 _ rfl
        have f9 : Y.world.cell? ⟨b2, o2 + 9, none⟩ = some (.int .i64 T[0].v.x.hi) := by simpa using hr2.is 9 _ rfl
        have f10 : Y.world.cell? ⟨b2, o2 + 10, none⟩ = some (.int .i64 T[0].v.y.lo) := by simpa using hr2.is 10 _ rfl
        have f11 : Y.world.cell? ⟨b2, o2 + 11, none⟩ = some (.int .i64 T[0].v.y.hi) := by simpa using hr2.is 11 _ rfl
        have f12 : Y.world.cell? ⟨b2, o2 + 12, none⟩ = some (.int .i64 T[0].v.z.lo) := by simpa using hr2.is 12 _ rfl
        have f13 : Y.world.cell? ⟨b2, o2 + 13, none⟩ = some (.int .i64 T[0].v.z.hi) := by simpa using hr2.is 13 _ rfl
        clear hr2 HT HS Hfl
        generalize T[0] = tb at *
        generalize T.length = tn at *
        have W0p := Lib.hid (fun w => is_bool (show s.p.x.inB tb.p.x = true from (hh 0).1) (spWithin_any s.p.x tb.p.x w))
        have W0v := Lib.hid (fun w => is_bool (show s.v.x.inB tb.v.x = true from (hh 0).2) (spWithin_any s.v.x tb.v.x w))
        have W1p := Lib.hid (fun w => is_bool (show s.p.y.inB tb.p.y = true from (hh 1).1) (spWithin_any s.p.y tb.p.y w))
        have W1v := Lib.hid (fun w => is_bool (show s.v.y.inB tb.v.y = true from (hh 1).2) (spWithin_any s.v.y tb.v.y w))
        have W2p := Lib.hid (fun w => is_bool (show s.p.z.inB tb.p.z = true from (hh 2).1) (spWithin_any s.p.z tb.p.z w))
        have W2v := Lib.hid (fun w => is_bool (show s.v.z.inB tb.v.z = true from (hh 2).2) (spWithin_any s.v.z tb.v.z w))
        clear hh
        go_wp2
        refine wp_loop_rounds 4 ?_
        rw [rounds_succ]
        go_wp2_with (first | (go_at_call 22; (with_reducible refine call_later (W0p.out _) ?_); intro u) | (go_at_call 22; (with_reducible refine call_later (W0v.out _) ?_); intro u) | ((with_reducible refine wp_region_later ?_ ?_ ?_); (· kernel_rfl); (· kernel_rfl); (try simp only [List.append_eq, List.cons_append, List.nil_append]); (repeat (go_big_quiet_step ((first | (go_at_call 22; (with_reducible exact call_quiet (W0p.out _))) | (go_at_call 22; (with_reducible exact call_quiet (W0v.out _))))))); refine wpQuiet_nil ?_; rintro _ ⟨u, rfl⟩))
        rw [rounds_succ]
        go_wp2_with (first | (go_at_call 22; (with_reducible refine call_later (W1p.out _) ?_); intro u) | (go_at_call 22; (with_reducible refine call_later (W1v.out _) ?_); intro u) | ((with_reducible refine wp_region_later ?_ ?_ ?_); (· kernel_rfl); (· kernel_rfl); (try simp only [List.append_eq, List.cons_append, List.nil_append]); (repeat (go_big_quiet_step ((first | (go_at_call 22; (with_reducible exact call_quiet (W1p.out _))) | (go_at_call 22; (with_reducible exact call_quiet (W1v.out _))))))); refine wpQuiet_nil ?_; rintro _ ⟨u, rfl⟩))
        rw [rounds_succ]
        go_wp2_with (first | (go_at_call 22; (with_reducible refine call_later (W2p.out _) ?_); intro u) | (go_at_call 22; (with_reducible refine call_later (W2v.out _) ?_); intro u) | ((with_reducible refine wp_region_later ?_ ?_ ?_); (· kernel_rfl); (· kernel_rfl); (try simp only [List.append_eq, List.cons_append, List.nil_append]); (repeat (go_big_quiet_step ((first | (go_at_call 22; (with_reducible exact call_quiet (W2p.out _))) | (go_at_call 22; (with_reducible exact call_quiet (W2v.out _))))))); refine wpQuiet_nil ?_; rintro _ ⟨u, rfl⟩))
        rw [rounds_succ]
        go_wp2
        go_ret
        exact ⟨rfl, gwr⟩
      · have hT0' : ¬ ((0 : Int) < (T.length : Int)) := by omega
        go_wp2
        go_ret
        exact ⟨rfl, gwr⟩
namespace flightTubesRow
open Go.ChangeShapes Go.WideShapes Go.ChangeAt Go.RowKit
theorem own : ownKnob Tryz.prog.godebug = none := by kernel_rfl
theorem lifted (os : Os) (started : os.Started) (H : Type) (enc : TypeId × Value → H) :
    ReturnsInHanded {} Tryz.checked os 5 .any (Rows.flightTubesSpec.pre6 enc Tryz.prog Tryz.f5 Rows.flightTubesRow.domain false) (Rows.flightTubesSpec.post enc Tryz.prog Tryz.f5 false true false false) := by
  refine returnsInHanded_of_change (C := Tryz.checked) own started (by kernel_rfl) Tryz.func5
    (ChangeSpec.witness6 (enc := enc) (C := Tryz.checked) false ⟨#[], #[.agg #[.int .i64 0, .int .i64 0, .int .i64 0, .int .i64 0, .int .i64 0, .int .i64 0, .int .i64 0, .int .i64 0, .int .i64 0, .int .i64 0, .int .i64 0, .int .i64 0, .int .i64 0, .int .i64 0], .slice none 0 0, .agg #[.int .i64 0, .int .i64 0, .int .i64 0, .int .i64 0, .int .i64 0, .int .i64 0, .int .i64 0, .int .i64 0, .int .i64 0, .int .i64 0, .int .i64 0, .int .i64 0, .int .i64 0, .int .i64 0, .int .i64 0]], []⟩ 8 (by as_aux_lemma => kernel_rfl) (by as_aux_lemma => kernel_rfl) (by as_aux_lemma => kernel_rfl) (by as_aux_lemma => kernel_rfl)) ?_
  intro W base args ds gs before hval0 hW _ _
  have hval : ∀ (j : Nat) t v, Tryz.f5.params[j]? = some t → args[j]? = some v → Value.okWide Tryz.prog W .any base t v := hval0
  have hW' := hW
  obtain ⟨p, q, hA0, hV, rfl, hfz, hnd⟩ := hW
  have hA : DataW.TrodAll enc Tryz.prog W 0 (fun _ => true) true Tryz.f5.params.toList args.toList ds p := hA0
  rw [Tryz.params5] at hA hval
  obtain ⟨v0, vs0, d0, ds0, p0, q0, hargs, rfl, rfl, h0, r0⟩ := trodAll_cons hA
  obtain ⟨v1, vs1, d1, ds1, p1, q1, rfl, rfl, rfl, h1, r1⟩ := trodAll_cons r0
  obtain ⟨v2, vs2, d2, ds2, p2, q2, rfl, rfl, rfl, h2, r2⟩ := trodAll_cons r1
  obtain ⟨rfl, rfl, rfl⟩ := trodAll_nil r2
  obtain rfl : args = #[v0, v1, v2] := by cases args; simp_all
  obtain ⟨rfl, rfl⟩ := trodVars_none hV
  obtain ⟨cs0, rfl, -⟩ := okWide_struct Tryz.underlying43 (hval 0 43 v0 rfl rfl)
  obtain ⟨ao1, n1, cap1, rfl⟩ := okWide_slice Tryz.underlying44 (hval 1 44 v1 rfl rfl)
  obtain ⟨cs2, rfl, -⟩ := okWide_struct Tryz.underlying28 (hval 2 28 v2 rfl rfl)
  obtain ⟨_, h0⟩ := h0
  obtain ⟨_, h1⟩ := h1
  obtain ⟨_, h2⟩ := h2
  obtain ⟨a0, e0, j1, j2, j3, j4, j5, j6, j7, j8, j9, j10, j11, j12, j13, j14⟩ := planet_trod h0
  obtain ⟨aoP, mP, capP, L, eP, hP, hL⟩ := arcsI_trod h1
  rw [← (by simpa [Value.cells] using eP : Value.slice ao1 n1 cap1 = .slice aoP mP capP)] at hP
  obtain ⟨a2, e2, s1, s2, s3, s4, s5, s6, s7, s8, s9, s10, s11, s12, s13, s14, s15⟩ := state_trod h2
  obtain rfl : cs0 = a0.cells.toArray := Array.ext' (by simpa [Value.cells] using e0)
  obtain rfl : cs2 = a2.cells.toArray := Array.ext' (by simpa [Value.cells] using e2)
  have hP0 : Pl64 a0 := ⟨⟨j1, j2⟩, ⟨j3, j4⟩, ⟨j5, j6⟩, ⟨j7, j8⟩, b64_of j9 j10 j11 j12 j13 j14⟩
  have hS : St64 a2 := ⟨s1, b64_of s2 s3 s4 s5 s6 s7, b64_of s8 s9 s10 s11 s12 s13, ⟨s14, s15⟩⟩
  refine (tubes_walk a0 L a2 hL _ W hP).mono fun e W' ⟨he, hg⟩ => ?_
  subst he
  exact ⟨_, rfl, law_post (by kernel_rfl) (by kernel_rfl) rfl rfl Tryz.underlying4 hW' rfl hg⟩
theorem proved : Rows.FlightTubesSaid :=
  OpenClaim.holds_of_wide 5 Tryz.f5 rfl rfl rfl rfl rfl rfl rfl ⟨rfl, rfl, rfl, rfl, rfl⟩ rfl rfl rfl rfl rfl (by as_aux_lemma => kernel_rfl) Tryz.func5 (by as_aux_lemma => kernel_rfl)
    (of_decide_eq_true (by as_aux_lemma => kernel_rfl)) (by unfold Func.isWrapper; first | (rw [if_pos (by decide +kernel)]; kernel_rfl) | (rw [if_neg (by decide +kernel)]; exact ⟨rfl, rfl⟩))
    (fun os started H enc _ => lifted os started H enc)
end flightTubesRow
end Go.Proofs.YtkeifgcncmilmaaGreat
