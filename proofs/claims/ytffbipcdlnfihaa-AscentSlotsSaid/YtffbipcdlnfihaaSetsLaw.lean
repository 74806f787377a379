/-
  Sets of times: plain law (places, sweeps, mixed sets).
-/
import Derived.Test.YtffbipcdlnfihaaCore
namespace Go.Proofs.Ytffbipcdlnfihaa
open Go.RowKit
def limT (t : Int) : Bool := decide (-1152921504606846976 ≤ t) && decide (t ≤ 1152921504606846976)
def slotOkB (l : List (Int × Int)) (k : Nat) : Bool := limT (l[k]?.getD (0, 0)).1 && limT (l[k]?.getD (0, 0)).2 && decide ((l[k]?.getD (0, 0)).1 < (l[k]?.getD (0, 0)).2) && (decide (k = 0) || decide ((l[k - 1]?.getD (0, 0)).2 < (l[k]?.getD (0, 0)).1))
def setB (l : List (Int × Int)) : Bool := decide (l.length ≤ 4096) && (List.range l.length).all (slotOkB l)
def holdsB (l : List (Int × Int)) (t : Int) : Bool := l.any fun s => decide (s.1 ≤ t) && decide (t < s.2)
def endsL (l : List (Int × Int)) : List Int := l.flatMap fun s => [s.1, s.2]
/-- An edge: its place, its list, whether something begins there. -/
abbrev Edge := Int × Int × Bool
def edges1 (of : Int) (l : List (Int × Int)) : List Edge := l.flatMap fun s => [(s.1, of, true), (s.2, of, false)]
def edgesL (a b : List (Int × Int)) : List Edge := edges1 0 a ++ edges1 1 b
theorem setB_at {l : List (Int × Int)} (h : setB l = true) (k : Nat) (hk : k < l.length) : -1152921504606846976 ≤ l[k].1 ∧ l[k].2 ≤ 1152921504606846976 ∧ l[k].1 < l[k].2 := by
  unfold setB at h
  rw [Bool.and_eq_true, List.all_eq_true] at h
  have := h.2 k (by simpa using hk)
  unfold slotOkB limT at this
  simp [hk] at this
  omega
theorem setB_next {l : List (Int × Int)} (h : setB l = true) (k : Nat) (hk : k + 1 < l.length) : l[k].2 < l[k + 1].1 := by
  unfold setB at h
  rw [Bool.and_eq_true, List.all_eq_true] at h
  have := h.2 (k + 1) (by simpa using hk)
  unfold slotOkB at this
  simp [hk, show k < l.length by omega] at this
  omega
theorem setB_lt {l : List (Int × Int)} (h : setB l = true) (i j : Nat) (hij : i < j) (hj : j < l.length) : l[i].2 < l[j].1 := by
  induction j with
  | zero => omega
  | succ j ih =>
    by_cases e : i = j
    · subst e; exact setB_next h i hj
    · have h1 := ih (by omega) (by omega)
      have h2 := setB_next h j hj
      have h3 := setB_at h j (by omega)
      omega
theorem edges1_mem {of : Int} {l : List (Int × Int)} {e : Edge} : e ∈ edges1 of l ↔ ∃ k, ∃ h : k < l.length, e = (l[k].1, of, true) ∨ e = (l[k].2, of, false) := by
  unfold edges1
  rw [List.mem_flatMap]
  constructor
  · rintro ⟨s, hs, he⟩
    obtain ⟨k, hk, rfl⟩ := List.getElem_of_mem hs
    exact ⟨k, hk, by simpa using he⟩
  · rintro ⟨k, hk, he⟩
    exact ⟨l[k], List.getElem_mem hk, by simpa using he⟩
/-- What the last edge of a list at or ahead of a time says. -/
def Tells (E : List Edge) (of t : Int) (b : Bool) : Prop :=
  (b = false ∧ ∀ e ∈ E, e.2.1 = of → t < e.1) ∨ ∃ e ∈ E, e.2.1 = of ∧ e.1 ≤ t ∧ b = e.2.2 ∧ ∀ e' ∈ E, e'.2.1 = of → e'.1 ≤ t → e'.1 ≤ e.1
theorem tells_one {l : List (Int × Int)} (h : setB l = true) {of t : Int} {b : Bool} (ht : Tells (edges1 of l) of t b) : holdsB l t = b := by
  unfold holdsB
  rcases ht with ⟨rfl, hn⟩ | ⟨e, he, -, h2, rfl, hm⟩
  · rw [List.any_eq_false]
    intro s hs
    obtain ⟨k, hk, rfl⟩ := List.getElem_of_mem hs
    have := hn _ (edges1_mem.2 ⟨k, hk, .inl rfl⟩) rfl
    simp at this ⊢
    omega
  · obtain ⟨k, hk, he | he⟩ := edges1_mem.1 he
    · subst he
      rw [List.any_eq_true]
      refine ⟨l[k], List.getElem_mem hk, ?_⟩
      have h3 := setB_at h k hk
      have h4 := hm _ (edges1_mem.2 ⟨k, hk, .inr rfl⟩) rfl
      simp at h2 h4 ⊢
      omega
    · subst he
      rw [List.any_eq_false]
      intro s hs
      obtain ⟨j, hj, rfl⟩ := List.getElem_of_mem hs
      simp at h2 ⊢
      intro h5
      rcases Nat.lt_trichotomy j k with c | c | c
      · have := setB_lt h j k c hk
        have := setB_at h k hk
        omega
      · subst c; omega
      · have h6 := hm _ (edges1_mem.2 ⟨j, hj, .inl rfl⟩) rfl h5
        simp at h6
        have := setB_lt h k j c hj
        omega
theorem tells_both {a b : List (Int × Int)} {t : Int} {x : Bool} (h : Tells (edgesL a b) 0 t x) : Tells (edges1 0 a) 0 t x := by
  have key : ∀ e : Edge, e.2.1 = 0 → (e ∈ edgesL a b ↔ e ∈ edges1 0 a) := by
    intro e he
    unfold edgesL
    rw [List.mem_append]
    refine ⟨fun h => h.elim id fun h2 => ?_, .inl⟩
    obtain ⟨k, hk, h3 | h3⟩ := edges1_mem.1 h2 <;> subst h3 <;> simp at he
  rcases h with ⟨h1, h2⟩ | ⟨e, h1, h2, h3, h4, h5⟩
  · exact .inl ⟨h1, fun e he ho => h2 e ((key e ho).2 he) ho⟩
  · exact .inr ⟨e, (key e h2).1 h1, h2, h3, h4, fun e' he ho => h5 e' ((key e' ho).2 he) ho⟩
theorem tells_both1 {a b : List (Int × Int)} {t : Int} {x : Bool} (h : Tells (edgesL a b) 1 t x) : Tells (edges1 1 b) 1 t x := by
  have key : ∀ e : Edge, e.2.1 = 1 → (e ∈ edgesL a b ↔ e ∈ edges1 1 b) := by
    intro e he
    unfold edgesL
    rw [List.mem_append]
    refine ⟨fun h => h.elim (fun h2 => ?_) id, .inr⟩
    obtain ⟨k, hk, h3 | h3⟩ := edges1_mem.1 h2 <;> subst h3 <;> simp at he
  rcases h with ⟨h1, h2⟩ | ⟨e, h1, h2, h3, h4, h5⟩
  · exact .inl ⟨h1, fun e he ho => h2 e ((key e ho).2 he) ho⟩
  · exact .inr ⟨e, (key e h2).1 h1, h2, h3, h4, fun e' he ho => h5 e' ((key e' ho).2 he) ho⟩
/-- The flag of the last edge of a list. -/
def onOf (L : List Edge) (of : Int) : Bool := L.foldl (fun s e => if e.2.1 = of then e.2.2 else s) false
theorem onOf_snoc (L : List Edge) (e : Edge) (of : Int) : onOf (L ++ [e]) of = if e.2.1 = of then e.2.2 else onOf L of := by
  unfold onOf
  rw [List.foldl_append]
  rfl
def SortedE (L : List Edge) : Prop := ∀ i j, ∀ hj : j < L.length, ∀ hi : i < j, (L[i]'(by omega)).1 ≤ L[j].1
theorem onOf_tells (d : List Edge) (hd : SortedE d) (of : Int) (n : Nat) (hn : n ≤ d.length) :
    (onOf (d.take n) of = false ∧ ∀ k, ∀ hk : k < n, (d[k]'(by omega)).2.1 ≠ of) ∨ ∃ k, ∃ hk : k < n, (d[k]'(by omega)).2.1 = of ∧ onOf (d.take n) of = (d[k]'(by omega)).2.2 ∧ ∀ j, ∀ hj : j < n, (d[j]'(by omega)).2.1 = of → (d[j]'(by omega)).1 ≤ (d[k]'(by omega)).1 := by
  induction n with
  | zero => exact .inl ⟨rfl, fun k hk => by omega⟩
  | succ n ih =>
    rw [List.take_succ_eq_append_getElem (by omega), onOf_snoc]
    by_cases e : (d[n]'(by omega)).2.1 = of
    · rw [if_pos e]
      refine .inr ⟨n, by omega, e, rfl, fun j hj ho => ?_⟩
      by_cases c : j = n
      · subst c; exact Int.le_refl _
      · exact hd j n (by omega) (by omega)
    · rw [if_neg e]
      rcases ih (by omega) with ⟨h1, h2⟩ | ⟨k, hk, h1, h2, h3⟩
      · refine .inl ⟨h1, fun k hk => ?_⟩
        by_cases c : k = n
        · subst c; exact e
        · exact h2 k (by omega)
      · refine .inr ⟨k, by omega, h1, h2, fun j hj ho => ?_⟩
        by_cases c : j = n
        · subst c; exact absurd ho e
        · exact h3 j (by omega) ho
def lastB (d : List Edge) (i : Nat) : Bool := decide (i + 1 = d.length) || decide ((d[i + 1]?.getD (0, 0, false)).1 ≠ (d[i]?.getD (0, 0, false)).1)
theorem last_gt (d : List Edge) (hd : SortedE d) (i : Nat) (hi : i < d.length) (h : lastB d i = true) (j : Nat) (hj : j < d.length) (hij : i < j) : d[i].1 < d[j].1 := by
  unfold lastB at h
  have h1 : i + 1 < d.length := by omega
  simp [hi, h1] at h
  have h2 := hd i (i + 1) h1 (by omega)
  have h3 : d[i + 1].1 ≤ d[j].1 := by
    by_cases c : i + 1 = j
    · subst c; exact Int.le_refl _
    · exact hd (i + 1) j hj (by omega)
  omega
theorem onOf_is {a b : List (Int × Int)} (ha : setB a = true) (hb : setB b = true) (d : List Edge) (hp : d.Perm (edgesL a b)) (hd : SortedE d) (i : Nat) (hi : i < d.length) (h : lastB d i = true) :
    onOf (d.take (i + 1)) 0 = holdsB a d[i].1 ∧ onOf (d.take (i + 1)) 1 = holdsB b d[i].1 := by
  have key : ∀ of, Tells (edgesL a b) of d[i].1 (onOf (d.take (i + 1)) of) := by
    intro of
    have hin : ∀ k (hk : k < d.length), d[k].1 ≤ d[i].1 → k < i + 1 := by
      intro k hk hle
      by_cases c : k < i + 1
      · exact c
      · have := last_gt d hd i hi h k hk (by omega); omega
    rcases onOf_tells d hd of (i + 1) (by omega) with ⟨h1, h2⟩ | ⟨k, hk, h1, h2, h3⟩
    · refine .inl ⟨h1, fun e he ho => ?_⟩
      obtain ⟨k, hk, rfl⟩ := List.getElem_of_mem (hp.symm.subset he)
      by_cases c : d[k].1 ≤ d[i].1
      · exact absurd ho (h2 k (hin k hk c))
      · omega
    · refine .inr ⟨d[k], hp.subset (List.getElem_mem _), h1, ?_, h2, fun e he ho hle => ?_⟩
      · by_cases c : k = i
        · subst c; exact Int.le_refl _
        · exact hd k i hi (by omega)
      · obtain ⟨j, hj, rfl⟩ := List.getElem_of_mem (hp.symm.subset he)
        exact h3 j (hin j hj hle) ho
  exact ⟨(tells_one ha (tells_both (key 0))).symm, (tells_one hb (tells_both1 (key 1))).symm⟩
/-! The sweep. -/
def setLast (l : List (Int × Int)) (p : Int) : List (Int × Int) := match l.reverse with
  | [] => []
  | x :: r => (r.reverse) ++ [(x.1, p)]
theorem setLast_snoc (l : List (Int × Int)) (x : Int × Int) (p : Int) : setLast (l ++ [x]) p = l ++ [(x.1, p)] := by simp [setLast]
def stepW (s : List (Int × Int) × Bool) (p : Int) (now : Bool) : List (Int × Int) × Bool :=
  (if now = true ∧ s.2 = false then s.1 ++ [(p, 0)] else if now = false ∧ s.2 = true then setLast s.1 p else s.1, now)
def sweepL (f : Int → Bool) (P : List Int) : List (Int × Int) × Bool := P.foldl (fun s p => stepW s p (f p)) ([], false)
/-- .. along the edges. -/
def stI (d : List Edge) (is : Bool → Bool → Bool) : Nat → List (Int × Int) × Bool
  | 0 => ([], false)
  | i + 1 => if lastB d i = true then stepW (stI d is i) (d[i]?.getD (0, 0, false)).1 (is (onOf (d.take (i + 1)) 0) (onOf (d.take (i + 1)) 1)) else stI d is i
def grp (d : List Edge) : Nat → List Int
  | 0 => []
  | i + 1 => if lastB d i = true then grp d i ++ [(d[i]?.getD (0, 0, false)).1] else grp d i
theorem stI_is {a b : List (Int × Int)} (ha : setB a = true) (hb : setB b = true) (d : List Edge) (hp : d.Perm (edgesL a b)) (hd : SortedE d) (is : Bool → Bool → Bool) (i : Nat) (hi : i ≤ d.length) :
    stI d is i = sweepL (fun p => is (holdsB a p) (holdsB b p)) (grp d i) := by
  induction i with
  | zero => rfl
  | succ i ih =>
    unfold stI grp
    split
    · rename_i h
      have hl : i < d.length := by omega
      obtain ⟨h1, h2⟩ := onOf_is ha hb d hp hd i hl h
      unfold sweepL
      rw [List.foldl_append, ← sweepL.eq_1, ← ih (by omega), h1, h2]
      simp [hl]
    · exact ih (by omega)
theorem grp_mem (d : List Edge) (n : Nat) (hn : n ≤ d.length) {x : Int} (h : x ∈ grp d n) : ∃ k, ∃ hk : k < n, lastB d k = true ∧ x = (d[k]'(by omega)).1 := by
  induction n with
  | zero => simp [grp] at h
  | succ n ih =>
    unfold grp at h
    split at h
    · rename_i hl
      rcases List.mem_append.1 h with h | h
      · obtain ⟨k, hk, h1, h2⟩ := ih (by omega) h
        exact ⟨k, by omega, h1, h2⟩
      · simp [show n < d.length by omega] at h
        exact ⟨n, by omega, hl, h⟩
    · obtain ⟨k, hk, h1, h2⟩ := ih (by omega) h
      exact ⟨k, by omega, h1, h2⟩
theorem grp_sorted (d : List Edge) (hd : SortedE d) (n : Nat) (hn : n ≤ d.length) : (grp d n).Pairwise (· < ·) := by
  induction n with
  | zero => exact List.Pairwise.nil
  | succ n ih =>
    unfold grp
    split
    · rw [List.pairwise_append]
      refine ⟨ih (by omega), List.pairwise_singleton _ _, fun x hx y hy => ?_⟩
      obtain ⟨k, hk, h1, rfl⟩ := grp_mem d n (by omega) hx
      simp [show n < d.length by omega] at hy
      subst hy
      exact last_gt d hd k (by omega) h1 n (by omega) hk
    · exact ih (by omega)
theorem grp_has (d : List Edge) (n : Nat) (k : Nat) (hk : k < n) (hn : n ≤ d.length) (h : lastB d k = true) : (d[k]'(by omega)).1 ∈ grp d n := by
  induction n with
  | zero => omega
  | succ n ih =>
    unfold grp
    by_cases c : k = n
    · subst c
      rw [if_pos h]
      simp [show k < d.length by omega]
    · have := ih (by omega) (by omega)
      split
      · exact List.mem_append.2 (.inl this)
      · exact this
theorem grp_all (d : List Edge) : ∀ m i, ∀ hi : i < d.length, i + m + 1 = d.length → d[i].1 ∈ grp d d.length := by
  intro m
  induction m with
  | zero =>
    intro i hi hm
    refine grp_has d d.length i hi (Nat.le_refl _) ?_
    unfold lastB
    simp
    omega
  | succ m ih =>
    intro i hi hm
    by_cases h : lastB d i = true
    · exact grp_has d d.length i hi (Nat.le_refl _) h
    · have h1 : i + 1 < d.length := by omega
      have h2 := ih (i + 1) h1 (by omega)
      have h3 : d[i + 1].1 = d[i].1 := by
        unfold lastB at h
        simp [hi, h1] at h
        omega
      rw [← h3]
      exact h2
theorem edges_ats (a b : List (Int × Int)) (x : Int) : x ∈ endsL a ++ endsL b ↔ ∃ e ∈ edgesL a b, e.1 = x := by
  have one : ∀ (of : Int) (l : List (Int × Int)), x ∈ endsL l ↔ ∃ e ∈ edges1 of l, e.1 = x := by
    intro of l
    unfold endsL edges1
    constructor
    · intro h
      obtain ⟨s, hs, hx⟩ := List.mem_flatMap.1 h
      simp at hx
      rcases hx with rfl | rfl
      · exact ⟨(s.1, of, true), List.mem_flatMap.2 ⟨s, hs, by simp⟩, rfl⟩
      · exact ⟨(s.2, of, false), List.mem_flatMap.2 ⟨s, hs, by simp⟩, rfl⟩
    · rintro ⟨e, he, rfl⟩
      obtain ⟨s, hs, hx⟩ := List.mem_flatMap.1 he
      refine List.mem_flatMap.2 ⟨s, hs, ?_⟩
      simp at hx
      rcases hx with rfl | rfl <;> simp
  rw [List.mem_append, one 0 a, one 1 b]
  unfold edgesL
  constructor
  · rintro (⟨e, he, h⟩ | ⟨e, he, h⟩)
    · exact ⟨e, List.mem_append.2 (.inl he), h⟩
    · exact ⟨e, List.mem_append.2 (.inr he), h⟩
  · rintro ⟨e, he, h⟩
    rcases List.mem_append.1 he with he | he
    · exact .inl ⟨e, he, h⟩
    · exact .inr ⟨e, he, h⟩
theorem grp_ats {a b : List (Int × Int)} (d : List Edge) (hp : d.Perm (edgesL a b)) (x : Int) : x ∈ grp d d.length ↔ x ∈ endsL a ++ endsL b := by
  rw [edges_ats]
  constructor
  · intro h
    obtain ⟨k, hk, -, rfl⟩ := grp_mem d d.length (Nat.le_refl _) h
    exact ⟨d[k], hp.subset (List.getElem_mem _), rfl⟩
  · rintro ⟨e, he, rfl⟩
    obtain ⟨k, hk, rfl⟩ := List.getElem_of_mem (hp.symm.subset he)
    exact grp_all d (d.length - k - 1) k hk (by omega)
/-- Lists that rise and have the same members are one. -/
theorem rising_eq : ∀ l m : List Int, l.Pairwise (· < ·) → m.Pairwise (· < ·) → (∀ x, x ∈ l ↔ x ∈ m) → l = m
  | [], [], _, _, _ => rfl
  | [], y :: m, _, _, h => by have := (h y).2 (by simp); simp at this
  | x :: l, [], _, _, h => by have := (h x).1 (by simp); simp at this
  | x :: l, y :: m, hl, hm, h => by
    obtain ⟨h1, h2⟩ := List.pairwise_cons.1 hl
    obtain ⟨h3, h4⟩ := List.pairwise_cons.1 hm
    have hxy : x = y := by
      have hx := (h x).1 (by simp)
      have hy := (h y).2 (by simp)
      rcases List.mem_cons.1 hx with e | e
      · exact e
      · rcases List.mem_cons.1 hy with e' | e'
        · exact e'.symm
        · have := h3 x e; have := h1 y e'; omega
    subst hxy
    rw [rising_eq l m h2 h4 (fun z => ?_)]
    constructor
    · intro hz
      have := h1 z hz
      rcases List.mem_cons.1 ((h z).1 (by simp [hz])) with e | e
      · omega
      · exact e
    · intro hz
      have := h3 z hz
      rcases List.mem_cons.1 ((h z).2 (by simp [hz])) with e | e
      · omega
      · exact e
/-! The reference. -/
/-- Up to a place: slot by slot, joined where they touch. -/
def mixAt (f : Int → Bool) (P : List Int) : Nat → List (Int × Int)
  | 0 => []
  | i + 1 => if f (P[i]?.getD 0) = true then (if ((mixAt f P i).getLast?.map (·.2)) = some (P[i]?.getD 0) then setLast (mixAt f P i) (P[i + 1]?.getD 0) else mixAt f P i ++ [(P[i]?.getD 0, P[i + 1]?.getD 0)]) else mixAt f P i
theorem mixAt_len (f : Int → Bool) (P : List Int) (i : Nat) : (mixAt f P i).length ≤ i := by
  induction i with
  | zero => simp [mixAt]
  | succ i ih =>
    unfold mixAt
    split
    · split
      · unfold setLast
        split
        · simp
        · rename_i x r h
          have : (mixAt f P i).length = r.length + 1 := by rw [← List.length_reverse, h]; simp
          simp
          omega
      · simp; omega
    · omega
theorem sweep_mix (f : Int → Bool) (P : List Int) (hP : P.Pairwise (· < ·)) (j : Nat) (hj : j < P.length) :
    ((∃ L q, 0 < j ∧ (sweepL f (P.take j)) = (L ++ [(q, 0)], true) ∧ mixAt f P j = L ++ [(q, P[j])] ∧ ∀ x ∈ L, x.2 < P[j]) ∨ (sweepL f (P.take j) = (mixAt f P j, false) ∧ ∀ x ∈ mixAt f P j, x.2 < P[j])) := by
  induction j with
  | zero => exact .inr ⟨rfl, fun x hx => by simp [mixAt] at hx⟩
  | succ j ih =>
    have hlt : P[j] < P[j + 1] := (List.pairwise_iff_getElem.1 hP) j (j + 1) (by omega) hj (by omega)
    have e1 : sweepL f (P.take (j + 1)) = stepW (sweepL f (P.take j)) P[j] (f P[j]) := by
      rw [List.take_succ_eq_append_getElem (by omega)]
      unfold sweepL
      rw [List.foldl_append]
      rfl
    have e2 : P[j]?.getD 0 = P[j] := by simp [show j < P.length by omega]
    have e3 : P[j + 1]?.getD 0 = P[j + 1] := by simp [hj]
    rw [e1, mixAt, e2, e3]
    rcases ih (by omega) with ⟨L, q, h0, h1, h2, h3⟩ | ⟨h1, h2⟩
    · rw [h1, h2]
      cases hf : f P[j]
      · right
        simp only [Bool.false_eq_true, if_false]
        unfold stepW
        refine ⟨by simp [setLast_snoc], fun x hx => ?_⟩
        rcases List.mem_append.1 hx with hx | hx
        · have := h3 x hx; omega
        · simp at hx; subst hx; simp; exact hlt
      · left
        refine ⟨L, q, by omega, by simp [stepW], by simp [setLast_snoc], fun x hx => ?_⟩
        have := h3 x hx
        omega
    · rw [h1]
      cases hf : f P[j]
      · right
        simp only [Bool.false_eq_true, if_false]
        unfold stepW
        refine ⟨by simp, fun x hx => ?_⟩
        have := h2 x hx
        omega
      · left
        have hne : ¬ ((mixAt f P j).getLast?.map (·.2)) = some P[j] := by
          intro h
          rw [Option.map_eq_some_iff] at h
          obtain ⟨x, hx, he⟩ := h
          have := h2 x (List.mem_of_getLast? hx)
          omega
        refine ⟨mixAt f P j, P[j], by omega, by simp [stepW], by simp [hne], fun x hx => ?_⟩
        have := h2 x hx
        omega
theorem sweep_is (f : Int → Bool) (P : List Int) (hP : P.Pairwise (· < ·)) (h0 : P ≠ []) (hf : f (P.getLast h0) = false) : sweepL f P = (mixAt f P (P.length - 1), false) := by
  have hl : 0 < P.length := List.length_pos_iff.2 h0
  have hlast : P.getLast h0 = P[P.length - 1] := List.getLast_eq_getElem h0
  rw [hlast] at hf
  have e1 : sweepL f P = stepW (sweepL f (P.take (P.length - 1))) P[P.length - 1] (f P[P.length - 1]) := by
    have : P = P.take (P.length - 1) ++ [P[P.length - 1]] := by
      rw [← List.take_succ_eq_append_getElem (by omega), show P.length - 1 + 1 = P.length by omega, List.take_length]
    rw (occs := .pos [1]) [this]
    unfold sweepL
    rw [List.foldl_append]
    rfl
  rw [e1, hf]
  rcases sweep_mix f P hP (P.length - 1) (by omega) with ⟨L, q, h0, h1, h2, h3⟩ | ⟨h1, h2⟩
  · rw [h1, h2]
    simp [stepW, setLast_snoc]
  · rw [h1]
    simp [stepW]
end Go.Proofs.Ytffbipcdlnfihaa
