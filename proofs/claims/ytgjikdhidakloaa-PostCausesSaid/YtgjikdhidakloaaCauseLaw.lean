/-
  Sets of sensors: the plain law of the least sets (post.least) and of a search for sets that have one of each.
-/
import Derived.Test.YtgjikdhidakloaaSetsLaw
namespace Go.Proofs.Ytgjikdhidakloaa
theorem snoc_ind {α : Type} {P : List α → Prop} (h0 : P []) (h1 : ∀ l x, P l → P (l ++ [x])) (l : List α) : P l := by
  have key : ∀ r : List α, P r.reverse := by
    intro r
    induction r with
    | nil => exact h0
    | cons x r ih => rw [List.reverse_cons]; exact h1 _ _ ih
  have := key l.reverse
  rwa [List.reverse_reverse] at this
/-- How many members a set has. -/
def cntF : Nat → Nat → Nat
  | 0, _ => 0
  | f + 1, m => m % 2 + cntF f (m / 2)
def cntN (m : Nat) : Nat := cntF 8 m
/-- a part of -/
def subN (a b : Nat) : Prop := a &&& b = a
instance (a b : Nat) : Decidable (subN a b) := inferInstanceAs (Decidable (_ = _))
theorem subN_refl (a : Nat) : subN a a := Nat.and_self a
theorem subN_trans {a b c : Nat} (h1 : subN a b) (h2 : subN b c) : subN a c := by
  unfold subN at *
  rw [← h1, Nat.and_assoc, h2]
theorem subN_bit {a b : Nat} : subN a b ↔ ∀ i, a.testBit i = true → b.testBit i = true := by
  constructor
  · intro h i hi
    have := congrArg (·.testBit i) h
    simp only [Nat.testBit_and] at this
    rw [hi] at this
    simpa using this
  · intro h
    apply Nat.eq_of_testBit_eq
    intro i
    rw [Nat.testBit_and]
    cases hi : a.testBit i
    · rfl
    · rw [h i hi]; rfl
theorem cntF_sub : ∀ (f a b : Nat), subN a b → b < 2 ^ f → cntF f a ≤ cntF f b ∧ (cntF f a = cntF f b → a = b)
  | 0, a, b, h, hb => by
    have : b = 0 := by simpa using hb
    subst this
    unfold subN at h
    rw [Nat.and_zero] at h
    exact ⟨Nat.le_refl _, fun _ => h.symm⟩
  | f + 1, a, b, h, hb => by
    have hd : subN (a / 2) (b / 2) := by
      rw [subN_bit] at h ⊢
      intro i hi
      rw [← Nat.testBit_succ] at hi ⊢
      exact h _ hi
    have h0 : a % 2 ≤ b % 2 := by
      have := (subN_bit.1 h) 0
      simp only [Nat.testBit_zero, decide_eq_true_eq] at this
      omega
    obtain ⟨i1, i2⟩ := cntF_sub f (a / 2) (b / 2) hd (by rw [Nat.pow_succ] at hb; omega)
    unfold cntF
    refine ⟨by omega, fun e => ?_⟩
    have := i2 (by omega)
    omega
/-- The order's number of a set. -/
def keyN (m : Nat) : Nat := cntN m * 256 + m
theorem key_lt {a b : Nat} (ha : a < 256) (hb : b < 256) : keyN a < keyN b ↔ cntN a < cntN b ∨ (cntN a = cntN b ∧ a < b) := by unfold keyN; omega
theorem key_inj {a b : Nat} (ha : a < 256) (hb : b < 256) (h : keyN a = keyN b) : a = b := by unfold keyN at h; omega
theorem key_sub {a b : Nat} (hb : b < 256) (h : subN a b) (hne : a ≠ b) : keyN a < keyN b := by
  obtain ⟨h1, h2⟩ := cntF_sub 8 a b h (by omega)
  have ha : a ≤ b := by unfold subN at h; rw [← h]; exact Nat.and_le_right
  have h3 : cntN a ≤ cntN b := h1
  have h4 : cntN a ≠ cntN b := fun e => hne (h2 e)
  unfold keyN
  omega
/-- The sets of a list that have no other one as a part. -/
def minIn (l : List Nat) (x : Nat) : Prop := x ∈ l ∧ ∀ y ∈ l, subN y x → y = x
/-- What post.least keeps of sets in order. -/
def keepS (kept : List Nat) (x : Nat) : List Nat := if kept.any (fun y => decide (subN y x)) = true then kept else kept ++ [x]
def keepL (l : List Nat) : List Nat := l.foldl keepS []
theorem keepL_snoc (l : List Nat) (x : Nat) : keepL (l ++ [x]) = keepS (keepL l) x := by unfold keepL; rw [List.foldl_append]; rfl
theorem keepL_len (l : List Nat) : (keepL l).length ≤ l.length := by
  refine snoc_ind (P := fun l => (keepL l).length ≤ l.length) (Nat.le_refl _) (fun l x ih => ?_) l
  rw [keepL_snoc]
  unfold keepS
  split <;> simp <;> omega
theorem least_under {l : List Nat} (hb : ∀ x ∈ l, x < 256) : ∀ (n x : Nat), keyN x = n → x ∈ l → ∃ y, minIn l y ∧ subN y x := by
  intro n
  induction n using Nat.strongRecOn with
  | _ n ih =>
    intro x hx hm
    by_cases h : minIn l x
    · exact ⟨x, h, subN_refl x⟩
    · have : ∃ y ∈ l, subN y x ∧ y ≠ x := by
        apply Classical.byContradiction
        intro hn
        exact h ⟨hm, fun y hy hs => Classical.byContradiction fun hne => hn ⟨y, hy, hs, hne⟩⟩
      obtain ⟨y, hy, hs, hne⟩ := this
      obtain ⟨z, hz, hzs⟩ := ih (keyN y) (hx ▸ key_sub (hb x hm) hs hne) y rfl hy
      exact ⟨z, hz, subN_trans hzs hs⟩
/-- In order (equal ones may stand side by side). -/
theorem keepL_spec (l : List Nat) (hb : ∀ x ∈ l, x < 256) (hs : l.Pairwise (fun a b => keyN a ≤ keyN b)) :
    (keepL l).Pairwise (fun a b => keyN a < keyN b) ∧ ∀ x, x ∈ keepL l ↔ minIn l x := by
  suffices H : ∀ (r p : List Nat), p ++ r = l → (keepL p).Pairwise (fun a b => keyN a < keyN b) ∧ ∀ x, x ∈ keepL p ↔ x ∈ p ∧ minIn l x by
    obtain ⟨h1, h2⟩ := H [] l (by simp)
    exact ⟨h1, fun x => (h2 x).trans ⟨fun h => h.2, fun h => ⟨h.1, h⟩⟩⟩
  intro r p
  revert r
  refine snoc_ind (P := fun p => ∀ r, p ++ r = l → (keepL p).Pairwise (fun a b => keyN a < keyN b) ∧ ∀ x, x ∈ keepL p ↔ x ∈ p ∧ minIn l x) (fun _ _ => ⟨List.Pairwise.nil, fun x => by simp [keepL]⟩) (fun p x ih r e => ?_) p
  · skip
    obtain ⟨i1, i2⟩ := ih (x :: r) (by simpa using e)
    have hx : x ∈ l := by rw [← e]; simp
    have hp : ∀ y ∈ p, y ∈ l ∧ keyN y ≤ keyN x := by
      intro y hy
      refine ⟨by rw [← e]; simp [hy], ?_⟩
      rw [← e, List.append_assoc, List.pairwise_append] at hs
      exact hs.2.2 y hy x (by simp)
    rw [keepL_snoc]
    unfold keepS
    by_cases hk : (keepL p).any (fun y => decide (subN y x)) = true
    · rw [if_pos hk]
      rw [List.any_eq_true] at hk
      obtain ⟨y, hy, hyx⟩ := hk
      have hyx := of_decide_eq_true hyx
      obtain ⟨hyp, hym⟩ := (i2 y).1 hy
      refine ⟨i1, fun z => ?_⟩
      rw [i2 z]
      constructor
      · rintro ⟨h1, h2⟩; exact ⟨by simp [h1], h2⟩
      · rintro ⟨h1, h2⟩
        refine ⟨?_, h2⟩
        rcases List.mem_append.1 h1 with h | h
        · exact h
        · have hz : z = x := by simpa using h
          subst hz
          have := h2.2 y (hp y hyp).1 hyx
          rw [← this]
          exact hyp
    · rw [if_neg hk]
      have hn : ∀ y ∈ keepL p, ¬ subN y x := by
        intro y hy hs'
        apply hk
        rw [List.any_eq_true]
        exact ⟨y, hy, decide_eq_true hs'⟩
      have hmin : minIn l x := by
        refine ⟨hx, fun y hy hyx => Classical.byContradiction fun hne => ?_⟩
        obtain ⟨z, hz, hzy⟩ := least_under hb _ y rfl hy
        have hzx := subN_trans hzy hyx
        have hzk : keyN z < keyN x := by
          rcases Nat.lt_or_ge (keyN z) (keyN x) with h | h
          · exact h
          · have h1 := key_sub (hb x hx) hyx hne
            rcases Decidable.em (z = y) with rfl | hne2
            · omega
            · have := key_sub (hb y hy) hzy hne2
              omega
        have hzl := hz.1
        rw [← e] at hzl
        simp only [List.append_assoc, List.mem_append, List.mem_cons, List.not_mem_nil, or_false] at hzl
        rcases hzl with h | rfl | h
        · exact hn z ((i2 z).2 ⟨h, hz⟩) hzx
        · omega
        · rw [← e, List.append_assoc, List.pairwise_append] at hs
          have := hs.2.1
          simp only [List.singleton_append, List.pairwise_cons] at this
          have := this.1 z h
          omega
      refine ⟨?_, fun z => ?_⟩
      · rw [List.pairwise_append]
        refine ⟨i1, List.pairwise_singleton _ _, ?_⟩
        intro y hy b hb'
        obtain rfl : b = x := by simpa using hb'
        obtain ⟨hyp, hym⟩ := (i2 y).1 hy
        have h1 := (hp y hyp).2
        rcases Nat.lt_or_ge (keyN y) (keyN b) with h | h
        · exact h
        · have := key_inj (hb y (hp y hyp).1) (hb b hx) (by omega)
          subst this
          exact absurd (subN_refl y) (hn y hy)
      · rw [List.mem_append, i2 z]
        simp only [List.mem_singleton, List.mem_append]
        constructor
        · rintro (⟨h1, h2⟩ | rfl)
          · exact ⟨.inl h1, h2⟩
          · exact ⟨.inr rfl, hmin⟩
        · rintro ⟨h1 | h1, h2⟩
          · exact .inl ⟨h1, h2⟩
          · exact .inr h1
/-- What the reference's least returns. -/
def minB (l : List Nat) (x : Nat) : Bool := l.all fun y => !(decide (subN y x) && decide (y ≠ x))
def levelL (l : List Nat) (n : Nat) : List Nat := l.filter fun x => decide (cntN x = n) && minB l x
def leastR (l : List Nat) (n : Nat) : List Nat := (List.range n).flatMap (levelL l)
theorem minB_is (l : List Nat) (x : Nat) : minB l x = true ↔ ∀ y ∈ l, subN y x → y = x := by
  unfold minB
  rw [List.all_eq_true]
  constructor
  · intro h y hy hs
    have := h y hy
    simp only [Bool.not_eq_true', Bool.and_eq_false_iff, decide_eq_false_iff_not, Decidable.not_not] at this
    exact this.resolve_left (fun hn => hn hs)
  · intro h y hy
    simp only [Bool.not_eq_true', Bool.and_eq_false_iff, decide_eq_false_iff_not, Decidable.not_not]
    rcases Decidable.em (subN y x) with hs | hs
    · exact .inr (h y hy hs)
    · exact .inl hs
theorem leastR_spec (l : List Nat) (hb : ∀ x ∈ l, x < 256) (hl : l.Pairwise (· < ·)) : ∀ n, (leastR l n).Pairwise (fun a b => keyN a < keyN b) ∧ ∀ x, x ∈ leastR l n ↔ minIn l x ∧ cntN x < n := by
  intro n
  have mem : ∀ x, x ∈ leastR l n ↔ minIn l x ∧ cntN x < n := by
    intro x
    unfold leastR levelL
    simp only [List.mem_flatMap, List.mem_range, List.mem_filter, Bool.and_eq_true, decide_eq_true_eq, minB_is]
    constructor
    · rintro ⟨k, hk, hx, rfl, hm⟩; exact ⟨⟨hx, hm⟩, hk⟩
    · rintro ⟨⟨hx, hm⟩, hk⟩; exact ⟨_, hk, hx, rfl, hm⟩
  refine ⟨?_, mem⟩
  clear mem
  induction n with
  | zero => exact List.Pairwise.nil
  | succ n ih =>
    have e : leastR l (n + 1) = leastR l n ++ levelL l n := by unfold leastR; rw [List.range_succ, List.flatMap_append]; simp
    rw [e, List.pairwise_append]
    refine ⟨ih, ?_, ?_⟩
    · unfold levelL
      rw [List.pairwise_filter]
      refine hl.imp_of_mem ?_
      intro a b ha hb' hab h1 h2
      simp only [Bool.and_eq_true, decide_eq_true_eq] at h1 h2
      exact (key_lt (hb a ha) (hb b hb')).2 (.inr ⟨by omega, hab⟩)
    · intro a ha b hb'
      unfold leastR at ha
      unfold levelL at ha hb'
      simp only [List.mem_flatMap, List.mem_range, List.mem_filter, Bool.and_eq_true, decide_eq_true_eq] at ha hb'
      obtain ⟨k, hk, ha1, ha2, -⟩ := ha
      exact (key_lt (hb a ha1) (hb b hb'.1)).2 (.inl (by omega))
theorem rising_key : ∀ {a b : List Nat}, a.Pairwise (fun x y => keyN x < keyN y) → b.Pairwise (fun x y => keyN x < keyN y) → (∀ x, x ∈ a ↔ x ∈ b) → a = b
  | [], [], _, _, _ => rfl
  | [], y :: b, _, _, h => absurd ((h y).2 (by simp)) (by simp)
  | x :: a, [], _, _, h => absurd ((h x).1 (by simp)) (by simp)
  | x :: a, y :: b, ha, hb, h => by
    rw [List.pairwise_cons] at ha hb
    have hxy : x = y := by
      rcases List.mem_cons.1 ((h x).1 (by simp)) with e | hx
      · exact e
      · rcases List.mem_cons.1 ((h y).2 (by simp)) with e | hy
        · exact e.symm
        · have h1 := ha.1 y hy
          have h2 := hb.1 x hx
          omega
    subst hxy
    rw [rising_key ha.2 hb.2 (fun z => ?_)]
    have hz := h z
    simp only [List.mem_cons] at hz
    constructor
    · intro hm
      rcases hz.1 (.inr hm) with e | h'
      · have := ha.1 z hm
        rw [e] at this
        omega
      · exact h'
    · intro hm
      rcases hz.2 (.inr hm) with e | h'
      · have := hb.1 z hm
        rw [e] at this
        omega
      · exact h'
/-- Has a set one of each? -/
def hitsB (sets : List Nat) (m : Nat) : Bool := sets.all fun s => decide (s &&& m ≠ 0)
theorem cntF_le : ∀ f m, cntF f m ≤ f
  | 0, _ => Nat.le_refl _
  | f + 1, m => by have := cntF_le f (m / 2); unfold cntF; omega
/-- The two lists of the least sets are the same: what was found has all least hits, and hits alone. -/
theorem least_same (sets : List Nat) (K : Nat) (hK : K ≤ 8) (hits srt : List Nat) (hp : ∀ x, x ∈ srt ↔ x ∈ hits) (hs : srt.Pairwise (fun a b => keyN a ≤ keyN b))
    (h1 : ∀ x ∈ hits, x < 2 ^ K ∧ hitsB sets x = true) (h2 : ∀ x, minIn ((List.range (2 ^ K)).filter (hitsB sets)) x → x ∈ hits) :
    keepL srt = leastR ((List.range (2 ^ K)).filter (hitsB sets)) 13 := by
  have hpow : 2 ^ K ≤ 256 := Nat.le_trans (Nat.pow_le_pow_right (by omega) hK) (by decide)
  have hall : ∀ x, x ∈ (List.range (2 ^ K)).filter (hitsB sets) ↔ x < 2 ^ K ∧ hitsB sets x = true := by intro x; simp
  have hb1 : ∀ x ∈ srt, x < 256 := fun x hx => by have := (h1 x ((hp x).1 hx)).1; omega
  have hb2 : ∀ x ∈ (List.range (2 ^ K)).filter (hitsB sets), x < 256 := fun x hx => by have := ((hall x).1 hx).1; omega
  obtain ⟨p1, m1⟩ := keepL_spec srt hb1 hs
  obtain ⟨p2, m2⟩ := leastR_spec _ hb2 (List.Pairwise.filter _ (List.pairwise_lt_range)) 13
  refine rising_key p1 p2 (fun x => ?_)
  rw [m1, m2]
  constructor
  · rintro ⟨hx, hm⟩
    refine ⟨⟨(hall x).2 (h1 x ((hp x).1 hx)), fun y hy hyx => ?_⟩, by have := cntF_le 8 x; unfold cntN; omega⟩
    obtain ⟨z, hz, hzy⟩ := least_under hb2 _ y rfl hy
    have hzs : z ∈ srt := (hp z).2 (h2 z hz)
    have e := hm z hzs (subN_trans hzy hyx)
    subst e
    have ha : z ≤ y := by unfold subN at hzy; rw [← hzy]; exact Nat.and_le_right
    have hb : y ≤ z := by unfold subN at hyx; rw [← hyx]; exact Nat.and_le_right
    omega
  · rintro ⟨hm, -⟩
    refine ⟨(hp x).2 (h2 x hm), fun y hy hyx => hm.2 y ((hall y).2 (h1 y ((hp y).1 hy))) hyx⟩
/-- Done with a set: it is found, or has a set that it misses all of whose sensors were tried. -/
def DoneN (sets : List Nat) (K : Nat) (S H : List Nat) (m : Nat) : Prop :=
  (hitsB sets m = true ∧ m ∈ H) ∨ ∃ s ∈ sets, s &&& m = 0 ∧ ∀ k, k < K → s.testBit k = true → (m ||| 2 ^ k) ∈ S
/-- What a search leaves: S seen, H found. -/
structure Went (sets : List Nat) (K : Nat) (S H S' H' : List Nat) : Prop where
  seen : ∀ m ∈ S, m ∈ S'
  found : ∀ m ∈ H, m ∈ H'
  len : H'.length + S.length ≤ H.length + S'.length
  nodup : S.Nodup → S'.Nodup
  bound : (∀ m ∈ S, m < 2 ^ K) → ∀ m ∈ S', m < 2 ^ K
  hit : ∀ m ∈ H', m ∈ H ∨ (m < 2 ^ K ∧ hitsB sets m = true)
  done : ∀ m ∈ S', m ∈ S ∨ DoneN sets K S' H' m
theorem DoneN.mono {sets : List Nat} {K : Nat} {S H S' H' : List Nat} {m : Nat} (h : DoneN sets K S H m) (h1 : ∀ m ∈ S, m ∈ S') (h2 : ∀ m ∈ H, m ∈ H') : DoneN sets K S' H' m := by
  rcases h with ⟨h, h'⟩ | ⟨s, hs, h0, hk⟩
  · exact .inl ⟨h, h2 _ h'⟩
  · exact .inr ⟨s, hs, h0, fun k hk' hb => h1 _ (hk k hk' hb)⟩
theorem Went.refl {sets : List Nat} {K : Nat} (S H : List Nat) : Went sets K S H S H :=
  ⟨fun _ h => h, fun _ h => h, by omega, fun h => h, fun h => h, fun _ h => .inl h, fun _ h => .inl h⟩
theorem Went.trans {sets : List Nat} {K : Nat} {S H S1 H1 S2 H2 : List Nat} (a : Went sets K S H S1 H1) (b : Went sets K S1 H1 S2 H2) : Went sets K S H S2 H2 where
  seen := fun m h => b.seen m (a.seen m h)
  found := fun m h => b.found m (a.found m h)
  len := by have := a.len; have := b.len; omega
  nodup := fun h => b.nodup (a.nodup h)
  bound := fun h => b.bound (a.bound h)
  hit := fun m h => by
    rcases b.hit m h with h' | h'
    · exact a.hit m h'
    · exact .inr h'
  done := fun m h => by
    rcases b.done m h with h' | h'
    · rcases a.done m h' with h'' | h''
      · exact .inl h''
      · exact .inr (h''.mono b.seen b.found)
    · exact .inr h'
/-- A set that hits is written down. -/
theorem Went.add {sets : List Nat} {K : Nat} {S H : List Nat} {own : Nat} (ho : own < 2 ^ K) (hn : own ∉ S) (hh : hitsB sets own = true) : Went sets K S H (own :: S) (H ++ [own]) where
  seen := fun m h => List.mem_cons_of_mem _ h
  found := fun m h => List.mem_append_left _ h
  len := by simp; omega
  nodup := fun h => List.nodup_cons.2 ⟨hn, h⟩
  bound := fun h m hm => by
    rcases List.mem_cons.1 hm with rfl | hm
    · exact ho
    · exact h m hm
  hit := fun m h => by
    rcases List.mem_append.1 h with h | h
    · exact .inl h
    · obtain rfl : m = own := by simpa using h
      exact .inr ⟨ho, hh⟩
  done := fun m h => by
    rcases List.mem_cons.1 h with rfl | h
    · exact .inr (.inl ⟨hh, by simp⟩)
    · exact .inl h
/-- A set that misses one, behind its tries. -/
theorem Went.tries {sets : List Nat} {K : Nat} {S H S' H' : List Nat} {own s : Nat} (ho : own < 2 ^ K) (hn : own ∉ S) (hs : s ∈ sets) (h0 : s &&& own = 0)
    (g : Went sets K (own :: S) H S' H') (hk : ∀ k, k < K → s.testBit k = true → (own ||| 2 ^ k) ∈ S') : Went sets K S H S' H' where
  seen := fun m h => g.seen m (List.mem_cons_of_mem _ h)
  found := g.found
  len := by have := g.len; simp at this; omega
  nodup := fun h => g.nodup (List.nodup_cons.2 ⟨hn, h⟩)
  bound := fun h => g.bound (fun m hm => by
    rcases List.mem_cons.1 hm with rfl | hm
    · exact ho
    · exact h m hm)
  hit := g.hit
  done := fun m h => by
    rcases g.done m h with h' | h'
    · rcases List.mem_cons.1 h' with rfl | h'
      · exact .inr (.inr ⟨s, hs, h0, hk⟩)
      · exact .inl h'
    · exact .inr h'
theorem two_bit (k i : Nat) : (2 ^ k).testBit i = decide (k = i) := by rw [Nat.testBit_two_pow]
/-- All least hits are found. -/
theorem went_all {sets : List Nat} {K : Nat} (hsets : ∀ s ∈ sets, s < 2 ^ K) {S H : List Nat} (g : Went sets K [] [] S H) (h0 : 0 ∈ S) : ∀ x, minIn ((List.range (2 ^ K)).filter (hitsB sets)) x → x ∈ H := by
  intro x ⟨hx, hm⟩
  simp only [List.mem_filter, List.mem_range] at hx
  have hS : ∀ m ∈ S, m < 2 ^ K := g.bound (by simp)
  suffices key : ∀ d m, x - m = d → m ∈ S → subN m x → x ∈ H from key _ 0 rfl h0 (by unfold subN; exact Nat.zero_and x)
  intro d
  induction d using Nat.strongRecOn with
  | _ d ih =>
    intro m hd hmS hmx
    have hle : m ≤ x := by unfold subN at hmx; rw [← hmx]; exact Nat.and_le_right
    rcases g.done m hmS with h | h
    · exact absurd h (by simp)
    rcases h with ⟨hh, hmH⟩ | ⟨s, hs, hz, hk⟩
    · have := hm m (by simp only [List.mem_filter, List.mem_range]; exact ⟨hS m hmS, hh⟩) hmx
      rw [← this]
      exact hmH
    · have hsx : s &&& x ≠ 0 := by
        have := List.all_eq_true.1 hx.2 s hs
        exact of_decide_eq_true this
      obtain ⟨k, hk'⟩ := Nat.exists_testBit_of_ne_zero hsx
      rw [Nat.testBit_and, Bool.and_eq_true] at hk'
      have hmk : m.testBit k = false := by
        have := congrArg (·.testBit k) hz
        simp only [Nat.testBit_and, Nat.zero_testBit, hk'.1, Bool.true_and] at this
        exact this
      have hkK : k < K := by
        apply Classical.byContradiction
        intro hn
        have h1 : 2 ^ K ≤ 2 ^ k := Nat.pow_le_pow_right (by omega) (by omega)
        have h2 := hsets s hs
        have h3 := Nat.testBit_lt_two_pow (show s < 2 ^ k by omega)
        rw [hk'.1] at h3
        cases h3
      have hsub : subN (m ||| 2 ^ k) x := by
        rw [subN_bit]
        intro i hi
        rw [Nat.testBit_or, Bool.or_eq_true] at hi
        rcases hi with hi | hi
        · exact (subN_bit.1 hmx) i hi
        · rw [two_bit] at hi
          have := of_decide_eq_true hi
          rw [← this]
          exact hk'.2
      have hgt : m < m ||| 2 ^ k := by
        rcases Nat.lt_or_ge m (m ||| 2 ^ k) with h | h
        · exact h
        · have h1 : m ≤ m ||| 2 ^ k := Nat.left_le_or
          have h2 : m = m ||| 2 ^ k := by omega
          have h3 := congrArg (·.testBit k) h2
          simp only [Nat.testBit_or, two_bit, hmk, decide_true, Bool.or_true] at h3
          cases h3
      have hle2 : m ||| 2 ^ k ≤ x := by unfold subN at hsub; rw [← hsub]; exact Nat.and_le_right
      exact ih (x - (m ||| 2 ^ k)) (by omega) _ rfl (hk k hkK hk'.1) hsub
/-- Lists of different numbers below a bound are no longer than it. -/
theorem nodup_len : ∀ (n : Nat) (l : List Nat), l.Nodup → (∀ x ∈ l, x < n) → l.length ≤ n
  | 0, l, _, h => by
    match l, h with
    | [], _ => exact Nat.le_refl _
    | x :: l, h => exact absurd (h x (by simp)) (by omega)
  | n + 1, l, hn, h => by
    by_cases hm : n ∈ l
    · have h1 := nodup_len n (l.erase n) (hn.erase n) (fun x hx => by
        have h2 := (hn.mem_erase_iff).1 hx
        have := h x h2.2
        have := h2.1
        omega)
      have h3 := List.length_erase_of_mem hm
      omega
    · exact Nat.le_succ_of_le (nodup_len n l hn (fun x hx => by
        have := h x hx
        have : x ≠ n := fun e => hm (e ▸ hx)
        omega))
end Go.Proofs.Ytgjikdhidakloaa
