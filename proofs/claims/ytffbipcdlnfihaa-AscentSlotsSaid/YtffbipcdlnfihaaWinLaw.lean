/-
  Plain law: how often two periodic windows meet, and when they do so next.
-/
import Derived.Test.YtffbipcdlnfihaaCore
namespace Go.Proofs.Ytffbipcdlnfihaa

/-- A sum. -/
def sumN : Nat → (Nat → Nat) → Nat
  | 0, _ => 0
  | n + 1, f => sumN n f + f n
def ind (p : Prop) [Decidable p] : Nat := if p then 1 else 0
theorem ind_pos {p : Prop} [Decidable p] (h : p) : ind p = 1 := if_pos h
theorem ind_neg {p : Prop} [Decidable p] (h : ¬ p) : ind p = 0 := if_neg h
theorem ind_le (p : Prop) [Decidable p] : ind p ≤ 1 := by unfold ind; split <;> omega
theorem ind_congr {p q : Prop} [Decidable p] [Decidable q] (h : p ↔ q) : ind p = ind q := by
  by_cases hp : p
  · rw [ind_pos hp, ind_pos (h.1 hp)]
  · rw [ind_neg hp, ind_neg (fun hq => hp (h.2 hq))]
theorem sumN_congr {n : Nat} {f g : Nat → Nat} (h : ∀ i, i < n → f i = g i) : sumN n f = sumN n g := by
  induction n with
  | zero => rfl
  | succ n ih => rw [sumN, sumN, ih (fun i hi => h i (by omega)), h n (by omega)]
theorem sumN_zero (n : Nat) : sumN n (fun _ => 0) = 0 := by
  induction n with
  | zero => rfl
  | succ n ih => rw [sumN, ih]
theorem sumN_const (n c : Nat) : sumN n (fun _ => c) = n * c := by
  induction n with
  | zero => simp [sumN]
  | succ n ih => rw [sumN, ih, Nat.succ_mul]
theorem sumN_add (n : Nat) (f g : Nat → Nat) : sumN n (fun i => f i + g i) = sumN n f + sumN n g := by
  induction n with
  | zero => rfl
  | succ n ih => simp only [sumN, ih]; omega
theorem sumN_swap (n m : Nat) (f : Nat → Nat → Nat) : sumN n (fun i => sumN m (fun j => f i j)) = sumN m (fun j => sumN n (fun i => f i j)) := by
  induction n with
  | zero => simp only [sumN]; rw [sumN_zero]
  | succ n ih => simp only [sumN, ih]; rw [sumN_add]
theorem sumN_le {n : Nat} {f g : Nat → Nat} (h : ∀ i, i < n → f i ≤ g i) : sumN n f ≤ sumN n g := by
  induction n with
  | zero => exact Nat.le_refl _
  | succ n ih =>
    have h1 := ih (fun i hi => h i (by omega))
    have h2 := h n (by omega)
    simp only [sumN]
    omega
theorem sumN_eq_of_le {n : Nat} {f g : Nat → Nat} (h : ∀ i, i < n → f i ≤ g i) (e : sumN n f = sumN n g) : ∀ i, i < n → f i = g i := by
  induction n with
  | zero => intro i hi; omega
  | succ n ih =>
    have h1 := sumN_le (fun i (hi : i < n) => h i (by omega))
    have h2 := h n (by omega)
    simp only [sumN] at e
    intro i hi
    by_cases hin : i = n
    · subst hin; omega
    · exact ih (fun i hi => h i (by omega)) (by omega) i (by omega)
theorem sumN_single (n u : Nat) : sumN n (fun i => ind (u = i)) = ind (u < n) := by
  induction n with
  | zero => exact (ind_neg (by omega)).symm
  | succ n ih =>
    rw [sumN, ih]
    by_cases h : u < n
    · rw [ind_pos h, ind_neg (by omega), ind_pos (show u < n + 1 by omega)]
    · by_cases h2 : u = n
      · rw [ind_neg h, ind_pos h2, ind_pos (show u < n + 1 by omega)]
      · rw [ind_neg h, ind_neg h2, ind_neg (show ¬ u < n + 1 by omega)]
theorem sumN_le_one {n : Nat} {p : Nat → Prop} [∀ i, Decidable (p i)] (h : ∀ i j, i < n → j < n → p i → p j → i = j) : sumN n (fun i => ind (p i)) ≤ 1 := by
  induction n with
  | zero => simp [sumN]
  | succ n ih =>
    have h1 := ih (fun i j hi hj => h i j (by omega) (by omega))
    simp only [sumN]
    by_cases hn : p n
    · have : sumN n (fun i => ind (p i)) = 0 := by
        rw [← sumN_zero n]
        exact sumN_congr fun i hi => ind_neg fun hp => by have := h i n (by omega) (by omega) hp hn; omega
      rw [this, ind_pos hn]
      omega
    · rw [ind_neg hn]; omega
theorem sumN_pos {n : Nat} {p : Nat → Prop} [∀ i, Decidable (p i)] (h : sumN n (fun i => ind (p i)) ≠ 0) : ∃ i, i < n ∧ p i := by
  induction n with
  | zero => exact absurd rfl h
  | succ n ih =>
    by_cases hn : p n
    · exact ⟨n, by omega, hn⟩
    · simp only [sumN, ind_neg hn] at h
      obtain ⟨i, hi, hp⟩ := ih (by omega)
      exact ⟨i, by omega, hp⟩
theorem sumN_zero_of {n : Nat} {p : Nat → Prop} [∀ i, Decidable (p i)] (h : ∀ i, i < n → ¬ p i) : sumN n (fun i => ind (p i)) = 0 := by
  rw [← sumN_zero n]
  exact sumN_congr fun i hi => ind_neg (h i hi)
/-- Of each rest so many. -/
theorem cnt_res (g r : Nat) (hr : r < g) (M : Nat) : sumN M (fun v => ind (v % g = r)) = M / g + ind (r < M % g) := by
  induction M with
  | zero => rw [Nat.zero_div, Nat.zero_mod, ind_neg (by omega)]; rfl
  | succ M ih =>
    have e := Nat.div_add_mod M g
    have hk := Nat.mod_lt M (show 0 < g by omega)
    rw [sumN, ih]
    by_cases h : M % g + 1 = g
    · have e1 : (M + 1) / g = M / g + 1 := by
        have : M + 1 = g * (M / g + 1) := by rw [Nat.mul_add]; omega
        rw [this, Nat.mul_div_cancel_left _ (by omega)]
      have e2 : (M + 1) % g = 0 := by
        have : M + 1 = g * (M / g + 1) := by rw [Nat.mul_add]; omega
        rw [this, Nat.mul_mod_right]
      rw [e1, e2, ind_neg (show ¬ r < 0 by omega)]
      by_cases h1 : M % g = r
      · rw [ind_pos h1, ind_neg (by omega)]
      · rw [ind_neg h1, ind_pos (by omega)]
    · have e1 : (M + 1) / g = M / g := by
        have : M + 1 = g * (M / g) + (M % g + 1) := by omega
        rw [this, Nat.mul_add_div (show 0 < g by omega), Nat.div_eq_of_lt (show M % g + 1 < g by omega)]; omega
      have e2 : (M + 1) % g = M % g + 1 := by
        have : M + 1 = g * (M / g) + (M % g + 1) := by omega
        rw [this, Nat.mul_add_mod, Nat.mod_eq_of_lt (show M % g + 1 < g by omega)]
      rw [e1, e2]
      by_cases h1 : M % g = r
      · rw [ind_pos h1, ind_neg (by omega), ind_pos (by omega)]
      · rw [ind_neg h1]
        by_cases h2 : r < M % g
        · rw [ind_pos h2, ind_pos (by omega)]
        · rw [ind_neg h2, ind_neg (by omega)]

/-- The place of a time in a window's period. -/
def plc (P F t : Int) : Nat := ((t - F) % P).toNat
theorem plc_lt (P : Nat) (F t : Int) (hP : 0 < P) : plc P F t < P := by
  unfold plc
  have h1 := Int.emod_nonneg (t - F) (show (P : Int) ≠ 0 by omega)
  have h2 := Int.emod_lt_of_pos (t - F) (show (0 : Int) < P by omega)
  omega
theorem plc_spec (P : Nat) (F t : Int) (hP : 0 < P) : ∃ q : Int, t = F + plc P F t + P * q := by
  have h1 := Int.emod_nonneg (t - F) (show (P : Int) ≠ 0 by omega)
  have h2 := Int.mul_ediv_add_emod (t - F) P
  refine ⟨(t - F) / P, ?_⟩
  unfold plc
  omega
theorem dvd_of_plc {P : Nat} {F t s : Int} (hP : 0 < P) (h : plc P F t = plc P F s) : (P : Int) ∣ t - s := by
  obtain ⟨q, hq⟩ := plc_spec P F t hP
  obtain ⟨r, hr⟩ := plc_spec P F s hP
  refine ⟨q - r, ?_⟩
  rw [Int.mul_sub]
  omega
/-- Two places that can come together. -/
def near (g : Nat) (F G : Int) (u v : Nat) : Prop := (v : Int) % g = (F + u - G) % g
instance (g : Nat) (F G : Int) (u v : Nat) : Decidable (near g F G u v) := by unfold near; infer_instance
theorem near_iff (g : Nat) (hg : 0 < g) (F G : Int) (u v : Nat) : near g F G u v ↔ v % g = plc g (G - F) u := by
  unfold near plc
  have h1 := Int.emod_nonneg (F + u - G) (show (g : Int) ≠ 0 by omega)
  rw [show (u : Int) - (G - F) = F + u - G by omega]
  have : ((v % g : Nat) : Int) = (v : Int) % g := Int.natCast_emod v g
  omega
theorem near_iff2 (g : Nat) (hg : 0 < g) (F G : Int) (u v : Nat) (_hv : v < g) : near g F G u v ↔ u % g = plc g (F - G) v := by
  unfold near plc
  have h1 := Int.emod_nonneg ((v : Int) - (F - G)) (show (g : Int) ≠ 0 by omega)
  have : ((u % g : Nat) : Int) = (u : Int) % g := Int.natCast_emod u g
  constructor
  · intro h
    have h2 : ((g : Int)) ∣ ((v : Int) - (F + u - G)) := Int.dvd_of_emod_eq_zero (Int.emod_eq_emod_iff_emod_sub_eq_zero.1 h)
    have h3 : ((u : Int) % g) = ((v : Int) - (F - G)) % g := by
      apply Int.emod_eq_emod_iff_emod_sub_eq_zero.2
      apply Int.emod_eq_zero_of_dvd
      obtain ⟨k, hk⟩ := h2
      exact ⟨-k, by rw [Int.mul_neg]; omega⟩
    omega
  · intro h
    have h3 : ((u : Int) % g) = ((v : Int) - (F - G)) % g := by omega
    have h2 : ((g : Int)) ∣ ((u : Int) - ((v : Int) - (F - G))) := Int.dvd_of_emod_eq_zero (Int.emod_eq_emod_iff_emod_sub_eq_zero.1 h3)
    apply Int.emod_eq_emod_iff_emod_sub_eq_zero.2
    apply Int.emod_eq_zero_of_dvd
    obtain ⟨k, hk⟩ := h2
    exact ⟨-k, by rw [Int.mul_neg]; omega⟩
theorem pair_count (P Q : Nat) (F G : Int) (hP : 0 < P) (hQ : 0 < Q) (u v : Nat) (hu : u < P) (hv : v < Q) :
    sumN (P.lcm Q) (fun i => ind (plc P F i = u ∧ plc Q G i = v)) = ind (near (P.gcd Q) F G u v) := by
  have hg : 0 < P.gcd Q := Nat.gcd_pos_of_pos_left _ hP
  have hle : ∀ u v, u < P → v < Q → sumN (P.lcm Q) (fun i => ind (plc P F i = u ∧ plc Q G i = v)) ≤ ind (near (P.gcd Q) F G u v) := by
    intro u v hu hv
    by_cases h0 : sumN (P.lcm Q) (fun i => ind (plc P F i = u ∧ plc Q G i = v)) = 0
    · omega
    · obtain ⟨i, hi, h1, h2⟩ := sumN_pos h0
      have hn : near (P.gcd Q) F G u v := by
        obtain ⟨q, hq⟩ := plc_spec P F i hP
        obtain ⟨r, hr⟩ := plc_spec Q G i hQ
        rw [h1] at hq
        rw [h2] at hr
        unfold near
        apply Int.emod_eq_emod_iff_emod_sub_eq_zero.2
        apply Int.emod_eq_zero_of_dvd
        have e : (v : Int) - (F + u - G) = P * q - Q * r := by omega
        rw [e]
        have d1 : ((P.gcd Q : Nat) : Int) ∣ (P : Int) := Int.ofNat_dvd.2 (Nat.gcd_dvd_left P Q)
        have d2 : ((P.gcd Q : Nat) : Int) ∣ (Q : Int) := Int.ofNat_dvd.2 (Nat.gcd_dvd_right P Q)
        exact Int.dvd_sub (Int.dvd_trans d1 (Int.dvd_mul_right _ _)) (Int.dvd_trans d2 (Int.dvd_mul_right _ _))
      rw [ind_pos hn]
      refine sumN_le_one fun i j hi hj ⟨a1, a2⟩ ⟨b1, b2⟩ => ?_
      have c1 := dvd_of_plc (t := (i : Int)) (s := (j : Int)) hP (by rw [a1, b1])
      have c2 := dvd_of_plc (t := (i : Int)) (s := (j : Int)) hQ (by rw [a2, b2])
      have n1 : P ∣ ((i : Int) - j).natAbs := by have := Int.natAbs_dvd_natAbs.2 c1; simpa using this
      have n2 : Q ∣ ((i : Int) - j).natAbs := by have := Int.natAbs_dvd_natAbs.2 c2; simpa using this
      have n3 := Nat.lcm_dvd n1 n2
      have n4 : ((i : Int) - j).natAbs < P.lcm Q := by omega
      have n5 := Nat.eq_zero_of_dvd_of_lt n3 n4
      omega
  have hsum : sumN P (fun u => sumN Q (fun v => sumN (P.lcm Q) (fun i => ind (plc P F i = u ∧ plc Q G i = v)))) = sumN P (fun u => sumN Q (fun v => ind (near (P.gcd Q) F G u v))) := by
    have e1 : sumN P (fun u => sumN Q (fun v => sumN (P.lcm Q) (fun i => ind (plc P F i = u ∧ plc Q G i = v)))) = P.lcm Q := by
      have a1 : ∀ u, u < P → sumN Q (fun v => sumN (P.lcm Q) (fun i => ind (plc P F i = u ∧ plc Q G i = v))) = sumN (P.lcm Q) (fun i => ind (plc P F i = u)) := by
        intro u _
        rw [sumN_swap]
        refine sumN_congr fun i _ => ?_
        by_cases h : plc P F i = u
        · rw [ind_pos h, ← ind_pos (plc_lt Q G i hQ), ← sumN_single]
          exact sumN_congr fun v _ => ind_congr ⟨fun h => h.2, fun h' => ⟨h, h'⟩⟩
        · rw [ind_neg h]
          exact sumN_zero_of fun v _ h' => h h'.1
      rw [sumN_congr a1, sumN_swap, sumN_congr (g := fun _ => 1) (fun i _ => by rw [sumN_single, ind_pos (plc_lt P F i hP)]), sumN_const, Nat.mul_one]
    have e2 : sumN P (fun u => sumN Q (fun v => ind (near (P.gcd Q) F G u v))) = P.lcm Q := by
      have a1 : ∀ u, u < P → sumN Q (fun v => ind (near (P.gcd Q) F G u v)) = Q / P.gcd Q := by
        intro u _
        rw [sumN_congr (g := fun v => ind (v % P.gcd Q = plc (P.gcd Q) (G - F) u)) (fun v _ => ind_congr (near_iff _ hg F G u v)), cnt_res _ _ (plc_lt _ _ _ hg),
          Nat.mod_eq_zero_of_dvd (Nat.gcd_dvd_right P Q), ind_neg (by omega)]
        rfl
      rw [sumN_congr a1, sumN_const, ← Nat.mul_div_assoc _ (Nat.gcd_dvd_right P Q)]
      rfl
    rw [e1, e2]
  have h1 := sumN_eq_of_le (fun u hu => sumN_le (fun v hv => hle u v hu hv)) hsum u hu
  exact sumN_eq_of_le (fun v hv => hle u v hu hv) h1 v hv
/-- How many of the first n places, moved on, are among the first m (modulo g). -/
def sharedN (at_ m n g : Nat) : Nat := (min m (at_ + n) - at_) + (min m (at_ + n - g))
theorem shared_cnt (g at_ m : Nat) (hat : at_ < g) (hm : m ≤ g) (n : Nat) (hn : n ≤ g) : sumN n (fun k => ind ((k + at_) % g < m)) = sharedN at_ m n g := by
  induction n with
  | zero => unfold sharedN; simp only [sumN]; omega
  | succ n ih =>
    rw [sumN, ih (by omega)]
    have e : (n + at_) % g = if n + at_ < g then n + at_ else n + at_ - g := by
      split
      · rename_i h; exact Nat.mod_eq_of_lt h
      · rename_i h; rw [Nat.mod_eq_sub_mod (by omega), Nat.mod_eq_of_lt (by omega)]
    unfold sharedN
    by_cases h : (n + at_) % g < m
    · rw [ind_pos h]; split at e <;> omega
    · rw [ind_neg h]; split at e <;> omega
def oftenN (P L Q M : Nat) (F G : Int) : Nat :=
  (P.gcd Q) * (L / P.gcd Q) * (M / P.gcd Q) + (L / P.gcd Q) * (M % P.gcd Q) + (M / P.gcd Q) * (L % P.gcd Q) + sharedN (plc (P.gcd Q) F G) (L % P.gcd Q) (M % P.gcd Q) (P.gcd Q)
theorem often_law (P L Q M : Nat) (F G : Int) (hP : 0 < P) (hQ : 0 < Q) (hL : L ≤ P) (hM : M ≤ Q) :
    sumN (P.lcm Q) (fun i => ind (plc P F i < L ∧ plc Q G i < M)) = oftenN P L Q M F G := by
  have hg : 0 < P.gcd Q := Nat.gcd_pos_of_pos_left _ hP
  have e1 : sumN (P.lcm Q) (fun i => ind (plc P F i < L ∧ plc Q G i < M)) = sumN L (fun u => sumN M (fun v => sumN (P.lcm Q) (fun i => ind (plc P F i = u ∧ plc Q G i = v)))) := by
    rw [sumN_congr (f := fun u => sumN M (fun v => sumN (P.lcm Q) (fun i => ind (plc P F i = u ∧ plc Q G i = v)))) (fun u _ => sumN_swap _ _ _), sumN_swap]
    refine sumN_congr fun i _ => ?_
    have a1 : ∀ u, u < L → sumN M (fun v => ind (plc P F i = u ∧ plc Q G i = v)) = if plc Q G i < M then ind (plc P F i = u) else 0 := by
      intro u _
      by_cases h : plc P F i = u
      · rw [ind_pos h, sumN_congr (g := fun v => ind (plc Q G i = v)) (fun v _ => ind_congr ⟨fun h => h.2, fun h' => ⟨h, h'⟩⟩), sumN_single]
        rfl
      · rw [ind_neg h, sumN_zero_of (fun v _ h' => h h'.1)]
        split <;> rfl
    rw [sumN_congr a1]
    by_cases h : plc Q G i < M
    · simp only [if_pos h]
      rw [sumN_single]
      exact ind_congr ⟨fun h => h.1, fun h' => ⟨h', h⟩⟩
    · simp only [if_neg h]
      rw [sumN_zero, ind_neg (fun h' => h h'.2)]
  rw [e1, sumN_congr (fun u hu => sumN_congr (fun v hv => pair_count P Q F G hP hQ u v (by omega) (by omega)))]
  unfold oftenN
  generalize P.gcd Q = g at *
  have a1 : ∀ u, u < L → sumN M (fun v => ind (near g F G u v)) = M / g + ind (plc g (G - F) u < M % g) := by
    intro u _
    rw [sumN_congr (g := fun v => ind (v % g = plc g (G - F) u)) (fun v _ => ind_congr (near_iff _ hg F G u v)), cnt_res _ _ (plc_lt _ _ _ hg)]
  rw [sumN_congr a1, sumN_add, sumN_const]
  have a2 : ∀ u, u < L → ind (plc g (G - F) u < M % g) = sumN (M % g) (fun k => ind (near g F G u k)) := by
    intro u _
    rw [← sumN_single]
    refine sumN_congr fun k hk => ind_congr ?_
    have := Nat.mod_lt M hg
    rw [near_iff _ hg, Nat.mod_eq_of_lt (by omega)]
    exact eq_comm
  rw [sumN_congr a2, sumN_swap]
  have a3 : ∀ k, k < M % g → sumN L (fun u => ind (near g F G u k)) = L / g + ind ((k + plc g F G) % g < L % g) := by
    intro k hk
    have := Nat.mod_lt M hg
    rw [sumN_congr (g := fun u => ind (u % g = plc g (F - G) k)) (fun u _ => ind_congr (near_iff2 _ hg F G u k (by omega))), cnt_res _ _ (plc_lt _ _ _ hg)]
    have e : plc g (F - G) k = (k + plc g F G) % g := by
      unfold plc
      have h1 := Int.emod_nonneg (G - F) (show (g : Int) ≠ 0 by omega)
      have h2 := Int.emod_nonneg ((k : Int) - (F - G)) (show (g : Int) ≠ 0 by omega)
      have h3 : (((k + ((G - F) % (g : Int)).toNat) % g : Nat) : Int) = ((k : Int) + (G - F) % g) % g := by
        rw [Int.natCast_emod, Int.natCast_add, Int.toNat_of_nonneg h1]
      rw [Int.add_comm, Int.emod_add_emod, Int.add_comm, show (k : Int) + (G - F) = k - (F - G) by omega] at h3
      omega
    rw [e]
  rw [sumN_congr a3, sumN_add, sumN_const, shared_cnt g _ _ (plc_lt _ _ _ hg) (Nat.le_of_lt (Nat.mod_lt _ hg)) _ (Nat.le_of_lt (Nat.mod_lt _ hg))]
  have e : L * (M / g) = g * (L / g) * (M / g) + L % g * (M / g) := by rw [← Nat.add_mul, Nat.div_add_mod]
  rw [e, Nat.mul_comm (M % g) (L / g), Nat.mul_comm (L % g) (M / g)]
  omega
end Go.Proofs.Ytffbipcdlnfihaa
