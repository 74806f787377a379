/-
  Plain law of AscentNext.
-/
import Derived.Test.YtffbipcdlnfihaaNextLaw
import Derived.Test.YtffbipcdlnfihaaWinLaw
namespace Go.Proofs.Ytffbipcdlnfihaa
set_option maxRecDepth 100000
section
variable {P F L Q G M : Int}
theorem emod_shift {P A x k F : Int} (h : P ∣ A) : (x + A * k - F) % P = (x - F) % P := by
  obtain ⟨c, rfl⟩ := h
  rw [show x + P * c * k - F = (x - F) + P * (c * k) by rw [Int.mul_assoc]; omega, Int.add_mul_emod_self_left]
theorem both_shift {A : Int} (h : P ∣ A) (h' : Q ∣ A) (x k : Int) : bothW P F L Q G M (x + A * k) ↔ bothW P F L Q G M x := by
  unfold bothW
  rw [emod_shift h, emod_shift h']
theorem both_sym {x : Int} : bothW P F L Q G M x ↔ bothW Q G M P F L x := ⟨fun h => ⟨h.2, h.1⟩, fun h => ⟨h.2, h.1⟩⟩
theorem nextIs_sym {t : Int} {o : Option Int} (h : NextIs P F L Q G M t o) : NextIs Q G M P F L t o := by
  cases o with
  | none => exact fun s hs k => h s hs (both_sym.1 k)
  | some x => exact ⟨h.1, both_sym.1 h.2.1, fun s h1 h2 k => h.2.2 s h1 h2 (both_sym.1 k)⟩
/-- Places change sides. -/
theorem next_sym (hP : 0 < P) (hQ : 0 < Q) (hL : 0 ≤ L) (hLP : L ≤ P) (hM : 0 ≤ M) (hMQ : M ≤ Q) (t : Int) : nextZ P F L Q G M t = nextZ Q G M P F L t :=
  nextIs_unique (next_law P F L Q G M t hP hQ hL hLP hM hMQ) (nextIs_sym (next_law Q G M P F L t hQ hP hM hMQ hL hLP))
theorem plc_lt_iff {P L : Nat} (hP : 0 < P) {F : Int} (i : Int) : plc P F i < L ↔ (i - F) % (P : Int) < (L : Int) := by
  unfold plc
  have := Int.emod_nonneg (i - F) (show (P : Int) ≠ 0 by omega)
  omega
theorem sumN_none {n : Nat} {f : Nat → Nat} (h : sumN n f = 0) (i : Nat) (hi : i < n) : f i = 0 :=
  (sumN_eq_of_le (f := fun _ => 0) (g := f) (fun _ _ => Nat.zero_le _) (by rw [sumN_zero, h]) i hi).symm
end
section
variable {p l q m : Nat} {F G : Int}
theorem often_sym (hp : 0 < p) (hq : 0 < q) (hl : l ≤ p) (hm : m ≤ q) : oftenN p l q m F G = oftenN q m p l G F := by
  rw [← often_law p l q m F G hp hq hl hm, ← often_law q m p l G F hq hp hm hl, Nat.lcm_comm]
  exact sumN_congr fun i _ => ind_congr ⟨fun h => ⟨h.2, h.1⟩, fun h => ⟨h.2, h.1⟩⟩
theorem often_le (hp : 0 < p) (hq : 0 < q) (hl : l ≤ p) (hm : m ≤ q) : oftenN p l q m F G ≤ p.lcm q := by
  rw [← often_law p l q m F G hp hq hl hm]
  refine Nat.le_trans (sumN_le (g := fun _ => 1) fun i _ => ind_le _) ?_
  rw [sumN_const]
  omega
theorem lcm_dvd : (p : Int) ∣ (p.lcm q : Nat) ∧ (q : Int) ∣ (p.lcm q : Nat) := ⟨Int.natCast_dvd_natCast.2 (Nat.dvd_lcm_left p q), Int.natCast_dvd_natCast.2 (Nat.dvd_lcm_right p q)⟩
/-- They meet at times just if there is a next meeting. -/
theorem often_none (hp : 0 < p) (hq : 0 < q) (hl : l ≤ p) (hm : m ≤ q) (t : Int) : oftenN p l q m F G = 0 ↔ nextZ p F l q G m t = none := by
  have hn := next_law p F l q G m t (by omega) (by omega) (by omega) (by omega) (by omega) (by omega)
  have hA : 0 < p.lcm q := Nat.lcm_pos hp hq
  obtain ⟨d1, d2⟩ := lcm_dvd (p := p) (q := q)
  rw [← often_law p l q m F G hp hq hl hm]
  constructor
  · intro h
    cases hz : nextZ p F l q G m t with
    | none => rfl
    | some x =>
      rw [hz] at hn
      exfalso
      have h0 := Int.emod_nonneg x (show ((p.lcm q : Nat) : Int) ≠ 0 by omega)
      have h1 := Int.emod_lt_of_pos x (show (0 : Int) < (p.lcm q : Nat) by omega)
      obtain ⟨i, hi⟩ := Int.eq_ofNat_of_zero_le h0
      have hb : bothW p F l q G m (i : Int) := by
        have e : x = (i : Int) + ((p.lcm q : Nat) : Int) * (x / ((p.lcm q : Nat) : Int)) := by
          have := Int.emod_add_mul_ediv x ((p.lcm q : Nat) : Int)
          omega
        have := hn.2.1
        rw [e] at this
        exact (both_shift d1 d2 _ _).1 this
      have hs := sumN_none h i (by omega)
      rw [ind_pos ⟨(plc_lt_iff hp _).2 hb.1, (plc_lt_iff hq _).2 hb.2⟩] at hs
      cases hs
  · intro hz
    rw [hz] at hn
    refine sumN_zero_of fun i _ h => ?_
    have hb : bothW p F l q G m (i : Int) := ⟨(plc_lt_iff hp _).1 h.1, (plc_lt_iff hq _).1 h.2⟩
    have hk : t ≤ (i : Int) + ((p.lcm q : Nat) : Int) * (t.natAbs : Int) := by
      have h1 : (1 : Int) * (t.natAbs : Int) ≤ ((p.lcm q : Nat) : Int) * (t.natAbs : Int) := Int.mul_le_mul_of_nonneg_right (by omega) (by omega)
      omega
    exact hn _ hk ((both_shift d1 d2 _ _).2 hb)
/-- The next meeting comes again, and is not far. -/
theorem next_facts (hp : 0 < p) (hq : 0 < q) (hl : l ≤ p) (hm : m ≤ q) {t x : Int} (h : nextZ p F l q G m t = some x) :
    t ≤ x ∧ x - t < (p.lcm q : Nat) ∧ bothW p F l q G m x ∧ bothW p F l q G m (x - (p.lcm q : Nat)) ∧ ∀ i : Int, 0 ≤ i → i < x - t → ¬ bothW p F l q G m (t + i) := by
  have hn := next_law p F l q G m t (by omega) (by omega) (by omega) (by omega) (by omega) (by omega)
  rw [h] at hn
  obtain ⟨h1, h2, h3⟩ := hn
  have hA : 0 < p.lcm q := Nat.lcm_pos hp hq
  obtain ⟨d1, d2⟩ := lcm_dvd (p := p) (q := q)
  have hb : bothW p F l q G m (x - (p.lcm q : Nat)) := by
    have := (both_shift (F := F) (L := l) (G := G) (M := m) d1 d2 x (-1)).2 h2
    rwa [show x + ((p.lcm q : Nat) : Int) * (-1) = x - (p.lcm q : Nat) by omega] at this
  refine ⟨h1, ?_, h2, hb, fun i i0 i1 => h3 _ (by omega) (by omega)⟩
  by_cases c : t ≤ x - (p.lcm q : Nat)
  · exact absurd hb (h3 _ c (by omega))
  · omega
theorem lcm_is : ((p : Int) / (p.gcd q : Nat)) * (q : Int) = (p.lcm q : Nat) := by
  have h : p / p.gcd q * q = p.lcm q := by
    unfold Nat.lcm
    rw [Nat.div_mul_right_comm (Nat.gcd_dvd_left p q)]
  rw [← h]
  simp
end
end Go.Proofs.Ytffbipcdlnfihaa
