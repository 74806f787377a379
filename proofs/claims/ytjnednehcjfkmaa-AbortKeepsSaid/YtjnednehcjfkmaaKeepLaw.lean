/-
  At no time is something closer than Clear says: plain law.
-/
import Derived.Test.YtjnednehcjfkmaaMotion
import Derived.Test.YtjnednehcjfkmaaMonoLaw
namespace Go.Proofs.Ytjnednehcjfkmaa
open Go.RowKit
set_option maxRecDepth 100000
theorem do_zero {e : Int} {r : Res} (h : (doR e r).e = 0) : e = 0 ∧ r.e = 0 ∧ doR e r = r := by
  unfold doR at h ⊢
  split at h
  · rename_i h0
    exact ⟨h0, h, if_pos h0⟩
  · rename_i h0
    exact absurd h h0
/-- Division by a small integer above 0. -/
theorem div_whole {a : Sp} {n : Int} (hn : 0 < n) (h : (divR a (wholeS n)).e = 0) : a.okB = true ∧ divR a (wholeS n) = ⟨⟨a.lo / n, upZ a.hi n⟩, 0⟩ := by
  have hd : ∀ x : Int, ratDown x (n * 4294967296) = x / n := by
    intro x
    unfold ratDown downZ
    rw [if_neg (by omega), Int.mul_ediv_mul_of_pos_left x n (by omega)]
  have hu : ∀ x : Int, ratUp x (n * 4294967296) = upZ x n := by
    intro x
    unfold ratUp upZ
    rw [if_neg (by omega), show -(x * 4294967296) = -x * 4294967296 by rw [Int.neg_mul], Int.mul_ediv_mul_of_pos_left (-x) n (by omega)]
  unfold divR wholeS at *
  split at h
  · rename_i h1
    rw [if_pos h1]
    simp at h1
    split at h
    · exact absurd h (by decide)
    · rename_i h2
      rw [if_neg h2]
      rw [(fit_zero h).1]
      refine ⟨h1.1, ?_⟩
      have hl := ok_le h1.1
      have m1 := down_mono n hn hl
      have m2 := up_mono n hn hl
      unfold downZ at m1
      simp only [hd, hu]
      congr 2
      · unfold min4 imin
        (repeat' split) <;> omega
      · unfold max4 imax
        (repeat' split) <;> omega
  · exact absurd h (by decide)
theorem half_wi {a a' : Sp} (ha : Wi a a') (h : (divR a (wholeS 2)).e = 0) (h' : (divR a' (wholeS 2)).e = 0) : Wi (divR a (wholeS 2)).s (divR a' (wholeS 2)).s := by
  rw [(div_whole (by decide) h).2, (div_whole (by decide) h').2]
  exact ⟨Int.ediv_le_ediv (by decide) ha.1, up_mono 2 (by decide) ha.2⟩
theorem al_steps {d v a u : Sp} (h : (alongR d v a u).e = 0) : (mulR v u).e = 0 ∧ (addR d (mulR v u).s).e = 0 ∧ (squareR u).e = 0 ∧ (mulR a (squareR u).s).e = 0 ∧
    (divR (mulR a (squareR u).s).s (wholeS 2)).e = 0 ∧ alongR d v a u = addR (addR d (mulR v u).s).s (divR (mulR a (squareR u).s).s (wholeS 2)).s := by
  have e6 : alongR d v a u = doR (al5 d v a u).e (addR (al2 d v u).s (al5 d v a u).s) := rfl
  rw [e6] at h
  obtain ⟨h5, -, g6⟩ := do_zero h
  have e5 : al5 d v a u = doR (al4 d v a u).e (divR (al4 d v a u).s (wholeS 2)) := rfl
  rw [e5] at h5
  obtain ⟨h4, h7, g5⟩ := do_zero h5
  have e4 : al4 d v a u = doR (al3 d v u).e (mulR a (al3 d v u).s) := rfl
  rw [e4] at h4
  obtain ⟨h3, h8, g4⟩ := do_zero h4
  have e3 : al3 d v u = doR (al2 d v u).e (squareR u) := rfl
  rw [e3] at h3
  obtain ⟨h2, h9, g3⟩ := do_zero h3
  have e2 : al2 d v u = doR (al1 v u).e (addR d (al1 v u).s) := rfl
  rw [e2] at h2
  obtain ⟨h1, h10, g2⟩ := do_zero h2
  have q3 : al3 d v u = squareR u := by rw [e3, g3]
  have q4 : al4 d v a u = mulR a (squareR u).s := by rw [e4, g4, q3]
  have q5 : al5 d v a u = divR (mulR a (squareR u).s).s (wholeS 2) := by rw [e5, g5, q4]
  have q2 : al2 d v u = addR d (mulR v u).s := by rw [e2, g2]; rfl
  rw [q3] at h8
  rw [q4] at h7
  exact ⟨h1, h10, h9, h8, h7, by rw [e6, g6, q2, q5]⟩
theorem along_wi {d v a u d' v' a' u' : Sp} (hd : Wi d d') (hv : Wi v v') (ha : Wi a a') (hu : Wi u u') (h : (alongR d v a u).e = 0) (h' : (alongR d' v' a' u').e = 0) : Wi (alongR d v a u).s (alongR d' v' a' u').s := by
  have hz := h
  have hz' := h'
  obtain ⟨a1, a2, a3, a4, a5, a6⟩ := al_steps h
  obtain ⟨b1, b2, b3, b4, b5, b6⟩ := al_steps h'
  rw [a6] at hz ⊢
  rw [b6] at hz' ⊢
  exact add_wi (add_wi hd (mul_wi hv hu a1 b1) a2 b2) (half_wi (mul_wi ha (square_wi hu a3 b3) a4 b4) a5 b5) hz hz'
theorem sum_wi {d v a u d' v' a' u' : Sp} (hd : Wi d d') (hv : Wi v v') (ha : Wi a a') (hu : Wi u u') (h1 : (squareR u).e = 0) (h2 : (mulR v u).e = 0) (h3 : (mulR a (squareR u).s).e = 0) (h4 : (divR (mulR a (squareR u).s).s (wholeS 2)).e = 0)
    (h5 : (sumR [d, (mulR v u).s, (divR (mulR a (squareR u).s).s (wholeS 2)).s]).e = 0) (h' : (alongR d' v' a' u').e = 0) :
    Wi (sumR [d, (mulR v u).s, (divR (mulR a (squareR u).s).s (wholeS 2)).s]).s (alongR d' v' a' u').s := by
  have hz' := h'
  obtain ⟨b1, b2, b3, b4, b5, b6⟩ := al_steps h'
  rw [b6] at hz' ⊢
  have g1 := mul_wi hv hu h2 b1
  have g2 := half_wi (mul_wi ha (square_wi hu h1 b3) h3 b4) h4 b5
  rw [sum_three h5, (add_zero hz').2.2, (add_zero b2).2.2]
  unfold Wi at *
  simp only
  omega
theorem len_steps {m : Mo} {u : Sp} (h : (lengthR m u).e = 0) : (alongR m.d.x m.w.x m.a.x u).e = 0 ∧ (alongR m.d.y m.w.y m.a.y u).e = 0 ∧ (alongR m.d.z m.w.z m.a.z u).e = 0 ∧
    lengthR m u = normR [(alongR m.d.x m.w.x m.a.x u).s, (alongR m.d.y m.w.y m.a.y u).s, (alongR m.d.z m.w.z m.a.z u).s] := by
  unfold lengthR at *
  obtain ⟨h3, h4, e4⟩ := do_zero h
  rw [e4]
  unfold ln3 at *
  obtain ⟨h2, h5, e3⟩ := do_zero h3
  unfold ln2 at *
  obtain ⟨h1, h6, e2⟩ := do_zero h2
  unfold ln1 at *
  rw [e3, e2]
  exact ⟨h1, h6, h5, rfl⟩
theorem length_wi {m m' : Mo} {u u' : Sp} (hd : m'.d = m.d) (hw : m'.w = m.w) (ha : m'.a = m.a) (hu : Wi u u') (h : (lengthR m' u).e = 0) (h' : (lengthR m u').e = 0) : Wi (lengthR m' u).s (lengthR m u').s := by
  have hz := h
  have hz' := h'
  obtain ⟨a1, a2, a3, a4⟩ := len_steps h
  obtain ⟨b1, b2, b3, b4⟩ := len_steps h'
  rw [a4] at hz ⊢
  rw [b4] at hz' ⊢
  rw [hd, hw, ha] at *
  exact norm_wi (.cons (along_wi (Wi.refl _) (Wi.refl _) (Wi.refl _) hu a1 b1) (.cons (along_wi (Wi.refl _) (Wi.refl _) (Wi.refl _) hu a2 b2) (.cons (along_wi (Wi.refl _) (Wi.refl _) (Wi.refl _) hu a3 b3) .nil))) hz hz'
theorem length_ord {m : Mo} {u : Sp} (h : (lengthR m u).e = 0) : (lengthR m u).s.lo ≤ (lengthR m u).s.hi := by
  have hz := h
  obtain ⟨-, -, -, e⟩ := len_steps h
  rw [e] at hz ⊢
  exact (norm_ord hz).2
/-! The least of pieces. -/
theorem scan_zero (f : Nat → Res) : ∀ (j k : Nat) (out : Int), (clearScan f j k out).2 = 0 → (clearScan f j k out).1 ≤ out ∧ (∀ i, k ≤ i → i < k + j → (f i).e = 0 ∧ (clearScan f j k out).1 ≤ (f i).s.lo) ∧
    ∀ x, x ≤ out → (∀ i, k ≤ i → i < k + j → x ≤ (f i).s.lo) → x ≤ (clearScan f j k out).1
  | 0, k, out, _ => ⟨Int.le_refl _, fun i h1 h2 => by omega, fun x h _ => h⟩
  | j + 1, k, out, h => by
    unfold clearScan at h ⊢
    split at h
    · rename_i h0
      rw [if_pos h0]
      obtain ⟨h1, h2, h3⟩ := scan_zero f j (k + 1) _ h
      have hm : imin out (f k).s.lo ≤ out ∧ imin out (f k).s.lo ≤ (f k).s.lo := by unfold imin; split <;> omega
      refine ⟨by omega, fun i g1 g2 => ?_, fun x g1 g2 => ?_⟩
      · by_cases c : i = k
        · subst c
          exact ⟨h0, by omega⟩
        · exact h2 i (by omega) (by omega)
      · refine h3 x ?_ (fun i q1 q2 => g2 i (by omega) (by omega))
        have := g2 k (Nat.le_refl _) (by omega)
        unfold imin
        split <;> omega
    · rename_i h0
      exact absurd h h0
theorem clear_zero {m : Mo} (h : (clearR m).2 = 0) : m.okB = true ∧ (clearR m).1 ≤ 9223372036854775807 ∧ (∀ k : Nat, k < m.n.toNat → (pieceR m k).e = 0 ∧ (clearR m).1 ≤ (pieceR m k).s.lo) ∧
    ∀ x, x ≤ 9223372036854775807 → (∀ k : Nat, k < m.n.toNat → x ≤ (pieceR m k).s.lo) → x ≤ (clearR m).1 := by
  unfold clearR at *
  split at h
  · rename_i h0
    rw [if_pos h0]
    obtain ⟨h1, h2, h3⟩ := scan_zero (fun k => pieceR m k) _ _ _ h
    exact ⟨h0, h1, fun k hk => h2 k (Nat.zero_le _) (by omega), fun x g1 g2 => h3 x g1 (fun k _ hk => g2 k (by omega))⟩
  · exact absurd h (by decide)
theorem piece_zero {m : Mo} (hm : m.fair) {k : Int} (h0 : 0 ≤ k) (h : (pieceR m k).e = 0) : m.t * k ≤ 9223372036854775807 ∧ m.t * (k + 1) ≤ 9223372036854775807 ∧ pieceU m k = ⟨m.t * k / m.n, upZ (m.t * (k + 1)) m.n⟩ ∧ (lengthR m (pieceU m k)).e = 0 ∧ pieceR m k = lengthR m (pieceU m k) := by
  unfold pieceR at h ⊢
  obtain ⟨h1, h2, h3⟩ := do_zero h
  obtain ⟨g1, g2, -, g4⟩ := piece_span m k hm h0 h1
  have l1 := moment_law m k hm h0
  have l2 := moment_law m (k + 1) hm (by omega)
  by_cases c1 : m.t * k ≤ 9223372036854775807
  · by_cases c2 : m.t * (k + 1) ≤ 9223372036854775807
    · rw [if_pos c1] at l1
      rw [if_pos c2] at l2
      exact ⟨c1, c2, by rw [g4, l1, l2], h2, h3⟩
    · rw [l2, if_neg c2] at g2
      exact absurd g2 (by decide)
  · rw [l1, if_neg c1] at g1
    exact absurd g1 (by decide)
/-- Some piece has a time. -/
theorem piece_has (T n t : Int) (hn : 0 < n) (h1 : t ≤ T) : ∀ k : Nat, (k : Int) < n → ((T * k / n ≤ t) → ∃ j : Nat, (j : Int) < n ∧ T * j / n ≤ t ∧ t ≤ upZ (T * (j + 1)) n) := by
  intro k hk hlo
  generalize hd : (n - k).toNat = d
  induction d generalizing k with
  | zero => omega
  | succ d ih =>
    by_cases c : t ≤ upZ (T * (k + 1)) n
    · exact ⟨k, hk, hlo, c⟩
    · have hdu := down_le_up (T * ((k : Int) + 1)) n hn
      unfold downZ at hdu
      by_cases c2 : ((k + 1 : Nat) : Int) < n
      · refine ih (k + 1) c2 ?_ (by omega)
        rw [show ((k + 1 : Nat) : Int) = (k : Int) + 1 by omega]
        omega
      · exfalso
        have e : (k : Int) + 1 = n := by omega
        rw [e, Int.mul_ediv_cancel _ (by omega)] at hdu
        rw [e] at c
        omega
theorem fair_ok {m : Mo} (h : m.okB = true) (ht : I64 m.t) : m.fair := by
  unfold Mo.okB at h
  simp at h
  exact Mo.fair_of h.2 ht
/-- What Clear returns is below the length at each time. -/
theorem clear_below {m : Mo} (hI : I64 m.t) (h : (clearR m).2 = 0) {t : Int} (h0 : 0 ≤ t) (h1 : t ≤ m.t) {l : List Sp} (hr : (normR l).e = 0)
    (hl : ∀ u, Wi ⟨t, t⟩ u → (alongR m.d.x m.w.x m.a.x u).e = 0 → (alongR m.d.y m.w.y m.a.y u).e = 0 → (alongR m.d.z m.w.z m.a.z u).e = 0 → All2 Wi l [(alongR m.d.x m.w.x m.a.x u).s, (alongR m.d.y m.w.y m.a.y u).s, (alongR m.d.z m.w.z m.a.z u).s]) :
    (clearR m).1 ≤ (normR l).s.lo := by
  obtain ⟨hk, -, hp, -⟩ := clear_zero h
  have hf := fair_ok hk hI
  obtain ⟨f1, f2, f3, f4⟩ := hf
  obtain ⟨j, hj, j1, j2⟩ := piece_has m.t m.n t (by omega) h1 0 (by simpa using (by omega : 0 < m.n)) (by simpa using h0)
  obtain ⟨p1, p2⟩ := hp j (by omega)
  obtain ⟨-, -, q3, q4, q5⟩ := piece_zero ⟨f1, f2, f3, f4⟩ (by omega) p1
  rw [q5] at p2
  have q6 := q4
  obtain ⟨a1, a2, a3, a4⟩ := len_steps q4
  rw [a4] at q6 p2
  have hw : Wi ⟨t, t⟩ (pieceU m j) := by
    rw [q3]
    exact ⟨j1, j2⟩
  have := norm_wi (hl _ hw a1 a2 a3) hr q6
  unfold Wi at this
  omega
/-- With twice as many pieces it returns no less. -/
theorem clear_more {m m' : Mo} (hI : I64 m.t) (hd : m'.d = m.d) (hw : m'.w = m.w) (ha : m'.a = m.a) (ht : m'.t = m.t) (hn : m'.n = 2 * m.n) (h : (clearR m).2 = 0) (h' : (clearR m').2 = 0) : (clearR m).1 ≤ (clearR m').1 := by
  obtain ⟨hk, hb, hp, -⟩ := clear_zero h
  obtain ⟨hk', -, hp', hg'⟩ := clear_zero h'
  have hf := fair_ok hk hI
  have hf' := fair_ok hk' (by rw [ht]; exact hI)
  refine hg' _ hb fun k hlt => ?_
  have hkn : k / 2 < m.n.toNat := by omega
  obtain ⟨p1, p2⟩ := hp (k / 2) hkn
  obtain ⟨r1, -⟩ := hp' k hlt
  obtain ⟨-, -, q3, q4, q5⟩ := piece_zero hf (by omega) p1
  obtain ⟨-, -, s3, s4, s5⟩ := piece_zero hf' (by omega) r1
  rw [q5] at p2
  rw [s5]
  obtain ⟨f1, f2, f3, f4⟩ := hf
  have hwi : Wi (pieceU m' k) (pieceU m ((k / 2 : Nat) : Int)) := by
    rw [q3, s3, ht, hn]
    have e2 : ∀ x : Int, x * 2 / (2 * m.n) = x / m.n := fun x => by rw [Int.mul_comm 2 m.n]; exact Int.mul_ediv_mul_of_pos_left x m.n (by decide)
    have g1 : m.t * ((k / 2 : Nat) : Int) * 2 ≤ m.t * k := by
      rw [Int.mul_assoc]
      exact Int.mul_le_mul_of_nonneg_left (by omega) f1
    have g2 : m.t * ((k : Int) + 1) ≤ m.t * (((k / 2 : Nat) : Int) + 1) * 2 := by
      rw [Int.mul_assoc]
      exact Int.mul_le_mul_of_nonneg_left (by omega) f1
    constructor
    · rw [← e2]
      exact Int.ediv_le_ediv (by omega) g1
    · show upZ _ _ ≤ upZ _ _
      have := up_mono (2 * m.n) (by omega) g2
      unfold upZ at this ⊢
      rw [← e2 (-(m.t * (((k / 2 : Nat) : Int) + 1))), Int.neg_mul]
      exact this
  have := (length_wi hd hw ha hwi s4 q4).1
  omega
end Go.Proofs.Ytjnednehcjfkmaa
