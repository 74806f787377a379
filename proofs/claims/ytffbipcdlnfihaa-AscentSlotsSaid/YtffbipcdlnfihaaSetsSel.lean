/-
  Sets of times: plain law of the reference's list of places (the least one again and again).
-/
import Derived.Test.YtffbipcdlnfihaaSetsLaw
namespace Go.Proofs.Ytffbipcdlnfihaa
open Go.RowKit
/-- Where the least number is, the first one, of the first k. -/
def minN (l : List Int) : Nat → Nat
  | 0 => 0
  | k + 1 => if k = 0 then 0 else if l[k]?.getD 0 < l[minN l k]?.getD 0 then k else minN l k
theorem minN_lt (l : List Int) (k : Nat) (h : 0 < k) : minN l k < k := by
  induction k with
  | zero => omega
  | succ k ih =>
    unfold minN
    split
    · omega
    · split
      · omega
      · have := ih (by omega); omega
theorem minN_le (l : List Int) (k : Nat) (j : Nat) (hj : j < k) : l[minN l k]?.getD 0 ≤ l[j]?.getD 0 := by
  induction k with
  | zero => omega
  | succ k ih =>
    unfold minN
    split
    · obtain rfl : j = 0 := by omega
      exact Int.le_refl _
    · by_cases c : j = k
      · subst c
        split <;> omega
      · have := ih (by omega)
        split <;> omega
def minI (l : List Int) : Nat := minN l l.length
def minV (l : List Int) : Int := l[minI l]?.getD 0
theorem minI_lt {l : List Int} (h : l ≠ []) : minI l < l.length := minN_lt l l.length (List.length_pos_iff.2 h)
theorem minV_le {l : List Int} {x : Int} (hx : x ∈ l) : minV l ≤ x := by
  obtain ⟨j, hj, rfl⟩ := List.getElem_of_mem hx
  have := minN_le l l.length j hj
  unfold minV minI
  simp [hj] at this
  exact this
theorem minV_is {l : List Int} (h : l ≠ []) : minV l = l[minI l]'(minI_lt h) := by
  unfold minV
  rw [List.getElem?_eq_getElem (minI_lt h)]
  rfl
def selOut (out : List Int) (x : Int) : List Int := if out.getLast? = some x then out else out ++ [x]
def selGo : Nat → List Int → List Int → List Int
  | 0, _, out => out
  | n + 1, l, out => selGo n (l.eraseIdx (minI l)) (selOut out (minV l))
theorem selGo_step {l : List Int} (h : l ≠ []) (out : List Int) : selGo l.length l out = selGo (l.eraseIdx (minI l)).length (l.eraseIdx (minI l)) (selOut out (minV l)) := by
  have h1 := List.length_pos_iff.2 h
  rw [List.length_eraseIdx_of_lt (minI_lt h)]
  obtain ⟨n, hn⟩ : ∃ n, l.length = n + 1 := ⟨l.length - 1, by omega⟩
  rw [hn]
  rfl
theorem mem_erase {l : List Int} {i : Nat} (hi : i < l.length) (x : Int) : x ∈ l ↔ x = l[i] ∨ x ∈ l.eraseIdx i := by
  have e : l = l.take i ++ l[i] :: l.drop (i + 1) := by rw [← List.drop_eq_getElem_cons hi, List.take_append_drop]
  rw [List.eraseIdx_eq_take_drop_succ]
  have h1 : x ∈ l ↔ x ∈ l.take i ∨ x = l[i] ∨ x ∈ l.drop (i + 1) := by
    rw (occs := .pos [1]) [e]
    rw [List.mem_append, List.mem_cons]
  rw [h1, List.mem_append]
  constructor
  · rintro (h | h | h)
    · exact .inr (.inl h)
    · exact .inl h
    · exact .inr (.inr h)
  · rintro (h | h | h)
    · exact .inr (.inl h)
    · exact .inl h
    · exact .inr (.inr h)
theorem selGo_spec : ∀ n (l out : List Int), l.length = n → out.Pairwise (· < ·) → (∀ x ∈ l, ∀ y ∈ out, y ≤ x) → (selGo n l out).Pairwise (· < ·) ∧ ∀ x, x ∈ selGo n l out ↔ x ∈ out ∨ x ∈ l := by
  intro n
  induction n with
  | zero =>
    intro l out hl h1 h2
    have : l = [] := List.eq_nil_of_length_eq_zero hl
    subst this
    exact ⟨h1, fun x => by simp [selGo]⟩
  | succ n ih =>
    intro l out hl h1 h2
    have h0 : l ≠ [] := by intro e; subst e; simp at hl
    have hi := minI_lt h0
    have hv := minV_is h0
    have hvm : minV l ∈ l := by rw [hv]; exact List.getElem_mem hi
    have hout : (selOut out (minV l)).Pairwise (· < ·) := by
      unfold selOut
      split
      · exact h1
      · rename_i hne
        rw [List.pairwise_append]
        refine ⟨h1, List.pairwise_singleton _ _, fun y hy z hz => ?_⟩
        simp at hz
        subst hz
        have h3 := h2 _ hvm y hy
        rcases Int.lt_or_eq_of_le h3 with c | c
        · exact c
        · exfalso
          obtain ⟨k, hk, rfl⟩ := List.getElem_of_mem hy
          by_cases hkl : k + 1 = out.length
          · apply hne
            have h6 : out.getLast? = some out[k] := by
              rw [List.getLast?_eq_getElem?]
              simp [show out.length - 1 = k by omega, hk]
            rw [h6, c]
          · have h4 := (List.pairwise_iff_getElem.1 h1) k (k + 1) hk (by omega) (by omega)
            have h5 := h2 _ hvm _ (List.getElem_mem (show k + 1 < out.length by omega))
            omega
    have hmo : ∀ x, x ∈ selOut out (minV l) ↔ x ∈ out ∨ x = minV l := by
      intro x
      unfold selOut
      split
      · rename_i he
        constructor
        · exact .inl
        · rintro (h | h)
          · exact h
          · rw [h]; exact List.mem_of_getLast? he
      · simp
    have := ih (l.eraseIdx (minI l)) (selOut out (minV l)) (by rw [List.length_eraseIdx_of_lt hi]; omega) hout (fun x hx y hy => by
      have hxl : x ∈ l := (mem_erase hi x).2 (.inr hx)
      rcases (hmo y).1 hy with h | h
      · exact h2 x hxl y h
      · rw [h]; exact minV_le hxl)
    refine ⟨this.1, fun x => ?_⟩
    show x ∈ selGo n _ _ ↔ _
    rw [this.2, hmo, mem_erase hi x, ← hv]
    constructor
    · rintro ((h | h) | h)
      · exact .inl h
      · exact .inr (.inl h)
      · exact .inr (.inr h)
    · rintro (h | h | h)
      · exact .inl (.inl h)
      · exact .inl (.inr h)
      · exact .inr h
def placesL (a b : List (Int × Int)) : List Int := selGo (endsL a ++ endsL b).length (endsL a ++ endsL b) []
theorem placesL_spec (a b : List (Int × Int)) : (placesL a b).Pairwise (· < ·) ∧ ∀ x, x ∈ placesL a b ↔ x ∈ endsL a ++ endsL b := by
  have := selGo_spec _ (endsL a ++ endsL b) [] rfl List.Pairwise.nil (fun _ _ _ h => by simp at h)
  exact ⟨this.1, fun x => by rw [placesL, this.2]; simp⟩
/-- What two sets come to. -/
def mixL (is : Bool → Bool → Bool) (a b : List (Int × Int)) : List (Int × Int) := mixAt (fun p => is (holdsB a p) (holdsB b p)) (placesL a b) ((placesL a b).length - 1)
theorem endsL_mem {l : List (Int × Int)} {x : Int} : x ∈ endsL l ↔ ∃ k, ∃ h : k < l.length, x = l[k].1 ∨ x = l[k].2 := by
  unfold endsL
  rw [List.mem_flatMap]
  constructor
  · rintro ⟨s, hs, he⟩
    obtain ⟨k, hk, rfl⟩ := List.getElem_of_mem hs
    exact ⟨k, hk, by simpa using he⟩
  · rintro ⟨k, hk, he⟩
    exact ⟨l[k], List.getElem_mem hk, by simpa using he⟩
theorem holds_last {l : List (Int × Int)} {t : Int} (h : ∀ x ∈ endsL l, x ≤ t) : holdsB l t = false := by
  unfold holdsB
  rw [List.any_eq_false]
  intro s hs
  obtain ⟨k, hk, rfl⟩ := List.getElem_of_mem hs
  have := h _ (endsL_mem.2 ⟨k, hk, .inr rfl⟩)
  simp
  omega
theorem rising_le {l : List Int} (hl : l.Pairwise (· < ·)) (h0 : l ≠ []) {x : Int} (hx : x ∈ l) : x ≤ l.getLast h0 := by
  obtain ⟨k, hk, rfl⟩ := List.getElem_of_mem hx
  rw [List.getLast_eq_getElem]
  by_cases c : k = l.length - 1
  · subst c; exact Int.le_refl _
  · have := (List.pairwise_iff_getElem.1 hl) k (l.length - 1) hk (by omega) (by omega)
    omega
/-- The way along the sorted edges comes to the same. -/
theorem sweep_edges {a b : List (Int × Int)} (ha : setB a = true) (hb : setB b = true) (d : List Edge) (hp : d.Perm (edgesL a b)) (hd : SortedE d) (is : Bool → Bool → Bool) (his : is false false = false) :
    stI d is d.length = (mixL is a b, false) := by
  obtain ⟨h1, h2⟩ := placesL_spec a b
  have hg : grp d d.length = placesL a b := rising_eq _ _ (grp_sorted d hd d.length (Nat.le_refl _)) h1 (fun x => by rw [grp_ats d hp, h2])
  rw [stI_is ha hb d hp hd is d.length (Nat.le_refl _), hg]
  unfold mixL
  by_cases h0 : placesL a b = []
  · rw [h0]; rfl
  · refine sweep_is _ _ h1 h0 ?_
    have hmax : ∀ x ∈ endsL a ++ endsL b, x ≤ (placesL a b).getLast h0 := fun x hx => rising_le h1 h0 ((h2 x).2 hx)
    show is (holdsB a _) (holdsB b _) = false
    rw [holds_last (fun x hx => hmax x (List.mem_append.2 (.inl hx))), holds_last (fun x hx => hmax x (List.mem_append.2 (.inr hx))), his]
theorem endsL_len (l : List (Int × Int)) : (endsL l).length = 2 * l.length := by
  induction l with
  | nil => rfl
  | cons s l ih =>
    unfold endsL at *
    rw [List.flatMap_cons, List.length_append, ih]
    simp
    omega
theorem selGo_len : ∀ n (l out : List Int), (selGo n l out).length ≤ out.length + n := by
  intro n
  induction n with
  | zero => intro l out; simp [selGo]
  | succ n ih =>
    intro l out
    have := ih (l.eraseIdx (minI l)) (selOut out (minV l))
    have h2 : (selOut out (minV l)).length ≤ out.length + 1 := by
      unfold selOut
      split <;> simp
    show (selGo n _ _).length ≤ _
    omega
theorem placesL_len (a b : List (Int × Int)) : (placesL a b).length ≤ 2 * a.length + 2 * b.length := by
  have := selGo_len (endsL a ++ endsL b).length (endsL a ++ endsL b) []
  unfold placesL
  simp [endsL_len] at this ⊢
  omega
theorem mixL_len (is : Bool → Bool → Bool) (a b : List (Int × Int)) : (mixL is a b).length ≤ 2 * a.length + 2 * b.length := by
  have h1 := mixAt_len (fun p => is (holdsB a p) (holdsB b p)) (placesL a b) ((placesL a b).length - 1)
  have h2 := placesL_len a b
  unfold mixL
  omega
end Go.Proofs.Ytffbipcdlnfihaa
