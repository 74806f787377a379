/-
  The least and the greatest of a table's lines, one after another: plain law.
-/
import Derived.Test.YtnedbhdokljpcaaGreatRefLine
namespace Go.Proofs.YtnedbhdokljpcaaGreat
open Go.RowKit
/-- The least, the greatest of the first numbers, one after another. -/
def runLo (D : Nat → Int) : Nat → Int
  | 0 => 0
  | i + 1 => if i = 0 then D i else imin (runLo D i) (D i)
def runHi (D : Nat → Int) : Nat → Int
  | 0 => 0
  | i + 1 => if i = 0 then D i else imax (runHi D i) (D i)
theorem least_snoc : ∀ (l : List Int) (a b : Int), least a (l ++ [b]) = imin (least a l) b
  | [], _, _ => rfl
  | c :: l, a, b => least_snoc l (imin a c) b
theorem most_snoc : ∀ (l : List Int) (a b : Int), most a (l ++ [b]) = imax (most a l) b
  | [], _, _ => rfl
  | c :: l, a, b => most_snoc l (imax a c) b
theorem runLo_is (f : Int → Int) (a : Int) (r : List Int) : ∀ k, k ≤ r.length → runLo (fun i => f ((a :: r).getD i 0)) (k + 1) = least (f a) ((r.take k).map f)
  | 0, _ => rfl
  | k + 1, hk => by
    have hlt : k < r.length := hk
    show (if k + 1 = 0 then _ else imin (runLo (fun i => f ((a :: r).getD i 0)) (k + 1)) (f ((a :: r).getD (k + 1) 0))) = _
    rw [if_neg (by omega), runLo_is f a r k (by omega), List.take_succ_eq_append_getElem hlt, List.map_append, List.map_cons, List.map_nil, least_snoc]
    simp [List.getElem?_eq_getElem hlt]
theorem runHi_is (f : Int → Int) (a : Int) (r : List Int) : ∀ k, k ≤ r.length → runHi (fun i => f ((a :: r).getD i 0)) (k + 1) = most (f a) ((r.take k).map f)
  | 0, _ => rfl
  | k + 1, hk => by
    have hlt : k < r.length := hk
    show (if k + 1 = 0 then _ else imax (runHi (fun i => f ((a :: r).getD i 0)) (k + 1)) (f ((a :: r).getD (k + 1) 0))) = _
    rw [if_neg (by omega), runHi_is f a r k (by omega), List.take_succ_eq_append_getElem hlt, List.map_append, List.map_cons, List.map_nil, most_snoc]
    simp [List.getElem?_eq_getElem hlt]
/-- What both run to is what the plain law says. -/
theorem look_is (l : List Pt) (x : Sp) : fitR (runLo (fun i => (lineR l false ((placesT l x).getD i 0)).1) (placesT l x).length) (runHi (fun i => (lineR l true ((placesT l x).getD i 0)).2) (placesT l x).length) = lookS l x := by
  unfold lookS placesT
  generalize ((l.filter fun p => decide (x.lo ≤ p.place) && decide (p.place ≤ x.hi)).map Pt.place) = r
  have h1 := runLo_is (fun y => (lineR l false y).1) x.lo (x.hi :: r) (x.hi :: r).length (Nat.le_refl _)
  have h2 := runHi_is (fun y => (lineR l true y).2) x.lo (x.hi :: r) (x.hi :: r).length (Nat.le_refl _)
  rw [List.take_length] at h1 h2
  show fitR (runLo _ ((x.hi :: r).length + 1)) (runHi _ ((x.hi :: r).length + 1)) = _
  rw [h1, h2]
  rfl
theorem lineR_r128 {l : List Pt} {up : Bool} {x : Int} (ht : tableB l = true) : R128 (lineR l up x).1 ∧ R128 (lineR l up x).2 := by
  obtain ⟨h1, h2, h3, h4⟩ := table_facts ht
  have hle := idxT_le x l
  have one : ∀ k (hk : k < l.length), R128 (bnd up l[k].value) := fun k hk => by
    have := (pt_bd (h3 k hk) up).2
    unfold R128
    omega
  by_cases c0 : idxT x l = 0
  · rw [lineR_0 c0 (by omega)]
    exact ⟨one 0 (by omega), one 0 (by omega)⟩
  obtain ⟨k, hk⟩ : ∃ k, idxT x l = k + 1 := ⟨idxT x l - 1, by omega⟩
  by_cases c1 : idxT x l = l.length
  · rw [lineR_n c1 (by omega : l.length = k + 1) (by omega)]
    exact ⟨one k (by omega), one k (by omega)⟩
  · have hkl : k + 1 < l.length := by omega
    have hk0 : k < l.length := by omega
    rw [lineR_i hk hkl hk0]
    have hb := idxT_below (x := x) (l := l) k hk0 (by omega)
    have hlt : idxT x l < l.length := by omega
    have hq : x ≤ l[k + 1].place := by
      have := idxT_above (x := x) (l := l) hlt
      simpa only [hk] using this
    obtain ⟨⟨a5, a6⟩, a1, a2⟩ := pt_bd (h3 k hk0) up
    obtain ⟨⟨a7, a8⟩, a3, a4⟩ := pt_bd (h3 (k + 1) hkl) up
    have hbx := mul_box (a := bnd up l[k + 1].value - bnd up l[k].value) (b := x - l[k].place) (d := l[k + 1].place - l[k].place) (by omega) (by omega) (by omega) (by omega)
    unfold R128
    simp only []
    omega
theorem runLo_r128 {D : Nat → Int} (h : ∀ i, R128 (D i)) : ∀ i, R128 (runLo D i)
  | 0 => by show R128 0; unfold R128; omega
  | i + 1 => by
    show R128 (if i = 0 then D i else imin (runLo D i) (D i))
    split
    · exact h i
    · unfold imin
      split
      · exact h i
      · exact runLo_r128 h i
theorem runHi_r128 {D : Nat → Int} (h : ∀ i, R128 (D i)) : ∀ i, R128 (runHi D i)
  | 0 => by show R128 0; unfold R128; omega
  | i + 1 => by
    show R128 (if i = 0 then D i else imax (runHi D i) (D i))
    split
    · exact h i
    · unfold imax
      split
      · exact h i
      · exact runHi_r128 h i
end Go.Proofs.YtnedbhdokljpcaaGreat
