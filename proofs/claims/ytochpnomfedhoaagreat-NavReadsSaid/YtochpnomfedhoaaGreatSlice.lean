/-
  Slices that are read: plain words.
-/
import Derived.Test.YtochpnomfedhoaaGreatBase
import Derived.OwnWalk
import Derived.Maps.AppendAt
namespace Go.Proofs.YtochpnomfedhoaaGreat
open Go.RowKit

/-- v is a slice of n elements whose cells are xs (all in a row). -/
def SlAt (w : World) (v : Value) (n : Nat) (xs : List Value) : Prop :=
  ∃ (ao : Option Addr) (cap : Nat), v = .slice ao n cap ∧ n ≤ maxLen ∧ ∀ i x, xs[i]? = some x → ∃ b off, ao = some ⟨b, off, none⟩ ∧ w.cell? ⟨b, off + i, none⟩ = some x

theorem SlAt.grew {w w' : World} {v : Value} {n : Nat} {xs : List Value} (h : SlAt w v n xs) (g : Grew w w') : SlAt w' v n xs := by
  obtain ⟨ao, cap, h1, h0, h2⟩ := h
  refine ⟨ao, cap, h1, h0, fun i x hx => ?_⟩
  obtain ⟨b, off, h3, h4⟩ := h2 i x hx
  exact ⟨b, off, h3, g.cell h4⟩
theorem SlAt.nil (w : World) : SlAt w (.slice none 0 0) 0 [] := ⟨none, 0, rfl, by unfold maxLen; omega, fun i x hx => by simp at hx⟩
theorem SlAt.of_owns {w : World} {base : Nat} {e : TypeId} {size : Nat} {v : Value} {n : Nat} {xs : List Value} (h : w.ownsRow base e size v n xs) : SlAt w v n xs := by
  obtain ⟨h1, h2⟩ := h
  rcases h2 with ⟨rfl, rfl⟩ | ⟨g, cap, cur, rfl, hg, hh, hn, hcap, hcur, htake⟩
  · have : xs = [] := List.eq_nil_of_length_eq_zero (by simpa using h1)
    subst this
    exact SlAt.nil w
  · refine ⟨_, _, rfl, Nat.le_trans hn hcap, fun i x hx => ⟨g, 0, rfl, ?_⟩⟩
    have hl : i < xs.length := (List.getElem?_eq_some_iff.1 hx).1
    have hi : i < n * size := by omega
    rw [Nat.zero_add]
    have := World.ownsRow.cellAt (w := w) (base := base) (e := e) (size := size) (g := g) (cap := cap) ⟨h1, .inr ⟨g, cap, cur, rfl, hg, hh, hn, hcap, hcur, htake⟩⟩ i hi
    rw [this, hx]
/-- What is owned stays owned where nothing has turned. -/
theorem owns_grew {w w' : World} {base : Nat} {e : TypeId} {size : Nat} {v : Value} {n : Nat} {xs : List Value} (h : w.ownsRow base e size v n xs) (g : Grew w w') : w'.ownsRow base e size v n xs := by
  obtain ⟨h1, h2⟩ := h
  refine ⟨h1, ?_⟩
  rcases h2 with h2 | ⟨b, cap, cur, hv, hg, hh, r⟩
  · exact .inl h2
  · refine .inr ⟨b, cap, cur, hv, hg, ?_, r⟩
    rw [Below.block g b (Array.getElem?_eq_some_iff.1 hh).1, hh]
/-- A new block that holds what is appended. -/
theorem cells_new (w : World) (l : List Value) (t : TypeId) : ∀ j u, l[j]? = some u → (w.alloc (.cells l.toArray t)).cell? ((⟨w.heap.size, 0, none⟩ : Addr).add j) = some u := by
  intro j u hj
  rw [Addr.add_lit, Nat.zero_add]
  simp [hj]
/-- Of an owned row the block lies from the base on. -/
theorem owns_base {w : World} {base : Nat} {e : TypeId} {size : Nat} {v : Value} {n : Nat} {xs : List Value} (h : w.ownsRow base e size v n xs) : ∀ k, v.ownBlock = some k → base ≤ k := by
  intro k hk
  rcases h.2 with ⟨rfl, -⟩ | ⟨g, cap, cur, rfl, hg, -⟩
  · cases hk
  · cases hk; exact hg
theorem owns_form {w : World} {base : Nat} {e : TypeId} {size : Nat} {v : Value} {n : Nat} {xs : List Value} (h : w.ownsRow base e size v n xs) : ∃ ao cap, v = .slice ao n cap := by
  rcases h.2 with ⟨rfl, rfl⟩ | ⟨g, cap, cur, rfl, -⟩
  · exact ⟨none, 0, rfl⟩
  · exact ⟨_, _, rfl⟩
theorem Grew.append {a w w' : World} {base : Nat} {e : TypeId} {size : Nat} {v : Value} {n : Nat} {xs : List Value} (h : Grew a w) (ho : w.ownsRow base e size v n xs) (hb : a.heap.size ≤ base) (hg : w.grownBy w' v.ownBlock) : Grew a w' :=
  h.grown hg fun k hk => Nat.le_trans hb (owns_base ho k hk)
/-- The cells of a row of elements of c cells each. -/
theorem flat_get {α : Type} (f : α → List Value) (c : Nat) (hc : ∀ a, (f a).length = c) (l : List α) (k j : Nat) (hk : k < l.length) (hj : j < c) : (l.flatMap f)[k * c + j]? = (f l[k])[j]? := by
  induction l generalizing k with
  | nil => simp at hk
  | cons s l ih =>
    rw [List.flatMap_cons]
    cases k with
    | zero => rw [List.getElem?_append_left (by rw [hc]; omega)]; simp
    | succ k =>
      rw [List.getElem?_append_right (by rw [hc, Nat.add_mul]; omega), hc, show (k + 1) * c + j - c = k * c + j by rw [Nat.add_mul]; omega]
      exact ih k (by simpa using hk)
theorem flat_len {α : Type} (f : α → List Value) (c : Nat) (hc : ∀ a, (f a).length = c) (l : List α) : (l.flatMap f).length = l.length * c := by
  induction l with
  | nil => simp
  | cons s l ih => rw [List.flatMap_cons, List.length_append, hc, ih, List.length_cons, Nat.add_mul]; omega
/-- A slice's elements are read one by one: the cells of element k. -/
theorem SlAt.elem {α : Type} {f : α → List Value} {c : Nat} (hc : ∀ a, (f a).length = c) (hc0 : 0 < c) {l : List α} {w : World} {ao : Option Addr} (h : ∀ i x, (l.flatMap f)[i]? = some x → ∃ b off, ao = some ⟨b, off, none⟩ ∧ w.cell? ⟨b, off + i, none⟩ = some x) (k : Nat) (hk : k < l.length) :
    ∃ b off, ao = some ⟨b, off, none⟩ ∧ b < w.heap.size ∧ (∀ x, (f l[k])[0]? = some x → w.cell? ⟨b, off + k * c, none⟩ = some x) ∧ ∀ j x, (f l[k])[j]? = some x → w.cell? ⟨b, off + k * c + j, none⟩ = some x := by
  have h0 := flat_get f c hc l k 0 hk hc0
  have hl : 0 < (f l[k]).length := by rw [hc]; exact hc0
  rw [List.getElem?_eq_getElem hl] at h0
  obtain ⟨b, off, rfl, hb⟩ := h _ _ h0
  have key : ∀ j x, (f l[k])[j]? = some x → w.cell? ⟨b, off + k * c + j, none⟩ = some x := by
    intro j x hj
    have hjc : j < c := by rw [← hc l[k]]; exact (List.getElem?_eq_some_iff.1 hj).1
    have h1 := flat_get f c hc l k j hk hjc
    rw [hj] at h1
    obtain ⟨b', off', e, hb'⟩ := h _ _ h1
    cases e
    rw [Nat.add_assoc]
    exact hb'
  exact ⟨b, off, rfl, World.block_lt_of_cell? w _ hb, fun x hx => key 0 x hx, key⟩
end Go.Proofs.YtochpnomfedhoaaGreat
