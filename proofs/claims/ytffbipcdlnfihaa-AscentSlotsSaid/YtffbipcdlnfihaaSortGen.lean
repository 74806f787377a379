/-
  The library's sort by a comparison, in this seat's words: a row of one's own is sorted.
-/
import Derived.Test.YtffbipcdlnfihaaSortLay
import Derived.Test.YtffbipcdlnfihaaCore
import Derived.Laws.OwnMore
import Derived.Deep.AppendLies
namespace Go.Proofs.Ytffbipcdlnfihaa
open Go.RowKit Go.Shelf Go.Lib Go.Sort
set_option maxRecDepth 100000
theorem sort_below {α : Type} [Inhabited α] (enc : α → List Value) (k : Nat) (w : World) (blk off n : Nat) (dk : Array α) (os : Array Obj) (hblk : blk ≤ w.heap.size) : RowKit.Below blk w (sortWorldK enc k w blk off n dk os) := by
  refine ⟨rfl, rfl, rfl, ?_, fun c hc => ?_⟩
  · simp [sortWorldK, grow, putRowK, putRow, mapBlock, Sort.ahead]
  · simp only [sortWorldK, grow, putRowK, putRow, mapBlock, Sort.ahead]
    rw [Array.getElem?_append_left (by simp; omega), Array.getElem?_modify, if_neg (by omega)]
theorem holdsK_own {α : Type} [Inhabited α] {enc : α → List Value} {k : Nat} (hk : ∀ x, (enc x).length = k) {w : World} {base g cap : Nat} {e : TypeId} {E : List α} (h : w.ownsRow base e k (.slice (some ⟨g, 0, none⟩) E.length cap) E.length (E.flatMap enc)) : HoldsK enc k w g 0 E.toArray := by
  intro j hj
  rw [size_flatK, List.size_toArray] at hj
  have hk0 : 0 < k := by
    rcases Nat.eq_zero_or_pos k with h0 | h0
    · rw [h0] at hj; simp at hj
    · exact h0
  have hq : j / k < E.length := Nat.div_lt_of_lt_mul (by rw [Nat.mul_comm]; exact hj)
  have hr : j % k < k := Nat.mod_lt j hk0
  have hj2 : j / k * k + j % k = j := by rw [Nat.mul_comm]; exact Nat.div_add_mod j k
  have h1 := flat_get enc k hk E (j / k) (j % k) hq hr
  rw [hj2] at h1
  have h2 := h.cellAt j hj
  rw [Nat.zero_add, h2, h1, get_flatK enc k E.toArray j (by simpa using hj)]
  refine ⟨?_, h.frozenAt j⟩
  have e1 : E.toArray[j / k]! = E[j / k] := by simp [hq]
  rw [e1]
  have hl : j % k < (enc E[j / k]).length := by rw [hk]; exact hr
  rw [List.getElem?_eq_getElem hl]
  simp [hl]
theorem slAt_holdsK {α : Type} [Inhabited α] {enc : α → List Value} {k : Nat} (hk : ∀ x, (enc x).length = k) {w : World} {g cap : Nat} {d : Array α} (h : HoldsK enc k w g 0 d) (hm : d.size ≤ maxLen) : SlAt w (.slice (some ⟨g, 0, none⟩) d.size cap) d.size (d.toList.flatMap enc) := by
  refine ⟨_, _, rfl, hm, fun j x hx => ⟨g, 0, rfl, ?_⟩⟩
  have hl : j < d.size * k := by
    have := (List.getElem?_eq_some_iff.1 hx).1
    rw [flat_len enc k hk] at this
    simpa using this
  have hk0 : 0 < k := by
    rcases Nat.eq_zero_or_pos k with h0 | h0
    · rw [h0] at hl; simp at hl
    · exact h0
  have hq : j / k < d.size := Nat.div_lt_of_lt_mul (by rw [Nat.mul_comm]; exact hl)
  have hr : j % k < k := Nat.mod_lt j hk0
  have hj2 : j / k * k + j % k = j := by rw [Nat.mul_comm]; exact Nat.div_add_mod j k
  have h1 := flat_get enc k hk d.toList (j / k) (j % k) (by simpa using hq) hr
  rw [hj2, hx] at h1
  have h2 := (h j (by rw [size_flatK]; exact hl)).1
  rw [get_flatK enc k d j hl] at h2
  have e1 : d[j / k]! = d.toList[j / k]'(by simpa using hq) := by simp [hq]
  rw [e1] at h2
  have hl2 : j % k < (enc (d.toList[j / k]'(by simpa using hq))).length := by rw [hk]; exact hr
  rw [List.getElem?_eq_getElem hl2] at h1
  have e3 : (enc (d.toList[j / k]'(by simpa using hq)))[j % k]! = (enc (d.toList[j / k]'(by simpa using hq)))[j % k]'hl2 := getElem!_pos (enc (d.toList[j / k]'(by simpa using hq))) (j % k) hl2
  rw [e3] at h2
  exact h2.trans h1.symm
/-- A row of one's own is sorted. -/
theorem sortRow_any {P : Program} {ρ : Ren} {α : Type} [Inhabited α] (L : SlLaysF0.n6 P ρ) (k : Nat) (aE : ∀ w, (isAgg (ρ.t 24)).run P w = .ok true w) (zE : ∀ w, (Go.sizeOf (ρ.t 24)).run P w = .ok k w) (enc : α → List Value) (hk : ∀ x, (enc x).length = k)
    (h1 : ∀ x, ∀ v ∈ enc x, v.oneCell' = true) (cf : α → α → Int) (hO : SWO (ltOf cf)) (g : Nat) (eg : ∀ args w, (callFunc g args).run P w = .ok (.enter g args) w)
    (hcmp : ∀ x y W, Calls P g #[.agg (enc x).toArray, .agg (enc y).toArray] W fun e w' => e = .returned (.int .i64 (cf x y)) ∧ ∃ q os', w' = grow (W.drewN q) os')
    (a0 : World) (w : World) (E : List α) (v : Value) (e : TypeId) (hown : w.ownsRow a0.heap.size e k v E.length (E.flatMap enc)) (hsz : E.length < 1152921504606846976) (g0 : Grew a0 w) :
    Calls P (ρ.f 6) #[v, .func (.func g) #[] #[]] w fun e w' => e = .returned (.tuple #[]) ∧ Grew a0 w' ∧ ∃ d : List α, d.Perm E ∧ (∀ i j, ∀ hj : j < d.length, ∀ hi : i < j, ltOf cf d[j] (d[i]'(by omega)) = false) ∧ SlAt w' v d.length (d.flatMap enc) := by
  by_cases h0 : E.length = 0
  · have hE : E = [] := List.eq_nil_of_length_eq_zero h0
    subst hE
    obtain ⟨ao, cap, rfl⟩ := owns_form hown
    refine (AnyF.slices_SortFunc_none L ao cap (.func (.func g) #[] #[]) w).mono fun e' w' ⟨he, hw⟩ => ⟨he, by rw [hw]; exact g0, [], List.Perm.refl _, fun i j hj => by simp at hj, by rw [hw]; exact SlAt.of_owns hown⟩
  · obtain ⟨b, cap, rfl, hb, hbl⟩ := hown.form (by omega)
    have hcap := SlAt.len_le (SlAt.of_owns hown)
    have hH := holdsK_own hk hown
    have hc := AnyQ.slices_SortFunc L k aE zE enc hk h1 cf hO g #[] b 0 cap E.toArray w eg (fun m os dk _ x y => by simpa using hcmp x y _) hH hbl (by simp; omega)
    rw [List.size_toArray] at hc
    refine hc.mono fun e' w' ⟨he, d', n, os, hp, hs, hw⟩ => ?_
    obtain ⟨hp1, -, hp3⟩ := hp
    have hp1 : d'.size = E.length := by simpa using hp1
    have hHd := holdsK_sortWorldK enc k w b 0 n E.toArray d' os hbl hH (by simpa using hp1)
    rw [← hw] at hHd
    refine ⟨he, ?_, d'.toList, ?_, ?_, ?_⟩
    · rw [hw]
      exact Below.trans (show RowKit.Below a0.heap.size a0 w from g0) (RowKit.Below.mono (sort_below enc k w b 0 n d' os (by omega)) hb)
    · have e1 : d'.extract 0 E.length = d' := by rw [← hp1]; simp
      have e2 : E.toArray.extract 0 E.length = E.toArray := by
        have : E.length = E.toArray.size := by simp
        rw [this]; simp
      rw [e1, e2] at hp3
      simpa using hp3
    · intro i j hj hi
      have hj' : j < d'.size := by simpa using hj
      have := hs i j (Nat.zero_le _) hi (by rw [← hp1]; exact hj')
      simpa [hj', show i < d'.size by omega] using this
    · have := slAt_holdsK (cap := cap) hk hHd (by rw [hp1]; exact hcap)
      rw [hp1] at this
      have e4 : d'.toList.length = E.length := by simpa using hp1
      rw [e4]
      exact this
end Go.Proofs.Ytffbipcdlnfihaa
