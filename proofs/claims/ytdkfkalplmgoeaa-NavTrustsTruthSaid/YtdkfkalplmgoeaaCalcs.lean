/-
  Contracts: ullageref01's Root, list, Norm.
  A calculation that keeps its first error: worlds in which one cell alone has turned; contracts of ullageref01.Calc.
  Contracts: the operations of ullageref01.Calc.
  Regions that draw their order beside a calculation's calls: the walk in the order of the text.
-/
import Derived.Test.YtdkfkalplmgoeaaRefOpsAll
import Derived.Test.YtdkfkalplmgoeaaFolds
import Derived.Test.YtdkfkalplmgoeaaLexAll
namespace Go.Proofs.Ytdkfkalplmgoeaa
open Go.RowKit Go.Shelf
set_option maxRecDepth 100000
set_option maxHeartbeats 2000000
theorem rootAt_sq (k : Nat) (r x : Int) (h : r * r ≤ x) : rootAt k r x * rootAt k r x ≤ x := by
  induction k generalizing r with
  | zero => exact h
  | succ k ih =>
    unfold rootAt
    split
    · exact ih _ (by assumption)
    · exact ih _ h
theorem rootZ_sq (x : Int) (h : 0 ≤ x) : rootZ x * rootZ x ≤ x := rootAt_sq 49 0 x (by omega)
theorem rootUp_less (x : Int) (h : 0 ≤ x) : rootUp x = if decide (rootZ x * rootZ x < x) then rootZ x + 1 else rootZ x := by
  have := rootZ_sq x h
  unfold rootUp
  by_cases e : rootZ x * rootZ x = x
  · rw [if_pos e, if_neg (by simp; omega)]
  · rw [if_neg e, if_pos (by simp; omega)]
theorem norm_step (f : Sp → Res) (L : List Sx) (k : Nat) (hk : k < L.length) (s : Sp) (h : foldR f z0 (valsS (L.take k)) = ⟨s, 0⟩) :
    foldR f z0 (valsS (L.take (k + 1))) = if (f (L[k]).1).e = 0 then (if (addR s (f (L[k]).1).s).e = 0 then ⟨(addR s (f (L[k]).1).s).s, 0⟩ else errR (addR s (f (L[k]).1).s).e) else errR (f (L[k]).1).e := by
  rw [List.take_succ_eq_append_getElem hk]
  unfold valsS at *
  rw [List.map_append, List.map_cons, List.map_nil, foldR_snoc, h, if_pos rfl]
  rfl
theorem norm_fail (f : Sp → Res) (L : List Sx) (k : Nat) (c : Int) (hc : c ≠ 0) (h : foldR f z0 (valsS (L.take k)) = errR c) : foldR f z0 (valsS L) = errR c := by
  have e : valsS L = valsS (L.take k) ++ valsS (L.drop k) := by unfold valsS; rw [← List.map_append, List.take_append_drop]
  rw [e, foldR_err f z0 _ _ (by rw [h]; exact hc), h]
theorem if_errR {c : Int} (hc : c ≠ 0) : (if (errR c).e = 0 then rootR (errR c).s else errR (errR c).e) = errR c := if_neg hc
theorem normR_few (l : List Sp) (h : fewE l = 0) : normR l = if (foldR squareR z0 l).e = 0 then rootR (foldR squareR z0 l).s else errR (foldR squareR z0 l).e := by
  unfold fewE at h
  unfold normR
  split at h
  · rename_i hl
    rw [if_pos hl]
    cases h2 : l.all Sp.okB
    · rw [h2] at h; cases h
    · rfl
  · cases h
theorem normR_bad (l : List Sp) (h : fewE l ≠ 0) : normR l = errR (fewE l) := by
  unfold fewE at h ⊢
  unfold normR
  split at h
  · rename_i hl
    rw [if_pos hl]
    cases h2 : l.all Sp.okB
    · rw [if_pos hl]; rfl
    · rw [h2] at h; exact absurd rfl h
  · rename_i hl
    rw [if_neg hl, if_neg hl]
end Go.Proofs.Ytdkfkalplmgoeaa
namespace Go.Proofs.Ytdkfkalplmgoeaa
open Go.RowKit Go.Shelf
set_option maxRecDepth 100000
set_option maxHeartbeats 2000000
/-- Nothing old has turned but the first cell of a block. -/
structure But (c : Nat) (w w' : World) : Prop where
  os : w'.os = w.os
  tape : w'.tape = w.tape
  output : w'.output = w.output
  size : w.heap.size ≤ w'.heap.size
  lt : c < w.heap.size
  block : ∀ k, k < w.heap.size → k ≠ c → w'.heap[k]? = w.heap[k]?
  kept : ∃ v, w'.heap[c]? = (w.setCell ⟨c, 0, none⟩ v).heap[c]?
theorem heap_of_cell {w : World} {c : Nat} {y : Value} (h : w.cell? ⟨c, 0, none⟩ = some y) : ∃ cs t fz, w.heap[c]? = some (.cells cs t fz) ∧ cs[0]? = some y := by
  unfold World.cell? at h
  simp only at h
  split at h
  · rename_i cs t fz heq
    exact ⟨cs, t, fz, heq, by simpa using h⟩
  · cases h
theorem heap_setCell_at {w : World} {c : Nat} {cs : Array Value} {t : TypeId} {fz : Nat × Nat} (h : w.heap[c]? = some (.cells cs t fz)) (v : Value) : (w.setCell ⟨c, 0, none⟩ v).heap[c]? = some (.cells (cs.setIfInBounds 0 v) t fz) := by
  unfold World.setCell
  simp [Array.getElem?_modify, h]
theorem set_same {cs : Array Value} {y : Value} (h : cs[0]? = some y) : cs.setIfInBounds 0 y = cs := by
  apply Array.ext_getElem?
  intro i
  rw [Array.getElem?_setIfInBounds]
  by_cases hi : 0 = i
  · subst hi
    have := (Array.getElem?_eq_some_iff.1 h).1
    rw [if_pos rfl, if_pos this, h]
  · rw [if_neg hi]
theorem setCell_same {w : World} {c : Nat} {x : Value} (h : w.cell? ⟨c, 0, none⟩ = some x) : w.setCell ⟨c, 0, none⟩ x = w := by
  obtain ⟨cs, t, fz, h1, h2⟩ := heap_of_cell h
  have : (w.setCell ⟨c, 0, none⟩ x).heap = w.heap := by
    apply Array.ext_getElem?
    intro i
    by_cases hi : i = c
    · subst hi
      rw [heap_setCell_at h1, h1, set_same h2]
    · exact Below.heap_setCell w ⟨c, 0, none⟩ x i hi
  unfold World.setCell at this ⊢
  simp only at this
  rw [this]
theorem setCell_twice (w : World) (c : Nat) (x y : Value) : (w.setCell ⟨c, 0, none⟩ y).setCell ⟨c, 0, none⟩ x = w.setCell ⟨c, 0, none⟩ x := by
  have : ((w.setCell ⟨c, 0, none⟩ y).setCell ⟨c, 0, none⟩ x).heap = (w.setCell ⟨c, 0, none⟩ x).heap := by
    apply Array.ext_getElem?
    intro i
    by_cases hi : i = c
    · subst hi
      cases h : w.heap[i]? with
      | none => simp [World.setCell, Array.getElem?_modify, h]
      | some o => cases o <;> simp [World.setCell, Array.getElem?_modify, h]
    · rw [Below.heap_setCell _ ⟨c, 0, none⟩ x i hi, Below.heap_setCell _ ⟨c, 0, none⟩ y i hi, Below.heap_setCell _ ⟨c, 0, none⟩ x i hi]
  unfold World.setCell at this ⊢
  simp only at this ⊢
  rw [this]
theorem But.refl {c : Nat} {w : World} {y : Value} (h : w.cell? ⟨c, 0, none⟩ = some y) : But c w w :=
  ⟨rfl, rfl, rfl, Nat.le_refl _, World.block_lt_of_cell? w _ h, fun _ _ _ => rfl, y, by rw [setCell_same h]⟩
theorem But.alloc {c : Nat} {w w' : World} (h : But c w w') (o : Obj) : But c w (w'.alloc o) :=
  ⟨h.os, h.tape, h.output, by have := h.size; simp; omega, h.lt, fun k hk hc => (Below.heap_alloc _ _ _ (by have := h.size; omega)).trans (h.block k hk hc), by
    obtain ⟨v, hv⟩ := h.kept
    exact ⟨v, (Below.heap_alloc _ _ _ (by have := h.size; have := h.lt; omega)).trans hv⟩⟩
theorem But.drew {c : Nat} {w w' : World} (h : But c w w') : But c w w'.drew := ⟨h.os, h.tape, h.output, h.size, h.lt, h.block, h.kept⟩
theorem But.later {c : Nat} {w w' : World} (h : But c w w') (u : Later w') : But c w u.world :=
  ⟨u.grew.os.trans h.os, u.grew.tape.trans h.tape, u.grew.output.trans h.output, Nat.le_trans h.size (Below.size u.grew), h.lt, fun k hk hc => (u.grew.block k (by have := h.size; omega)).trans (h.block k hk hc), by
    obtain ⟨v, hv⟩ := h.kept
    exact ⟨v, (u.grew.block c (by have := h.size; have := h.lt; omega)).trans hv⟩⟩
theorem But.store {c : Nat} {w w' : World} (h : But c w w') (b i : Nat) (v : Value) [hb : NewFor w b] : But c w (w'.setCell ⟨b, i, none⟩ v) :=
  ⟨h.os, h.tape, h.output, by have := h.size; simpa [World.setCell] using this, h.lt, fun k hk hc => (Below.heap_setCell _ _ _ _ (by have := hb.le; show k ≠ b; omega)).trans (h.block k hk hc), by
    obtain ⟨x, hx⟩ := h.kept
    exact ⟨x, (Below.heap_setCell _ _ _ _ (by have := hb.le; have := h.lt; show c ≠ b; omega)).trans hx⟩⟩
theorem But.put {c : Nat} {w w' : World} (h : But c w w') (x : Value) : But c w (w'.setCell ⟨c, 0, none⟩ x) :=
  ⟨h.os, h.tape, h.output, by have := h.size; simpa [World.setCell] using this, h.lt, fun k hk hc => (Below.heap_setCell _ _ _ _ hc).trans (h.block k hk hc), by
    obtain ⟨v, hv⟩ := h.kept
    refine ⟨x, ?_⟩
    rw [← setCell_twice w c x v]
    generalize w.setCell ⟨c, 0, none⟩ v = w2 at *
    simp [World.setCell, Array.getElem?_modify, hv]⟩
theorem btw {c : Nat} {w w' : World} (h : But c w w' := by repeat (first | with_reducible exact Hb.out | with_reducible apply But.alloc | with_reducible apply But.later | with_reducible apply But.drew | with_reducible apply But.put | with_reducible apply But.store)) : But c w w' := h
theorem But.out {c : Nat} {w w' : World} {x y : Value} (h : But c w w') (h0 : w.cell? ⟨c, 0, none⟩ = some y) (hx : w'.cell? ⟨c, 0, none⟩ = some x) : ∃ u : Later w, w' = u.world.setCell ⟨c, 0, none⟩ x := by
  refine ⟨⟨w'.setCell ⟨c, 0, none⟩ y, ⟨h.os, h.tape, h.output, by have := h.size; simpa [World.setCell] using this, fun k hk => ?_⟩⟩, ?_⟩
  · by_cases hc : k = c
    · subst hc
      obtain ⟨v, hv⟩ := h.kept
      obtain ⟨cs, t, fz, h1, h2⟩ := heap_of_cell h0
      rw [heap_setCell_at h1] at hv
      rw [heap_setCell_at hv, h1]
      congr 2
      have : (cs.setIfInBounds 0 v).setIfInBounds 0 y = cs.setIfInBounds 0 y := by
        apply Array.ext_getElem?
        intro i
        simp [Array.getElem?_setIfInBounds]
      rw [this, set_same h2]
    · exact (Below.heap_setCell _ _ _ _ hc).trans (h.block k hk hc)
  · rw [setCell_twice, setCell_same hx]
/-- What is handed back, and the error that is kept. -/
def RetC (c : Nat) (v : Value) (e : Int) (w : World) (en : Ending) (w' : World) : Prop := en = .returned v ∧ ∃ u : Later w, w' = u.world.setCell ⟨c, 0, none⟩ (.int .i64 e)
theorem call_calc {P : Program} {f : FuncId} {args : Array Value} {w : World} {c : Nat} {v : Value} {e : Int} {R : Ending → World → Prop}
    (h : Calls P f args w (RetC c v e w)) (k : ∀ u : Later w, R (.returned v) (u.world.setCell ⟨c, 0, none⟩ (.int .i64 e))) : Calls P f args w R :=
  h.mono fun _ w' ⟨he, u, hu⟩ => by subst he; subst hu; exact k u
/-- An operation, if nothing was wrong before. -/
def doR (e : Int) (r : Res) : Res := if e = 0 then r else errR e
theorem doR_ok (r : Res) : doR 0 r = r := rfl
theorem doR_bad {e : Int} (r : Res) (h : e ≠ 0) : doR e r = errR e := if_neg h
instance s64_do (e : Int) (r : Res) [h : S64 r.s] : S64 (doR e r).s := by
  unfold doR
  split
  · exact h
  · exact s64_err e
theorem ret_spS {x y : Int} {r : Sp} (h1 : x = r.lo) (h2 : y = r.hi) : Ending.returned (.agg #[.int .i64 x, .int .i64 y]) = .returned (.agg #[.int .i64 r.lo, .int .i64 r.hi]) := by rw [h1, h2]
end Go.Proofs.Ytdkfkalplmgoeaa
namespace Go.Proofs.Ytdkfkalplmgoeaa
open Go.RowKit Go.Shelf
set_option maxRecDepth 100000
set_option maxHeartbeats 2000000
def Bx.list (b : Bx) : List Sp := [b.x, b.y, b.z]
def boxS (b : Bx) [h : B64 b] : List Sx := [⟨b.x, h.x⟩, ⟨b.y, h.y⟩, ⟨b.z, h.z⟩]
instance s64_root (a : Sp) : S64 (rootR a).s := by
  unfold rootR
  split
  · split
    · exact s64_err 4
    · have h1 := rootZ_bd (imax a.lo 0 * 4294967296)
      have h2 := rootZ_bd (a.hi * 4294967296)
      refine ⟨by unfold I64; simp only []; omega, ?_⟩
      unfold I64 rootUp
      simp only []
      split <;> omega
  · exact s64_err 2
instance s64_norm (l : List Sp) : S64 (normR l).s := by
  unfold normR
  split
  · split
    · split
      · exact s64_root _
      · exact s64_err _
    · exact s64_err _
  · exact s64_err _
end Go.Proofs.Ytdkfkalplmgoeaa
namespace Go.Proofs.Ytdkfkalplmgoeaa
open Go.RowKit
set_option maxRecDepth 100000
set_option maxHeartbeats 2000000
theorem heap_set_congr {w1 w2 : World} {c : Nat} (h : w1.heap[c]? = w2.heap[c]?) (v : Value) : (w1.setCell ⟨c, 0, none⟩ v).heap[c]? = (w2.setCell ⟨c, 0, none⟩ v).heap[c]? := by
  simp [World.setCell, Array.getElem?_modify, h]
/-- As 'But', of any world. -/
structure ButT (c : Nat) (w w' : World) : Prop where
  os : w'.os = w.os
  tape : w'.tape = w.tape
  output : w'.output = w.output
  size : w.heap.size ≤ w'.heap.size
  block : ∀ k, k < w.heap.size → k ≠ c → w'.heap[k]? = w.heap[k]?
  kept : c < w.heap.size → (∃ v, w'.heap[c]? = (w.setCell ⟨c, 0, none⟩ v).heap[c]?) ∨ w'.heap[c]? = w.heap[c]?
theorem ButT.refl (c : Nat) (w : World) : ButT c w w := ⟨rfl, rfl, rfl, Nat.le_refl _, fun _ _ _ => rfl, fun _ => .inr rfl⟩
theorem ButT.trans {c : Nat} {a b d : World} (h : ButT c a b) (k : ButT c b d) : ButT c a d :=
  ⟨k.os.trans h.os, k.tape.trans h.tape, k.output.trans h.output, Nat.le_trans h.size k.size, fun i hi hc => (k.block i (by have := h.size; omega) hc).trans (h.block i hi hc), fun hlt => by
    rcases k.kept (by have := h.size; omega) with ⟨v, hv⟩ | hv
    · left
      rcases h.kept hlt with ⟨v', hv'⟩ | hv'
      · exact ⟨v, by rw [hv, heap_set_congr hv', setCell_twice]⟩
      · exact ⟨v, by rw [hv, heap_set_congr hv']⟩
    · rw [hv]
      exact h.kept hlt⟩
theorem ButT.grew {c : Nat} {w w' : World} (g : Grew w w') : ButT c w w' := ⟨g.os, g.tape, g.output, g.size, fun k hk _ => g.block k hk, fun hlt => .inr (g.block c hlt)⟩
theorem ButT.put (c : Nat) (w : World) (x : Value) : ButT c w (w.setCell ⟨c, 0, none⟩ x) :=
  ⟨rfl, rfl, rfl, by simp [World.setCell], fun _ _ hc => Below.heap_setCell _ _ _ _ hc, fun _ => .inl ⟨x, rfl⟩⟩
theorem ButT.out {c : Nat} {w w' : World} {x y : Value} (h : ButT c w w') (h0 : w.cell? ⟨c, 0, none⟩ = some y) (hx : w'.cell? ⟨c, 0, none⟩ = some x) : ∃ u : Later w, w' = u.world.setCell ⟨c, 0, none⟩ x := by
  have hlt := World.block_lt_of_cell? w _ h0
  refine But.out ⟨h.os, h.tape, h.output, h.size, hlt, h.block, ?_⟩ h0 hx
  rcases h.kept hlt with h1 | h1
  · exact h1
  · exact ⟨y, by rw [setCell_same h0, h1]⟩
structure GoodC (c : Nat) (F : Value → World → Prop) : Prop where
  stable : ∀ u w w', F u w → ButT c w w' → F u w'
  old : ∀ u w, F u w → Old u w
theorem goodc_none (c : Nat) : GoodC c fun u _ => blkOf u = none := ⟨fun _ _ _ h _ => h, fun u _ h b hb => by rw [h] at hb; cases hb⟩
theorem goodc_of {c : Nat} (l : List (Nat × (Value → World → Prop))) (h : ∀ x ∈ l, GoodC c x.2) (i : Nat) : GoodC c (rOf l i) := by
  unfold rOf
  induction l with
  | nil => exact goodc_none c
  | cons x l ih =>
    rw [List.lookup_cons]
    cases hx : i == x.1 with
    | true => exact h x (by simp)
    | false => exact ih (fun y hy => h y (by simp [hy]))
theorem ButT.cell {c : Nat} {w w' : World} (h : ButT c w w') {b i : Nat} (hb : b < w.heap.size) (hc : b ≠ c) : w'.cell? ⟨b, i, none⟩ = w.cell? ⟨b, i, none⟩ := World.cell?_of_block (w := w) (h.block b hb hc)
theorem ButT.frozen {c : Nat} {w w' : World} (h : ButT c w w') {b i : Nat} (hb : b < w.heap.size) (hc : b ≠ c) : w'.frozen? ⟨b, i, none⟩ = w.frozen? ⟨b, i, none⟩ := World.frozen?_of_block (w := w) (h.block b hb hc)
theorem goodc_box (c : Nat) (w0 : World) (h0 : c < w0.heap.size) (cs : List Value) : GoodC c (BoxR w0 cs) := by
  refine ⟨?_, (good_box w0 cs).old⟩
  rintro u w w' ⟨q, rfl, h1, h2, h4⟩ g
  have hq : q ≠ c := by have := h4.le; omega
  refine ⟨q, rfl, fun i v hv => ?_, ⟨Nat.lt_of_lt_of_le h2.lt g.size⟩, h4⟩
  obtain ⟨a, b⟩ := h1 i v hv
  exact ⟨(g.cell h2.lt hq).trans a, (g.frozen h2.lt hq).trans b⟩
/-- A slice over a new block. -/
def SliceC (w0 : World) (n : Nat) (cs : List Value) (u : Value) (w : World) : Prop := ∃ q, u = .slice (some ⟨q, 0, none⟩) n n ∧ RowAt w q cs ∧ BlockIn w q ∧ NewFor w0 q
theorem goodc_slice (c : Nat) (w0 : World) (h0 : c < w0.heap.size) (n : Nat) (cs : List Value) : GoodC c (SliceC w0 n cs) := by
  refine ⟨?_, ?_⟩
  · rintro u w w' ⟨q, rfl, h1, h2, h4⟩ g
    have hq : q ≠ c := by have := h4.le; omega
    exact ⟨q, rfl, ⟨fun i x hx => (g.cell h2.lt hq).trans (h1.is i x hx)⟩, ⟨Nat.lt_of_lt_of_le h2.lt g.size⟩, h4⟩
  · rintro u w ⟨q, rfl, h1, h2, h4⟩ b hb
    cases hb
    exact h2.lt
theorem madec_slice (w0 w : World) (cs : List Value) (t : TypeId) (n : Nat) [h : NewFor w0 w.heap.size] : Made (SliceC w0 n cs) w (.slice (some ⟨w.heap.size, 0, none⟩) n n) (w.alloc (.cells cs.toArray t)) :=
  ⟨(Grew.refl _).alloc _, ⟨_, rfl, inferInstance, inferInstance, h⟩, fun b hb => by cases hb; exact Nat.le_refl _⟩
/-- What the calculation's cell holds behind so many calls. -/
def WC (c : Nat) (es : List Int) (k : Nat) (w : World) : Prop := w.cell? ⟨c, 0, none⟩ = some (.int .i64 (es.getD k 0)) ∧ w.frozen? ⟨c, 0, none⟩ = false
section
variable {P : Program} {ops : Array Oper} {c : Nat} {es : List Int} {mks cl free : List Nat} {l : List (Nat × (Value → World → Prop))} {w0 : World} {p : Nat → Value} {E : Act → Prop} {o : Oper} {r : List Oper} {i : Nat} {a : Act} {v : Value} {vs : List Value}
def LexC (P : Program) (ops : Array Oper) (c : Nat) (es : List Int) (mks cl free : List Nat) (l : List (Nat × (Value → World → Prop))) (w0 : World) (p : Nat → Value) (E : Act → Prop) : List Oper → Nat → Act → List Value → Prop := Lex P ops mks cl free (ButT c) (WC c es) (rOf l) NoX w0 p E
/-- The world in which an operation is done. -/
abbrev CW (c : Nat) (w0 : World) (u : Later w0) (x : Value) : World := u.world.setCell ⟨c, 0, none⟩ x
theorem cw_of {w0 w : World} {y : Value} (h0 : w0.cell? ⟨c, 0, none⟩ = some y) (h : ButT c w0 w) : ∃ u x, w = CW c w0 u x := by
  have hlt := World.block_lt_of_cell? w0 _ h0
  obtain ⟨cs, t, fz, h1, h2⟩ := heap_of_cell h0
  have hx : ∃ x, w.cell? ⟨c, 0, none⟩ = some x := by
    rcases h.kept hlt with ⟨v, hv⟩ | hv
    · refine ⟨v, ?_⟩
      rw [heap_setCell_at h1] at hv
      have hs : 0 < cs.size := (Array.getElem?_eq_some_iff.1 h2).1
      simp [World.cell?, hv, hs]
    · exact ⟨y, by rw [World.cell?_of_block (w := w0) hv, h0]⟩
  obtain ⟨x, hx⟩ := hx
  obtain ⟨u, hu⟩ := h.out h0 hx
  exact ⟨u, x, hu⟩
theorem madec_box (u : Later w0) (x : Value) (cs : List Value) (t : TypeId) : Made (BoxR w0 cs) (CW c w0 u x) (.pointer (some ⟨u.world.heap.size, 0, none⟩)) ((CW c w0 u x).alloc (.cells cs.toArray t)) := by
  have h : NewFor w0 (CW c w0 u x).heap.size := inferInstance
  have := made_box w0 (CW c w0 u x) cs t
  rw [show (CW c w0 u x).heap.size = u.world.heap.size by simp [World.setCell]] at this
  exact this
theorem boxAt_cw {u : Later w0} {x y : Value} {q : Nat} {cs : List Value} (h : BoxAt (CW c w0 u x) q cs) (h0 : w0.cell? ⟨c, 0, none⟩ = some y) (hn : NewFor w0 q) : BoxAt u.world q cs := fun i v hv => by
  have hne : q ≠ c := by have := hn.le; have := World.block_lt_of_cell? w0 _ h0; simp at this; omega
  have : Apart q c := ⟨hne⟩
  obtain ⟨h1, h2⟩ := h i v hv
  rw [cell_setCell_apart] at h1
  rw [World.frozen?_setCell] at h2
  exact ⟨h1, h2⟩
theorem blockIn_cw {u : Later w0} {x : Value} {q : Nat} (h : BlockIn (CW c w0 u x) q) : BlockIn u.world q := ⟨by have := h.lt; simpa [World.setCell] using this⟩
theorem lexc_end (h : E a) : LexC P ops c es mks cl free l w0 p E [] i a [] := lex_end h
theorem lexc_pure {y : Value} (h0 : w0.cell? ⟨c, 0, none⟩ = some y) (h1 : (mks.contains i || cl.contains i || free.contains i) = false) (h : ∀ (u : Later w0) x, opPure P o a (CW c w0 u x) v) (k : LexC P ops c es mks cl free l w0 p E r (i + 1) (a.put o.dst v) vs) : LexC P ops c es mks cl free l w0 p E (o :: r) i a (v :: vs) := by
  simp only [Bool.or_eq_false_iff] at h1
  refine lex_pure (by simpa using h1.1.1) (by simpa using h1.1.2) (by simpa using h1.2) (fun w hT _ => ?_) k
  obtain ⟨u, x, rfl⟩ := cw_of h0 hT
  exact h u x
theorem lexc_free (h1 : (mks.contains i || cl.contains i || !free.contains i) = false) (h : ∀ w, opPure P o a w v) (k : LexC P ops c es mks cl free l w0 p E r (i + 1) (a.put o.dst v) vs) : LexC P ops c es mks cl free l w0 p E (o :: r) i a (v :: vs) := by
  simp only [Bool.or_eq_false_iff, Bool.not_eq_false'] at h1
  exact lex_free (by simpa using h1.1.1) (by simpa using h1.1.2) (by simpa using h1.2) h k
theorem lexc_make {y : Value} (h0 : w0.cell? ⟨c, 0, none⟩ = some y) (h1 : mks.contains i = true) (h : ∀ (u : Later w0) x, Facts ops mks (rOf l) p i (CW c w0 u x) → opMake P o a (CW c w0 u x) (Made (rOf l i) (CW c w0 u x))) (k : LexC P ops c es mks cl free l w0 p E r (i + 1) (a.put o.dst (p i)) vs) : LexC P ops c es mks cl free l w0 p E (o :: r) i a (p i :: vs) := by
  refine lex_make (by simpa using h1) (fun w hT hF => ?_) k
  have hlt := World.block_lt_of_cell? w0 _ h0
  have hsz : w0.heap.size ≤ w.heap.size := hT.size
  obtain ⟨u, x, rfl⟩ := cw_of h0 hT
  have := h u x hF
  unfold opMake at this ⊢
  generalize (execOp a.eval o).run P (CW c w0 u x) = q at *
  cases q with
  | ok n w' =>
    cases n <;> simp only [] at this
    obtain ⟨t1, t2, t3⟩ := this
    exact ⟨ButT.grew t1, t2, fun k ⟨hk1, hk2⟩ => ⟨t1.cell hk1, (Below.frozen t1 (p := ⟨c, 0, none⟩) (Nat.lt_of_lt_of_le hlt hsz)).trans hk2⟩, t3⟩
  | halt x w' => exact this.elim
theorem lexc_call {y : Value} (h0 : w0.cell? ⟨c, 0, none⟩ = some y) (n : Nat) (h1 : mks.contains i = false) (h2 : cl[n]? = some i) (h3 : cl.Nodup)
    (h : ∀ u : Later w0, (CW c w0 u (.int .i64 (es.getD n 0))).frozen? ⟨c, 0, none⟩ = false → Facts ops mks (rOf l) p i (CW c w0 u (.int .i64 (es.getD n 0))) → opCall P o a (CW c w0 u (.int .i64 (es.getD n 0))) v (fun w' => ∃ u' : Later (CW c w0 u (.int .i64 (es.getD n 0))), w' = u'.world.setCell ⟨c, 0, none⟩ (.int .i64 (es.getD (n + 1) 0))))
    (k : LexC P ops c es mks cl free l w0 p E r (i + 1) (a.put o.dst v) vs) : LexC P ops c es mks cl free l w0 p E (o :: r) i a (v :: vs) := by
  refine lex_call n (by simpa using h1) h2 h3 (fun w hT hW hF => ?_) k
  have hlt := World.block_lt_of_cell? w0 _ h0
  have hsz : w0.heap.size ≤ w.heap.size := hT.size
  obtain ⟨u, rfl⟩ := ButT.out hT h0 hW.1
  have hw1 := hW.1
  have hw2 := hW.2
  have := h u hW.2 hF
  refine opCallX_of (X := NoX) ?_
  unfold opCall at this ⊢
  generalize (execOp a.eval o).run P (CW c w0 u (.int .i64 (es.getD n 0))) = q at *
  cases q with
  | ok m w' =>
    cases m <;> simp only [] at this
    refine this.mono ?_
    rintro e w'' ⟨he, u', rfl⟩
    refine ⟨he, (ButT.grew u'.grew).trans (ButT.put c _ _), ?_, ?_⟩
    · exact World.cell?_setCell_same _ _ _ (u'.grew.cell hw1)
    · rw [World.frozen?_setCell]
      exact (Below.frozen u'.grew (p := ⟨c, 0, none⟩) (Nat.lt_of_lt_of_le hlt hsz)).trans hw2
  | halt x w' => exact this.elim
theorem wp_region_calc {id : Nat} {lo : List Oper} {Q : Exit → Act → World → Prop} {a0 : Act} {w : World} (c : Nat) (es : List Int) (N : Nat) (mks cl free : List Nat) (l : World → List (Nat × (Value → World → Prop))) (cv : List Value) (tl : List Nat) (htl : List.range' N (lo.length - N) = tl)
    (h0 : w.cell? ⟨c, 0, none⟩ = some (.int .i64 (es.getD 0 0))) (hf0 : w.frozen? ⟨c, 0, none⟩ = false)
    (hg : ∀ W0, c < W0.heap.size → ∀ x ∈ l W0, GoodC c x.2) (hm : P.follows .mixedOrders = true) (hB : tameB lo.toArray N cl free = true) (hA : apartB N mks cl free = true)
    (hlex : ∀ p, w.drew.cell? ⟨c, 0, none⟩ = some (.int .i64 (es.getD 0 0)) → ∃ vs, LexC P lo.toArray c es mks cl free (l w.drew) w.drew p (fun a => ∀ u : Later w.drew, (∀ j, j ∈ mks → rOf (l w.drew) j (p j) (CW c w.drew u (.int .i64 (es.getD cl.length 0)))) → (∀ j j', j ∈ mks → j' ∈ mks → j ≠ j' → Differ (p j) (p j')) → (CW c w.drew u (.int .i64 (es.getD cl.length 0))).frozen? ⟨c, 0, none⟩ = false → Tail P lo.toArray a (fun w'' => Q .normal a w'') tl (CW c w.drew u (.int .i64 (es.getD cl.length 0)))) (lo.take N) 0 a0 vs ∧
      (cl.map fun c => vs.getD c undef) = cv) :
    (Code.region id lo.toArray true).wp P Q a0 w := by
  subst htl
  have hlt : c < w.drew.heap.size := World.block_lt_of_cell? w _ h0
  have hd0 : w.drew.cell? ⟨c, 0, none⟩ = some (.int .i64 (es.getD 0 0)) := h0
  refine wp_region_lexed N mks cl free (ButT c) (WC c es) (rOf (l w.drew)) NoX noX cv hm hB hA (fun w => ButT.refl c w) (fun _ _ _ h k => h.trans k) (fun i => (goodc_of _ (hg _ hlt) i).stable) (fun i => (goodc_of _ (hg _ hlt) i).old) ⟨h0, hf0⟩ fun p => ?_
  obtain ⟨vs, h1, h2⟩ := hlex p hd0
  refine ⟨vs, ?_, h2⟩
  have mono : ∀ (l' : List Oper) (i : Nat) (a : Act) (vs : List Value) (E E' : Act → Prop), (∀ a, E a → E' a) → Lex P lo.toArray mks cl free (ButT c) (WC c es) (rOf (l w.drew)) NoX w.drew p E l' i a vs → Lex P lo.toArray mks cl free (ButT c) (WC c es) (rOf (l w.drew)) NoX w.drew p E' l' i a vs := by
    intro l'
    induction l' with
    | nil => intro i a vs E E' hE h; exact ⟨h.1, hE _ h.2⟩
    | cons o r ih =>
      intro i a vs E E' hE h
      cases vs with
      | nil => exact h
      | cons v vs => exact ⟨h.1, ih _ _ _ _ _ hE h.2⟩
  refine mono _ _ _ _ _ _ (fun a h w' hT hW hR hD => ?_) h1
  obtain ⟨u, rfl⟩ := ButT.out hT hd0 hW.1
  exact (h u hR hD hW.2).out
end
end Go.Proofs.Ytdkfkalplmgoeaa
