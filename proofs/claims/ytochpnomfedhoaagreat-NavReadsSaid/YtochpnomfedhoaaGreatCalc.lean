/-
  A calculation that keeps its first error: worlds in which one cell alone has turned; contracts of ullageref01.Calc.
-/
import Derived.Test.YtochpnomfedhoaaGreatRefNorm
namespace Go.Proofs.YtochpnomfedhoaaGreat
open Go.RowKit Go.Shelf
set_option maxRecDepth 100000
set_option maxHeartbeats 2000000
/-- Nothing old has turned but the first cell of a block. -/
structure But (c : Nat) (w w' : World) : Prop where
  os : w'.os = w.os
  tape : w'.tape = w.tape
  output : w'.output = w.output
  size : w.heap.size ≤ w'.heap.size
  lt : c < w.heap.size
  block : ∀ k, k < w.heap.size → k ≠ c → w'.heap[k]? = w.heap[k]?
  kept : ∃ v, w'.heap[c]? = (w.setCell ⟨c, 0, none⟩ v).heap[c]?
theorem heap_of_cell {w : World} {c : Nat} {y : Value} (h : w.cell? ⟨c, 0, none⟩ = some y) : ∃ cs t fz, w.heap[c]? = some (.cells cs t fz) ∧ cs[0]? = some y := by
  unfold World.cell? at h
  simp only at h
  split at h
  · rename_i cs t fz heq
    exact ⟨cs, t, fz, heq, by simpa using h⟩
  · cases h
theorem heap_setCell_at {w : World} {c : Nat} {cs : Array Value} {t : TypeId} {fz : Nat × Nat} (h : w.heap[c]? = some (.cells cs t fz)) (v : Value) : (w.setCell ⟨c, 0, none⟩ v).heap[c]? = some (.cells (cs.setIfInBounds 0 v) t fz) := by
  unfold World.setCell
  simp [Array.getElem?_modify, h]
theorem set_same {cs : Array Value} {y : Value} (h : cs[0]? = some y) : cs.setIfInBounds 0 y = cs := by
  apply Array.ext_getElem?
  intro i
  rw [Array.getElem?_setIfInBounds]
  by_cases hi : 0 = i
  · subst hi
    have := (Array.getElem?_eq_some_iff.1 h).1
    rw [if_pos rfl, if_pos this, h]
  · rw [if_neg hi]
theorem setCell_same {w : World} {c : Nat} {x : Value} (h : w.cell? ⟨c, 0, none⟩ = some x) : w.setCell ⟨c, 0, none⟩ x = w := by
  obtain ⟨cs, t, fz, h1, h2⟩ := heap_of_cell h
  have : (w.setCell ⟨c, 0, none⟩ x).heap = w.heap := by
    apply Array.ext_getElem?
    intro i
    by_cases hi : i = c
    · subst hi
      rw [heap_setCell_at h1, h1, set_same h2]
    · exact Below.heap_setCell w ⟨c, 0, none⟩ x i hi
  unfold World.setCell at this ⊢
  simp only at this
  rw [this]
theorem setCell_twice (w : World) (c : Nat) (x y : Value) : (w.setCell ⟨c, 0, none⟩ y).setCell ⟨c, 0, none⟩ x = w.setCell ⟨c, 0, none⟩ x := by
  have : ((w.setCell ⟨c, 0, none⟩ y).setCell ⟨c, 0, none⟩ x).heap = (w.setCell ⟨c, 0, none⟩ x).heap := by
    apply Array.ext_getElem?
    intro i
    by_cases hi : i = c
    · subst hi
      cases h : w.heap[i]? with
      | none => simp [World.setCell, Array.getElem?_modify, h]
      | some o => cases o <;> simp [World.setCell, Array.getElem?_modify, h]
    · rw [Below.heap_setCell _ ⟨c, 0, none⟩ x i hi, Below.heap_setCell _ ⟨c, 0, none⟩ y i hi, Below.heap_setCell _ ⟨c, 0, none⟩ x i hi]
  unfold World.setCell at this ⊢
  simp only at this ⊢
  rw [this]
theorem But.refl {c : Nat} {w : World} {y : Value} (h : w.cell? ⟨c, 0, none⟩ = some y) : But c w w :=
  ⟨rfl, rfl, rfl, Nat.le_refl _, World.block_lt_of_cell? w _ h, fun _ _ _ => rfl, y, by rw [setCell_same h]⟩
theorem But.alloc {c : Nat} {w w' : World} (h : But c w w') (o : Obj) : But c w (w'.alloc o) :=
  ⟨h.os, h.tape, h.output, by have := h.size; simp; omega, h.lt, fun k hk hc => (Below.heap_alloc _ _ _ (by have := h.size; omega)).trans (h.block k hk hc), by
    obtain ⟨v, hv⟩ := h.kept
    exact ⟨v, (Below.heap_alloc _ _ _ (by have := h.size; have := h.lt; omega)).trans hv⟩⟩
theorem But.drew {c : Nat} {w w' : World} (h : But c w w') : But c w w'.drew := ⟨h.os, h.tape, h.output, h.size, h.lt, h.block, h.kept⟩
theorem But.later {c : Nat} {w w' : World} (h : But c w w') (u : Later w') : But c w u.world :=
  ⟨u.grew.os.trans h.os, u.grew.tape.trans h.tape, u.grew.output.trans h.output, Nat.le_trans h.size (Below.size u.grew), h.lt, fun k hk hc => (u.grew.block k (by have := h.size; omega)).trans (h.block k hk hc), by
    obtain ⟨v, hv⟩ := h.kept
    exact ⟨v, (u.grew.block c (by have := h.size; have := h.lt; omega)).trans hv⟩⟩
theorem But.store {c : Nat} {w w' : World} (h : But c w w') (b i : Nat) (v : Value) [hb : NewFor w b] : But c w (w'.setCell ⟨b, i, none⟩ v) :=
  ⟨h.os, h.tape, h.output, by have := h.size; simpa [World.setCell] using this, h.lt, fun k hk hc => (Below.heap_setCell _ _ _ _ (by have := hb.le; show k ≠ b; omega)).trans (h.block k hk hc), by
    obtain ⟨x, hx⟩ := h.kept
    exact ⟨x, (Below.heap_setCell _ _ _ _ (by have := hb.le; have := h.lt; show c ≠ b; omega)).trans hx⟩⟩
theorem But.put {c : Nat} {w w' : World} (h : But c w w') (x : Value) : But c w (w'.setCell ⟨c, 0, none⟩ x) :=
  ⟨h.os, h.tape, h.output, by have := h.size; simpa [World.setCell] using this, h.lt, fun k hk hc => (Below.heap_setCell _ _ _ _ hc).trans (h.block k hk hc), by
    obtain ⟨v, hv⟩ := h.kept
    refine ⟨x, ?_⟩
    rw [← setCell_twice w c x v]
    generalize w.setCell ⟨c, 0, none⟩ v = w2 at *
    simp [World.setCell, Array.getElem?_modify, hv]⟩
theorem But.out {c : Nat} {w w' : World} {x y : Value} (h : But c w w') (h0 : w.cell? ⟨c, 0, none⟩ = some y) (hx : w'.cell? ⟨c, 0, none⟩ = some x) : ∃ u : Later w, w' = u.world.setCell ⟨c, 0, none⟩ x := by
  refine ⟨⟨w'.setCell ⟨c, 0, none⟩ y, ⟨h.os, h.tape, h.output, by have := h.size; simpa [World.setCell] using this, fun k hk => ?_⟩⟩, ?_⟩
  · by_cases hc : k = c
    · subst hc
      obtain ⟨v, hv⟩ := h.kept
      obtain ⟨cs, t, fz, h1, h2⟩ := heap_of_cell h0
      rw [heap_setCell_at h1] at hv
      rw [heap_setCell_at hv, h1]
      congr 2
      have : (cs.setIfInBounds 0 v).setIfInBounds 0 y = cs.setIfInBounds 0 y := by
        apply Array.ext_getElem?
        intro i
        simp [Array.getElem?_setIfInBounds]
      rw [this, set_same h2]
    · exact (Below.heap_setCell _ _ _ _ hc).trans (h.block k hk hc)
  · rw [setCell_twice, setCell_same hx]
/-- What is handed back, and the error that is kept. -/
def RetC (c : Nat) (v : Value) (e : Int) (w : World) (en : Ending) (w' : World) : Prop := en = .returned v ∧ ∃ u : Later w, w' = u.world.setCell ⟨c, 0, none⟩ (.int .i64 e)
theorem call_calc {P : Program} {f : FuncId} {args : Array Value} {w : World} {c : Nat} {v : Value} {e : Int} {R : Ending → World → Prop}
    (h : Calls P f args w (RetC c v e w)) (k : ∀ u : Later w, R (.returned v) (u.world.setCell ⟨c, 0, none⟩ (.int .i64 e))) : Calls P f args w R :=
  h.mono fun _ w' ⟨he, u, hu⟩ => by subst he; subst hu; exact k u
/-- An operation, if nothing was wrong before. -/
def doR (e : Int) (r : Res) : Res := if e = 0 then r else errR e
theorem doR_ok (r : Res) : doR 0 r = r := rfl
theorem doR_bad {e : Int} (r : Res) (h : e ≠ 0) : doR e r = errR e := if_neg h
instance s64_do (e : Int) (r : Res) [h : S64 r.s] : S64 (doR e r).s := by
  unfold doR
  split
  · exact h
  · exact s64_err e
theorem ret_spS {x y : Int} {r : Sp} (h1 : x = r.lo) (h2 : y = r.hi) : Ending.returned (.agg #[.int .i64 x, .int .i64 y]) = .returned (.agg #[.int .i64 r.lo, .int .i64 r.hi]) := by rw [h1, h2]
theorem rKeep_any (c : Nat) (e e2 : Int) (a : Sp) (w : World) (hc : w.cell? ⟨c, 0, none⟩ = some (.int .i64 e)) (hf : w.frozen? ⟨c, 0, none⟩ = false) :
    Calls Tryz.prog 95 #[.pointer (some ⟨c, 0, none⟩), .agg #[.int .i64 a.lo, .int .i64 a.hi], .int .i64 e2] w (RetC c (.agg #[.int .i64 ((doR e ⟨a, e2⟩).s).lo, .int .i64 ((doR e ⟨a, e2⟩).s).hi]) (doR e ⟨a, e2⟩).e w) := by
  have ib : BlockIn w c := BlockIn.of_cell hc
  have hci : HasCell w c 0 := ⟨_, hc⟩
  have Hb := Lib.hid (But.refl hc)
  have Hc := Lib.hid hc
  by_cases he : e = 0
  · subst he
    have HD := Lib.hid (doR_ok ⟨a, e2⟩)
    go_enter Tryz.func95, Tryz.ntmps95
    go_wp2
    refine bodyPost_ret (by (simp [results, Tryz.results95, go_sem] <;> rfl)) rfl ?_
    refine ⟨ret_spS (by rw [HD.out]) (by rw [HD.out]), But.out (by repeat (first | with_reducible exact Hb.out | with_reducible apply But.alloc | with_reducible apply But.later | with_reducible apply But.drew | with_reducible apply But.put | with_reducible apply But.store)) Hc.out ?_⟩
    rw [HD.out]
    go_simp
  · have he' : (e != 0) = true := by simp [he]
    have HD := Lib.hid (doR_bad ⟨a, e2⟩ he)
    clear he
    go_enter Tryz.func95, Tryz.ntmps95
    go_wp2
    refine bodyPost_ret (by (simp [results, Tryz.results95, go_sem] <;> rfl)) rfl ?_
    refine ⟨ret_spS (by rw [HD.out]; rfl) (by rw [HD.out]; rfl), But.out (by repeat (first | with_reducible exact Hb.out | with_reducible apply But.alloc | with_reducible apply But.later | with_reducible apply But.drew | with_reducible apply But.put | with_reducible apply But.store)) Hc.out ?_⟩
    rw [HD.out]
    show _ = some (Value.int .i64 e)
    go_simp
end Go.Proofs.YtochpnomfedhoaaGreat
