/-
  Contracts: span.fold.
-/
import Derived.Test.YtochpnomfedhoaaGreatIter
namespace Go.Proofs.YtochpnomfedhoaaGreat
open Go.RowKit Go.Shelf
set_option maxRecDepth 100000
set_option maxHeartbeats 2000000
attribute [local go_sem] Oper.semAt_some

/-- Cells of one's own. -/
def Cells (W : World) (l : List (Nat × Nat × Value)) : Prop := ∀ p ∈ l, W.cell? ⟨p.1, p.2.1, none⟩ = some p.2.2 ∧ W.frozen? ⟨p.1, p.2.1, none⟩ = false
theorem Cells.nil (W : World) : Cells W [] := fun p h => by simp at h
theorem Cells.cons {W : World} {b i : Nat} {v : Value} {l : List (Nat × Nat × Value)} (h1 : W.cell? ⟨b, i, none⟩ = some v) (h2 : W.frozen? ⟨b, i, none⟩ = false) (h : Cells W l) : Cells W ((b, i, v) :: l) := by
  intro p hp
  rcases List.mem_cons.1 hp with rfl | hp
  · exact ⟨h1, h2⟩
  · exact h p hp
theorem Cells.head {W : World} {b i : Nat} {v : Value} {l : List (Nat × Nat × Value)} (h : Cells W ((b, i, v) :: l)) : (W.cell? ⟨b, i, none⟩ = some v ∧ W.frozen? ⟨b, i, none⟩ = false) ∧ Cells W l :=
  ⟨h (b, i, v) (by simp), fun p hp => h p (by simp [hp])⟩
theorem Cells.kept {W W' : World} {row : Option Nat} {l : List (Nat × Nat × Value)} (h : Cells W l) (hg : W.grownBy W' row) (hr : ∀ r, row = some r → ∃ o : Obj, W.heap[r]? = some o ∧ o.isCells = false) : Cells W' l := by
  intro p hp
  obtain ⟨h1, h2⟩ := h p hp
  exact ⟨cell_kept h1 hg hr, (frozen_kept h1 hg hr).trans h2⟩
theorem ownFrom_cells {β τ : Type} {B n₀ : Nat} {w₀ : World} (hn : n₀ ≤ w₀.heap.size) (hB : n₀ ≤ B) (Q : β → τ → Prop) (l : β → τ → List (Nat × Nat × Value)) : OwnFrom B (fun s W => ∃ t, Q s t ∧ Cells W (l s t) ∧ Below n₀ w₀ W) := by
  intro s W W' row ⟨t, hq, hc, hb⟩ hg hr
  exact ⟨t, hq, hc.kept hg (fun r e => (hr r e).2), ownFrom_below (β := Unit) hn hB () W W' row hb hg hr⟩
theorem ownFrom_cells' {τ : Type} {B : Nat} (Q : τ → Prop) (l : τ → List (Nat × Nat × Value)) : OwnFrom B (fun (_ : Unit) W => ∃ t, Q t ∧ Cells W (l t)) := by
  intro s W W' row ⟨t, hq, hc⟩ hg hr
  exact ⟨t, hq, hc.kept hg (fun r e => (hr r e).2)⟩
theorem keeps_alloc {a w : World} {o : Obj} (h : KeepsOthers a w) : KeepsOthers a (w.alloc o) := h.trans (KeepsOthers.alloc _ _)
theorem keeps_setCell {a w : World} {p : Addr} {v : Value} (h : KeepsOthers a w) : KeepsOthers a (w.setCell p v) := h.trans (KeepsOthers.setCell _ _ _)
theorem keeps_drew {a w : World} (h : KeepsOthers a w) : KeepsOthers a w.drew := h.trans (KeepsOthers.drew _)
theorem keeps_later {a w : World} {u : Later w} (h : KeepsOthers a w) : KeepsOthers a u.world :=
  h.trans ⟨Below.size u.grew, fun k _ hk _ => (Below.block u.grew k (Array.getElem?_eq_some_iff.1 hk).1).trans hk⟩
theorem below_between {n : Nat} {w W W' : World} (h1 : Below n w W) (h2 : Below n w W') (h3 : W.heap.size ≤ W'.heap.size) : Below n W W' :=
  ⟨h2.os.trans h1.os.symm, h2.tape.trans h1.tape.symm, h2.output.trans h1.output.symm, h3, fun k hk => (h2.block k hk).trans (h1.block k hk).symm⟩
theorem callIn_later {n l : Nat} {P : Program} {f : FuncId} {args : Array Value} {w : World} {v : Value} {R : Ending → World → Prop}
    (h : Calls P f args w fun e w' => e = .returned v ∧ Grew w w') (k : ∀ u : Later w, R (.returned v) u.world) : CallsIn (Fence.wide.inRound l) n P f args w R :=
  CallsIn.inRound l (callsIn_wide.2 (h.mono fun _ w' ⟨he, hg⟩ => by subst he; exact k ⟨w', hg⟩))
theorem callIn_later0 {n : Nat} {P : Program} {f : FuncId} {args : Array Value} {w : World} {v : Value} {R : Ending → World → Prop}
    (h : Calls P f args w fun e w' => e = .returned v ∧ Grew w w') (k : ∀ u : Later w, R (.returned v) u.world) : CallsIn Fence.wide n P f args w R :=
  callsIn_wide.2 (h.mono fun _ w' ⟨he, hg⟩ => by subst he; exact k ⟨w', hg⟩)
/-- The terms of what has come. -/
def valsOf (pre : List (Nat × Sx)) : List Sp := pre.map fun p => p.2.1
theorem valsOf_all (L : List Sx) : valsOf (upto (nth L) L.length) = L.map fun x => x.1 := by
  apply List.ext_getElem
  · simp [valsOf, upto]
  · intro i h1 h2
    simp [valsOf, upto] at h1
    simp [valsOf, upto, h1]
theorem valsOf_part (L : List Sx) (k : Nat) (hk : k ≤ L.length) : valsOf (upto (nth L) k) ++ ((L.map fun x => x.1).drop k) = L.map fun x => x.1 := by
  have : valsOf (upto (nth L) k) = (L.map fun x => x.1).take k := by
    apply List.ext_getElem
    · simp [valsOf, upto]; omega
    · intro i h1 h2
      simp [valsOf, upto] at h1
      have h3 : i < L.length := by omega
      simp [valsOf, upto, h3]
  rw [this, List.take_append_drop]
theorem foldR_snoc {α : Type} (f : α → Res) (s : Sp) (l : List α) (x : α) : foldR f s (l ++ [x]) = if (foldR f s l).e = 0 then foldR f (foldR f s l).s [x] else foldR f s l := by
  induction l generalizing s with
  | nil => rfl
  | cons y l ih =>
    simp only [List.cons_append, foldR]
    split
    · split
      · exact ih _
      · rw [if_neg (by assumption)]
    · rw [if_neg (by assumption)]
theorem foldR_err {α : Type} (f : α → Res) (s : Sp) (l m : List α) (h : (foldR f s l).e ≠ 0) : foldR f s (l ++ m) = foldR f s l := by
  induction l generalizing s with
  | nil => exact absurd rfl h
  | cons y l ih =>
    simp only [List.cons_append, foldR] at h ⊢
    split
    · rename_i h1
      rw [if_pos h1] at h
      split
      · rename_i h2
        rw [if_pos h2] at h
        exact ih _ h
      · rfl
    · rfl
/-- What is asked of a term: called in any later world it hands back what f computes. -/
def TermOk (g : Nat) (lb : Array Value) (f : Sp → Res) (w0 : World) : Prop := ∀ (w : World) (x : Sx), Grew w0 w → Calls Tryz.prog g (#[.agg #[.int .i64 x.1.lo, .int .i64 x.1.hi]] ++ lb) w fun e w' => e = .returned (.tuple #[.agg #[.int .i64 (f x.1).s.lo, .int .i64 (f x.1).s.hi], .int .i64 (f x.1).e]) ∧ Grew w w'
theorem fold_any (f : Sp → Res) (hfs : ∀ x, S64 x → S64 (f x).s) (g : Nat) (lb : Array Value) (eg : ∀ args w, (callFunc g args).run Tryz.prog w = .ok (.enter g args) w) (L : List Sx) (Bs : Nat) (v : Value) (w : World)
    (hBs : w.cell? ⟨Bs, 0, none⟩ = some v) (hsl : SlAt w v L.length (L.flatMap Sx.cells)) (hterm : TermOk g lb f w) :
    Calls Tryz.prog 97 #[.func (.func 133) #[] #[.pointer (some ⟨Bs, 0, none⟩)], .func (.func g) #[] lb] w fun e w' => e = .returned (.tuple #[.agg #[.int .i64 (foldR f z0 (L.map fun x => x.1)).s.lo, .int .i64 (foldR f z0 (L.map fun x => x.1)).s.hi], .int .i64 (foldR f z0 (L.map fun x => x.1)).e]) ∧ Grew w w' := by
  have hseq := Lib.hid (all_stops 5 (by omega) Bs v L w hBs hsl)
  have Ht := Lib.hid hterm
  clear hterm hBs hsl
  refine (callsIn_wide (n := 6)).1 ?_
  refine callsIn_of_wp_marks Tryz.func97 rfl trivial ?_ rfl
  simp only [Tryz.ntmps97, List.size_toArray, List.length_cons, List.length_nil, Nat.reduceAdd, Nat.reduceSub, Array.replicate_succ, Array.replicate_zero, List.push_toArray, List.append_toArray, List.nil_append, List.cons_append]
  gi_wp2
  have hB0 : Below w.heap.size w ((((w.alloc (.cells #[.func (.func g) #[] lb] 131)).alloc (.cells #[.int .i64 0, .int .i64 0] 24)).alloc (.cells #[.int .i64 0] 31)).alloc (.cells #[.int .i64 0, .int .i64 0] 24)) := (show Grew w _ from (by repeat (first | with_reducible exact Grew.refl _ | with_reducible apply Grew.alloc | with_reducible apply Grew.later | with_reducible apply Grew.drew | with_reducible apply Grew.store | with_reducible assumption)))
  refine wpIn_rangeFunc_ownH rfl (by omega) (gf := 133) (lb := #[.pointer (some ⟨Bs, 0, none⟩)]) rfl trivial (enters_of Tryz.func133 (by kernel_rfl) rfl)
    hseq.out belowK_t (belowK_b (by simp; omega)) hB0 (fun _ => rfl)
    (fun pre W => ∃ s : Sp, (foldR f z0 (valsOf pre) = ⟨s, 0⟩ ∧ S64 s) ∧ Cells W [(w.heap.size, 0, .func (.func g) #[] lb), (w.heap.size + 1, 0, .int .i64 0), (w.heap.size + 1, 1, .int .i64 0), (w.heap.size + 1 + 1, 0, .int .i64 0), (w.heap.size + 1 + 1 + 1, 0, .int .i64 s.lo), (w.heap.size + 1 + 1 + 1, 1, .int .i64 s.hi)] ∧ Below w.heap.size w W)
    (fun c pre W => ∃ t : Int, (c = .ret ∧ t ≠ 0 ∧ foldR f z0 (valsOf pre) = errR t) ∧ Cells W [(w.heap.size + 1, 0, .int .i64 0), (w.heap.size + 1, 1, .int .i64 0), (w.heap.size + 1 + 1, 0, .int .i64 t)] ∧ Below w.heap.size w W)
    (ownFrom_cells (Nat.le_refl _) (by simp; omega) (fun pre s => foldR f z0 (valsOf pre) = ⟨s, 0⟩ ∧ S64 s) (fun _ s => [(w.heap.size, 0, .func (.func g) #[] lb), (w.heap.size + 1, 0, .int .i64 0), (w.heap.size + 1, 1, .int .i64 0), (w.heap.size + 1 + 1, 0, .int .i64 0), (w.heap.size + 1 + 1 + 1, 0, .int .i64 s.lo), (w.heap.size + 1 + 1 + 1, 1, .int .i64 s.hi)]))
    (fun c => ownFrom_cells (Nat.le_refl _) (by simp; omega) (fun pre t => c = .ret ∧ t ≠ 0 ∧ foldR f z0 (valsOf pre) = errR t) (fun _ t => [(w.heap.size + 1, 0, .int .i64 0), (w.heap.size + 1, 1, .int .i64 0), (w.heap.size + 1 + 1, 0, .int .i64 t)]))
    ⟨z0, ⟨rfl, inferInstance⟩, Cells.cons (by go_simp) (by go_simp) (Cells.cons (by go_simp) (by go_simp) (Cells.cons (by go_simp) (by go_simp) (Cells.cons (by go_simp) (by go_simp) (Cells.cons (by go_simp) (by go_simp) (Cells.cons (by go_simp) (by go_simp) (Cells.nil _)))))), hB0⟩
    (fun x a' W => ∃ Bx : Nat, (w.heap.size + 1 + 1 + 1 < Bx ∧ a' = { tmps := #[.func (.func 133) #[] #[.pointer (some ⟨Bs, 0, none⟩)], .func (.func g) #[] lb, undef, .pointer (some ⟨w.heap.size, 0, none⟩), .pointer (some ⟨w.heap.size + 1, 0, none⟩), .pointer (some ⟨w.heap.size + 1 + 1, 0, none⟩), .pointer (some ⟨w.heap.size + 1 + 1 + 1, 0, none⟩), undef, .pointer (some ⟨Bx, 0, none⟩), undef, undef,
      .func (.func 133) #[] #[.pointer (some ⟨Bs, 0, none⟩)], .int .i64 (x.1 : Int), .agg #[.int .i64 x.2.1.lo, .int .i64 x.2.1.hi], undef, undef, undef, undef, undef, undef, undef, undef, undef, undef, undef, undef, undef, undef, undef, undef, undef, undef, undef], defers := [] }) ∧ Cells W [(Bx, 0, .int .i64 x.2.1.lo), (Bx, 1, .int .i64 x.2.1.hi)])
    (fun x a' => ownFrom_cells' _ (fun Bx => [(Bx, 0, .int .i64 x.2.1.lo), (Bx, 1, .int .i64 x.2.1.hi)])) ?assign ?body ?done ?stop
  case assign =>
    rintro l pre x W K ⟨s, hs, hc, hB⟩ hK
    have hc0 := hc
    have hsz := hB.size
    have hc' := hc.head
    clear hc
    obtain ⟨⟨hc_0, hcf0⟩, hc⟩ := hc'
    have hci0 : HasCell (W) (w.heap.size) (0) := ⟨_, hc_0⟩
    have hcb0 : BlockIn (W) (w.heap.size) := BlockIn.of_cell hc_0
    have hc' := hc.head
    clear hc
    obtain ⟨⟨hc_1, hcf1⟩, hc⟩ := hc'
    have hci1 : HasCell (W) (w.heap.size + 1) (0) := ⟨_, hc_1⟩
    have hcb1 : BlockIn (W) (w.heap.size + 1) := BlockIn.of_cell hc_1
    have hc' := hc.head
    clear hc
    obtain ⟨⟨hc_2, hcf2⟩, hc⟩ := hc'
    have hci2 : HasCell (W) (w.heap.size + 1) (1) := ⟨_, hc_2⟩
    have hcb2 : BlockIn (W) (w.heap.size + 1) := BlockIn.of_cell hc_2
    have hc' := hc.head
    clear hc
    obtain ⟨⟨hc_3, hcf3⟩, hc⟩ := hc'
    have hci3 : HasCell (W) (w.heap.size + 1 + 1) (0) := ⟨_, hc_3⟩
    have hcb3 : BlockIn (W) (w.heap.size + 1 + 1) := BlockIn.of_cell hc_3
    have hc' := hc.head
    clear hc
    obtain ⟨⟨hc_4, hcf4⟩, hc⟩ := hc'
    have hci4 : HasCell (W) (w.heap.size + 1 + 1 + 1) (0) := ⟨_, hc_4⟩
    have hcb4 : BlockIn (W) (w.heap.size + 1 + 1 + 1) := BlockIn.of_cell hc_4
    have hc' := hc.head
    clear hc
    obtain ⟨⟨hc_5, hcf5⟩, hc⟩ := hc'
    have hci5 : HasCell (W) (w.heap.size + 1 + 1 + 1) (1) := ⟨_, hc_5⟩
    have hcb5 : BlockIn (W) (w.heap.size + 1 + 1 + 1) := BlockIn.of_cell hc_5
    clear hc
    have hb4 := hcb5.lt
    unfold encIS
    gi_wp2
    refine hK _ _ ((KeepsOthers.alloc _ _).from _) ((Below.refl _ W).alloc hsz _) ⟨s, hs, ?_, hB.alloc hsz _⟩ ⟨W.heap.size, ⟨hb4, rfl⟩, ?_⟩
    · exact Cells.cons (by go_simp) (by go_simp) (Cells.cons (by go_simp) (by go_simp) (Cells.cons (by go_simp) (by go_simp) (Cells.cons (by go_simp) (by go_simp) (Cells.cons (by go_simp) (by go_simp) (Cells.cons (by go_simp) (by go_simp) (Cells.nil _))))))
    · exact Cells.cons (by go_simp) (by go_simp) (Cells.cons (by go_simp) (by go_simp) (Cells.nil _))
  case body =>
    rintro l pre x a' W hl ⟨r, hr⟩ ⟨s, ⟨hs1, hs2⟩, hc, hB⟩ ⟨Bx, ⟨hBx, rfl⟩, hd⟩ hlt
    have hsz := hB.size
    have hc0 := hc
    have hc' := hc.head
    clear hc
    obtain ⟨⟨hc_0, hcf0⟩, hc⟩ := hc'
    have hci0 : HasCell (W) (w.heap.size) (0) := ⟨_, hc_0⟩
    have hcb0 : BlockIn (W) (w.heap.size) := BlockIn.of_cell hc_0
    have hc' := hc.head
    clear hc
    obtain ⟨⟨hc_1, hcf1⟩, hc⟩ := hc'
    have hci1 : HasCell (W) (w.heap.size + 1) (0) := ⟨_, hc_1⟩
    have hcb1 : BlockIn (W) (w.heap.size + 1) := BlockIn.of_cell hc_1
    have hc' := hc.head
    clear hc
    obtain ⟨⟨hc_2, hcf2⟩, hc⟩ := hc'
    have hci2 : HasCell (W) (w.heap.size + 1) (1) := ⟨_, hc_2⟩
    have hcb2 : BlockIn (W) (w.heap.size + 1) := BlockIn.of_cell hc_2
    have hc' := hc.head
    clear hc
    obtain ⟨⟨hc_3, hcf3⟩, hc⟩ := hc'
    have hci3 : HasCell (W) (w.heap.size + 1 + 1) (0) := ⟨_, hc_3⟩
    have hcb3 : BlockIn (W) (w.heap.size + 1 + 1) := BlockIn.of_cell hc_3
    have hc' := hc.head
    clear hc
    obtain ⟨⟨hc_4, hcf4⟩, hc⟩ := hc'
    have hci4 : HasCell (W) (w.heap.size + 1 + 1 + 1) (0) := ⟨_, hc_4⟩
    have hcb4 : BlockIn (W) (w.heap.size + 1 + 1 + 1) := BlockIn.of_cell hc_4
    have hc' := hc.head
    clear hc
    obtain ⟨⟨hc_5, hcf5⟩, hc⟩ := hc'
    have hci5 : HasCell (W) (w.heap.size + 1 + 1 + 1) (1) := ⟨_, hc_5⟩
    have hcb5 : BlockIn (W) (w.heap.size + 1 + 1 + 1) := BlockIn.of_cell hc_5
    clear hc
    have hd' := hd.head
    clear hd
    obtain ⟨⟨hd_0, hdf0⟩, hd⟩ := hd'
    have hdi0 : HasCell (W) (Bx) (0) := ⟨_, hd_0⟩
    have hdb0 : BlockIn (W) (Bx) := BlockIn.of_cell hd_0
    have hd' := hd.head
    clear hd
    obtain ⟨⟨hd_1, hdf1⟩, hd⟩ := hd'
    have hdi1 : HasCell (W) (Bx) (1) := ⟨_, hd_1⟩
    have hdb1 : BlockIn (W) (Bx) := BlockIn.of_cell hd_1
    clear hd
    have : Apart (w.heap.size) (w.heap.size + 1) := ⟨by omega⟩
    have : Apart (w.heap.size) (w.heap.size + 1 + 1) := ⟨by omega⟩
    have : Apart (w.heap.size) (w.heap.size + 1 + 1 + 1) := ⟨by omega⟩
    have : Apart (w.heap.size) (Bx) := ⟨by omega⟩
    have : Apart (w.heap.size + 1) (w.heap.size) := ⟨by omega⟩
    have : Apart (w.heap.size + 1) (w.heap.size + 1 + 1) := ⟨by omega⟩
    have : Apart (w.heap.size + 1) (w.heap.size + 1 + 1 + 1) := ⟨by omega⟩
    have : Apart (w.heap.size + 1) (Bx) := ⟨by omega⟩
    have : Apart (w.heap.size + 1 + 1) (w.heap.size) := ⟨by omega⟩
    have : Apart (w.heap.size + 1 + 1) (w.heap.size + 1) := ⟨by omega⟩
    have : Apart (w.heap.size + 1 + 1) (w.heap.size + 1 + 1 + 1) := ⟨by omega⟩
    have : Apart (w.heap.size + 1 + 1) (Bx) := ⟨by omega⟩
    have : Apart (w.heap.size + 1 + 1 + 1) (w.heap.size) := ⟨by omega⟩
    have : Apart (w.heap.size + 1 + 1 + 1) (w.heap.size + 1) := ⟨by omega⟩
    have : Apart (w.heap.size + 1 + 1 + 1) (w.heap.size + 1 + 1) := ⟨by omega⟩
    have : Apart (w.heap.size + 1 + 1 + 1) (Bx) := ⟨by omega⟩
    have : Apart (Bx) (w.heap.size) := ⟨by omega⟩
    have : Apart (Bx) (w.heap.size + 1) := ⟨by omega⟩
    have : Apart (Bx) (w.heap.size + 1 + 1) := ⟨by omega⟩
    have : Apart (Bx) (w.heap.size + 1 + 1 + 1) := ⟨by omega⟩
    have hx := x.2.2
    have hfx := hfs x.2.1 hx
    have Hs1 := Lib.hid hs1
    have hn : (1 : Nat) ≤ 4 := by omega
    clear hs1
    have hB' : Grew w W := hB
    have hv : valsOf (pre ++ [x]) = valsOf pre ++ [x.2.1] := by simp [valsOf]
    have Hv := Lib.hid hv
    clear hv
    by_cases c1 : (f x.2.1).e = 0
    · have C1 := Lib.hid c1
      have c1' : ((f x.2.1).e == 0) = true := by simp [c1]
      clear c1
      by_cases c2 : (addR s (f x.2.1).s).e = 0
      · have C2 := Lib.hid c2
        have c2' : ((addR s (f x.2.1).s).e != 0) = false := by simp [c2]
        clear c2
        gi_wp2_with (first | (refine ⟨trivial, ?_⟩; gi_at_call 131; refine callIn_later (spAdd_any _ _ _) ?_; intro u) | (refine ⟨trivial, ?_⟩; refine callIn_later (Ht.out W x.2 hB') ?_; intro u))
        refine ⟨KeepsOthers.from (by repeat (first | with_reducible exact KeepsOthers.refl _ | with_reducible apply keeps_alloc | with_reducible apply keeps_later | with_reducible apply keeps_setCell | with_reducible apply keeps_drew)) _, below_between hB (show Grew w _ from (by repeat (first | with_reducible exact Grew.refl _ | with_reducible apply Grew.alloc | with_reducible apply Grew.later | with_reducible apply Grew.drew | with_reducible apply Grew.store | with_reducible assumption))) (KeepsOthers.size (by repeat (first | with_reducible exact KeepsOthers.refl _ | with_reducible apply keeps_alloc | with_reducible apply keeps_later | with_reducible apply keeps_setCell | with_reducible apply keeps_drew))), (addR s (f x.2.1).s).s, ⟨?_, inferInstance⟩, ?_, (show Grew w _ from (by repeat (first | with_reducible exact Grew.refl _ | with_reducible apply Grew.alloc | with_reducible apply Grew.later | with_reducible apply Grew.drew | with_reducible apply Grew.store | with_reducible assumption)))⟩
        · rw [Hv.out, foldR_snoc, Hs1.out, if_pos rfl]
          simp only [foldR, C1.out, C2.out, if_true]
        · exact (Cells.cons (by go_simp) (by go_simp) (Cells.cons (by go_simp) (by go_simp) (Cells.cons (by go_simp) (by go_simp) (Cells.cons (by go_simp) (by go_simp) (Cells.cons (by go_simp) (by go_simp) (Cells.cons (by go_simp) (by go_simp) (Cells.nil _)))))))
      · have C2 := Lib.hid c2
        have c2' : ((addR s (f x.2.1).s).e != 0) = true := by simp [c2]
        clear c2
        gi_wp2_with (first | (refine ⟨trivial, ?_⟩; gi_at_call 131; refine callIn_later (spAdd_any _ _ _) ?_; intro u) | (refine ⟨trivial, ?_⟩; refine callIn_later (Ht.out W x.2 hB') ?_; intro u))
        refine ⟨KeepsOthers.from (by repeat (first | with_reducible exact KeepsOthers.refl _ | with_reducible apply keeps_alloc | with_reducible apply keeps_later | with_reducible apply keeps_setCell | with_reducible apply keeps_drew)) _, (addR s (f x.2.1).s).e, ⟨rfl, C2.out, ?_⟩, ?_, (show Grew w _ from (by repeat (first | with_reducible exact Grew.refl _ | with_reducible apply Grew.alloc | with_reducible apply Grew.later | with_reducible apply Grew.drew | with_reducible apply Grew.store | with_reducible assumption)))⟩
        · rw [Hv.out, foldR_snoc, Hs1.out, if_pos rfl]
          simp only [foldR, C1.out, if_neg C2.out, if_true]
        · exact (Cells.cons (by go_simp) (by go_simp) (Cells.cons (by go_simp) (by go_simp) (Cells.cons (by go_simp) (by go_simp) (Cells.nil _))))
    · have C1 := Lib.hid c1
      have c1' : ((f x.2.1).e == 0) = false := by simp [c1]
      have c1'' : ((f x.2.1).e != 0) = true := by simp [c1]
      clear c1
      gi_wp2_with (first | (refine ⟨trivial, ?_⟩; gi_at_call 131; refine callIn_later (spAdd_any _ _ _) ?_; intro u) | (refine ⟨trivial, ?_⟩; refine callIn_later (Ht.out W x.2 hB') ?_; intro u))
      refine ⟨KeepsOthers.from (by repeat (first | with_reducible exact KeepsOthers.refl _ | with_reducible apply keeps_alloc | with_reducible apply keeps_later | with_reducible apply keeps_setCell | with_reducible apply keeps_drew)) _, (f x.2.1).e, ⟨rfl, C1.out, ?_⟩, ?_, (show Grew w _ from (by repeat (first | with_reducible exact Grew.refl _ | with_reducible apply Grew.alloc | with_reducible apply Grew.later | with_reducible apply Grew.drew | with_reducible apply Grew.store | with_reducible assumption)))⟩
      · rw [Hv.out, foldR_snoc, Hs1.out, if_pos rfl]
        simp only [foldR, if_neg C1.out]
      · exact (Cells.cons (by go_simp) (by go_simp) (Cells.cons (by go_simp) (by go_simp) (Cells.cons (by go_simp) (by go_simp) (Cells.nil _))))
  case done =>
    rintro D ys W hD rfl ⟨s, ⟨hs1, hs2⟩, hc, hB⟩ hK
    have hsz := hB.size
    have hB' : Grew w W := hB
    have hD' : w.heap.size + 1 + 1 + 1 + 1 ≤ D := by simpa using hD
    have hc' := hc.head
    clear hc
    obtain ⟨⟨hc_0, hcf0⟩, hc⟩ := hc'
    have hci0 : HasCell (W) (w.heap.size) (0) := ⟨_, hc_0⟩
    have hcb0 : BlockIn (W) (w.heap.size) := BlockIn.of_cell hc_0
    have hc' := hc.head
    clear hc
    obtain ⟨⟨hc_1, hcf1⟩, hc⟩ := hc'
    have hci1 : HasCell (W) (w.heap.size + 1) (0) := ⟨_, hc_1⟩
    have hcb1 : BlockIn (W) (w.heap.size + 1) := BlockIn.of_cell hc_1
    have hc' := hc.head
    clear hc
    obtain ⟨⟨hc_2, hcf2⟩, hc⟩ := hc'
    have hci2 : HasCell (W) (w.heap.size + 1) (1) := ⟨_, hc_2⟩
    have hcb2 : BlockIn (W) (w.heap.size + 1) := BlockIn.of_cell hc_2
    have hc' := hc.head
    clear hc
    obtain ⟨⟨hc_3, hcf3⟩, hc⟩ := hc'
    have hci3 : HasCell (W) (w.heap.size + 1 + 1) (0) := ⟨_, hc_3⟩
    have hcb3 : BlockIn (W) (w.heap.size + 1 + 1) := BlockIn.of_cell hc_3
    have hc' := hc.head
    clear hc
    obtain ⟨⟨hc_4, hcf4⟩, hc⟩ := hc'
    have hci4 : HasCell (W) (w.heap.size + 1 + 1 + 1) (0) := ⟨_, hc_4⟩
    have hcb4 : BlockIn (W) (w.heap.size + 1 + 1 + 1) := BlockIn.of_cell hc_4
    have hc' := hc.head
    clear hc
    obtain ⟨⟨hc_5, hcf5⟩, hc⟩ := hc'
    have hci5 : HasCell (W) (w.heap.size + 1 + 1 + 1) (1) := ⟨_, hc_5⟩
    have hcb5 : BlockIn (W) (w.heap.size + 1 + 1 + 1) := BlockIn.of_cell hc_5
    clear hc
    have : Apart (w.heap.size) (w.heap.size + 1) := ⟨by omega⟩
    have : Apart (w.heap.size) (w.heap.size + 1 + 1) := ⟨by omega⟩
    have : Apart (w.heap.size) (w.heap.size + 1 + 1 + 1) := ⟨by omega⟩
    have : Apart (w.heap.size) (D) := ⟨by omega⟩
    have : Apart (w.heap.size + 1) (w.heap.size) := ⟨by omega⟩
    have : Apart (w.heap.size + 1) (w.heap.size + 1 + 1) := ⟨by omega⟩
    have : Apart (w.heap.size + 1) (w.heap.size + 1 + 1 + 1) := ⟨by omega⟩
    have : Apart (w.heap.size + 1) (D) := ⟨by omega⟩
    have : Apart (w.heap.size + 1 + 1) (w.heap.size) := ⟨by omega⟩
    have : Apart (w.heap.size + 1 + 1) (w.heap.size + 1) := ⟨by omega⟩
    have : Apart (w.heap.size + 1 + 1) (w.heap.size + 1 + 1 + 1) := ⟨by omega⟩
    have : Apart (w.heap.size + 1 + 1) (D) := ⟨by omega⟩
    have : Apart (w.heap.size + 1 + 1 + 1) (w.heap.size) := ⟨by omega⟩
    have : Apart (w.heap.size + 1 + 1 + 1) (w.heap.size + 1) := ⟨by omega⟩
    have : Apart (w.heap.size + 1 + 1 + 1) (w.heap.size + 1 + 1) := ⟨by omega⟩
    have : Apart (w.heap.size + 1 + 1 + 1) (D) := ⟨by omega⟩
    have : Apart (D) (w.heap.size) := ⟨by omega⟩
    have : Apart (D) (w.heap.size + 1) := ⟨by omega⟩
    have : Apart (D) (w.heap.size + 1 + 1) := ⟨by omega⟩
    have : Apart (D) (w.heap.size + 1 + 1 + 1) := ⟨by omega⟩
    have Hs1 := Lib.hid hs1
    clear hs1
    have hfin : foldR f z0 (L.map fun x => x.1) = ⟨s, 0⟩ := by rw [← valsOf_all L]; exact Hs1.out
    have k1 : (((W.setCell ⟨w.heap.size + 1, 0, none⟩ (.int .i64 s.lo)).setCell ⟨w.heap.size + 1, 1, none⟩ (.int .i64 s.hi)).setCell ⟨w.heap.size + 1 + 1, 0, none⟩ (.int .i64 0)).cell? ⟨w.heap.size + 1, 0, none⟩ = some (.int .i64 s.lo) := by go_simp
    have k2 : (((W.setCell ⟨w.heap.size + 1, 0, none⟩ (.int .i64 s.lo)).setCell ⟨w.heap.size + 1, 1, none⟩ (.int .i64 s.hi)).setCell ⟨w.heap.size + 1 + 1, 0, none⟩ (.int .i64 0)).cell? ⟨w.heap.size + 1, 1, none⟩ = some (.int .i64 s.hi) := by go_simp
    have k3 : (((W.setCell ⟨w.heap.size + 1, 0, none⟩ (.int .i64 s.lo)).setCell ⟨w.heap.size + 1, 1, none⟩ (.int .i64 s.hi)).setCell ⟨w.heap.size + 1 + 1, 0, none⟩ (.int .i64 0)).cell? ⟨w.heap.size + 1 + 1, 0, none⟩ = some (.int .i64 0) := by go_simp
    have kK : (((W.setCell ⟨w.heap.size + 1, 0, none⟩ (.int .i64 s.lo)).setCell ⟨w.heap.size + 1, 1, none⟩ (.int .i64 s.hi)).setCell ⟨w.heap.size + 1 + 1, 0, none⟩ (.int .i64 0)).heap[D]? = some (.deferred (some [])) := KeepsOthers.same (W := W) (by repeat (first | with_reducible exact KeepsOthers.refl _ | with_reducible apply keeps_alloc | with_reducible apply keeps_later | with_reducible apply keeps_setCell | with_reducible apply keeps_drew)) D _ hK rfl
    have kB : Grew w (((W.setCell ⟨w.heap.size + 1, 0, none⟩ (.int .i64 s.lo)).setCell ⟨w.heap.size + 1, 1, none⟩ (.int .i64 s.hi)).setCell ⟨w.heap.size + 1 + 1, 0, none⟩ (.int .i64 0)) := (by repeat (first | with_reducible exact Grew.refl _ | with_reducible apply Grew.alloc | with_reducible apply Grew.later | with_reducible apply Grew.drew | with_reducible apply Grew.store | with_reducible assumption))
    gi_wp2
    generalize (((W.setCell ⟨w.heap.size + 1, 0, none⟩ (.int .i64 s.lo)).setCell ⟨w.heap.size + 1, 1, none⟩ (.int .i64 s.hi)).setCell ⟨w.heap.size + 1 + 1, 0, none⟩ (.int .i64 0)) = W2 at *
    have q1 := cell_kept k1 (grownBy_putObj' _ D (.deferred none)) (fun r e => by cases e; exact ⟨_, kK, rfl⟩)
    have q2 := cell_kept k2 (grownBy_putObj' _ D (.deferred none)) (fun r e => by cases e; exact ⟨_, kK, rfl⟩)
    have q3 := cell_kept k3 (grownBy_putObj' _ D (.deferred none)) (fun r e => by cases e; exact ⟨_, kK, rfl⟩)
    refine ⟨by simp, .inl ⟨_, _, rfl, run_takeDeferred kK, ?_⟩⟩
    rw [hfin]
    refine ⟨.tuple #[.agg #[.int .i64 s.lo, .int .i64 s.hi], .int .i64 0], ?_, rfl, Below.trans kB (belowK_b (w := w) (Nat.le_refl _) W2 D _ _ (by omega) kK rfl rfl)⟩
    simp [results, Tryz.results97, go_sem, q1, q2, q3]
  case stop =>
    rintro D c pre W hD ⟨k, hk, rfl⟩ ⟨t, ⟨rfl, ht, he⟩, hc, hB⟩ hK
    have hsz := hB.size
    have hD' : w.heap.size + 1 + 1 + 1 + 1 ≤ D := by simpa using hD
    have hc' := hc.head
    clear hc
    obtain ⟨⟨hc_0, hcf0⟩, hc⟩ := hc'
    have hci0 : HasCell (W) (w.heap.size + 1) (0) := ⟨_, hc_0⟩
    have hcb0 : BlockIn (W) (w.heap.size + 1) := BlockIn.of_cell hc_0
    have hc' := hc.head
    clear hc
    obtain ⟨⟨hc_1, hcf1⟩, hc⟩ := hc'
    have hci1 : HasCell (W) (w.heap.size + 1) (1) := ⟨_, hc_1⟩
    have hcb1 : BlockIn (W) (w.heap.size + 1) := BlockIn.of_cell hc_1
    have hc' := hc.head
    clear hc
    obtain ⟨⟨hc_2, hcf2⟩, hc⟩ := hc'
    have hci2 : HasCell (W) (w.heap.size + 1 + 1) (0) := ⟨_, hc_2⟩
    have hcb2 : BlockIn (W) (w.heap.size + 1 + 1) := BlockIn.of_cell hc_2
    clear hc
    have : Apart (w.heap.size) (w.heap.size + 1) := ⟨by omega⟩
    have : Apart (w.heap.size) (w.heap.size + 1 + 1) := ⟨by omega⟩
    have : Apart (w.heap.size) (w.heap.size + 1 + 1 + 1) := ⟨by omega⟩
    have : Apart (w.heap.size) (D) := ⟨by omega⟩
    have : Apart (w.heap.size + 1) (w.heap.size) := ⟨by omega⟩
    have : Apart (w.heap.size + 1) (w.heap.size + 1 + 1) := ⟨by omega⟩
    have : Apart (w.heap.size + 1) (w.heap.size + 1 + 1 + 1) := ⟨by omega⟩
    have : Apart (w.heap.size + 1) (D) := ⟨by omega⟩
    have : Apart (w.heap.size + 1 + 1) (w.heap.size) := ⟨by omega⟩
    have : Apart (w.heap.size + 1 + 1) (w.heap.size + 1) := ⟨by omega⟩
    have : Apart (w.heap.size + 1 + 1) (w.heap.size + 1 + 1 + 1) := ⟨by omega⟩
    have : Apart (w.heap.size + 1 + 1) (D) := ⟨by omega⟩
    have : Apart (w.heap.size + 1 + 1 + 1) (w.heap.size) := ⟨by omega⟩
    have : Apart (w.heap.size + 1 + 1 + 1) (w.heap.size + 1) := ⟨by omega⟩
    have : Apart (w.heap.size + 1 + 1 + 1) (w.heap.size + 1 + 1) := ⟨by omega⟩
    have : Apart (w.heap.size + 1 + 1 + 1) (D) := ⟨by omega⟩
    have : Apart (D) (w.heap.size) := ⟨by omega⟩
    have : Apart (D) (w.heap.size + 1) := ⟨by omega⟩
    have : Apart (D) (w.heap.size + 1 + 1) := ⟨by omega⟩
    have : Apart (D) (w.heap.size + 1 + 1 + 1) := ⟨by omega⟩
    have He := Lib.hid he
    clear he
    have hfin : foldR f z0 (L.map fun x => x.1) = ⟨⟨0, 0⟩, t⟩ := by
      rw [← valsOf_part L k hk, foldR_err f z0 _ _ (by rw [He.out]; exact ht), He.out]; rfl
    have k1 := hc_0
    have k2 := hc_1
    have k3 := hc_2
    have kK := hK
    have kB : Grew w W := hB
    gi_wp2
    have q1 := cell_kept k1 (grownBy_putObj' _ D (.deferred none)) (fun r e => by cases e; exact ⟨_, kK, rfl⟩)
    have q2 := cell_kept k2 (grownBy_putObj' _ D (.deferred none)) (fun r e => by cases e; exact ⟨_, kK, rfl⟩)
    have q3 := cell_kept k3 (grownBy_putObj' _ D (.deferred none)) (fun r e => by cases e; exact ⟨_, kK, rfl⟩)
    refine ⟨by simp, .inl ⟨_, _, rfl, run_takeDeferred kK, ?_⟩⟩
    rw [hfin]
    refine ⟨.tuple #[.agg #[.int .i64 0, .int .i64 0], .int .i64 t], ?_, rfl, Below.trans kB (belowK_b (w := w) (Nat.le_refl _) W D _ _ (by omega) kK rfl rfl)⟩
    simp [results, Tryz.results97, go_sem, q1, q2, q3]
end Go.Proofs.YtochpnomfedhoaaGreat
