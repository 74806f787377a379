/-
  Contract: span.fold over pairs of spans.
-/
import Derived.Test.YtochpnomfedhoaaGreatIter2
namespace Go.Proofs.YtochpnomfedhoaaGreat
open Go.RowKit Go.Shelf
set_option maxRecDepth 100000
set_option maxHeartbeats 2000000
attribute [local go_sem] Oper.semAt_some
/-- A pair of spans. -/
abbrev SS := Sp × Sp
def Px.ss (x : Px) : SS := (x.1.1, x.2.1)
/-- The terms of what has come. -/
def valsOf2 (pre : List (Nat × Px)) : List SS := pre.map fun p => p.2.ss
theorem valsOf2_all (L : List Px) : valsOf2 (upto (nthP L) L.length) = L.map Px.ss := by
  apply List.ext_getElem
  · simp [valsOf2, upto]
  · intro i h1 h2
    simp [valsOf2, upto] at h1
    simp [valsOf2, upto, h1]
theorem valsOf2_part (L : List Px) (k : Nat) (hk : k ≤ L.length) : valsOf2 (upto (nthP L) k) ++ ((L.map Px.ss).drop k) = L.map Px.ss := by
  have : valsOf2 (upto (nthP L) k) = (L.map Px.ss).take k := by
    apply List.ext_getElem
    · simp [valsOf2, upto]; omega
    · intro i h1 h2
      simp [valsOf2, upto] at h1
      have h3 : i < L.length := by omega
      simp [valsOf2, upto, h3]
  rw [this, List.take_append_drop]
/-- What is asked of a term: called in any later world it hands back what f computes. -/
def TermOk2 (g : Nat) (lb : Array Value) (f : SS → Res) (w0 : World) : Prop := ∀ (w : World) (x : Px), Grew w0 w → Calls Tryz.prog g (#[.agg #[.int .i64 x.1.1.lo, .int .i64 x.1.1.hi, .int .i64 x.2.1.lo, .int .i64 x.2.1.hi]] ++ lb) w fun e w' => e = .returned (.tuple #[.agg #[.int .i64 (f x.ss).s.lo, .int .i64 (f x.ss).s.hi], .int .i64 (f x.ss).e]) ∧ Grew w w'
theorem fold2_any (f : SS → Res) (hfs : ∀ x, S64 (f x).s) (g : Nat) (lb : Array Value) (eg : ∀ args w, (callFunc g args).run Tryz.prog w = .ok (.enter g args) w) (L : List Px) (Bs : Nat) (v : Value) (w : World)
    (hBs : w.cell? ⟨Bs, 0, none⟩ = some v) (hsl : SlAt w v L.length (L.flatMap Px.cells)) (hterm : TermOk2 g lb f w) :
    Calls Tryz.prog 106 #[.func (.func 147) #[] #[.pointer (some ⟨Bs, 0, none⟩)], .func (.func g) #[] lb] w fun e w' => e = .returned (.tuple #[.agg #[.int .i64 (foldR f z0 (L.map Px.ss)).s.lo, .int .i64 (foldR f z0 (L.map Px.ss)).s.hi], .int .i64 (foldR f z0 (L.map Px.ss)).e]) ∧ Grew w w' := by
  have hseq := Lib.hid (all2_stops 5 (by omega) Bs v L w hBs hsl)
  have Ht := Lib.hid hterm
  clear hterm hBs hsl
  refine (callsIn_wide (n := 6)).1 ?_
  refine callsIn_of_wp_marks Tryz.func106 rfl trivial ?_ rfl
  simp only [Tryz.ntmps106, List.size_toArray, List.length_cons, List.length_nil, Nat.reduceAdd, Nat.reduceSub, Array.replicate_succ, Array.replicate_zero, List.push_toArray, List.append_toArray, List.nil_append, List.cons_append]
  gi_wp2
  have hB0 : Below w.heap.size w ((((w.alloc (.cells #[.func (.func g) #[] lb] 140)).alloc (.cells #[.int .i64 0, .int .i64 0] 24)).alloc (.cells #[.int .i64 0] 31)).alloc (.cells #[.int .i64 0, .int .i64 0] 24)) := (show Grew w _ from (by repeat (first | with_reducible exact Grew.refl _ | with_reducible apply Grew.alloc | with_reducible apply Grew.later | with_reducible apply Grew.drew | with_reducible apply Grew.store | with_reducible assumption)))
  refine wpIn_rangeFunc_ownH rfl (by omega) (gf := 147) (lb := #[.pointer (some ⟨Bs, 0, none⟩)]) rfl trivial (enters_of Tryz.func147 (by kernel_rfl) rfl)
    hseq.out belowK_t (belowK_b (by simp; omega)) hB0 (fun _ => rfl)
    (fun pre W => ∃ s : Sp, (foldR f z0 (valsOf2 pre) = ⟨s, 0⟩ ∧ S64 s) ∧ Cells W [(w.heap.size, 0, .func (.func g) #[] lb), (w.heap.size + 1, 0, .int .i64 0), (w.heap.size + 1, 1, .int .i64 0), (w.heap.size + 1 + 1, 0, .int .i64 0), (w.heap.size + 1 + 1 + 1, 0, .int .i64 s.lo), (w.heap.size + 1 + 1 + 1, 1, .int .i64 s.hi)] ∧ Below w.heap.size w W)
    (fun c pre W => ∃ t : Int, (c = .ret ∧ t ≠ 0 ∧ foldR f z0 (valsOf2 pre) = errR t) ∧ Cells W [(w.heap.size + 1, 0, .int .i64 0), (w.heap.size + 1, 1, .int .i64 0), (w.heap.size + 1 + 1, 0, .int .i64 t)] ∧ Below w.heap.size w W)
    (ownFrom_cells (Nat.le_refl _) (by simp; omega) (fun pre s => foldR f z0 (valsOf2 pre) = ⟨s, 0⟩ ∧ S64 s) (fun _ s => [(w.heap.size, 0, .func (.func g) #[] lb), (w.heap.size + 1, 0, .int .i64 0), (w.heap.size + 1, 1, .int .i64 0), (w.heap.size + 1 + 1, 0, .int .i64 0), (w.heap.size + 1 + 1 + 1, 0, .int .i64 s.lo), (w.heap.size + 1 + 1 + 1, 1, .int .i64 s.hi)]))
    (fun c => ownFrom_cells (Nat.le_refl _) (by simp; omega) (fun pre t => c = .ret ∧ t ≠ 0 ∧ foldR f z0 (valsOf2 pre) = errR t) (fun _ t => [(w.heap.size + 1, 0, .int .i64 0), (w.heap.size + 1, 1, .int .i64 0), (w.heap.size + 1 + 1, 0, .int .i64 t)]))
    ⟨z0, ⟨rfl, inferInstance⟩, Cells.cons (by go_simp) (by go_simp) (Cells.cons (by go_simp) (by go_simp) (Cells.cons (by go_simp) (by go_simp) (Cells.cons (by go_simp) (by go_simp) (Cells.cons (by go_simp) (by go_simp) (Cells.cons (by go_simp) (by go_simp) (Cells.nil _)))))), hB0⟩
    (fun x a' W => ∃ Bx : Nat, (w.heap.size + 1 + 1 + 1 < Bx ∧ a' = { tmps := #[.func (.func 147) #[] #[.pointer (some ⟨Bs, 0, none⟩)], .func (.func g) #[] lb, undef, .pointer (some ⟨w.heap.size, 0, none⟩), .pointer (some ⟨w.heap.size + 1, 0, none⟩), .pointer (some ⟨w.heap.size + 1 + 1, 0, none⟩), .pointer (some ⟨w.heap.size + 1 + 1 + 1, 0, none⟩), undef, .pointer (some ⟨Bx, 0, none⟩), undef, undef,
      .func (.func 147) #[] #[.pointer (some ⟨Bs, 0, none⟩)], .int .i64 (x.1 : Int), .agg #[.int .i64 x.2.1.1.lo, .int .i64 x.2.1.1.hi, .int .i64 x.2.2.1.lo, .int .i64 x.2.2.1.hi], undef, undef, undef, undef, undef, undef, undef, undef, undef, undef, undef, undef, undef, undef, undef, undef, undef, undef, undef], defers := [] }) ∧ Cells W [(Bx, 0, .int .i64 x.2.1.1.lo), (Bx, 1, .int .i64 x.2.1.1.hi), (Bx, 2, .int .i64 x.2.2.1.lo), (Bx, 3, .int .i64 x.2.2.1.hi)])
    (fun x a' => ownFrom_cells' _ (fun Bx => [(Bx, 0, .int .i64 x.2.1.1.lo), (Bx, 1, .int .i64 x.2.1.1.hi), (Bx, 2, .int .i64 x.2.2.1.lo), (Bx, 3, .int .i64 x.2.2.1.hi)])) ?assign ?body ?done ?stop
  case assign =>
    rintro l pre x W K ⟨s, hs, hc, hB⟩ hK
    have hc0 := hc
    have hsz := hB.size
    have hc' := hc.head
    clear hc
    obtain ⟨⟨hc_0, hcf0⟩, hc⟩ := hc'
    have hci0 : HasCell (W) (w.heap.size) (0) := ⟨_, hc_0⟩
    have hcb0 : BlockIn (W) (w.heap.size) := BlockIn.of_cell hc_0
    have hc' := hc.head
    clear hc
    obtain ⟨⟨hc_1, hcf1⟩, hc⟩ := hc'
    have hci1 : HasCell (W) (w.heap.size + 1) (0) := ⟨_, hc_1⟩
    have hcb1 : BlockIn (W) (w.heap.size + 1) := BlockIn.of_cell hc_1
    have hc' := hc.head
    clear hc
    obtain ⟨⟨hc_2, hcf2⟩, hc⟩ := hc'
    have hci2 : HasCell (W) (w.heap.size + 1) (1) := ⟨_, hc_2⟩
    have hcb2 : BlockIn (W) (w.heap.size + 1) := BlockIn.of_cell hc_2
    have hc' := hc.head
    clear hc
    obtain ⟨⟨hc_3, hcf3⟩, hc⟩ := hc'
    have hci3 : HasCell (W) (w.heap.size + 1 + 1) (0) := ⟨_, hc_3⟩
    have hcb3 : BlockIn (W) (w.heap.size + 1 + 1) := BlockIn.of_cell hc_3
    have hc' := hc.head
    clear hc
    obtain ⟨⟨hc_4, hcf4⟩, hc⟩ := hc'
    have hci4 : HasCell (W) (w.heap.size + 1 + 1 + 1) (0) := ⟨_, hc_4⟩
    have hcb4 : BlockIn (W) (w.heap.size + 1 + 1 + 1) := BlockIn.of_cell hc_4
    have hc' := hc.head
    clear hc
    obtain ⟨⟨hc_5, hcf5⟩, hc⟩ := hc'
    have hci5 : HasCell (W) (w.heap.size + 1 + 1 + 1) (1) := ⟨_, hc_5⟩
    have hcb5 : BlockIn (W) (w.heap.size + 1 + 1 + 1) := BlockIn.of_cell hc_5
    clear hc
    have hb4 := hcb5.lt
    unfold encIP
    gi_wp2
    refine hK _ _ ((KeepsOthers.alloc _ _).from _) ((Below.refl _ W).alloc hsz _) ⟨s, hs, ?_, hB.alloc hsz _⟩ ⟨W.heap.size, ⟨hb4, rfl⟩, ?_⟩
    · exact Cells.cons (by go_simp) (by go_simp) (Cells.cons (by go_simp) (by go_simp) (Cells.cons (by go_simp) (by go_simp) (Cells.cons (by go_simp) (by go_simp) (Cells.cons (by go_simp) (by go_simp) (Cells.cons (by go_simp) (by go_simp) (Cells.nil _))))))
    · exact Cells.cons (by go_simp) (by go_simp) (Cells.cons (by go_simp) (by go_simp) (Cells.cons (by go_simp) (by go_simp) (Cells.cons (by go_simp) (by go_simp) (Cells.nil _))))
  case body =>
    rintro l pre x a' W hl ⟨r, hr⟩ ⟨s, ⟨hs1, hs2⟩, hc, hB⟩ ⟨Bx, ⟨hBx, rfl⟩, hd⟩ hlt
    have hsz := hB.size
    have hc0 := hc
    have hc' := hc.head
    clear hc
    obtain ⟨⟨hc_0, hcf0⟩, hc⟩ := hc'
    have hci0 : HasCell (W) (w.heap.size) (0) := ⟨_, hc_0⟩
    have hcb0 : BlockIn (W) (w.heap.size) := BlockIn.of_cell hc_0
    have hc' := hc.head
    clear hc
    obtain ⟨⟨hc_1, hcf1⟩, hc⟩ := hc'
    have hci1 : HasCell (W) (w.heap.size + 1) (0) := ⟨_, hc_1⟩
    have hcb1 : BlockIn (W) (w.heap.size + 1) := BlockIn.of_cell hc_1
    have hc' := hc.head
    clear hc
    obtain ⟨⟨hc_2, hcf2⟩, hc⟩ := hc'
    have hci2 : HasCell (W) (w.heap.size + 1) (1) := ⟨_, hc_2⟩
    have hcb2 : BlockIn (W) (w.heap.size + 1) := BlockIn.of_cell hc_2
    have hc' := hc.head
    clear hc
    obtain ⟨⟨hc_3, hcf3⟩, hc⟩ := hc'
    have hci3 : HasCell (W) (w.heap.size + 1 + 1) (0) := ⟨_, hc_3⟩
    have hcb3 : BlockIn (W) (w.heap.size + 1 + 1) := BlockIn.of_cell hc_3
    have hc' := hc.head
    clear hc
    obtain ⟨⟨hc_4, hcf4⟩, hc⟩ := hc'
    have hci4 : HasCell (W) (w.heap.size + 1 + 1 + 1) (0) := ⟨_, hc_4⟩
    have hcb4 : BlockIn (W) (w.heap.size + 1 + 1 + 1) := BlockIn.of_cell hc_4
    have hc' := hc.head
    clear hc
    obtain ⟨⟨hc_5, hcf5⟩, hc⟩ := hc'
    have hci5 : HasCell (W) (w.heap.size + 1 + 1 + 1) (1) := ⟨_, hc_5⟩
    have hcb5 : BlockIn (W) (w.heap.size + 1 + 1 + 1) := BlockIn.of_cell hc_5
    clear hc
    have hd' := hd.head
    clear hd
    obtain ⟨⟨hd_0, hdf0⟩, hd⟩ := hd'
    have hdi0 : HasCell (W) (Bx) (0) := ⟨_, hd_0⟩
    have hdb0 : BlockIn (W) (Bx) := BlockIn.of_cell hd_0
    have hd' := hd.head
    clear hd
    obtain ⟨⟨hd_1, hdf1⟩, hd⟩ := hd'
    have hdi1 : HasCell (W) (Bx) (1) := ⟨_, hd_1⟩
    have hdb1 : BlockIn (W) (Bx) := BlockIn.of_cell hd_1
    have hd' := hd.head
    clear hd
    obtain ⟨⟨hd_2, hdf2⟩, hd⟩ := hd'
    have hdi2 : HasCell (W) (Bx) (2) := ⟨_, hd_2⟩
    have hdb2 : BlockIn (W) (Bx) := BlockIn.of_cell hd_2
    have hd' := hd.head
    clear hd
    obtain ⟨⟨hd_3, hdf3⟩, hd⟩ := hd'
    have hdi3 : HasCell (W) (Bx) (3) := ⟨_, hd_3⟩
    have hdb3 : BlockIn (W) (Bx) := BlockIn.of_cell hd_3
    clear hd
    have : Apart (w.heap.size) (w.heap.size + 1) := ⟨by omega⟩
    have : Apart (w.heap.size) (w.heap.size + 1 + 1) := ⟨by omega⟩
    have : Apart (w.heap.size) (w.heap.size + 1 + 1 + 1) := ⟨by omega⟩
    have : Apart (w.heap.size) (Bx) := ⟨by omega⟩
    have : Apart (w.heap.size + 1) (w.heap.size) := ⟨by omega⟩
    have : Apart (w.heap.size + 1) (w.heap.size + 1 + 1) := ⟨by omega⟩
    have : Apart (w.heap.size + 1) (w.heap.size + 1 + 1 + 1) := ⟨by omega⟩
    have : Apart (w.heap.size + 1) (Bx) := ⟨by omega⟩
    have : Apart (w.heap.size + 1 + 1) (w.heap.size) := ⟨by omega⟩
    have : Apart (w.heap.size + 1 + 1) (w.heap.size + 1) := ⟨by omega⟩
    have : Apart (w.heap.size + 1 + 1) (w.heap.size + 1 + 1 + 1) := ⟨by omega⟩
    have : Apart (w.heap.size + 1 + 1) (Bx) := ⟨by omega⟩
    have : Apart (w.heap.size + 1 + 1 + 1) (w.heap.size) := ⟨by omega⟩
    have : Apart (w.heap.size + 1 + 1 + 1) (w.heap.size + 1) := ⟨by omega⟩
    have : Apart (w.heap.size + 1 + 1 + 1) (w.heap.size + 1 + 1) := ⟨by omega⟩
    have : Apart (w.heap.size + 1 + 1 + 1) (Bx) := ⟨by omega⟩
    have : Apart (Bx) (w.heap.size) := ⟨by omega⟩
    have : Apart (Bx) (w.heap.size + 1) := ⟨by omega⟩
    have : Apart (Bx) (w.heap.size + 1 + 1) := ⟨by omega⟩
    have : Apart (Bx) (w.heap.size + 1 + 1 + 1) := ⟨by omega⟩
    have hx1 := x.2.1.2
    have hx2 := x.2.2.2
    have hfx := hfs x.2.ss
    have Hs1 := Lib.hid hs1
    have hn : (1 : Nat) ≤ 4 := by omega
    clear hs1
    have hB' : Grew w W := hB
    have hv : valsOf2 (pre ++ [x]) = valsOf2 pre ++ [x.2.ss] := by simp [valsOf2]
    have Hv := Lib.hid hv
    clear hv
    by_cases c1 : (f x.2.ss).e = 0
    · have C1 := Lib.hid c1
      have c1' : ((f x.2.ss).e == 0) = true := by simp [c1]
      clear c1
      by_cases c2 : (addR s (f x.2.ss).s).e = 0
      · have C2 := Lib.hid c2
        have c2' : ((addR s (f x.2.ss).s).e != 0) = false := by simp [c2]
        clear c2
        gi_wp2_with (first | (refine ⟨trivial, ?_⟩; gi_at_call 131; refine callIn_later (spAdd_any _ _ _) ?_; intro u) | (refine ⟨trivial, ?_⟩; refine callIn_later (Ht.out W x.2 hB') ?_; intro u))
        refine ⟨KeepsOthers.from (by repeat (first | with_reducible exact KeepsOthers.refl _ | with_reducible apply keeps_alloc | with_reducible apply keeps_later | with_reducible apply keeps_setCell | with_reducible apply keeps_drew)) _, below_between hB (show Grew w _ from (by repeat (first | with_reducible exact Grew.refl _ | with_reducible apply Grew.alloc | with_reducible apply Grew.later | with_reducible apply Grew.drew | with_reducible apply Grew.store | with_reducible assumption))) (KeepsOthers.size (by repeat (first | with_reducible exact KeepsOthers.refl _ | with_reducible apply keeps_alloc | with_reducible apply keeps_later | with_reducible apply keeps_setCell | with_reducible apply keeps_drew))), (addR s (f x.2.ss).s).s, ⟨?_, inferInstance⟩, ?_, (show Grew w _ from (by repeat (first | with_reducible exact Grew.refl _ | with_reducible apply Grew.alloc | with_reducible apply Grew.later | with_reducible apply Grew.drew | with_reducible apply Grew.store | with_reducible assumption)))⟩
        · rw [Hv.out, foldR_snoc, Hs1.out, if_pos rfl]
          simp only [foldR, C1.out, C2.out, if_true]
        · exact (Cells.cons (by go_simp) (by go_simp) (Cells.cons (by go_simp) (by go_simp) (Cells.cons (by go_simp) (by go_simp) (Cells.cons (by go_simp) (by go_simp) (Cells.cons (by go_simp) (by go_simp) (Cells.cons (by go_simp) (by go_simp) (Cells.nil _)))))))
      · have C2 := Lib.hid c2
        have c2' : ((addR s (f x.2.ss).s).e != 0) = true := by simp [c2]
        clear c2
        gi_wp2_with (first | (refine ⟨trivial, ?_⟩; gi_at_call 131; refine callIn_later (spAdd_any _ _ _) ?_; intro u) | (refine ⟨trivial, ?_⟩; refine callIn_later (Ht.out W x.2 hB') ?_; intro u))
        refine ⟨KeepsOthers.from (by repeat (first | with_reducible exact KeepsOthers.refl _ | with_reducible apply keeps_alloc | with_reducible apply keeps_later | with_reducible apply keeps_setCell | with_reducible apply keeps_drew)) _, (addR s (f x.2.ss).s).e, ⟨rfl, C2.out, ?_⟩, ?_, (show Grew w _ from (by repeat (first | with_reducible exact Grew.refl _ | with_reducible apply Grew.alloc | with_reducible apply Grew.later | with_reducible apply Grew.drew | with_reducible apply Grew.store | with_reducible assumption)))⟩
        · rw [Hv.out, foldR_snoc, Hs1.out, if_pos rfl]
          simp only [foldR, C1.out, if_neg C2.out, if_true]
        · exact (Cells.cons (by go_simp) (by go_simp) (Cells.cons (by go_simp) (by go_simp) (Cells.cons (by go_simp) (by go_simp) (Cells.nil _))))
    · have C1 := Lib.hid c1
      have c1' : ((f x.2.ss).e == 0) = false := by simp [c1]
      have c1'' : ((f x.2.ss).e != 0) = true := by simp [c1]
      clear c1
      gi_wp2_with (first | (refine ⟨trivial, ?_⟩; gi_at_call 131; refine callIn_later (spAdd_any _ _ _) ?_; intro u) | (refine ⟨trivial, ?_⟩; refine callIn_later (Ht.out W x.2 hB') ?_; intro u))
      refine ⟨KeepsOthers.from (by repeat (first | with_reducible exact KeepsOthers.refl _ | with_reducible apply keeps_alloc | with_reducible apply keeps_later | with_reducible apply keeps_setCell | with_reducible apply keeps_drew)) _, (f x.2.ss).e, ⟨rfl, C1.out, ?_⟩, ?_, (show Grew w _ from (by repeat (first | with_reducible exact Grew.refl _ | with_reducible apply Grew.alloc | with_reducible apply Grew.later | with_reducible apply Grew.drew | with_reducible apply Grew.store | with_reducible assumption)))⟩
      · rw [Hv.out, foldR_snoc, Hs1.out, if_pos rfl]
        simp only [foldR, if_neg C1.out]
      · exact (Cells.cons (by go_simp) (by go_simp) (Cells.cons (by go_simp) (by go_simp) (Cells.cons (by go_simp) (by go_simp) (Cells.nil _))))
  case done =>
    rintro D ys W hD rfl ⟨s, ⟨hs1, hs2⟩, hc, hB⟩ hK
    have hsz := hB.size
    have hB' : Grew w W := hB
    have hD' : w.heap.size + 1 + 1 + 1 + 1 ≤ D := by simpa using hD
    have hc' := hc.head
    clear hc
    obtain ⟨⟨hc_0, hcf0⟩, hc⟩ := hc'
    have hci0 : HasCell (W) (w.heap.size) (0) := ⟨_, hc_0⟩
    have hcb0 : BlockIn (W) (w.heap.size) := BlockIn.of_cell hc_0
    have hc' := hc.head
    clear hc
    obtain ⟨⟨hc_1, hcf1⟩, hc⟩ := hc'
    have hci1 : HasCell (W) (w.heap.size + 1) (0) := ⟨_, hc_1⟩
    have hcb1 : BlockIn (W) (w.heap.size + 1) := BlockIn.of_cell hc_1
    have hc' := hc.head
    clear hc
    obtain ⟨⟨hc_2, hcf2⟩, hc⟩ := hc'
    have hci2 : HasCell (W) (w.heap.size + 1) (1) := ⟨_, hc_2⟩
    have hcb2 : BlockIn (W) (w.heap.size + 1) := BlockIn.of_cell hc_2
    have hc' := hc.head
    clear hc
    obtain ⟨⟨hc_3, hcf3⟩, hc⟩ := hc'
    have hci3 : HasCell (W) (w.heap.size + 1 + 1) (0) := ⟨_, hc_3⟩
    have hcb3 : BlockIn (W) (w.heap.size + 1 + 1) := BlockIn.of_cell hc_3
    have hc' := hc.head
    clear hc
    obtain ⟨⟨hc_4, hcf4⟩, hc⟩ := hc'
    have hci4 : HasCell (W) (w.heap.size + 1 + 1 + 1) (0) := ⟨_, hc_4⟩
    have hcb4 : BlockIn (W) (w.heap.size + 1 + 1 + 1) := BlockIn.of_cell hc_4
    have hc' := hc.head
    clear hc
    obtain ⟨⟨hc_5, hcf5⟩, hc⟩ := hc'
    have hci5 : HasCell (W) (w.heap.size + 1 + 1 + 1) (1) := ⟨_, hc_5⟩
    have hcb5 : BlockIn (W) (w.heap.size + 1 + 1 + 1) := BlockIn.of_cell hc_5
    clear hc
    have : Apart (w.heap.size) (w.heap.size + 1) := ⟨by omega⟩
    have : Apart (w.heap.size) (w.heap.size + 1 + 1) := ⟨by omega⟩
    have : Apart (w.heap.size) (w.heap.size + 1 + 1 + 1) := ⟨by omega⟩
    have : Apart (w.heap.size) (D) := ⟨by omega⟩
    have : Apart (w.heap.size + 1) (w.heap.size) := ⟨by omega⟩
    have : Apart (w.heap.size + 1) (w.heap.size + 1 + 1) := ⟨by omega⟩
    have : Apart (w.heap.size + 1) (w.heap.size + 1 + 1 + 1) := ⟨by omega⟩
    have : Apart (w.heap.size + 1) (D) := ⟨by omega⟩
    have : Apart (w.heap.size + 1 + 1) (w.heap.size) := ⟨by omega⟩
    have : Apart (w.heap.size + 1 + 1) (w.heap.size + 1) := ⟨by omega⟩
    have : Apart (w.heap.size + 1 + 1) (w.heap.size + 1 + 1 + 1) := ⟨by omega⟩
    have : Apart (w.heap.size + 1 + 1) (D) := ⟨by omega⟩
    have : Apart (w.heap.size + 1 + 1 + 1) (w.heap.size) := ⟨by omega⟩
    have : Apart (w.heap.size + 1 + 1 + 1) (w.heap.size + 1) := ⟨by omega⟩
    have : Apart (w.heap.size + 1 + 1 + 1) (w.heap.size + 1 + 1) := ⟨by omega⟩
    have : Apart (w.heap.size + 1 + 1 + 1) (D) := ⟨by omega⟩
    have : Apart (D) (w.heap.size) := ⟨by omega⟩
    have : Apart (D) (w.heap.size + 1) := ⟨by omega⟩
    have : Apart (D) (w.heap.size + 1 + 1) := ⟨by omega⟩
    have : Apart (D) (w.heap.size + 1 + 1 + 1) := ⟨by omega⟩
    have Hs1 := Lib.hid hs1
    clear hs1
    have hfin : foldR f z0 (L.map Px.ss) = ⟨s, 0⟩ := by rw [← valsOf2_all L]; exact Hs1.out
    have k1 : (((W.setCell ⟨w.heap.size + 1, 0, none⟩ (.int .i64 s.lo)).setCell ⟨w.heap.size + 1, 1, none⟩ (.int .i64 s.hi)).setCell ⟨w.heap.size + 1 + 1, 0, none⟩ (.int .i64 0)).cell? ⟨w.heap.size + 1, 0, none⟩ = some (.int .i64 s.lo) := by go_simp
    have k2 : (((W.setCell ⟨w.heap.size + 1, 0, none⟩ (.int .i64 s.lo)).setCell ⟨w.heap.size + 1, 1, none⟩ (.int .i64 s.hi)).setCell ⟨w.heap.size + 1 + 1, 0, none⟩ (.int .i64 0)).cell? ⟨w.heap.size + 1, 1, none⟩ = some (.int .i64 s.hi) := by go_simp
    have k3 : (((W.setCell ⟨w.heap.size + 1, 0, none⟩ (.int .i64 s.lo)).setCell ⟨w.heap.size + 1, 1, none⟩ (.int .i64 s.hi)).setCell ⟨w.heap.size + 1 + 1, 0, none⟩ (.int .i64 0)).cell? ⟨w.heap.size + 1 + 1, 0, none⟩ = some (.int .i64 0) := by go_simp
    have kK : (((W.setCell ⟨w.heap.size + 1, 0, none⟩ (.int .i64 s.lo)).setCell ⟨w.heap.size + 1, 1, none⟩ (.int .i64 s.hi)).setCell ⟨w.heap.size + 1 + 1, 0, none⟩ (.int .i64 0)).heap[D]? = some (.deferred (some [])) := KeepsOthers.same (W := W) (by repeat (first | with_reducible exact KeepsOthers.refl _ | with_reducible apply keeps_alloc | with_reducible apply keeps_later | with_reducible apply keeps_setCell | with_reducible apply keeps_drew)) D _ hK rfl
    have kB : Grew w (((W.setCell ⟨w.heap.size + 1, 0, none⟩ (.int .i64 s.lo)).setCell ⟨w.heap.size + 1, 1, none⟩ (.int .i64 s.hi)).setCell ⟨w.heap.size + 1 + 1, 0, none⟩ (.int .i64 0)) := (by repeat (first | with_reducible exact Grew.refl _ | with_reducible apply Grew.alloc | with_reducible apply Grew.later | with_reducible apply Grew.drew | with_reducible apply Grew.store | with_reducible assumption))
    gi_wp2
    generalize (((W.setCell ⟨w.heap.size + 1, 0, none⟩ (.int .i64 s.lo)).setCell ⟨w.heap.size + 1, 1, none⟩ (.int .i64 s.hi)).setCell ⟨w.heap.size + 1 + 1, 0, none⟩ (.int .i64 0)) = W2 at *
    have q1 := cell_kept k1 (grownBy_putObj' _ D (.deferred none)) (fun r e => by cases e; exact ⟨_, kK, rfl⟩)
    have q2 := cell_kept k2 (grownBy_putObj' _ D (.deferred none)) (fun r e => by cases e; exact ⟨_, kK, rfl⟩)
    have q3 := cell_kept k3 (grownBy_putObj' _ D (.deferred none)) (fun r e => by cases e; exact ⟨_, kK, rfl⟩)
    refine ⟨by simp, .inl ⟨_, _, rfl, run_takeDeferred kK, ?_⟩⟩
    rw [hfin]
    refine ⟨.tuple #[.agg #[.int .i64 s.lo, .int .i64 s.hi], .int .i64 0], ?_, rfl, Below.trans kB (belowK_b (w := w) (Nat.le_refl _) W2 D _ _ (by omega) kK rfl rfl)⟩
    simp [results, Tryz.results106, go_sem, q1, q2, q3]
  case stop =>
    rintro D c pre W hD ⟨k, hk, rfl⟩ ⟨t, ⟨rfl, ht, he⟩, hc, hB⟩ hK
    have hsz := hB.size
    have hD' : w.heap.size + 1 + 1 + 1 + 1 ≤ D := by simpa using hD
    have hc' := hc.head
    clear hc
    obtain ⟨⟨hc_0, hcf0⟩, hc⟩ := hc'
    have hci0 : HasCell (W) (w.heap.size + 1) (0) := ⟨_, hc_0⟩
    have hcb0 : BlockIn (W) (w.heap.size + 1) := BlockIn.of_cell hc_0
    have hc' := hc.head
    clear hc
    obtain ⟨⟨hc_1, hcf1⟩, hc⟩ := hc'
    have hci1 : HasCell (W) (w.heap.size + 1) (1) := ⟨_, hc_1⟩
    have hcb1 : BlockIn (W) (w.heap.size + 1) := BlockIn.of_cell hc_1
    have hc' := hc.head
    clear hc
    obtain ⟨⟨hc_2, hcf2⟩, hc⟩ := hc'
    have hci2 : HasCell (W) (w.heap.size + 1 + 1) (0) := ⟨_, hc_2⟩
    have hcb2 : BlockIn (W) (w.heap.size + 1 + 1) := BlockIn.of_cell hc_2
    clear hc
    have : Apart (w.heap.size) (w.heap.size + 1) := ⟨by omega⟩
    have : Apart (w.heap.size) (w.heap.size + 1 + 1) := ⟨by omega⟩
    have : Apart (w.heap.size) (w.heap.size + 1 + 1 + 1) := ⟨by omega⟩
    have : Apart (w.heap.size) (D) := ⟨by omega⟩
    have : Apart (w.heap.size + 1) (w.heap.size) := ⟨by omega⟩
    have : Apart (w.heap.size + 1) (w.heap.size + 1 + 1) := ⟨by omega⟩
    have : Apart (w.heap.size + 1) (w.heap.size + 1 + 1 + 1) := ⟨by omega⟩
    have : Apart (w.heap.size + 1) (D) := ⟨by omega⟩
    have : Apart (w.heap.size + 1 + 1) (w.heap.size) := ⟨by omega⟩
    have : Apart (w.heap.size + 1 + 1) (w.heap.size + 1) := ⟨by omega⟩
    have : Apart (w.heap.size + 1 + 1) (w.heap.size + 1 + 1 + 1) := ⟨by omega⟩
    have : Apart (w.heap.size + 1 + 1) (D) := ⟨by omega⟩
    have : Apart (w.heap.size + 1 + 1 + 1) (w.heap.size) := ⟨by omega⟩
    have : Apart (w.heap.size + 1 + 1 + 1) (w.heap.size + 1) := ⟨by omega⟩
    have : Apart (w.heap.size + 1 + 1 + 1) (w.heap.size + 1 + 1) := ⟨by omega⟩
    have : Apart (w.heap.size + 1 + 1 + 1) (D) := ⟨by omega⟩
    have : Apart (D) (w.heap.size) := ⟨by omega⟩
    have : Apart (D) (w.heap.size + 1) := ⟨by omega⟩
    have : Apart (D) (w.heap.size + 1 + 1) := ⟨by omega⟩
    have : Apart (D) (w.heap.size + 1 + 1 + 1) := ⟨by omega⟩
    have He := Lib.hid he
    clear he
    have hfin : foldR f z0 (L.map Px.ss) = ⟨⟨0, 0⟩, t⟩ := by
      rw [← valsOf2_part L k hk, foldR_err f z0 _ _ (by rw [He.out]; exact ht), He.out]; rfl
    have k1 := hc_0
    have k2 := hc_1
    have k3 := hc_2
    have kK := hK
    have kB : Grew w W := hB
    gi_wp2
    have q1 := cell_kept k1 (grownBy_putObj' _ D (.deferred none)) (fun r e => by cases e; exact ⟨_, kK, rfl⟩)
    have q2 := cell_kept k2 (grownBy_putObj' _ D (.deferred none)) (fun r e => by cases e; exact ⟨_, kK, rfl⟩)
    have q3 := cell_kept k3 (grownBy_putObj' _ D (.deferred none)) (fun r e => by cases e; exact ⟨_, kK, rfl⟩)
    refine ⟨by simp, .inl ⟨_, _, rfl, run_takeDeferred kK, ?_⟩⟩
    rw [hfin]
    refine ⟨.tuple #[.agg #[.int .i64 0, .int .i64 0], .int .i64 t], ?_, rfl, Below.trans kB (belowK_b (w := w) (Nat.le_refl _) W D _ _ (by omega) kK rfl rfl)⟩
    simp [results, Tryz.results106, go_sem, q1, q2, q3]
end Go.Proofs.YtochpnomfedhoaaGreat
