/-
  Contract of Look's closure: two appends to two rows whose slices lie in boxes.
-/
import Derived.Test.YtnedbhdokljpcaaGreatLookVal
import Derived.Test.YtnedbhdokljpcaaGreatRegTail
namespace Go.Proofs.YtnedbhdokljpcaaGreat
open Go.RowKit
set_option maxRecDepth 100000
set_option maxHeartbeats 8000000
set_option linter.unusedSimpArgs false
/-- A box of one cell (met by instances). -/
class BoxIs (w : World) (b : Nat) (v : outParam Value) : Prop where
  is : BoxAt w b [v]
section
variable {w w' : World} {b : Nat} {v : Value}
theorem BoxIs.c (h : BoxIs w b v) : w.cell? ⟨b, 0, none⟩ = some v := (h.is 0 _ rfl).1
theorem BoxIs.f (h : BoxIs w b v) : w.frozen? ⟨b, 0, none⟩ = false := (h.is 0 _ rfl).2
theorem BoxIs.lt (h : BoxIs w b v) : b < w.heap.size := World.block_lt_of_cell? w _ h.c
theorem BoxIs.grew (h : BoxIs w b v) (g : Grew w w') : BoxIs w' b v := ⟨BoxAt.grew h.is h.lt g⟩
instance boxIs_alloc (o : Obj) [h : BoxIs w b v] : BoxIs (w.alloc o) b v := h.grew ((Grew.refl w).alloc o)
instance boxIs_drew [h : BoxIs w b v] : BoxIs w.drew b v := h.grew (Grew.refl w).drew
instance boxIs_later (u : Later w) [h : BoxIs w b v] : BoxIs u.world b v := h.grew u.grew
theorem boxIs_far {x : Value} (h : BoxIs w b v) (g : w.grownBy w' x.ownBlock) (k : NotRow b x) : BoxIs w' b v := ⟨box_far g b _ h.is k⟩
theorem BoxIs.other (h : BoxIs w b v) {c j : Nat} {x : Value} (hne : c ≠ b) : BoxIs (w.setCell ⟨c, j, none⟩ x) b v := ⟨fun i u hu => by
  obtain ⟨h1, h2⟩ := h.is i u hu
  exact ⟨by rw [World.cell?_setCell_far _ _ _ _ hne, h1], by rw [World.frozen?_setCell, h2]⟩⟩
theorem BoxIs.put (h : BoxIs w b v) (x : Value) : BoxIs (w.setCell ⟨b, 0, none⟩ x) b x := ⟨fun i u hu => by
  obtain ⟨rfl, rfl⟩ : i = 0 ∧ x = u := by
    cases i with
    | zero => exact ⟨rfl, by simpa using hu⟩
    | succ i => simp at hu
  exact ⟨World.cell?_setCell_same _ _ _ h.c, by rw [World.frozen?_setCell, h.f]⟩⟩
end
/-- The rows that Look makes, and their boxes. -/
structure LkAt (a : World) (n : Nat) (D A : List Value) (W : World) : Prop where
  grew : Grew a W
  base : a.heap.size + 2 ≤ W.heap.size
  two : ∃ vd va, BoxIs W a.heap.size vd ∧ BoxIs W (a.heap.size + 1) va ∧ W.ownsRow (a.heap.size + 2) 208 3 vd n D ∧ W.ownsRow (a.heap.size + 2) 208 3 va n A ∧ RowsApart vd va
theorem lk_done {a W : World} {n : Nat} {D A : List Value} {v6 v7 vd va : Value} (hg : Grew a W) (hb : a.heap.size + 2 ≤ W.heap.size) (b6 : BoxIs W a.heap.size v6) (b7 : BoxIs W (a.heap.size + 1) v7)
    (o1 : W.ownsRow (a.heap.size + 2) 208 3 vd n D) (o2 : W.ownsRow (a.heap.size + 2) 208 3 va n A) (hap : RowsApart vd va) : LkAt a n D A ((W.setCell ⟨a.heap.size, 0, none⟩ vd).setCell ⟨a.heap.size + 1, 0, none⟩ va) := by
  have far : ∀ {W : World} {v : Value} {n : Nat} {xs : List Value} {q : Nat} {x : Value}, W.ownsRow (a.heap.size + 2) 208 3 v n xs → q < a.heap.size + 2 → (W.setCell ⟨q, 0, none⟩ x).ownsRow (a.heap.size + 2) 208 3 v n xs := fun h hq =>
    owns_setCell_far h _ _ _ (fun e => by have := owns_base h _ e; omega)
  exact ⟨(hg.setCell (Nat.le_refl _) _).setCell (Nat.le_succ _) _, by simpa [World.setCell] using hb, vd, va, (b6.put vd).other (by omega), (b7.other (by omega)).put va, far (far o1 (by omega)) (by omega), far (far o2 (by omega)) (by omega), hap⟩
def lkS (a : World) (vd va : Value) (p5 p8 : Nat) (D1 A2 : Big) (w' : World) : Prop :=
  w'.cell? ⟨a.heap.size, 0, none⟩ = some vd ∧ w'.cell? ⟨a.heap.size + 1, 0, none⟩ = some va ∧ w'.cell? ⟨p5, 0, none⟩ = some (.bool D1.neg) ∧ w'.cell? ⟨p5, 1, none⟩ = some (.int .u64 D1.hi) ∧ w'.cell? ⟨p5, 2, none⟩ = some (.int .u64 D1.lo) ∧ w'.cell? ⟨p8, 0, none⟩ = some (.bool A2.neg) ∧ w'.cell? ⟨p8, 1, none⟩ = some (.int .u64 A2.hi) ∧ w'.cell? ⟨p8, 2, none⟩ = some (.int .u64 A2.lo)
theorem lookClo_any (l : List Pt) (x : Int) (ht : tableB l = true) (ao : Option Addr) (cap : Nat) (a : World) (hs : SlAt a (.slice ao l.length cap) l.length (l.flatMap Pt.cells)) (b0 : Nat) (h0 : a.cell? ⟨b0, 0, none⟩ = some (.slice ao l.length cap)) (n : Nat) (hn : n ≤ 66) (D A : List Value) (W : World) (h : LkAt a n D A W) :
    Calls Tryz.prog 176 #[.int .i64 x, .pointer (some ⟨b0, 0, none⟩), .pointer (some ⟨a.heap.size, 0, none⟩), .pointer (some ⟨a.heap.size + 1, 0, none⟩)] W (fun e W' => e = .returned (.tuple #[]) ∧ LkAt a (n + 1) (D ++ (lineB l false x).1.cells) (A ++ (lineB l true x).2.cells) W') := by
  obtain ⟨hg, hbs, vd, va, b6, b7, o1, o2, hap⟩ := h
  obtain ⟨z, rfl⟩ := later_of hg
  clear hg
  obtain ⟨i0, hi, hz0, hzz1, hzz2⟩ := info_parts infoBig
  have Hinf := Lib.hid (And.intro hi (And.intro hz0 (And.intro hzz1 hzz2)))
  clear hi hz0 hzz1 hzz2
  have HV1 := Lib.hid (fun w' (g : Grew a w') => value_any 178 (enters_of Tryz.func178 (by kernel_rfl) rfl) false bndLo_any l x ht ao cap w' (hs.grew g))
  have HV2 := Lib.hid (fun w' (g : Grew a w') => value_any 179 (enters_of Tryz.func179 (by kernel_rfl) rfl) true bndHi_any l x ht ao cap w' (hs.grew g))
  clear ht hs
  generalize (lineB l false x).1 = D1 at *
  generalize (lineB l false x).2 = D2 at *
  generalize (lineB l true x).1 = A1 at *
  generalize (lineB l true x).2 = A2 at *
  have hb0 := World.block_lt_of_cell? a _ h0
  have j0 : BlockIn a b0 := ⟨hb0⟩
  have c6 := b6.c
  have f6 := b6.f
  have c7 := b7.c
  have f7 := b7.f
  have j6 : BlockIn z.world a.heap.size := ⟨b6.lt⟩
  have j7 : BlockIn z.world (a.heap.size + 1) := ⟨b7.lt⟩
  have n6 : NotRow a.heap.size vd := notRow_old o1 _ (by omega)
  have n7 : NotRow (a.heap.size + 1) vd := notRow_old o1 _ (by omega)
  have m6 : NotRow a.heap.size va := notRow_old o2 _ (by omega)
  have m7 : NotRow (a.heap.size + 1) va := notRow_old o2 _ (by omega)
  have io1 : Own z.world (a.heap.size + 2) 208 3 vd n D := ⟨o1⟩
  have io2 : Own z.world (a.heap.size + 2) 208 3 va n A := ⟨o2⟩
  go_enter Tryz.func176, Tryz.ntmps176
  go_wp2_with (first | (go_at_call 177; (with_reducible refine call_later (HV1.out _ ?_) ?_); (· exact (by repeat (first | with_reducible exact Grew.refl _ | with_reducible apply Grew.alloc | with_reducible apply Grew.later | with_reducible apply Grew.drew | with_reducible apply Grew.store | with_reducible assumption))); intro u1) | (go_at_call 177; (with_reducible refine call_later (HV2.out _ ?_) ?_); (· exact (by repeat (first | with_reducible exact Grew.refl _ | with_reducible apply Grew.alloc | with_reducible apply Grew.later | with_reducible apply Grew.drew | with_reducible apply Grew.store | with_reducible assumption))); intro u2))
  refine wp_to_later (z := z.world) (by repeat (first | with_reducible exact Grew.refl _ | with_reducible apply Grew.alloc | with_reducible apply Grew.later | with_reducible apply Grew.drew | with_reducible apply Grew.store | with_reducible assumption)) ?_
  intro Y hY
  have b13 : BoxAt Y.world u1.world.heap.size [.bool D1.neg, .int .u64 D1.hi, .int .u64 D1.lo] := by rw [hY]; exact boxAt_three (by go_simp) (by go_simp) (by go_simp) (by go_simp) (by go_simp) (by go_simp)
  have b14 : BoxAt Y.world (u2.world.heap.size + 1) [.bool A2.neg, .int .u64 A2.hi, .int .u64 A2.lo] := by rw [hY]; exact boxAt_three (by go_simp) (by go_simp) (by go_simp) (by go_simp) (by go_simp) (by go_simp)
  clear hY
  have r13 := rowAt_of_box b13
  have r14 := rowAt_of_box b14
  have jn1 : NewFor z.world u1.world.heap.size := inferInstance
  have jn2 : NewFor z.world (u2.world.heap.size + 1) := inferInstance
  clear b13 b14
  have inr1 : ∀ b, [NewFor z.world b] → NotRow b vd := fun b => notRow_new io1.is b
  have inr2 : ∀ b, [NewFor z.world b] → NotRow b va := fun b => notRow_new io2.is b
  have hbase : a.heap.size + 2 ≤ Y.world.heap.size := Nat.le_trans hbs Y.grew.size
  have k6 : BoxIs Y.world a.heap.size vd := b6.grew Y.grew
  have k7 : BoxIs Y.world (a.heap.size + 1) va := b7.grew Y.grew
  obtain ⟨hi, hz0, hzz1, hzz2⟩ := Hinf.out
  have hS : ∀ W, BoxIs W a.heap.size vd → BoxIs W (a.heap.size + 1) va → RowAt W u1.world.heap.size [.bool D1.neg, .int .u64 D1.hi, .int .u64 D1.lo] → RowAt W (u2.world.heap.size + 1) [.bool A2.neg, .int .u64 A2.hi, .int .u64 A2.lo] → lkS a vd va u1.world.heap.size (u2.world.heap.size + 1) D1 A2 W := fun W h1 h2 h3 h4 => ⟨h1.c, h2.c, h3.is 0 _ rfl, h3.is 1 _ rfl, h3.is 2 _ rfl, h4.is 0 _ rfl, h4.is 1 _ rfl, h4.is 2 _ rfl⟩
  have hS1 := hS Y.world.drew inferInstance inferInstance inferInstance inferInstance
  refine wp_region_tail (lkS a vd va u1.world.heap.size (u2.world.heap.size + 1) D1 A2) [8, 9] rfl ?_
  refine wpTail_take 0 [3] (v := vd) rfl (by kernel_rfl) (by kernel_rfl) (by kernel_rfl) (by kernel_rfl) (fun _ _ _ h => h) (by rfl) hS1 (fun w' hw => ?_) ?_
  · obtain ⟨e0, e1, e2, e3, e4, e5, e6, e7⟩ := hw
    go_simp
  try simp only [Act.put, List.setIfInBounds_toArray, List.set_cons_zero, List.set_cons_succ]
  refine wpTail_take 4 [7] (v := va) rfl (by kernel_rfl) (by kernel_rfl) (by kernel_rfl) (by kernel_rfl) (fun _ _ _ h => h) (by rfl) hS1 (fun w' hw => ?_) ?_
  · obtain ⟨e0, e1, e2, e3, e4, e5, e6, e7⟩ := hw
    go_simp
  try simp only [Act.put, List.setIfInBounds_toArray, List.set_cons_zero, List.set_cons_succ]
  refine wpTail_take 1 [2] (v := .agg #[.bool D1.neg, .int .u64 D1.hi, .int .u64 D1.lo]) rfl (by kernel_rfl) (by kernel_rfl) (by kernel_rfl) (by kernel_rfl) (fun _ _ _ h => h) (by rfl) hS1 (fun w' hw => ?_) ?_
  · obtain ⟨e0, e1, e2, e3, e4, e5, e6, e7⟩ := hw
    go_simp
  try simp only [Act.put, List.setIfInBounds_toArray, List.set_cons_zero, List.set_cons_succ]
  refine wpTail_take 5 [6, 7] (v := .agg #[.bool A2.neg, .int .u64 A2.hi, .int .u64 A2.lo]) rfl (by kernel_rfl) (by kernel_rfl) (by kernel_rfl) (by kernel_rfl) (fun _ _ _ h => h) (by rfl) hS1 (fun w' hw => ?_) ?_
  · obtain ⟨e0, e1, e2, e3, e4, e5, e6, e7⟩ := hw
    go_simp
  try simp only [Act.put, List.setIfInBounds_toArray, List.set_cons_zero, List.set_cons_succ]
  clear hS1
  refine wpTail_two 2 6 (by kernel_rfl) rfl rfl (fun K hK => ?_) (fun K hK => ?_)
  · go_simp
    refine hK.out _ _ (fun _ => hS _ inferInstance inferInstance inferInstance inferInstance) ?_
    clear hK K
    try simp only [Act.put, List.setIfInBounds_toArray, List.set_cons_zero, List.set_cons_succ]
    refine wpTail_two 3 6 (by kernel_rfl) rfl rfl (fun K hK => ?_) (fun K hK => ?_)
    · skip
      refine step_append_lies _ (by rfl) _ _ 223 (by rfl) (a.heap.size + 2) 208 i0 _ 3 24 Tryz.underlying223 hi hz0 hzz1 hzz2 (by rfl) (by decide) vd _ _ (by rfl) Own.is ⟨_, 0, none⟩ 1 1 [.bool D1.neg, .int .u64 D1.hi, .int .u64 D1.lo] (by rfl) (by rfl) news_row (by simp [Value.oneCell']) (by decide) (by simp [maxLen]; omega) (by omega) (by (try simp); omega) _ rfl ?_
      intro g1 cap1 w1 hown1 hgrow1 hat1 hlt1
      have hg1 : Grew a w1 := Grew.append (by repeat (first | with_reducible exact Grew.refl _ | with_reducible apply Grew.alloc | with_reducible apply Grew.later | with_reducible apply Grew.drew | with_reducible apply Grew.store | with_reducible assumption)) (Own.is (v := vd) (base := a.heap.size + 2) (e := 208) (size := 3)) (Nat.le_add_right _ _) hgrow1
      have io3 : Own w1 (a.heap.size + 2) 208 3 va n A := ⟨owns_far Own.is hgrow1 hap.symm⟩
      have hap1 : RowsApart (.slice (some ⟨g1, 0, none⟩) (n + 1) cap1) va := apart_grown (Own.is (v := va) (base := a.heap.size + 2) (e := 208) (size := 3)) hap hat1
      have io4 : Own w1 (a.heap.size + 2) 208 3 (.slice (some ⟨g1, 0, none⟩) (n + 1) cap1) (n + 1) _ := ⟨hown1⟩
      have ifar := far_inst hgrow1
      have hsz1 : a.heap.size + 2 ≤ w1.heap.size := Nat.le_trans (by (try simp); omega) hgrow1.size
      have l6 : BoxIs w1 a.heap.size vd := boxIs_far inferInstance hgrow1 inferInstance
      have l7 : BoxIs w1 (a.heap.size + 1) va := boxIs_far inferInstance hgrow1 inferInstance
      have l6c := l6.c
      have l7c := l7.c
      have i6 : BlockIn w1 a.heap.size := ⟨by omega⟩
      have i7 : BlockIn w1 (a.heap.size + 1) := ⟨by omega⟩
      have inw : NewFor z.world w1.heap.size := ⟨Nat.le_trans (NewFor.le (a := z.world)) hgrow1.size⟩
      refine hK.out _ _ (fun _ => hS _ inferInstance inferInstance inferInstance inferInstance) ?_
      clear hK K
      try simp only [Act.put, List.setIfInBounds_toArray, List.set_cons_zero, List.set_cons_succ]
      refine wpTail_one 6 (by kernel_rfl) rfl fun K hK => ?_
      go_simp
      refine hK.out _ _ (fun _ => hS _ inferInstance inferInstance inferInstance inferInstance) ?_
      clear hK K
      try simp only [Act.put, List.setIfInBounds_toArray, List.set_cons_zero, List.set_cons_succ]
      refine wpTail_one 7 (by kernel_rfl) rfl fun K hK => ?_
      refine step_append_lies _ (by rfl) _ _ 223 (by rfl) (a.heap.size + 2) 208 i0 _ 3 24 Tryz.underlying223 hi hz0 hzz1 hzz2 (by rfl) (by decide) va _ _ (by rfl) Own.is ⟨_, 0, none⟩ 1 1 [.bool A2.neg, .int .u64 A2.hi, .int .u64 A2.lo] (by rfl) (by rfl) news_row (by simp [Value.oneCell']) (by decide) (by simp [maxLen]; omega) (by omega) (by (try simp); omega) _ rfl ?_
      intro g2 cap2 w2 hown2 hgrow2 hat2 hlt2
      have ifar2 := far_inst hgrow2
      have hg2 : Grew a w2 := Grew.append (by repeat (first | with_reducible exact Grew.refl _ | with_reducible apply Grew.alloc | with_reducible apply Grew.later | with_reducible apply Grew.drew | with_reducible apply Grew.store | with_reducible assumption)) (Own.is (v := va) (base := a.heap.size + 2) (e := 208) (size := 3)) (Nat.le_add_right _ _) hgrow2
      have hown1' : w2.ownsRow (a.heap.size + 2) 208 3 (.slice (some ⟨g1, 0, none⟩) (n + 1) cap1) (n + 1) _ := owns_far Own.is hgrow2 hap1
      have hap2 := apart_grown2 (m := n + 1) (cap := cap2) (Own.is (v := .slice (some ⟨g1, 0, none⟩) (n + 1) cap1) (base := a.heap.size + 2) (e := 208) (size := 3)) hap1 hat2
      have hsz2 : a.heap.size + 2 ≤ w2.heap.size := Nat.le_trans (by (try simp); omega) hgrow2.size
      have p6 : BoxIs w2 a.heap.size vd := boxIs_far inferInstance hgrow2 inferInstance
      have p7 : BoxIs w2 (a.heap.size + 1) va := boxIs_far inferInstance hgrow2 inferInstance
      have p6c := p6.c
      have p7c := p7.c
      have p6f := p6.f
      have p7f := p7.f
      have q6 : BlockIn w2 a.heap.size := ⟨by omega⟩
      have q7 : BlockIn w2 (a.heap.size + 1) := ⟨by omega⟩
      refine hK.out _ _ (fun _ => hS _ inferInstance inferInstance inferInstance inferInstance) ?_
      clear hK K
      try simp only [Act.put, List.setIfInBounds_toArray, List.set_cons_zero, List.set_cons_succ]
      refine wpTail_one 8 (by kernel_rfl) rfl fun K hK => ?_
      go_simp
      refine hK.out _ _ (fun h => by cases h) ?_
      clear hK K
      try simp only [Act.put, List.setIfInBounds_toArray, List.set_cons_zero, List.set_cons_succ]
      refine wpTail_one 9 (by kernel_rfl) rfl fun K hK => ?_
      go_simp
      refine hK.out _ _ (fun h => by cases h) ?_
      clear hK K
      refine wpTail_done (by kernel_rfl) ?_
      go_wp2
      refine bodyPost_end (results_none rfl _ _ _) rfl ⟨rfl, lk_done hg2 hsz2 p6 p7 hown1' hown2 hap2⟩
    · go_simp
      refine hK.out _ _ (fun _ => hS _ inferInstance inferInstance inferInstance inferInstance) ?_
      clear hK K
      try simp only [Act.put, List.setIfInBounds_toArray, List.set_cons_zero, List.set_cons_succ]
      refine wpTail_one 3 (by kernel_rfl) rfl fun K hK => ?_
      refine step_append_lies _ (by rfl) _ _ 223 (by rfl) (a.heap.size + 2) 208 i0 _ 3 24 Tryz.underlying223 hi hz0 hzz1 hzz2 (by rfl) (by decide) vd _ _ (by rfl) Own.is ⟨_, 0, none⟩ 1 1 [.bool D1.neg, .int .u64 D1.hi, .int .u64 D1.lo] (by rfl) (by rfl) news_row (by simp [Value.oneCell']) (by decide) (by simp [maxLen]; omega) (by omega) (by (try simp); omega) _ rfl ?_
      intro g1 cap1 w1 hown1 hgrow1 hat1 hlt1
      have hg1 : Grew a w1 := Grew.append (by repeat (first | with_reducible exact Grew.refl _ | with_reducible apply Grew.alloc | with_reducible apply Grew.later | with_reducible apply Grew.drew | with_reducible apply Grew.store | with_reducible assumption)) (Own.is (v := vd) (base := a.heap.size + 2) (e := 208) (size := 3)) (Nat.le_add_right _ _) hgrow1
      have io3 : Own w1 (a.heap.size + 2) 208 3 va n A := ⟨owns_far Own.is hgrow1 hap.symm⟩
      have hap1 : RowsApart (.slice (some ⟨g1, 0, none⟩) (n + 1) cap1) va := apart_grown (Own.is (v := va) (base := a.heap.size + 2) (e := 208) (size := 3)) hap hat1
      have io4 : Own w1 (a.heap.size + 2) 208 3 (.slice (some ⟨g1, 0, none⟩) (n + 1) cap1) (n + 1) _ := ⟨hown1⟩
      have ifar := far_inst hgrow1
      have hsz1 : a.heap.size + 2 ≤ w1.heap.size := Nat.le_trans (by (try simp); omega) hgrow1.size
      have l6 : BoxIs w1 a.heap.size vd := boxIs_far inferInstance hgrow1 inferInstance
      have l7 : BoxIs w1 (a.heap.size + 1) va := boxIs_far inferInstance hgrow1 inferInstance
      have l6c := l6.c
      have l7c := l7.c
      have i6 : BlockIn w1 a.heap.size := ⟨by omega⟩
      have i7 : BlockIn w1 (a.heap.size + 1) := ⟨by omega⟩
      have inw : NewFor z.world w1.heap.size := ⟨Nat.le_trans (NewFor.le (a := z.world)) hgrow1.size⟩
      refine hK.out _ _ (fun _ => hS _ inferInstance inferInstance inferInstance inferInstance) ?_
      clear hK K
      try simp only [Act.put, List.setIfInBounds_toArray, List.set_cons_zero, List.set_cons_succ]
      refine wpTail_one 7 (by kernel_rfl) rfl fun K hK => ?_
      refine step_append_lies _ (by rfl) _ _ 223 (by rfl) (a.heap.size + 2) 208 i0 _ 3 24 Tryz.underlying223 hi hz0 hzz1 hzz2 (by rfl) (by decide) va _ _ (by rfl) Own.is ⟨_, 0, none⟩ 1 1 [.bool A2.neg, .int .u64 A2.hi, .int .u64 A2.lo] (by rfl) (by rfl) news_row (by simp [Value.oneCell']) (by decide) (by simp [maxLen]; omega) (by omega) (by (try simp); omega) _ rfl ?_
      intro g2 cap2 w2 hown2 hgrow2 hat2 hlt2
      have ifar2 := far_inst hgrow2
      have hg2 : Grew a w2 := Grew.append (by repeat (first | with_reducible exact Grew.refl _ | with_reducible apply Grew.alloc | with_reducible apply Grew.later | with_reducible apply Grew.drew | with_reducible apply Grew.store | with_reducible assumption)) (Own.is (v := va) (base := a.heap.size + 2) (e := 208) (size := 3)) (Nat.le_add_right _ _) hgrow2
      have hown1' : w2.ownsRow (a.heap.size + 2) 208 3 (.slice (some ⟨g1, 0, none⟩) (n + 1) cap1) (n + 1) _ := owns_far Own.is hgrow2 hap1
      have hap2 := apart_grown2 (m := n + 1) (cap := cap2) (Own.is (v := .slice (some ⟨g1, 0, none⟩) (n + 1) cap1) (base := a.heap.size + 2) (e := 208) (size := 3)) hap1 hat2
      have hsz2 : a.heap.size + 2 ≤ w2.heap.size := Nat.le_trans (by (try simp); omega) hgrow2.size
      have p6 : BoxIs w2 a.heap.size vd := boxIs_far inferInstance hgrow2 inferInstance
      have p7 : BoxIs w2 (a.heap.size + 1) va := boxIs_far inferInstance hgrow2 inferInstance
      have p6c := p6.c
      have p7c := p7.c
      have p6f := p6.f
      have p7f := p7.f
      have q6 : BlockIn w2 a.heap.size := ⟨by omega⟩
      have q7 : BlockIn w2 (a.heap.size + 1) := ⟨by omega⟩
      refine hK.out _ _ (fun _ => hS _ inferInstance inferInstance inferInstance inferInstance) ?_
      clear hK K
      try simp only [Act.put, List.setIfInBounds_toArray, List.set_cons_zero, List.set_cons_succ]
      refine wpTail_one 8 (by kernel_rfl) rfl fun K hK => ?_
      go_simp
      refine hK.out _ _ (fun h => by cases h) ?_
      clear hK K
      try simp only [Act.put, List.setIfInBounds_toArray, List.set_cons_zero, List.set_cons_succ]
      refine wpTail_one 9 (by kernel_rfl) rfl fun K hK => ?_
      go_simp
      refine hK.out _ _ (fun h => by cases h) ?_
      clear hK K
      refine wpTail_done (by kernel_rfl) ?_
      go_wp2
      refine bodyPost_end (results_none rfl _ _ _) rfl ⟨rfl, lk_done hg2 hsz2 p6 p7 hown1' hown2 hap2⟩
  · go_simp
    refine hK.out _ _ (fun _ => hS _ inferInstance inferInstance inferInstance inferInstance) ?_
    clear hK K
    try simp only [Act.put, List.setIfInBounds_toArray, List.set_cons_zero, List.set_cons_succ]
    refine wpTail_one 2 (by kernel_rfl) rfl fun K hK => ?_
    go_simp
    refine hK.out _ _ (fun _ => hS _ inferInstance inferInstance inferInstance inferInstance) ?_
    clear hK K
    try simp only [Act.put, List.setIfInBounds_toArray, List.set_cons_zero, List.set_cons_succ]
    refine wpTail_one 3 (by kernel_rfl) rfl fun K hK => ?_
    refine step_append_lies _ (by rfl) _ _ 223 (by rfl) (a.heap.size + 2) 208 i0 _ 3 24 Tryz.underlying223 hi hz0 hzz1 hzz2 (by rfl) (by decide) vd _ _ (by rfl) Own.is ⟨_, 0, none⟩ 1 1 [.bool D1.neg, .int .u64 D1.hi, .int .u64 D1.lo] (by rfl) (by rfl) news_row (by simp [Value.oneCell']) (by decide) (by simp [maxLen]; omega) (by omega) (by (try simp); omega) _ rfl ?_
    intro g1 cap1 w1 hown1 hgrow1 hat1 hlt1
    have hg1 : Grew a w1 := Grew.append (by repeat (first | with_reducible exact Grew.refl _ | with_reducible apply Grew.alloc | with_reducible apply Grew.later | with_reducible apply Grew.drew | with_reducible apply Grew.store | with_reducible assumption)) (Own.is (v := vd) (base := a.heap.size + 2) (e := 208) (size := 3)) (Nat.le_add_right _ _) hgrow1
    have io3 : Own w1 (a.heap.size + 2) 208 3 va n A := ⟨owns_far Own.is hgrow1 hap.symm⟩
    have hap1 : RowsApart (.slice (some ⟨g1, 0, none⟩) (n + 1) cap1) va := apart_grown (Own.is (v := va) (base := a.heap.size + 2) (e := 208) (size := 3)) hap hat1
    have io4 : Own w1 (a.heap.size + 2) 208 3 (.slice (some ⟨g1, 0, none⟩) (n + 1) cap1) (n + 1) _ := ⟨hown1⟩
    have ifar := far_inst hgrow1
    have hsz1 : a.heap.size + 2 ≤ w1.heap.size := Nat.le_trans (by (try simp); omega) hgrow1.size
    have l6 : BoxIs w1 a.heap.size vd := boxIs_far inferInstance hgrow1 inferInstance
    have l7 : BoxIs w1 (a.heap.size + 1) va := boxIs_far inferInstance hgrow1 inferInstance
    have l6c := l6.c
    have l7c := l7.c
    have i6 : BlockIn w1 a.heap.size := ⟨by omega⟩
    have i7 : BlockIn w1 (a.heap.size + 1) := ⟨by omega⟩
    have inw : NewFor z.world w1.heap.size := ⟨Nat.le_trans (NewFor.le (a := z.world)) hgrow1.size⟩
    refine hK.out _ _ (fun _ => hS _ inferInstance inferInstance inferInstance inferInstance) ?_
    clear hK K
    try simp only [Act.put, List.setIfInBounds_toArray, List.set_cons_zero, List.set_cons_succ]
    refine wpTail_one 7 (by kernel_rfl) rfl fun K hK => ?_
    refine step_append_lies _ (by rfl) _ _ 223 (by rfl) (a.heap.size + 2) 208 i0 _ 3 24 Tryz.underlying223 hi hz0 hzz1 hzz2 (by rfl) (by decide) va _ _ (by rfl) Own.is ⟨_, 0, none⟩ 1 1 [.bool A2.neg, .int .u64 A2.hi, .int .u64 A2.lo] (by rfl) (by rfl) news_row (by simp [Value.oneCell']) (by decide) (by simp [maxLen]; omega) (by omega) (by (try simp); omega) _ rfl ?_
    intro g2 cap2 w2 hown2 hgrow2 hat2 hlt2
    have ifar2 := far_inst hgrow2
    have hg2 : Grew a w2 := Grew.append (by repeat (first | with_reducible exact Grew.refl _ | with_reducible apply Grew.alloc | with_reducible apply Grew.later | with_reducible apply Grew.drew | with_reducible apply Grew.store | with_reducible assumption)) (Own.is (v := va) (base := a.heap.size + 2) (e := 208) (size := 3)) (Nat.le_add_right _ _) hgrow2
    have hown1' : w2.ownsRow (a.heap.size + 2) 208 3 (.slice (some ⟨g1, 0, none⟩) (n + 1) cap1) (n + 1) _ := owns_far Own.is hgrow2 hap1
    have hap2 := apart_grown2 (m := n + 1) (cap := cap2) (Own.is (v := .slice (some ⟨g1, 0, none⟩) (n + 1) cap1) (base := a.heap.size + 2) (e := 208) (size := 3)) hap1 hat2
    have hsz2 : a.heap.size + 2 ≤ w2.heap.size := Nat.le_trans (by (try simp); omega) hgrow2.size
    have p6 : BoxIs w2 a.heap.size vd := boxIs_far inferInstance hgrow2 inferInstance
    have p7 : BoxIs w2 (a.heap.size + 1) va := boxIs_far inferInstance hgrow2 inferInstance
    have p6c := p6.c
    have p7c := p7.c
    have p6f := p6.f
    have p7f := p7.f
    have q6 : BlockIn w2 a.heap.size := ⟨by omega⟩
    have q7 : BlockIn w2 (a.heap.size + 1) := ⟨by omega⟩
    refine hK.out _ _ (fun _ => hS _ inferInstance inferInstance inferInstance inferInstance) ?_
    clear hK K
    try simp only [Act.put, List.setIfInBounds_toArray, List.set_cons_zero, List.set_cons_succ]
    refine wpTail_one 8 (by kernel_rfl) rfl fun K hK => ?_
    go_simp
    refine hK.out _ _ (fun h => by cases h) ?_
    clear hK K
    try simp only [Act.put, List.setIfInBounds_toArray, List.set_cons_zero, List.set_cons_succ]
    refine wpTail_one 9 (by kernel_rfl) rfl fun K hK => ?_
    go_simp
    refine hK.out _ _ (fun h => by cases h) ?_
    clear hK K
    refine wpTail_done (by kernel_rfl) ?_
    go_wp2
    refine bodyPost_end (results_none rfl _ _ _) rfl ⟨rfl, lk_done hg2 hsz2 p6 p7 hown1' hown2 hap2⟩
end Go.Proofs.YtnedbhdokljpcaaGreat
