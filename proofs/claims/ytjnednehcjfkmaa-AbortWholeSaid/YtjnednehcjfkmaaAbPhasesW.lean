/-
  Contracts: abort's Phases, where the arguments are valid.
-/
import Derived.Test.YtjnednehcjfkmaaAbPhases
import Derived.Test.YtjnednehcjfkmaaLexIn
namespace Go.Proofs.Ytjnednehcjfkmaa
open Go.RowKit Go.Shelf
set_option maxRecDepth 100000
set_option maxHeartbeats 8000000
attribute [local go_sem] Oper.semAt_some
/-- The phases of the runs that have come. -/
def phOfs (P : List Int) (T : List Tube) (pre : List (Rn P.length)) : List Ph := (pairsOf pre).map (phOf P T)
theorem phOfs_snoc (P : List Int) (T : List Tube) (pre : List (Rn P.length)) (x : Rn P.length) : phOfs P T (pre ++ [x]) = phOfs P T pre ++ [phOf P T x.1] := by unfold phOfs; rw [pairsOf_snoc]; simp
theorem phOfs_all (P : List Int) (T : List Tube) (pre : List (Rn P.length)) (h : pairsOf pre = (runsSt P P.length).1) : phOfs P T pre = phAt P T P.length := by unfold phOfs; rw [h, runs_all]
theorem abPhases_run (P : List Int) (T : List Tube) (v1 v2 : Value) (w : World) (hP : SlAt w v1 P.length (P.flatMap intC)) (hT : SlAt w v2 T.length (T.flatMap Tube.cells)) (l1 : P.length ≤ 4096) (hf : flownB T = true) (hl : P.length = T.length) (ha : P.all pickB = true) (hc : phasesCode P T = 0) : Calls Try.prog 20 #[v1, v2] w (RetPh (phasesCode P T) (phasesL P T) w) := by
  have HF := Lib.hid (fun w' (g : Grew w w') => is_bool hf (abFlown_any T _ w' (hT.grew g)))
  have HV := Lib.hid (fun w' (g : Grew w w') => is_bool ha (every_pick P _ w' (hP.grew g)))
  have Hc := Lib.hid hc
  have Hl := Lib.hid hl
  have Hseq := Lib.hid (fun (W : World) (g : Grew w W) (B : Nat) (h : W.cell? ⟨B, 0, none⟩ = some v1) => runs_stops 5 (by omega) B v1 P l1 w W g h hP)
  obtain ⟨ao1, cap1, rfl, hm1, hc1⟩ := hP
  obtain ⟨ao2, cap2, rfl, hm2, hc2⟩ := hT
  have HI := Lib.hid (fun k hk => int_cells hc1 k hk)
  have HT := Lib.hid (fun k hk => tube_two hc2 k hk)
  clear hc1 hc2 hf ha hc
  have l1' : decide ((4096 : Int) < P.length) = false := by simp; omega
  have l2' : decide ((4096 : Int) < T.length) = false := by simp; omega
  have hl' : ((P.length : Int) != T.length) = false := by simp [hl]
  clear hl
  refine (callsIn_wide (n := 6)).1 ?_
  refine callsIn_of_wp_marks Try.func20 rfl trivial ?_ rfl
  simp only [Try.ntmps20, List.size_toArray, List.length_cons, List.length_nil, Nat.reduceAdd, Nat.reduceSub, Array.replicate_succ, Array.replicate_zero, List.push_toArray, List.append_toArray, List.nil_append, List.cons_append]
  gi_wp2_with (first | (refine ⟨trivial, ?_⟩; gi_at_call 44; refine callIn_later0 (HF.out _ (by repeat (first | with_reducible exact Grew.refl _ | with_reducible apply Grew.alloc | with_reducible apply Grew.later | with_reducible apply Grew.drew | with_reducible apply Grew.store | with_reducible assumption))) ?_; intro u1) | (refine ⟨trivial, ?_⟩; gi_at_call 45; refine callIn_later0 (HV.out _ (by repeat (first | with_reducible exact Grew.refl _ | with_reducible apply Grew.alloc | with_reducible apply Grew.later | with_reducible apply Grew.drew | with_reducible apply Grew.store | with_reducible assumption))) ?_; intro u2) | (refine ⟨trivial, ?_⟩; gi_at_call 47; refine callsIn_wide.2 ((abRuns_any _ _ _ _).mono ?_); rintro e w' ⟨rfl, rfl⟩))
  have gW : Grew w ((u2.world.alloc (.cells #[.slice none 0 0] 56)).alloc (.cells #[.slice ao1 P.length cap1] 22)) := (by repeat (first | with_reducible exact Grew.refl _ | with_reducible apply Grew.alloc | with_reducible apply Grew.later | with_reducible apply Grew.drew | with_reducible apply Grew.store | with_reducible assumption))
  have hlt0 : w.heap.size + 2 ≤ u1.world.heap.size := by have := u1.grew.size; simp at this; omega
  have hlt1 := u2.grew.size
  have x0 : Boxed u1.world w.heap.size 22 (.slice ao1 P.length cap1) := (u1.grew.block _ (by simp <;> omega)).trans (((Boxed.new w _ _).alloc _))
  have x1 : Boxed u1.world (w.heap.size + 1) 55 (.slice ao2 T.length cap2) := (u1.grew.block _ (by simp)).trans (by have := Boxed.new (w.alloc (.cells #[.slice ao1 P.length cap1] 22)) 55 (.slice ao2 T.length cap2); rw [World.size_alloc] at this; exact this)
  have b0 : Boxed ((u2.world.alloc (.cells #[.slice none 0 0] 56)).alloc (.cells #[.slice ao1 P.length cap1] 22)) w.heap.size 22 (.slice ao1 P.length cap1) := ((show Boxed u2.world _ _ _ from (u2.grew.block _ (by omega)).trans x0).alloc _).alloc _
  have b1 : Boxed ((u2.world.alloc (.cells #[.slice none 0 0] 56)).alloc (.cells #[.slice ao1 P.length cap1] 22)) (w.heap.size + 1) 55 (.slice ao2 T.length cap2) := ((show Boxed u2.world _ _ _ from (u2.grew.block _ (by omega)).trans x1).alloc _).alloc _
  have b6 : Boxed ((u2.world.alloc (.cells #[.slice none 0 0] 56)).alloc (.cells #[.slice ao1 P.length cap1] 22)) u2.world.heap.size 56 (.slice none 0 0) := (Boxed.new _ _ _).alloc _
  have b7 : Boxed ((u2.world.alloc (.cells #[.slice none 0 0] 56)).alloc (.cells #[.slice ao1 P.length cap1] 22)) (u2.world.heap.size + 1) 22 (.slice ao1 P.length cap1) := by have := Boxed.new (u2.world.alloc (.cells #[.slice none 0 0] 56)) 22 (.slice ao1 P.length cap1); rw [World.size_alloc] at this; exact this
  have hseq := Hseq.out _ gW (u2.world.heap.size + 1) (by go_simp)
  have hB6 : w.heap.size ≤ u2.world.heap.size := by omega
  have hB6' : u2.world.heap.size < ((u2.world.alloc (.cells #[.slice none 0 0] 56)).alloc (.cells #[.slice ao1 P.length cap1] 22)).heap.size := by simp <;> omega
  have hB7 : u2.world.heap.size + 1 < ((u2.world.alloc (.cells #[.slice none 0 0] 56)).alloc (.cells #[.slice ao1 P.length cap1] 22)).heap.size := by simp <;> omega
  have hne0 : u2.world.heap.size ≠ w.heap.size := by omega
  have hne1 : u2.world.heap.size ≠ w.heap.size + 1 := by omega
  generalize ((u2.world.alloc (.cells #[.slice none 0 0] 56)).alloc (.cells #[.slice ao1 P.length cap1] 22)) = V at *
  generalize u2.world.heap.size = B6 at *
  refine wpIn_rangeFunc_ownH rfl (by omega) (gf := 69) (lb := #[.pointer (some ⟨B6 + 1, 0, none⟩)]) rfl trivial (enters_of Try.func69 (by kernel_rfl) rfl)
    hseq keepR_t (keepR_b gW.size hB7) (Below.refl _ _) (fun _ => rfl)
    (fun pre W => (∃ v, Boxed W B6 56 v ∧ W.ownsRow w.heap.size 60 5 v (phOfs P T pre).length ((phOfs P T pre).flatMap Ph.cells) ∧ True) ∧ (Boxed W w.heap.size 22 (.slice ao1 P.length cap1) ∧ (Boxed W (w.heap.size + 1) 55 (.slice ao2 T.length cap2) ∧ (Boxed W (B6 + 1) 22 (.slice ao1 P.length cap1) ∧ Below w.heap.size w W))))
    (fun _ _ _ => False)
    (OwnFrom.and (Own.from (holdsRow_own w.heap.size B6 56 60 5 (fun pre => (phOfs P T pre).length) (fun pre => (phOfs P T pre).flatMap Ph.cells) (fun _ _ => True)) _) (OwnFrom.and (Own.from (boxed_own _ _ (fun _ => _)) _) (OwnFrom.and (Own.from (boxed_own _ _ (fun _ => _)) _) (OwnFrom.and (Own.from (boxed_own _ _ (fun _ => _)) _) (ownFrom_below (Nat.le_refl _) gW.size)))))
    (fun _ => fun _ _ _ _ h _ _ => h)
    ⟨⟨_, b6, World.ownsRow_nil _ _ _ _, trivial⟩, b0, b1, b7, gW⟩
    (fun x a' _ => a' = { tmps := #[.slice ao1 P.length cap1, .slice ao2 T.length cap2, .pointer (some ⟨w.heap.size, 0, none⟩), .pointer (some ⟨w.heap.size + 1, 0, none⟩), .slice none 0 0, .int .i64 0, .pointer (some ⟨B6, 0, none⟩), .int .i64 (x.1.1 : Int), .int .i64 (x.1.2 : Int), .slice ao1 P.length cap1, .int .i64 P.length, .bool false, .bool false, .slice ao2 T.length cap2, .int .i64 T.length, .bool false, .bool false, .slice ao2 T.length cap2, .bool true, .bool false, .bool false, .slice ao1 P.length cap1, .int .i64 P.length, .slice ao2 T.length cap2, .int .i64 T.length, .bool false, .bool false, .bool false, .slice ao1 P.length cap1, .bool true, .bool false, .bool false, .slice ao1 P.length cap1, .func (.func 69) #[] #[.pointer (some ⟨B6 + 1, 0, none⟩)], .int .i64 (x.1.1 : Int), .int .i64 (x.1.2 : Int), undef, undef, undef, undef, undef, undef, undef, undef, undef, undef, undef, undef, undef, undef, undef, undef, undef, undef, undef, undef, undef], defers := [] })
    (fun _ _ => fun _ _ _ _ h _ _ => h) ?assign ?body ?done ?stop
  case assign =>
    rintro l pre x W K hI hK
    unfold encNN
    gi_wp2
    exact hK _ _ (KeepsFrom.refl _ _) (KeepR.refl _ _ _) hI rfl
  case body =>
    rintro l pre x a' W hl ⟨r, hr⟩ ⟨⟨v, hv, hrow, -⟩, hb0, hb1, hb7, hB⟩ rfl hlt
    obtain ⟨⟨xf, xl⟩, hx1, hx2⟩ := x
    dsimp only at hx1 hx2 ⊢
    have hG : Grew w W := hB
    obtain ⟨bq, oq, rfl, iq, hq⟩ := HI.out xf hx1
    obtain ⟨bt, ot, rfl, it, ht1, -⟩ := HT.out xf (by rw [← Hl.out]; exact hx1)
    obtain ⟨_, _, e1, -, -, ht2⟩ := HT.out xl (by rw [← Hl.out]; exact hx2)
    cases e1
    have hxT1 : xf < T.length := by rw [← Hl.out]; exact hx1
    have hxT2 : xl < T.length := by rw [← Hl.out]; exact hx2
    have kq := hG.cell hq
    have k1 := hG.cell ht1
    have k2 := hG.cell ht2
    have kv := hv.cell
    have k0 := hb0.cell
    have k3 := hb1.cell
    have hsn := Lib.hid (phOfs_snoc P T pre ⟨(xf, xl), hx1, hx2⟩)
    have hq1 : (xf : Int) < P.length := by omega
    have hq2 : (xf : Int) < T.length := by omega
    have hq3 : (xl : Int) < T.length := by omega
    gi_wp2
    obtain ⟨i0, hi, hz0, hzz1, hzz2⟩ := info_parts infoPh
    have hlen : (phOfs P T pre).length ≤ 4096 := by
      have h1 : (phOfs P T pre).length = pre.length := by unfold phOfs; simp [pairsOf_len]
      have h2 := (runs_le P P.length).1
      omega
    have hlen2 : (phOfs P T pre).length + 1 ≤ maxLen := by simp [maxLen]; omega
    have hlen3 : ((phOfs P T pre).length + 1) * 40 ≤ 140737488355328 := by omega
    have Hl1 := Lib.hid (show (phOfs P T (pre ++ [⟨(xf, xl), hx1, hx2⟩])).length = (phOfs P T pre).length + 1 by rw [hsn.out]; simp)
    have Hl2 := Lib.hid (show (phOfs P T (pre ++ [⟨(xf, xl), hx1, hx2⟩])).flatMap Ph.cells = (phOfs P T pre).flatMap Ph.cells ++ [.int .i64 (plAt P xf), .int .i64 (xf : Int), .int .i64 (xl : Int), .int .i64 (tuAt T xf).a, .int .i64 (tuAt T xl).z] by rw [hsn.out, List.flatMap_append]; rfl)
    clear hsn
    generalize (phOfs P T pre).length = np at *
    generalize (phOfs P T pre).flatMap Ph.cells = xs at *
    generalize plAt P xf = pm at *
    generalize (tuAt T xf).a = ta at *
    generalize (tuAt T xl).z = tz at *
    refine wpIn_region_any_of (by kernel_rfl) (by kernel_rfl) ?_
    refine wpAny_of_held (S := fun w' => w'.cell? ⟨w.heap.size, 0, none⟩ = some (.slice (some ⟨bq, oq, none⟩) P.length cap1) ∧ w'.cell? ⟨w.heap.size + 1, 0, none⟩ = some (.slice (some ⟨bt, ot, none⟩) T.length cap2) ∧ w'.cell? ⟨bq, oq + xf, none⟩ = some (.int .i64 pm) ∧ w'.cell? ⟨bt, ot + xf * 16, none⟩ = some (.int .i64 ta) ∧ w'.cell? ⟨bt, ot + xl * 16 + 1, none⟩ = some (.int .i64 tz)) _ _ _ _ ?_
    have hS : W.drew.cell? ⟨w.heap.size, 0, none⟩ = some (.slice (some ⟨bq, oq, none⟩) P.length cap1) ∧ W.drew.cell? ⟨w.heap.size + 1, 0, none⟩ = some (.slice (some ⟨bt, ot, none⟩) T.length cap2) ∧ W.drew.cell? ⟨bq, oq + xf, none⟩ = some (.int .i64 pm) ∧ W.drew.cell? ⟨bt, ot + xf * 16, none⟩ = some (.int .i64 ta) ∧ W.drew.cell? ⟨bt, ot + xl * 16 + 1, none⟩ = some (.int .i64 tz) := ⟨k0, k3, kq, k1, k2⟩
    refine take_k (i := 1) (v := ?_) rfl (by kernel_rfl) (by kernel_rfl) (by kernel_rfl) (by rfl) ?_ hS ?_
    rotate_left
    · rintro w' ⟨s0, s1, s2, s3, s4⟩
      unfold opVal
      go_simp
      rfl
    intro K hK
    go_simp
    refine hK _ ?_
    clear hK K
    refine take_k (i := 2) (v := ?_) rfl (by kernel_rfl) (by kernel_rfl) (by kernel_rfl) (by rfl) ?_ hS ?_
    rotate_left
    · rintro w' ⟨s0, s1, s2, s3, s4⟩
      unfold opVal
      go_simp
      rfl
    intro K hK
    go_simp
    refine hK _ ?_
    clear hK K
    refine take_k (i := 3) (v := ?_) rfl (by kernel_rfl) (by kernel_rfl) (by kernel_rfl) (by rfl) ?_ hS ?_
    rotate_left
    · rintro w' ⟨s0, s1, s2, s3, s4⟩
      unfold opVal
      go_simp
      rfl
    intro K hK
    go_simp
    refine hK _ ?_
    clear hK K
    refine take_k (i := 4) (v := ?_) rfl (by kernel_rfl) (by kernel_rfl) (by kernel_rfl) (by rfl) ?_ hS ?_
    rotate_left
    · rintro w' ⟨s0, s1, s2, s3, s4⟩
      unfold opVal
      go_simp
      rfl
    intro K hK
    go_simp
    refine hK _ ?_
    clear hK K
    refine take_k (i := 5) (v := ?_) rfl (by kernel_rfl) (by kernel_rfl) (by kernel_rfl) (by rfl) ?_ hS ?_
    rotate_left
    · rintro w' ⟨s0, s1, s2, s3, s4⟩
      unfold opVal
      go_simp
      rfl
    intro K hK
    go_simp
    refine hK _ ?_
    clear hK K
    refine take_k (i := 6) (v := ?_) rfl (by kernel_rfl) (by kernel_rfl) (by kernel_rfl) (by rfl) ?_ hS ?_
    rotate_left
    · rintro w' ⟨s0, s1, s2, s3, s4⟩
      unfold opVal
      go_simp
      rfl
    intro K hK
    go_simp
    refine hK _ ?_
    clear hK K
    refine take_k (i := 7) (v := ?_) rfl (by kernel_rfl) (by kernel_rfl) (by kernel_rfl) (by rfl) ?_ hS ?_
    rotate_left
    · rintro w' ⟨s0, s1, s2, s3, s4⟩
      unfold opVal
      go_simp
      rfl
    intro K hK
    go_simp
    refine hK _ ?_
    clear hK K
    refine take_k (i := 8) (v := ?_) rfl (by kernel_rfl) (by kernel_rfl) (by kernel_rfl) (by rfl) ?_ hS ?_
    rotate_left
    · rintro w' ⟨s0, s1, s2, s3, s4⟩
      unfold opVal
      go_simp
      rfl
    intro K hK
    go_simp
    refine hK _ ?_
    clear hK K
    refine take_k (i := 9) (v := ?_) rfl (by kernel_rfl) (by kernel_rfl) (by kernel_rfl) (by rfl) ?_ hS ?_
    rotate_left
    · rintro w' ⟨s0, s1, s2, s3, s4⟩
      unfold opVal
      go_simp
      rfl
    intro K hK
    go_simp
    refine hK _ ?_
    clear hK K
    refine take_k (i := 10) (v := ?_) rfl (by kernel_rfl) (by kernel_rfl) (by kernel_rfl) (by rfl) ?_ hS ?_
    rotate_left
    · rintro w' ⟨s0, s1, s2, s3, s4⟩
      unfold opVal
      go_simp
      rfl
    intro K hK
    go_simp
    refine hK _ ?_
    clear hK K
    refine take_k (i := 11) (v := ?_) rfl (by kernel_rfl) (by kernel_rfl) (by kernel_rfl) (by rfl) ?_ hS ?_
    rotate_left
    · rintro w' ⟨s0, s1, s2, s3, s4⟩
      unfold opVal
      go_simp
      rfl
    intro K hK
    go_simp
    refine hK _ ?_
    clear hK K
    refine take_k (i := 12) (v := ?_) rfl (by kernel_rfl) (by kernel_rfl) (by kernel_rfl) (by rfl) ?_ hS ?_
    rotate_left
    · rintro w' ⟨s0, s1, s2, s3, s4⟩
      unfold opVal
      go_simp
      rfl
    intro K hK
    go_simp
    refine hK _ ?_
    clear hK K
    refine take_k (i := 13) (v := ?_) rfl (by kernel_rfl) (by kernel_rfl) (by kernel_rfl) (by rfl) ?_ hS ?_
    rotate_left
    · rintro w' ⟨s0, s1, s2, s3, s4⟩
      unfold opVal
      go_simp
      rfl
    intro K hK
    go_simp
    refine hK _ ?_
    clear hK K
    refine take_k (i := 14) (v := ?_) rfl (by kernel_rfl) (by kernel_rfl) (by kernel_rfl) (by rfl) ?_ hS ?_
    rotate_left
    · rintro w' ⟨s0, s1, s2, s3, s4⟩
      unfold opVal
      go_simp
      rfl
    intro K hK
    go_simp
    refine hK _ ?_
    clear hK K
    refine take_k (i := 15) (v := ?_) rfl (by kernel_rfl) (by kernel_rfl) (by kernel_rfl) (by rfl) ?_ hS ?_
    rotate_left
    · rintro w' ⟨s0, s1, s2, s3, s4⟩
      unfold opVal
      go_simp
      rfl
    intro K hK
    go_simp
    refine hK _ ?_
    clear hK K
    refine take_k (i := 16) (v := ?_) rfl (by kernel_rfl) (by kernel_rfl) (by kernel_rfl) (by rfl) ?_ hS ?_
    rotate_left
    · rintro w' ⟨s0, s1, s2, s3, s4⟩
      unfold opVal
      go_simp
      rfl
    intro K hK
    go_simp
    refine hK _ ?_
    clear hK K
    refine take_k (i := 17) (v := ?_) rfl (by kernel_rfl) (by kernel_rfl) (by kernel_rfl) (by rfl) ?_ hS ?_
    rotate_left
    · rintro w' ⟨s0, s1, s2, s3, s4⟩
      unfold opVal
      go_simp
      rfl
    intro K hK
    go_simp
    refine hK _ ?_
    clear hK K
    have io : Own W w.heap.size 60 5 v np xs := ⟨hrow⟩
    have ib0 : BlockIn W w.heap.size := ⟨hb0.lt⟩
    have ib1 : BlockIn W (w.heap.size + 1) := ⟨hb1.lt⟩
    have ib6 : BlockIn W B6 := ⟨hv.lt⟩
    have ibq : BlockIn W bq := ⟨Nat.lt_of_lt_of_le iq.lt hG.size⟩
    have ibt : BlockIn W bt := ⟨Nat.lt_of_lt_of_le it.lt hG.size⟩
    refine wpAnyH_ready (rs := [0, 18]) (by kernel_rfl) (by simp) ?_
    refine AllReadyH.cons rfl ?_ (AllReadyH.cons rfl ?_ AllReadyH.nil)
    · intro K hK
      go_simp
      refine hK.out _ _ hS (fun _ => ?_)
      clear hK K
      refine wpAnyH_ready (rs := [18]) (by kernel_rfl) (by simp) ?_
      refine AllReadyH.cons rfl ?_ AllReadyH.nil
      intro K hK
      go_simp
      refine hK.out _ _ ⟨by go_simp, by go_simp, by go_simp, by go_simp, by go_simp⟩ (fun _ => ?_)
      clear hK K
      refine wpAnyH_ready (rs := [19]) (by kernel_rfl) (by simp) ?_
      refine AllReadyH.cons rfl ?_ AllReadyH.nil
      intro K hK
      refine step_append_lies _ (by rfl) _ _ 56 (by rfl) w.heap.size 60 i0 _ 5 40 Try.underlying56 hi hz0 hzz1 hzz2 (by rfl) (by decide) v _ _ (by rfl) Own.is ⟨_, 0, none⟩ 1 1 [.int .i64 pm, .int .i64 (xf : Int), .int .i64 (xl : Int), .int .i64 ta, .int .i64 tz] (by rfl) (by rfl) news_row (by simp [Value.oneCell']) (by decide) hlen2 hlen3 (Nat.le_trans hG.size (by simp)) _ rfl ?_
      intro g1 cap1' w1 hown1 hgrow1 hat1 hlt1
      have hg1 : Grew w w1 := Grew.append (by repeat (first | with_reducible exact Grew.refl _ | with_reducible apply Grew.alloc | with_reducible apply Grew.later | with_reducible apply Grew.drew | with_reducible apply Grew.store | with_reducible assumption)) (Own.is (v := v) (base := w.heap.size) (e := 60) (size := 5)) (Nat.le_refl _) hgrow1
      have hgr : (W.alloc (.cells #[.int .i64 pm, .int .i64 (xf : Int), .int .i64 (xl : Int), .int .i64 ta, .int .i64 tz] 60)).grownBy w1 v.ownBlock := ⟨hgrow1.os, hgrow1.tape, hgrow1.output, hgrow1.size, hgrow1.block⟩
      obtain ⟨hv1, hv2, hr2, hk2, hb2⟩ := hv.appended (by decide) hrow hG.size hB6 hown1 hgr
      have y0 : Boxed w1 w.heap.size 22 (.slice (some ⟨bq, oq, none⟩) P.length cap1) := (hb0.alloc _).kept hgr (hb0.not_row (by decide) hrow)
      have y1 : Boxed w1 (w.heap.size + 1) 55 (.slice (some ⟨bt, ot, none⟩) T.length cap2) := (hb1.alloc _).kept hgr (hb1.not_row (by decide) hrow)
      have y7 : Boxed w1 (B6 + 1) 22 (.slice (some ⟨bq, oq, none⟩) P.length cap1) := (hb7.alloc _).kept hgr (hb7.not_row (by decide) hrow)
      have hc6 := hv1.cell
      have hf6 := hv1.frozen
      go_simp
      refine hK.out _ _ ⟨y0.cell, y1.cell, hg1.cell hq, hg1.cell ht1, hg1.cell ht2⟩ (fun _ => ?_)
      clear hK K
      refine wpAnyH_ready (rs := [20]) (by kernel_rfl) (by simp) ?_
      refine AllReadyH.cons rfl ?_ AllReadyH.nil
      intro K hK
      go_simp
      have hg2 := hg1.setCell (p := ⟨B6, 0, none⟩) hB6 (.slice (some ⟨g1, 0, none⟩) (np + 1) cap1')
      have z0 := y0.other (Ne.symm hne0) (.slice (some ⟨g1, 0, none⟩) (np + 1) cap1')
      have z1 := y1.other (Ne.symm hne1) (.slice (some ⟨g1, 0, none⟩) (np + 1) cap1')
      refine hK.out _ _ ⟨z0.cell, z1.cell, hg2.cell hq, hg2.cell ht1, hg2.cell ht2⟩ (fun _ => ?_)
      clear hK K
      refine wpAnyH_done (by kernel_rfl) ?_ _
      refine ⟨rfl, ?_⟩
      gi_wp2
      have z7 := y7.other (show B6 + 1 ≠ B6 by omega) (.slice (some ⟨g1, 0, none⟩) (np + 1) cap1')
      exact ⟨hk2.from _, ⟨hb2, (show _ = _ from z7).trans (show _ = _ from hb7).symm⟩, ⟨_, hv2, by rw [Hl1.out, Hl2.out]; exact hr2, trivial⟩, z0, z1, z7, hg2⟩
    · intro K hK
      go_simp
      refine hK.out _ _ ⟨by go_simp, by go_simp, by go_simp, by go_simp, by go_simp⟩ (fun _ => ?_)
      clear hK K
      refine wpAnyH_ready (rs := [0]) (by kernel_rfl) (by simp) ?_
      refine AllReadyH.cons rfl ?_ AllReadyH.nil
      intro K hK
      go_simp
      refine hK.out _ _ ⟨by go_simp, by go_simp, by go_simp, by go_simp, by go_simp⟩ (fun _ => ?_)
      clear hK K
      refine wpAnyH_ready (rs := [19]) (by kernel_rfl) (by simp) ?_
      refine AllReadyH.cons rfl ?_ AllReadyH.nil
      intro K hK
      refine step_append_lies _ (by rfl) _ _ 56 (by rfl) w.heap.size 60 i0 _ 5 40 Try.underlying56 hi hz0 hzz1 hzz2 (by rfl) (by decide) v _ _ (by rfl) Own.is ⟨_, 0, none⟩ 1 1 [.int .i64 pm, .int .i64 (xf : Int), .int .i64 (xl : Int), .int .i64 ta, .int .i64 tz] (by rfl) (by rfl) news_row (by simp [Value.oneCell']) (by decide) hlen2 hlen3 (Nat.le_trans hG.size (by simp)) _ rfl ?_
      intro g1 cap1' w1 hown1 hgrow1 hat1 hlt1
      have hg1 : Grew w w1 := Grew.append (by repeat (first | with_reducible exact Grew.refl _ | with_reducible apply Grew.alloc | with_reducible apply Grew.later | with_reducible apply Grew.drew | with_reducible apply Grew.store | with_reducible assumption)) (Own.is (v := v) (base := w.heap.size) (e := 60) (size := 5)) (Nat.le_refl _) hgrow1
      have hgr : (W.alloc (.cells #[.int .i64 pm, .int .i64 (xf : Int), .int .i64 (xl : Int), .int .i64 ta, .int .i64 tz] 60)).grownBy w1 v.ownBlock := ⟨hgrow1.os, hgrow1.tape, hgrow1.output, hgrow1.size, hgrow1.block⟩
      obtain ⟨hv1, hv2, hr2, hk2, hb2⟩ := hv.appended (by decide) hrow hG.size hB6 hown1 hgr
      have y0 : Boxed w1 w.heap.size 22 (.slice (some ⟨bq, oq, none⟩) P.length cap1) := (hb0.alloc _).kept hgr (hb0.not_row (by decide) hrow)
      have y1 : Boxed w1 (w.heap.size + 1) 55 (.slice (some ⟨bt, ot, none⟩) T.length cap2) := (hb1.alloc _).kept hgr (hb1.not_row (by decide) hrow)
      have y7 : Boxed w1 (B6 + 1) 22 (.slice (some ⟨bq, oq, none⟩) P.length cap1) := (hb7.alloc _).kept hgr (hb7.not_row (by decide) hrow)
      have hc6 := hv1.cell
      have hf6 := hv1.frozen
      go_simp
      refine hK.out _ _ ⟨y0.cell, y1.cell, hg1.cell hq, hg1.cell ht1, hg1.cell ht2⟩ (fun _ => ?_)
      clear hK K
      refine wpAnyH_ready (rs := [20]) (by kernel_rfl) (by simp) ?_
      refine AllReadyH.cons rfl ?_ AllReadyH.nil
      intro K hK
      go_simp
      have hg2 := hg1.setCell (p := ⟨B6, 0, none⟩) hB6 (.slice (some ⟨g1, 0, none⟩) (np + 1) cap1')
      have z0 := y0.other (Ne.symm hne0) (.slice (some ⟨g1, 0, none⟩) (np + 1) cap1')
      have z1 := y1.other (Ne.symm hne1) (.slice (some ⟨g1, 0, none⟩) (np + 1) cap1')
      refine hK.out _ _ ⟨z0.cell, z1.cell, hg2.cell hq, hg2.cell ht1, hg2.cell ht2⟩ (fun _ => ?_)
      clear hK K
      refine wpAnyH_done (by kernel_rfl) ?_ _
      refine ⟨rfl, ?_⟩
      gi_wp2
      have z7 := y7.other (show B6 + 1 ≠ B6 by omega) (.slice (some ⟨g1, 0, none⟩) (np + 1) cap1')
      exact ⟨hk2.from _, ⟨hb2, (show _ = _ from z7).trans (show _ = _ from hb7).symm⟩, ⟨_, hv2, by rw [Hl1.out, Hl2.out]; exact hr2, trivial⟩, z0, z1, z7, hg2⟩
  case done =>
    rintro D ys W hD hys ⟨⟨v, hv, hrow, -⟩, hb0, hb1, hb7, hB⟩ hK
    have hcv := hv.cell
    have hph := phOfs_all P T ys hys
    gi_wp2
    refine ⟨by simp, .inl ⟨_, _, rfl, run_takeDeferred hK, ?_⟩⟩
    have hrow2 := ownsRow_putObj hrow (.deferred none) hK rfl
    rw [hph] at hrow2
    exact ⟨.tuple #[v, .int .i64 0], (by simp [results, Try.results20, go_sem]), RetPh.full Hc.out (SlAt.of_owns hrow2) (hB.trans (belowK_b (w := w) (Nat.le_refl _) W D _ _ (by have := gW.size; omega) hK rfl rfl))⟩
  case stop =>
    rintro D c pre W hD _ h _
    exact h.elim
theorem abPhases_any (P : List Int) (T : List Tube) (v1 v2 : Value) (w : World) (hP : SlAt w v1 P.length (P.flatMap intC)) (hT : SlAt w v2 T.length (T.flatMap Tube.cells)) : Calls Try.prog 20 #[v1, v2] w (RetPh (phasesCode P T) (phasesL P T) w) := by
  by_cases hc : phasesCode P T = 0
  · have h := hc
    unfold phasesCode at h
    split at h
    · rename_i hl
      split at h
      · rename_i ha
        exact abPhases_run P T v1 v2 w hP hT hl.1 ha.1 ha.2.1 ha.2.2 hc
      · exact absurd h (by decide)
    · exact absurd h (by decide)
  · exact abPhases_bad P T v1 v2 w hP hT hc
end Go.Proofs.Ytjnednehcjfkmaa
