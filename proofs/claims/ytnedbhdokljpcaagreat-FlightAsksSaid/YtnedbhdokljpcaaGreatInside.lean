/-
  Contracts of flight.Inside, ullageref03.Inside.
-/
import Derived.Test.YtnedbhdokljpcaaGreatClimb
import Derived.Test.YtnedbhdokljpcaaGreatOrder
namespace Go.Proofs.YtnedbhdokljpcaaGreat
open Go.RowKit Go.Shelf
set_option maxRecDepth 100000
set_option maxHeartbeats 8000000
theorem boxAt_12 {w : World} {q : Nat} {v0 v1 v2 v3 v4 v5 v6 v7 v8 v9 v10 v11 : Value} (h0 : w.cell? ⟨q, 0, none⟩ = some v0 ∧ w.frozen? ⟨q, 0, none⟩ = false) (h1 : w.cell? ⟨q, 1, none⟩ = some v1 ∧ w.frozen? ⟨q, 1, none⟩ = false) (h2 : w.cell? ⟨q, 2, none⟩ = some v2 ∧ w.frozen? ⟨q, 2, none⟩ = false) (h3 : w.cell? ⟨q, 3, none⟩ = some v3 ∧ w.frozen? ⟨q, 3, none⟩ = false) (h4 : w.cell? ⟨q, 4, none⟩ = some v4 ∧ w.frozen? ⟨q, 4, none⟩ = false) (h5 : w.cell? ⟨q, 5, none⟩ = some v5 ∧ w.frozen? ⟨q, 5, none⟩ = false) (h6 : w.cell? ⟨q, 6, none⟩ = some v6 ∧ w.frozen? ⟨q, 6, none⟩ = false) (h7 : w.cell? ⟨q, 7, none⟩ = some v7 ∧ w.frozen? ⟨q, 7, none⟩ = false) (h8 : w.cell? ⟨q, 8, none⟩ = some v8 ∧ w.frozen? ⟨q, 8, none⟩ = false) (h9 : w.cell? ⟨q, 9, none⟩ = some v9 ∧ w.frozen? ⟨q, 9, none⟩ = false) (h10 : w.cell? ⟨q, 10, none⟩ = some v10 ∧ w.frozen? ⟨q, 10, none⟩ = false) (h11 : w.cell? ⟨q, 11, none⟩ = some v11 ∧ w.frozen? ⟨q, 11, none⟩ = false) : BoxAt w q [v0, v1, v2, v3, v4, v5, v6, v7, v8, v9, v10, v11] := fun i v hv => by
  match i, hv with
  | 0, hv => cases hv; exact h0
  | 1, hv => cases hv; exact h1
  | 2, hv => cases hv; exact h2
  | 3, hv => cases hv; exact h3
  | 4, hv => cases hv; exact h4
  | 5, hv => cases hv; exact h5
  | 6, hv => cases hv; exact h6
  | 7, hv => cases hv; exact h7
  | 8, hv => cases hv; exact h8
  | 9, hv => cases hv; exact h9
  | 10, hv => cases hv; exact h10
  | 11, hv => cases hv; exact h11
  | n + 12, hv => simp at hv
/-- The six spans of a place and a velocity. -/
def six (p v : Bx) : List Sp := [p.x, p.y, p.z, v.x, v.y, v.z]
def sixAt (p v : Bx) (i : Nat) : Sp := (six p v).getD i z0
def inF (s : State) (p v : Bx) (i : Nat) : Bool := (sixAt s.p s.v i).inB (sixAt p v i)
def mayF (s : State) (p v : Bx) (i : Nat) : Bool := orderN (sixAt s.p s.v i) (sixAt p v i) == 0
def allTo (f : Nat → Bool) : Nat → Bool
  | 0 => true
  | k + 1 => allTo f k && f k
def insideOk (s : State) (p v : Bx) : Bool := s.okB && (p.okB && v.okB)
def sureR (s : State) (p v : Bx) : Bool := insideOk s p v && allTo (inF s p v) 6
def mayR (s : State) (p v : Bx) : Bool := insideOk s p v && allTo (mayF s p v) 6
theorem six_at {w : World} {q : Nat} {p v : Bx} (h : BoxAt w q [.int .i64 p.x.lo, .int .i64 p.x.hi, .int .i64 p.y.lo, .int .i64 p.y.hi, .int .i64 p.z.lo, .int .i64 p.z.hi, .int .i64 v.x.lo, .int .i64 v.x.hi, .int .i64 v.y.lo, .int .i64 v.y.hi, .int .i64 v.z.lo, .int .i64 v.z.hi]) (i : Nat) (hi : i < 6) : w.cell? ⟨q, i * 2, none⟩ = some (.int .i64 (sixAt p v i).lo) ∧ w.cell? ⟨q, i * 2 + 1, none⟩ = some (.int .i64 (sixAt p v i).hi) := by
  match i, hi with
  | 0, _ => exact ⟨(h 0 _ rfl).1, (h 1 _ rfl).1⟩
  | 1, _ => exact ⟨(h 2 _ rfl).1, (h 3 _ rfl).1⟩
  | 2, _ => exact ⟨(h 4 _ rfl).1, (h 5 _ rfl).1⟩
  | 3, _ => exact ⟨(h 6 _ rfl).1, (h 7 _ rfl).1⟩
  | 4, _ => exact ⟨(h 8 _ rfl).1, (h 9 _ rfl).1⟩
  | 5, _ => exact ⟨(h 10 _ rfl).1, (h 11 _ rfl).1⟩
theorem world_as {p : World → Prop} {z w : World} (g : Grew z w) (h : ∀ y : Later z, y.world = w → p y.world) : p w := h ⟨w, g⟩ rfl
theorem flOf_any (p v : Bx) (w : World) : Calls Tryz.prog 63 #[.agg #[.int .i64 p.x.lo, .int .i64 p.x.hi, .int .i64 p.y.lo, .int .i64 p.y.hi, .int .i64 p.z.lo, .int .i64 p.z.hi], .agg #[.int .i64 v.x.lo, .int .i64 v.x.hi, .int .i64 v.y.lo, .int .i64 v.y.hi, .int .i64 v.z.lo, .int .i64 v.z.hi]] w fun e w' => e = .returned (.agg #[.int .i64 p.x.lo, .int .i64 p.x.hi, .int .i64 p.y.lo, .int .i64 p.y.hi, .int .i64 p.z.lo, .int .i64 p.z.hi, .int .i64 v.x.lo, .int .i64 v.x.hi, .int .i64 v.y.lo, .int .i64 v.y.hi, .int .i64 v.z.lo, .int .i64 v.z.hi]) ∧ Grew w w' := by
  go_enter Tryz.func63, Tryz.ntmps63
  go_wp2
  refine bodyPost_ret (by (simp [results, Tryz.results63, go_sem] <;> rfl)) rfl ?_
  exact ⟨rfl, (by repeat (first | with_reducible exact Grew.refl _ | with_reducible apply Grew.alloc | with_reducible apply Grew.later | with_reducible apply Grew.drew | with_reducible apply Grew.store | with_reducible assumption))⟩
theorem flInside_no (s : State) (p v : Bx) (h : insideOk s p v = false) (w : World) : Calls Tryz.prog 16 #[.agg #[.int .i64 s.t, .int .i64 s.p.x.lo, .int .i64 s.p.x.hi, .int .i64 s.p.y.lo, .int .i64 s.p.y.hi, .int .i64 s.p.z.lo, .int .i64 s.p.z.hi, .int .i64 s.v.x.lo, .int .i64 s.v.x.hi, .int .i64 s.v.y.lo, .int .i64 s.v.y.hi, .int .i64 s.v.z.lo, .int .i64 s.v.z.hi, .int .i64 s.m.lo, .int .i64 s.m.hi], .agg #[.int .i64 p.x.lo, .int .i64 p.x.hi, .int .i64 p.y.lo, .int .i64 p.y.hi, .int .i64 p.z.lo, .int .i64 p.z.hi], .agg #[.int .i64 v.x.lo, .int .i64 v.x.hi, .int .i64 v.y.lo, .int .i64 v.y.hi, .int .i64 v.z.lo, .int .i64 v.z.hi]] w fun e w' => e = .returned (.tuple #[.bool (sureR s p v), .bool (mayR s p v)]) ∧ Grew w w' := by
  have HR := Lib.hid (show sureR s p v = false ∧ mayR s p v = false by unfold sureR mayR; rw [h]; exact ⟨rfl, rfl⟩)
  unfold insideOk at h
  cases h1 : s.okB
  · have HS := Lib.hid (fun w' => is_int (show codeB s.okB 2 = 2 by rw [h1]; rfl) (flState_any s w'))
    clear h h1
    go_enter Tryz.func16, Tryz.ntmps16
    go_wp2_with (first | (go_at_call 62; (with_reducible refine call_later (HS.out _) ?_); intro u) | ((with_reducible refine wp_region_later ?_ ?_ ?_); (· kernel_rfl); (· kernel_rfl); (try simp only [List.append_eq, List.cons_append, List.nil_append]); (repeat (go_big_quiet_step ((first | (go_at_call 62; (with_reducible exact call_quiet (HS.out _))))))); refine wpQuiet_nil ?_; rintro _ ⟨u, rfl⟩))
    go_ret2
    exact ⟨by rw [HR.out.1, HR.out.2]; rfl, (by repeat (first | with_reducible exact Grew.refl _ | with_reducible apply Grew.alloc | with_reducible apply Grew.later | with_reducible apply Grew.drew | with_reducible apply Grew.store | with_reducible assumption))⟩
  · have HS := Lib.hid (fun w' => is_int (show codeB s.okB 2 = 0 by rw [h1]; rfl) (flState_any s w'))
    rw [h1, Bool.true_and] at h
    clear h1
    go_enter Tryz.func16, Tryz.ntmps16
    go_wp2_with (first | (go_at_call 62; (with_reducible refine call_later (HS.out _) ?_); intro u) | (go_at_call 36; (with_reducible refine call_later (is_bool h (flBoxes_two p v _ _ (SlAt.fresh _ _ _ _ (by simp [maxLen])))) ?_); intro u) | ((with_reducible refine wp_region_later ?_ ?_ ?_); (· kernel_rfl); (· kernel_rfl); (try simp only [List.append_eq, List.cons_append, List.nil_append]); (repeat (go_big_quiet_step ((first | (go_at_call 62; (with_reducible exact call_quiet (HS.out _))) | (go_at_call 36; (with_reducible exact call_quiet (is_bool h (flBoxes_two p v _ _ (SlAt.fresh _ _ _ _ (by simp [maxLen])))))))))); refine wpQuiet_nil ?_; rintro _ ⟨u, rfl⟩))
    go_ret2
    exact ⟨by rw [HR.out.1, HR.out.2]; rfl, (by repeat (first | with_reducible exact Grew.refl _ | with_reducible apply Grew.alloc | with_reducible apply Grew.later | with_reducible apply Grew.drew | with_reducible apply Grew.store | with_reducible assumption))⟩
theorem flInside_yes (s : State) (pP vV : Bx) (h : insideOk s pP vV = true) (w : World) : Calls Tryz.prog 16 #[.agg #[.int .i64 s.t, .int .i64 s.p.x.lo, .int .i64 s.p.x.hi, .int .i64 s.p.y.lo, .int .i64 s.p.y.hi, .int .i64 s.p.z.lo, .int .i64 s.p.z.hi, .int .i64 s.v.x.lo, .int .i64 s.v.x.hi, .int .i64 s.v.y.lo, .int .i64 s.v.y.hi, .int .i64 s.v.z.lo, .int .i64 s.v.z.hi, .int .i64 s.m.lo, .int .i64 s.m.hi], .agg #[.int .i64 pP.x.lo, .int .i64 pP.x.hi, .int .i64 pP.y.lo, .int .i64 pP.y.hi, .int .i64 pP.z.lo, .int .i64 pP.z.hi], .agg #[.int .i64 vV.x.lo, .int .i64 vV.x.hi, .int .i64 vV.y.lo, .int .i64 vV.y.hi, .int .i64 vV.z.lo, .int .i64 vV.z.hi]] w fun e w' => e = .returned (.tuple #[.bool (sureR s pP vV), .bool (mayR s pP vV)]) ∧ Grew w w' := by
  have HR := Lib.hid (show sureR s pP vV = allTo (inF s pP vV) 6 ∧ mayR s pP vV = allTo (mayF s pP vV) 6 by unfold sureR mayR; rw [h]; exact ⟨rfl, rfl⟩)
  unfold insideOk at h
  rw [Bool.and_eq_true] at h
  obtain ⟨h1, h2⟩ := h
  have HS := Lib.hid (fun w' => is_int (show codeB s.okB 2 = 0 by rw [h1]; rfl) (flState_any s w'))
  have HO1 := Lib.hid (fun w => flOf_any s.p s.v w)
  have HO2 := Lib.hid (fun w => flOf_any pP vV w)
  clear h1
  go_enter Tryz.func16, Tryz.ntmps16
  go_wp2_with (first | (go_at_call 62; (with_reducible refine call_later (HS.out _) ?_); intro u) | (go_at_call 36; (with_reducible refine call_later (is_bool h2 (flBoxes_two pP vV _ _ (SlAt.fresh _ _ _ _ (by simp [maxLen])))) ?_); intro u) | ((with_reducible refine wp_region_later ?_ ?_ ?_); (· kernel_rfl); (· kernel_rfl); (try simp only [List.append_eq, List.cons_append, List.nil_append]); (repeat (go_big_quiet_step ((first | (go_at_call 62; (with_reducible exact call_quiet (HS.out _))) | (go_at_call 36; (with_reducible exact call_quiet (is_bool h2 (flBoxes_two pP vV _ _ (SlAt.fresh _ _ _ _ (by simp [maxLen])))))))))); refine wpQuiet_nil ?_; rintro _ ⟨u, rfl⟩))
  refine wp_region_grown 10 [8, 9] [4, 7] [] (fun W0 => [(8, BoxR W0 [.int .i64 0, .int .i64 0, .int .i64 0, .int .i64 0, .int .i64 0, .int .i64 0, .int .i64 0, .int .i64 0, .int .i64 0, .int .i64 0, .int .i64 0, .int .i64 0]), (9, BoxR W0 [.int .i64 0, .int .i64 0, .int .i64 0, .int .i64 0, .int .i64 0, .int .i64 0, .int .i64 0, .int .i64 0, .int .i64 0, .int .i64 0, .int .i64 0, .int .i64 0])]) [.agg #[.int .i64 s.p.x.lo, .int .i64 s.p.x.hi, .int .i64 s.p.y.lo, .int .i64 s.p.y.hi, .int .i64 s.p.z.lo, .int .i64 s.p.z.hi, .int .i64 s.v.x.lo, .int .i64 s.v.x.hi, .int .i64 s.v.y.lo, .int .i64 s.v.y.hi, .int .i64 s.v.z.lo, .int .i64 s.v.z.hi], .agg #[.int .i64 pP.x.lo, .int .i64 pP.x.hi, .int .i64 pP.y.lo, .int .i64 pP.y.hi, .int .i64 pP.z.lo, .int .i64 pP.z.hi, .int .i64 vV.x.lo, .int .i64 vV.x.hi, .int .i64 vV.y.lo, .int .i64 vV.y.hi, .int .i64 vV.z.lo, .int .i64 vV.z.hi]] [10, 11] (by rfl) (by intro W0 x hx; simp only [List.mem_cons, List.not_mem_nil, or_false] at hx; rcases hx with rfl | rfl <;> first | exact good_box _ _ | exact good_box _ _) (by kernel_rfl) (by kernel_rfl) (by kernel_rfl) ?_
  intro p
  apply Exists.intro
  apply And.intro
  apply lexg_pure (by kernel_rfl)
  · intro u; unfold opPure; go_simp; rfl
  apply lexg_pure (by kernel_rfl)
  · intro u; unfold opPure; go_simp; rfl
  apply lexg_pure (by kernel_rfl)
  · intro u; unfold opPure; go_simp; rfl
  apply lexg_pure (by kernel_rfl)
  · intro u; unfold opPure; go_simp; rfl
  apply lexg_call 0 (by kernel_rfl) (by rfl) (by decide)
  · intro u hF; clear hF; unfold opCall; go_simp; exact HO1.out _
  apply lexg_pure (by kernel_rfl)
  · intro u; unfold opPure; go_simp; rfl
  apply lexg_pure (by kernel_rfl)
  · intro u; unfold opPure; go_simp; rfl
  apply lexg_call 1 (by kernel_rfl) (by rfl) (by decide)
  · intro u hF; clear hF; unfold opCall; go_simp; exact HO2.out _
  apply lexg_make (by kernel_rfl)
  · intro u hF; clear hF; unfold opMake; go_simp; exact made_box _ _ _ _
  apply lexg_make (by kernel_rfl)
  · intro u hF; clear hF; unfold opMake; go_simp; exact made_box _ _ _ _
  apply lexg_end
  rotate_left
  · rfl
  intro u hR hD
  obtain ⟨q8, e8, hB8, kB8, nB8⟩ := (show BoxR _ [.int .i64 0, .int .i64 0, .int .i64 0, .int .i64 0, .int .i64 0, .int .i64 0, .int .i64 0, .int .i64 0, .int .i64 0, .int .i64 0, .int .i64 0, .int .i64 0] (p 8) u.world from hR 8 (by decide))
  obtain ⟨q9, e9, hB9, kB9, nB9⟩ := (show BoxR _ [.int .i64 0, .int .i64 0, .int .i64 0, .int .i64 0, .int .i64 0, .int .i64 0, .int .i64 0, .int .i64 0, .int .i64 0, .int .i64 0, .int .i64 0, .int .i64 0] (p 9) u.world from hR 9 (by decide))
  have hd9 := hD 8 9 (by decide) (by decide) (by decide)
  rw [e8, e9] at hd9
  obtain ⟨ap8_9, ap9_8⟩ := apart_of_differ hd9
  clear hd9
  clear hR hD
  rw [e8]
  clear e8
  have oB8 := apart_oldL nB8
  have oC8 := apart_oldR nB8
  have nC8 : NewFor w q8 := ⟨Nat.le_trans (Grew.size (by repeat (first | with_reducible exact Grew.refl _ | with_reducible apply Grew.alloc | with_reducible apply Grew.later | with_reducible apply Grew.drew | with_reducible apply Grew.store | with_reducible assumption))) nB8.le⟩
  have hB8_0 := (hB8 0 _ rfl).1
  have hB8f0 := (hB8 0 _ rfl).2
  have hB8i0 : HasCell (u.world) (q8) 0 := ⟨_, hB8_0⟩
  have hB8_1 := (hB8 1 _ rfl).1
  have hB8f1 := (hB8 1 _ rfl).2
  have hB8i1 : HasCell (u.world) (q8) 1 := ⟨_, hB8_1⟩
  have hB8_2 := (hB8 2 _ rfl).1
  have hB8f2 := (hB8 2 _ rfl).2
  have hB8i2 : HasCell (u.world) (q8) 2 := ⟨_, hB8_2⟩
  have hB8_3 := (hB8 3 _ rfl).1
  have hB8f3 := (hB8 3 _ rfl).2
  have hB8i3 : HasCell (u.world) (q8) 3 := ⟨_, hB8_3⟩
  have hB8_4 := (hB8 4 _ rfl).1
  have hB8f4 := (hB8 4 _ rfl).2
  have hB8i4 : HasCell (u.world) (q8) 4 := ⟨_, hB8_4⟩
  have hB8_5 := (hB8 5 _ rfl).1
  have hB8f5 := (hB8 5 _ rfl).2
  have hB8i5 : HasCell (u.world) (q8) 5 := ⟨_, hB8_5⟩
  have hB8_6 := (hB8 6 _ rfl).1
  have hB8f6 := (hB8 6 _ rfl).2
  have hB8i6 : HasCell (u.world) (q8) 6 := ⟨_, hB8_6⟩
  have hB8_7 := (hB8 7 _ rfl).1
  have hB8f7 := (hB8 7 _ rfl).2
  have hB8i7 : HasCell (u.world) (q8) 7 := ⟨_, hB8_7⟩
  have hB8_8 := (hB8 8 _ rfl).1
  have hB8f8 := (hB8 8 _ rfl).2
  have hB8i8 : HasCell (u.world) (q8) 8 := ⟨_, hB8_8⟩
  have hB8_9 := (hB8 9 _ rfl).1
  have hB8f9 := (hB8 9 _ rfl).2
  have hB8i9 : HasCell (u.world) (q8) 9 := ⟨_, hB8_9⟩
  have hB8_10 := (hB8 10 _ rfl).1
  have hB8f10 := (hB8 10 _ rfl).2
  have hB8i10 : HasCell (u.world) (q8) 10 := ⟨_, hB8_10⟩
  have hB8_11 := (hB8 11 _ rfl).1
  have hB8f11 := (hB8 11 _ rfl).2
  have hB8i11 : HasCell (u.world) (q8) 11 := ⟨_, hB8_11⟩
  have hB8b : BlockIn (u.world) (q8) := BlockIn.of_cell hB8_0
  clear hB8
  rw [e9]
  clear e9
  have oB9 := apart_oldL nB9
  have oC9 := apart_oldR nB9
  have nC9 : NewFor w q9 := ⟨Nat.le_trans (Grew.size (by repeat (first | with_reducible exact Grew.refl _ | with_reducible apply Grew.alloc | with_reducible apply Grew.later | with_reducible apply Grew.drew | with_reducible apply Grew.store | with_reducible assumption))) nB9.le⟩
  have hB9_0 := (hB9 0 _ rfl).1
  have hB9f0 := (hB9 0 _ rfl).2
  have hB9i0 : HasCell (u.world) (q9) 0 := ⟨_, hB9_0⟩
  have hB9_1 := (hB9 1 _ rfl).1
  have hB9f1 := (hB9 1 _ rfl).2
  have hB9i1 : HasCell (u.world) (q9) 1 := ⟨_, hB9_1⟩
  have hB9_2 := (hB9 2 _ rfl).1
  have hB9f2 := (hB9 2 _ rfl).2
  have hB9i2 : HasCell (u.world) (q9) 2 := ⟨_, hB9_2⟩
  have hB9_3 := (hB9 3 _ rfl).1
  have hB9f3 := (hB9 3 _ rfl).2
  have hB9i3 : HasCell (u.world) (q9) 3 := ⟨_, hB9_3⟩
  have hB9_4 := (hB9 4 _ rfl).1
  have hB9f4 := (hB9 4 _ rfl).2
  have hB9i4 : HasCell (u.world) (q9) 4 := ⟨_, hB9_4⟩
  have hB9_5 := (hB9 5 _ rfl).1
  have hB9f5 := (hB9 5 _ rfl).2
  have hB9i5 : HasCell (u.world) (q9) 5 := ⟨_, hB9_5⟩
  have hB9_6 := (hB9 6 _ rfl).1
  have hB9f6 := (hB9 6 _ rfl).2
  have hB9i6 : HasCell (u.world) (q9) 6 := ⟨_, hB9_6⟩
  have hB9_7 := (hB9 7 _ rfl).1
  have hB9f7 := (hB9 7 _ rfl).2
  have hB9i7 : HasCell (u.world) (q9) 7 := ⟨_, hB9_7⟩
  have hB9_8 := (hB9 8 _ rfl).1
  have hB9f8 := (hB9 8 _ rfl).2
  have hB9i8 : HasCell (u.world) (q9) 8 := ⟨_, hB9_8⟩
  have hB9_9 := (hB9 9 _ rfl).1
  have hB9f9 := (hB9 9 _ rfl).2
  have hB9i9 : HasCell (u.world) (q9) 9 := ⟨_, hB9_9⟩
  have hB9_10 := (hB9 10 _ rfl).1
  have hB9f10 := (hB9 10 _ rfl).2
  have hB9i10 : HasCell (u.world) (q9) 10 := ⟨_, hB9_10⟩
  have hB9_11 := (hB9 11 _ rfl).1
  have hB9f11 := (hB9 11 _ rfl).2
  have hB9i11 : HasCell (u.world) (q9) 11 := ⟨_, hB9_11⟩
  have hB9b : BlockIn (u.world) (q9) := BlockIn.of_cell hB9_0
  clear hB9
  refine tail_store (by rfl) ?_; unfold opStore; go_simp
  refine tail_store (by rfl) ?_; unfold opStore; go_simp
  refine tail_end ?_
  refine world_as (z := w) (w := _) (by repeat (first | with_reducible exact Grew.refl _ | with_reducible apply Grew.alloc | with_reducible apply Grew.later | with_reducible apply Grew.drew | with_reducible apply Grew.store | with_reducible assumption)) fun y hy => ?_
  have b8 : BoxAt y.world q8 [.int .i64 s.p.x.lo, .int .i64 s.p.x.hi, .int .i64 s.p.y.lo, .int .i64 s.p.y.hi, .int .i64 s.p.z.lo, .int .i64 s.p.z.hi, .int .i64 s.v.x.lo, .int .i64 s.v.x.hi, .int .i64 s.v.y.lo, .int .i64 s.v.y.hi, .int .i64 s.v.z.lo, .int .i64 s.v.z.hi] := by rw [hy]; exact boxAt_12 ⟨by go_simp, by go_simp⟩ ⟨by go_simp, by go_simp⟩ ⟨by go_simp, by go_simp⟩ ⟨by go_simp, by go_simp⟩ ⟨by go_simp, by go_simp⟩ ⟨by go_simp, by go_simp⟩ ⟨by go_simp, by go_simp⟩ ⟨by go_simp, by go_simp⟩ ⟨by go_simp, by go_simp⟩ ⟨by go_simp, by go_simp⟩ ⟨by go_simp, by go_simp⟩ ⟨by go_simp, by go_simp⟩
  have b9 : BoxAt y.world q9 [.int .i64 pP.x.lo, .int .i64 pP.x.hi, .int .i64 pP.y.lo, .int .i64 pP.y.hi, .int .i64 pP.z.lo, .int .i64 pP.z.hi, .int .i64 vV.x.lo, .int .i64 vV.x.hi, .int .i64 vV.y.lo, .int .i64 vV.y.hi, .int .i64 vV.z.lo, .int .i64 vV.z.hi] := by rw [hy]; exact boxAt_12 ⟨by go_simp, by go_simp⟩ ⟨by go_simp, by go_simp⟩ ⟨by go_simp, by go_simp⟩ ⟨by go_simp, by go_simp⟩ ⟨by go_simp, by go_simp⟩ ⟨by go_simp, by go_simp⟩ ⟨by go_simp, by go_simp⟩ ⟨by go_simp, by go_simp⟩ ⟨by go_simp, by go_simp⟩ ⟨by go_simp, by go_simp⟩ ⟨by go_simp, by go_simp⟩ ⟨by go_simp, by go_simp⟩
  have HB8 := Lib.hid (six_at b8)
  have HB9 := Lib.hid (six_at b9)
  have ib8 : BlockIn y.world q8 := BlockIn.of_cell (b8 0 _ rfl).1
  have ib9 : BlockIn y.world q9 := BlockIn.of_cell (b9 0 _ rfl).1
  clear hy b8 b9
  generalize hf : inF s pP vV = fI at *
  generalize hg : mayF s pP vV = gM at *
  have HW := Lib.hid (fun i w => show Calls Tryz.prog 64 #[.agg #[.int .i64 (sixAt s.p s.v i).lo, .int .i64 (sixAt s.p s.v i).hi], .agg #[.int .i64 (sixAt pP vV i).lo, .int .i64 (sixAt pP vV i).hi]] w fun e w' => e = .returned (.bool (fI i)) ∧ Grew w w' from by rw [← hf]; exact spWithin_any _ _ w)
  have HM := Lib.hid (fun i => show (orderN (sixAt s.p s.v i) (sixAt pP vV i) == 0) = gM i by rw [← hg]; rfl)
  have HN := Lib.hid (fun i w => spOrder_any (sixAt s.p s.v i) (sixAt pP vV i) w)
  clear hf hg h2 HS HO1 HO2
  go_wp2
  go_loopw [6, 7, 29] (fun a b t wr => ∃ i : Nat, t = .int .i64 i ∧ a = .bool (allTo fI i) ∧ b = .bool (allTo gM i) ∧ i ≤ 6 ∧ Grew y.world wr) (fun _ _ t _ => 6 - (intOf t).toNat)
  case atStart => exact ⟨0, rfl, rfl, rfl, by omega, (by repeat (first | with_reducible exact Grew.refl _ | with_reducible apply Grew.alloc | with_reducible apply Grew.later | with_reducible apply Grew.drew | with_reducible apply Grew.store | with_reducible assumption))⟩
  case round =>
    obtain ⟨i, rfl, rfl, rfl, hi, hg⟩ := hrel
    obtain ⟨z, rfl⟩ := later_of hg
    clear hg
    by_cases hlt : i < 6
    · obtain ⟨c0, c1⟩ := HB8.out i hlt
      obtain ⟨d0, d1⟩ := HB9.out i hlt
      have hm := HM.out i
      have W1 := Lib.hid (HW.out i)
      have O1 := Lib.hid (HN.out i)
      have t1 : ((i : Nat) : Int) < 6 := by omega
      generalize sixAt s.p s.v i = a1 at *
      generalize sixAt pP vV i = a2 at *
      have e1 : allTo fI (i + 1) = (allTo fI i && fI i) := rfl
      have e2 : allTo gM (i + 1) = (allTo gM i && gM i) := rfl
      have E1 := Lib.hid e1
      have E2 := Lib.hid e2
      clear e1 e2 HM HW HN
      generalize fI i = x1 at *
      generalize gM i = x2 at *
      cases hA : allTo fI i
      all_goals
        cases hB : allTo gM i
        all_goals
          rw [hA] at E1
          rw [hB] at E2
          clear hA hB
          go_wp2_with (first | (go_at_call 64; (with_reducible refine call_later (W1.out _) ?_); intro u) | (go_at_call 65; (with_reducible refine call_later (O1.out _) ?_); intro u) | ((with_reducible refine wp_region_later ?_ ?_ ?_); (· kernel_rfl); (· kernel_rfl); (try simp only [List.append_eq, List.cons_append, List.nil_append]); (repeat (go_big_quiet_step ((first | (go_at_call 64; (with_reducible exact call_quiet (W1.out _))) | (go_at_call 65; (with_reducible exact call_quiet (O1.out _))))))); refine wpQuiet_nil ?_; rintro _ ⟨u, rfl⟩))
          go_roundw
          case rel => exact ⟨i + 1, by go_num, by rw [E1.out]; rfl, by rw [E2.out]; rfl, by omega, (by repeat (first | with_reducible exact Grew.refl _ | with_reducible apply Grew.alloc | with_reducible apply Grew.later | with_reducible apply Grew.drew | with_reducible apply Grew.store | with_reducible assumption))⟩
          case measure => simp [intOf]; omega
    · have hi6 : i = 6 := by omega
      have t1 : decide ((i : Int) < 6) = false := by simp; omega
      have HQ := Lib.hid (show allTo fI i = allTo fI 6 ∧ allTo gM i = allTo gM 6 by rw [hi6]; exact ⟨rfl, rfl⟩)
      clear hi6 hi hlt
      go_wp2
      go_ret2
      exact ⟨by rw [HR.out.1, HR.out.2, ← HQ.out.1, ← HQ.out.2]; rfl, (by repeat (first | with_reducible exact Grew.refl _ | with_reducible apply Grew.alloc | with_reducible apply Grew.later | with_reducible apply Grew.drew | with_reducible apply Grew.store | with_reducible assumption))⟩
theorem flInside_any (s : State) (pP vV : Bx) (w : World) : Calls Tryz.prog 16 #[.agg #[.int .i64 s.t, .int .i64 s.p.x.lo, .int .i64 s.p.x.hi, .int .i64 s.p.y.lo, .int .i64 s.p.y.hi, .int .i64 s.p.z.lo, .int .i64 s.p.z.hi, .int .i64 s.v.x.lo, .int .i64 s.v.x.hi, .int .i64 s.v.y.lo, .int .i64 s.v.y.hi, .int .i64 s.v.z.lo, .int .i64 s.v.z.hi, .int .i64 s.m.lo, .int .i64 s.m.hi], .agg #[.int .i64 pP.x.lo, .int .i64 pP.x.hi, .int .i64 pP.y.lo, .int .i64 pP.y.hi, .int .i64 pP.z.lo, .int .i64 pP.z.hi], .agg #[.int .i64 vV.x.lo, .int .i64 vV.x.hi, .int .i64 vV.y.lo, .int .i64 vV.y.hi, .int .i64 vV.z.lo, .int .i64 vV.z.hi]] w fun e w' => e = .returned (.tuple #[.bool (sureR s pP vV), .bool (mayR s pP vV)]) ∧ Grew w w' := by
  cases h : insideOk s pP vV
  · exact flInside_no s pP vV h w
  · exact flInside_yes s pP vV h w
end Go.Proofs.YtnedbhdokljpcaaGreat
