/-
  Contracts: ullageref01's Div.
-/
import Derived.Test.YtochpnomfedhoaaGreatRefQuot
namespace Go.Proofs.YtochpnomfedhoaaGreat
open Go.RowKit
set_option maxRecDepth 100000
set_option maxHeartbeats 4000000
def ratDK (a b : Sp) (k : Nat) : Int := ratDown ((cornersL a b)[k]?.getD (0, 0)).1 ((cornersL a b)[k]?.getD (0, 0)).2
def ratUK (a b : Sp) (k : Nat) : Int := ratUp ((cornersL a b)[k]?.getD (0, 0)).1 ((cornersL a b)[k]?.getD (0, 0)).2
theorem corners_ne {a b : Sp} (h1 : b.lo ≠ 0) (h2 : b.hi ≠ 0) (k : Nat) (hk : k < 4) : ((cornersL a b)[k]?.getD (0, 0)).2 ≠ 0 := by
  match k, hk with
  | 0, _ => exact h1
  | 1, _ => exact h2
  | 2, _ => exact h1
  | 3, _ => exact h2
theorem ratK_le (a b : Sp) [ha : S64 a] [hb : S64 b] (k : Nat) : (-39614081257132168796771975168 ≤ ratDK a b k ∧ ratDK a b k ≤ 39614081257132168796771975168) ∧ (-39614081257132168796771975168 ≤ ratUK a b k ∧ ratUK a b k ≤ 39614081257132168796771975168) := by
  have h := cornersL_i64 a b k
  by_cases h0 : ((cornersL a b)[k]?.getD (0, 0)).2 = 0
  · unfold ratDK ratUK
    rw [h0]
    unfold ratDown ratUp downZ upZ
    simp
  · exact rat_bd _ _ h.1 h0
theorem rat_r128 {x : Int} (h : -39614081257132168796771975168 ≤ x ∧ x ≤ 39614081257132168796771975168) : R128 x := by unfold R128; omega
theorem divR_yes {a b : Sp} (hk : (a.okB && b.okB) = true) (hz : (decide (b.lo ≤ 0) && decide (0 ≤ b.hi)) = false) : divR a b = fitR (loK (ratDK a b) 4) (hiK (ratUK a b) 4) := by
  unfold divR
  rw [hk, hz, loK_4, hiK_4]
  rfl
theorem rDiv_any (a b : Sp) [ha : S64 a] [hb : S64 b] (w : World) : Calls Tryz.prog 110 #[.agg #[.int .i64 a.lo, .int .i64 a.hi], .agg #[.int .i64 b.lo, .int .i64 b.hi]] w fun e w' => e = .returned (.tuple #[.agg #[.int .i64 (divR a b).s.lo, .int .i64 (divR a b).s.hi], .int .i64 (divR a b).e]) ∧ Grew w w' := by
  cases hk : (a.okB && b.okB)
  · have Hf := Lib.hid (show errR 2 = divR a b by unfold divR; rw [hk]; rfl)
    go_enter Tryz.func110, Tryz.ntmps110
    go_wp2_with (first | (go_at_call 80; (with_reducible refine call_later (rBoth_no a b hk _) ?_); intro u) | ((with_reducible refine wp_region_later ?_ ?_ ?_); (· kernel_rfl); (· kernel_rfl); (repeat (go_big_quiet_step ((first | (go_at_call 80; (with_reducible exact call_quiet (rBoth_no a b hk _))))))); refine wpQuiet_nil ?_; rintro _ ⟨u, rfl⟩))
    refine bodyPost_ret (by (simp [results, Tryz.results110, go_sem] <;> rfl)) rfl ?_
    exact ⟨ret_err Hf.out rfl, (by repeat (first | with_reducible exact Grew.refl _ | with_reducible apply Grew.alloc | with_reducible apply Grew.later | with_reducible apply Grew.drew | with_reducible apply Grew.store | with_reducible assumption))⟩
  · by_cases hz : b.lo ≤ 0 ∧ 0 ≤ b.hi
    · have Hf := Lib.hid (show errR 10 = divR a b by unfold divR; rw [hk, show (decide (b.lo ≤ 0) && decide (0 ≤ b.hi)) = true by simp [hz]]; rfl)
      obtain ⟨hz1, hz2⟩ := hz
      go_enter Tryz.func110, Tryz.ntmps110
      go_wp2_with (first | (go_at_call 80; (with_reducible refine call_later (rBoth_yes a b hk _) ?_); intro u) | ((with_reducible refine wp_region_later ?_ ?_ ?_); (· kernel_rfl); (· kernel_rfl); (repeat (go_big_quiet_step ((first | (go_at_call 80; (with_reducible exact call_quiet (rBoth_yes a b hk _))))))); refine wpQuiet_nil ?_; rintro _ ⟨u, rfl⟩))
      refine bodyPost_ret (by (simp [results, Tryz.results110, go_sem] <;> rfl)) rfl ?_
      exact ⟨ret_err Hf.out rfl, (by repeat (first | with_reducible exact Grew.refl _ | with_reducible apply Grew.alloc | with_reducible apply Grew.later | with_reducible apply Grew.drew | with_reducible apply Grew.store | with_reducible assumption))⟩
    · have hlo := (okB_num (Bool.and_eq_true_iff.1 hk).2).2.2
      have hb1 : b.lo ≠ 0 := by omega
      have hb2 : b.hi ≠ 0 := by omega
      have hz' : (decide (b.lo ≤ 0) && decide (0 ≤ b.hi)) = false := by
        by_cases h1 : b.lo ≤ 0 <;> simp [h1] ; omega
      have hzz : decide (b.lo ≤ 0) = false ∨ (decide (b.lo ≤ 0) = true ∧ decide (0 ≤ b.hi) = false) := by
        by_cases h1 : b.lo ≤ 0 <;> simp [h1] ; omega
      have Hf := Lib.hid (divR_yes hk hz').symm
      have Hle := Lib.hid (fun k => ratK_le a b k)
      have Hlo := Lib.hid (fun k => loK_le (ratDK a b) 39614081257132168796771975168 (by omega) (fun k => (ratK_le a b k).1) k)
      have Hhi := Lib.hid (fun k => hiK_le (ratUK a b) 39614081257132168796771975168 (by omega) (fun k => (ratK_le a b k).2) k)
      have Hne := Lib.hid (corners_ne (a := a) hb1 hb2)
      clear hlo hb1 hb2 hz hz'
      rcases hzz with hz1 | ⟨hz1, hz2⟩
      all_goals
        go_enter Tryz.func110, Tryz.ntmps110
        go_wp2_with (first | (go_at_call 80; (with_reducible refine call_later (rBoth_yes a b hk _) ?_); intro u) | ((with_reducible refine wp_region_later ?_ ?_ ?_); (· kernel_rfl); (· kernel_rfl); (repeat (go_big_quiet_step ((first | (go_at_call 80; (with_reducible exact call_quiet (rBoth_yes a b hk _))))))); refine wpQuiet_nil ?_; rintro _ ⟨u, rfl⟩))
        go_wp2_with fail
        refine (rCorners_any a b _).mono ?_
        rintro e w' ⟨b1, rfl, hb1, hL, hg⟩
        simp only [World.size_alloc] at hb1
        obtain ⟨u2, rfl⟩ := later_of hg
        clear hg
        have HL := Lib.hid hL
        clear hL
        have ap1 : Apart b1 u.world.heap.size := ⟨by omega⟩
        have ap2 : Apart b1 (u.world.heap.size + 1) := ⟨by omega⟩
        have nu : w.heap.size + 1 + 1 + 1 ≤ u.world.heap.size := by have := u.grew.size; simpa using this
        have : Apart (w.heap.size + 1 + 1) (u.world.heap.size) := ⟨by omega⟩
        have : Apart (w.heap.size + 1 + 1) (u.world.heap.size + 1) := ⟨by omega⟩
        have : Apart (u.world.heap.size) (w.heap.size + 1 + 1) := ⟨by omega⟩
        have : Apart (u.world.heap.size) (u.world.heap.size + 1) := ⟨by omega⟩
        have : Apart (u.world.heap.size + 1) (w.heap.size + 1 + 1) := ⟨by omega⟩
        have : Apart (u.world.heap.size + 1) (u.world.heap.size) := ⟨by omega⟩
        have nw6 : NewFor w u.world.heap.size := ⟨by have := u.grew.size; simp at this; omega⟩
        have nw7 : NewFor w (u.world.heap.size + 1) := ⟨by have := u.grew.size; simp at this; omega⟩
        clear hb1
        go_wp2
        go_loopw [9] (fun t wr => ∃ k : Nat, t = .int .i64 k ∧ k ≤ 4 ∧ Grew w wr ∧ BoxAt wr (w.heap.size + 1 + 1) [.int .i64 0, .int .i64 0] ∧ BoxAt wr u.world.heap.size [.int .i64 (mkW (loK (ratDK a b) k)).h, .int .u64 (mkW (loK (ratDK a b) k)).l] ∧ BoxAt wr (u.world.heap.size + 1) [.int .i64 (mkW (hiK (ratUK a b) k)).h, .int .u64 (mkW (hiK (ratUK a b) k)).l] ∧ LAt wr b1 a b) (fun t _ => 4 - (intOf t).toNat)
        case atStart => exact ⟨0, rfl, by omega, (by repeat (first | with_reducible exact Grew.refl _ | with_reducible apply Grew.alloc | with_reducible apply Grew.later | with_reducible apply Grew.drew | with_reducible apply Grew.store | with_reducible assumption)), boxAt_two (by go_simp) (by go_simp) (by go_simp) (by go_simp), boxAt_two (by go_simp; rfl) (by go_simp) (by go_simp; rfl) (by go_simp), boxAt_two (by go_simp; rfl) (by go_simp) (by go_simp; rfl) (by go_simp), HL.out⟩
        case round =>
          obtain ⟨k, rfl, hk, hg, hC, hA, hB, hL⟩ := hrel
          obtain ⟨z, rfl⟩ := later_of hg
          clear hg
          by_cases hlt : k < 4
          · obtain ⟨hc1, hc2⟩ := hL.elem k hlt
            have ib : BlockIn z.world b1 := BlockIn.of_cell hc1
            have HL := Lib.hid hL
            clear hL
            have hC_0 := (hC 0 _ rfl).1
            have hCf0 := (hC 0 _ rfl).2
            have hCi0 : HasCell (z.world) (w.heap.size + 1 + 1) 0 := ⟨_, hC_0⟩
            have hC_1 := (hC 1 _ rfl).1
            have hCf1 := (hC 1 _ rfl).2
            have hCi1 : HasCell (z.world) (w.heap.size + 1 + 1) 1 := ⟨_, hC_1⟩
            have hCb : BlockIn (z.world) (w.heap.size + 1 + 1) := BlockIn.of_cell hC_0
            clear hC
            have hA_0 := (hA 0 _ rfl).1
            have hAf0 := (hA 0 _ rfl).2
            have hAi0 : HasCell (z.world) (u.world.heap.size) 0 := ⟨_, hA_0⟩
            have hA_1 := (hA 1 _ rfl).1
            have hAf1 := (hA 1 _ rfl).2
            have hAi1 : HasCell (z.world) (u.world.heap.size) 1 := ⟨_, hA_1⟩
            have hAb : BlockIn (z.world) (u.world.heap.size) := BlockIn.of_cell hA_0
            clear hA
            have hB_0 := (hB 0 _ rfl).1
            have hBf0 := (hB 0 _ rfl).2
            have hBi0 : HasCell (z.world) (u.world.heap.size + 1) 0 := ⟨_, hB_0⟩
            have hB_1 := (hB 1 _ rfl).1
            have hBf1 := (hB 1 _ rfl).2
            have hBi1 : HasCell (z.world) (u.world.heap.size + 1) 1 := ⟨_, hB_1⟩
            have hBb : BlockIn (z.world) (u.world.heap.size + 1) := BlockIn.of_cell hB_0
            clear hB
            obtain ⟨hi1, hi2⟩ := cornersL_i64 a b k
            have hT1 := fun w => wide_any _ hi1 w
            have hT2 := fun w => wide_any _ hi2 w
            have hT := fun w => wOver_any _ _ hi1 hi2 (Hne.out k hlt) w
            rw [show ratDown ((cornersL a b)[k]?.getD (0, 0)).1 ((cornersL a b)[k]?.getD (0, 0)).2 = ratDK a b k from rfl, show ratUp ((cornersL a b)[k]?.getD (0, 0)).1 ((cornersL a b)[k]?.getD (0, 0)).2 = ratUK a b k from rfl] at hT
            have HT := Lib.hid hT
            have HT1 := Lib.hid hT1
            have HT2 := Lib.hid hT2
            clear hi1 hi2 hT hT1 hT2
            generalize ((cornersL a b)[k]?.getD (0, 0)).1 = x at *
            generalize ((cornersL a b)[k]?.getD (0, 0)).2 = y at *
            have Hpr := Lib.hid (rat_r128 (Hle.out k).1)
            have Hqr := Lib.hid (rat_r128 (Hle.out k).2)
            have Hlr := Lib.hid (rat_r128 (Hlo.out k))
            have Hhr := Lib.hid (rat_r128 (Hhi.out k))
            have hsz := hBb.lt
            rcases bool_or ((k : Int) == 0) with k0 | k0
            · have hk0 : k ≠ 0 := by simpa using k0
              have Hs1 := Lib.hid (loK_step (ratDK a b) k hk0)
              have Hs2 := Lib.hid (hiK_step (ratUK a b) k hk0)
              clear hk0
              rcases bool_or (decide (ratDK a b k < loK (ratDK a b) k)) with c1 | c1 <;> rcases bool_or (decide (hiK (ratUK a b) k < ratUK a b k)) with c2 | c2
              all_goals
                have C1 := Lib.hid c1
                have C2 := Lib.hid c2
                clear c1 c2
                have HL1 := Lib.hid (fun w => is_bool C1.out (wLess_any (ratDK a b k) (loK (ratDK a b) k) Hpr.out Hlr.out w))
                have HL2 := Lib.hid (fun w => is_bool C2.out (wLess_any (hiK (ratUK a b) k) (ratUK a b k) Hhr.out Hqr.out w))
                have Hs1' := Lib.hid (show loK (ratDK a b) (k + 1) = _ from Hs1.out)
                have Hs2' := Lib.hid (show hiK (ratUK a b) (k + 1) = _ from Hs2.out)
                rw [C1.out] at Hs1'
                rw [C2.out] at Hs2'
                clear Hs1 Hs2
                go_wp2
                refine wp_region_grown 18 [16, 17] [5, 11, 12] [15] (fun W0 => [(16, BoxR W0 [.int .i64 0, .int .u64 0]), (17, BoxR W0 [.int .i64 0, .int .u64 0])]) [.agg #[.int .i64 ((mkW x)).h, .int .u64 ((mkW x)).l], .agg #[.int .i64 ((mkW y)).h, .int .u64 ((mkW y)).l], .tuple #[.agg #[.int .i64 ((mkW (ratDK a b k))).h, .int .u64 ((mkW (ratDK a b k))).l], .agg #[.int .i64 ((mkW (ratUK a b k))).h, .int .u64 ((mkW (ratUK a b k))).l]]] [18, 19] (by rfl) (by intro W0 x hx; simp only [List.mem_cons, List.not_mem_nil, or_false] at hx; rcases hx with rfl | rfl <;> first | exact good_box _ _ | exact good_box _ _) (by kernel_rfl) (by kernel_rfl) (by kernel_rfl) ?_
                intro p
                apply Exists.intro
                apply And.intro
                apply lexg_pure (by kernel_rfl)
                · intro u; unfold opPure; go_simp; rfl
                apply lexg_pure (by kernel_rfl)
                · intro u; unfold opPure; go_simp; rfl
                apply lexg_pure (by kernel_rfl)
                · intro u; unfold opPure; go_simp; rfl
                apply lexg_pure (by kernel_rfl)
                · intro u; unfold opPure; go_simp; rfl
                apply lexg_pure (by kernel_rfl)
                · intro u; unfold opPure; go_simp; rfl
                apply lexg_call 0 (by kernel_rfl) (by rfl) (by decide)
                · intro u hF; clear hF; unfold opCall; go_simp; exact HT1.out _
                apply lexg_pure (by kernel_rfl)
                · intro u; unfold opPure; go_simp; rfl
                apply lexg_pure (by kernel_rfl)
                · intro u; unfold opPure; go_simp; rfl
                apply lexg_pure (by kernel_rfl)
                · intro u; unfold opPure; go_simp; rfl
                apply lexg_pure (by kernel_rfl)
                · intro u; unfold opPure; go_simp; rfl
                apply lexg_pure (by kernel_rfl)
                · intro u; unfold opPure; go_simp; rfl
                apply lexg_call 1 (by kernel_rfl) (by rfl) (by decide)
                · intro u hF; clear hF; unfold opCall; go_simp; exact HT2.out _
                apply lexg_call 2 (by kernel_rfl) (by rfl) (by decide)
                · intro u hF; clear hF; unfold opCall; go_simp; exact HT.out _
                apply lexg_pure (by kernel_rfl)
                · intro u; unfold opPure; go_simp; rfl
                apply lexg_pure (by kernel_rfl)
                · intro u; unfold opPure; go_simp; rfl
                apply lexg_free (by kernel_rfl)
                · intro u; unfold opPure; go_simp; rfl
                apply lexg_make (by kernel_rfl)
                · intro u hF; clear hF; unfold opMake; go_simp; exact made_box _ _ _ _
                apply lexg_make (by kernel_rfl)
                · intro u hF; clear hF; unfold opMake; go_simp; exact made_box _ _ _ _
                apply lexg_end
                rotate_left
                · rfl
                intro u hR hD
                obtain ⟨q16, e16, hB16, kB16, nB16⟩ := (show BoxR _ [.int .i64 0, .int .u64 0] (p 16) u.world from hR 16 (by decide))
                obtain ⟨q17, e17, hB17, kB17, nB17⟩ := (show BoxR _ [.int .i64 0, .int .u64 0] (p 17) u.world from hR 17 (by decide))
                have hd17 := hD 16 17 (by decide) (by decide) (by decide)
                rw [e16, e17] at hd17
                obtain ⟨ap16_17, ap17_16⟩ := apart_of_differ hd17
                clear hd17
                clear hR hD
                rw [e16]
                clear e16
                have oB16 := apart_oldL nB16
                have oC16 := apart_oldR nB16
                have nC16 : NewFor z.world q16 := ⟨Nat.le_trans (Grew.size (by repeat (first | with_reducible exact Grew.refl _ | with_reducible apply Grew.alloc | with_reducible apply Grew.later | with_reducible apply Grew.drew | with_reducible apply Grew.store | with_reducible assumption))) nB16.le⟩
                have hB16_0 := (hB16 0 _ rfl).1
                have hB16f0 := (hB16 0 _ rfl).2
                have hB16i0 : HasCell (u.world) (q16) 0 := ⟨_, hB16_0⟩
                have hB16_1 := (hB16 1 _ rfl).1
                have hB16f1 := (hB16 1 _ rfl).2
                have hB16i1 : HasCell (u.world) (q16) 1 := ⟨_, hB16_1⟩
                have hB16b : BlockIn (u.world) (q16) := BlockIn.of_cell hB16_0
                clear hB16
                rw [e17]
                clear e17
                have oB17 := apart_oldL nB17
                have oC17 := apart_oldR nB17
                have nC17 : NewFor z.world q17 := ⟨Nat.le_trans (Grew.size (by repeat (first | with_reducible exact Grew.refl _ | with_reducible apply Grew.alloc | with_reducible apply Grew.later | with_reducible apply Grew.drew | with_reducible apply Grew.store | with_reducible assumption))) nB17.le⟩
                have hB17_0 := (hB17 0 _ rfl).1
                have hB17f0 := (hB17 0 _ rfl).2
                have hB17i0 : HasCell (u.world) (q17) 0 := ⟨_, hB17_0⟩
                have hB17_1 := (hB17 1 _ rfl).1
                have hB17f1 := (hB17 1 _ rfl).2
                have hB17i1 : HasCell (u.world) (q17) 1 := ⟨_, hB17_1⟩
                have hB17b : BlockIn (u.world) (q17) := BlockIn.of_cell hB17_0
                clear hB17
                refine tail_store (by rfl) ?_; unfold opStore; go_simp
                refine tail_store (by rfl) ?_; unfold opStore; go_simp
                refine tail_end ?_
                have nw16 : NewFor w q16 := ⟨Nat.le_trans (Grew.size z.grew) nC16.le⟩
                have nw17 : NewFor w q17 := ⟨Nat.le_trans (Grew.size z.grew) nC17.le⟩
                go_wp2_with (first | (go_at_call 142; (with_reducible refine call_later (HL1.out _) ?_); intro u) | (go_at_call 142; (with_reducible refine call_later (HL2.out _) ?_); intro u) | ((with_reducible refine wp_region_later ?_ ?_ ?_); (· kernel_rfl); (· kernel_rfl); (repeat (go_big_quiet_step ((first | (go_at_call 142; (with_reducible exact call_quiet (HL1.out _))) | (go_at_call 142; (with_reducible exact call_quiet (HL2.out _))))))); refine wpQuiet_nil ?_; rintro _ ⟨u, rfl⟩))
                go_roundw
                case rel =>
                  refine ⟨k + 1, by go_num, by omega, (by repeat (first | with_reducible exact Grew.refl _ | with_reducible apply Grew.alloc | with_reducible apply Grew.later | with_reducible apply Grew.drew | with_reducible apply Grew.store | with_reducible assumption)), boxAt_two (by go_simp) (by go_simp) (by go_simp) (by go_simp), ?_, ?_, fun i x hx => by have h1 := HL.out i x hx; go_simp⟩
                  · rw [Hs1'.out]
                    exact boxAt_two (by go_simp) (by go_simp) (by go_simp) (by go_simp)
                  · rw [Hs2'.out]
                    exact boxAt_two (by go_simp) (by go_simp) (by go_simp) (by go_simp)
                case measure => simp [intOf]; omega
            · have hk0 : k = 0 := by simpa using k0
              have Hs1 := Lib.hid (show loK (ratDK a b) (k + 1) = ratDK a b k by rw [hk0]; rfl)
              have Hs2 := Lib.hid (show hiK (ratUK a b) (k + 1) = ratUK a b k by rw [hk0]; rfl)
              clear hk0
              go_wp2
              refine wp_region_grown 18 [16, 17] [5, 11, 12] [15] (fun W0 => [(16, BoxR W0 [.int .i64 0, .int .u64 0]), (17, BoxR W0 [.int .i64 0, .int .u64 0])]) [.agg #[.int .i64 ((mkW x)).h, .int .u64 ((mkW x)).l], .agg #[.int .i64 ((mkW y)).h, .int .u64 ((mkW y)).l], .tuple #[.agg #[.int .i64 ((mkW (ratDK a b k))).h, .int .u64 ((mkW (ratDK a b k))).l], .agg #[.int .i64 ((mkW (ratUK a b k))).h, .int .u64 ((mkW (ratUK a b k))).l]]] [18, 19] (by rfl) (by intro W0 x hx; simp only [List.mem_cons, List.not_mem_nil, or_false] at hx; rcases hx with rfl | rfl <;> first | exact good_box _ _ | exact good_box _ _) (by kernel_rfl) (by kernel_rfl) (by kernel_rfl) ?_
              intro p
              apply Exists.intro
              apply And.intro
              apply lexg_pure (by kernel_rfl)
              · intro u; unfold opPure; go_simp; rfl
              apply lexg_pure (by kernel_rfl)
              · intro u; unfold opPure; go_simp; rfl
              apply lexg_pure (by kernel_rfl)
              · intro u; unfold opPure; go_simp; rfl
              apply lexg_pure (by kernel_rfl)
              · intro u; unfold opPure; go_simp; rfl
              apply lexg_pure (by kernel_rfl)
              · intro u; unfold opPure; go_simp; rfl
              apply lexg_call 0 (by kernel_rfl) (by rfl) (by decide)
              · intro u hF; clear hF; unfold opCall; go_simp; exact HT1.out _
              apply lexg_pure (by kernel_rfl)
              · intro u; unfold opPure; go_simp; rfl
              apply lexg_pure (by kernel_rfl)
              · intro u; unfold opPure; go_simp; rfl
              apply lexg_pure (by kernel_rfl)
              · intro u; unfold opPure; go_simp; rfl
              apply lexg_pure (by kernel_rfl)
              · intro u; unfold opPure; go_simp; rfl
              apply lexg_pure (by kernel_rfl)
              · intro u; unfold opPure; go_simp; rfl
              apply lexg_call 1 (by kernel_rfl) (by rfl) (by decide)
              · intro u hF; clear hF; unfold opCall; go_simp; exact HT2.out _
              apply lexg_call 2 (by kernel_rfl) (by rfl) (by decide)
              · intro u hF; clear hF; unfold opCall; go_simp; exact HT.out _
              apply lexg_pure (by kernel_rfl)
              · intro u; unfold opPure; go_simp; rfl
              apply lexg_pure (by kernel_rfl)
              · intro u; unfold opPure; go_simp; rfl
              apply lexg_free (by kernel_rfl)
              · intro u; unfold opPure; go_simp; rfl
              apply lexg_make (by kernel_rfl)
              · intro u hF; clear hF; unfold opMake; go_simp; exact made_box _ _ _ _
              apply lexg_make (by kernel_rfl)
              · intro u hF; clear hF; unfold opMake; go_simp; exact made_box _ _ _ _
              apply lexg_end
              rotate_left
              · rfl
              intro u hR hD
              obtain ⟨q16, e16, hB16, kB16, nB16⟩ := (show BoxR _ [.int .i64 0, .int .u64 0] (p 16) u.world from hR 16 (by decide))
              obtain ⟨q17, e17, hB17, kB17, nB17⟩ := (show BoxR _ [.int .i64 0, .int .u64 0] (p 17) u.world from hR 17 (by decide))
              have hd17 := hD 16 17 (by decide) (by decide) (by decide)
              rw [e16, e17] at hd17
              obtain ⟨ap16_17, ap17_16⟩ := apart_of_differ hd17
              clear hd17
              clear hR hD
              rw [e16]
              clear e16
              have oB16 := apart_oldL nB16
              have oC16 := apart_oldR nB16
              have nC16 : NewFor z.world q16 := ⟨Nat.le_trans (Grew.size (by repeat (first | with_reducible exact Grew.refl _ | with_reducible apply Grew.alloc | with_reducible apply Grew.later | with_reducible apply Grew.drew | with_reducible apply Grew.store | with_reducible assumption))) nB16.le⟩
              have hB16_0 := (hB16 0 _ rfl).1
              have hB16f0 := (hB16 0 _ rfl).2
              have hB16i0 : HasCell (u.world) (q16) 0 := ⟨_, hB16_0⟩
              have hB16_1 := (hB16 1 _ rfl).1
              have hB16f1 := (hB16 1 _ rfl).2
              have hB16i1 : HasCell (u.world) (q16) 1 := ⟨_, hB16_1⟩
              have hB16b : BlockIn (u.world) (q16) := BlockIn.of_cell hB16_0
              clear hB16
              rw [e17]
              clear e17
              have oB17 := apart_oldL nB17
              have oC17 := apart_oldR nB17
              have nC17 : NewFor z.world q17 := ⟨Nat.le_trans (Grew.size (by repeat (first | with_reducible exact Grew.refl _ | with_reducible apply Grew.alloc | with_reducible apply Grew.later | with_reducible apply Grew.drew | with_reducible apply Grew.store | with_reducible assumption))) nB17.le⟩
              have hB17_0 := (hB17 0 _ rfl).1
              have hB17f0 := (hB17 0 _ rfl).2
              have hB17i0 : HasCell (u.world) (q17) 0 := ⟨_, hB17_0⟩
              have hB17_1 := (hB17 1 _ rfl).1
              have hB17f1 := (hB17 1 _ rfl).2
              have hB17i1 : HasCell (u.world) (q17) 1 := ⟨_, hB17_1⟩
              have hB17b : BlockIn (u.world) (q17) := BlockIn.of_cell hB17_0
              clear hB17
              refine tail_store (by rfl) ?_; unfold opStore; go_simp
              refine tail_store (by rfl) ?_; unfold opStore; go_simp
              refine tail_end ?_
              have nw16 : NewFor w q16 := ⟨Nat.le_trans (Grew.size z.grew) nC16.le⟩
              have nw17 : NewFor w q17 := ⟨Nat.le_trans (Grew.size z.grew) nC17.le⟩
              go_wp2
              go_roundw
              case rel =>
                refine ⟨k + 1, by go_num, by omega, (by repeat (first | with_reducible exact Grew.refl _ | with_reducible apply Grew.alloc | with_reducible apply Grew.later | with_reducible apply Grew.drew | with_reducible apply Grew.store | with_reducible assumption)), boxAt_two (by go_simp) (by go_simp) (by go_simp) (by go_simp), ?_, ?_, fun i x hx => by have h1 := HL.out i x hx; go_simp⟩
                · rw [Hs1.out]
                  exact boxAt_two (by go_simp) (by go_simp) (by go_simp) (by go_simp)
                · rw [Hs2.out]
                  exact boxAt_two (by go_simp) (by go_simp) (by go_simp) (by go_simp)
              case measure => simp [intOf]; omega
          · obtain rfl : k = 4 := by omega
            rw [show ((4 : Nat) : Int) = 4 from rfl]
            clear hL HL
            have hC_0 := (hC 0 _ rfl).1
            have hCf0 := (hC 0 _ rfl).2
            have hCi0 : HasCell (z.world) (w.heap.size + 1 + 1) 0 := ⟨_, hC_0⟩
            have hC_1 := (hC 1 _ rfl).1
            have hCf1 := (hC 1 _ rfl).2
            have hCi1 : HasCell (z.world) (w.heap.size + 1 + 1) 1 := ⟨_, hC_1⟩
            have hCb : BlockIn (z.world) (w.heap.size + 1 + 1) := BlockIn.of_cell hC_0
            clear hC
            have hA_0 := (hA 0 _ rfl).1
            have hAf0 := (hA 0 _ rfl).2
            have hAi0 : HasCell (z.world) (u.world.heap.size) 0 := ⟨_, hA_0⟩
            have hA_1 := (hA 1 _ rfl).1
            have hAf1 := (hA 1 _ rfl).2
            have hAi1 : HasCell (z.world) (u.world.heap.size) 1 := ⟨_, hA_1⟩
            have hAb : BlockIn (z.world) (u.world.heap.size) := BlockIn.of_cell hA_0
            clear hA
            have hB_0 := (hB 0 _ rfl).1
            have hBf0 := (hB 0 _ rfl).2
            have hBi0 : HasCell (z.world) (u.world.heap.size + 1) 0 := ⟨_, hB_0⟩
            have hB_1 := (hB 1 _ rfl).1
            have hBf1 := (hB 1 _ rfl).2
            have hBi1 : HasCell (z.world) (u.world.heap.size + 1) 1 := ⟨_, hB_1⟩
            have hBb : BlockIn (z.world) (u.world.heap.size + 1) := BlockIn.of_cell hB_0
            clear hB
            have h1 := Hlo.out 4
            have h2 := Hhi.out 4
            have H1 := Lib.hid h1
            have H2 := Lib.hid h2
            clear h1 h2 Hlo Hhi Hle
            generalize loK (ratDK a b) 4 = x at *
            generalize hiK (ratUK a b) 4 = y at *
            have HO := Lib.hid (fun w => rOut_any x y (rat_r128 H1.out) (rat_r128 H2.out) w)
            go_wp2_with (first | (go_at_call 137; (with_reducible refine call_later (HO.out _) ?_); intro u))
            refine bodyPost_ret (by (simp [results, Tryz.results110, go_sem] <;> rfl)) rfl ?_
            exact ⟨ret_res (by rw [← Hf.out]), (by repeat (first | with_reducible exact Grew.refl _ | with_reducible apply Grew.alloc | with_reducible apply Grew.later | with_reducible apply Grew.drew | with_reducible apply Grew.store | with_reducible assumption))⟩
end Go.Proofs.YtochpnomfedhoaaGreat
