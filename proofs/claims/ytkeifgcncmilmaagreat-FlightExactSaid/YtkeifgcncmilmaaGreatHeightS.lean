/-
  Contracts: Height (flight, ullageref03).
-/
import Derived.Test.YtkeifgcncmilmaaGreatJointS
import Derived.Test.YtkeifgcncmilmaaGreatCalcFS
import Derived.Test.YtkeifgcncmilmaaGreatFlightOksS
namespace Go.Proofs.YtkeifgcncmilmaaGreat
open Go.RowKit Go.Shelf
set_option maxRecDepth 100000
set_option maxHeartbeats 4000000
/-- A height: the length less the radius. -/
def heightV (p : Planet) (b : Bx) : Res := doR (normR b.list).e (subR (normR b.list).s p.radius)
def heightR (p : Planet) (b : Bx) : Res := if p.okB && b.okB then heightV p b else errR 2
theorem flPlanet_yes (p : Planet) (h : p.okB = true) (w : World) : Calls Tryz.prog 62 #[.agg #[.int .i64 p.mu.lo, .int .i64 p.mu.hi, .int .i64 p.radius.lo, .int .i64 p.radius.hi, .int .i64 p.oblate.lo, .int .i64 p.oblate.hi, .int .i64 p.spin.lo, .int .i64 p.spin.hi, .int .i64 p.pull.x.lo, .int .i64 p.pull.x.hi, .int .i64 p.pull.y.lo, .int .i64 p.pull.y.hi, .int .i64 p.pull.z.lo, .int .i64 p.pull.z.hi]] w fun e w' => e = .returned (.int .i64 0) ∧ Grew w w' := is_int (by rw [h]; rfl) (flPlanet_any p w)
theorem flPlanet_no (p : Planet) (h : p.okB = false) (w : World) : Calls Tryz.prog 62 #[.agg #[.int .i64 p.mu.lo, .int .i64 p.mu.hi, .int .i64 p.radius.lo, .int .i64 p.radius.hi, .int .i64 p.oblate.lo, .int .i64 p.oblate.hi, .int .i64 p.spin.lo, .int .i64 p.spin.hi, .int .i64 p.pull.x.lo, .int .i64 p.pull.x.hi, .int .i64 p.pull.y.lo, .int .i64 p.pull.y.hi, .int .i64 p.pull.z.lo, .int .i64 p.pull.z.hi]] w fun e w' => e = .returned (.int .i64 2) ∧ Grew w w' := is_int (by rw [h]; rfl) (flPlanet_any p w)
theorem flHeight_any (p : Planet) (b : Bx) [hp : Pl64 p] [hb : B64 b] (w : World) : Calls Tryz.prog 45 #[.agg #[.int .i64 p.mu.lo, .int .i64 p.mu.hi, .int .i64 p.radius.lo, .int .i64 p.radius.hi, .int .i64 p.oblate.lo, .int .i64 p.oblate.hi, .int .i64 p.spin.lo, .int .i64 p.spin.hi, .int .i64 p.pull.x.lo, .int .i64 p.pull.x.hi, .int .i64 p.pull.y.lo, .int .i64 p.pull.y.hi, .int .i64 p.pull.z.lo, .int .i64 p.pull.z.hi], .agg #[.int .i64 b.x.lo, .int .i64 b.x.hi, .int .i64 b.y.lo, .int .i64 b.y.hi, .int .i64 b.z.lo, .int .i64 b.z.hi]] w fun e w' => e = .returned (.tuple #[.agg #[.int .i64 (heightR p b).s.lo, .int .i64 (heightR p b).s.hi], .int .i64 (heightR p b).e]) ∧ Grew w w' := by
  cases h1 : p.okB
  · have HR := Lib.hid (show errR 2 = heightR p b by unfold heightR; rw [h1]; rfl)
    go_enter Tryz.func45, Tryz.ntmps45
    go_wp2_with (first | (go_at_call 62; (with_reducible refine call_later (flPlanet_no p h1 _) ?_); intro u) | ((with_reducible refine wp_region_later ?_ ?_ ?_); (· kernel_rfl); (· kernel_rfl); (try simp only [List.append_eq, List.cons_append, List.nil_append]); (repeat (go_big_quiet_step ((first | (go_at_call 62; (with_reducible exact call_quiet (flPlanet_no p h1 _))))))); refine wpQuiet_nil ?_; rintro _ ⟨u, rfl⟩))
    refine bodyPost_ret (by (simp [results, Tryz.results45, go_sem] <;> rfl)) rfl ?_
    exact ⟨ret_err HR.out rfl, gw⟩
  · cases h2 : b.okB
    · have HR := Lib.hid (show errR 2 = heightR p b by unfold heightR; rw [h1, h2]; rfl)
      go_enter Tryz.func45, Tryz.ntmps45
      go_wp2_with (first | (go_at_call 62; (with_reducible refine call_later (flPlanet_yes p h1 _) ?_); intro u) | (go_at_call 85; (with_reducible refine call_later (is_bool h2 (flBoxes_one b _ _ (SlAt.fresh _ _ _ _ (by simp [maxLen])))) ?_); intro u) | ((with_reducible refine wp_region_later ?_ ?_ ?_); (· kernel_rfl); (· kernel_rfl); (try simp only [List.append_eq, List.cons_append, List.nil_append]); (repeat (go_big_quiet_step ((first | (go_at_call 62; (with_reducible exact call_quiet (flPlanet_yes p h1 _))) | (go_at_call 85; (with_reducible exact call_quiet (is_bool h2 (flBoxes_one b _ _ (SlAt.fresh _ _ _ _ (by simp [maxLen])))))))))); refine wpQuiet_nil ?_; rintro _ ⟨u, rfl⟩))
      refine bodyPost_ret (by (simp [results, Tryz.results45, go_sem] <;> rfl)) rfl ?_
      exact ⟨ret_err HR.out rfl, gw⟩
    · have HR := Lib.hid (show heightV p b = heightR p b by unfold heightR; rw [h1, h2]; rfl)
      go_enter Tryz.func45, Tryz.ntmps45
      go_wp2_with (first | (go_at_call 62; (with_reducible refine call_later (flPlanet_yes p h1 _) ?_); intro u) | (go_at_call 85; (with_reducible refine call_later (is_bool h2 (flBoxes_one b _ _ (SlAt.fresh _ _ _ _ (by simp [maxLen])))) ?_); intro u) | ((with_reducible refine wp_region_later ?_ ?_ ?_); (· kernel_rfl); (· kernel_rfl); (try simp only [List.append_eq, List.cons_append, List.nil_append]); (repeat (go_big_quiet_step ((first | (go_at_call 62; (with_reducible exact call_quiet (flPlanet_yes p h1 _))) | (go_at_call 85; (with_reducible exact call_quiet (is_bool h2 (flBoxes_one b _ _ (SlAt.fresh _ _ _ _ (by simp [maxLen])))))))))); refine wpQuiet_nil ?_; rintro _ ⟨u, rfl⟩))
      have nwc : NewFor w u.world.heap.size := inferInstance
      refine wp_region_calc (u.world.heap.size) [0, (doR 0 (normR b.list)).e, (heightV p b).e] 8 [7] [3, 6] [] (fun W0 => [(7, BoxR W0 [.int .i64 0, .int .i64 0])]) [.agg #[.int .i64 ((doR 0 (normR b.list)).s).lo, .int .i64 ((doR 0 (normR b.list)).s).hi], .agg #[.int .i64 ((heightV p b).s).lo, .int .i64 ((heightV p b).s).hi]] [8] (by rfl) (by go_simp) (by go_simp) (by intro W0 hW0 x hx; simp only [List.mem_cons, List.not_mem_nil, or_false] at hx; rcases hx with rfl <;> first | exact goodc_box _ _ hW0 _) (by kernel_rfl) (by kernel_rfl) (by kernel_rfl) ?_
      intro pz hd0
      apply Exists.intro
      apply And.intro
      iterate 3 (apply lexc_pure hd0 (by kernel_rfl); (· intro uz xc; unfold opPure; go_simp; rfl))
      apply lexc_call hd0 0 (by kernel_rfl) (by rfl) (by decide)
      · intro uz hfz hF; clear hF; unfold opCall; go_simp; exact cNorm_any _ 0 b _ (by go_simp) hfz
      iterate 2 (apply lexc_pure hd0 (by kernel_rfl); (· intro uz xc; unfold opPure; go_simp; rfl))
      apply lexc_call hd0 1 (by kernel_rfl) (by rfl) (by decide)
      · intro uz hfz hF; clear hF; unfold opCall; go_simp; exact cSub_any _ (doR 0 (normR b.list)).e (doR 0 (normR b.list)).s p.radius _ (by go_simp) hfz
      apply lexc_make hd0 (by kernel_rfl)
      · intro uz xc hF; clear hF; unfold opMake; go_simp; refine (show Made (BoxR _ [.int .i64 0, .int .i64 0]) _ _ _ from ?_); exact madec_box _ _ _ _
      apply lexc_end
      rotate_left
      · rfl
      intro uz hR hD hfz
      obtain ⟨q7, e7, hB7, kB7, nB7⟩ := (show BoxR _ [.int .i64 0, .int .i64 0] (pz 7) _ from hR 7 (by decide))
      clear hR hD
      rw [e7]
      clear e7
      have oB7 := apart_oldL nB7
      have oC7 := apart_oldR nB7
      have hB7 := boxAt_cw hB7 hd0 nB7
      have kB7 := blockIn_cw kB7
      have hB7_0 := (hB7 0 _ rfl).1
      have hB7f0 := (hB7 0 _ rfl).2
      have hB7i0 : HasCell (uz.world) (q7) 0 := ⟨_, hB7_0⟩
      have hB7_1 := (hB7 1 _ rfl).1
      have hB7f1 := (hB7 1 _ rfl).2
      have hB7i1 : HasCell (uz.world) (q7) 1 := ⟨_, hB7_1⟩
      have hB7b : BlockIn (uz.world) (q7) := BlockIn.of_cell hB7_0
      clear hB7
      refine tail_store (by rfl) ?_; unfold opStore; go_simp
      refine tail_end ?_
      have nw7 : NewFor w q7 := ⟨Nat.le_trans nwc.le (by have := nB7.le; simp at this; omega)⟩
      go_wp2
      go_region
      go_wp2
      refine bodyPost_ret (by (simp [results, Tryz.results45, go_sem] <;> rfl)) rfl ?_
      exact ⟨ret_res (by rw [← HR.out]; rfl), gw⟩
end Go.Proofs.YtkeifgcncmilmaaGreat
