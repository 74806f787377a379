/-
  Contracts: Height (flight, ullageref03).
-/
import Derived.Test.YtkeifgcncmilmaaJoint
import Derived.Test.YtkeifgcncmilmaaCalcF
import Derived.Test.YtkeifgcncmilmaaFlightOks
namespace Go.Proofs.Ytkeifgcncmilmaa
open Go.RowKit Go.Shelf
set_option maxRecDepth 100000
set_option maxHeartbeats 4000000
/-- A height: the length less the radius. -/
def heightV (p : Planet) (b : Bx) : Res := doR (normR b.list).e (subR (normR b.list).s p.radius)
def heightR (p : Planet) (b : Bx) : Res := if p.okB && b.okB then heightV p b else errR 2
theorem doR_err {e : Int} {r : Res} (h : (doR e r).e ≠ 0) (hr : r.e ≠ 0 → r.s = z0) : doR e r = errR (doR e r).e := by
  by_cases he : e = 0
  · subst he
    rw [doR_ok] at h ⊢
    obtain ⟨s, x⟩ := r
    have := hr h
    simp only at this
    rw [this]; rfl
  · rw [doR_bad r he]; rfl
theorem addR_z (a b : Sp) (h : (addR a b).e ≠ 0) : (addR a b).s = z0 := by
  unfold addR fitR at h ⊢
  split
  · split
    · rename_i h1 h2; rw [if_pos h1, if_pos h2] at h; exact absurd rfl h
    · rfl
  · rfl
theorem subR_z (a b : Sp) (h : (subR a b).e ≠ 0) : (subR a b).s = z0 := by
  unfold subR at h ⊢
  split
  · rename_i h1; rw [if_pos h1] at h; exact addR_z _ _ h
  · rfl
theorem heightV_z (p : Planet) (b : Bx) (h : (heightV p b).e ≠ 0) : heightV p b = errR (heightV p b).e := doR_err h (subR_z _ _)
theorem flPlanet_yes (p : Planet) (h : p.okB = true) (w : World) : Calls Try.prog 48 #[.agg #[.int .i64 p.mu.lo, .int .i64 p.mu.hi, .int .i64 p.radius.lo, .int .i64 p.radius.hi, .int .i64 p.oblate.lo, .int .i64 p.oblate.hi, .int .i64 p.spin.lo, .int .i64 p.spin.hi, .int .i64 p.pull.x.lo, .int .i64 p.pull.x.hi, .int .i64 p.pull.y.lo, .int .i64 p.pull.y.hi, .int .i64 p.pull.z.lo, .int .i64 p.pull.z.hi]] w fun e w' => e = .returned (.int .i64 0) ∧ Grew w w' := is_int (by rw [h]; rfl) (flPlanet_any p w)
theorem flPlanet_no (p : Planet) (h : p.okB = false) (w : World) : Calls Try.prog 48 #[.agg #[.int .i64 p.mu.lo, .int .i64 p.mu.hi, .int .i64 p.radius.lo, .int .i64 p.radius.hi, .int .i64 p.oblate.lo, .int .i64 p.oblate.hi, .int .i64 p.spin.lo, .int .i64 p.spin.hi, .int .i64 p.pull.x.lo, .int .i64 p.pull.x.hi, .int .i64 p.pull.y.lo, .int .i64 p.pull.y.hi, .int .i64 p.pull.z.lo, .int .i64 p.pull.z.hi]] w fun e w' => e = .returned (.int .i64 2) ∧ Grew w w' := is_int (by rw [h]; rfl) (flPlanet_any p w)
theorem flHeight_any (p : Planet) (b : Bx) [hp : Pl64 p] [hb : B64 b] (w : World) : Calls Try.prog 63 #[.agg #[.int .i64 p.mu.lo, .int .i64 p.mu.hi, .int .i64 p.radius.lo, .int .i64 p.radius.hi, .int .i64 p.oblate.lo, .int .i64 p.oblate.hi, .int .i64 p.spin.lo, .int .i64 p.spin.hi, .int .i64 p.pull.x.lo, .int .i64 p.pull.x.hi, .int .i64 p.pull.y.lo, .int .i64 p.pull.y.hi, .int .i64 p.pull.z.lo, .int .i64 p.pull.z.hi], .agg #[.int .i64 b.x.lo, .int .i64 b.x.hi, .int .i64 b.y.lo, .int .i64 b.y.hi, .int .i64 b.z.lo, .int .i64 b.z.hi]] w fun e w' => e = .returned (.tuple #[.agg #[.int .i64 (heightR p b).s.lo, .int .i64 (heightR p b).s.hi], .int .i64 (heightR p b).e]) ∧ Grew w w' := by
  cases h1 : p.okB
  · have HR := Lib.hid (show errR 2 = heightR p b by unfold heightR; rw [h1]; rfl)
    go_enter Try.func63, Try.ntmps63
    go_wp2_with (first | (go_at_call 48; (with_reducible refine call_later (flPlanet_no p h1 _) ?_); intro u) | ((with_reducible refine wp_region_later ?_ ?_ ?_); (· kernel_rfl); (· kernel_rfl); (try simp only [List.append_eq, List.cons_append, List.nil_append]); (repeat (go_big_quiet_step ((first | (go_at_call 48; (with_reducible exact call_quiet (flPlanet_no p h1 _))))))); refine wpQuiet_nil ?_; rintro _ ⟨u, rfl⟩))
    refine bodyPost_ret (by (simp [results, Try.results63, go_sem] <;> rfl)) rfl ?_
    exact ⟨ret_err HR.out rfl, gw⟩
  · cases h2 : b.okB
    · have HR := Lib.hid (show errR 2 = heightR p b by unfold heightR; rw [h1, h2]; rfl)
      go_enter Try.func63, Try.ntmps63
      go_wp2_with (first | (go_at_call 48; (with_reducible refine call_later (flPlanet_yes p h1 _) ?_); intro u) | (go_at_call 53; (with_reducible refine call_later (is_bool h2 (flBoxes_one b _ _ (SlAt.fresh _ _ _ _ (by simp [maxLen])))) ?_); intro u) | ((with_reducible refine wp_region_later ?_ ?_ ?_); (· kernel_rfl); (· kernel_rfl); (try simp only [List.append_eq, List.cons_append, List.nil_append]); (repeat (go_big_quiet_step ((first | (go_at_call 48; (with_reducible exact call_quiet (flPlanet_yes p h1 _))) | (go_at_call 53; (with_reducible exact call_quiet (is_bool h2 (flBoxes_one b _ _ (SlAt.fresh _ _ _ _ (by simp [maxLen])))))))))); refine wpQuiet_nil ?_; rintro _ ⟨u, rfl⟩))
      refine bodyPost_ret (by (simp [results, Try.results63, go_sem] <;> rfl)) rfl ?_
      exact ⟨ret_err HR.out rfl, gw⟩
    · have HR := Lib.hid (show heightV p b = heightR p b by unfold heightR; rw [h1, h2]; rfl)
      go_enter Try.func63, Try.ntmps63
      go_wp2_with (first | (go_at_call 48; (with_reducible refine call_later (flPlanet_yes p h1 _) ?_); intro u) | (go_at_call 53; (with_reducible refine call_later (is_bool h2 (flBoxes_one b _ _ (SlAt.fresh _ _ _ _ (by simp [maxLen])))) ?_); intro u) | ((with_reducible refine wp_region_later ?_ ?_ ?_); (· kernel_rfl); (· kernel_rfl); (try simp only [List.append_eq, List.cons_append, List.nil_append]); (repeat (go_big_quiet_step ((first | (go_at_call 48; (with_reducible exact call_quiet (flPlanet_yes p h1 _))) | (go_at_call 53; (with_reducible exact call_quiet (is_bool h2 (flBoxes_one b _ _ (SlAt.fresh _ _ _ _ (by simp [maxLen])))))))))); refine wpQuiet_nil ?_; rintro _ ⟨u, rfl⟩))
      have nwc : NewFor w u.world.heap.size := inferInstance
      refine wp_region_calc (u.world.heap.size) [0, (doR 0 (normR b.list)).e, (heightV p b).e] 8 [7] [3, 6] [] (fun W0 => [(7, BoxR W0 [.int .i64 0, .int .i64 0])]) [.agg #[.int .i64 ((doR 0 (normR b.list)).s).lo, .int .i64 ((doR 0 (normR b.list)).s).hi], .agg #[.int .i64 ((heightV p b).s).lo, .int .i64 ((heightV p b).s).hi]] [8] (by rfl) (by go_simp) (by go_simp) (by intro W0 hW0 x hx; simp only [List.mem_cons, List.not_mem_nil, or_false] at hx; rcases hx with rfl <;> first | exact goodc_box _ _ hW0 _) (by kernel_rfl) (by kernel_rfl) (by kernel_rfl) ?_
      intro pz hd0
      apply Exists.intro
      apply And.intro
      iterate 3 (apply lexc_pure hd0 (by kernel_rfl); (· intro uz xc; unfold opPure; go_simp; rfl))
      apply lexc_call hd0 0 (by kernel_rfl) (by rfl) (by decide)
      · intro uz hfz hF; clear hF; unfold opCall; go_simp; exact cNorm_any _ 0 b _ (by go_simp) hfz
      iterate 2 (apply lexc_pure hd0 (by kernel_rfl); (· intro uz xc; unfold opPure; go_simp; rfl))
      apply lexc_call hd0 1 (by kernel_rfl) (by rfl) (by decide)
      · intro uz hfz hF; clear hF; unfold opCall; go_simp; exact cSub_any _ (doR 0 (normR b.list)).e (doR 0 (normR b.list)).s p.radius _ (by go_simp) hfz
      apply lexc_make hd0 (by kernel_rfl)
      · intro uz xc hF; clear hF; unfold opMake; go_simp; refine (show Made (BoxR _ [.int .i64 0, .int .i64 0]) _ _ _ from ?_); exact madec_box _ _ _ _
      apply lexc_end
      rotate_left
      · rfl
      intro uz hR hD hfz
      obtain ⟨q7, e7, hB7, kB7, nB7⟩ := (show BoxR _ [.int .i64 0, .int .i64 0] (pz 7) _ from hR 7 (by decide))
      clear hR hD
      rw [e7]
      clear e7
      have oB7 := apart_oldL nB7
      have oC7 := apart_oldR nB7
      have hB7 := boxAt_cw hB7 hd0 nB7
      have kB7 := blockIn_cw kB7
      have hB7_0 := (hB7 0 _ rfl).1
      have hB7f0 := (hB7 0 _ rfl).2
      have hB7i0 : HasCell (uz.world) (q7) 0 := ⟨_, hB7_0⟩
      have hB7_1 := (hB7 1 _ rfl).1
      have hB7f1 := (hB7 1 _ rfl).2
      have hB7i1 : HasCell (uz.world) (q7) 1 := ⟨_, hB7_1⟩
      have hB7b : BlockIn (uz.world) (q7) := BlockIn.of_cell hB7_0
      clear hB7
      refine tail_store (by rfl) ?_; unfold opStore; go_simp
      refine tail_end ?_
      have nw7 : NewFor w q7 := ⟨Nat.le_trans nwc.le (by have := nB7.le; simp at this; omega)⟩
      go_wp2
      go_region
      go_wp2
      refine bodyPost_ret (by (simp [results, Try.results63, go_sem] <;> rfl)) rfl ?_
      exact ⟨ret_res (by rw [← HR.out]; rfl), gw⟩
end Go.Proofs.Ytkeifgcncmilmaa
