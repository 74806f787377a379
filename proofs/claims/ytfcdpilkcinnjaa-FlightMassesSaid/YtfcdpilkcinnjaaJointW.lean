/-
  Contracts: flight.Joint of states that are not valid, or of other times.
  Contracts: flight.Joint.
-/
import Derived.Test.YtfcdpilkcinnjaaJoint
namespace Go.Proofs.Ytfcdpilkcinnjaa
open Go.RowKit Go.Shelf
set_option maxRecDepth 100000
set_option maxHeartbeats 8000000
theorem flJoint_bad (a b : State) (h : (a.okB && b.okB) = false) (w : World) : Calls Try.prog 11 #[.agg #[.int .i64 a.t, .int .i64 a.p.x.lo, .int .i64 a.p.x.hi, .int .i64 a.p.y.lo, .int .i64 a.p.y.hi, .int .i64 a.p.z.lo, .int .i64 a.p.z.hi, .int .i64 a.v.x.lo, .int .i64 a.v.x.hi, .int .i64 a.v.y.lo, .int .i64 a.v.y.hi, .int .i64 a.v.z.lo, .int .i64 a.v.z.hi, .int .i64 a.m.lo, .int .i64 a.m.hi], .agg #[.int .i64 b.t, .int .i64 b.p.x.lo, .int .i64 b.p.x.hi, .int .i64 b.p.y.lo, .int .i64 b.p.y.hi, .int .i64 b.p.z.lo, .int .i64 b.p.z.hi, .int .i64 b.v.x.lo, .int .i64 b.v.x.hi, .int .i64 b.v.y.lo, .int .i64 b.v.y.hi, .int .i64 b.v.z.lo, .int .i64 b.v.z.hi, .int .i64 b.m.lo, .int .i64 b.m.hi]] w (RetSt (jointR a b) w) := by
  have HR := Lib.hid (show (⟨zState, 2⟩ : SRes) = jointR a b by unfold jointR; rw [h]; rfl)
  cases h1 : a.okB
  · go_enter Try.func11, Try.ntmps11
    go_wp2_with (first | (go_at_call 22; (with_reducible refine call_later (flState_no a h1 _) ?_); intro u) | ((with_reducible refine wp_region_later ?_ ?_ ?_); (· kernel_rfl); (· kernel_rfl); (try simp only [List.append_eq, List.cons_append, List.nil_append]); (repeat (go_big_quiet_step ((first | (go_at_call 22; (with_reducible exact call_quiet (flState_no a h1 _))))))); refine wpQuiet_nil ?_; rintro _ ⟨u, rfl⟩))
    refine bodyPost_ret (by (simp [results, Try.results11, go_sem] <;> rfl)) rfl ?_
    exact ⟨ret_state HR.out, gw⟩
  · have h2 : b.okB = false := by rw [h1] at h; simpa using h
    clear h
    go_enter Try.func11, Try.ntmps11
    go_wp2_with (first | (go_at_call 22; (with_reducible refine call_later (flState_yes a h1 _) ?_); intro u) | (go_at_call 22; (with_reducible refine call_later (flState_no b h2 _) ?_); intro u) | ((with_reducible refine wp_region_later ?_ ?_ ?_); (· kernel_rfl); (· kernel_rfl); (try simp only [List.append_eq, List.cons_append, List.nil_append]); (repeat (go_big_quiet_step ((first | (go_at_call 22; (with_reducible exact call_quiet (flState_yes a h1 _))) | (go_at_call 22; (with_reducible exact call_quiet (flState_no b h2 _))))))); refine wpQuiet_nil ?_; rintro _ ⟨u, rfl⟩))
    refine bodyPost_ret (by (simp [results, Try.results11, go_sem] <;> rfl)) rfl ?_
    exact ⟨ret_state HR.out, gw⟩
theorem flJoint_apart (a b : State) (h1 : a.okB = true) (h2 : b.okB = true) (ht : a.t ≠ b.t) (w : World) : Calls Try.prog 11 #[.agg #[.int .i64 a.t, .int .i64 a.p.x.lo, .int .i64 a.p.x.hi, .int .i64 a.p.y.lo, .int .i64 a.p.y.hi, .int .i64 a.p.z.lo, .int .i64 a.p.z.hi, .int .i64 a.v.x.lo, .int .i64 a.v.x.hi, .int .i64 a.v.y.lo, .int .i64 a.v.y.hi, .int .i64 a.v.z.lo, .int .i64 a.v.z.hi, .int .i64 a.m.lo, .int .i64 a.m.hi], .agg #[.int .i64 b.t, .int .i64 b.p.x.lo, .int .i64 b.p.x.hi, .int .i64 b.p.y.lo, .int .i64 b.p.y.hi, .int .i64 b.p.z.lo, .int .i64 b.p.z.hi, .int .i64 b.v.x.lo, .int .i64 b.v.x.hi, .int .i64 b.v.y.lo, .int .i64 b.v.y.hi, .int .i64 b.v.z.lo, .int .i64 b.v.z.hi, .int .i64 b.m.lo, .int .i64 b.m.hi]] w (RetSt (jointR a b) w) := by
  have HR := Lib.hid (show (⟨zState, 9⟩ : SRes) = jointR a b by unfold jointR; rw [h1, h2, if_pos (by rfl), if_neg ht])
  have ht' : (a.t != b.t) = true := by simp [ht]
  clear ht
  go_enter Try.func11, Try.ntmps11
  go_wp2_with (first | (go_at_call 22; (with_reducible refine call_later (flState_yes a h1 _) ?_); intro u) | (go_at_call 22; (with_reducible refine call_later (flState_yes b h2 _) ?_); intro u) | ((with_reducible refine wp_region_later ?_ ?_ ?_); (· kernel_rfl); (· kernel_rfl); (try simp only [List.append_eq, List.cons_append, List.nil_append]); (repeat (go_big_quiet_step ((first | (go_at_call 22; (with_reducible exact call_quiet (flState_yes a h1 _))) | (go_at_call 22; (with_reducible exact call_quiet (flState_yes b h2 _))))))); refine wpQuiet_nil ?_; rintro _ ⟨u, rfl⟩))
  refine bodyPost_ret (by (simp [results, Try.results11, go_sem] <;> rfl)) rfl ?_
  exact ⟨ret_state HR.out, gw⟩
end Go.Proofs.Ytfcdpilkcinnjaa
namespace Go.Proofs.Ytfcdpilkcinnjaa
open Go.RowKit Go.Shelf
set_option maxRecDepth 100000
set_option maxHeartbeats 8000000
theorem flJoint_meets (a b : State) [ha : St64 a] [hb : St64 b] (h1 : a.okB = true) (h2 : b.okB = true) (ht : a.t = b.t) (w : World) : Calls Try.prog 11 #[.agg #[.int .i64 a.t, .int .i64 a.p.x.lo, .int .i64 a.p.x.hi, .int .i64 a.p.y.lo, .int .i64 a.p.y.hi, .int .i64 a.p.z.lo, .int .i64 a.p.z.hi, .int .i64 a.v.x.lo, .int .i64 a.v.x.hi, .int .i64 a.v.y.lo, .int .i64 a.v.y.hi, .int .i64 a.v.z.lo, .int .i64 a.v.z.hi, .int .i64 a.m.lo, .int .i64 a.m.hi], .agg #[.int .i64 b.t, .int .i64 b.p.x.lo, .int .i64 b.p.x.hi, .int .i64 b.p.y.lo, .int .i64 b.p.y.hi, .int .i64 b.p.z.lo, .int .i64 b.p.z.hi, .int .i64 b.v.x.lo, .int .i64 b.v.x.hi, .int .i64 b.v.y.lo, .int .i64 b.v.y.hi, .int .i64 b.v.z.lo, .int .i64 b.v.z.hi, .int .i64 b.m.lo, .int .i64 b.m.hi]] w (RetSt (jointR a b) w) := by
  have hJ : jointR a b = if jointAll a b then ⟨⟨a.t, meetB a.p b.p, meetB a.v b.v, (meetR a.m b.m).s⟩, 0⟩ else ⟨zState, 7⟩ := by unfold jointR; rw [h1, h2, if_pos (by rfl), if_pos ht]
  have HJ := Lib.hid hJ
  have he := joint_err a b h1 h2
  have HV := Lib.hid (joint_val a b)
  have ht' : (a.t != b.t) = false := by simp [ht]
  clear hJ ht
  go_enter Try.func11, Try.ntmps11
  go_wp2_with (first | (go_at_call 22; (with_reducible refine call_later (flState_yes a h1 _) ?_); intro u) | (go_at_call 22; (with_reducible refine call_later (flState_yes b h2 _) ?_); intro u) | ((with_reducible refine wp_region_later ?_ ?_ ?_); (· kernel_rfl); (· kernel_rfl); (try simp only [List.append_eq, List.cons_append, List.nil_append]); (repeat (go_big_quiet_step ((first | (go_at_call 22; (with_reducible exact call_quiet (flState_yes a h1 _))) | (go_at_call 22; (with_reducible exact call_quiet (flState_yes b h2 _))))))); refine wpQuiet_nil ?_; rintro _ ⟨u, rfl⟩))
  cases hA : jointAll a b
  · have HA := Lib.hid hA
    rw [hA] at he
    have hne : ((doR (each3 meetR (each3 meetR 0 a.p b.p).e a.v b.v).e (meetR a.m b.m)).e != 0) = true := by simp [he]
    have HE := Lib.hid he
    clear he hA
    refine wp_region_calc (u.world.heap.size) [0, (each3 meetR 0 a.p b.p).e, (each3 meetR (each3 meetR 0 a.p b.p).e a.v b.v).e, (doR (each3 meetR (each3 meetR 0 a.p b.p).e a.v b.v).e (meetR a.m b.m)).e] 24 [23] [8, 15, 21] [] (fun W0 => [(23, BoxR W0 [.int .i64 0, .int .i64 0, .int .i64 0, .int .i64 0, .int .i64 0, .int .i64 0, .int .i64 0, .int .i64 0, .int .i64 0, .int .i64 0, .int .i64 0, .int .i64 0, .int .i64 0, .int .i64 0, .int .i64 0])]) [.agg #[.int .i64 ((eachB meetR 0 a.p b.p)).x.lo, .int .i64 ((eachB meetR 0 a.p b.p)).x.hi, .int .i64 ((eachB meetR 0 a.p b.p)).y.lo, .int .i64 ((eachB meetR 0 a.p b.p)).y.hi, .int .i64 ((eachB meetR 0 a.p b.p)).z.lo, .int .i64 ((eachB meetR 0 a.p b.p)).z.hi], .agg #[.int .i64 ((eachB meetR (each3 meetR 0 a.p b.p).e a.v b.v)).x.lo, .int .i64 ((eachB meetR (each3 meetR 0 a.p b.p).e a.v b.v)).x.hi, .int .i64 ((eachB meetR (each3 meetR 0 a.p b.p).e a.v b.v)).y.lo, .int .i64 ((eachB meetR (each3 meetR 0 a.p b.p).e a.v b.v)).y.hi, .int .i64 ((eachB meetR (each3 meetR 0 a.p b.p).e a.v b.v)).z.lo, .int .i64 ((eachB meetR (each3 meetR 0 a.p b.p).e a.v b.v)).z.hi], .agg #[.int .i64 ((doR (each3 meetR (each3 meetR 0 a.p b.p).e a.v b.v).e (meetR a.m b.m)).s).lo, .int .i64 ((doR (each3 meetR (each3 meetR 0 a.p b.p).e a.v b.v).e (meetR a.m b.m)).s).hi]] [24] (by rfl) (by go_simp) (by go_simp) (by intro W0 hW0 x hx; simp only [List.mem_cons, List.not_mem_nil, or_false] at hx; rcases hx with rfl <;> first | exact goodc_box _ _ hW0 _) (by kernel_rfl) (by kernel_rfl) (by kernel_rfl) ?_
    intro pz hd0
    apply Exists.intro
    apply And.intro
    iterate 8 (apply lexc_pure hd0 (by kernel_rfl); (· intro uz xc; unfold opPure; go_simp; rfl))
    apply lexc_call hd0 0 (by kernel_rfl) (by rfl) (by decide)
    · intro uz hfz hF; clear hF; unfold opCall; go_simp; exact cEach_any 26 _ meetR (enters_of Try.func26 (by kernel_rfl) rfl) _ 0 a.p b.p _ (opc_meet _ _ _ (by go_simp) (by omega)) (by go_simp) hfz
    iterate 6 (apply lexc_pure hd0 (by kernel_rfl); (· intro uz xc; unfold opPure; go_simp; rfl))
    apply lexc_call hd0 1 (by kernel_rfl) (by rfl) (by decide)
    · intro uz hfz hF; clear hF; unfold opCall; go_simp; exact cEach_any 26 _ meetR (enters_of Try.func26 (by kernel_rfl) rfl) _ _ a.v b.v _ (opc_meet _ _ _ (by go_simp) (by omega)) (by go_simp) hfz
    iterate 5 (apply lexc_pure hd0 (by kernel_rfl); (· intro uz xc; unfold opPure; go_simp; rfl))
    apply lexc_call hd0 2 (by kernel_rfl) (by rfl) (by decide)
    · intro uz hfz hF; clear hF; unfold opCall; go_simp; exact opc_meet _ _ _ (by go_simp) (by omega) _ _ a.m b.m St64.m St64.m (ButT.refl _ _) (by go_simp) hfz
    apply lexc_pure hd0 (by kernel_rfl)
    · intro uz xc; unfold opPure; go_simp; rfl
    apply lexc_make hd0 (by kernel_rfl)
    · intro uz xc hF; clear hF; unfold opMake; go_simp; refine (show Made (BoxR _ [.int .i64 0, .int .i64 0, .int .i64 0, .int .i64 0, .int .i64 0, .int .i64 0, .int .i64 0, .int .i64 0, .int .i64 0, .int .i64 0, .int .i64 0, .int .i64 0, .int .i64 0, .int .i64 0, .int .i64 0]) _ _ _ from ?_); exact madec_box _ _ _ _
    apply lexc_end
    rotate_left
    · rfl
    intro uz hR hD hfz
    obtain ⟨q23, e23, hB23, kB23, nB23⟩ := (show BoxR _ [.int .i64 0, .int .i64 0, .int .i64 0, .int .i64 0, .int .i64 0, .int .i64 0, .int .i64 0, .int .i64 0, .int .i64 0, .int .i64 0, .int .i64 0, .int .i64 0, .int .i64 0, .int .i64 0, .int .i64 0] (pz 23) _ from hR 23 (by decide))
    clear hR hD
    rw [e23]
    clear e23
    have oB23 := apart_oldL nB23
    have oC23 := apart_oldR nB23
    have hB23 := boxAt_cw hB23 hd0 nB23
    have kB23 := blockIn_cw kB23
    have hB23_0 := (hB23 0 _ rfl).1
    have hB23f0 := (hB23 0 _ rfl).2
    have hB23i0 : HasCell (uz.world) (q23) 0 := ⟨_, hB23_0⟩
    have hB23_1 := (hB23 1 _ rfl).1
    have hB23f1 := (hB23 1 _ rfl).2
    have hB23i1 : HasCell (uz.world) (q23) 1 := ⟨_, hB23_1⟩
    have hB23_2 := (hB23 2 _ rfl).1
    have hB23f2 := (hB23 2 _ rfl).2
    have hB23i2 : HasCell (uz.world) (q23) 2 := ⟨_, hB23_2⟩
    have hB23_3 := (hB23 3 _ rfl).1
    have hB23f3 := (hB23 3 _ rfl).2
    have hB23i3 : HasCell (uz.world) (q23) 3 := ⟨_, hB23_3⟩
    have hB23_4 := (hB23 4 _ rfl).1
    have hB23f4 := (hB23 4 _ rfl).2
    have hB23i4 : HasCell (uz.world) (q23) 4 := ⟨_, hB23_4⟩
    have hB23_5 := (hB23 5 _ rfl).1
    have hB23f5 := (hB23 5 _ rfl).2
    have hB23i5 : HasCell (uz.world) (q23) 5 := ⟨_, hB23_5⟩
    have hB23_6 := (hB23 6 _ rfl).1
    have hB23f6 := (hB23 6 _ rfl).2
    have hB23i6 : HasCell (uz.world) (q23) 6 := ⟨_, hB23_6⟩
    have hB23_7 := (hB23 7 _ rfl).1
    have hB23f7 := (hB23 7 _ rfl).2
    have hB23i7 : HasCell (uz.world) (q23) 7 := ⟨_, hB23_7⟩
    have hB23_8 := (hB23 8 _ rfl).1
    have hB23f8 := (hB23 8 _ rfl).2
    have hB23i8 : HasCell (uz.world) (q23) 8 := ⟨_, hB23_8⟩
    have hB23_9 := (hB23 9 _ rfl).1
    have hB23f9 := (hB23 9 _ rfl).2
    have hB23i9 : HasCell (uz.world) (q23) 9 := ⟨_, hB23_9⟩
    have hB23_10 := (hB23 10 _ rfl).1
    have hB23f10 := (hB23 10 _ rfl).2
    have hB23i10 : HasCell (uz.world) (q23) 10 := ⟨_, hB23_10⟩
    have hB23_11 := (hB23 11 _ rfl).1
    have hB23f11 := (hB23 11 _ rfl).2
    have hB23i11 : HasCell (uz.world) (q23) 11 := ⟨_, hB23_11⟩
    have hB23_12 := (hB23 12 _ rfl).1
    have hB23f12 := (hB23 12 _ rfl).2
    have hB23i12 : HasCell (uz.world) (q23) 12 := ⟨_, hB23_12⟩
    have hB23_13 := (hB23 13 _ rfl).1
    have hB23f13 := (hB23 13 _ rfl).2
    have hB23i13 : HasCell (uz.world) (q23) 13 := ⟨_, hB23_13⟩
    have hB23_14 := (hB23 14 _ rfl).1
    have hB23f14 := (hB23 14 _ rfl).2
    have hB23i14 : HasCell (uz.world) (q23) 14 := ⟨_, hB23_14⟩
    have hB23b : BlockIn (uz.world) (q23) := BlockIn.of_cell hB23_0
    clear hB23
    refine tail_store (by rfl) ?_; unfold opStore; go_simp
    refine tail_end ?_
    have nw23 : NewFor w q23 := ⟨Nat.le_trans (inferInstance : NewFor w u.world.heap.size).le (by have := nB23.le; simp at this; omega)⟩
    go_wp2
    go_region
    go_wp2
    refine bodyPost_ret (by (simp [results, Try.results11, go_sem] <;> rfl)) rfl ?_
    exact ⟨ret_state (by rw [HJ.out, HA.out, HE.out]; rfl), gw⟩
  · have HA := Lib.hid hA
    rw [hA] at he
    have hne : ((doR (each3 meetR (each3 meetR 0 a.p b.p).e a.v b.v).e (meetR a.m b.m)).e != 0) = false := by simp [he]
    have HE := Lib.hid he
    clear he hA
    refine wp_region_calc (u.world.heap.size) [0, (each3 meetR 0 a.p b.p).e, (each3 meetR (each3 meetR 0 a.p b.p).e a.v b.v).e, (doR (each3 meetR (each3 meetR 0 a.p b.p).e a.v b.v).e (meetR a.m b.m)).e] 24 [23] [8, 15, 21] [] (fun W0 => [(23, BoxR W0 [.int .i64 0, .int .i64 0, .int .i64 0, .int .i64 0, .int .i64 0, .int .i64 0, .int .i64 0, .int .i64 0, .int .i64 0, .int .i64 0, .int .i64 0, .int .i64 0, .int .i64 0, .int .i64 0, .int .i64 0])]) [.agg #[.int .i64 ((eachB meetR 0 a.p b.p)).x.lo, .int .i64 ((eachB meetR 0 a.p b.p)).x.hi, .int .i64 ((eachB meetR 0 a.p b.p)).y.lo, .int .i64 ((eachB meetR 0 a.p b.p)).y.hi, .int .i64 ((eachB meetR 0 a.p b.p)).z.lo, .int .i64 ((eachB meetR 0 a.p b.p)).z.hi], .agg #[.int .i64 ((eachB meetR (each3 meetR 0 a.p b.p).e a.v b.v)).x.lo, .int .i64 ((eachB meetR (each3 meetR 0 a.p b.p).e a.v b.v)).x.hi, .int .i64 ((eachB meetR (each3 meetR 0 a.p b.p).e a.v b.v)).y.lo, .int .i64 ((eachB meetR (each3 meetR 0 a.p b.p).e a.v b.v)).y.hi, .int .i64 ((eachB meetR (each3 meetR 0 a.p b.p).e a.v b.v)).z.lo, .int .i64 ((eachB meetR (each3 meetR 0 a.p b.p).e a.v b.v)).z.hi], .agg #[.int .i64 ((doR (each3 meetR (each3 meetR 0 a.p b.p).e a.v b.v).e (meetR a.m b.m)).s).lo, .int .i64 ((doR (each3 meetR (each3 meetR 0 a.p b.p).e a.v b.v).e (meetR a.m b.m)).s).hi]] [24] (by rfl) (by go_simp) (by go_simp) (by intro W0 hW0 x hx; simp only [List.mem_cons, List.not_mem_nil, or_false] at hx; rcases hx with rfl <;> first | exact goodc_box _ _ hW0 _) (by kernel_rfl) (by kernel_rfl) (by kernel_rfl) ?_
    intro pz hd0
    apply Exists.intro
    apply And.intro
    iterate 8 (apply lexc_pure hd0 (by kernel_rfl); (· intro uz xc; unfold opPure; go_simp; rfl))
    apply lexc_call hd0 0 (by kernel_rfl) (by rfl) (by decide)
    · intro uz hfz hF; clear hF; unfold opCall; go_simp; exact cEach_any 26 _ meetR (enters_of Try.func26 (by kernel_rfl) rfl) _ 0 a.p b.p _ (opc_meet _ _ _ (by go_simp) (by omega)) (by go_simp) hfz
    iterate 6 (apply lexc_pure hd0 (by kernel_rfl); (· intro uz xc; unfold opPure; go_simp; rfl))
    apply lexc_call hd0 1 (by kernel_rfl) (by rfl) (by decide)
    · intro uz hfz hF; clear hF; unfold opCall; go_simp; exact cEach_any 26 _ meetR (enters_of Try.func26 (by kernel_rfl) rfl) _ _ a.v b.v _ (opc_meet _ _ _ (by go_simp) (by omega)) (by go_simp) hfz
    iterate 5 (apply lexc_pure hd0 (by kernel_rfl); (· intro uz xc; unfold opPure; go_simp; rfl))
    apply lexc_call hd0 2 (by kernel_rfl) (by rfl) (by decide)
    · intro uz hfz hF; clear hF; unfold opCall; go_simp; exact opc_meet _ _ _ (by go_simp) (by omega) _ _ a.m b.m St64.m St64.m (ButT.refl _ _) (by go_simp) hfz
    apply lexc_pure hd0 (by kernel_rfl)
    · intro uz xc; unfold opPure; go_simp; rfl
    apply lexc_make hd0 (by kernel_rfl)
    · intro uz xc hF; clear hF; unfold opMake; go_simp; refine (show Made (BoxR _ [.int .i64 0, .int .i64 0, .int .i64 0, .int .i64 0, .int .i64 0, .int .i64 0, .int .i64 0, .int .i64 0, .int .i64 0, .int .i64 0, .int .i64 0, .int .i64 0, .int .i64 0, .int .i64 0, .int .i64 0]) _ _ _ from ?_); exact madec_box _ _ _ _
    apply lexc_end
    rotate_left
    · rfl
    intro uz hR hD hfz
    obtain ⟨q23, e23, hB23, kB23, nB23⟩ := (show BoxR _ [.int .i64 0, .int .i64 0, .int .i64 0, .int .i64 0, .int .i64 0, .int .i64 0, .int .i64 0, .int .i64 0, .int .i64 0, .int .i64 0, .int .i64 0, .int .i64 0, .int .i64 0, .int .i64 0, .int .i64 0] (pz 23) _ from hR 23 (by decide))
    clear hR hD
    rw [e23]
    clear e23
    have oB23 := apart_oldL nB23
    have oC23 := apart_oldR nB23
    have hB23 := boxAt_cw hB23 hd0 nB23
    have kB23 := blockIn_cw kB23
    have hB23_0 := (hB23 0 _ rfl).1
    have hB23f0 := (hB23 0 _ rfl).2
    have hB23i0 : HasCell (uz.world) (q23) 0 := ⟨_, hB23_0⟩
    have hB23_1 := (hB23 1 _ rfl).1
    have hB23f1 := (hB23 1 _ rfl).2
    have hB23i1 : HasCell (uz.world) (q23) 1 := ⟨_, hB23_1⟩
    have hB23_2 := (hB23 2 _ rfl).1
    have hB23f2 := (hB23 2 _ rfl).2
    have hB23i2 : HasCell (uz.world) (q23) 2 := ⟨_, hB23_2⟩
    have hB23_3 := (hB23 3 _ rfl).1
    have hB23f3 := (hB23 3 _ rfl).2
    have hB23i3 : HasCell (uz.world) (q23) 3 := ⟨_, hB23_3⟩
    have hB23_4 := (hB23 4 _ rfl).1
    have hB23f4 := (hB23 4 _ rfl).2
    have hB23i4 : HasCell (uz.world) (q23) 4 := ⟨_, hB23_4⟩
    have hB23_5 := (hB23 5 _ rfl).1
    have hB23f5 := (hB23 5 _ rfl).2
    have hB23i5 : HasCell (uz.world) (q23) 5 := ⟨_, hB23_5⟩
    have hB23_6 := (hB23 6 _ rfl).1
    have hB23f6 := (hB23 6 _ rfl).2
    have hB23i6 : HasCell (uz.world) (q23) 6 := ⟨_, hB23_6⟩
    have hB23_7 := (hB23 7 _ rfl).1
    have hB23f7 := (hB23 7 _ rfl).2
    have hB23i7 : HasCell (uz.world) (q23) 7 := ⟨_, hB23_7⟩
    have hB23_8 := (hB23 8 _ rfl).1
    have hB23f8 := (hB23 8 _ rfl).2
    have hB23i8 : HasCell (uz.world) (q23) 8 := ⟨_, hB23_8⟩
    have hB23_9 := (hB23 9 _ rfl).1
    have hB23f9 := (hB23 9 _ rfl).2
    have hB23i9 : HasCell (uz.world) (q23) 9 := ⟨_, hB23_9⟩
    have hB23_10 := (hB23 10 _ rfl).1
    have hB23f10 := (hB23 10 _ rfl).2
    have hB23i10 : HasCell (uz.world) (q23) 10 := ⟨_, hB23_10⟩
    have hB23_11 := (hB23 11 _ rfl).1
    have hB23f11 := (hB23 11 _ rfl).2
    have hB23i11 : HasCell (uz.world) (q23) 11 := ⟨_, hB23_11⟩
    have hB23_12 := (hB23 12 _ rfl).1
    have hB23f12 := (hB23 12 _ rfl).2
    have hB23i12 : HasCell (uz.world) (q23) 12 := ⟨_, hB23_12⟩
    have hB23_13 := (hB23 13 _ rfl).1
    have hB23f13 := (hB23 13 _ rfl).2
    have hB23i13 : HasCell (uz.world) (q23) 13 := ⟨_, hB23_13⟩
    have hB23_14 := (hB23 14 _ rfl).1
    have hB23f14 := (hB23 14 _ rfl).2
    have hB23i14 : HasCell (uz.world) (q23) 14 := ⟨_, hB23_14⟩
    have hB23b : BlockIn (uz.world) (q23) := BlockIn.of_cell hB23_0
    clear hB23
    refine tail_store (by rfl) ?_; unfold opStore; go_simp
    refine tail_end ?_
    have nw23 : NewFor w q23 := ⟨Nat.le_trans (inferInstance : NewFor w u.world.heap.size).le (by have := nB23.le; simp at this; omega)⟩
    go_wp2
    refine bodyPost_ret (by (simp [results, Try.results11, go_sem] <;> rfl)) rfl ?_
    refine ⟨ret_state ?_, gw⟩
    obtain ⟨v1, v2, v3, v4, v5⟩ := HV.out HA.out
    rw [HJ.out, HA.out, v2, v4, v5, v1, v3]
    rfl
theorem flJoint_any (a b : State) [ha : St64 a] [hb : St64 b] (w : World) : Calls Try.prog 11 #[.agg #[.int .i64 a.t, .int .i64 a.p.x.lo, .int .i64 a.p.x.hi, .int .i64 a.p.y.lo, .int .i64 a.p.y.hi, .int .i64 a.p.z.lo, .int .i64 a.p.z.hi, .int .i64 a.v.x.lo, .int .i64 a.v.x.hi, .int .i64 a.v.y.lo, .int .i64 a.v.y.hi, .int .i64 a.v.z.lo, .int .i64 a.v.z.hi, .int .i64 a.m.lo, .int .i64 a.m.hi], .agg #[.int .i64 b.t, .int .i64 b.p.x.lo, .int .i64 b.p.x.hi, .int .i64 b.p.y.lo, .int .i64 b.p.y.hi, .int .i64 b.p.z.lo, .int .i64 b.p.z.hi, .int .i64 b.v.x.lo, .int .i64 b.v.x.hi, .int .i64 b.v.y.lo, .int .i64 b.v.y.hi, .int .i64 b.v.z.lo, .int .i64 b.v.z.hi, .int .i64 b.m.lo, .int .i64 b.m.hi]] w (RetSt (jointR a b) w) := by
  cases h : (a.okB && b.okB)
  · exact flJoint_bad a b h w
  · rw [Bool.and_eq_true] at h
    by_cases ht : a.t = b.t
    · exact flJoint_meets a b h.1 h.2 ht w
    · exact flJoint_apart a b h.1 h.2 ht w
end Go.Proofs.Ytfcdpilkcinnjaa
