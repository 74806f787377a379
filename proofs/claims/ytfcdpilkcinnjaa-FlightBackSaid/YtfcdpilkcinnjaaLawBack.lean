/-
  FlightBack: for every planet, arc (a table of at most 70 points), length and state: what goes forward by a step, without an error, and back by it, without an error, comes to a state at the same time that has all places, velocities and masses that were there. No condition.
-/
import Derived.Test.YtfcdpilkcinnjaaLaw03W
import Derived.LoopN
import Derived.Test.YtfcdpilkcinnjaaRows
namespace Go.Proofs.Ytfcdpilkcinnjaa
open Go.RowKit Go.ChangeShapes Go.WideShapes Go.ChangeAt Go.Deep
set_option maxRecDepth 100000
set_option maxHeartbeats 16000000
set_option linter.unusedSimpArgs false
theorem back_walk (p : Planet) (a : Arc) (h : Int) (l : List Pt) (s : State) [hp : Pl64 p] [hs : St64 s] [hh : S64 (⟨h, h⟩ : Sp)] [hat : S64 a.thrust] [haf : S64 a.flow] [had : B64 a.dir] (w : World) (hd : DragAt w a l) :
    Calls Try.prog 3 #[.agg #[.int .i64 p.mu.lo, .int .i64 p.mu.hi, .int .i64 p.radius.lo, .int .i64 p.radius.hi, .int .i64 p.oblate.lo, .int .i64 p.oblate.hi, .int .i64 p.spin.lo, .int .i64 p.spin.hi, .int .i64 p.pull.x.lo, .int .i64 p.pull.x.hi, .int .i64 p.pull.y.lo, .int .i64 p.pull.y.hi, .int .i64 p.pull.z.lo, .int .i64 p.pull.z.hi], .agg #[.int .i64 a.time, .int .i64 a.step, .int .i64 a.thrust.lo, .int .i64 a.thrust.hi, .int .i64 a.flow.lo, .int .i64 a.flow.hi, .int .i64 a.dir.x.lo, .int .i64 a.dir.x.hi, .int .i64 a.dir.y.lo, .int .i64 a.dir.y.hi, .int .i64 a.dir.z.lo, .int .i64 a.dir.z.hi, .slice a.drag.ao a.drag.n a.drag.cap, .int .i64 a.drop.lo, .int .i64 a.drop.hi, .int .i64 h], .agg #[.int .i64 s.t, .int .i64 s.p.x.lo, .int .i64 s.p.x.hi, .int .i64 s.p.y.lo, .int .i64 s.p.y.hi, .int .i64 s.p.z.lo, .int .i64 s.p.z.hi, .int .i64 s.v.x.lo, .int .i64 s.v.x.hi, .int .i64 s.v.y.lo, .int .i64 s.v.y.hi, .int .i64 s.v.z.lo, .int .i64 s.v.z.hi, .int .i64 s.m.lo, .int .i64 s.m.hi]] w fun e w' => e = .returned (.bool true) ∧ Grew w w' := by
  have H1 := Lib.hid (fun w' (g : Grew w w') => show Calls Try.prog 9 #[.agg #[.int .i64 p.mu.lo, .int .i64 p.mu.hi, .int .i64 p.radius.lo, .int .i64 p.radius.hi, .int .i64 p.oblate.lo, .int .i64 p.oblate.hi, .int .i64 p.spin.lo, .int .i64 p.spin.hi, .int .i64 p.pull.x.lo, .int .i64 p.pull.x.hi, .int .i64 p.pull.y.lo, .int .i64 p.pull.y.hi, .int .i64 p.pull.z.lo, .int .i64 p.pull.z.hi], .agg #[.int .i64 a.time, .int .i64 a.step, .int .i64 a.thrust.lo, .int .i64 a.thrust.hi, .int .i64 a.flow.lo, .int .i64 a.flow.hi, .int .i64 a.dir.x.lo, .int .i64 a.dir.x.hi, .int .i64 a.dir.y.lo, .int .i64 a.dir.y.hi, .int .i64 a.dir.z.lo, .int .i64 a.dir.z.hi, .slice a.drag.ao a.drag.n a.drag.cap, .int .i64 a.drop.lo, .int .i64 a.drop.hi], .agg #[.int .i64 s.t, .int .i64 s.p.x.lo, .int .i64 s.p.x.hi, .int .i64 s.p.y.lo, .int .i64 s.p.y.hi, .int .i64 s.p.z.lo, .int .i64 s.p.z.hi, .int .i64 s.v.x.lo, .int .i64 s.v.x.hi, .int .i64 s.v.y.lo, .int .i64 s.v.y.hi, .int .i64 s.v.z.lo, .int .i64 s.v.z.hi, .int .i64 s.m.lo, .int .i64 s.m.hi], .int .i64 h] w' (RetS3 (stepRR p a l s h) w') from flStepE_any look_any p a l s h w' (hd.grew g))
  have HLong := Lib.hid (fun v w h => l3Long_one a v w h)
  cases hl : a.longB
  rotate_left
  · rw [hl] at HLong
    generalize stepRR p a l s h = N at *
    go_enter Try.func3, Try.ntmps3
    go_wp2_with (first | (go_at_call 7; (with_reducible refine call_later (l3Alive_any _) ?_); intro ua) | (go_at_call 8; (with_reducible refine call_later (HLong.out _ _ (SlAt.fresh _ _ _ _ (by simp [maxLen]))) ?_); intro ul) | (go_at_call 9; (with_reducible refine (H1.out _ ?_).mono ?_); (· exact gwr); rintro en w2 ⟨rfl, hg⟩; obtain ⟨u1, rfl⟩ := later_of hg; clear hg) | ((with_reducible refine wpList_load_rng ?_ ?_ ?_ ?_ ?_ ?_ ?_ ?_ ?_ ?_ ?_ ?_); rotate_left 6; (· rfl); (· rfl); (· rfl); (· infer_instance); (· infer_instance)) | ((with_reducible refine wpList_load_is ?_ ?_ ?_ ?_ ?_ ?_ ?_ ?_ ?_ ?_ ?_ ?_ ?_); rotate_left 6; (· rfl); (· rfl); (· rfl); (· infer_instance); (· infer_instance); (· rfl)) | ((with_reducible refine wpList_store_fresh ?_ ?_ ?_ ?_ ?_ ?_ ?_ ?_ ?_ ?_ ?_ ?_ ?_ ?_ ?_ ?_ ?_); rotate_left 5; (· rfl); (· rfl); (· rfl); (· rfl); (· rfl); (· infer_instance); (· infer_instance); (· infer_instance); (· infer_instance)) | ((with_reducible refine wpList_store_is ?_ ?_ ?_ ?_ ?_ ?_ ?_ ?_ ?_ ?_ ?_ ?_ ?_ ?_ ?_ ?_ ?_); rotate_left 7; (· rfl); (· rfl); (· rfl); (· rfl); (· rfl); (· infer_instance); (· infer_instance); (· infer_instance); (· infer_instance)))
    go_ret
    exact ⟨rfl, gwr⟩
  rw [hl] at HLong
  by_cases h0 : h = 0
  · have t0 : (h == 0) = true := by simp [h0]
    generalize stepRR p a l s h = N at *
    clear h0
    go_enter Try.func3, Try.ntmps3
    go_wp2_with (first | (go_at_call 7; (with_reducible refine call_later (l3Alive_any _) ?_); intro ua) | (go_at_call 8; (with_reducible refine call_later (HLong.out _ _ (SlAt.fresh _ _ _ _ (by simp [maxLen]))) ?_); intro ul) | (go_at_call 9; (with_reducible refine (H1.out _ ?_).mono ?_); (· exact gwr); rintro en w2 ⟨rfl, hg⟩; obtain ⟨u1, rfl⟩ := later_of hg; clear hg) | ((with_reducible refine wpList_load_rng ?_ ?_ ?_ ?_ ?_ ?_ ?_ ?_ ?_ ?_ ?_ ?_); rotate_left 6; (· rfl); (· rfl); (· rfl); (· infer_instance); (· infer_instance)) | ((with_reducible refine wpList_load_is ?_ ?_ ?_ ?_ ?_ ?_ ?_ ?_ ?_ ?_ ?_ ?_ ?_); rotate_left 6; (· rfl); (· rfl); (· rfl); (· infer_instance); (· infer_instance); (· rfl)) | ((with_reducible refine wpList_store_fresh ?_ ?_ ?_ ?_ ?_ ?_ ?_ ?_ ?_ ?_ ?_ ?_ ?_ ?_ ?_ ?_ ?_); rotate_left 5; (· rfl); (· rfl); (· rfl); (· rfl); (· rfl); (· infer_instance); (· infer_instance); (· infer_instance); (· infer_instance)) | ((with_reducible refine wpList_store_is ?_ ?_ ?_ ?_ ?_ ?_ ?_ ?_ ?_ ?_ ?_ ?_ ?_ ?_ ?_ ?_ ?_); rotate_left 7; (· rfl); (· rfl); (· rfl); (· rfl); (· rfl); (· infer_instance); (· infer_instance); (· infer_instance); (· infer_instance)))
    go_ret
    exact ⟨rfl, gwr⟩
  have t0 : (h == 0) = false := by simp [h0]
  by_cases e1 : (stepRR p a l s h).e = 0
  rotate_left
  · have te1 : ((stepRR p a l s h).e != 0) = true := by simp [e1]
    generalize stepRR p a l s h = N at *
    clear h0 e1
    go_enter Try.func3, Try.ntmps3
    go_wp2_with (first | (go_at_call 7; (with_reducible refine call_later (l3Alive_any _) ?_); intro ua) | (go_at_call 8; (with_reducible refine call_later (HLong.out _ _ (SlAt.fresh _ _ _ _ (by simp [maxLen]))) ?_); intro ul) | (go_at_call 9; (with_reducible refine (H1.out _ ?_).mono ?_); (· exact gwr); rintro en w2 ⟨rfl, hg⟩; obtain ⟨u1, rfl⟩ := later_of hg; clear hg) | ((with_reducible refine wpList_load_rng ?_ ?_ ?_ ?_ ?_ ?_ ?_ ?_ ?_ ?_ ?_ ?_); rotate_left 6; (· rfl); (· rfl); (· rfl); (· infer_instance); (· infer_instance)) | ((with_reducible refine wpList_load_is ?_ ?_ ?_ ?_ ?_ ?_ ?_ ?_ ?_ ?_ ?_ ?_ ?_); rotate_left 6; (· rfl); (· rfl); (· rfl); (· infer_instance); (· infer_instance); (· rfl)) | ((with_reducible refine wpList_store_fresh ?_ ?_ ?_ ?_ ?_ ?_ ?_ ?_ ?_ ?_ ?_ ?_ ?_ ?_ ?_ ?_ ?_); rotate_left 5; (· rfl); (· rfl); (· rfl); (· rfl); (· rfl); (· infer_instance); (· infer_instance); (· infer_instance); (· infer_instance)) | ((with_reducible refine wpList_store_is ?_ ?_ ?_ ?_ ?_ ?_ ?_ ?_ ?_ ?_ ?_ ?_ ?_ ?_ ?_ ?_ ?_); rotate_left 7; (· rfl); (· rfl); (· rfl); (· rfl); (· rfl); (· infer_instance); (· infer_instance); (· infer_instance); (· infer_instance)))
    go_ret
    exact ⟨rfl, gwr⟩
  have hn := (hop_rr e1).2.2.1.1
  have hi := hh.lo
  have hi2 := hh.hi
  have hw : -9223372036854775807 ≤ h ∧ h ≤ 9223372036854775807 := by
    unfold numB at hn
    unfold I64 at hi
    simp at hn hi
    omega
  have hS : S64 (⟨-h, -h⟩ : Sp) := ⟨by unfold I64; simp only; omega, by unfold I64; simp only; omega⟩
  have hneg : IntKind.i64.wrap (-h) = -h := by simp [IntKind.wrap, IntKind.bits, IntKind.signed]; omega
  have H2 := Lib.hid (fun w' (g : Grew w w') => show Calls Try.prog 9 #[.agg #[.int .i64 p.mu.lo, .int .i64 p.mu.hi, .int .i64 p.radius.lo, .int .i64 p.radius.hi, .int .i64 p.oblate.lo, .int .i64 p.oblate.hi, .int .i64 p.spin.lo, .int .i64 p.spin.hi, .int .i64 p.pull.x.lo, .int .i64 p.pull.x.hi, .int .i64 p.pull.y.lo, .int .i64 p.pull.y.hi, .int .i64 p.pull.z.lo, .int .i64 p.pull.z.hi], .agg #[.int .i64 a.time, .int .i64 a.step, .int .i64 a.thrust.lo, .int .i64 a.thrust.hi, .int .i64 a.flow.lo, .int .i64 a.flow.hi, .int .i64 a.dir.x.lo, .int .i64 a.dir.x.hi, .int .i64 a.dir.y.lo, .int .i64 a.dir.y.hi, .int .i64 a.dir.z.lo, .int .i64 a.dir.z.hi, .slice a.drag.ao a.drag.n a.drag.cap, .int .i64 a.drop.lo, .int .i64 a.drop.hi], .agg #[.int .i64 ((stepRR p a l s h).s).t, .int .i64 ((stepRR p a l s h).s).p.x.lo, .int .i64 ((stepRR p a l s h).s).p.x.hi, .int .i64 ((stepRR p a l s h).s).p.y.lo, .int .i64 ((stepRR p a l s h).s).p.y.hi, .int .i64 ((stepRR p a l s h).s).p.z.lo, .int .i64 ((stepRR p a l s h).s).p.z.hi, .int .i64 ((stepRR p a l s h).s).v.x.lo, .int .i64 ((stepRR p a l s h).s).v.x.hi, .int .i64 ((stepRR p a l s h).s).v.y.lo, .int .i64 ((stepRR p a l s h).s).v.y.hi, .int .i64 ((stepRR p a l s h).s).v.z.lo, .int .i64 ((stepRR p a l s h).s).v.z.hi, .int .i64 ((stepRR p a l s h).s).m.lo, .int .i64 ((stepRR p a l s h).s).m.hi], .int .i64 (-h)] w' (RetS3 (stepRR p a l (stepRR p a l s h).s (-h)) w') from flStepE_any look_any p a l (stepRR p a l s h).s (-h) w' (hd.grew g))
  have te1 : ((stepRR p a l s h).e != 0) = false := by simp [e1]
  have HF := Lib.hid (fun z => @back_facts p a l s h e1 z)
  clear hd h0 e1 hn hi hi2 hw
  generalize stepRR p a l (stepRR p a l s h).s (-h) = M at *
  generalize stepRR p a l s h = N at *
  by_cases e2 : M.e = 0
  rotate_left
  · have te2 : (M.e != 0) = true := by simp [e2]
    clear e2
    go_enter Try.func3, Try.ntmps3
    go_wp2_with (first | (go_at_call 7; (with_reducible refine call_later (l3Alive_any _) ?_); intro ua) | (go_at_call 8; (with_reducible refine call_later (HLong.out _ _ (SlAt.fresh _ _ _ _ (by simp [maxLen]))) ?_); intro ul) | (go_at_call 9; (with_reducible refine (H1.out _ ?_).mono ?_); (· exact gwr); rintro en w2 ⟨rfl, hg⟩; obtain ⟨u1, rfl⟩ := later_of hg; clear hg) | (go_at_call 9; (with_reducible refine (H2.out _ ?_).mono ?_); (· exact gwr); rintro en w3 ⟨rfl, hg⟩; obtain ⟨u2, rfl⟩ := later_of hg; clear hg) | ((with_reducible refine wpList_load_rng ?_ ?_ ?_ ?_ ?_ ?_ ?_ ?_ ?_ ?_ ?_ ?_); rotate_left 6; (· rfl); (· rfl); (· rfl); (· infer_instance); (· infer_instance)) | ((with_reducible refine wpList_load_is ?_ ?_ ?_ ?_ ?_ ?_ ?_ ?_ ?_ ?_ ?_ ?_ ?_); rotate_left 6; (· rfl); (· rfl); (· rfl); (· infer_instance); (· infer_instance); (· rfl)) | ((with_reducible refine wpList_store_fresh ?_ ?_ ?_ ?_ ?_ ?_ ?_ ?_ ?_ ?_ ?_ ?_ ?_ ?_ ?_ ?_ ?_); rotate_left 5; (· rfl); (· rfl); (· rfl); (· rfl); (· rfl); (· infer_instance); (· infer_instance); (· infer_instance); (· infer_instance)) | ((with_reducible refine wpList_store_is ?_ ?_ ?_ ?_ ?_ ?_ ?_ ?_ ?_ ?_ ?_ ?_ ?_ ?_ ?_ ?_ ?_); rotate_left 7; (· rfl); (· rfl); (· rfl); (· rfl); (· rfl); (· infer_instance); (· infer_instance); (· infer_instance); (· infer_instance)))
    go_ret
    exact ⟨rfl, gwr⟩
  have te2 : (M.e != 0) = false := by simp [e2]
  obtain ⟨ft, fb, fm⟩ := HF.out e2
  have p0 : s.p.x.inB M.s.p.x = true := (fb 0).1
  have p1 : s.p.y.inB M.s.p.y = true := (fb 1).1
  have p2 : s.p.z.inB M.s.p.z = true := (fb 2).1
  have v0 : s.v.x.inB M.s.v.x = true := (fb 0).2
  have v1 : s.v.y.inB M.s.v.y = true := (fb 1).2
  have v2 : s.v.z.inB M.s.v.z = true := (fb 2).2
  have P0 := Lib.hid (fun w => is_bool p0 (spWithin_any s.p.x M.s.p.x w))
  have P1 := Lib.hid (fun w => is_bool p1 (spWithin_any s.p.y M.s.p.y w))
  have P2 := Lib.hid (fun w => is_bool p2 (spWithin_any s.p.z M.s.p.z w))
  have V0 := Lib.hid (fun w => is_bool v0 (spWithin_any s.v.x M.s.v.x w))
  have V1 := Lib.hid (fun w => is_bool v1 (spWithin_any s.v.y M.s.v.y w))
  have V2 := Lib.hid (fun w => is_bool v2 (spWithin_any s.v.z M.s.v.z w))
  have M0 := Lib.hid (fun w => is_bool fm (spWithin_any s.m M.s.m w))
  have tt : (M.s.t == s.t) = true := by simp [ft]
  clear HF fb fm ft e2 p0 p1 p2 v0 v1 v2
  go_enter Try.func3, Try.ntmps3
  go_wp2_with (first | (go_at_call 7; (with_reducible refine call_later (l3Alive_any _) ?_); intro ua) | (go_at_call 8; (with_reducible refine call_later (HLong.out _ _ (SlAt.fresh _ _ _ _ (by simp [maxLen]))) ?_); intro ul) | (go_at_call 9; (with_reducible refine (H1.out _ ?_).mono ?_); (· exact gwr); rintro en w2 ⟨rfl, hg⟩; obtain ⟨u1, rfl⟩ := later_of hg; clear hg) | (go_at_call 9; (with_reducible refine (H2.out _ ?_).mono ?_); (· exact gwr); rintro en w3 ⟨rfl, hg⟩; obtain ⟨u2, rfl⟩ := later_of hg; clear hg) | ((with_reducible refine wpList_load_rng ?_ ?_ ?_ ?_ ?_ ?_ ?_ ?_ ?_ ?_ ?_ ?_); rotate_left 6; (· rfl); (· rfl); (· rfl); (· infer_instance); (· infer_instance)) | ((with_reducible refine wpList_load_is ?_ ?_ ?_ ?_ ?_ ?_ ?_ ?_ ?_ ?_ ?_ ?_ ?_); rotate_left 6; (· rfl); (· rfl); (· rfl); (· infer_instance); (· infer_instance); (· rfl)) | ((with_reducible refine wpList_store_fresh ?_ ?_ ?_ ?_ ?_ ?_ ?_ ?_ ?_ ?_ ?_ ?_ ?_ ?_ ?_ ?_ ?_); rotate_left 5; (· rfl); (· rfl); (· rfl); (· rfl); (· rfl); (· infer_instance); (· infer_instance); (· infer_instance); (· infer_instance)) | ((with_reducible refine wpList_store_is ?_ ?_ ?_ ?_ ?_ ?_ ?_ ?_ ?_ ?_ ?_ ?_ ?_ ?_ ?_ ?_ ?_); rotate_left 7; (· rfl); (· rfl); (· rfl); (· rfl); (· rfl); (· infer_instance); (· infer_instance); (· infer_instance); (· infer_instance)))
  refine wp_loop_rounds 4 ?_
  rw [rounds_succ]
  go_wp2_with (first | (go_at_call 10; (with_reducible refine call_later (P0.out _) ?_); intro u) | (go_at_call 10; (with_reducible refine call_later (V0.out _) ?_); intro u) | ((with_reducible refine wp_region_later ?_ ?_ ?_); (· kernel_rfl); (· kernel_rfl); (try simp only [List.append_eq, List.cons_append, List.nil_append]); (repeat (go_big_quiet_step ((first | (go_at_call 10; (with_reducible exact call_quiet (P0.out _))) | (go_at_call 10; (with_reducible exact call_quiet (V0.out _))))))); refine wpQuiet_nil ?_; rintro _ ⟨u, rfl⟩))
  rw [rounds_succ]
  go_wp2_with (first | (go_at_call 10; (with_reducible refine call_later (P1.out _) ?_); intro u) | (go_at_call 10; (with_reducible refine call_later (V1.out _) ?_); intro u) | ((with_reducible refine wp_region_later ?_ ?_ ?_); (· kernel_rfl); (· kernel_rfl); (try simp only [List.append_eq, List.cons_append, List.nil_append]); (repeat (go_big_quiet_step ((first | (go_at_call 10; (with_reducible exact call_quiet (P1.out _))) | (go_at_call 10; (with_reducible exact call_quiet (V1.out _))))))); refine wpQuiet_nil ?_; rintro _ ⟨u, rfl⟩))
  rw [rounds_succ]
  go_wp2_with (first | (go_at_call 10; (with_reducible refine call_later (P2.out _) ?_); intro u) | (go_at_call 10; (with_reducible refine call_later (V2.out _) ?_); intro u) | ((with_reducible refine wp_region_later ?_ ?_ ?_); (· kernel_rfl); (· kernel_rfl); (try simp only [List.append_eq, List.cons_append, List.nil_append]); (repeat (go_big_quiet_step ((first | (go_at_call 10; (with_reducible exact call_quiet (P2.out _))) | (go_at_call 10; (with_reducible exact call_quiet (V2.out _))))))); refine wpQuiet_nil ?_; rintro _ ⟨u, rfl⟩))
  rw [rounds_succ]
  go_wp2_with (first | (go_at_call 10; (with_reducible refine call_later (M0.out _) ?_); intro u) | ((with_reducible refine wp_region_later ?_ ?_ ?_); (· kernel_rfl); (· kernel_rfl); (try simp only [List.append_eq, List.cons_append, List.nil_append]); (repeat (go_big_quiet_step ((first | (go_at_call 10; (with_reducible exact call_quiet (M0.out _))))))); refine wpQuiet_nil ?_; rintro _ ⟨u, rfl⟩))
  go_ret
  exact ⟨rfl, gwr⟩
namespace flightBackRow
open Go.ChangeShapes Go.WideShapes Go.ChangeAt Go.RowKit
theorem own : ownKnob Try.prog.godebug = none := by kernel_rfl
theorem lifted (os : Os) (started : os.Started) (H : Type) (enc : TypeId × Value → H) :
    ReturnsInHanded {} Try.checked os 3 .any (Rows.flightBackSpec.pre6 enc Try.prog Try.f3 Rows.flightBackRow.domain false) (Rows.flightBackSpec.post enc Try.prog Try.f3 false true false false) := by
  refine returnsInHanded_of_change (C := Try.checked) own started (by kernel_rfl) Try.func3
    (ChangeSpec.witness6 (enc := enc) (C := Try.checked) false ⟨#[], #[.agg #[.int .i64 0, .int .i64 0, .int .i64 0, .int .i64 0, .int .i64 0, .int .i64 0, .int .i64 0, .int .i64 0, .int .i64 0, .int .i64 0, .int .i64 0, .int .i64 0, .int .i64 0, .int .i64 0], .agg #[.int .i64 0, .int .i64 0, .int .i64 0, .int .i64 0, .int .i64 0, .int .i64 0, .int .i64 0, .int .i64 0, .int .i64 0, .int .i64 0, .int .i64 0, .int .i64 0, .slice none 0 0, .int .i64 0, .int .i64 0, .int .i64 0], .agg #[.int .i64 0, .int .i64 0, .int .i64 0, .int .i64 0, .int .i64 0, .int .i64 0, .int .i64 0, .int .i64 0, .int .i64 0, .int .i64 0, .int .i64 0, .int .i64 0, .int .i64 0, .int .i64 0, .int .i64 0]], []⟩ 8 (by as_aux_lemma => kernel_rfl) (by as_aux_lemma => kernel_rfl) (by as_aux_lemma => kernel_rfl) (by as_aux_lemma => kernel_rfl)) ?_
  intro W base args ds gs before hval0 hW _ _
  have hval : ∀ (j : Nat) t v, Try.f3.params[j]? = some t → args[j]? = some v → Value.okWide Try.prog W .any base t v := hval0
  have hW' := hW
  obtain ⟨p, q, hA0, hV, rfl, hfz, hnd⟩ := hW
  have hA : DataW.TrodAll enc Try.prog W 0 (fun _ => true) true Try.f3.params.toList args.toList ds p := hA0
  rw [Try.params3] at hA hval
  obtain ⟨v0, vs0, d0, ds0, p0, q0, hargs, rfl, rfl, h0, r0⟩ := trodAll_cons hA
  obtain ⟨v1, vs1, d1, ds1, p1, q1, rfl, rfl, rfl, h1, r1⟩ := trodAll_cons r0
  obtain ⟨v2, vs2, d2, ds2, p2, q2, rfl, rfl, rfl, h2, r2⟩ := trodAll_cons r1
  obtain ⟨rfl, rfl, rfl⟩ := trodAll_nil r2
  obtain rfl : args = #[v0, v1, v2] := by cases args; simp_all
  obtain ⟨rfl, rfl⟩ := trodVars_none hV
  obtain ⟨cs0, rfl, -⟩ := okWide_struct Try.underlying28 (hval 0 28 v0 rfl rfl)
  obtain ⟨cs1, rfl, -⟩ := okWide_struct Try.underlying33 (hval 1 33 v1 rfl rfl)
  obtain ⟨cs2, rfl, -⟩ := okWide_struct Try.underlying35 (hval 2 35 v2 rfl rfl)
  obtain ⟨_, h0⟩ := h0
  obtain ⟨_, h1⟩ := h1
  obtain ⟨_, h2⟩ := h2
  obtain ⟨a0, e0, j1, j2, j3, j4, j5, j6, j7, j8, j9, j10, j11, j12, j13, j14⟩ := planet_trod h0
  obtain ⟨a1, l1, k1, e1, hd, i3, i4, i5, i6, i7, i8, i9, i10, i11, i12, i13⟩ := move_trod h1
  obtain ⟨a2, e2, s1, s2, s3, s4, s5, s6, s7, s8, s9, s10, s11, s12, s13, s14, s15⟩ := state_trod h2
  obtain rfl : cs0 = a0.cells.toArray := Array.ext' (by simpa [Value.cells] using e0)
  obtain rfl : cs1 = #[.int .i64 a1.time, .int .i64 a1.step, .int .i64 a1.thrust.lo, .int .i64 a1.thrust.hi, .int .i64 a1.flow.lo, .int .i64 a1.flow.hi, .int .i64 a1.dir.x.lo, .int .i64 a1.dir.x.hi, .int .i64 a1.dir.y.lo, .int .i64 a1.dir.y.hi, .int .i64 a1.dir.z.lo, .int .i64 a1.dir.z.hi, .slice a1.drag.ao a1.drag.n a1.drag.cap, .int .i64 a1.drop.lo, .int .i64 a1.drop.hi, .int .i64 k1] := Array.ext' (by simpa [Value.cells] using e1)
  obtain rfl : cs2 = a2.cells.toArray := Array.ext' (by simpa [Value.cells] using e2)
  have hP : Pl64 a0 := ⟨⟨j1, j2⟩, ⟨j3, j4⟩, ⟨j5, j6⟩, ⟨j7, j8⟩, b64_of j9 j10 j11 j12 j13 j14⟩
  have hA1 : S64 a1.thrust := ⟨i3, i4⟩
  have hA3 : S64 a1.flow := ⟨i5, i6⟩
  have hA2 : B64 a1.dir := b64_of i7 i8 i9 i10 i11 i12
  have hH : S64 (⟨k1, k1⟩ : Sp) := ⟨i13, i13⟩
  have hS : St64 a2 := ⟨s1, b64_of s2 s3 s4 s5 s6 s7, b64_of s8 s9 s10 s11 s12 s13, ⟨s14, s15⟩⟩
  refine (back_walk a0 a1 k1 l1 a2 W hd).mono fun e W' ⟨he, hg⟩ => ?_
  subst he
  exact ⟨_, rfl, law_post (by kernel_rfl) (by kernel_rfl) rfl rfl Try.underlying4 hW' rfl hg⟩
theorem proved : Rows.FlightBackSaid :=
  OpenClaim.holds_of_wide 3 Try.f3 rfl rfl rfl rfl rfl rfl rfl ⟨rfl, rfl, rfl, rfl, rfl⟩ rfl rfl rfl rfl rfl (by as_aux_lemma => kernel_rfl) Try.func3 (by as_aux_lemma => kernel_rfl)
    (of_decide_eq_true (by as_aux_lemma => kernel_rfl)) (by unfold Func.isWrapper; first | (rw [if_pos (by decide +kernel)]; kernel_rfl) | (rw [if_neg (by decide +kernel)]; exact ⟨rfl, rfl⟩))
    (fun os started H enc _ => lifted os started H enc)
end flightBackRow
end Go.Proofs.Ytfcdpilkcinnjaa
