/-
  Contracts: ullageref03.Joint.
-/
import Derived.Test.YtdanaclplmacgaaRefJointB
namespace Go.Proofs.Ytdanaclplmacgaa
open Go.RowKit Go.Shelf
set_option maxRecDepth 100000
set_option maxHeartbeats 16000000
theorem rcMeet_q7 (c : Nat) (a b : State) (w : World) (hc : w.cell? ⟨c, 0, none⟩ = some (.int .i64 (q6 a b).e)) (hf : w.frozen? ⟨c, 0, none⟩ = false) :
    Calls Try.prog 135 #[.pointer (some ⟨c, 0, none⟩), .agg #[.int .i64 a.m.lo, .int .i64 a.m.hi], .agg #[.int .i64 b.m.lo, .int .i64 b.m.hi]] w (RetC c (.agg #[.int .i64 ((q7 a b).s).lo, .int .i64 ((q7 a b).s).hi]) (q7 a b).e w) := rcMeet_any c (q6 a b).e a.m b.m w hc hf
theorem r3Joint_meets (a b : State) (h1 : a.okB = true) (h2 : b.okB = true) (ht : a.t = b.t) (w : World) : Calls Try.prog 61 #[.agg #[.int .i64 a.t, .int .i64 a.p.x.lo, .int .i64 a.p.x.hi, .int .i64 a.p.y.lo, .int .i64 a.p.y.hi, .int .i64 a.p.z.lo, .int .i64 a.p.z.hi, .int .i64 a.v.x.lo, .int .i64 a.v.x.hi, .int .i64 a.v.y.lo, .int .i64 a.v.y.hi, .int .i64 a.v.z.lo, .int .i64 a.v.z.hi, .int .i64 a.m.lo, .int .i64 a.m.hi], .agg #[.int .i64 b.t, .int .i64 b.p.x.lo, .int .i64 b.p.x.hi, .int .i64 b.p.y.lo, .int .i64 b.p.y.hi, .int .i64 b.p.z.lo, .int .i64 b.p.z.hi, .int .i64 b.v.x.lo, .int .i64 b.v.x.hi, .int .i64 b.v.y.lo, .int .i64 b.v.y.hi, .int .i64 b.v.z.lo, .int .i64 b.v.z.hi, .int .i64 b.m.lo, .int .i64 b.m.hi]] w (RetSt (jointR a b) w) := by
  have hJ : jointR a b = if jointAll a b then ⟨⟨a.t, meetB a.p b.p, meetB a.v b.v, (meetR a.m b.m).s⟩, 0⟩ else ⟨zState, 7⟩ := by unfold jointR; rw [h1, h2, if_pos (by rfl), if_pos ht]
  have HJ := Lib.hid hJ
  have HE := Lib.hid (q_err a b h1 h2)
  have HV := Lib.hid (q_val a b)
  have ht' : (a.t != b.t) = false := by simp [ht]
  clear hJ ht
  go_enter Try.func61, Try.ntmps61
  go_wp2_with (first | (go_at_call 37; (with_reducible refine call_later (r3State_yes a h1 _) ?_); intro u) | (go_at_call 37; (with_reducible refine call_later (r3State_yes b h2 _) ?_); intro u) | ((with_reducible refine wp_region_later ?_ ?_ ?_); (· kernel_rfl); (· kernel_rfl); (repeat (go_big_quiet_step ((first | (go_at_call 37; (with_reducible exact call_quiet (r3State_yes a h1 _))) | (go_at_call 37; (with_reducible exact call_quiet (r3State_yes b h2 _))))))); refine wpQuiet_nil ?_; rintro _ ⟨u, rfl⟩))
  have nwc : NewFor w u.world.heap.size := inferInstance
  have nwd : NewFor w (u.world.heap.size + 1) := inferInstance
  refine wp_loop_rounds 4 ?_
  rw [rounds_succ]
  go_wp2
  refine wp_region_calc (u.world.heap.size) [0, (q1 a b).e] 13 [] [10] [11] (fun W0 => []) [.agg #[.int .i64 ((q1 a b).s).lo, .int .i64 ((q1 a b).s).hi]] [13] (by rfl) (by go_simp) (by go_simp) (fun _ _ x hx => absurd hx (List.not_mem_nil)) (by kernel_rfl) (by kernel_rfl) (by kernel_rfl) ?_
  intro pz hd0
  apply Exists.intro
  apply And.intro
  apply lexc_pure hd0 (by kernel_rfl)
  · intro uz xc; unfold opPure; go_simp; rfl
  apply lexc_pure hd0 (by kernel_rfl)
  · intro uz xc; unfold opPure; go_simp; rfl
  apply lexc_pure hd0 (by kernel_rfl)
  · intro uz xc; unfold opPure; go_simp; rfl
  apply lexc_pure hd0 (by kernel_rfl)
  · intro uz xc; unfold opPure; go_simp; rfl
  apply lexc_pure hd0 (by kernel_rfl)
  · intro uz xc; unfold opPure; go_simp; rfl
  apply lexc_pure hd0 (by kernel_rfl)
  · intro uz xc; unfold opPure; go_simp; rfl
  apply lexc_pure hd0 (by kernel_rfl)
  · intro uz xc; unfold opPure; go_simp; rfl
  apply lexc_pure hd0 (by kernel_rfl)
  · intro uz xc; unfold opPure; go_simp; rfl
  apply lexc_pure hd0 (by kernel_rfl)
  · intro uz xc; unfold opPure; go_simp; rfl
  apply lexc_pure hd0 (by kernel_rfl)
  · intro uz xc; unfold opPure; go_simp; rfl
  apply lexc_call hd0 0 (by kernel_rfl) (by rfl) (by decide)
  · intro uz hfz hF; clear hF; unfold opCall; go_simp; exact rcMeet_any _ (0) a.p.x b.p.x _ (by go_simp) hfz
  apply lexc_free (by kernel_rfl)
  · intro u; unfold opPure; go_simp; rfl
  apply lexc_pure hd0 (by kernel_rfl)
  · intro uz xc; unfold opPure; go_simp; rfl
  apply lexc_end
  rotate_left
  · rfl
  intro uz hR hD hfz
  clear hR hD
  refine tail_store (by rfl) ?_; unfold opStore; go_simp
  refine tail_end ?_
  go_wp2
  refine wp_region_calc (u.world.heap.size) [(q1 a b).e, (q2 a b).e] 13 [] [10] [11] (fun W0 => []) [.agg #[.int .i64 ((q2 a b).s).lo, .int .i64 ((q2 a b).s).hi]] [13] (by rfl) (by go_simp) (by go_simp) (fun _ _ x hx => absurd hx (List.not_mem_nil)) (by kernel_rfl) (by kernel_rfl) (by kernel_rfl) ?_
  intro pz hd0
  apply Exists.intro
  apply And.intro
  apply lexc_pure hd0 (by kernel_rfl)
  · intro uz xc; unfold opPure; go_simp; rfl
  apply lexc_pure hd0 (by kernel_rfl)
  · intro uz xc; unfold opPure; go_simp; rfl
  apply lexc_pure hd0 (by kernel_rfl)
  · intro uz xc; unfold opPure; go_simp; rfl
  apply lexc_pure hd0 (by kernel_rfl)
  · intro uz xc; unfold opPure; go_simp; rfl
  apply lexc_pure hd0 (by kernel_rfl)
  · intro uz xc; unfold opPure; go_simp; rfl
  apply lexc_pure hd0 (by kernel_rfl)
  · intro uz xc; unfold opPure; go_simp; rfl
  apply lexc_pure hd0 (by kernel_rfl)
  · intro uz xc; unfold opPure; go_simp; rfl
  apply lexc_pure hd0 (by kernel_rfl)
  · intro uz xc; unfold opPure; go_simp; rfl
  apply lexc_pure hd0 (by kernel_rfl)
  · intro uz xc; unfold opPure; go_simp; rfl
  apply lexc_pure hd0 (by kernel_rfl)
  · intro uz xc; unfold opPure; go_simp; rfl
  apply lexc_call hd0 0 (by kernel_rfl) (by rfl) (by decide)
  · intro uz hfz hF; clear hF; unfold opCall; go_simp; exact rcMeet_any _ ((q1 a b).e) a.v.x b.v.x _ (by go_simp) hfz
  apply lexc_free (by kernel_rfl)
  · intro u; unfold opPure; go_simp; rfl
  apply lexc_pure hd0 (by kernel_rfl)
  · intro uz xc; unfold opPure; go_simp; rfl
  apply lexc_end
  rotate_left
  · rfl
  intro uz hR hD hfz
  clear hR hD
  refine tail_store (by rfl) ?_; unfold opStore; go_simp
  refine tail_end ?_
  go_wp2
  rw [rounds_succ]
  go_wp2
  refine wp_region_calc (u.world.heap.size) [(q2 a b).e, (q3 a b).e] 13 [] [10] [11] (fun W0 => []) [.agg #[.int .i64 ((q3 a b).s).lo, .int .i64 ((q3 a b).s).hi]] [13] (by rfl) (by go_simp) (by go_simp) (fun _ _ x hx => absurd hx (List.not_mem_nil)) (by kernel_rfl) (by kernel_rfl) (by kernel_rfl) ?_
  intro pz hd0
  apply Exists.intro
  apply And.intro
  apply lexc_pure hd0 (by kernel_rfl)
  · intro uz xc; unfold opPure; go_simp; rfl
  apply lexc_pure hd0 (by kernel_rfl)
  · intro uz xc; unfold opPure; go_simp; rfl
  apply lexc_pure hd0 (by kernel_rfl)
  · intro uz xc; unfold opPure; go_simp; rfl
  apply lexc_pure hd0 (by kernel_rfl)
  · intro uz xc; unfold opPure; go_simp; rfl
  apply lexc_pure hd0 (by kernel_rfl)
  · intro uz xc; unfold opPure; go_simp; rfl
  apply lexc_pure hd0 (by kernel_rfl)
  · intro uz xc; unfold opPure; go_simp; rfl
  apply lexc_pure hd0 (by kernel_rfl)
  · intro uz xc; unfold opPure; go_simp; rfl
  apply lexc_pure hd0 (by kernel_rfl)
  · intro uz xc; unfold opPure; go_simp; rfl
  apply lexc_pure hd0 (by kernel_rfl)
  · intro uz xc; unfold opPure; go_simp; rfl
  apply lexc_pure hd0 (by kernel_rfl)
  · intro uz xc; unfold opPure; go_simp; rfl
  apply lexc_call hd0 0 (by kernel_rfl) (by rfl) (by decide)
  · intro uz hfz hF; clear hF; unfold opCall; go_simp; exact rcMeet_any _ ((q2 a b).e) a.p.y b.p.y _ (by go_simp) hfz
  apply lexc_free (by kernel_rfl)
  · intro u; unfold opPure; go_simp; rfl
  apply lexc_pure hd0 (by kernel_rfl)
  · intro uz xc; unfold opPure; go_simp; rfl
  apply lexc_end
  rotate_left
  · rfl
  intro uz hR hD hfz
  clear hR hD
  refine tail_store (by rfl) ?_; unfold opStore; go_simp
  refine tail_end ?_
  go_wp2
  refine wp_region_calc (u.world.heap.size) [(q3 a b).e, (q4 a b).e] 13 [] [10] [11] (fun W0 => []) [.agg #[.int .i64 ((q4 a b).s).lo, .int .i64 ((q4 a b).s).hi]] [13] (by rfl) (by go_simp) (by go_simp) (fun _ _ x hx => absurd hx (List.not_mem_nil)) (by kernel_rfl) (by kernel_rfl) (by kernel_rfl) ?_
  intro pz hd0
  apply Exists.intro
  apply And.intro
  apply lexc_pure hd0 (by kernel_rfl)
  · intro uz xc; unfold opPure; go_simp; rfl
  apply lexc_pure hd0 (by kernel_rfl)
  · intro uz xc; unfold opPure; go_simp; rfl
  apply lexc_pure hd0 (by kernel_rfl)
  · intro uz xc; unfold opPure; go_simp; rfl
  apply lexc_pure hd0 (by kernel_rfl)
  · intro uz xc; unfold opPure; go_simp; rfl
  apply lexc_pure hd0 (by kernel_rfl)
  · intro uz xc; unfold opPure; go_simp; rfl
  apply lexc_pure hd0 (by kernel_rfl)
  · intro uz xc; unfold opPure; go_simp; rfl
  apply lexc_pure hd0 (by kernel_rfl)
  · intro uz xc; unfold opPure; go_simp; rfl
  apply lexc_pure hd0 (by kernel_rfl)
  · intro uz xc; unfold opPure; go_simp; rfl
  apply lexc_pure hd0 (by kernel_rfl)
  · intro uz xc; unfold opPure; go_simp; rfl
  apply lexc_pure hd0 (by kernel_rfl)
  · intro uz xc; unfold opPure; go_simp; rfl
  apply lexc_call hd0 0 (by kernel_rfl) (by rfl) (by decide)
  · intro uz hfz hF; clear hF; unfold opCall; go_simp; exact rcMeet_any _ ((q3 a b).e) a.v.y b.v.y _ (by go_simp) hfz
  apply lexc_free (by kernel_rfl)
  · intro u; unfold opPure; go_simp; rfl
  apply lexc_pure hd0 (by kernel_rfl)
  · intro uz xc; unfold opPure; go_simp; rfl
  apply lexc_end
  rotate_left
  · rfl
  intro uz hR hD hfz
  clear hR hD
  refine tail_store (by rfl) ?_; unfold opStore; go_simp
  refine tail_end ?_
  go_wp2
  rw [rounds_succ]
  go_wp2
  refine wp_region_calc (u.world.heap.size) [(q4 a b).e, (q5 a b).e] 13 [] [10] [11] (fun W0 => []) [.agg #[.int .i64 ((q5 a b).s).lo, .int .i64 ((q5 a b).s).hi]] [13] (by rfl) (by go_simp) (by go_simp) (fun _ _ x hx => absurd hx (List.not_mem_nil)) (by kernel_rfl) (by kernel_rfl) (by kernel_rfl) ?_
  intro pz hd0
  apply Exists.intro
  apply And.intro
  apply lexc_pure hd0 (by kernel_rfl)
  · intro uz xc; unfold opPure; go_simp; rfl
  apply lexc_pure hd0 (by kernel_rfl)
  · intro uz xc; unfold opPure; go_simp; rfl
  apply lexc_pure hd0 (by kernel_rfl)
  · intro uz xc; unfold opPure; go_simp; rfl
  apply lexc_pure hd0 (by kernel_rfl)
  · intro uz xc; unfold opPure; go_simp; rfl
  apply lexc_pure hd0 (by kernel_rfl)
  · intro uz xc; unfold opPure; go_simp; rfl
  apply lexc_pure hd0 (by kernel_rfl)
  · intro uz xc; unfold opPure; go_simp; rfl
  apply lexc_pure hd0 (by kernel_rfl)
  · intro uz xc; unfold opPure; go_simp; rfl
  apply lexc_pure hd0 (by kernel_rfl)
  · intro uz xc; unfold opPure; go_simp; rfl
  apply lexc_pure hd0 (by kernel_rfl)
  · intro uz xc; unfold opPure; go_simp; rfl
  apply lexc_pure hd0 (by kernel_rfl)
  · intro uz xc; unfold opPure; go_simp; rfl
  apply lexc_call hd0 0 (by kernel_rfl) (by rfl) (by decide)
  · intro uz hfz hF; clear hF; unfold opCall; go_simp; exact rcMeet_any _ ((q4 a b).e) a.p.z b.p.z _ (by go_simp) hfz
  apply lexc_free (by kernel_rfl)
  · intro u; unfold opPure; go_simp; rfl
  apply lexc_pure hd0 (by kernel_rfl)
  · intro uz xc; unfold opPure; go_simp; rfl
  apply lexc_end
  rotate_left
  · rfl
  intro uz hR hD hfz
  clear hR hD
  refine tail_store (by rfl) ?_; unfold opStore; go_simp
  refine tail_end ?_
  go_wp2
  refine wp_region_calc (u.world.heap.size) [(q5 a b).e, (q6 a b).e] 13 [] [10] [11] (fun W0 => []) [.agg #[.int .i64 ((q6 a b).s).lo, .int .i64 ((q6 a b).s).hi]] [13] (by rfl) (by go_simp) (by go_simp) (fun _ _ x hx => absurd hx (List.not_mem_nil)) (by kernel_rfl) (by kernel_rfl) (by kernel_rfl) ?_
  intro pz hd0
  apply Exists.intro
  apply And.intro
  apply lexc_pure hd0 (by kernel_rfl)
  · intro uz xc; unfold opPure; go_simp; rfl
  apply lexc_pure hd0 (by kernel_rfl)
  · intro uz xc; unfold opPure; go_simp; rfl
  apply lexc_pure hd0 (by kernel_rfl)
  · intro uz xc; unfold opPure; go_simp; rfl
  apply lexc_pure hd0 (by kernel_rfl)
  · intro uz xc; unfold opPure; go_simp; rfl
  apply lexc_pure hd0 (by kernel_rfl)
  · intro uz xc; unfold opPure; go_simp; rfl
  apply lexc_pure hd0 (by kernel_rfl)
  · intro uz xc; unfold opPure; go_simp; rfl
  apply lexc_pure hd0 (by kernel_rfl)
  · intro uz xc; unfold opPure; go_simp; rfl
  apply lexc_pure hd0 (by kernel_rfl)
  · intro uz xc; unfold opPure; go_simp; rfl
  apply lexc_pure hd0 (by kernel_rfl)
  · intro uz xc; unfold opPure; go_simp; rfl
  apply lexc_pure hd0 (by kernel_rfl)
  · intro uz xc; unfold opPure; go_simp; rfl
  apply lexc_call hd0 0 (by kernel_rfl) (by rfl) (by decide)
  · intro uz hfz hF; clear hF; unfold opCall; go_simp; exact rcMeet_any _ ((q5 a b).e) a.v.z b.v.z _ (by go_simp) hfz
  apply lexc_free (by kernel_rfl)
  · intro u; unfold opPure; go_simp; rfl
  apply lexc_pure hd0 (by kernel_rfl)
  · intro uz xc; unfold opPure; go_simp; rfl
  apply lexc_end
  rotate_left
  · rfl
  intro uz hR hD hfz
  clear hR hD
  refine tail_store (by rfl) ?_; unfold opStore; go_simp
  refine tail_end ?_
  go_wp2
  rw [rounds_succ]
  cases hA : jointAll a b
  · have HA := Lib.hid hA
    have he := HE.out
    rw [hA] at he
    have hne : ((q7 a b).e != 0) = true := by rw [he]; rfl
    have HE7 := Lib.hid he
    clear he hA
    go_wp2_with (go_at_call 135; refine call_calc (rcMeet_q7 _ a b _ (by go_simp) (by go_simp)) ?_; intro u)
    go_region
    go_wp2
    refine bodyPost_ret (by (simp [results, Try.results61, go_sem] <;> rfl)) rfl ?_
    exact ⟨ret_state (by rw [HJ.out, HA.out, HE7.out]; rfl), (by repeat (first | with_reducible exact Grew.refl _ | with_reducible apply Grew.alloc | with_reducible apply Grew.later | with_reducible apply Grew.drew | with_reducible apply Grew.store | with_reducible assumption))⟩
  · have HA := Lib.hid hA
    have he := HE.out
    rw [hA] at he
    have hne : ((q7 a b).e != 0) = false := by rw [he]; rfl
    have HE7 := Lib.hid he
    clear he hA
    go_wp2_with (go_at_call 135; refine call_calc (rcMeet_q7 _ a b _ (by go_simp) (by go_simp)) ?_; intro u)
    refine bodyPost_ret (by (simp [results, Try.results61, go_sem] <;> rfl)) rfl ?_
    refine ⟨ret_state ?_, (by repeat (first | with_reducible exact Grew.refl _ | with_reducible apply Grew.alloc | with_reducible apply Grew.later | with_reducible apply Grew.drew | with_reducible apply Grew.store | with_reducible assumption))⟩
    obtain ⟨v1, v2⟩ := HV.out HA.out
    injection v1 with v3 v4
    injection v3 with x1 x2 x3
    injection v4 with y1 y2 y3
    show (⟨⟨a.t, ⟨(q1 a b).s, (q3 a b).s, (q5 a b).s⟩, ⟨(q2 a b).s, (q4 a b).s, (q6 a b).s⟩, (q7 a b).s⟩, 0⟩ : SRes) = jointR a b
    rw [HJ.out, HA.out, x1, x2, x3, y1, y2, y3, v2]
    rfl
theorem r3Joint_any (a b : State) (w : World) : Calls Try.prog 61 #[.agg #[.int .i64 a.t, .int .i64 a.p.x.lo, .int .i64 a.p.x.hi, .int .i64 a.p.y.lo, .int .i64 a.p.y.hi, .int .i64 a.p.z.lo, .int .i64 a.p.z.hi, .int .i64 a.v.x.lo, .int .i64 a.v.x.hi, .int .i64 a.v.y.lo, .int .i64 a.v.y.hi, .int .i64 a.v.z.lo, .int .i64 a.v.z.hi, .int .i64 a.m.lo, .int .i64 a.m.hi], .agg #[.int .i64 b.t, .int .i64 b.p.x.lo, .int .i64 b.p.x.hi, .int .i64 b.p.y.lo, .int .i64 b.p.y.hi, .int .i64 b.p.z.lo, .int .i64 b.p.z.hi, .int .i64 b.v.x.lo, .int .i64 b.v.x.hi, .int .i64 b.v.y.lo, .int .i64 b.v.y.hi, .int .i64 b.v.z.lo, .int .i64 b.v.z.hi, .int .i64 b.m.lo, .int .i64 b.m.hi]] w (RetSt (jointR a b) w) := by
  cases h : (a.okB && b.okB)
  · exact r3Joint_bad a b h w
  · rw [Bool.and_eq_true] at h
    by_cases ht : a.t = b.t
    · exact r3Joint_meets a b h.1 h.2 ht w
    · exact r3Joint_apart a b h.1 h.2 ht w
end Go.Proofs.Ytdanaclplmacgaa
