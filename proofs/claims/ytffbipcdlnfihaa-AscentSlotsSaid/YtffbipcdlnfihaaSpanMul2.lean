/-
  Contracts: span's Scale, Mul, Square.
-/
import Derived.Test.YtffbipcdlnfihaaSpanMul
import Derived.Test.YtffbipcdlnfihaaSpanRoot
import Derived.Test.YtffbipcdlnfihaaLexAll
namespace Go.Proofs.Ytffbipcdlnfihaa
open Go.RowKit
set_option maxRecDepth 100000
set_option maxHeartbeats 1000000
theorem hull_two (x y : Big) (hx : x.ok) (hy : y.ok) (ao : Option Addr) (w : World) (h : SlAt w (.slice ao 2 2) 2 [.bool x.neg, .int .u64 x.hi, .int .u64 x.lo, .bool y.neg, .int .u64 y.hi, .int .u64 y.lo]) :
    Calls Try.prog 63 #[.slice ao 2 2] w fun e w' => e = .returned (.tuple #[.agg #[.bool (leastB x [y]).neg, .int .u64 (leastB x [y]).hi, .int .u64 (leastB x [y]).lo], .agg #[.bool (mostB x [y]).neg, .int .u64 (mostB x [y]).hi, .int .u64 (mostB x [y]).lo]]) ∧ Grew w w' :=
  hull_any x [y] hx (by simpa using hy) ao 2 (by simp) w h
theorem hull_four (x y z t : Big) (hx : x.ok) (hy : y.ok) (hz : z.ok) (ht : t.ok) (ao : Option Addr) (w : World) (h : SlAt w (.slice ao 4 4) 4 [.bool x.neg, .int .u64 x.hi, .int .u64 x.lo, .bool y.neg, .int .u64 y.hi, .int .u64 y.lo, .bool z.neg, .int .u64 z.hi, .int .u64 z.lo, .bool t.neg, .int .u64 t.hi, .int .u64 t.lo]) :
    Calls Try.prog 63 #[.slice ao 4 4] w fun e w' => e = .returned (.tuple #[.agg #[.bool (leastB x [y, z, t]).neg, .int .u64 (leastB x [y, z, t]).hi, .int .u64 (leastB x [y, z, t]).lo], .agg #[.bool (mostB x [y, z, t]).neg, .int .u64 (mostB x [y, z, t]).hi, .int .u64 (mostB x [y, z, t]).lo]]) ∧ Grew w w' :=
  hull_any x [y, z, t] hx (by simpa using ⟨hy, hz, ht⟩) ao 4 (by simp) w h
theorem least_step (x y : Big) : (if y.val < x.val then y else x).val = imin x.val y.val := by unfold imin; split <;> rfl
theorem most_step (x y : Big) : (if x.val < y.val then y else x).val = imax x.val y.val := by unfold imax; split <;> rfl
theorem leastB_val2 (x y : Big) : (leastB x [y]).val = imin x.val y.val := least_step x y
theorem mostB_val2 (x y : Big) : (mostB x [y]).val = imax x.val y.val := most_step x y
theorem leastB_val4 (x y z t : Big) : (leastB x [y, z, t]).val = min4 x.val y.val z.val t.val := by
  unfold leastB leastB leastB leastB min4
  rw [least_step, least_step, least_step]
theorem mostB_val4 (x y z t : Big) : (mostB x [y, z, t]).val = max4 x.val y.val z.val t.val := by
  unfold mostB mostB mostB mostB max4
  rw [most_step, most_step, most_step]
theorem divDown_val (a : Big) (d : Int) : (divDown a d).val = downZ a.val d := by
  unfold divDown Big.val
  cases a.neg <;> simp [mkBig, Big.m, downZ, upZ] <;> omega
theorem divUp_val (a : Big) (d : Int) : (divUp a d).val = upZ a.val d := by
  unfold divUp Big.val
  cases a.neg <;> simp [mkBig, Big.m, downZ, upZ] <;> omega
theorem div_bd (m d : Int) (hm : B128 m) (hd : 2 ≤ d) : B128 (downZ m d) ∧ B128 (upZ m d) := by
  have h1 := up_law m d (by omega)
  unfold B128 at *
  have h2 := Int.ediv_nonneg hm.1 (show 0 ≤ d by omega)
  have h3 : m / d * 2 ≤ m / d * d := Int.mul_le_mul_of_nonneg_left hd h2
  have h4 := Int.mul_ediv_add_emod m d
  have h5 := Int.emod_nonneg m (show d ≠ 0 by omega)
  rw [Int.mul_comm] at h4
  unfold downZ
  rw [h1]
  refine ⟨by omega, ?_⟩
  split <;> omega
theorem divDown_ok (a : Big) (d : Int) (ha : a.ok) (hd : 2 ≤ d) : (divDown a d).ok := by
  have h := div_bd a.m d (Big.ok_m ha) hd
  unfold divDown
  split
  · exact mkBig_ok _ _ h.2
  · exact mkBig_ok _ _ h.1
theorem divUp_ok (a : Big) (d : Int) (ha : a.ok) (hd : 2 ≤ d) : (divUp a d).ok := by
  have h := div_bd a.m d (Big.ok_m ha) hd
  unfold divUp
  split
  · exact mkBig_ok _ _ h.1
  · exact mkBig_ok _ _ h.2
theorem timesB_okN (a b : Int) [ha : N64 a] [hb : N64 b] : (timesB a b).ok := timesB_ok a b ha.is hb.is
theorem leastB_ok2 {x y : Big} (hx : x.ok) (hy : y.ok) : (leastB x [y]).ok := leastB_ok x [y] hx (by simpa using hy)
theorem mostB_ok2 {x y : Big} (hx : x.ok) (hy : y.ok) : (mostB x [y]).ok := mostB_ok x [y] hx (by simpa using hy)
theorem leastB_ok4 {x y z t : Big} (hx : x.ok) (hy : y.ok) (hz : z.ok) (ht : t.ok) : (leastB x [y, z, t]).ok := leastB_ok x [y, z, t] hx (by simpa using ⟨hy, hz, ht⟩)
theorem mostB_ok4 {x y z t : Big} (hx : x.ok) (hy : y.ok) (hz : z.ok) (ht : t.ok) : (mostB x [y, z, t]).ok := mostB_ok x [y, z, t] hx (by simpa using ⟨hy, hz, ht⟩)
theorem at1_any (a b : Int) [ha : N64 a] [hb : N64 b] (w : World) : Calls Try.prog 61 #[.int .i64 a, .int .i64 b] w fun e w' => e = .returned (.agg #[.bool (timesB a b).neg, .int .u64 (timesB a b).hi, .int .u64 (timesB a b).lo]) ∧ Grew w w' := by
  go_enter Try.func61, Try.ntmps61
  go_wp2_with (first | (go_at_call 62; (with_reducible refine call_later (big_times_any _ _ N64.is N64.is _) ?_); intro u))
  refine bodyPost_ret (by (simp [results, Try.results61, go_sem] <;> rfl)) rfl ?_
  exact ⟨rfl, gw⟩
theorem one_ok : (ofB 4294967296).ok := ofB_ok _ (by unfold I64; omega)
set_option maxHeartbeats 4000000 in
theorem spMul_any (a b : Sp) [ha : S64 a] [hb : S64 b] (w : World) : Calls Try.prog 47 #[.agg #[.int .i64 a.lo, .int .i64 a.hi], .agg #[.int .i64 b.lo, .int .i64 b.hi]] w fun e w' => e = .returned (.tuple #[.agg #[.int .i64 (mulR a b).s.lo, .int .i64 (mulR a b).s.hi], .int .i64 (mulR a b).e]) ∧ Grew w w' := by
  cases hk : (a.okB && b.okB)
  · have Hf := Lib.hid (show errR 2 = mulR a b by unfold mulR; rw [hk]; rfl)
    go_enter Try.func47, Try.ntmps47
    go_wp2_with (first | (go_at_call 56; (with_reducible refine call_later (spChecked_no a b hk _ _ (SlAt.fresh _ _ _ _ (by simp [maxLen]))) ?_); intro u) | ((with_reducible refine wp_region_later ?_ ?_ ?_); (· kernel_rfl); (· kernel_rfl); (try simp only [List.append_eq, List.cons_append, List.nil_append]); (repeat (go_big_quiet_step ((first | (go_at_call 56; (with_reducible exact call_quiet (spChecked_no a b hk _ _ (SlAt.fresh _ _ _ _ (by simp [maxLen]))))))))); refine wpQuiet_nil ?_; rintro _ ⟨u, rfl⟩))
    refine bodyPost_ret (by (simp [results, Try.results47, go_sem] <;> rfl)) rfl ?_
    exact ⟨ret_err Hf.out rfl, gw⟩
  · obtain ⟨lo, hlo⟩ : ∃ x, x = leastB (timesB a.lo b.lo) [timesB a.lo b.hi, timesB a.hi b.lo, timesB a.hi b.hi] := ⟨_, rfl⟩
    obtain ⟨hi, hhi⟩ : ∃ x, x = mostB (timesB a.lo b.lo) [timesB a.lo b.hi, timesB a.hi b.lo, timesB a.hi b.hi] := ⟨_, rfl⟩
    have Hf := Lib.hid (show fitR (divDown lo 4294967296).val (divUp hi 4294967296).val = mulR a b by
      unfold mulR; rw [hk, hlo, hhi, divDown_val, divUp_val, leastB_val4, mostB_val4, timesB_val, timesB_val, timesB_val, timesB_val]; rfl)
    have H1 := Lib.hid (show lo.ok by rw [hlo]; exact leastB_ok4 (timesB_okN _ _) (timesB_okN _ _) (timesB_okN _ _) (timesB_okN _ _))
    have H2 := Lib.hid (show hi.ok by rw [hhi]; exact mostB_ok4 (timesB_okN _ _) (timesB_okN _ _) (timesB_okN _ _) (timesB_okN _ _))
    have h3 : ∀ (ao : Option Addr) (w : World), SlAt w (.slice ao 4 4) 4 [.bool ((timesB a.lo b.lo)).neg, .int .u64 ((timesB a.lo b.lo)).hi, .int .u64 ((timesB a.lo b.lo)).lo, .bool ((timesB a.lo b.hi)).neg, .int .u64 ((timesB a.lo b.hi)).hi, .int .u64 ((timesB a.lo b.hi)).lo, .bool ((timesB a.hi b.lo)).neg, .int .u64 ((timesB a.hi b.lo)).hi, .int .u64 ((timesB a.hi b.lo)).lo, .bool ((timesB a.hi b.hi)).neg, .int .u64 ((timesB a.hi b.hi)).hi, .int .u64 ((timesB a.hi b.hi)).lo] →
        Calls Try.prog 63 #[.slice ao 4 4] w fun e w' => e = .returned (.tuple #[.agg #[.bool lo.neg, .int .u64 lo.hi, .int .u64 lo.lo], .agg #[.bool hi.neg, .int .u64 hi.hi, .int .u64 hi.lo]]) ∧ Grew w w' := by
      intro ao w h
      rw [hlo, hhi]
      exact hull_four _ _ _ _ (timesB_okN _ _) (timesB_okN _ _) (timesB_okN _ _) (timesB_okN _ _) ao w h
    have H3 := Lib.hid h3
    clear h3
    clear hlo hhi
    have h4 : ∀ (x : Big), x.ok → ∀ (w : World), Calls Try.prog 65 #[.agg #[.bool x.neg, .int .u64 x.hi, .int .u64 x.lo], .agg #[.bool ((ofB 4294967296)).neg, .int .u64 ((ofB 4294967296)).hi, .int .u64 ((ofB 4294967296)).lo]] w fun e w' => e = .returned (.tuple #[.agg #[.bool ((divDown x 4294967296)).neg, .int .u64 ((divDown x 4294967296)).hi, .int .u64 ((divDown x 4294967296)).lo], .agg #[.bool ((divUp x 4294967296)).neg, .int .u64 ((divUp x 4294967296)).hi, .int .u64 ((divUp x 4294967296)).lo]]) ∧ Grew w w' := by
      intro x hx w
      have := divide_any x (ofB 4294967296) hx one_ok (by decide +kernel) (by decide +kernel) (by decide +kernel) w
      rw [show (ofB 4294967296).lo = 4294967296 from by decide +kernel] at this
      rw [show (ofB 4294967296).lo = 4294967296 from by decide +kernel]
      exact this
    have H4 := Lib.hid h4
    clear h4
    have H5 := Lib.hid (divDown_ok lo 4294967296 H1.out (by omega))
    have H6 := Lib.hid (divUp_ok hi 4294967296 H2.out (by omega))
    have H7 := Lib.hid (show I64 4294967296 by unfold I64; omega)
    go_enter Try.func47, Try.ntmps47
    go_wp2_with (first | (go_at_call 56; (with_reducible refine call_later (spChecked_yes a b hk _ _ (SlAt.fresh _ _ _ _ (by simp [maxLen]))) ?_); intro u) | ((with_reducible refine wp_region_later ?_ ?_ ?_); (· kernel_rfl); (· kernel_rfl); (try simp only [List.append_eq, List.cons_append, List.nil_append]); (repeat (go_big_quiet_step ((first | (go_at_call 56; (with_reducible exact call_quiet (spChecked_yes a b hk _ _ (SlAt.fresh _ _ _ _ (by simp [maxLen]))))))))); refine wpQuiet_nil ?_; rintro _ ⟨u, rfl⟩))
    refine wp_region_grown 31 [24, 29, 30] [5, 11, 17, 23, 25] [28] (fun W0 => [(24, SliceR 4 [.bool ((timesB a.lo b.lo)).neg, .int .u64 ((timesB a.lo b.lo)).hi, .int .u64 ((timesB a.lo b.lo)).lo, .bool ((timesB a.lo b.hi)).neg, .int .u64 ((timesB a.lo b.hi)).hi, .int .u64 ((timesB a.lo b.hi)).lo, .bool ((timesB a.hi b.lo)).neg, .int .u64 ((timesB a.hi b.lo)).hi, .int .u64 ((timesB a.hi b.lo)).lo, .bool ((timesB a.hi b.hi)).neg, .int .u64 ((timesB a.hi b.hi)).hi, .int .u64 ((timesB a.hi b.hi)).lo]), (29, BoxR W0 [.bool false, .int .u64 0, .int .u64 0]), (30, BoxR W0 [.bool false, .int .u64 0, .int .u64 0])]) [.agg #[.bool ((timesB a.lo b.lo)).neg, .int .u64 ((timesB a.lo b.lo)).hi, .int .u64 ((timesB a.lo b.lo)).lo], .agg #[.bool ((timesB a.lo b.hi)).neg, .int .u64 ((timesB a.lo b.hi)).hi, .int .u64 ((timesB a.lo b.hi)).lo], .agg #[.bool ((timesB a.hi b.lo)).neg, .int .u64 ((timesB a.hi b.lo)).hi, .int .u64 ((timesB a.hi b.lo)).lo], .agg #[.bool ((timesB a.hi b.hi)).neg, .int .u64 ((timesB a.hi b.hi)).hi, .int .u64 ((timesB a.hi b.hi)).lo], .tuple #[.agg #[.bool lo.neg, .int .u64 lo.hi, .int .u64 lo.lo], .agg #[.bool hi.neg, .int .u64 hi.hi, .int .u64 hi.lo]]] [31, 32] (by rfl) (by intro W0 x hx; simp only [List.mem_cons, List.not_mem_nil, or_false] at hx; rcases hx with rfl | rfl | rfl <;> first | exact good_slice _ _ | exact good_box _ _ | exact good_box _ _) (by kernel_rfl) (by kernel_rfl) (by kernel_rfl) ?_
    intro p
    apply Exists.intro
    apply And.intro
    iterate 5 (apply lexg_pure (by kernel_rfl); (· intro u; unfold opPure; go_simp; rfl))
    apply lexg_call 0 (by kernel_rfl) (by rfl) (by decide)
    · intro u hF; clear hF; unfold opCall; go_simp; exact at1_any _ _ _
    iterate 5 (apply lexg_pure (by kernel_rfl); (· intro u; unfold opPure; go_simp; rfl))
    apply lexg_call 1 (by kernel_rfl) (by rfl) (by decide)
    · intro u hF; clear hF; unfold opCall; go_simp; exact at1_any _ _ _
    iterate 5 (apply lexg_pure (by kernel_rfl); (· intro u; unfold opPure; go_simp; rfl))
    apply lexg_call 2 (by kernel_rfl) (by rfl) (by decide)
    · intro u hF; clear hF; unfold opCall; go_simp; exact at1_any _ _ _
    iterate 5 (apply lexg_pure (by kernel_rfl); (· intro u; unfold opPure; go_simp; rfl))
    apply lexg_call 3 (by kernel_rfl) (by rfl) (by decide)
    · intro u hF; clear hF; unfold opCall; go_simp; exact at1_any _ _ _
    apply lexg_make (by kernel_rfl)
    · intro u hF; clear hF; unfold opMake; go_simp; exact made_slice _ _ _ _
    apply lexg_call 4 (by kernel_rfl) (by rfl) (by decide)
    · intro u hF; obtain ⟨q, hq, hrow, hblk⟩ := (show SliceR 4 [.bool ((timesB a.lo b.lo)).neg, .int .u64 ((timesB a.lo b.lo)).hi, .int .u64 ((timesB a.lo b.lo)).lo, .bool ((timesB a.lo b.hi)).neg, .int .u64 ((timesB a.lo b.hi)).hi, .int .u64 ((timesB a.lo b.hi)).lo, .bool ((timesB a.hi b.lo)).neg, .int .u64 ((timesB a.hi b.lo)).hi, .int .u64 ((timesB a.hi b.lo)).lo, .bool ((timesB a.hi b.hi)).neg, .int .u64 ((timesB a.hi b.hi)).hi, .int .u64 ((timesB a.hi b.hi)).lo] (p 24) u.world from hF 24 (by kernel_rfl) (by decide)); clear hF; unfold opCall; go_simp; (try rw [hq]); exact H3.out _ _ (SlAt.row _ _ (by decide))
    iterate 2 (apply lexg_pure (by kernel_rfl); (· intro u; unfold opPure; go_simp; rfl))
    apply lexg_free (by kernel_rfl)
    · intro u; unfold opPure; go_simp; rfl
    apply lexg_make (by kernel_rfl)
    · intro u hF; clear hF; unfold opMake; go_simp; exact made_box _ _ _ _
    apply lexg_make (by kernel_rfl)
    · intro u hF; clear hF; unfold opMake; go_simp; exact made_box _ _ _ _
    apply lexg_end
    rotate_left
    · rfl
    intro u hR hD
    obtain ⟨q29, e29, hB29, kB29, nB29⟩ := (show BoxR _ [.bool false, .int .u64 0, .int .u64 0] (p 29) u.world from hR 29 (by decide))
    obtain ⟨q30, e30, hB30, kB30, nB30⟩ := (show BoxR _ [.bool false, .int .u64 0, .int .u64 0] (p 30) u.world from hR 30 (by decide))
    have hd30 := hD 29 30 (by decide) (by decide) (by decide)
    rw [e29, e30] at hd30
    obtain ⟨ap29_30, ap30_29⟩ := apart_of_differ hd30
    clear hd30
    clear hR hD
    rw [e29]
    clear e29
    have oB29 := apart_oldL nB29
    have oC29 := apart_oldR nB29
    have nC29 : NewFor w q29 := ⟨Nat.le_trans (Grew.size gw) nB29.le⟩
    have hB29_0 := (hB29 0 _ rfl).1
    have hB29f0 := (hB29 0 _ rfl).2
    have hB29i0 : HasCell (u.world) (q29) 0 := ⟨_, hB29_0⟩
    have hB29_1 := (hB29 1 _ rfl).1
    have hB29f1 := (hB29 1 _ rfl).2
    have hB29i1 : HasCell (u.world) (q29) 1 := ⟨_, hB29_1⟩
    have hB29_2 := (hB29 2 _ rfl).1
    have hB29f2 := (hB29 2 _ rfl).2
    have hB29i2 : HasCell (u.world) (q29) 2 := ⟨_, hB29_2⟩
    have hB29b : BlockIn (u.world) (q29) := BlockIn.of_cell hB29_0
    clear hB29
    rw [e30]
    clear e30
    have oB30 := apart_oldL nB30
    have oC30 := apart_oldR nB30
    have nC30 : NewFor w q30 := ⟨Nat.le_trans (Grew.size gw) nB30.le⟩
    have hB30_0 := (hB30 0 _ rfl).1
    have hB30f0 := (hB30 0 _ rfl).2
    have hB30i0 : HasCell (u.world) (q30) 0 := ⟨_, hB30_0⟩
    have hB30_1 := (hB30 1 _ rfl).1
    have hB30f1 := (hB30 1 _ rfl).2
    have hB30i1 : HasCell (u.world) (q30) 1 := ⟨_, hB30_1⟩
    have hB30_2 := (hB30 2 _ rfl).1
    have hB30f2 := (hB30 2 _ rfl).2
    have hB30i2 : HasCell (u.world) (q30) 2 := ⟨_, hB30_2⟩
    have hB30b : BlockIn (u.world) (q30) := BlockIn.of_cell hB30_0
    clear hB30
    refine tail_store (by rfl) ?_; unfold opStore; go_simp
    refine tail_store (by rfl) ?_; unfold opStore; go_simp
    refine tail_end ?_
    go_wp2_with (first | (go_at_call 64; (with_reducible refine call_later (big_of_any _ H7.out _) ?_); intro u) | (go_at_call 65; (with_reducible refine call_later (H4.out lo H1.out _) ?_); intro u) | (go_at_call 65; (with_reducible refine call_later (H4.out hi H2.out _) ?_); intro u) | (go_at_call 66; (with_reducible refine call_later (big_fit_any _ _ H5.out H6.out _) ?_); intro u) | ((with_reducible refine wp_region_later ?_ ?_ ?_); (· kernel_rfl); (· kernel_rfl); (try simp only [List.append_eq, List.cons_append, List.nil_append]); (repeat (go_big_quiet_step ((first | (go_at_call 64; (with_reducible exact call_quiet (big_of_any _ H7.out _))) | (go_at_call 65; (with_reducible exact call_quiet (H4.out lo H1.out _))) | (go_at_call 65; (with_reducible exact call_quiet (H4.out hi H2.out _))) | (go_at_call 66; (with_reducible exact call_quiet (big_fit_any _ _ H5.out H6.out _))))))); refine wpQuiet_nil ?_; rintro _ ⟨u, rfl⟩))
    refine bodyPost_ret (by (simp [results, Try.results47, go_sem] <;> rfl)) rfl ?_
    exact ⟨ret_res Hf.out, gw⟩
end Go.Proofs.Ytffbipcdlnfihaa
