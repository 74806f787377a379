/-
  AscentMeets: for every two windows and every time, if the least common multiple of the periods is at most 20000 or a window is not valid, ascent.Often and ascent.Next hand back what ullageref04.Often and ullageref04.Next do. No condition.
-/
import Derived.Test.YtdanaclplmacgaaNextN
import Derived.Test.YtdanaclplmacgaaOpen
import Derived.Test.YtdanaclplmacgaaRows
namespace Go.Proofs.Ytdanaclplmacgaa
open Go.RowKit
set_option maxRecDepth 100000
set_option maxHeartbeats 1000000
theorem next_any (P F L Q G M t : Int) (w : World) :
    Calls Try.prog 22 #[.agg #[.int .i64 P, .int .i64 F, .int .i64 L], .agg #[.int .i64 Q, .int .i64 G, .int .i64 M], .int .i64 t] w fun e w' => e = .returned (.tuple #[.int .i64 (nextV P F L Q G M t), .int .i64 (nextE P F L Q G M t)]) ∧ Grew w w' := by
  cases h : nextG P F L Q G M t
  · exact next_bad P F L Q G M t h w
  · have h' := h
    simp only [nextG, pairB, Bool.and_eq_true] at h'
    exact next_good P F L Q G M t h'.1.1 h'.1.2 h'.2 w
theorem both_period (P F L Q G M x N q : Int) (hP : P ∣ N) (hQ : Q ∣ N) : bothW P F L Q G M (x + N * q) ↔ bothW P F L Q G M x := by
  obtain ⟨k, rfl⟩ := hP
  obtain ⟨j, hj⟩ := hQ
  unfold bothW
  rw [show x + P * k * q - F = x - F + P * (k * q) by rw [Int.mul_assoc]; omega, Int.add_mul_emod_self_left, hj,
    show x + Q * j * q - G = x - G + Q * (j * q) by rw [Int.mul_assoc]; omega, Int.add_mul_emod_self_left]
theorem next_some {P F L Q G M t : Int} (h1 : validB P F L = true) (h2 : validB Q G M = true) (k : Nat) (hno : ∀ s, t ≤ s → s < t + k → ¬ bothW P F L Q G M s) (hb : bothW P F L Q G M (t + k)) : nextZ P F L Q G M t = some (t + k) := by
  obtain ⟨p1, p2, f1, f2, l1, l2⟩ := (validB_iff P F L).1 h1
  obtain ⟨q1, q2, g1, g2, m1, m2⟩ := (validB_iff Q G M).1 h2
  exact nextIs_unique (next_law P F L Q G M t (by omega) (by omega) l1 l2 m1 m2) ⟨by omega, hb, hno⟩
theorem next_none {p l q m : Nat} {F G t : Int} (h1 : validB p F l = true) (h2 : validB q G m = true) (hno : ∀ s, t ≤ s → s < t + (p.lcm q : Nat) → ¬ bothW p F l q G m s) : nextZ p F l q G m t = none := by
  obtain ⟨p1, p2, f1, f2, l1, l2⟩ := (validB_iff p F l).1 h1
  obtain ⟨q1, q2, g1, g2, m1, m2⟩ := (validB_iff q G m).1 h2
  refine nextIs_unique (next_law p F l q G m t (by omega) (by omega) l1 l2 m1 m2) (b := none) (fun s hs hb => ?_)
  have hN : 0 < p.lcm q := Nat.lcm_pos (by omega) (by omega)
  have e := Int.mul_ediv_add_emod (s - t) (p.lcm q : Nat)
  have e1 := Int.emod_nonneg (s - t) (show ((p.lcm q : Nat) : Int) ≠ 0 by omega)
  have e2 := Int.emod_lt_of_pos (s - t) (show (0 : Int) < (p.lcm q : Nat) by omega)
  refine hno (t + (s - t) % (p.lcm q : Nat)) (by omega) (by omega) ?_
  rw [← both_period p F l q G m _ (p.lcm q : Nat) ((s - t) / (p.lcm q : Nat)) (Int.ofNat_dvd.2 (Nat.dvd_lcm_left p q)) (Int.ofNat_dvd.2 (Nat.dvd_lcm_right p q))]
  rw [show t + (s - t) % (p.lcm q : Nat) + (p.lcm q : Nat) * ((s - t) / (p.lcm q : Nat)) = s by omega]
  exact hb
theorem refNext_any (P F L Q G M t : Int) (hb : briefB P F L Q G M = true) (w : World) :
    Calls Try.prog 23 #[.agg #[.int .i64 P, .int .i64 F, .int .i64 L], .agg #[.int .i64 Q, .int .i64 G, .int .i64 M], .int .i64 t] w fun e w' => e = .returned (.tuple #[.int .i64 (nextV P F L Q G M t), .int .i64 (nextE P F L Q G M t)]) ∧ Grew w w' := by
  cases h : nextG P F L Q G M t
  · have HV := Lib.hid (show nextV P F L Q G M t = 0 by simp [nextV, h])
    have HE := Lib.hid (show nextE P F L Q G M t = 2 by simp [nextE, h])
    clear hb
    unfold nextG pairB at h
    cases h1 : validB P F L <;> cases h2 : validB Q G M <;> cases h3 : limB t <;> simp [h1, h2, h3] at h
    all_goals
      go_enter Try.func23, Try.ntmps23
      go_wp2_with (first | (go_at_call 69; (with_reducible refine call_later (is_bool h1 (window_any P F L _)) ?_); intro u) | (go_at_call 69; (with_reducible refine call_later (is_bool h2 (window_any Q G M _)) ?_); intro u) | (go_at_call 70; (with_reducible refine call_later (is_bool h3 (time_any t _)) ?_); intro u) | ((with_reducible refine wp_region_later ?_ ?_ ?_); (· kernel_rfl); (· kernel_rfl); (repeat (go_big_quiet_step ((first | (go_at_call 69; (with_reducible exact call_quiet (is_bool h1 (window_any P F L _)))) | (go_at_call 69; (with_reducible exact call_quiet (is_bool h2 (window_any Q G M _)))) | (go_at_call 70; (with_reducible exact call_quiet (is_bool h3 (time_any t _)))))))); refine wpQuiet_nil ?_; rintro _ ⟨u, rfl⟩))
      go_ret2
      exact ⟨ret_ii HV.out.symm HE.out.symm, (by repeat (first | with_reducible exact Grew.refl _ | with_reducible apply Grew.alloc | with_reducible apply Grew.later | with_reducible apply Grew.drew | with_reducible apply Grew.store | with_reducible assumption))⟩
  · have h' := h
    simp only [nextG, pairB, Bool.and_eq_true] at h'
    obtain ⟨⟨h1, h2⟩, h3⟩ := h'
    have hle := brief_le (by simp [pairB, h1, h2]) hb
    clear hb
    obtain ⟨p, l, rfl, rfl, p1, p2, p3, f1, f2⟩ := valid_nat h1
    obtain ⟨q, m, rfl, rfl, q1, q2, q3, g1, g2⟩ := valid_nat h2
    obtain ⟨t1, t2⟩ := limB_bd h3
    unfold lcmZ at hle
    simp only [Int.toNat_natCast] at hle
    have Hsome := Lib.hid (@next_some p F l q G m t h1 h2)
    have Hnone := Lib.hid (@next_none p l q m F G t h1 h2)
    have HV := Lib.hid (fun x (e : nextZ p F l q G m t = some x) => show nextV p F l q G m t = x by simp [nextV, h, e])
    have HE := Lib.hid (fun x (e : nextZ p F l q G m t = some x) => show nextE p F l q G m t = 0 by simp [nextE, h, e])
    have HV0 := Lib.hid (fun (e : nextZ p F l q G m t = none) => show nextV p F l q G m t = 0 by simp [nextV, h, e])
    have HE0 := Lib.hid (fun (e : nextZ p F l q G m t = none) => show nextE p F l q G m t = 7 by simp [nextE, h, e])
    clear h
    have hg : 0 < p.gcd q := Nat.gcd_pos_of_pos_left _ p1
    have hgp : p.gcd q ≤ p := Nat.le_of_dvd p1 (Nat.gcd_dvd_left p q)
    have Hgcd := Lib.hid (fun w => gcdR_any p q p2 q2 w)
    have Hl := lcm_div p q p1
    generalize p.gcd q = g at *
    generalize p.lcm q = N at *
    have x4 := Int.ediv_nonneg (show (0 : Int) ≤ p by omega) (show (0 : Int) ≤ g by omega)
    have x5 : (p : Int) / g ≤ p := Int.ediv_le_self _ (by omega)
    obtain ⟨a7, a8⟩ := prod_bd2 (u := (p : Int) / g) (v := (q : Int)) (U := 1073741824) (V := 1073741824) x4 (by omega) (by omega) (by omega)
    have p1' : (1 : Int) ≤ p := by omega
    have p2' : (p : Int) ≤ 1073741824 := by omega
    have q1' : (1 : Int) ≤ q := by omega
    have q2' : (q : Int) ≤ 1073741824 := by omega
    go_enter Try.func23, Try.ntmps23
    go_wp2_with (first | (go_at_call 69; (with_reducible refine call_later (is_bool h1 (window_any (p : Int) F l _)) ?_); intro u) | (go_at_call 69; (with_reducible refine call_later (is_bool h2 (window_any (q : Int) G m _)) ?_); intro u) | (go_at_call 70; (with_reducible refine call_later (is_bool h3 (time_any t _)) ?_); intro u) | (go_at_call 73; (with_reducible refine call_later (Hgcd.out _) ?_); intro u) | ((with_reducible refine wp_region_later ?_ ?_ ?_); (· kernel_rfl); (· kernel_rfl); (repeat (go_big_quiet_step ((first | (go_at_call 69; (with_reducible exact call_quiet (is_bool h1 (window_any (p : Int) F l _)))) | (go_at_call 69; (with_reducible exact call_quiet (is_bool h2 (window_any (q : Int) G m _)))) | (go_at_call 70; (with_reducible exact call_quiet (is_bool h3 (time_any t _)))) | (go_at_call 73; (with_reducible exact call_quiet (Hgcd.out _))))))); refine wpQuiet_nil ?_; rintro _ ⟨u, rfl⟩))
    clear Hl
    go_loopw [12] (fun t' wr => ∃ k : Nat, t' = .int .i64 k ∧ k ≤ N ∧ Hid (∀ s, t ≤ s → s < t + k → ¬ bothW p F l q G m s) ∧ Grew u.world wr) (fun t' _ => N - (intOf t').toNat)
    case atStart => exact ⟨0, rfl, by omega, Lib.hid (fun s a b => by omega), Grew.refl _⟩
    case round =>
      obtain ⟨k, rfl, hk, Hno, hgr⟩ := hrel
      obtain ⟨z, rfl⟩ := later_of hgr
      clear hgr
      by_cases hlt : k < N
      · rcases bool_or (decide ((t + (k : Int) - F) % p < l)) with c1 | c1 <;> rcases bool_or (decide ((t + (k : Int) - G) % q < m)) with c2 | c2
        rotate_left 3
        · have Hz := Lib.hid (Hsome.out k Hno.out ⟨by simpa using c1, by simpa using c2⟩)
          have C1 := Lib.hid c1
          have C2 := Lib.hid c2
          clear c1 c2
          go_wp2_with (first | (go_at_call 71; (with_reducible refine call_later (is_bool C1.out (has_any _ F l _ _ p1' p2')) ?_); intro u) | (go_at_call 71; (with_reducible refine call_later (is_bool C2.out (has_any _ G m _ _ q1' q2')) ?_); intro u) | ((with_reducible refine wp_region_later ?_ ?_ ?_); (· kernel_rfl); (· kernel_rfl); (repeat (go_big_quiet_step ((first | (go_at_call 71; (with_reducible exact call_quiet (is_bool C1.out (has_any _ F l _ _ p1' p2')))) | (go_at_call 71; (with_reducible exact call_quiet (is_bool C2.out (has_any _ G m _ _ q1' q2')))))))); refine wpQuiet_nil ?_; rintro _ ⟨u, rfl⟩))
          go_ret2
          exact ⟨ret_ii (HV.out _ Hz.out).symm (HE.out _ Hz.out).symm, (by repeat (first | with_reducible exact Grew.refl _ | with_reducible apply Grew.alloc | with_reducible apply Grew.later | with_reducible apply Grew.drew | with_reducible apply Grew.store | with_reducible assumption))⟩
        all_goals
          have Hno2 := Lib.hid (show ∀ s, t ≤ s → s < t + ((k + 1 : Nat) : Int) → ¬ bothW p F l q G m s from fun s a b hb => by
            by_cases hs : s < t + k
            · exact Hno.out s a hs hb
            · obtain rfl : s = t + k := by omega
              obtain ⟨b1, b2⟩ := hb
              simp [b1, b2] at c1 c2)
          have C1 := Lib.hid c1
          have C2 := Lib.hid c2
          clear c1 c2 Hno
          go_wp2_with (first | (go_at_call 71; (with_reducible refine call_later (is_bool C1.out (has_any _ F l _ _ p1' p2')) ?_); intro u) | (go_at_call 71; (with_reducible refine call_later (is_bool C2.out (has_any _ G m _ _ q1' q2')) ?_); intro u) | ((with_reducible refine wp_region_later ?_ ?_ ?_); (· kernel_rfl); (· kernel_rfl); (repeat (go_big_quiet_step ((first | (go_at_call 71; (with_reducible exact call_quiet (is_bool C1.out (has_any _ F l _ _ p1' p2')))) | (go_at_call 71; (with_reducible exact call_quiet (is_bool C2.out (has_any _ G m _ _ q1' q2')))))))); refine wpQuiet_nil ?_; rintro _ ⟨u, rfl⟩))
          go_roundw
          case rel => exact ⟨k + 1, by go_num, by omega, Hno2, (by repeat (first | with_reducible exact Grew.refl _ | with_reducible apply Grew.alloc | with_reducible apply Grew.later | with_reducible apply Grew.drew | with_reducible apply Grew.store | with_reducible assumption))⟩
          case measure => simp [intOf]; omega
      · obtain rfl : k = N := by omega
        have Hz := Lib.hid (Hnone.out Hno.out)
        go_wp2
        go_ret2
        exact ⟨ret_ii (HV0.out Hz.out).symm (HE0.out Hz.out).symm, (by repeat (first | with_reducible exact Grew.refl _ | with_reducible apply Grew.alloc | with_reducible apply Grew.later | with_reducible apply Grew.drew | with_reducible apply Grew.store | with_reducible assumption))⟩

theorem meets_walk (P F L Q G M t : Int) (w : World) :
    Calls Try.prog 4 #[.agg #[.int .i64 P, .int .i64 F, .int .i64 L], .agg #[.int .i64 Q, .int .i64 G, .int .i64 M], .int .i64 t] w fun e w' => e = .returned (.bool true) ∧ Grew w w' := by
  cases hb : briefB P F L Q G M
  · go_enter Try.func4, Try.ntmps4
    go_wp2_with (first | (go_at_call 19; (with_reducible refine call_later (is_bool hb (brief_any P F L Q G M _)) ?_); intro u) | ((with_reducible refine wp_region_later ?_ ?_ ?_); (· kernel_rfl); (· kernel_rfl); (repeat (go_big_quiet_step ((first | (go_at_call 19; (with_reducible exact call_quiet (is_bool hb (brief_any P F L Q G M _)))))))); refine wpQuiet_nil ?_; rintro _ ⟨u, rfl⟩))
    go_ret
    exact ⟨rfl, (by repeat (first | with_reducible exact Grew.refl _ | with_reducible apply Grew.alloc | with_reducible apply Grew.later | with_reducible apply Grew.drew | with_reducible apply Grew.store | with_reducible assumption))⟩
  · have Hb := Lib.hid hb
    clear hb
    go_enter Try.func4, Try.ntmps4
    go_wp2_with (first | (go_at_call 19; (with_reducible refine call_later (is_bool Hb.out (brief_any P F L Q G M _)) ?_); intro u) | (go_at_call 20; (with_reducible refine call_later (often_any P F L Q G M _) ?_); intro u) | (go_at_call 21; (with_reducible refine call_later (refOften_any P F L Q G M Hb.out _) ?_); intro u) | (go_at_call 22; (with_reducible refine call_later (next_any P F L Q G M t _) ?_); intro u) | (go_at_call 23; (with_reducible refine call_later (refNext_any P F L Q G M t Hb.out _) ?_); intro u) | ((with_reducible refine wp_region_later ?_ ?_ ?_); (· kernel_rfl); (· kernel_rfl); (repeat (go_big_quiet_step ((first | (go_at_call 19; (with_reducible exact call_quiet (is_bool Hb.out (brief_any P F L Q G M _)))) | (go_at_call 20; (with_reducible exact call_quiet (often_any P F L Q G M _))) | (go_at_call 21; (with_reducible exact call_quiet (refOften_any P F L Q G M Hb.out _))) | (go_at_call 22; (with_reducible exact call_quiet (next_any P F L Q G M t _))) | (go_at_call 23; (with_reducible exact call_quiet (refNext_any P F L Q G M t Hb.out _))))))); refine wpQuiet_nil ?_; rintro _ ⟨u, rfl⟩))
    all_goals go_ret
    all_goals exact ⟨rfl, (by repeat (first | with_reducible exact Grew.refl _ | with_reducible apply Grew.alloc | with_reducible apply Grew.later | with_reducible apply Grew.drew | with_reducible apply Grew.store | with_reducible assumption))⟩
namespace ascentMeetsRow
open Go.ChangeShapes Go.WideShapes Go.ChangeAt Go.RowKit
theorem own : ownKnob Try.prog.godebug = none := by kernel_rfl
theorem lifted (os : Os) (started : os.Started) (H : Type) (enc : TypeId × Value → H) :
    ReturnsInHanded {} Try.checked os 4 .any (Rows.ascentMeetsSpec.pre6 enc Try.prog Try.f4 Rows.ascentMeetsRow.domain false) (Rows.ascentMeetsSpec.post enc Try.prog Try.f4 false true false false) := by
  refine returnsInHanded_of_change (C := Try.checked) own started (by kernel_rfl) Try.func4
    (ChangeSpec.witness6 (enc := enc) (C := Try.checked) false ⟨#[], #[.agg #[.int .i64 0, .int .i64 0, .int .i64 0], .agg #[.int .i64 0, .int .i64 0, .int .i64 0], .int .i64 0], []⟩ 8 (by kernel_rfl) (by kernel_rfl) (by kernel_rfl) (by kernel_rfl)) ?_
  intro W base args ds gs before hval0 hW _ _
  have hval : ∀ (j : Nat) t v, Try.f4.params[j]? = some t → args[j]? = some v → Value.okWide Try.prog W .any base t v := hval0
  have hW' := hW
  obtain ⟨p, q, hA0, hV, rfl, hfz, hnd⟩ := hW
  have hA : DataW.TrodAll enc Try.prog W 0 (fun _ => true) true Try.f4.params.toList args.toList ds p := hA0
  rw [Try.params4] at hA hval
  obtain ⟨v0, vs0, d0, ds0, p0, q0, hargs, rfl, rfl, h0, r0⟩ := trodAll_cons hA
  obtain ⟨v1, vs1, d1, ds1, p1, q1, rfl, rfl, rfl, h1, r1⟩ := trodAll_cons r0
  obtain ⟨v2, vs2, d2, ds2, p2, q2, rfl, rfl, rfl, h2, r2⟩ := trodAll_cons r1
  obtain ⟨rfl, rfl, rfl⟩ := trodAll_nil r2
  obtain rfl : args = #[v0, v1, v2] := by cases args; simp_all
  obtain ⟨rfl, rfl⟩ := trodVars_none hV
  obtain ⟨ns0, rfl, hl0, -⟩ := open_flat 3 (by kernel_rfl) Try.underlying23 (hval 0 23 v0 rfl rfl) h0
  obtain ⟨ns1, rfl, hl1, -⟩ := open_flat 3 (by kernel_rfl) Try.underlying23 (hval 1 23 v1 rfl rfl) h1
  obtain ⟨t, rfl, -, -⟩ := open_num Try.underlying3 (hval 2 3 v2 rfl rfl) h2
  obtain ⟨P, F, L, rfl⟩ := list3 hl0
  obtain ⟨Q, G, M, rfl⟩ := list3 hl1
  refine (meets_walk P F L Q G M t W).mono fun e W' ⟨he, hg⟩ => ?_
  subst he
  exact ⟨_, rfl, law_post (by kernel_rfl) (by kernel_rfl) rfl rfl Try.underlying4 hW' rfl hg⟩
theorem proved : Rows.AscentMeetsSaid :=
  OpenClaim.holds_of_wide 4 Try.f4 rfl rfl rfl rfl rfl rfl rfl ⟨rfl, rfl, rfl, rfl, rfl⟩ rfl rfl rfl rfl rfl (by kernel_rfl) Try.func4 (by kernel_rfl)
    (of_decide_eq_true (by kernel_rfl)) (by unfold Func.isWrapper; first | (rw [if_pos (by decide +kernel)]; kernel_rfl) | (rw [if_neg (by decide +kernel)]; exact ⟨rfl, rfl⟩))
    (fun os started H enc _ => lifted os started H enc)
end ascentMeetsRow
end Go.Proofs.Ytdanaclplmacgaa
