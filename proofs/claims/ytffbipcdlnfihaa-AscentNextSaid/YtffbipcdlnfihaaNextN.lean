/-
  Contracts: Next (ascent, ullageref04).
-/
import Derived.Test.YtffbipcdlnfihaaNextM
namespace Go.Proofs.Ytffbipcdlnfihaa
open Go.RowKit
set_option maxRecDepth 100000
set_option maxHeartbeats 1000000
def nextG (P F L Q G M t : Int) : Bool := pairB P F L Q G M && limB t
def nextV (P F L Q G M t : Int) : Int := if nextG P F L Q G M t then (nextZ P F L Q G M t).getD 0 else 0
def nextE (P F L Q G M t : Int) : Int := if nextG P F L Q G M t then (if (nextZ P F L Q G M t).isSome then 0 else 7) else 2
theorem next_bad (P F L Q G M t : Int) (h : nextG P F L Q G M t = false) (w : World) :
    Calls Try.prog 6 #[.agg #[.int .i64 P, .int .i64 F, .int .i64 L], .agg #[.int .i64 Q, .int .i64 G, .int .i64 M], .int .i64 t] w fun e w' => e = .returned (.tuple #[.int .i64 (nextV P F L Q G M t), .int .i64 (nextE P F L Q G M t)]) ∧ Grew w w' := by
  have HV := Lib.hid (show nextV P F L Q G M t = 0 by simp [nextV, h])
  have HE := Lib.hid (show nextE P F L Q G M t = 2 by simp [nextE, h])
  unfold nextG pairB at h
  cases h1 : validB P F L <;> cases h2 : validB Q G M <;> cases h3 : limB t <;> simp [h1, h2, h3] at h
  all_goals
    go_enter Try.func6, Try.ntmps6
    go_wp2_with (first | (go_at_call 18; (with_reducible refine call_later (is_bool h1 (valid_any P F L _)) ?_); intro u) | (go_at_call 18; (with_reducible refine call_later (is_bool h2 (valid_any Q G M _)) ?_); intro u) | (go_at_call 19; (with_reducible refine call_later (is_bool h3 (limited_any t _)) ?_); intro u) | ((with_reducible refine wp_region_later ?_ ?_ ?_); (· kernel_rfl); (· kernel_rfl); (try simp only [List.append_eq, List.cons_append, List.nil_append]); (repeat (go_big_quiet_step ((first | (go_at_call 18; (with_reducible exact call_quiet (is_bool h1 (valid_any P F L _)))) | (go_at_call 18; (with_reducible exact call_quiet (is_bool h2 (valid_any Q G M _)))) | (go_at_call 19; (with_reducible exact call_quiet (is_bool h3 (limited_any t _)))))))); refine wpQuiet_nil ?_; rintro _ ⟨u, rfl⟩))
    go_ret2
    exact ⟨ret_ii HV.out.symm HE.out.symm, gw⟩
theorem limB_bd {t : Int} (h : limB t = true) : -1152921504606846976 ≤ t ∧ t ≤ 1152921504606846976 := by simpa [limB] using h
theorem nextZ_eq (P F L Q G M t d : Int) (h : (t - F) % P = d) : nextZ P F L Q G M t =
    if 0 < M ∧ meetX Q G M t < t - d + L then some (meetX Q G M t) else if L = 0 ∨ M = 0 then none
    else if passK P L Q G M (t - d + P) < 0 then none else some (meetX Q G M (t - d + P + passK P L Q G M (t - d + P) * P)) := by
  unfold nextZ begZ
  rw [h]
theorem passK_eq (P L Q G M B e f : Int) (hr : L + M - 1 < Q) (he : (B - G) % Q = e) (hf : (e + L - 1) % Q = f) :
    passK P L Q G M B = firstZ (P % Q) Q (if (L + M - 1 - 1 - f) % Q < (-f) % Q then 0 else (-f) % Q) ((L + M - 1 - 1 - f) % Q) := by
  unfold passK
  rw [if_pos hr, he, hf]
theorem next_good (P F L Q G M t : Int) (h1 : validB P F L = true) (h2 : validB Q G M = true) (h3 : limB t = true) (w : World) :
    Calls Try.prog 6 #[.agg #[.int .i64 P, .int .i64 F, .int .i64 L], .agg #[.int .i64 Q, .int .i64 G, .int .i64 M], .int .i64 t] w fun e w' => e = .returned (.tuple #[.int .i64 (nextV P F L Q G M t), .int .i64 (nextE P F L Q G M t)]) ∧ Grew w w' := by
  have hG : nextG P F L Q G M t = true := by simp [nextG, pairB, h1, h2, h3]
  obtain ⟨p1, p2, f1, f2, l1, l2⟩ := (validB_iff P F L).1 h1
  obtain ⟨q1, q2, g1, g2, m1, m2⟩ := (validB_iff Q G M).1 h2
  obtain ⟨t1, t2⟩ := limB_bd h3
  have d1 := Int.emod_nonneg (t - F) (show P ≠ 0 by omega)
  have d2 := Int.emod_lt_of_pos (t - F) (show 0 < P by omega)
  have Hp0 := Lib.hid (fun w => place_any P F L t w p1 p2)
  have hb : t - (t - F) % P = begZ P F t := rfl
  have hl0 : lastOf (begZ P F t) t = t := by unfold lastOf; split <;> omega
  have Hm0 := Lib.hid (fun w => meets_any P F L Q G M (begZ P F t) t q1 q2 l1 (by omega) (by omega) (by omega) w)
  rw [hl0, ← hb] at Hm0
  have Hnz := Lib.hid (nextZ_eq P F L Q G M t _ rfl)
  clear hb hl0
  generalize (t - F) % P = d at *
  have b0 : ∀ x, meetB L M (t - d) x = true ↔ (0 < M ∧ x < t - d + L) := fun x => by unfold meetB; simp
  rcases bool_or (meetB L M (t - d) (meetX Q G M t)) with c | c
  rotate_left
  · have HZ := Lib.hid (show nextZ P F L Q G M t = some (meetX Q G M t) by rw [Hnz.out, if_pos ((b0 _).1 c)])
    have HV := Lib.hid (show nextV P F L Q G M t = meetX Q G M t by simp [nextV, hG, HZ.out])
    have HE := Lib.hid (show nextE P F L Q G M t = 0 by simp [nextE, hG, HZ.out])
    rw [c] at Hm0
    clear c b0 Hnz hG HZ
    go_enter Try.func6, Try.ntmps6
    go_wp2_with (first | (go_at_call 18; (with_reducible refine call_later (is_bool h1 (valid_any P F L _)) ?_); intro u) | (go_at_call 18; (with_reducible refine call_later (is_bool h2 (valid_any Q G M _)) ?_); intro u) | (go_at_call 19; (with_reducible refine call_later (is_bool h3 (limited_any t _)) ?_); intro u) | (go_at_call 20; (with_reducible refine call_later (Hp0.out _) ?_); intro u) | (go_at_call 21; (with_reducible refine call_later (Hm0.out _) ?_); intro u) | ((with_reducible refine wp_region_later ?_ ?_ ?_); (· kernel_rfl); (· kernel_rfl); (try simp only [List.append_eq, List.cons_append, List.nil_append]); (repeat (go_big_quiet_step ((first | (go_at_call 18; (with_reducible exact call_quiet (is_bool h1 (valid_any P F L _)))) | (go_at_call 18; (with_reducible exact call_quiet (is_bool h2 (valid_any Q G M _)))) | (go_at_call 19; (with_reducible exact call_quiet (is_bool h3 (limited_any t _)))) | (go_at_call 20; (with_reducible exact call_quiet (Hp0.out _))) | (go_at_call 21; (with_reducible exact call_quiet (Hm0.out _))))))); refine wpQuiet_nil ?_; rintro _ ⟨u, rfl⟩))
    go_ret2
    exact ⟨ret_ii HV.out.symm HE.out.symm, gw⟩
  · have hz0 : nextZ P F L Q G M t = if L = 0 ∨ M = 0 then none else if passK P L Q G M (t - d + P) < 0 then none else some (meetX Q G M (t - d + P + passK P L Q G M (t - d + P) * P)) := by
      rw [Hnz.out, if_neg (fun h => by rw [(b0 _).2 h] at c; cases c)]
    have Hz0 := Lib.hid hz0
    rw [c] at Hm0
    clear hz0 Hnz b0 c
    rcases bool_or' (L == 0) with z1 | z1
    · have HZ := Lib.hid (show nextZ P F L Q G M t = none by rw [Hz0.out, if_pos (.inl (by simpa using z1))])
      have HV := Lib.hid (show nextV P F L Q G M t = 0 by simp [nextV, hG, HZ.out])
      have HE := Lib.hid (show nextE P F L Q G M t = 7 by simp [nextE, hG, HZ.out])
      clear hG HZ Hz0
      go_enter Try.func6, Try.ntmps6
      go_wp2_with (first | (go_at_call 18; (with_reducible refine call_later (is_bool h1 (valid_any P F L _)) ?_); intro u) | (go_at_call 18; (with_reducible refine call_later (is_bool h2 (valid_any Q G M _)) ?_); intro u) | (go_at_call 19; (with_reducible refine call_later (is_bool h3 (limited_any t _)) ?_); intro u) | (go_at_call 20; (with_reducible refine call_later (Hp0.out _) ?_); intro u) | (go_at_call 21; (with_reducible refine call_later (Hm0.out _) ?_); intro u) | ((with_reducible refine wp_region_later ?_ ?_ ?_); (· kernel_rfl); (· kernel_rfl); (try simp only [List.append_eq, List.cons_append, List.nil_append]); (repeat (go_big_quiet_step ((first | (go_at_call 18; (with_reducible exact call_quiet (is_bool h1 (valid_any P F L _)))) | (go_at_call 18; (with_reducible exact call_quiet (is_bool h2 (valid_any Q G M _)))) | (go_at_call 19; (with_reducible exact call_quiet (is_bool h3 (limited_any t _)))) | (go_at_call 20; (with_reducible exact call_quiet (Hp0.out _))) | (go_at_call 21; (with_reducible exact call_quiet (Hm0.out _))))))); refine wpQuiet_nil ?_; rintro _ ⟨u, rfl⟩))
      go_ret2
      exact ⟨ret_ii HV.out.symm HE.out.symm, gw⟩
    rcases bool_or' (M == 0) with z2 | z2
    · have HZ := Lib.hid (show nextZ P F L Q G M t = none by rw [Hz0.out, if_pos (.inr (by simpa using z2))])
      have HV := Lib.hid (show nextV P F L Q G M t = 0 by simp [nextV, hG, HZ.out])
      have HE := Lib.hid (show nextE P F L Q G M t = 7 by simp [nextE, hG, HZ.out])
      clear hG HZ Hz0
      go_enter Try.func6, Try.ntmps6
      go_wp2_with (first | (go_at_call 18; (with_reducible refine call_later (is_bool h1 (valid_any P F L _)) ?_); intro u) | (go_at_call 18; (with_reducible refine call_later (is_bool h2 (valid_any Q G M _)) ?_); intro u) | (go_at_call 19; (with_reducible refine call_later (is_bool h3 (limited_any t _)) ?_); intro u) | (go_at_call 20; (with_reducible refine call_later (Hp0.out _) ?_); intro u) | (go_at_call 21; (with_reducible refine call_later (Hm0.out _) ?_); intro u) | ((with_reducible refine wp_region_later ?_ ?_ ?_); (· kernel_rfl); (· kernel_rfl); (try simp only [List.append_eq, List.cons_append, List.nil_append]); (repeat (go_big_quiet_step ((first | (go_at_call 18; (with_reducible exact call_quiet (is_bool h1 (valid_any P F L _)))) | (go_at_call 18; (with_reducible exact call_quiet (is_bool h2 (valid_any Q G M _)))) | (go_at_call 19; (with_reducible exact call_quiet (is_bool h3 (limited_any t _)))) | (go_at_call 20; (with_reducible exact call_quiet (Hp0.out _))) | (go_at_call 21; (with_reducible exact call_quiet (Hm0.out _))))))); refine wpQuiet_nil ?_; rintro _ ⟨u, rfl⟩))
      go_ret2
      exact ⟨ret_ii HV.out.symm HE.out.symm, gw⟩
    have hL1 : 1 ≤ L := by have : L ≠ 0 := by simpa using z1
                           omega
    have hM1 : 1 ≤ M := by have : M ≠ 0 := by simpa using z2
                           omega
    have hz1 : nextZ P F L Q G M t = if passK P L Q G M (t - d + P) < 0 then none else some (meetX Q G M (t - d + P + passK P L Q G M (t - d + P) * P)) := by
      rw [Hz0.out, if_neg (by omega)]
    have Hz1 := Lib.hid hz1
    clear hz1 Hz0
    have hll : ∀ B, lastOf B B = B := fun B => by unfold lastOf; split <;> rfl
    by_cases hr : Q ≤ L + M - 1
    · have HZ := Lib.hid (show nextZ P F L Q G M t = some (meetX Q G M (t - d + P)) by
        have : passK P L Q G M (t - d + P) = 0 := by unfold passK; rw [if_neg (by omega)]
        rw [Hz1.out, this, if_neg (by omega), Int.zero_mul, Int.add_zero])
      have HV := Lib.hid (show nextV P F L Q G M t = meetX Q G M (t - d + P) by simp [nextV, hG, HZ.out])
      have HE := Lib.hid (show nextE P F L Q G M t = 0 by simp [nextE, hG, HZ.out])
      have Hm1 := Lib.hid (fun w => meets_any P F L Q G M (t - d + P) (t - d + P) q1 q2 l1 (by omega) (by omega) (by omega) w)
      rw [hll] at Hm1
      clear hG HZ Hz1 hll
      go_enter Try.func6, Try.ntmps6
      go_wp2_with (first | (go_at_call 18; (with_reducible refine call_later (is_bool h1 (valid_any P F L _)) ?_); intro u) | (go_at_call 18; (with_reducible refine call_later (is_bool h2 (valid_any Q G M _)) ?_); intro u) | (go_at_call 19; (with_reducible refine call_later (is_bool h3 (limited_any t _)) ?_); intro u) | (go_at_call 20; (with_reducible refine call_later (Hp0.out _) ?_); intro u) | (go_at_call 21; (with_reducible refine call_later (Hm0.out _) ?_); intro u) | (go_at_call 21; (with_reducible refine call_later (Hm1.out _) ?_); intro u) | ((with_reducible refine wp_region_later ?_ ?_ ?_); (· kernel_rfl); (· kernel_rfl); (try simp only [List.append_eq, List.cons_append, List.nil_append]); (repeat (go_big_quiet_step ((first | (go_at_call 18; (with_reducible exact call_quiet (is_bool h1 (valid_any P F L _)))) | (go_at_call 18; (with_reducible exact call_quiet (is_bool h2 (valid_any Q G M _)))) | (go_at_call 19; (with_reducible exact call_quiet (is_bool h3 (limited_any t _)))) | (go_at_call 20; (with_reducible exact call_quiet (Hp0.out _))) | (go_at_call 21; (with_reducible exact call_quiet (Hm0.out _))) | (go_at_call 21; (with_reducible exact call_quiet (Hm1.out _))))))); refine wpQuiet_nil ?_; rintro _ ⟨u, rfl⟩))
      go_ret2
      exact ⟨ret_ii HV.out.symm HE.out.symm, gw⟩
    have Hp1 := Lib.hid (fun w => place_any Q G M (t - d + P) w q1 q2)
    have hpk := passK_eq P L Q G M (t - d + P) _ _ (by omega) rfl rfl
    have e1 := Int.emod_nonneg (t - d + P - G) (show Q ≠ 0 by omega)
    have e2 := Int.emod_lt_of_pos (t - d + P - G) (show 0 < Q by omega)
    generalize (t - d + P - G) % Q = e at *
    have Hf := Lib.hid (fun w => mod_any (e + L - 1) Q w q1 q2)
    have f1 := Int.emod_nonneg (e + L - 1) (show Q ≠ 0 by omega)
    have f2 := Int.emod_lt_of_pos (e + L - 1) (show 0 < Q by omega)
    generalize (e + L - 1) % Q = f at *
    have Hlo := Lib.hid (fun w => mod_any (-f) Q w q1 q2)
    have Hhi := Lib.hid (fun w => mod_any (L + M - 1 - 1 - f) Q w q1 q2)
    have lo1 := Int.emod_nonneg (-f) (show Q ≠ 0 by omega)
    have lo2 := Int.emod_lt_of_pos (-f) (show 0 < Q by omega)
    have hi1 := Int.emod_nonneg (L + M - 1 - 1 - f) (show Q ≠ 0 by omega)
    have hi2 := Int.emod_lt_of_pos (L + M - 1 - 1 - f) (show 0 < Q by omega)
    generalize (-f) % Q = lo at *
    generalize (L + M - 1 - 1 - f) % Q = hi at *
    have s1 := Int.emod_nonneg P (show Q ≠ 0 by omega)
    have s2 := Int.emod_lt_of_pos P (show 0 < Q by omega)
    have hF : ∀ lo', 0 ≤ lo' → lo' ≤ hi → ∀ w, Calls Try.prog 23 #[.int .i64 (P % Q), .int .i64 Q, .int .i64 lo', .int .i64 hi] w fun e w' => e = .returned (.int .i64 (firstZ (P % Q) Q lo' hi)) ∧ Grew w w' := fun lo' a b w => first_any _ _ _ _ _ w (Nat.le_refl _) a b hi2 s1 s2 q2
    have hkb : ∀ lo', 0 ≤ lo' → lo' ≤ hi → -1 ≤ firstZ (P % Q) Q lo' hi ∧ firstZ (P % Q) Q lo' hi < Q := fun lo' a b => firstZ_bd _ _ _ _ a b hi2 s1 s2
    by_cases hlh : hi < lo
    all_goals
      first
      | (rw [if_pos hlh] at hpk; have HF := Lib.hid (hF 0 (by omega) hi1); have hk := hkb 0 (by omega) hi1)
      | (rw [if_neg hlh] at hpk; have HF := Lib.hid (hF lo lo1 (by omega)); have hk := hkb lo lo1 (by omega))
      obtain ⟨k1, k2⟩ := hk
      clear hF hkb
      rw [hpk] at Hz1
      clear hpk
      obtain ⟨k, hkk⟩ : ∃ k, nextZ P F L Q G M t = (if k < 0 then none else some (meetX Q G M (t - d + P + k * P))) ∧ -1 ≤ k ∧ k < Q ∧ ∀ w, Calls Try.prog 23 #[.int .i64 (P % Q), .int .i64 Q, .int .i64 (if hi < lo then 0 else lo), .int .i64 hi] w fun e w' => e = .returned (.int .i64 k) ∧ Grew w w' := ⟨_, Hz1.out, k1, k2, by first | (rw [if_pos hlh]; exact HF.out) | (rw [if_neg hlh]; exact HF.out)⟩
      clear Hz1 HF k1 k2
      obtain ⟨hz1, k1, k2, hf⟩ := hkk
      have Hz1 := Lib.hid hz1
      first | rw [if_pos hlh] at hf | rw [if_neg hlh] at hf
      have HF := Lib.hid hf
      clear hz1 hf
      by_cases hk0 : k < 0
      · have HZ := Lib.hid (show nextZ P F L Q G M t = none by rw [Hz1.out, if_pos hk0])
        have HV := Lib.hid (show nextV P F L Q G M t = 0 by simp [nextV, hG, HZ.out])
        have HE := Lib.hid (show nextE P F L Q G M t = 7 by simp [nextE, hG, HZ.out])
        clear hG HZ Hz1 hll
        go_enter Try.func6, Try.ntmps6
        go_wp2_with (first | (go_at_call 18; (with_reducible refine call_later (is_bool h1 (valid_any P F L _)) ?_); intro u) | (go_at_call 18; (with_reducible refine call_later (is_bool h2 (valid_any Q G M _)) ?_); intro u) | (go_at_call 19; (with_reducible refine call_later (is_bool h3 (limited_any t _)) ?_); intro u) | (go_at_call 20; (with_reducible refine call_later (Hp0.out _) ?_); intro u) | (go_at_call 21; (with_reducible refine call_later (Hm0.out _) ?_); intro u) | (go_at_call 20; (with_reducible refine call_later (Hp1.out _) ?_); intro u) | (go_at_call 22; (with_reducible refine call_later (Hf.out _) ?_); intro u) | (go_at_call 22; (with_reducible refine call_later (Hlo.out _) ?_); intro u) | (go_at_call 22; (with_reducible refine call_later (Hhi.out _) ?_); intro u) | (go_at_call 23; (with_reducible refine call_later (HF.out _) ?_); intro u) | ((with_reducible refine wp_region_later ?_ ?_ ?_); (· kernel_rfl); (· kernel_rfl); (try simp only [List.append_eq, List.cons_append, List.nil_append]); (repeat (go_big_quiet_step ((first | (go_at_call 18; (with_reducible exact call_quiet (is_bool h1 (valid_any P F L _)))) | (go_at_call 18; (with_reducible exact call_quiet (is_bool h2 (valid_any Q G M _)))) | (go_at_call 19; (with_reducible exact call_quiet (is_bool h3 (limited_any t _)))) | (go_at_call 20; (with_reducible exact call_quiet (Hp0.out _))) | (go_at_call 21; (with_reducible exact call_quiet (Hm0.out _))) | (go_at_call 20; (with_reducible exact call_quiet (Hp1.out _))) | (go_at_call 22; (with_reducible exact call_quiet (Hf.out _))) | (go_at_call 22; (with_reducible exact call_quiet (Hlo.out _))) | (go_at_call 22; (with_reducible exact call_quiet (Hhi.out _))) | (go_at_call 23; (with_reducible exact call_quiet (HF.out _))))))); refine wpQuiet_nil ?_; rintro _ ⟨u, rfl⟩))
        go_ret2
        exact ⟨ret_ii HV.out.symm HE.out.symm, gw⟩
      · have HZ := Lib.hid (show nextZ P F L Q G M t = some (meetX Q G M (t - d + P + k * P)) by rw [Hz1.out, if_neg hk0])
        have HV := Lib.hid (show nextV P F L Q G M t = meetX Q G M (t - d + P + k * P) by simp [nextV, hG, HZ.out])
        have HE := Lib.hid (show nextE P F L Q G M t = 0 by simp [nextE, hG, HZ.out])
        obtain ⟨kp1, kp2⟩ := prod_bd2 (u := k) (v := P) (U := 1073741824) (V := 1073741824) (by omega) (by omega) (by omega) p2
        have Hm1 := Lib.hid (fun w => meets_any P F L Q G M (t - d + P + k * P) (t - d + P + k * P) q1 q2 l1 (by omega) (by omega) (by omega) w)
        rw [hll] at Hm1
        clear hG HZ Hz1 hll
        go_enter Try.func6, Try.ntmps6
        go_wp2_with (first | (go_at_call 18; (with_reducible refine call_later (is_bool h1 (valid_any P F L _)) ?_); intro u) | (go_at_call 18; (with_reducible refine call_later (is_bool h2 (valid_any Q G M _)) ?_); intro u) | (go_at_call 19; (with_reducible refine call_later (is_bool h3 (limited_any t _)) ?_); intro u) | (go_at_call 20; (with_reducible refine call_later (Hp0.out _) ?_); intro u) | (go_at_call 21; (with_reducible refine call_later (Hm0.out _) ?_); intro u) | (go_at_call 20; (with_reducible refine call_later (Hp1.out _) ?_); intro u) | (go_at_call 22; (with_reducible refine call_later (Hf.out _) ?_); intro u) | (go_at_call 22; (with_reducible refine call_later (Hlo.out _) ?_); intro u) | (go_at_call 22; (with_reducible refine call_later (Hhi.out _) ?_); intro u) | (go_at_call 23; (with_reducible refine call_later (HF.out _) ?_); intro u) | (go_at_call 21; (with_reducible refine call_later (Hm1.out _) ?_); intro u) | ((with_reducible refine wp_region_later ?_ ?_ ?_); (· kernel_rfl); (· kernel_rfl); (try simp only [List.append_eq, List.cons_append, List.nil_append]); (repeat (go_big_quiet_step ((first | (go_at_call 18; (with_reducible exact call_quiet (is_bool h1 (valid_any P F L _)))) | (go_at_call 18; (with_reducible exact call_quiet (is_bool h2 (valid_any Q G M _)))) | (go_at_call 19; (with_reducible exact call_quiet (is_bool h3 (limited_any t _)))) | (go_at_call 20; (with_reducible exact call_quiet (Hp0.out _))) | (go_at_call 21; (with_reducible exact call_quiet (Hm0.out _))) | (go_at_call 20; (with_reducible exact call_quiet (Hp1.out _))) | (go_at_call 22; (with_reducible exact call_quiet (Hf.out _))) | (go_at_call 22; (with_reducible exact call_quiet (Hlo.out _))) | (go_at_call 22; (with_reducible exact call_quiet (Hhi.out _))) | (go_at_call 23; (with_reducible exact call_quiet (HF.out _))) | (go_at_call 21; (with_reducible exact call_quiet (Hm1.out _))))))); refine wpQuiet_nil ?_; rintro _ ⟨u, rfl⟩))
        go_ret2
        exact ⟨ret_ii HV.out.symm HE.out.symm, gw⟩
end Go.Proofs.Ytffbipcdlnfihaa
