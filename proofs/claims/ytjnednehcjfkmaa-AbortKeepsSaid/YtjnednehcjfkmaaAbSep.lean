/-
  Contracts: abort's Clear, Separates.
-/
import Derived.Test.YtjnednehcjfkmaaAbClear
import Derived.Test.YtjnednehcjfkmaaMoving
namespace Go.Proofs.Ytjnednehcjfkmaa
open Go.RowKit
set_option maxRecDepth 100000
set_option maxHeartbeats 8000000
theorem abValidS_any (n : Int) (w : World) : Calls Try.prog 41 #[.int .i64 n] w fun e w' => e = .returned (.bool (numB n)) ∧ Grew w w' := by
  go_enter Try.func41, Try.ntmps41
  go_wp2
  go_ret
  exact ⟨ret_bool (by unfold numB; simp), (by repeat (first | with_reducible exact Grew.refl _ | with_reducible apply Grew.alloc | with_reducible apply Grew.later | with_reducible apply Grew.drew | with_reducible apply Grew.store | with_reducible assumption))⟩
theorem mv_bad (m : Mo) (h : m.okB = false) : ∃ x : Mo, ∀ w, Calls Try.prog 25 #[.agg #[.int .i64 m.d.x.lo, .int .i64 m.d.x.hi, .int .i64 m.d.y.lo, .int .i64 m.d.y.hi, .int .i64 m.d.z.lo, .int .i64 m.d.z.hi], .agg #[.int .i64 m.w.x.lo, .int .i64 m.w.x.hi, .int .i64 m.w.y.lo, .int .i64 m.w.y.hi, .int .i64 m.w.z.lo, .int .i64 m.w.z.hi], .agg #[.int .i64 m.a.x.lo, .int .i64 m.a.x.hi, .int .i64 m.a.y.lo, .int .i64 m.a.y.hi, .int .i64 m.a.z.lo, .int .i64 m.a.z.hi], .int .i64 m.t, .int .i64 m.n] w fun e w' => e = .returned (.tuple #[.agg #[.int .i64 x.d.x.lo, .int .i64 x.d.x.hi, .int .i64 x.w.x.lo, .int .i64 x.w.x.hi, .int .i64 x.a.x.lo, .int .i64 x.a.x.hi, .int .i64 x.d.y.lo, .int .i64 x.d.y.hi, .int .i64 x.w.y.lo, .int .i64 x.w.y.hi, .int .i64 x.a.y.lo, .int .i64 x.a.y.hi, .int .i64 x.d.z.lo, .int .i64 x.d.z.hi, .int .i64 x.w.z.lo, .int .i64 x.w.z.hi, .int .i64 x.a.z.lo, .int .i64 x.a.z.hi, .int .i64 x.t, .int .i64 x.n], .bool false]) ∧ Grew w w' := by
  unfold Mo.okB at h
  cases h1 : m.spansB
  · refine ⟨zMo, fun w => (abMoving_any m w).mono fun e w' ⟨he, hg⟩ => ⟨?_, hg⟩⟩
    rw [he, h1]
    rfl
  · rw [h1] at h
    have h2 : m.flagB = false := by simpa using h
    refine ⟨m, fun w => (abMoving_any m w).mono fun e w' ⟨he, hg⟩ => ⟨?_, hg⟩⟩
    rw [he, h1, h2]
    rfl
theorem mv_good (m : Mo) (h : m.okB = true) (w : World) : Calls Try.prog 25 #[.agg #[.int .i64 m.d.x.lo, .int .i64 m.d.x.hi, .int .i64 m.d.y.lo, .int .i64 m.d.y.hi, .int .i64 m.d.z.lo, .int .i64 m.d.z.hi], .agg #[.int .i64 m.w.x.lo, .int .i64 m.w.x.hi, .int .i64 m.w.y.lo, .int .i64 m.w.y.hi, .int .i64 m.w.z.lo, .int .i64 m.w.z.hi], .agg #[.int .i64 m.a.x.lo, .int .i64 m.a.x.hi, .int .i64 m.a.y.lo, .int .i64 m.a.y.hi, .int .i64 m.a.z.lo, .int .i64 m.a.z.hi], .int .i64 m.t, .int .i64 m.n] w fun e w' => e = .returned (.tuple #[.agg #[.int .i64 m.d.x.lo, .int .i64 m.d.x.hi, .int .i64 m.w.x.lo, .int .i64 m.w.x.hi, .int .i64 m.a.x.lo, .int .i64 m.a.x.hi, .int .i64 m.d.y.lo, .int .i64 m.d.y.hi, .int .i64 m.w.y.lo, .int .i64 m.w.y.hi, .int .i64 m.a.y.lo, .int .i64 m.a.y.hi, .int .i64 m.d.z.lo, .int .i64 m.d.z.hi, .int .i64 m.w.z.lo, .int .i64 m.w.z.hi, .int .i64 m.a.z.lo, .int .i64 m.a.z.hi, .int .i64 m.t, .int .i64 m.n], .bool true]) ∧ Grew w w' := by
  unfold Mo.okB at h
  rw [Bool.and_eq_true] at h
  refine (abMoving_any m w).mono fun e w' ⟨he, hg⟩ => ⟨?_, hg⟩
  rw [he, h.1, h.2]
  rfl
theorem mo_fair {m : Mo} (hok : m.okB = true) (ht : I64 m.t) : m.fair := by
  unfold Mo.okB at hok
  rw [Bool.and_eq_true] at hok
  exact Mo.fair_of hok.2 ht
theorem abClearCl (m : Mo) [hM : Mo64 m] (hok : m.okB = true) (ht : I64 m.t) (w : World) : Calls Try.prog 26 #[.agg #[.int .i64 m.d.x.lo, .int .i64 m.d.x.hi, .int .i64 m.w.x.lo, .int .i64 m.w.x.hi, .int .i64 m.a.x.lo, .int .i64 m.a.x.hi, .int .i64 m.d.y.lo, .int .i64 m.d.y.hi, .int .i64 m.w.y.lo, .int .i64 m.w.y.hi, .int .i64 m.a.y.lo, .int .i64 m.a.y.hi, .int .i64 m.d.z.lo, .int .i64 m.d.z.hi, .int .i64 m.w.z.lo, .int .i64 m.w.z.hi, .int .i64 m.a.z.lo, .int .i64 m.a.z.hi, .int .i64 m.t, .int .i64 m.n]] w fun e w' => e = .returned (.tuple #[.int .i64 (clearR m).1, .int .i64 (clearR m).2]) ∧ Grew w w' := by
  have h1 : clearR m = clearScan (fun k => pieceR m k) m.n.toNat 0 9223372036854775807 := by unfold clearR; rw [hok]; rfl
  rw [h1]
  exact abClear_any m (Lib.hid (mo_fair hok ht)) w
theorem abClearP_any (m : Mo) [hM : Mo64 m] (ht : I64 m.t) (w : World) : Calls Try.prog 11 #[.agg #[.int .i64 m.d.x.lo, .int .i64 m.d.x.hi, .int .i64 m.d.y.lo, .int .i64 m.d.y.hi, .int .i64 m.d.z.lo, .int .i64 m.d.z.hi], .agg #[.int .i64 m.w.x.lo, .int .i64 m.w.x.hi, .int .i64 m.w.y.lo, .int .i64 m.w.y.hi, .int .i64 m.w.z.lo, .int .i64 m.w.z.hi], .agg #[.int .i64 m.a.x.lo, .int .i64 m.a.x.hi, .int .i64 m.a.y.lo, .int .i64 m.a.y.hi, .int .i64 m.a.z.lo, .int .i64 m.a.z.hi], .int .i64 m.t, .int .i64 m.n] w (RetCl (clearR m) w) := by
  cases hok : m.okB
  · obtain ⟨x, HX⟩ := mv_bad m hok
    have HM := Lib.hid HX
    have HR := Lib.hid (show ((0, 2) : Int × Int) = clearR m by unfold clearR; rw [hok]; rfl)
    clear HX
    go_enter Try.func11, Try.ntmps11
    go_wp2_with (first | ((with_reducible refine wpList_load_is ?_ ?_ ?_ ?_ ?_ ?_ ?_ ?_ ?_ ?_ ?_ ?_ ?_); rotate_left 6; (· rfl); (· rfl); (· rfl); (· infer_instance); (· infer_instance); (· rfl)) | ((with_reducible refine wpList_store_fresh ?_ ?_ ?_ ?_ ?_ ?_ ?_ ?_ ?_ ?_ ?_ ?_ ?_ ?_ ?_ ?_ ?_); rotate_left 5; (· rfl); (· rfl); (· rfl); (· rfl); (· rfl); (· infer_instance); (· infer_instance); (· infer_instance); (· infer_instance)) | (go_at_call 25; (with_reducible refine call_later (HM.out _) ?_); intro u1))
    go_ret2
    exact ⟨ret_cl HR.out, (by repeat (first | with_reducible exact Grew.refl _ | with_reducible apply Grew.alloc | with_reducible apply Grew.later | with_reducible apply Grew.drew | with_reducible apply Grew.store | with_reducible assumption))⟩
  · have HM := Lib.hid (fun w => mv_good m hok w)
    have HC := Lib.hid (fun w => abClearCl m hok ht w)
    go_enter Try.func11, Try.ntmps11
    go_wp2_with (first | ((with_reducible refine wpList_load_is ?_ ?_ ?_ ?_ ?_ ?_ ?_ ?_ ?_ ?_ ?_ ?_ ?_); rotate_left 6; (· rfl); (· rfl); (· rfl); (· infer_instance); (· infer_instance); (· rfl)) | ((with_reducible refine wpList_store_fresh ?_ ?_ ?_ ?_ ?_ ?_ ?_ ?_ ?_ ?_ ?_ ?_ ?_ ?_ ?_ ?_ ?_); rotate_left 5; (· rfl); (· rfl); (· rfl); (· rfl); (· rfl); (· infer_instance); (· infer_instance); (· infer_instance); (· infer_instance)) | (go_at_call 25; (with_reducible refine call_later (HM.out _) ?_); intro u1) | (go_at_call 26; (with_reducible refine call_later (HC.out _) ?_); intro u2))
    go_ret2
    exact ⟨rfl, (by repeat (first | with_reducible exact Grew.refl _ | with_reducible apply Grew.alloc | with_reducible apply Grew.later | with_reducible apply Grew.drew | with_reducible apply Grew.store | with_reducible assumption))⟩
theorem near_step (f : Nat → Res) (keep : Int) (n k : Nat) (b : Bool) (h : k < n) : nearScan f keep (n - k) k b = if (f k).e = 0 then nearScan f keep (n - (k + 1)) (k + 1) (b || decide ((f k).s.hi < keep)) else (false, (f k).e) := by
  rw [show n - k = (n - (k + 1)) + 1 by omega]
  rfl
theorem sep_end (m : Mo) (keep : Int) (b : Bool) (hok : m.okB = true) (hk : numB keep = true) (hc : (clearR m).2 = 0) (h : nearScan (fun k => nearR m k) keep (m.n.toNat + 1) 0 false = (b, 0)) :
    sepR m keep = (if keep ≤ (clearR m).1 then 1 else if b = true then -1 else 0, 0) := by
  unfold sepR
  rw [hok, hk, h]
  simp only [Bool.and_self, if_true, if_pos hc]
theorem sep_err (m : Mo) (keep : Int) (e : Int) (hok : m.okB = true) (hk : numB keep = true) (hc : (clearR m).2 = 0) (he : e ≠ 0) (h : (nearScan (fun k => nearR m k) keep (m.n.toNat + 1) 0 false).2 = e) :
    sepR m keep = (0, e) := by
  unfold sepR
  rw [hok, hk, h]
  simp only [Bool.and_self, if_true, if_pos hc, if_neg he]
theorem abSep_any (m : Mo) (keep : Int) [hM : Mo64 m] (ht : I64 m.t) (w : World) : Calls Try.prog 19 #[.agg #[.int .i64 m.d.x.lo, .int .i64 m.d.x.hi, .int .i64 m.d.y.lo, .int .i64 m.d.y.hi, .int .i64 m.d.z.lo, .int .i64 m.d.z.hi], .agg #[.int .i64 m.w.x.lo, .int .i64 m.w.x.hi, .int .i64 m.w.y.lo, .int .i64 m.w.y.hi, .int .i64 m.w.z.lo, .int .i64 m.w.z.hi], .agg #[.int .i64 m.a.x.lo, .int .i64 m.a.x.hi, .int .i64 m.a.y.lo, .int .i64 m.a.y.hi, .int .i64 m.a.z.lo, .int .i64 m.a.z.hi], .int .i64 m.t, .int .i64 keep, .int .i64 m.n] w (RetCl (sepR m keep) w) := by
  cases hok : m.okB
  · obtain ⟨x, HX⟩ := mv_bad m hok
    have HM := Lib.hid HX
    have HR := Lib.hid (show ((0, 2) : Int × Int) = sepR m keep by unfold sepR; rw [hok]; rfl)
    clear HX
    go_enter Try.func19, Try.ntmps19
    go_wp2_with (first | ((with_reducible refine wpList_load_is ?_ ?_ ?_ ?_ ?_ ?_ ?_ ?_ ?_ ?_ ?_ ?_ ?_); rotate_left 6; (· rfl); (· rfl); (· rfl); (· infer_instance); (· infer_instance); (· rfl)) | ((with_reducible refine wpList_store_fresh ?_ ?_ ?_ ?_ ?_ ?_ ?_ ?_ ?_ ?_ ?_ ?_ ?_ ?_ ?_ ?_ ?_); rotate_left 5; (· rfl); (· rfl); (· rfl); (· rfl); (· rfl); (· infer_instance); (· infer_instance); (· infer_instance); (· infer_instance)) | (go_at_call 25; (with_reducible refine call_later (HM.out _) ?_); intro u1))
    go_ret2
    exact ⟨ret_cl HR.out, (by repeat (first | with_reducible exact Grew.refl _ | with_reducible apply Grew.alloc | with_reducible apply Grew.later | with_reducible apply Grew.drew | with_reducible apply Grew.store | with_reducible assumption))⟩
  have HM := Lib.hid (fun w => mv_good m hok w)
  have HC := Lib.hid (fun w => abClearCl m hok ht w)
  have Hm := Lib.hid (mo_fair hok ht)
  cases hk : numB keep
  · have HR := Lib.hid (show ((0, 2) : Int × Int) = sepR m keep by unfold sepR; rw [hok, hk]; rfl)
    go_enter Try.func19, Try.ntmps19
    go_wp2_with (first | ((with_reducible refine wpList_load_is ?_ ?_ ?_ ?_ ?_ ?_ ?_ ?_ ?_ ?_ ?_ ?_ ?_); rotate_left 6; (· rfl); (· rfl); (· rfl); (· infer_instance); (· infer_instance); (· rfl)) | ((with_reducible refine wpList_store_fresh ?_ ?_ ?_ ?_ ?_ ?_ ?_ ?_ ?_ ?_ ?_ ?_ ?_ ?_ ?_ ?_ ?_); rotate_left 5; (· rfl); (· rfl); (· rfl); (· rfl); (· rfl); (· infer_instance); (· infer_instance); (· infer_instance); (· infer_instance)) | (go_at_call 25; (with_reducible refine call_later (HM.out _) ?_); intro u1) | (go_at_call 41; (with_reducible refine call_later (is_bool hk (abValidS_any keep _)) ?_); intro u2))
    go_ret2
    exact ⟨ret_cl HR.out, (by repeat (first | with_reducible exact Grew.refl _ | with_reducible apply Grew.alloc | with_reducible apply Grew.later | with_reducible apply Grew.drew | with_reducible apply Grew.store | with_reducible assumption))⟩
  by_cases hc : (clearR m).2 = 0
  rotate_left
  · have HR := Lib.hid (show ((0, (clearR m).2) : Int × Int) = sepR m keep by unfold sepR; rw [hok, hk]; simp only [Bool.and_self, if_true, if_neg hc])
    have t1 : ((clearR m).2 != 0) = true := by simp [hc]
    clear hc
    go_enter Try.func19, Try.ntmps19
    go_wp2_with (first | ((with_reducible refine wpList_load_is ?_ ?_ ?_ ?_ ?_ ?_ ?_ ?_ ?_ ?_ ?_ ?_ ?_); rotate_left 6; (· rfl); (· rfl); (· rfl); (· infer_instance); (· infer_instance); (· rfl)) | ((with_reducible refine wpList_store_fresh ?_ ?_ ?_ ?_ ?_ ?_ ?_ ?_ ?_ ?_ ?_ ?_ ?_ ?_ ?_ ?_ ?_); rotate_left 5; (· rfl); (· rfl); (· rfl); (· rfl); (· rfl); (· infer_instance); (· infer_instance); (· infer_instance); (· infer_instance)) | (go_at_call 25; (with_reducible refine call_later (HM.out _) ?_); intro u1) | (go_at_call 41; (with_reducible refine call_later (is_bool hk (abValidS_any keep _)) ?_); intro u2) | (go_at_call 26; (with_reducible refine call_later (HC.out _) ?_); intro u3))
    go_ret2
    exact ⟨ret_cl HR.out, (by repeat (first | with_reducible exact Grew.refl _ | with_reducible apply Grew.alloc | with_reducible apply Grew.later | with_reducible apply Grew.drew | with_reducible apply Grew.store | with_reducible assumption))⟩
  have HE := Lib.hid (fun b h => sep_end m keep b hok hk hc h)
  have HX := Lib.hid (fun e he h => sep_err m keep e hok hk hc he h)
  have t1 : ((clearR m).2 != 0) = false := by simp [hc]
  have hn1 : 1 ≤ m.n := Hm.out.2.2.1
  have hn2 : m.n ≤ 1024 := Hm.out.2.2.2
  clear hc
  go_enter Try.func19, Try.ntmps19
  go_wp2_with (first | ((with_reducible refine wpList_load_is ?_ ?_ ?_ ?_ ?_ ?_ ?_ ?_ ?_ ?_ ?_ ?_ ?_); rotate_left 6; (· rfl); (· rfl); (· rfl); (· infer_instance); (· infer_instance); (· rfl)) | ((with_reducible refine wpList_store_fresh ?_ ?_ ?_ ?_ ?_ ?_ ?_ ?_ ?_ ?_ ?_ ?_ ?_ ?_ ?_ ?_ ?_); rotate_left 5; (· rfl); (· rfl); (· rfl); (· rfl); (· rfl); (· infer_instance); (· infer_instance); (· infer_instance); (· infer_instance)) | (go_at_call 25; (with_reducible refine call_later (HM.out _) ?_); intro u1) | (go_at_call 41; (with_reducible refine call_later (is_bool hk (abValidS_any keep _)) ?_); intro u2) | (go_at_call 26; (with_reducible refine call_later (HC.out _) ?_); intro u3))
  go_loopw [18, 49] (fun v t wr => ∃ (k : Nat) (b : Bool), t = .int .i64 k ∧ v = .bool b ∧ (k : Int) ≤ m.n + 1 ∧ Hid (nearScan (fun k => nearR m k) keep (m.n.toNat + 1) 0 false = nearScan (fun k => nearR m k) keep (m.n.toNat + 1 - k) k b) ∧ Grew u3.world wr) (fun _ t _ => m.n.toNat + 1 - (intOf t).toNat)
  case atStart => exact ⟨0, false, rfl, rfl, by omega, Lib.hid rfl, (by repeat (first | with_reducible exact Grew.refl _ | with_reducible apply Grew.alloc | with_reducible apply Grew.later | with_reducible apply Grew.drew | with_reducible apply Grew.store | with_reducible assumption))⟩
  case round =>
    obtain ⟨k, b, rfl, rfl, hkn, Hsc, hg⟩ := hrel
    obtain ⟨z, rfl⟩ := later_of hg
    clear hg
    by_cases hlt : (k : Int) < m.n + 1
    · have hN : N64 (k : Int) := ⟨by unfold I64; omega⟩
      have HA := Lib.hid (fun w => abAt_any m (k : Int) Hm.out w)
      have hst := near_step (fun k => nearR m k) keep (m.n.toNat + 1) k b (by omega)
      by_cases h1 : (momentR m k).e = 0
      · have hn : nearR m k = lengthR m (momentR m k).s := by unfold nearR; rw [h1, doR_ok]
        have HL := Lib.hid (fun w => (show Calls Try.prog 43 #[.agg #[.int .i64 m.d.x.lo, .int .i64 m.d.x.hi, .int .i64 m.w.x.lo, .int .i64 m.w.x.hi, .int .i64 m.a.x.lo, .int .i64 m.a.x.hi, .int .i64 m.d.y.lo, .int .i64 m.d.y.hi, .int .i64 m.w.y.lo, .int .i64 m.w.y.hi, .int .i64 m.a.y.lo, .int .i64 m.a.y.hi, .int .i64 m.d.z.lo, .int .i64 m.d.z.hi, .int .i64 m.w.z.lo, .int .i64 m.w.z.hi, .int .i64 m.a.z.lo, .int .i64 m.a.z.hi, .int .i64 m.t, .int .i64 m.n], .agg #[.int .i64 ((momentR m k).s).lo, .int .i64 ((momentR m k).s).hi]] w fun e w' => e = .returned (.tuple #[.agg #[.int .i64 (nearR m k).s.lo, .int .i64 (nearR m k).s.hi], .int .i64 (nearR m k).e]) ∧ Grew w w' from by rw [hn]; exact abLength_any m _ w))
        have s1 : ((momentR m k).e != 0) = false := by simp [h1]
        clear hn h1
        by_cases he : (nearR m k).e = 0
        · rw [if_pos he, ← Hsc.out] at hst
          have Hst := Lib.hid hst
          have s2 : ((nearR m k).e != 0) = false := by simp [he]
          clear he hst
          cases b
          · go_wp2_with (first | ((with_reducible refine wpList_load_is ?_ ?_ ?_ ?_ ?_ ?_ ?_ ?_ ?_ ?_ ?_ ?_ ?_); rotate_left 6; (· rfl); (· rfl); (· rfl); (· infer_instance); (· infer_instance); (· rfl)) | (go_at_call 42; (with_reducible refine call_later (HA.out _) ?_); intro v1) | (go_at_call 43; (with_reducible refine call_later (HL.out _) ?_); intro v2))
            all_goals
              go_roundw
              case rel => exact ⟨k + 1, _, by go_num, rfl, by omega, Lib.hid (Hst.out.trans (by rw [Bool.false_or])), (by repeat (first | with_reducible exact Grew.refl _ | with_reducible apply Grew.alloc | with_reducible apply Grew.later | with_reducible apply Grew.drew | with_reducible apply Grew.store | with_reducible assumption))⟩
              case measure => simp [intOf]; omega
          · go_wp2_with (first | ((with_reducible refine wpList_load_is ?_ ?_ ?_ ?_ ?_ ?_ ?_ ?_ ?_ ?_ ?_ ?_ ?_); rotate_left 6; (· rfl); (· rfl); (· rfl); (· infer_instance); (· infer_instance); (· rfl)) | (go_at_call 42; (with_reducible refine call_later (HA.out _) ?_); intro v1) | (go_at_call 43; (with_reducible refine call_later (HL.out _) ?_); intro v2))
            go_roundw
            case rel => exact ⟨k + 1, true, by go_num, rfl, by omega, Lib.hid (Hst.out.trans (by rw [Bool.true_or])), (by repeat (first | with_reducible exact Grew.refl _ | with_reducible apply Grew.alloc | with_reducible apply Grew.later | with_reducible apply Grew.drew | with_reducible apply Grew.store | with_reducible assumption))⟩
            case measure => simp [intOf]; omega
        · rw [if_neg he, ← Hsc.out] at hst
          have HR := Lib.hid (HX.out _ he (by rw [hst]))
          have s2 : ((nearR m k).e != 0) = true := by simp [he]
          clear he hst
          go_wp2_with (first | ((with_reducible refine wpList_load_is ?_ ?_ ?_ ?_ ?_ ?_ ?_ ?_ ?_ ?_ ?_ ?_ ?_); rotate_left 6; (· rfl); (· rfl); (· rfl); (· infer_instance); (· infer_instance); (· rfl)) | (go_at_call 42; (with_reducible refine call_later (HA.out _) ?_); intro v1) | (go_at_call 43; (with_reducible refine call_later (HL.out _) ?_); intro v2))
          go_ret2
          exact ⟨ret_cl HR.out.symm, (by repeat (first | with_reducible exact Grew.refl _ | with_reducible apply Grew.alloc | with_reducible apply Grew.later | with_reducible apply Grew.drew | with_reducible apply Grew.store | with_reducible assumption))⟩
      · have hn : (nearR m k).e = (momentR m k).e := by unfold nearR; exact doR_e_ne _ h1
        rw [if_neg (by rw [hn]; exact h1), ← Hsc.out] at hst
        have HR := Lib.hid (HX.out _ h1 (by rw [hst]; exact hn))
        have s1 : ((momentR m k).e != 0) = true := by simp [h1]
        clear hst h1 hn
        go_wp2_with (first | ((with_reducible refine wpList_load_is ?_ ?_ ?_ ?_ ?_ ?_ ?_ ?_ ?_ ?_ ?_ ?_ ?_); rotate_left 6; (· rfl); (· rfl); (· rfl); (· infer_instance); (· infer_instance); (· rfl)) | (go_at_call 42; (with_reducible refine call_later (HA.out _) ?_); intro v1))
        go_ret2
        exact ⟨ret_cl HR.out.symm, (by repeat (first | with_reducible exact Grew.refl _ | with_reducible apply Grew.alloc | with_reducible apply Grew.later | with_reducible apply Grew.drew | with_reducible apply Grew.store | with_reducible assumption))⟩
    · have hkn : (k : Int) = m.n + 1 := by omega
      have Hend := Lib.hid (HE.out b (by rw [Hsc.out, show m.n.toNat + 1 - k = 0 by omega]; rfl))
      clear hkn
      by_cases hkk : keep ≤ (clearR m).1
      · have HR := Lib.hid (show ((1, 0) : Int × Int) = sepR m keep by rw [Hend.out, if_pos hkk])
        go_wp2
        go_ret2
        exact ⟨ret_cl HR.out, (by repeat (first | with_reducible exact Grew.refl _ | with_reducible apply Grew.alloc | with_reducible apply Grew.later | with_reducible apply Grew.drew | with_reducible apply Grew.store | with_reducible assumption))⟩
      · cases b
        · have HR := Lib.hid (show ((0, 0) : Int × Int) = sepR m keep by rw [Hend.out, if_neg hkk]; rfl)
          go_wp2
          go_ret2
          exact ⟨ret_cl HR.out, (by repeat (first | with_reducible exact Grew.refl _ | with_reducible apply Grew.alloc | with_reducible apply Grew.later | with_reducible apply Grew.drew | with_reducible apply Grew.store | with_reducible assumption))⟩
        · have HR := Lib.hid (show ((-1, 0) : Int × Int) = sepR m keep by rw [Hend.out, if_neg hkk]; rfl)
          go_wp2
          go_ret2
          exact ⟨ret_cl HR.out, (by repeat (first | with_reducible exact Grew.refl _ | with_reducible apply Grew.alloc | with_reducible apply Grew.later | with_reducible apply Grew.drew | with_reducible apply Grew.store | with_reducible assumption))⟩
end Go.Proofs.Ytjnednehcjfkmaa
