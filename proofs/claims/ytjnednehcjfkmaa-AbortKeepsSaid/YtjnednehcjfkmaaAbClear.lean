/-
  Contracts: abort's clear.
-/
import Derived.Test.YtjnednehcjfkmaaMotionB
import Derived.Test.YtjnednehcjfkmaaRowMid
import Derived.Test.YtjnednehcjfkmaaRefMotions
namespace Go.Proofs.Ytjnednehcjfkmaa
open Go.RowKit
set_option maxRecDepth 100000
set_option maxHeartbeats 8000000
theorem imin_z {x y : Int} (h1 : I64 x) (h2 : I64 y) : I64 (imin x y) := by unfold imin; split; exact h2; exact h1
theorem moment_err (m : Mo) (k : Int) (hm : m.fair) (h0 : 0 ≤ k) (h : (momentR m k).e ≠ 0) : momentR m k = ⟨⟨0, 0⟩, 4⟩ := by
  have l := moment_law m k hm h0
  by_cases c : m.t * k ≤ 9223372036854775807
  · rw [if_pos c] at l
    rw [l] at h
    exact absurd rfl h
  · rw [if_neg c] at l
    exact l
theorem res_ok {r : Res} (h : r.e = 0) : r = ⟨r.s, 0⟩ := by rw [← h]
theorem s64_mix {a b : Sp} (ha : S64 a) (hb : S64 b) : S64 ⟨a.lo, b.hi⟩ := ⟨ha.lo, hb.hi⟩
theorem abClear_any (m : Mo) [hM : Mo64 m] (Hm : Hid m.fair) (w : World) : Calls Try.prog 26 #[.agg #[.int .i64 m.d.x.lo, .int .i64 m.d.x.hi, .int .i64 m.w.x.lo, .int .i64 m.w.x.hi, .int .i64 m.a.x.lo, .int .i64 m.a.x.hi, .int .i64 m.d.y.lo, .int .i64 m.d.y.hi, .int .i64 m.w.y.lo, .int .i64 m.w.y.hi, .int .i64 m.a.y.lo, .int .i64 m.a.y.hi, .int .i64 m.d.z.lo, .int .i64 m.d.z.hi, .int .i64 m.w.z.lo, .int .i64 m.w.z.hi, .int .i64 m.a.z.lo, .int .i64 m.a.z.hi, .int .i64 m.t, .int .i64 m.n]] w (RetCl (clearScan (fun k => pieceR m k) m.n.toNat 0 9223372036854775807) w) := by
  have hn1 : 1 ≤ m.n := Hm.out.2.2.1
  have hn2 : m.n ≤ 1024 := Hm.out.2.2.2
  go_enter Try.func26, Try.ntmps26
  go_wp2
  go_loopw [4, 13] (fun o t wr => ∃ (k : Nat) (x : Int), t = .int .i64 k ∧ o = .int .i64 x ∧ (k : Int) ≤ m.n ∧ Hid (clearScan (fun k => pieceR m k) m.n.toNat 0 9223372036854775807 = clearScan (fun k => pieceR m k) (m.n.toNat - k) k x) ∧ Hid (I64 x) ∧ Grew (w.alloc (.cells #[.int .i64 m.d.x.lo, .int .i64 m.d.x.hi, .int .i64 m.w.x.lo, .int .i64 m.w.x.hi, .int .i64 m.a.x.lo, .int .i64 m.a.x.hi, .int .i64 m.d.y.lo, .int .i64 m.d.y.hi, .int .i64 m.w.y.lo, .int .i64 m.w.y.hi, .int .i64 m.a.y.lo, .int .i64 m.a.y.hi, .int .i64 m.d.z.lo, .int .i64 m.d.z.hi, .int .i64 m.w.z.lo, .int .i64 m.w.z.hi, .int .i64 m.a.z.lo, .int .i64 m.a.z.hi, .int .i64 m.t, .int .i64 m.n] 74)) wr) (fun _ t _ => m.n.toNat - (intOf t).toNat)
  case atStart => exact ⟨0, 9223372036854775807, rfl, rfl, by omega, Lib.hid rfl, Lib.hid (by unfold I64; omega), (by repeat (first | with_reducible exact Grew.refl _ | with_reducible apply Grew.alloc | with_reducible apply Grew.later | with_reducible apply Grew.drew | with_reducible apply Grew.store | with_reducible assumption))⟩
  case round =>
    obtain ⟨k, x, rfl, rfl, hk, Hsc, Hx, hg⟩ := hrel
    obtain ⟨z, rfl⟩ := later_of hg
    clear hg
    by_cases hlt : (k : Int) < m.n
    · have hN : N64 (k : Int) := ⟨by unfold I64; omega⟩
      have hN1 : N64 ((k : Int) + 1) := ⟨by unfold I64; omega⟩
      have HA := Lib.hid (fun w => abAt_any m (k : Int) Hm.out w)
      have HB := Lib.hid (fun w => abAt_any m ((k : Int) + 1) Hm.out w)
      have hst : clearScan (fun k => pieceR m k) (m.n.toNat - k) k x = if (pieceR m k).e = 0 then clearScan (fun k => pieceR m k) (m.n.toNat - (k + 1)) (k + 1) (imin x (pieceR m k).s.lo) else (0, (pieceR m k).e) := by
        rw [show m.n.toNat - k = (m.n.toNat - (k + 1)) + 1 by omega]
        rfl
      have hpe := piece_err m k Hm.out (by omega)
      by_cases h1 : (momentR m k).e = 0
      · by_cases h2 : (momentR m (k + 1)).e = 0
        · have hp0 : pieceE m k = 0 := by unfold pieceE; rw [h1, doR_ok, h2]
          have hU : pieceU m k = ⟨(momentR m k).s.lo, (momentR m (k + 1)).s.hi⟩ := (piece_span m k Hm.out (by omega) hp0).2.2.2
          have hpr : pieceR m k = lengthR m ⟨(momentR m k).s.lo, (momentR m (k + 1)).s.hi⟩ := by unfold pieceR; rw [hp0, doR_ok, hU]
          have q1 : S64 ⟨(momentR m k).s.lo, (momentR m (k + 1)).s.hi⟩ := s64_mix (s64_moment m k) (s64_moment m (k + 1))
          have HL := Lib.hid (fun w => (show Calls Try.prog 43 #[.agg #[.int .i64 m.d.x.lo, .int .i64 m.d.x.hi, .int .i64 m.w.x.lo, .int .i64 m.w.x.hi, .int .i64 m.a.x.lo, .int .i64 m.a.x.hi, .int .i64 m.d.y.lo, .int .i64 m.d.y.hi, .int .i64 m.w.y.lo, .int .i64 m.w.y.hi, .int .i64 m.a.y.lo, .int .i64 m.a.y.hi, .int .i64 m.d.z.lo, .int .i64 m.d.z.hi, .int .i64 m.w.z.lo, .int .i64 m.w.z.hi, .int .i64 m.a.z.lo, .int .i64 m.a.z.hi, .int .i64 m.t, .int .i64 m.n], .agg #[.int .i64 ((⟨(momentR m k).s.lo, (momentR m (k + 1)).s.hi⟩ : Sp)).lo, .int .i64 ((⟨(momentR m k).s.lo, (momentR m (k + 1)).s.hi⟩ : Sp)).hi]] w fun e w' => e = .returned (.tuple #[.agg #[.int .i64 (pieceR m k).s.lo, .int .i64 (pieceR m k).s.hi], .int .i64 (pieceR m k).e]) ∧ Grew w w' from by rw [hpr]; exact abLength_any m _ w))
          have Hz := Lib.hid (piece_z m k)
          have t1 : ((momentR m k).e != 0) = false := by simp [h1]
          have t2 : ((momentR m ((k : Int) + 1)).e != 0) = false := by simp [h2]
          clear hpe hp0 hU hpr h1 h2 q1
          by_cases he : (pieceR m k).e = 0
          · rw [if_pos he, ← Hsc.out] at hst
            have Hst := Lib.hid hst
            have t3 : ((pieceR m k).e != 0) = false := by simp [he]
            clear he hst
            have him : imin x (pieceR m k).s.lo = if (pieceR m k).s.lo < x then (pieceR m k).s.lo else x := rfl
            have Him := Lib.hid him
            clear him
            go_wp2_with (first | ((with_reducible refine wpList_load_is ?_ ?_ ?_ ?_ ?_ ?_ ?_ ?_ ?_ ?_ ?_ ?_ ?_); rotate_left 6; (· rfl); (· rfl); (· rfl); (· infer_instance); (· infer_instance); (· rfl)) | (go_at_call 42; (with_reducible refine call_later (HA.out _) ?_); intro u1) | (go_at_call 42; (with_reducible refine call_later (HB.out _) ?_); intro u2) | (go_at_call 43; (with_reducible refine call_later (HL.out _) ?_); intro u3))
            go_roundw
            case rel => exact ⟨k + 1, imin x (pieceR m k).s.lo, by go_num, (by first | (rw [Him.out]; done) | (rw [Him.out]; congr 1; rw [Int.min_def]; (repeat' split) <;> omega)), by omega, Hst, Lib.hid (imin_z Hx.out Hz.out), (by repeat (first | with_reducible exact Grew.refl _ | with_reducible apply Grew.alloc | with_reducible apply Grew.later | with_reducible apply Grew.drew | with_reducible apply Grew.store | with_reducible assumption))⟩
            case measure => simp [intOf]; omega
          · rw [if_neg he, ← Hsc.out] at hst
            have Hst := Lib.hid hst
            have t3 : ((pieceR m k).e != 0) = true := by simp [he]
            clear he hst
            go_wp2_with (first | ((with_reducible refine wpList_load_is ?_ ?_ ?_ ?_ ?_ ?_ ?_ ?_ ?_ ?_ ?_ ?_ ?_); rotate_left 6; (· rfl); (· rfl); (· rfl); (· infer_instance); (· infer_instance); (· rfl)) | (go_at_call 42; (with_reducible refine call_later (HA.out _) ?_); intro u1) | (go_at_call 42; (with_reducible refine call_later (HB.out _) ?_); intro u2) | (go_at_call 43; (with_reducible refine call_later (HL.out _) ?_); intro u3))
            go_ret2
            exact ⟨ret_cl Hst.out.symm, (by repeat (first | with_reducible exact Grew.refl _ | with_reducible apply Grew.alloc | with_reducible apply Grew.later | with_reducible apply Grew.drew | with_reducible apply Grew.store | with_reducible assumption))⟩
        · have hE : pieceR m k = ⟨⟨0, 0⟩, 4⟩ := by
            unfold pieceR pieceE
            rw [h1, doR_ok, moment_err m (k + 1) Hm.out (by omega) h2]
            rfl
          rw [hE] at hst
          have Hst := Lib.hid (Hsc.out.trans hst)
          have HA := Lib.hid (fun w => is_res (res_ok h1) (HA.out w))
          have HB := Lib.hid (fun w => is_res (moment_err m (k + 1) Hm.out (by omega) h2) (HB.out w))
          clear hpe hE hst h1 h2
          go_wp2_with (first | ((with_reducible refine wpList_load_is ?_ ?_ ?_ ?_ ?_ ?_ ?_ ?_ ?_ ?_ ?_ ?_ ?_); rotate_left 6; (· rfl); (· rfl); (· rfl); (· infer_instance); (· infer_instance); (· rfl)) | (go_at_call 42; (with_reducible refine call_later (HA.out _) ?_); intro u1) | (go_at_call 42; (with_reducible refine call_later (HB.out _) ?_); intro u2))
          go_ret2
          exact ⟨ret_cl Hst.out.symm, (by repeat (first | with_reducible exact Grew.refl _ | with_reducible apply Grew.alloc | with_reducible apply Grew.later | with_reducible apply Grew.drew | with_reducible apply Grew.store | with_reducible assumption))⟩
      · obtain ⟨e4, e5⟩ := hpe.1 h1
        have h2 : (momentR m (k + 1)).e ≠ 0 := by rw [e5]; decide
        have hE : pieceR m k = ⟨⟨0, 0⟩, 4⟩ := by
          unfold pieceR pieceE
          rw [moment_err m k Hm.out (by omega) h1]
          rfl
        rw [hE] at hst
        have Hst := Lib.hid (Hsc.out.trans hst)
        have HA := Lib.hid (fun w => is_res (moment_err m k Hm.out (by omega) h1) (HA.out w))
        have HB := Lib.hid (fun w => is_res (moment_err m (k + 1) Hm.out (by omega) h2) (HB.out w))
        clear hpe hE hst e4 e5 h1 h2
        go_wp2_with (first | ((with_reducible refine wpList_load_is ?_ ?_ ?_ ?_ ?_ ?_ ?_ ?_ ?_ ?_ ?_ ?_ ?_); rotate_left 6; (· rfl); (· rfl); (· rfl); (· infer_instance); (· infer_instance); (· rfl)) | (go_at_call 42; (with_reducible refine call_later (HA.out _) ?_); intro u1) | (go_at_call 42; (with_reducible refine call_later (HB.out _) ?_); intro u2))
        go_ret2
        exact ⟨ret_cl Hst.out.symm, (by repeat (first | with_reducible exact Grew.refl _ | with_reducible apply Grew.alloc | with_reducible apply Grew.later | with_reducible apply Grew.drew | with_reducible apply Grew.store | with_reducible assumption))⟩
    · have hkn : (k : Int) = m.n := by omega
      have Hend := Lib.hid (show (x, 0) = clearScan (fun k => pieceR m k) m.n.toNat 0 9223372036854775807 by
        rw [Hsc.out, show m.n.toNat - k = 0 by omega]
        rfl)
      clear hkn
      go_wp2
      go_ret2
      exact ⟨ret_cl Hend.out, (by repeat (first | with_reducible exact Grew.refl _ | with_reducible apply Grew.alloc | with_reducible apply Grew.later | with_reducible apply Grew.drew | with_reducible apply Grew.store | with_reducible assumption))⟩
end Go.Proofs.Ytjnednehcjfkmaa
