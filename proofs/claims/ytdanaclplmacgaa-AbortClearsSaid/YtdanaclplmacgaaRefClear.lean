/-
  Contracts: ullageref11's moves, Clear.
-/
import Derived.Test.YtdanaclplmacgaaRefLength
namespace Go.Proofs.Ytdanaclplmacgaa
open Go.RowKit Go.Shelf
set_option maxRecDepth 100000
set_option maxHeartbeats 16000000
theorem rMoves_any (m : Mo) (w : World) : Calls Try.prog 138 #[.agg #[.int .i64 m.d.x.lo, .int .i64 m.d.x.hi, .int .i64 m.d.y.lo, .int .i64 m.d.y.hi, .int .i64 m.d.z.lo, .int .i64 m.d.z.hi], .agg #[.int .i64 m.w.x.lo, .int .i64 m.w.x.hi, .int .i64 m.w.y.lo, .int .i64 m.w.y.hi, .int .i64 m.w.z.lo, .int .i64 m.w.z.hi], .agg #[.int .i64 m.a.x.lo, .int .i64 m.a.x.hi, .int .i64 m.a.y.lo, .int .i64 m.a.y.hi, .int .i64 m.a.z.lo, .int .i64 m.a.z.hi], .int .i64 m.t, .int .i64 m.n] w fun e w' => e = .returned (.bool m.okB) ∧ Grew w w' := by
  have hF : m.okB = (m.d.okB && m.w.okB && m.a.okB && (decide (0 ≤ m.t) && decide (1 ≤ m.n) && decide (m.n ≤ 1024))) := rfl
  cases h1 : m.d.okB <;> cases h2 : m.w.okB <;> cases h3 : m.a.okB
  all_goals
    rw [h1, h2, h3] at hF
    have HF := Lib.hid hF
    clear hF
    go_enter Try.func138, Try.ntmps138
    go_wp2_with (first | (go_at_call 93; (with_reducible refine call_later (is_bool h1 (r3Box_any m.d _)) ?_); intro u) | (go_at_call 93; (with_reducible refine call_later (is_bool h2 (r3Box_any m.w _)) ?_); intro u) | (go_at_call 93; (with_reducible refine call_later (is_bool h3 (r3Box_any m.a _)) ?_); intro u) | ((with_reducible refine wp_region_later ?_ ?_ ?_); (· kernel_rfl); (· kernel_rfl); (repeat (go_big_quiet_step ((first | (go_at_call 93; (with_reducible exact call_quiet (is_bool h1 (r3Box_any m.d _)))) | (go_at_call 93; (with_reducible exact call_quiet (is_bool h2 (r3Box_any m.w _)))) | (go_at_call 93; (with_reducible exact call_quiet (is_bool h3 (r3Box_any m.a _)))))))); refine wpQuiet_nil ?_; rintro _ ⟨u, rfl⟩))
    all_goals go_ret
    all_goals exact ⟨ret_bool (by rw [HF.out, Bool.eq_iff_iff]; simp <;> omega), (by repeat (first | with_reducible exact Grew.refl _ | with_reducible apply Grew.alloc | with_reducible apply Grew.later | with_reducible apply Grew.drew | with_reducible apply Grew.store | with_reducible assumption))⟩
def rp1 (m : Mo) (k : Int) : Res := doR 0 (momentR m k)
def rp2 (m : Mo) (k : Int) : Res := doR (rp1 m k).e (momentR m (k + 1))
def rp3 (m : Mo) (k : Int) : Res := doR (rp2 m k).e (hullR (rp1 m k).s (rp2 m k).s)
def rp4 (m : Mo) (k : Int) : Res := doR (rp3 m k).e (lengthR m (rp3 m k).s)
instance s64_rp1 (m : Mo) (k : Int) : S64 (rp1 m k).s := s64_do _ _
instance s64_rp2 (m : Mo) (k : Int) : S64 (rp2 m k).s := s64_do _ _
instance s64_rp3 (m : Mo) (k : Int) : S64 (rp3 m k).s := s64_do _ _
theorem rp_law (m : Mo) (k : Int) (hm : m.fair) (h0 : 0 ≤ k) : rp4 m k = pieceR m k := by
  have e1 : rp1 m k = momentR m k := doR_ok _
  have e2 : (rp2 m k).e = pieceE m k := by unfold rp2 pieceE; rw [e1]
  by_cases h : pieceE m k = 0
  · obtain ⟨a1, a2, a3, a4⟩ := piece_span m k hm h0 h
    have e3 : rp2 m k = momentR m (k + 1) := by unfold rp2; rw [e1, a1, doR_ok]
    have e4 : rp3 m k = ⟨pieceU m k, 0⟩ := by unfold rp3; rw [e3, a2, doR_ok, e1, a3]
    unfold rp4 pieceR
    rw [e4, h]
  · have e4 : (rp3 m k).e = pieceE m k := by unfold rp3; rw [e2]; exact doR_e_ne _ h
    unfold rp4 pieceR
    rw [e4, doR_bad _ h, doR_bad _ h]
theorem piece_z (m : Mo) (k : Int) : I64 (pieceR m k).s.lo := (s64_do (pieceE m k) (lengthR m (pieceU m k))).lo
def outAt (k : Nat) (o : Int) : Int := if k = 0 then 0 else o
structure CRes where
  v : Int
  e : Int
def RetCl (r : Int × Int) (w : World) (e : Ending) (w' : World) : Prop := e = .returned (.tuple #[.int .i64 r.1, .int .i64 r.2]) ∧ Grew w w'
theorem ret_cl {a b : Int} {r : Int × Int} (h : (a, b) = r) : Ending.returned (.tuple #[.int .i64 a, .int .i64 b]) = .returned (.tuple #[.int .i64 r.1, .int .i64 r.2]) := by rw [← h]
theorem rClear_any (m : Mo) [hm : Mo64 m] (ht : I64 m.t) (w : World) : Calls Try.prog 63 #[.agg #[.int .i64 m.d.x.lo, .int .i64 m.d.x.hi, .int .i64 m.d.y.lo, .int .i64 m.d.y.hi, .int .i64 m.d.z.lo, .int .i64 m.d.z.hi], .agg #[.int .i64 m.w.x.lo, .int .i64 m.w.x.hi, .int .i64 m.w.y.lo, .int .i64 m.w.y.hi, .int .i64 m.w.z.lo, .int .i64 m.w.z.hi], .agg #[.int .i64 m.a.x.lo, .int .i64 m.a.x.hi, .int .i64 m.a.y.lo, .int .i64 m.a.y.hi, .int .i64 m.a.z.lo, .int .i64 m.a.z.hi], .int .i64 m.t, .int .i64 m.n] w (RetCl (clearR m) w) := by
  cases hok : m.okB
  · have HR := Lib.hid (show ((0, 2) : Int × Int) = clearR m by unfold clearR; rw [hok]; rfl)
    go_enter Try.func63, Try.ntmps63
    go_wp2_with (first | (go_at_call 138; (with_reducible refine call_later (is_bool hok (rMoves_any m _)) ?_); intro u) | ((with_reducible refine wp_region_later ?_ ?_ ?_); (· kernel_rfl); (· kernel_rfl); (repeat (go_big_quiet_step ((first | (go_at_call 138; (with_reducible exact call_quiet (is_bool hok (rMoves_any m _)))))))); refine wpQuiet_nil ?_; rintro _ ⟨u, rfl⟩))
    go_ret2
    exact ⟨ret_cl HR.out, (by repeat (first | with_reducible exact Grew.refl _ | with_reducible apply Grew.alloc | with_reducible apply Grew.later | with_reducible apply Grew.drew | with_reducible apply Grew.store | with_reducible assumption))⟩
  · have hfl : m.flagB = true := by unfold Mo.okB at hok; rw [Bool.and_eq_true] at hok; exact hok.2
    have Hm := Lib.hid (Mo.fair_of hfl ht)
    have hn1 : 1 ≤ m.n := Hm.out.2.2.1
    have hn2 : m.n ≤ 1024 := Hm.out.2.2.2
    have HR := Lib.hid (show clearR m = clearScan (fun k => pieceR m k) m.n.toNat 0 9223372036854775807 by unfold clearR; rw [hok]; rfl)
    clear hfl ht
    go_enter Try.func63, Try.ntmps63
    go_wp2_with (first | (go_at_call 138; (with_reducible refine call_later (is_bool hok (rMoves_any m _)) ?_); intro u) | ((with_reducible refine wp_region_later ?_ ?_ ?_); (· kernel_rfl); (· kernel_rfl); (repeat (go_big_quiet_step ((first | (go_at_call 138; (with_reducible exact call_quiet (is_bool hok (rMoves_any m _)))))))); refine wpQuiet_nil ?_; rintro _ ⟨u, rfl⟩))
    have nwc : NewFor w u.world.heap.size := inferInstance
    go_loopw [14, 15] (fun o t wr => ∃ (k : Nat) (x : Int), t = .int .i64 k ∧ o = .int .i64 (outAt k x) ∧ (k : Int) ≤ m.n ∧ Hid (clearR m = clearScan (fun k => pieceR m k) (m.n.toNat - k) k x) ∧ Hid (I64 x ∧ (k = 0 → x = 9223372036854775807)) ∧ Grew u.world wr ∧ BoxAt wr u.world.heap.size [.int .i64 0]) (fun _ t _ => m.n.toNat - (intOf t).toNat)
    case atStart => exact ⟨0, 9223372036854775807, rfl, rfl, by omega, HR, Lib.hid ⟨by unfold I64; omega, fun _ => rfl⟩, (by repeat (first | with_reducible exact Grew.refl _ | with_reducible apply Grew.alloc | with_reducible apply Grew.later | with_reducible apply Grew.drew | with_reducible apply Grew.store | with_reducible assumption)), boxAt_one (by go_simp) (by go_simp)⟩
    case round =>
      obtain ⟨k, x, rfl, rfl, hk, Hsc, Hx, hg, hC⟩ := hrel
      obtain ⟨z, rfl⟩ := later_of hg
      clear hg
      have hC_0 := (hC 0 _ rfl).1
      have hCf0 := (hC 0 _ rfl).2
      have hCi0 : HasCell (z.world) (u.world.heap.size) 0 := ⟨_, hC_0⟩
      have hCb : BlockIn (z.world) (u.world.heap.size) := BlockIn.of_cell hC_0
      clear hC
      by_cases hlt : (k : Int) < m.n
      · have hN : N64 (k : Int) := ⟨by unfold I64; omega⟩
        have hN1 : N64 ((k : Int) + 1) := ⟨by unfold I64; omega⟩
        have HA := Lib.hid (fun w hc hf => (show Calls Try.prog 140 #[.pointer (some ⟨u.world.heap.size, 0, none⟩), .int .i64 m.t, .int .i64 (k : Int), .int .i64 m.n] w (RetC u.world.heap.size (.agg #[.int .i64 ((rp1 m k).s).lo, .int .i64 ((rp1 m k).s).hi]) (rp1 m k).e w) from rMoment_any _ 0 m k Hm.out w hc hf))
        have HB := Lib.hid (fun w hc hf => (show Calls Try.prog 140 #[.pointer (some ⟨u.world.heap.size, 0, none⟩), .int .i64 m.t, .int .i64 ((k : Int) + 1), .int .i64 m.n] w (RetC u.world.heap.size (.agg #[.int .i64 ((rp2 m k).s).lo, .int .i64 ((rp2 m k).s).hi]) (rp2 m k).e w) from rMoment_any _ (rp1 m k).e m (k + 1) Hm.out w hc hf))
        have HH := Lib.hid (fun w hc hf => (show Calls Try.prog 139 #[.pointer (some ⟨u.world.heap.size, 0, none⟩), .agg #[.int .i64 ((rp1 m k).s).lo, .int .i64 ((rp1 m k).s).hi], .agg #[.int .i64 ((rp2 m k).s).lo, .int .i64 ((rp2 m k).s).hi]] w (RetC u.world.heap.size (.agg #[.int .i64 ((rp3 m k).s).lo, .int .i64 ((rp3 m k).s).hi]) (rp3 m k).e w) from rcHull_any _ (rp2 m k).e _ _ w hc hf))
        have HL := Lib.hid (fun (w : World) (hc : w.cell? ⟨u.world.heap.size, 0, none⟩ = some (.int .i64 (rp3 m k).e)) (hf : w.frozen? ⟨u.world.heap.size, 0, none⟩ = false) => (show Calls Try.prog 141 #[.pointer (some ⟨u.world.heap.size, 0, none⟩), .agg #[.int .i64 m.d.x.lo, .int .i64 m.d.x.hi, .int .i64 m.d.y.lo, .int .i64 m.d.y.hi, .int .i64 m.d.z.lo, .int .i64 m.d.z.hi], .agg #[.int .i64 m.w.x.lo, .int .i64 m.w.x.hi, .int .i64 m.w.y.lo, .int .i64 m.w.y.hi, .int .i64 m.w.z.lo, .int .i64 m.w.z.hi], .agg #[.int .i64 m.a.x.lo, .int .i64 m.a.x.hi, .int .i64 m.a.y.lo, .int .i64 m.a.y.hi, .int .i64 m.a.z.lo, .int .i64 m.a.z.hi], .agg #[.int .i64 ((rp3 m k).s).lo, .int .i64 ((rp3 m k).s).hi]] w (RetC u.world.heap.size (.agg #[.int .i64 ((pieceR m k).s).lo, .int .i64 ((pieceR m k).s).hi]) (pieceR m k).e w) from by
          rw [← rp_law m k Hm.out (by omega)]
          exact rLength_any _ (rp3 m k).e m _ w hc hf))
        have hst : clearScan (fun k => pieceR m k) (m.n.toNat - k) k x = if (pieceR m k).e = 0 then clearScan (fun k => pieceR m k) (m.n.toNat - (k + 1)) (k + 1) (imin x (pieceR m k).s.lo) else (0, (pieceR m k).e) := by
          rw [show m.n.toNat - k = (m.n.toNat - (k + 1)) + 1 by omega]
          rfl
        have Hpz := Lib.hid (piece_z m k)
        have Himin := Lib.hid (show I64 (imin x (pieceR m k).s.lo) ∧ (k + 1 = 0 → imin x (pieceR m k).s.lo = 9223372036854775807) from ⟨by unfold imin; split; exact Hpz.out; exact Hx.out.1, fun h => by omega⟩)
        by_cases he : (pieceR m k).e = 0
        · rw [if_pos he, ← Hsc.out] at hst
          have Hst := Lib.hid hst
          have he' : ((pieceR m k).e != 0) = false := by simp [he]
          have He := Lib.hid he
          clear he hst
          rcases Nat.eq_zero_or_pos k with hk0 | hk0
          · have k0 : ((k : Int) == 0) = true := by simp [hk0]
            have Hmin := Lib.hid (show outAt (k + 1) (imin x (pieceR m k).s.lo) = (pieceR m k).s.lo by
              have h1 := Hx.out.2 hk0
              have h2 := (Hpz.out).2
              unfold outAt imin
              rw [if_neg (by omega), h1]
              split <;> omega)
            clear hk0
            go_wp2_with (first | (go_at_call 140; (with_reducible refine call_calc (HA.out _ ?_ ?_) ?_); (· go_simp); (· go_simp); intro u1) | (go_at_call 140; (with_reducible refine call_calc (HB.out _ ?_ ?_) ?_); (· go_simp); (· go_simp); intro u2) | (go_at_call 139; (with_reducible refine call_calc (HH.out _ ?_ ?_) ?_); (· go_simp); (· go_simp); intro u3) | (go_at_call 141; (with_reducible refine call_calc (HL.out _ ?_ ?_) ?_); (· go_simp); (· go_simp); intro u4))
            go_roundw
            case rel => exact ⟨k + 1, imin x (pieceR m k).s.lo, by go_num, by rw [Hmin.out], by omega, Hst, Himin, (by repeat (first | with_reducible exact Grew.refl _ | with_reducible apply Grew.alloc | with_reducible apply Grew.later | with_reducible apply Grew.drew | with_reducible apply Grew.store | with_reducible assumption)), boxAt_one (by go_simp; exact He.out) (by go_simp)⟩
            case measure => simp [intOf]; omega
          · have k0 : ((k : Int) == 0) = false := by simp; omega
            have hkx : outAt k x = x := by unfold outAt; rw [if_neg (by omega)]
            rw [hkx]
            clear hkx
            rcases bool_or (decide ((pieceR m k).s.lo < x)) with hc | hc
            · have Hmin2 := Lib.hid (show imin x (pieceR m k).s.lo = x by unfold imin; rw [if_neg (by simpa using hc)])
              go_wp2_with (first | (go_at_call 140; (with_reducible refine call_calc (HA.out _ ?_ ?_) ?_); (· go_simp); (· go_simp); intro u1) | (go_at_call 140; (with_reducible refine call_calc (HB.out _ ?_ ?_) ?_); (· go_simp); (· go_simp); intro u2) | (go_at_call 139; (with_reducible refine call_calc (HH.out _ ?_ ?_) ?_); (· go_simp); (· go_simp); intro u3) | (go_at_call 141; (with_reducible refine call_calc (HL.out _ ?_ ?_) ?_); (· go_simp); (· go_simp); intro u4))
              go_roundw
              case rel => exact ⟨k + 1, imin x (pieceR m k).s.lo, by go_num, by unfold outAt; rw [if_neg (by omega), Hmin2.out], by omega, Hst, Himin, (by repeat (first | with_reducible exact Grew.refl _ | with_reducible apply Grew.alloc | with_reducible apply Grew.later | with_reducible apply Grew.drew | with_reducible apply Grew.store | with_reducible assumption)), boxAt_one (by go_simp; exact He.out) (by go_simp)⟩
              case measure => simp [intOf]; omega
            · have Hmin2 := Lib.hid (show imin x (pieceR m k).s.lo = (pieceR m k).s.lo by unfold imin; rw [if_pos (by simpa using hc)])
              go_wp2_with (first | (go_at_call 140; (with_reducible refine call_calc (HA.out _ ?_ ?_) ?_); (· go_simp); (· go_simp); intro u1) | (go_at_call 140; (with_reducible refine call_calc (HB.out _ ?_ ?_) ?_); (· go_simp); (· go_simp); intro u2) | (go_at_call 139; (with_reducible refine call_calc (HH.out _ ?_ ?_) ?_); (· go_simp); (· go_simp); intro u3) | (go_at_call 141; (with_reducible refine call_calc (HL.out _ ?_ ?_) ?_); (· go_simp); (· go_simp); intro u4))
              go_roundw
              case rel => exact ⟨k + 1, imin x (pieceR m k).s.lo, by go_num, by unfold outAt; rw [if_neg (by omega), Hmin2.out], by omega, Hst, Himin, (by repeat (first | with_reducible exact Grew.refl _ | with_reducible apply Grew.alloc | with_reducible apply Grew.later | with_reducible apply Grew.drew | with_reducible apply Grew.store | with_reducible assumption)), boxAt_one (by go_simp; exact He.out) (by go_simp)⟩
              case measure => simp [intOf]; omega
        · rw [if_neg he, ← Hsc.out] at hst
          have Hst := Lib.hid hst
          have he' : ((pieceR m k).e != 0) = true := by simp [he]
          clear he hst
          go_wp2_with (first | (go_at_call 140; (with_reducible refine call_calc (HA.out _ ?_ ?_) ?_); (· go_simp); (· go_simp); intro u1) | (go_at_call 140; (with_reducible refine call_calc (HB.out _ ?_ ?_) ?_); (· go_simp); (· go_simp); intro u2) | (go_at_call 139; (with_reducible refine call_calc (HH.out _ ?_ ?_) ?_); (· go_simp); (· go_simp); intro u3) | (go_at_call 141; (with_reducible refine call_calc (HL.out _ ?_ ?_) ?_); (· go_simp); (· go_simp); intro u4))
          go_region
          all_goals go_wp2
          all_goals go_ret2
          all_goals exact ⟨ret_cl (by rw [Hst.out]), (by repeat (first | with_reducible exact Grew.refl _ | with_reducible apply Grew.alloc | with_reducible apply Grew.later | with_reducible apply Grew.drew | with_reducible apply Grew.store | with_reducible assumption))⟩
      · have hkn : (k : Int) = m.n := by omega
        have Hend := Lib.hid (show (outAt k x, 0) = clearR m by
          rw [Hsc.out, show m.n.toNat - k = 0 by omega]
          unfold outAt
          rw [if_neg (by omega)]
          rfl)
        clear hkn
        go_wp2
        go_ret2
        exact ⟨ret_cl Hend.out, (by repeat (first | with_reducible exact Grew.refl _ | with_reducible apply Grew.alloc | with_reducible apply Grew.later | with_reducible apply Grew.drew | with_reducible apply Grew.store | with_reducible assumption))⟩
end Go.Proofs.Ytdanaclplmacgaa
