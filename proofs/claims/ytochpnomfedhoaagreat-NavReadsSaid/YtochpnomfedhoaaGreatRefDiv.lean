/-
  Contracts: ullageref01's divide, Quotient, over.
-/
import Derived.Test.YtochpnomfedhoaaGreatDivLaw
import Derived.Test.YtochpnomfedhoaaGreatLex
namespace Go.Proofs.YtochpnomfedhoaaGreat
open Go.RowKit
set_option maxRecDepth 100000
set_option maxHeartbeats 2000000
/-- What is handed back as two wide integers. -/
theorem ret_w2 {x y x' y' : Int} {r r' : W} (h : (⟨x, y⟩ : W) = r) (h' : (⟨x', y'⟩ : W) = r') :
    Ending.returned (.tuple #[.agg #[.int .i64 x, .int .u64 y], .agg #[.int .i64 x', .int .u64 y']]) = .returned (.tuple #[.agg #[.int .i64 r.h, .int .u64 r.l], .agg #[.int .i64 (r').h, .int .u64 (r').l]]) := by rw [← h, ← h']
theorem mkW_one : mkW 1 = ⟨0, 1⟩ := (mkW_of (by unfold U64; omega) (by omega)).symm
theorem mkW_zero : mkW 0 = ⟨0, 0⟩ := (mkW_of (by unfold U64; omega) (by omega)).symm
theorem wPlusOne_any (x : Int) (hx : R128 x) (hs : R128 (x + 1)) (w : World) : Calls Tryz.prog 138 #[.agg #[.int .i64 (mkW x).h, .int .u64 (mkW x).l], .agg #[.int .i64 0, .int .u64 1]] w fun e w' => e = .returned (.agg #[.int .i64 (mkW (x + 1)).h, .int .u64 (mkW (x + 1)).l]) ∧ Grew w w' := by
  have := wPlus_any x 1 hx (by unfold R128; omega) hs w
  rwa [mkW_one] at this
theorem wSameZero_any (x : Int) (hx : R128 x) (w : World) : Calls Tryz.prog 186 #[.agg #[.int .i64 (mkW x).h, .int .u64 (mkW x).l], .agg #[.int .i64 0, .int .u64 0]] w fun e w' => e = .returned (.bool (decide (x = 0))) ∧ Grew w w' := by
  have := wSame_any x 0 hx (by unfold R128; omega) w
  rwa [mkW_zero] at this
theorem top_start (x : Int) (h0 : 0 ≤ x) (hx : R128 x) : x / 2 ^ (127 + 1) = 0 := by
  apply Int.ediv_eq_zero_of_lt h0
  have : (2 : Int) ^ (127 + 1) = 340282366920938463463374607431768211456 := by decide +kernel
  unfold R128 at hx
  omega
theorem top_step (x : Int) (k : Nat) (h : x / 2 ^ (k + 1) = 0) (hb : decide (bitZ x k = 1) = false) : x / 2 ^ k = 0 := by
  have := bitZ_step x k
  have h2 := bitZ_bd x k
  simp at hb
  omega
def divRound (x b : Int) (w : World) (B7 B8 : Nat) (n : Nat) (wr : World) : Prop := Grew w wr ∧ BoxAt wr w.heap.size [.int .i64 (mkW x).h, .int .u64 (mkW x).l] ∧ BoxAt wr (w.heap.size + 1) [.int .i64 (mkW b).h, .int .u64 (mkW b).l] ∧ BoxAt wr (w.heap.size + 1 + 1) [.int .i64 0, .int .u64 0] ∧ BoxAt wr (w.heap.size + 1 + 1 + 1) [.int .i64 0, .int .u64 0] ∧
  BoxAt wr B7 [.int .i64 (mkW (x / 2 ^ n / b)).h, .int .u64 (mkW (x / 2 ^ n / b)).l] ∧ BoxAt wr B8 [.int .i64 (mkW (x / 2 ^ n % b)).h, .int .u64 (mkW (x / 2 ^ n % b)).l]
theorem wDivide_short (x b : Int) (h0 : 0 ≤ x) (hx : x < 18446744073709551616) (hb0 : 0 < b) (hb : b < 18446744073709551616) (w : World) : Calls Tryz.prog 185 #[.agg #[.int .i64 (mkW x).h, .int .u64 (mkW x).l], .agg #[.int .i64 (mkW b).h, .int .u64 (mkW b).l]] w fun e w' => e = .returned (.tuple #[.agg #[.int .i64 (mkW (x / b)).h, .int .u64 (mkW (x / b)).l], .agg #[.int .i64 (mkW (x % b)).h, .int .u64 (mkW (x % b)).l]]) ∧ Grew w w' := by
  have e1 : mkW x = ⟨0, x⟩ := (mkW_of (by unfold U64; omega) (by omega)).symm
  have e2 : mkW b = ⟨0, b⟩ := (mkW_of (by unfold U64; omega) (by omega)).symm
  have h1 := Int.ediv_nonneg h0 (Int.le_of_lt hb0)
  have h2 := Int.ediv_le_self b h0
  have h3 := Int.emod_nonneg x (show b ≠ 0 by omega)
  have h4 := Int.emod_lt_of_pos x hb0
  have Hq := Lib.hid (show (⟨0, x / b⟩ : W) = mkW (x / b) from mkW_of (by unfold U64; omega) (by omega))
  have Hr := Lib.hid (show (⟨0, x % b⟩ : W) = mkW (x % b) from mkW_of (by unfold U64; omega) (by omega))
  have hne : (b == 0) = false := by rw [beq_eq_false_iff_ne]; omega
  rw [e1, e2]
  clear e1 e2
  go_enter Tryz.func185, Tryz.ntmps185
  go_wp2
  go_region
  all_goals go_wp2
  all_goals
    refine bodyPost_ret (by (simp [results, Tryz.results185, go_sem] <;> rfl)) rfl ?_
    exact ⟨ret_w2 Hq.out Hr.out, (by repeat (first | with_reducible exact Grew.refl _ | with_reducible apply Grew.alloc | with_reducible apply Grew.later | with_reducible apply Grew.drew | with_reducible apply Grew.store | with_reducible assumption))⟩
theorem mkW_hi (x : Int) : (mkW x).h = x / 18446744073709551616 := rfl
set_option maxHeartbeats 8000000 in
theorem wDivide_long (x b : Int) (h0 : 0 ≤ x) (hx : R128 x) (hb0 : 0 < b) (hb : b ≤ 42535295865117307932921825928971026432) (hlong : (((mkW x).h == 0) && ((mkW b).h == 0)) = false) (w : World) : Calls Tryz.prog 185 #[.agg #[.int .i64 (mkW x).h, .int .u64 (mkW x).l], .agg #[.int .i64 (mkW b).h, .int .u64 (mkW b).l]] w fun e w' => e = .returned (.tuple #[.agg #[.int .i64 (mkW (x / b)).h, .int .u64 (mkW (x / b)).l], .agg #[.int .i64 (mkW (x % b)).h, .int .u64 (mkW (x % b)).l]]) ∧ Grew w w' := by
  have Hx := Lib.hid hx
  have Hb := Lib.hid (show R128 b by unfold R128; omega)
  have Hnb := Lib.hid (show R128 (-b) by unfold R128; omega)
  have Htop := Lib.hid (top_start x h0 hx)
  have Hbd := Lib.hid (fun i => quot_bd x b i h0 hb0)
  have Hstep := Lib.hid (fun i t => long_step x b i hb0 t)
  have Hbit := Lib.hid (fun (i : Nat) (hi : i ≤ 127) w => wBit_any x i h0 hx hi w)
  have H0 := Lib.hid h0
  have Hbb := Lib.hid hb
  have Hb0 := Lib.hid hb0
  clear h0 hx hb hb0
  rcases (show (((mkW x).h == 0) = false) ∨ (((mkW x).h == 0) = true ∧ ((mkW b).h == 0) = false) by cases h1 : ((mkW x).h == 0) <;> cases h2 : ((mkW b).h == 0) <;> simp_all) with hl | ⟨hl1, hl2⟩
  all_goals
    clear hlong
    go_enter Tryz.func185, Tryz.ntmps185
    go_wp2
    go_loopw [6] (fun t wr => ∃ k : Nat, t = .int .i64 k ∧ k ≤ 127 ∧ Hid (x / 2 ^ (k + 1) = 0) ∧ Grew w wr ∧ BoxAt wr w.heap.size [.int .i64 (mkW x).h, .int .u64 (mkW x).l] ∧ BoxAt wr (w.heap.size + 1) [.int .i64 (mkW b).h, .int .u64 (mkW b).l] ∧ BoxAt wr (w.heap.size + 1 + 1) [.int .i64 0, .int .u64 0] ∧ BoxAt wr (w.heap.size + 1 + 1 + 1) [.int .i64 0, .int .u64 0]) (fun t _ => (intOf t).toNat)
    case atStart => exact ⟨127, rfl, by omega, Htop, (by repeat (first | with_reducible exact Grew.refl _ | with_reducible apply Grew.alloc | with_reducible apply Grew.later | with_reducible apply Grew.drew | with_reducible apply Grew.store | with_reducible assumption)), boxAt_two (by go_simp) (by go_simp) (by go_simp) (by go_simp), boxAt_two (by go_simp) (by go_simp) (by go_simp) (by go_simp), boxAt_two (by go_simp) (by go_simp) (by go_simp) (by go_simp), boxAt_two (by go_simp) (by go_simp) (by go_simp) (by go_simp)⟩
    case round =>
      obtain ⟨k, rfl, hk, Hk, hg, hA, hB, hC, hD⟩ := hrel
      obtain ⟨z, rfl⟩ := later_of hg
      clear hg
      have hA_0 := (hA 0 _ rfl).1
      have hAf0 := (hA 0 _ rfl).2
      have hAi0 : HasCell (z.world) (w.heap.size) 0 := ⟨_, hA_0⟩
      have hA_1 := (hA 1 _ rfl).1
      have hAf1 := (hA 1 _ rfl).2
      have hAi1 : HasCell (z.world) (w.heap.size) 1 := ⟨_, hA_1⟩
      have hAb : BlockIn (z.world) (w.heap.size) := BlockIn.of_cell hA_0
      clear hA
      have hB_0 := (hB 0 _ rfl).1
      have hBf0 := (hB 0 _ rfl).2
      have hBi0 : HasCell (z.world) (w.heap.size + 1) 0 := ⟨_, hB_0⟩
      have hB_1 := (hB 1 _ rfl).1
      have hBf1 := (hB 1 _ rfl).2
      have hBi1 : HasCell (z.world) (w.heap.size + 1) 1 := ⟨_, hB_1⟩
      have hBb : BlockIn (z.world) (w.heap.size + 1) := BlockIn.of_cell hB_0
      clear hB
      have hC_0 := (hC 0 _ rfl).1
      have hCf0 := (hC 0 _ rfl).2
      have hCi0 : HasCell (z.world) (w.heap.size + 1 + 1) 0 := ⟨_, hC_0⟩
      have hC_1 := (hC 1 _ rfl).1
      have hCf1 := (hC 1 _ rfl).2
      have hCi1 : HasCell (z.world) (w.heap.size + 1 + 1) 1 := ⟨_, hC_1⟩
      have hCb : BlockIn (z.world) (w.heap.size + 1 + 1) := BlockIn.of_cell hC_0
      clear hC
      have hD_0 := (hD 0 _ rfl).1
      have hDf0 := (hD 0 _ rfl).2
      have hDi0 : HasCell (z.world) (w.heap.size + 1 + 1 + 1) 0 := ⟨_, hD_0⟩
      have hD_1 := (hD 1 _ rfl).1
      have hDf1 := (hD 1 _ rfl).2
      have hDi1 : HasCell (z.world) (w.heap.size + 1 + 1 + 1) 1 := ⟨_, hD_1⟩
      have hDb : BlockIn (z.world) (w.heap.size + 1 + 1 + 1) := BlockIn.of_cell hD_0
      clear hD
      have HbK := Lib.hid (Hbit.out k hk)
      by_cases hgo : 0 < k ∧ decide (bitZ x k = 1) = false
      · obtain ⟨hk0, hbit⟩ := hgo
        have Hk2 := Lib.hid (top_step x k Hk.out hbit)
        have Hbt := Lib.hid hbit
        clear hbit
        go_wp2_with (first | (go_at_call 188; (with_reducible refine call_later (is_bool Hbt.out (HbK.out _)) ?_); intro u) | ((with_reducible refine wp_region_later ?_ ?_ ?_); (· kernel_rfl); (· kernel_rfl); (repeat (go_big_quiet_step ((first | (go_at_call 188; (with_reducible exact call_quiet (is_bool Hbt.out (HbK.out _)))))))); refine wpQuiet_nil ?_; rintro _ ⟨u, rfl⟩))
        go_roundw
        case rel => exact ⟨k - 1, by go_num, by omega, Lib.hid (by rw [show k - 1 + 1 = k by omega]; exact Hk2.out), (by repeat (first | with_reducible exact Grew.refl _ | with_reducible apply Grew.alloc | with_reducible apply Grew.later | with_reducible apply Grew.drew | with_reducible apply Grew.store | with_reducible assumption)), boxAt_two (by go_simp) (by go_simp) (by go_simp) (by go_simp), boxAt_two (by go_simp) (by go_simp) (by go_simp) (by go_simp), boxAt_two (by go_simp) (by go_simp) (by go_simp) (by go_simp), boxAt_two (by go_simp) (by go_simp) (by go_simp) (by go_simp)⟩
        case measure => simp [intOf] <;> omega
      · have hgo' : k ≤ 0 ∨ (0 < k ∧ decide (bitZ x k = 1) = true) := by
          rcases Nat.eq_zero_or_pos k with h | h
          · exact .inl (by omega)
          · right
            refine ⟨h, ?_⟩
            cases hb : decide (bitZ x k = 1)
            · exact absurd ⟨h, hb⟩ hgo
            · rfl
        clear hgo
        rcases hgo' with hk0 | ⟨hk0, hbit⟩
        · go_wp2
          have nu : w.heap.size + 1 + 1 + 1 + 1 ≤ z.world.heap.size := by have h1 := hDb.lt; have h2 := Below.size z.grew; (try simp at h2); omega
          have : Apart (w.heap.size) (w.heap.size + 1) := ⟨by omega⟩
          have : Apart (w.heap.size) (w.heap.size + 1 + 1) := ⟨by omega⟩
          have : Apart (w.heap.size) (w.heap.size + 1 + 1 + 1) := ⟨by omega⟩
          have : Apart (w.heap.size) (z.world.heap.size) := ⟨by omega⟩
          have : Apart (w.heap.size) (z.world.heap.size + 1) := ⟨by omega⟩
          have : Apart (w.heap.size + 1) (w.heap.size) := ⟨by omega⟩
          have : Apart (w.heap.size + 1) (w.heap.size + 1 + 1) := ⟨by omega⟩
          have : Apart (w.heap.size + 1) (w.heap.size + 1 + 1 + 1) := ⟨by omega⟩
          have : Apart (w.heap.size + 1) (z.world.heap.size) := ⟨by omega⟩
          have : Apart (w.heap.size + 1) (z.world.heap.size + 1) := ⟨by omega⟩
          have : Apart (w.heap.size + 1 + 1) (w.heap.size) := ⟨by omega⟩
          have : Apart (w.heap.size + 1 + 1) (w.heap.size + 1) := ⟨by omega⟩
          have : Apart (w.heap.size + 1 + 1) (w.heap.size + 1 + 1 + 1) := ⟨by omega⟩
          have : Apart (w.heap.size + 1 + 1) (z.world.heap.size) := ⟨by omega⟩
          have : Apart (w.heap.size + 1 + 1) (z.world.heap.size + 1) := ⟨by omega⟩
          have : Apart (w.heap.size + 1 + 1 + 1) (w.heap.size) := ⟨by omega⟩
          have : Apart (w.heap.size + 1 + 1 + 1) (w.heap.size + 1) := ⟨by omega⟩
          have : Apart (w.heap.size + 1 + 1 + 1) (w.heap.size + 1 + 1) := ⟨by omega⟩
          have : Apart (w.heap.size + 1 + 1 + 1) (z.world.heap.size) := ⟨by omega⟩
          have : Apart (w.heap.size + 1 + 1 + 1) (z.world.heap.size + 1) := ⟨by omega⟩
          have : Apart (z.world.heap.size) (w.heap.size) := ⟨by omega⟩
          have : Apart (z.world.heap.size) (w.heap.size + 1) := ⟨by omega⟩
          have : Apart (z.world.heap.size) (w.heap.size + 1 + 1) := ⟨by omega⟩
          have : Apart (z.world.heap.size) (w.heap.size + 1 + 1 + 1) := ⟨by omega⟩
          have : Apart (z.world.heap.size) (z.world.heap.size + 1) := ⟨by omega⟩
          have : Apart (z.world.heap.size + 1) (w.heap.size) := ⟨by omega⟩
          have : Apart (z.world.heap.size + 1) (w.heap.size + 1) := ⟨by omega⟩
          have : Apart (z.world.heap.size + 1) (w.heap.size + 1 + 1) := ⟨by omega⟩
          have : Apart (z.world.heap.size + 1) (w.heap.size + 1 + 1 + 1) := ⟨by omega⟩
          have : Apart (z.world.heap.size + 1) (z.world.heap.size) := ⟨by omega⟩
          have nw7 : NewFor w z.world.heap.size := ⟨by omega⟩
          have nw8 : NewFor w (z.world.heap.size + 1) := ⟨by omega⟩
          have Hst := Lib.hid (show mkW (x / 2 ^ (k + 1) / b) = ⟨0, 0⟩ ∧ mkW (x / 2 ^ (k + 1) % b) = ⟨0, 0⟩ by rw [Hk.out, Int.zero_ediv, Int.zero_emod]; exact ⟨mkW_zero, mkW_zero⟩)
          clear nu
          go_wp2
          go_loopw [9] (fun t wr => ∃ n : Nat, t = .int .i64 ((n : Int) - 1) ∧ n ≤ 128 ∧ divRound x b w z.world.heap.size (z.world.heap.size + 1) n wr) (fun t _ => (intOf t + 1).toNat)
          case atStart => exact ⟨k + 1, by go_num, by omega, (by repeat (first | with_reducible exact Grew.refl _ | with_reducible apply Grew.alloc | with_reducible apply Grew.later | with_reducible apply Grew.drew | with_reducible apply Grew.store | with_reducible assumption)), boxAt_two (by go_simp) (by go_simp) (by go_simp) (by go_simp), boxAt_two (by go_simp) (by go_simp) (by go_simp) (by go_simp), boxAt_two (by go_simp) (by go_simp) (by go_simp) (by go_simp), boxAt_two (by go_simp) (by go_simp) (by go_simp) (by go_simp), by rw [Hst.out.1]; exact boxAt_two (by go_simp) (by go_simp) (by go_simp) (by go_simp), by rw [Hst.out.2]; exact boxAt_two (by go_simp) (by go_simp) (by go_simp) (by go_simp)⟩
          case round =>
            obtain ⟨n, rfl, hn, hg, hA, hB, hC, hD, hQ, hR⟩ := hrel
            obtain ⟨y, rfl⟩ := later_of hg
            clear hg
            have hA_0 := (hA 0 _ rfl).1
            have hAf0 := (hA 0 _ rfl).2
            have hAi0 : HasCell (y.world) (w.heap.size) 0 := ⟨_, hA_0⟩
            have hA_1 := (hA 1 _ rfl).1
            have hAf1 := (hA 1 _ rfl).2
            have hAi1 : HasCell (y.world) (w.heap.size) 1 := ⟨_, hA_1⟩
            have hAb : BlockIn (y.world) (w.heap.size) := BlockIn.of_cell hA_0
            clear hA
            have hB_0 := (hB 0 _ rfl).1
            have hBf0 := (hB 0 _ rfl).2
            have hBi0 : HasCell (y.world) (w.heap.size + 1) 0 := ⟨_, hB_0⟩
            have hB_1 := (hB 1 _ rfl).1
            have hBf1 := (hB 1 _ rfl).2
            have hBi1 : HasCell (y.world) (w.heap.size + 1) 1 := ⟨_, hB_1⟩
            have hBb : BlockIn (y.world) (w.heap.size + 1) := BlockIn.of_cell hB_0
            clear hB
            have hC_0 := (hC 0 _ rfl).1
            have hCf0 := (hC 0 _ rfl).2
            have hCi0 : HasCell (y.world) (w.heap.size + 1 + 1) 0 := ⟨_, hC_0⟩
            have hC_1 := (hC 1 _ rfl).1
            have hCf1 := (hC 1 _ rfl).2
            have hCi1 : HasCell (y.world) (w.heap.size + 1 + 1) 1 := ⟨_, hC_1⟩
            have hCb : BlockIn (y.world) (w.heap.size + 1 + 1) := BlockIn.of_cell hC_0
            clear hC
            have hD_0 := (hD 0 _ rfl).1
            have hDf0 := (hD 0 _ rfl).2
            have hDi0 : HasCell (y.world) (w.heap.size + 1 + 1 + 1) 0 := ⟨_, hD_0⟩
            have hD_1 := (hD 1 _ rfl).1
            have hDf1 := (hD 1 _ rfl).2
            have hDi1 : HasCell (y.world) (w.heap.size + 1 + 1 + 1) 1 := ⟨_, hD_1⟩
            have hDb : BlockIn (y.world) (w.heap.size + 1 + 1 + 1) := BlockIn.of_cell hD_0
            clear hD
            cases n with
            | zero =>
              rw [Int.pow_zero, Int.ediv_one] at hQ hR
              have hQ_0 := (hQ 0 _ rfl).1
              have hQf0 := (hQ 0 _ rfl).2
              have hQi0 : HasCell (y.world) (z.world.heap.size) 0 := ⟨_, hQ_0⟩
              have hQ_1 := (hQ 1 _ rfl).1
              have hQf1 := (hQ 1 _ rfl).2
              have hQi1 : HasCell (y.world) (z.world.heap.size) 1 := ⟨_, hQ_1⟩
              have hQb : BlockIn (y.world) (z.world.heap.size) := BlockIn.of_cell hQ_0
              clear hQ
              have hR_0 := (hR 0 _ rfl).1
              have hRf0 := (hR 0 _ rfl).2
              have hRi0 : HasCell (y.world) (z.world.heap.size + 1) 0 := ⟨_, hR_0⟩
              have hR_1 := (hR 1 _ rfl).1
              have hRf1 := (hR 1 _ rfl).2
              have hRi1 : HasCell (y.world) (z.world.heap.size + 1) 1 := ⟨_, hR_1⟩
              have hRb : BlockIn (y.world) (z.world.heap.size + 1) := BlockIn.of_cell hR_0
              clear hR
              go_wp2
              go_region
              all_goals go_wp2
              all_goals
                refine bodyPost_ret (by (simp [results, Tryz.results185, go_sem] <;> rfl)) rfl ?_
                exact ⟨rfl, (by repeat (first | with_reducible exact Grew.refl _ | with_reducible apply Grew.alloc | with_reducible apply Grew.later | with_reducible apply Grew.drew | with_reducible apply Grew.store | with_reducible assumption))⟩
            | succ i =>
              have hQ_0 := (hQ 0 _ rfl).1
              have hQf0 := (hQ 0 _ rfl).2
              have hQi0 : HasCell (y.world) (z.world.heap.size) 0 := ⟨_, hQ_0⟩
              have hQ_1 := (hQ 1 _ rfl).1
              have hQf1 := (hQ 1 _ rfl).2
              have hQi1 : HasCell (y.world) (z.world.heap.size) 1 := ⟨_, hQ_1⟩
              have hQb : BlockIn (y.world) (z.world.heap.size) := BlockIn.of_cell hQ_0
              clear hQ
              have hR_0 := (hR 0 _ rfl).1
              have hRf0 := (hR 0 _ rfl).2
              have hRi0 : HasCell (y.world) (z.world.heap.size + 1) 0 := ⟨_, hR_0⟩
              have hR_1 := (hR 1 _ rfl).1
              have hRf1 := (hR 1 _ rfl).2
              have hRi1 : HasCell (y.world) (z.world.heap.size + 1) 1 := ⟨_, hR_1⟩
              have hRb : BlockIn (y.world) (z.world.heap.size + 1) := BlockIn.of_cell hR_0
              clear hR
              have hi : ((i + 1 : Nat) : Int) - 1 = i := by omega
              rw [hi]
              clear hi
              obtain ⟨q0, q1, r0, r1, r2⟩ := Hbd.out (i + 1)
              have hb2 := Hbb.out
              have hx2 := Hx.out
              unfold R128 at hx2
              have hst := Hstep.out i
              have Hn := Lib.hid (Hbd.out i)
              have HbI := Lib.hid (Hbit.out i (by omega))
              generalize x / 2 ^ (i + 1) / b = q at *
              generalize x / 2 ^ (i + 1) % b = r at *
              have HH := Lib.hid (show ∀ t, t = r + r + bitZ x i → (t < b → x / 2 ^ i / b = q + q ∧ x / 2 ^ i % b = t) ∧ (b ≤ t → x / 2 ^ i / b = q + q + 1 ∧ x / 2 ^ i % b = t + -b) by
                intro t ht
                have h := hst t (by omega)
                exact ⟨fun k => ⟨by rw [(h.1 k).1]; omega, (h.1 k).2⟩, fun k => ⟨by rw [(h.2 k).1]; omega, by rw [(h.2 k).2]; omega⟩⟩)
              have Hq := Lib.hid (show R128 q by unfold R128; omega)
              have Hr := Lib.hid (show R128 r by unfold R128; omega)
              have Hrr := Lib.hid (show R128 (r + r) by unfold R128; omega)
              have Hrs := Lib.hid (show R128 (r + r + 1) by unfold R128; omega)
              have Hrm := Lib.hid (show R128 (r + r + -b) by unfold R128; omega)
              have Hrn := Lib.hid (show R128 (r + r + 1 + -b) by unfold R128; omega)
              have Hqx := Lib.hid q0
              clear r1 r0 r2 q0 q1 hst hb2 hx2
              have HT1 := Lib.hid (fun w => wTwice_any r Hr.out Hrr.out w)
              have HM := Lib.hid (fun w => wMinus_any b Hb.out Hnb.out w)
              have HP1 := Lib.hid (fun w => wPlusOne_any (r + r) Hrr.out Hrs.out w)
              rcases bool_or (decide (bitZ x i = 1)) with hbit | hbit
              · have hbz : bitZ x i = 0 := by have := bitZ_bd x i; simp at hbit; omega
                have H2 := Lib.hid (HH.out (r + r) (by omega))
                have Hbt := Lib.hid hbit
                clear hbit hbz
                rcases bool_or' (decide (r + r < b)) with hc | hc
                · have Hf := Lib.hid (H2.out.1 (by simpa using hc))
                  have Hqq := Lib.hid (show R128 (q + q) by have h1 := Hn.out; have h2 := Hx.out; rw [Hf.out.1] at h1; unfold R128 at *; omega)
                  have HT2 := Lib.hid (fun w => wTwice_any q Hq.out Hqq.out w)
                  have Hc := Lib.hid hc
                  have HL := Lib.hid (fun w => is_bool Hc.out (wLess_any (r + r) b Hrr.out Hb.out w))
                  clear hc
                  go_wp2_with (first | (go_at_call 189; (with_reducible refine call_later (HT1.out _) ?_); intro u) | (go_at_call 189; (with_reducible refine call_later (HT2.out _) ?_); intro u) | (go_at_call 188; (with_reducible refine call_later (is_bool Hbt.out (HbI.out _)) ?_); intro u) | (go_at_call 138; (with_reducible refine call_later (HP1.out _) ?_); intro u) | (go_at_call 142; (with_reducible refine call_later (HL.out _) ?_); intro u))
                  go_roundw
                  case rel => exact ⟨i, by go_num, by omega, (by repeat (first | with_reducible exact Grew.refl _ | with_reducible apply Grew.alloc | with_reducible apply Grew.later | with_reducible apply Grew.drew | with_reducible apply Grew.store | with_reducible assumption)), boxAt_two (by go_simp) (by go_simp) (by go_simp) (by go_simp), boxAt_two (by go_simp) (by go_simp) (by go_simp) (by go_simp), boxAt_two (by go_simp) (by go_simp) (by go_simp) (by go_simp), boxAt_two (by go_simp) (by go_simp) (by go_simp) (by go_simp), by rw [Hf.out.1]; exact boxAt_two (by go_simp) (by go_simp) (by go_simp) (by go_simp), by rw [Hf.out.2]; exact boxAt_two (by go_simp) (by go_simp) (by go_simp) (by go_simp)⟩
                  case measure => simp [intOf] <;> omega
                · have Hf := Lib.hid (H2.out.2 (by simpa using hc))
                  have Hqs := Lib.hid (show R128 (q + q + 1) ∧ R128 (q + q) by have h1 := Hn.out; have h2 := Hx.out; have h3 := Hqx.out; rw [Hf.out.1] at h1; unfold R128 at *; omega)
                  have HT2 := Lib.hid (fun w => wTwice_any q Hq.out Hqs.out.2 w)
                  have HPq := Lib.hid (fun w => wPlusOne_any (q + q) Hqs.out.2 Hqs.out.1 w)
                  have HPt := Lib.hid (fun w => wPlus_any (r + r) (-b) Hrr.out Hnb.out Hrm.out w)
                  have Hc := Lib.hid hc
                  have HL := Lib.hid (fun w => is_bool Hc.out (wLess_any (r + r) b Hrr.out Hb.out w))
                  clear hc
                  go_wp2_with (first | (go_at_call 189; (with_reducible refine call_later (HT1.out _) ?_); intro u) | (go_at_call 189; (with_reducible refine call_later (HT2.out _) ?_); intro u) | (go_at_call 188; (with_reducible refine call_later (is_bool Hbt.out (HbI.out _)) ?_); intro u) | (go_at_call 138; (with_reducible refine call_later (HP1.out _) ?_); intro u) | (go_at_call 142; (with_reducible refine call_later (HL.out _) ?_); intro u))
                  refine wp_region_grown 4 [] [2, 3] [] (fun W0 => []) [.agg #[.int .i64 ((mkW (-b))).h, .int .u64 ((mkW (-b))).l], .agg #[.int .i64 ((mkW (r + r + -b))).h, .int .u64 ((mkW (r + r + -b))).l]] [4] (by rfl) (fun _ x hx => absurd hx (List.not_mem_nil)) (by kernel_rfl) (by kernel_rfl) (by kernel_rfl) ?_
                  intro p
                  apply Exists.intro
                  apply And.intro
                  apply lexg_pure (by kernel_rfl)
                  · intro u; unfold opPure; go_simp; rfl
                  apply lexg_pure (by kernel_rfl)
                  · intro u; unfold opPure; go_simp; rfl
                  apply lexg_call 0 (by kernel_rfl) (by rfl) (by decide)
                  · intro u hF; clear hF; unfold opCall; go_simp; exact HM.out _
                  apply lexg_call 1 (by kernel_rfl) (by rfl) (by decide)
                  · intro u hF; clear hF; unfold opCall; go_simp; exact HPt.out _
                  apply lexg_end
                  rotate_left
                  · rfl
                  intro u hR hD
                  clear hR hD
                  refine tail_store (by rfl) ?_; unfold opStore; go_simp
                  refine tail_end ?_
                  go_wp2_with (first | (go_at_call 138; (with_reducible refine call_later (HPq.out _) ?_); intro u))
                  go_roundw
                  case rel => exact ⟨i, by go_num, by omega, (by repeat (first | with_reducible exact Grew.refl _ | with_reducible apply Grew.alloc | with_reducible apply Grew.later | with_reducible apply Grew.drew | with_reducible apply Grew.store | with_reducible assumption)), boxAt_two (by go_simp) (by go_simp) (by go_simp) (by go_simp), boxAt_two (by go_simp) (by go_simp) (by go_simp) (by go_simp), boxAt_two (by go_simp) (by go_simp) (by go_simp) (by go_simp), boxAt_two (by go_simp) (by go_simp) (by go_simp) (by go_simp), by rw [Hf.out.1]; exact boxAt_two (by go_simp) (by go_simp) (by go_simp) (by go_simp), by rw [Hf.out.2]; exact boxAt_two (by go_simp) (by go_simp) (by go_simp) (by go_simp)⟩
                  case measure => simp [intOf] <;> omega
              · have hbz : bitZ x i = 1 := by simpa using hbit
                have H2 := Lib.hid (HH.out (r + r + 1) (by omega))
                have Hbt := Lib.hid hbit
                clear hbit hbz
                rcases bool_or' (decide (r + r + 1 < b)) with hc | hc
                · have Hf := Lib.hid (H2.out.1 (by simpa using hc))
                  have Hqq := Lib.hid (show R128 (q + q) by have h1 := Hn.out; have h2 := Hx.out; rw [Hf.out.1] at h1; unfold R128 at *; omega)
                  have HT2 := Lib.hid (fun w => wTwice_any q Hq.out Hqq.out w)
                  have Hc := Lib.hid hc
                  have HL := Lib.hid (fun w => is_bool Hc.out (wLess_any (r + r + 1) b Hrs.out Hb.out w))
                  clear hc
                  go_wp2_with (first | (go_at_call 189; (with_reducible refine call_later (HT1.out _) ?_); intro u) | (go_at_call 189; (with_reducible refine call_later (HT2.out _) ?_); intro u) | (go_at_call 188; (with_reducible refine call_later (is_bool Hbt.out (HbI.out _)) ?_); intro u) | (go_at_call 138; (with_reducible refine call_later (HP1.out _) ?_); intro u) | (go_at_call 142; (with_reducible refine call_later (HL.out _) ?_); intro u))
                  go_roundw
                  case rel => exact ⟨i, by go_num, by omega, (by repeat (first | with_reducible exact Grew.refl _ | with_reducible apply Grew.alloc | with_reducible apply Grew.later | with_reducible apply Grew.drew | with_reducible apply Grew.store | with_reducible assumption)), boxAt_two (by go_simp) (by go_simp) (by go_simp) (by go_simp), boxAt_two (by go_simp) (by go_simp) (by go_simp) (by go_simp), boxAt_two (by go_simp) (by go_simp) (by go_simp) (by go_simp), boxAt_two (by go_simp) (by go_simp) (by go_simp) (by go_simp), by rw [Hf.out.1]; exact boxAt_two (by go_simp) (by go_simp) (by go_simp) (by go_simp), by rw [Hf.out.2]; exact boxAt_two (by go_simp) (by go_simp) (by go_simp) (by go_simp)⟩
                  case measure => simp [intOf] <;> omega
                · have Hf := Lib.hid (H2.out.2 (by simpa using hc))
                  have Hqs := Lib.hid (show R128 (q + q + 1) ∧ R128 (q + q) by have h1 := Hn.out; have h2 := Hx.out; have h3 := Hqx.out; rw [Hf.out.1] at h1; unfold R128 at *; omega)
                  have HT2 := Lib.hid (fun w => wTwice_any q Hq.out Hqs.out.2 w)
                  have HPq := Lib.hid (fun w => wPlusOne_any (q + q) Hqs.out.2 Hqs.out.1 w)
                  have HPt := Lib.hid (fun w => wPlus_any (r + r + 1) (-b) Hrs.out Hnb.out Hrn.out w)
                  have Hc := Lib.hid hc
                  have HL := Lib.hid (fun w => is_bool Hc.out (wLess_any (r + r + 1) b Hrs.out Hb.out w))
                  clear hc
                  go_wp2_with (first | (go_at_call 189; (with_reducible refine call_later (HT1.out _) ?_); intro u) | (go_at_call 189; (with_reducible refine call_later (HT2.out _) ?_); intro u) | (go_at_call 188; (with_reducible refine call_later (is_bool Hbt.out (HbI.out _)) ?_); intro u) | (go_at_call 138; (with_reducible refine call_later (HP1.out _) ?_); intro u) | (go_at_call 142; (with_reducible refine call_later (HL.out _) ?_); intro u))
                  refine wp_region_grown 4 [] [2, 3] [] (fun W0 => []) [.agg #[.int .i64 ((mkW (-b))).h, .int .u64 ((mkW (-b))).l], .agg #[.int .i64 ((mkW (r + r + 1 + -b))).h, .int .u64 ((mkW (r + r + 1 + -b))).l]] [4] (by rfl) (fun _ x hx => absurd hx (List.not_mem_nil)) (by kernel_rfl) (by kernel_rfl) (by kernel_rfl) ?_
                  intro p
                  apply Exists.intro
                  apply And.intro
                  apply lexg_pure (by kernel_rfl)
                  · intro u; unfold opPure; go_simp; rfl
                  apply lexg_pure (by kernel_rfl)
                  · intro u; unfold opPure; go_simp; rfl
                  apply lexg_call 0 (by kernel_rfl) (by rfl) (by decide)
                  · intro u hF; clear hF; unfold opCall; go_simp; exact HM.out _
                  apply lexg_call 1 (by kernel_rfl) (by rfl) (by decide)
                  · intro u hF; clear hF; unfold opCall; go_simp; exact HPt.out _
                  apply lexg_end
                  rotate_left
                  · rfl
                  intro u hR hD
                  clear hR hD
                  refine tail_store (by rfl) ?_; unfold opStore; go_simp
                  refine tail_end ?_
                  go_wp2_with (first | (go_at_call 138; (with_reducible refine call_later (HPq.out _) ?_); intro u))
                  go_roundw
                  case rel => exact ⟨i, by go_num, by omega, (by repeat (first | with_reducible exact Grew.refl _ | with_reducible apply Grew.alloc | with_reducible apply Grew.later | with_reducible apply Grew.drew | with_reducible apply Grew.store | with_reducible assumption)), boxAt_two (by go_simp) (by go_simp) (by go_simp) (by go_simp), boxAt_two (by go_simp) (by go_simp) (by go_simp) (by go_simp), boxAt_two (by go_simp) (by go_simp) (by go_simp) (by go_simp), boxAt_two (by go_simp) (by go_simp) (by go_simp) (by go_simp), by rw [Hf.out.1]; exact boxAt_two (by go_simp) (by go_simp) (by go_simp) (by go_simp), by rw [Hf.out.2]; exact boxAt_two (by go_simp) (by go_simp) (by go_simp) (by go_simp)⟩
                  case measure => simp [intOf] <;> omega
        · have Hbt := Lib.hid hbit
          clear hbit
          go_wp2_with (first | (go_at_call 188; (with_reducible refine call_later (is_bool Hbt.out (HbK.out _)) ?_); intro u) | ((with_reducible refine wp_region_later ?_ ?_ ?_); (· kernel_rfl); (· kernel_rfl); (repeat (go_big_quiet_step ((first | (go_at_call 188; (with_reducible exact call_quiet (is_bool Hbt.out (HbK.out _)))))))); refine wpQuiet_nil ?_; rintro _ ⟨u, rfl⟩))
          have nu : w.heap.size + 1 + 1 + 1 + 1 ≤ u.world.heap.size := by have h1 := hDb.lt; have h2 := Below.size u.grew; (try simp at h2); omega
          have : Apart (w.heap.size) (w.heap.size + 1) := ⟨by omega⟩
          have : Apart (w.heap.size) (w.heap.size + 1 + 1) := ⟨by omega⟩
          have : Apart (w.heap.size) (w.heap.size + 1 + 1 + 1) := ⟨by omega⟩
          have : Apart (w.heap.size) (u.world.heap.size) := ⟨by omega⟩
          have : Apart (w.heap.size) (u.world.heap.size + 1) := ⟨by omega⟩
          have : Apart (w.heap.size + 1) (w.heap.size) := ⟨by omega⟩
          have : Apart (w.heap.size + 1) (w.heap.size + 1 + 1) := ⟨by omega⟩
          have : Apart (w.heap.size + 1) (w.heap.size + 1 + 1 + 1) := ⟨by omega⟩
          have : Apart (w.heap.size + 1) (u.world.heap.size) := ⟨by omega⟩
          have : Apart (w.heap.size + 1) (u.world.heap.size + 1) := ⟨by omega⟩
          have : Apart (w.heap.size + 1 + 1) (w.heap.size) := ⟨by omega⟩
          have : Apart (w.heap.size + 1 + 1) (w.heap.size + 1) := ⟨by omega⟩
          have : Apart (w.heap.size + 1 + 1) (w.heap.size + 1 + 1 + 1) := ⟨by omega⟩
          have : Apart (w.heap.size + 1 + 1) (u.world.heap.size) := ⟨by omega⟩
          have : Apart (w.heap.size + 1 + 1) (u.world.heap.size + 1) := ⟨by omega⟩
          have : Apart (w.heap.size + 1 + 1 + 1) (w.heap.size) := ⟨by omega⟩
          have : Apart (w.heap.size + 1 + 1 + 1) (w.heap.size + 1) := ⟨by omega⟩
          have : Apart (w.heap.size + 1 + 1 + 1) (w.heap.size + 1 + 1) := ⟨by omega⟩
          have : Apart (w.heap.size + 1 + 1 + 1) (u.world.heap.size) := ⟨by omega⟩
          have : Apart (w.heap.size + 1 + 1 + 1) (u.world.heap.size + 1) := ⟨by omega⟩
          have : Apart (u.world.heap.size) (w.heap.size) := ⟨by omega⟩
          have : Apart (u.world.heap.size) (w.heap.size + 1) := ⟨by omega⟩
          have : Apart (u.world.heap.size) (w.heap.size + 1 + 1) := ⟨by omega⟩
          have : Apart (u.world.heap.size) (w.heap.size + 1 + 1 + 1) := ⟨by omega⟩
          have : Apart (u.world.heap.size) (u.world.heap.size + 1) := ⟨by omega⟩
          have : Apart (u.world.heap.size + 1) (w.heap.size) := ⟨by omega⟩
          have : Apart (u.world.heap.size + 1) (w.heap.size + 1) := ⟨by omega⟩
          have : Apart (u.world.heap.size + 1) (w.heap.size + 1 + 1) := ⟨by omega⟩
          have : Apart (u.world.heap.size + 1) (w.heap.size + 1 + 1 + 1) := ⟨by omega⟩
          have : Apart (u.world.heap.size + 1) (u.world.heap.size) := ⟨by omega⟩
          have nw7 : NewFor w u.world.heap.size := ⟨by omega⟩
          have nw8 : NewFor w (u.world.heap.size + 1) := ⟨by omega⟩
          have Hst := Lib.hid (show mkW (x / 2 ^ (k + 1) / b) = ⟨0, 0⟩ ∧ mkW (x / 2 ^ (k + 1) % b) = ⟨0, 0⟩ by rw [Hk.out, Int.zero_ediv, Int.zero_emod]; exact ⟨mkW_zero, mkW_zero⟩)
          clear nu
          go_wp2
          go_loopw [9] (fun t wr => ∃ n : Nat, t = .int .i64 ((n : Int) - 1) ∧ n ≤ 128 ∧ divRound x b w u.world.heap.size (u.world.heap.size + 1) n wr) (fun t _ => (intOf t + 1).toNat)
          case atStart => exact ⟨k + 1, by go_num, by omega, (by repeat (first | with_reducible exact Grew.refl _ | with_reducible apply Grew.alloc | with_reducible apply Grew.later | with_reducible apply Grew.drew | with_reducible apply Grew.store | with_reducible assumption)), boxAt_two (by go_simp) (by go_simp) (by go_simp) (by go_simp), boxAt_two (by go_simp) (by go_simp) (by go_simp) (by go_simp), boxAt_two (by go_simp) (by go_simp) (by go_simp) (by go_simp), boxAt_two (by go_simp) (by go_simp) (by go_simp) (by go_simp), by rw [Hst.out.1]; exact boxAt_two (by go_simp) (by go_simp) (by go_simp) (by go_simp), by rw [Hst.out.2]; exact boxAt_two (by go_simp) (by go_simp) (by go_simp) (by go_simp)⟩
          case round =>
            obtain ⟨n, rfl, hn, hg, hA, hB, hC, hD, hQ, hR⟩ := hrel
            obtain ⟨y, rfl⟩ := later_of hg
            clear hg
            have hA_0 := (hA 0 _ rfl).1
            have hAf0 := (hA 0 _ rfl).2
            have hAi0 : HasCell (y.world) (w.heap.size) 0 := ⟨_, hA_0⟩
            have hA_1 := (hA 1 _ rfl).1
            have hAf1 := (hA 1 _ rfl).2
            have hAi1 : HasCell (y.world) (w.heap.size) 1 := ⟨_, hA_1⟩
            have hAb : BlockIn (y.world) (w.heap.size) := BlockIn.of_cell hA_0
            clear hA
            have hB_0 := (hB 0 _ rfl).1
            have hBf0 := (hB 0 _ rfl).2
            have hBi0 : HasCell (y.world) (w.heap.size + 1) 0 := ⟨_, hB_0⟩
            have hB_1 := (hB 1 _ rfl).1
            have hBf1 := (hB 1 _ rfl).2
            have hBi1 : HasCell (y.world) (w.heap.size + 1) 1 := ⟨_, hB_1⟩
            have hBb : BlockIn (y.world) (w.heap.size + 1) := BlockIn.of_cell hB_0
            clear hB
            have hC_0 := (hC 0 _ rfl).1
            have hCf0 := (hC 0 _ rfl).2
            have hCi0 : HasCell (y.world) (w.heap.size + 1 + 1) 0 := ⟨_, hC_0⟩
            have hC_1 := (hC 1 _ rfl).1
            have hCf1 := (hC 1 _ rfl).2
            have hCi1 : HasCell (y.world) (w.heap.size + 1 + 1) 1 := ⟨_, hC_1⟩
            have hCb : BlockIn (y.world) (w.heap.size + 1 + 1) := BlockIn.of_cell hC_0
            clear hC
            have hD_0 := (hD 0 _ rfl).1
            have hDf0 := (hD 0 _ rfl).2
            have hDi0 : HasCell (y.world) (w.heap.size + 1 + 1 + 1) 0 := ⟨_, hD_0⟩
            have hD_1 := (hD 1 _ rfl).1
            have hDf1 := (hD 1 _ rfl).2
            have hDi1 : HasCell (y.world) (w.heap.size + 1 + 1 + 1) 1 := ⟨_, hD_1⟩
            have hDb : BlockIn (y.world) (w.heap.size + 1 + 1 + 1) := BlockIn.of_cell hD_0
            clear hD
            cases n with
            | zero =>
              rw [Int.pow_zero, Int.ediv_one] at hQ hR
              have hQ_0 := (hQ 0 _ rfl).1
              have hQf0 := (hQ 0 _ rfl).2
              have hQi0 : HasCell (y.world) (u.world.heap.size) 0 := ⟨_, hQ_0⟩
              have hQ_1 := (hQ 1 _ rfl).1
              have hQf1 := (hQ 1 _ rfl).2
              have hQi1 : HasCell (y.world) (u.world.heap.size) 1 := ⟨_, hQ_1⟩
              have hQb : BlockIn (y.world) (u.world.heap.size) := BlockIn.of_cell hQ_0
              clear hQ
              have hR_0 := (hR 0 _ rfl).1
              have hRf0 := (hR 0 _ rfl).2
              have hRi0 : HasCell (y.world) (u.world.heap.size + 1) 0 := ⟨_, hR_0⟩
              have hR_1 := (hR 1 _ rfl).1
              have hRf1 := (hR 1 _ rfl).2
              have hRi1 : HasCell (y.world) (u.world.heap.size + 1) 1 := ⟨_, hR_1⟩
              have hRb : BlockIn (y.world) (u.world.heap.size + 1) := BlockIn.of_cell hR_0
              clear hR
              go_wp2
              go_region
              all_goals go_wp2
              all_goals
                refine bodyPost_ret (by (simp [results, Tryz.results185, go_sem] <;> rfl)) rfl ?_
                exact ⟨rfl, (by repeat (first | with_reducible exact Grew.refl _ | with_reducible apply Grew.alloc | with_reducible apply Grew.later | with_reducible apply Grew.drew | with_reducible apply Grew.store | with_reducible assumption))⟩
            | succ i =>
              have hQ_0 := (hQ 0 _ rfl).1
              have hQf0 := (hQ 0 _ rfl).2
              have hQi0 : HasCell (y.world) (u.world.heap.size) 0 := ⟨_, hQ_0⟩
              have hQ_1 := (hQ 1 _ rfl).1
              have hQf1 := (hQ 1 _ rfl).2
              have hQi1 : HasCell (y.world) (u.world.heap.size) 1 := ⟨_, hQ_1⟩
              have hQb : BlockIn (y.world) (u.world.heap.size) := BlockIn.of_cell hQ_0
              clear hQ
              have hR_0 := (hR 0 _ rfl).1
              have hRf0 := (hR 0 _ rfl).2
              have hRi0 : HasCell (y.world) (u.world.heap.size + 1) 0 := ⟨_, hR_0⟩
              have hR_1 := (hR 1 _ rfl).1
              have hRf1 := (hR 1 _ rfl).2
              have hRi1 : HasCell (y.world) (u.world.heap.size + 1) 1 := ⟨_, hR_1⟩
              have hRb : BlockIn (y.world) (u.world.heap.size + 1) := BlockIn.of_cell hR_0
              clear hR
              have hi : ((i + 1 : Nat) : Int) - 1 = i := by omega
              rw [hi]
              clear hi
              obtain ⟨q0, q1, r0, r1, r2⟩ := Hbd.out (i + 1)
              have hb2 := Hbb.out
              have hx2 := Hx.out
              unfold R128 at hx2
              have hst := Hstep.out i
              have Hn := Lib.hid (Hbd.out i)
              have HbI := Lib.hid (Hbit.out i (by omega))
              generalize x / 2 ^ (i + 1) / b = q at *
              generalize x / 2 ^ (i + 1) % b = r at *
              have HH := Lib.hid (show ∀ t, t = r + r + bitZ x i → (t < b → x / 2 ^ i / b = q + q ∧ x / 2 ^ i % b = t) ∧ (b ≤ t → x / 2 ^ i / b = q + q + 1 ∧ x / 2 ^ i % b = t + -b) by
                intro t ht
                have h := hst t (by omega)
                exact ⟨fun k => ⟨by rw [(h.1 k).1]; omega, (h.1 k).2⟩, fun k => ⟨by rw [(h.2 k).1]; omega, by rw [(h.2 k).2]; omega⟩⟩)
              have Hq := Lib.hid (show R128 q by unfold R128; omega)
              have Hr := Lib.hid (show R128 r by unfold R128; omega)
              have Hrr := Lib.hid (show R128 (r + r) by unfold R128; omega)
              have Hrs := Lib.hid (show R128 (r + r + 1) by unfold R128; omega)
              have Hrm := Lib.hid (show R128 (r + r + -b) by unfold R128; omega)
              have Hrn := Lib.hid (show R128 (r + r + 1 + -b) by unfold R128; omega)
              have Hqx := Lib.hid q0
              clear r1 r0 r2 q0 q1 hst hb2 hx2
              have HT1 := Lib.hid (fun w => wTwice_any r Hr.out Hrr.out w)
              have HM := Lib.hid (fun w => wMinus_any b Hb.out Hnb.out w)
              have HP1 := Lib.hid (fun w => wPlusOne_any (r + r) Hrr.out Hrs.out w)
              rcases bool_or (decide (bitZ x i = 1)) with hbit | hbit
              · have hbz : bitZ x i = 0 := by have := bitZ_bd x i; simp at hbit; omega
                have H2 := Lib.hid (HH.out (r + r) (by omega))
                have Hbt := Lib.hid hbit
                clear hbit hbz
                rcases bool_or' (decide (r + r < b)) with hc | hc
                · have Hf := Lib.hid (H2.out.1 (by simpa using hc))
                  have Hqq := Lib.hid (show R128 (q + q) by have h1 := Hn.out; have h2 := Hx.out; rw [Hf.out.1] at h1; unfold R128 at *; omega)
                  have HT2 := Lib.hid (fun w => wTwice_any q Hq.out Hqq.out w)
                  have Hc := Lib.hid hc
                  have HL := Lib.hid (fun w => is_bool Hc.out (wLess_any (r + r) b Hrr.out Hb.out w))
                  clear hc
                  go_wp2_with (first | (go_at_call 189; (with_reducible refine call_later (HT1.out _) ?_); intro u) | (go_at_call 189; (with_reducible refine call_later (HT2.out _) ?_); intro u) | (go_at_call 188; (with_reducible refine call_later (is_bool Hbt.out (HbI.out _)) ?_); intro u) | (go_at_call 138; (with_reducible refine call_later (HP1.out _) ?_); intro u) | (go_at_call 142; (with_reducible refine call_later (HL.out _) ?_); intro u))
                  go_roundw
                  case rel => exact ⟨i, by go_num, by omega, (by repeat (first | with_reducible exact Grew.refl _ | with_reducible apply Grew.alloc | with_reducible apply Grew.later | with_reducible apply Grew.drew | with_reducible apply Grew.store | with_reducible assumption)), boxAt_two (by go_simp) (by go_simp) (by go_simp) (by go_simp), boxAt_two (by go_simp) (by go_simp) (by go_simp) (by go_simp), boxAt_two (by go_simp) (by go_simp) (by go_simp) (by go_simp), boxAt_two (by go_simp) (by go_simp) (by go_simp) (by go_simp), by rw [Hf.out.1]; exact boxAt_two (by go_simp) (by go_simp) (by go_simp) (by go_simp), by rw [Hf.out.2]; exact boxAt_two (by go_simp) (by go_simp) (by go_simp) (by go_simp)⟩
                  case measure => simp [intOf] <;> omega
                · have Hf := Lib.hid (H2.out.2 (by simpa using hc))
                  have Hqs := Lib.hid (show R128 (q + q + 1) ∧ R128 (q + q) by have h1 := Hn.out; have h2 := Hx.out; have h3 := Hqx.out; rw [Hf.out.1] at h1; unfold R128 at *; omega)
                  have HT2 := Lib.hid (fun w => wTwice_any q Hq.out Hqs.out.2 w)
                  have HPq := Lib.hid (fun w => wPlusOne_any (q + q) Hqs.out.2 Hqs.out.1 w)
                  have HPt := Lib.hid (fun w => wPlus_any (r + r) (-b) Hrr.out Hnb.out Hrm.out w)
                  have Hc := Lib.hid hc
                  have HL := Lib.hid (fun w => is_bool Hc.out (wLess_any (r + r) b Hrr.out Hb.out w))
                  clear hc
                  go_wp2_with (first | (go_at_call 189; (with_reducible refine call_later (HT1.out _) ?_); intro u) | (go_at_call 189; (with_reducible refine call_later (HT2.out _) ?_); intro u) | (go_at_call 188; (with_reducible refine call_later (is_bool Hbt.out (HbI.out _)) ?_); intro u) | (go_at_call 138; (with_reducible refine call_later (HP1.out _) ?_); intro u) | (go_at_call 142; (with_reducible refine call_later (HL.out _) ?_); intro u))
                  refine wp_region_grown 4 [] [2, 3] [] (fun W0 => []) [.agg #[.int .i64 ((mkW (-b))).h, .int .u64 ((mkW (-b))).l], .agg #[.int .i64 ((mkW (r + r + -b))).h, .int .u64 ((mkW (r + r + -b))).l]] [4] (by rfl) (fun _ x hx => absurd hx (List.not_mem_nil)) (by kernel_rfl) (by kernel_rfl) (by kernel_rfl) ?_
                  intro p
                  apply Exists.intro
                  apply And.intro
                  apply lexg_pure (by kernel_rfl)
                  · intro u; unfold opPure; go_simp; rfl
                  apply lexg_pure (by kernel_rfl)
                  · intro u; unfold opPure; go_simp; rfl
                  apply lexg_call 0 (by kernel_rfl) (by rfl) (by decide)
                  · intro u hF; clear hF; unfold opCall; go_simp; exact HM.out _
                  apply lexg_call 1 (by kernel_rfl) (by rfl) (by decide)
                  · intro u hF; clear hF; unfold opCall; go_simp; exact HPt.out _
                  apply lexg_end
                  rotate_left
                  · rfl
                  intro u hR hD
                  clear hR hD
                  refine tail_store (by rfl) ?_; unfold opStore; go_simp
                  refine tail_end ?_
                  go_wp2_with (first | (go_at_call 138; (with_reducible refine call_later (HPq.out _) ?_); intro u))
                  go_roundw
                  case rel => exact ⟨i, by go_num, by omega, (by repeat (first | with_reducible exact Grew.refl _ | with_reducible apply Grew.alloc | with_reducible apply Grew.later | with_reducible apply Grew.drew | with_reducible apply Grew.store | with_reducible assumption)), boxAt_two (by go_simp) (by go_simp) (by go_simp) (by go_simp), boxAt_two (by go_simp) (by go_simp) (by go_simp) (by go_simp), boxAt_two (by go_simp) (by go_simp) (by go_simp) (by go_simp), boxAt_two (by go_simp) (by go_simp) (by go_simp) (by go_simp), by rw [Hf.out.1]; exact boxAt_two (by go_simp) (by go_simp) (by go_simp) (by go_simp), by rw [Hf.out.2]; exact boxAt_two (by go_simp) (by go_simp) (by go_simp) (by go_simp)⟩
                  case measure => simp [intOf] <;> omega
              · have hbz : bitZ x i = 1 := by simpa using hbit
                have H2 := Lib.hid (HH.out (r + r + 1) (by omega))
                have Hbt := Lib.hid hbit
                clear hbit hbz
                rcases bool_or' (decide (r + r + 1 < b)) with hc | hc
                · have Hf := Lib.hid (H2.out.1 (by simpa using hc))
                  have Hqq := Lib.hid (show R128 (q + q) by have h1 := Hn.out; have h2 := Hx.out; rw [Hf.out.1] at h1; unfold R128 at *; omega)
                  have HT2 := Lib.hid (fun w => wTwice_any q Hq.out Hqq.out w)
                  have Hc := Lib.hid hc
                  have HL := Lib.hid (fun w => is_bool Hc.out (wLess_any (r + r + 1) b Hrs.out Hb.out w))
                  clear hc
                  go_wp2_with (first | (go_at_call 189; (with_reducible refine call_later (HT1.out _) ?_); intro u) | (go_at_call 189; (with_reducible refine call_later (HT2.out _) ?_); intro u) | (go_at_call 188; (with_reducible refine call_later (is_bool Hbt.out (HbI.out _)) ?_); intro u) | (go_at_call 138; (with_reducible refine call_later (HP1.out _) ?_); intro u) | (go_at_call 142; (with_reducible refine call_later (HL.out _) ?_); intro u))
                  go_roundw
                  case rel => exact ⟨i, by go_num, by omega, (by repeat (first | with_reducible exact Grew.refl _ | with_reducible apply Grew.alloc | with_reducible apply Grew.later | with_reducible apply Grew.drew | with_reducible apply Grew.store | with_reducible assumption)), boxAt_two (by go_simp) (by go_simp) (by go_simp) (by go_simp), boxAt_two (by go_simp) (by go_simp) (by go_simp) (by go_simp), boxAt_two (by go_simp) (by go_simp) (by go_simp) (by go_simp), boxAt_two (by go_simp) (by go_simp) (by go_simp) (by go_simp), by rw [Hf.out.1]; exact boxAt_two (by go_simp) (by go_simp) (by go_simp) (by go_simp), by rw [Hf.out.2]; exact boxAt_two (by go_simp) (by go_simp) (by go_simp) (by go_simp)⟩
                  case measure => simp [intOf] <;> omega
                · have Hf := Lib.hid (H2.out.2 (by simpa using hc))
                  have Hqs := Lib.hid (show R128 (q + q + 1) ∧ R128 (q + q) by have h1 := Hn.out; have h2 := Hx.out; have h3 := Hqx.out; rw [Hf.out.1] at h1; unfold R128 at *; omega)
                  have HT2 := Lib.hid (fun w => wTwice_any q Hq.out Hqs.out.2 w)
                  have HPq := Lib.hid (fun w => wPlusOne_any (q + q) Hqs.out.2 Hqs.out.1 w)
                  have HPt := Lib.hid (fun w => wPlus_any (r + r + 1) (-b) Hrs.out Hnb.out Hrn.out w)
                  have Hc := Lib.hid hc
                  have HL := Lib.hid (fun w => is_bool Hc.out (wLess_any (r + r + 1) b Hrs.out Hb.out w))
                  clear hc
                  go_wp2_with (first | (go_at_call 189; (with_reducible refine call_later (HT1.out _) ?_); intro u) | (go_at_call 189; (with_reducible refine call_later (HT2.out _) ?_); intro u) | (go_at_call 188; (with_reducible refine call_later (is_bool Hbt.out (HbI.out _)) ?_); intro u) | (go_at_call 138; (with_reducible refine call_later (HP1.out _) ?_); intro u) | (go_at_call 142; (with_reducible refine call_later (HL.out _) ?_); intro u))
                  refine wp_region_grown 4 [] [2, 3] [] (fun W0 => []) [.agg #[.int .i64 ((mkW (-b))).h, .int .u64 ((mkW (-b))).l], .agg #[.int .i64 ((mkW (r + r + 1 + -b))).h, .int .u64 ((mkW (r + r + 1 + -b))).l]] [4] (by rfl) (fun _ x hx => absurd hx (List.not_mem_nil)) (by kernel_rfl) (by kernel_rfl) (by kernel_rfl) ?_
                  intro p
                  apply Exists.intro
                  apply And.intro
                  apply lexg_pure (by kernel_rfl)
                  · intro u; unfold opPure; go_simp; rfl
                  apply lexg_pure (by kernel_rfl)
                  · intro u; unfold opPure; go_simp; rfl
                  apply lexg_call 0 (by kernel_rfl) (by rfl) (by decide)
                  · intro u hF; clear hF; unfold opCall; go_simp; exact HM.out _
                  apply lexg_call 1 (by kernel_rfl) (by rfl) (by decide)
                  · intro u hF; clear hF; unfold opCall; go_simp; exact HPt.out _
                  apply lexg_end
                  rotate_left
                  · rfl
                  intro u hR hD
                  clear hR hD
                  refine tail_store (by rfl) ?_; unfold opStore; go_simp
                  refine tail_end ?_
                  go_wp2_with (first | (go_at_call 138; (with_reducible refine call_later (HPq.out _) ?_); intro u))
                  go_roundw
                  case rel => exact ⟨i, by go_num, by omega, (by repeat (first | with_reducible exact Grew.refl _ | with_reducible apply Grew.alloc | with_reducible apply Grew.later | with_reducible apply Grew.drew | with_reducible apply Grew.store | with_reducible assumption)), boxAt_two (by go_simp) (by go_simp) (by go_simp) (by go_simp), boxAt_two (by go_simp) (by go_simp) (by go_simp) (by go_simp), boxAt_two (by go_simp) (by go_simp) (by go_simp) (by go_simp), boxAt_two (by go_simp) (by go_simp) (by go_simp) (by go_simp), by rw [Hf.out.1]; exact boxAt_two (by go_simp) (by go_simp) (by go_simp) (by go_simp), by rw [Hf.out.2]; exact boxAt_two (by go_simp) (by go_simp) (by go_simp) (by go_simp)⟩
                  case measure => simp [intOf] <;> omega
theorem wDivide_any (x b : Int) (h0 : 0 ≤ x) (hx : R128 x) (hb0 : 0 < b) (hb : b ≤ 42535295865117307932921825928971026432) (w : World) : Calls Tryz.prog 185 #[.agg #[.int .i64 (mkW x).h, .int .u64 (mkW x).l], .agg #[.int .i64 (mkW b).h, .int .u64 (mkW b).l]] w fun e w' => e = .returned (.tuple #[.agg #[.int .i64 (mkW (x / b)).h, .int .u64 (mkW (x / b)).l], .agg #[.int .i64 (mkW (x % b)).h, .int .u64 (mkW (x % b)).l]]) ∧ Grew w w' := by
  by_cases h : x < 18446744073709551616 ∧ b < 18446744073709551616
  · exact wDivide_short x b h0 h.1 hb0 h.2 w
  · refine wDivide_long x b h0 hx hb0 hb ?_ w
    rw [mkW_hi, mkW_hi, Bool.and_eq_false_iff, beq_eq_false_iff_ne, beq_eq_false_iff_ne]
    unfold R128 at hx
    omega
end Go.Proofs.YtochpnomfedhoaaGreat
