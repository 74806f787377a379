/-
  Contracts: ullageref01's Quotient, over, Div.
-/
import Derived.Test.YtochpnomfedhoaaGreatRefDiv
import Derived.Test.YtochpnomfedhoaaGreatRefMul
namespace Go.Proofs.YtochpnomfedhoaaGreat
open Go.RowKit
set_option maxRecDepth 100000
set_option maxHeartbeats 4000000
theorem upZ_if (m d : Int) (hd : 1 ≤ d) (hb : decide (m % d = 0) = true) : upZ m d = m / d := by rw [upZ_law m d hd, if_pos (by simpa using hb)]
theorem upZ_else (m d : Int) (hd : 1 ≤ d) (hb : decide (m % d = 0) = false) : upZ m d = m / d + 1 := by rw [upZ_law m d hd, if_neg (by simpa using hb)]
theorem wQuotient_any (x b : Int) (h1 : -42535295865117307932921825928971026432 ≤ x) (h2 : x ≤ 42535295865117307932921825928971026432) (hb0 : 0 < b) (hb : b ≤ 42535295865117307932921825928971026432) (w : World) : Calls Tryz.prog 176 #[.agg #[.int .i64 (mkW x).h, .int .u64 (mkW x).l], .agg #[.int .i64 (mkW b).h, .int .u64 (mkW b).l]] w fun e w' => e = .returned (.tuple #[.agg #[.int .i64 (mkW (downZ x b)).h, .int .u64 (mkW (downZ x b)).l], .agg #[.int .i64 (mkW (upZ x b)).h, .int .u64 (mkW (upZ x b)).l]]) ∧ Grew w w' := by
  obtain ⟨M, hM, hM0⟩ : ∃ M : Int, (x = M ∨ x = -M) ∧ 0 ≤ M ∧ (x < 0 → x = -M) ∧ (0 ≤ x → x = M) := by
    by_cases h : x < 0
    · exact ⟨-x, by omega, by omega, by omega, by omega⟩
    · exact ⟨x, by omega, by omega, by omega, by omega⟩
  obtain ⟨hM0, hneg, hpos⟩ := hM0
  have hMR : M ≤ 42535295865117307932921825928971026432 := by omega
  have hq := quot_bd M b 0 hM0 hb0
  rw [Int.pow_zero, Int.ediv_one] at hq
  obtain ⟨q0, q1, r0, r1, r2⟩ := hq
  have HD := Lib.hid (fun w => wDivide_any M b hM0 (by unfold R128; omega) hb0 hb w)
  have HS := Lib.hid (fun w => wSameZero_any (M % b) (by unfold R128; omega) w)
  have HP := Lib.hid (fun w => wPlusOne_any (M / b) (by unfold R128; omega) (by unfold R128; omega) w)
  have HMx := Lib.hid (fun (h : x = -M) w => (show Calls Tryz.prog 159 #[.agg #[.int .i64 (mkW x).h, .int .u64 (mkW x).l]] w fun e w' => e = .returned (.agg #[.int .i64 (mkW M).h, .int .u64 (mkW M).l]) ∧ Grew w w' from by have := wMinus_any x (by unfold R128; omega) (by unfold R128; omega) w; rwa [show -x = M by omega] at this))
  have HMq := Lib.hid (fun w => wMinus_any (M / b) (by unfold R128; omega) (by unfold R128; omega) w)
  have HMs := Lib.hid (fun w => wMinus_any (M / b + 1) (by unfold R128; omega) (by unfold R128; omega) w)
  have hxh : (mkW x).h = x / 18446744073709551616 := rfl
  have Hup1 := Lib.hid (upZ_if M b (by omega))
  have Hup2 := Lib.hid (upZ_else M b (by omega))
  by_cases hs : x < 0
  · have hx := hneg hs
    have hlt : decide ((mkW x).h < 0) = true := by rw [hxh]; simp; omega
    have Hd := Lib.hid (show downZ x b = -upZ M b by rw [hx]; exact downZ_neg M b)
    have Hu := Lib.hid (show upZ x b = -(M / b) by rw [hx]; exact upZ_neg M b)
    have HMx := Lib.hid (HMx.out hx)
    clear hM hneg hpos hxh hx hs h1 h2 hb0 hb hM0 hMR q0 q1 r0 r1 r2
    rcases bool_or (decide (M % b = 0)) with hz | hz
    · have Hz := Lib.hid hz
      have Hn := Lib.hid (Hup2.out hz)
      clear hz
      go_enter Tryz.func176, Tryz.ntmps176
      go_wp2_with (first | (go_at_call 159; (with_reducible refine call_later (HMx.out _) ?_); intro ux) | (go_at_call 185; (with_reducible refine call_later (HD.out _) ?_); intro ud) | (go_at_call 186; (with_reducible refine call_later (is_bool Hz.out (HS.out _)) ?_); intro us) | (go_at_call 138; (with_reducible refine call_later (HP.out _) ?_); intro up))
      go_region_held3 (fun w' => w'.cell? ⟨ud.world.heap.size, 0, none⟩ = some (.int .i64 (mkW (M / b)).h) ∧ w'.cell? ⟨ud.world.heap.size, 1, none⟩ = some (.int .u64 (mkW (M / b)).l) ∧ w'.cell? ⟨ud.world.heap.size + 1 + 1, 0, none⟩ = some (.int .i64 (mkW (M / b + 1)).h) ∧ w'.cell? ⟨ud.world.heap.size + 1 + 1, 1, none⟩ = some (.int .u64 (mkW (M / b + 1)).l)) (first | exact ⟨(by go_simp), (by go_simp), (by go_simp), (by go_simp)⟩) (first | (go_at_call 159; (with_reducible refine call_later (HMs.out _) ?_); intro u) | (go_at_call 159; (with_reducible refine call_later (HMq.out _) ?_); intro u))
      go_wp2
      refine bodyPost_ret (by (simp [results, Tryz.results176, go_sem] <;> rfl)) rfl ?_
      exact ⟨ret_w2 (by rw [Hd.out, Hn.out]) (by rw [Hu.out]), (by repeat (first | with_reducible exact Grew.refl _ | with_reducible apply Grew.alloc | with_reducible apply Grew.later | with_reducible apply Grew.drew | with_reducible apply Grew.store | with_reducible assumption))⟩
    · have Hz := Lib.hid hz
      have Hn := Lib.hid (Hup1.out hz)
      clear hz
      go_enter Tryz.func176, Tryz.ntmps176
      go_wp2_with (first | (go_at_call 159; (with_reducible refine call_later (HMx.out _) ?_); intro ux) | (go_at_call 185; (with_reducible refine call_later (HD.out _) ?_); intro ud) | (go_at_call 186; (with_reducible refine call_later (is_bool Hz.out (HS.out _)) ?_); intro us) | (go_at_call 138; (with_reducible refine call_later (HP.out _) ?_); intro up))
      go_region_held3 (fun w' => w'.cell? ⟨ud.world.heap.size, 0, none⟩ = some (.int .i64 (mkW (M / b)).h) ∧ w'.cell? ⟨ud.world.heap.size, 1, none⟩ = some (.int .u64 (mkW (M / b)).l) ∧ w'.cell? ⟨ud.world.heap.size + 1 + 1, 0, none⟩ = some (.int .i64 (mkW (M / b)).h) ∧ w'.cell? ⟨ud.world.heap.size + 1 + 1, 1, none⟩ = some (.int .u64 (mkW (M / b)).l)) (first | exact ⟨(by go_simp), (by go_simp), (by go_simp), (by go_simp)⟩) (first | (go_at_call 159; (with_reducible refine call_later (HMq.out _) ?_); intro u))
      go_wp2
      refine bodyPost_ret (by (simp [results, Tryz.results176, go_sem] <;> rfl)) rfl ?_
      exact ⟨ret_w2 (by rw [Hd.out, Hn.out]) (by rw [Hu.out]), (by repeat (first | with_reducible exact Grew.refl _ | with_reducible apply Grew.alloc | with_reducible apply Grew.later | with_reducible apply Grew.drew | with_reducible apply Grew.store | with_reducible assumption))⟩
  · have hx := hpos (by omega)
    have hlt : decide ((mkW x).h < 0) = false := by rw [hxh]; simp; omega
    rw [hx] at hlt ⊢
    clear hM hneg hpos hxh hx hs h1 h2 hb0 hb hM0 hMR q0 q1 r0 r1 r2 HMx
    rcases bool_or (decide (M % b = 0)) with hz | hz
    · have Hz := Lib.hid hz
      have Hn := Lib.hid (Hup2.out hz)
      clear hz
      go_enter Tryz.func176, Tryz.ntmps176
      go_wp2_with (first | (go_at_call 185; (with_reducible refine call_later (HD.out _) ?_); intro ud) | (go_at_call 186; (with_reducible refine call_later (is_bool Hz.out (HS.out _)) ?_); intro us) | (go_at_call 138; (with_reducible refine call_later (HP.out _) ?_); intro up) | go_region)
      all_goals
        refine bodyPost_ret (by (simp [results, Tryz.results176, go_sem] <;> rfl)) rfl ?_
        exact ⟨ret_w2 rfl (by rw [Hn.out]), (by repeat (first | with_reducible exact Grew.refl _ | with_reducible apply Grew.alloc | with_reducible apply Grew.later | with_reducible apply Grew.drew | with_reducible apply Grew.store | with_reducible assumption))⟩
    · have Hz := Lib.hid hz
      have Hn := Lib.hid (Hup1.out hz)
      clear hz
      go_enter Tryz.func176, Tryz.ntmps176
      go_wp2_with (first | (go_at_call 185; (with_reducible refine call_later (HD.out _) ?_); intro ud) | (go_at_call 186; (with_reducible refine call_later (is_bool Hz.out (HS.out _)) ?_); intro us) | (go_at_call 138; (with_reducible refine call_later (HP.out _) ?_); intro up) | go_region)
      all_goals
        refine bodyPost_ret (by (simp [results, Tryz.results176, go_sem] <;> rfl)) rfl ?_
        exact ⟨ret_w2 rfl (by rw [Hn.out]), (by repeat (first | with_reducible exact Grew.refl _ | with_reducible apply Grew.alloc | with_reducible apply Grew.later | with_reducible apply Grew.drew | with_reducible apply Grew.store | with_reducible assumption))⟩
theorem wOver_any (a b : Int) (ha : I64 a) (hb : I64 b) (h0 : b ≠ 0) (w : World) : Calls Tryz.prog 153 #[.agg #[.int .i64 (mkW a).h, .int .u64 (mkW a).l], .agg #[.int .i64 (mkW b).h, .int .u64 (mkW b).l]] w fun e w' => e = .returned (.tuple #[.agg #[.int .i64 (mkW (ratDown a b)).h, .int .u64 (mkW (ratDown a b)).l], .agg #[.int .i64 (mkW (ratUp a b)).h, .int .u64 (mkW (ratUp a b)).l]]) ∧ Grew w w' := by
  have hbh : (mkW b).h = b / 18446744073709551616 := rfl
  have Ha := ha
  have Hb := hb
  unfold I64 at ha hb
  have HMa := Lib.hid (fun w => wMinus_any a (r128_of Ha) (r128_neg Ha) w)
  have HMb := Lib.hid (fun w => wMinus_any b (r128_of Hb) (r128_neg Hb) w)
  by_cases hs : b < 0
  · have hlt : decide ((mkW b).h < 0) = true := by rw [hbh]; simp; omega
    have HU := Lib.hid (fun w => wUp32_any (-a) (by omega) w)
    have HQ := Lib.hid (fun w => wQuotient_any (-a * 4294967296) (-b) (by omega) (by omega) (by omega) (by omega) w)
    have Hr1 := Lib.hid (show downZ (-a * 4294967296) (-b) = ratDown a b by unfold ratDown; rw [if_pos hs])
    have Hr2 := Lib.hid (show upZ (-a * 4294967296) (-b) = ratUp a b by unfold ratUp; rw [if_pos hs])
    clear ha hb Ha Hb h0 hs hbh
    go_enter Tryz.func153, Tryz.ntmps153
    go_wp2_with (first | (go_at_call 159; (with_reducible refine call_later (HMa.out _) ?_); intro u) | (go_at_call 159; (with_reducible refine call_later (HMb.out _) ?_); intro u))
    refine wp_region_grown 6 [] [1, 3] [] (fun W0 => []) [.agg #[.int .i64 ((mkW (-a * 4294967296))).h, .int .u64 ((mkW (-a * 4294967296))).l], .tuple #[.agg #[.int .i64 ((mkW (downZ (-a * 4294967296) (-b)))).h, .int .u64 ((mkW (downZ (-a * 4294967296) (-b)))).l], .agg #[.int .i64 ((mkW (upZ (-a * 4294967296) (-b)))).h, .int .u64 ((mkW (upZ (-a * 4294967296) (-b)))).l]]] [6, 7] (by rfl) (fun _ x hx => absurd hx (List.not_mem_nil)) (by kernel_rfl) (by kernel_rfl) (by kernel_rfl) ?_
    intro p
    apply Exists.intro
    apply And.intro
    apply lexg_pure (by kernel_rfl)
    · intro u; unfold opPure; go_simp; rfl
    apply lexg_call 0 (by kernel_rfl) (by rfl) (by decide)
    · intro u hF; clear hF; unfold opCall; go_simp; exact HU.out _
    apply lexg_pure (by kernel_rfl)
    · intro u; unfold opPure; go_simp; rfl
    apply lexg_call 1 (by kernel_rfl) (by rfl) (by decide)
    · intro u hF; clear hF; unfold opCall; go_simp; exact HQ.out _
    apply lexg_pure (by kernel_rfl)
    · intro u; unfold opPure; go_simp; rfl
    apply lexg_pure (by kernel_rfl)
    · intro u; unfold opPure; go_simp; rfl
    apply lexg_end
    rotate_left
    · rfl
    intro u hR hD
    clear hR hD
    refine tail_store (by rfl) ?_; unfold opStore; go_simp
    refine tail_store (by rfl) ?_; unfold opStore; go_simp
    refine tail_end ?_
    go_wp2
    refine bodyPost_ret (by (simp [results, Tryz.results153, go_sem] <;> rfl)) rfl ?_
    exact ⟨ret_w2 (by rw [← Hr1.out]) (by rw [← Hr2.out]), (by repeat (first | with_reducible exact Grew.refl _ | with_reducible apply Grew.alloc | with_reducible apply Grew.later | with_reducible apply Grew.drew | with_reducible apply Grew.store | with_reducible assumption))⟩
  · have hlt : decide ((mkW b).h < 0) = false := by rw [hbh]; simp; omega
    have HU := Lib.hid (fun w => wUp32_any a (by omega) w)
    have HQ := Lib.hid (fun w => wQuotient_any (a * 4294967296) b (by omega) (by omega) (by omega) (by omega) w)
    have Hr1 := Lib.hid (show downZ (a * 4294967296) b = ratDown a b by unfold ratDown; rw [if_neg hs])
    have Hr2 := Lib.hid (show upZ (a * 4294967296) b = ratUp a b by unfold ratUp; rw [if_neg hs])
    clear ha hb Ha Hb h0 hs hbh
    go_enter Tryz.func153, Tryz.ntmps153
    go_wp2
    refine wp_region_grown 6 [] [1, 3] [] (fun W0 => []) [.agg #[.int .i64 ((mkW (a * 4294967296))).h, .int .u64 ((mkW (a * 4294967296))).l], .tuple #[.agg #[.int .i64 ((mkW (downZ (a * 4294967296) b))).h, .int .u64 ((mkW (downZ (a * 4294967296) b))).l], .agg #[.int .i64 ((mkW (upZ (a * 4294967296) b))).h, .int .u64 ((mkW (upZ (a * 4294967296) b))).l]]] [6, 7] (by rfl) (fun _ x hx => absurd hx (List.not_mem_nil)) (by kernel_rfl) (by kernel_rfl) (by kernel_rfl) ?_
    intro p
    apply Exists.intro
    apply And.intro
    apply lexg_pure (by kernel_rfl)
    · intro u; unfold opPure; go_simp; rfl
    apply lexg_call 0 (by kernel_rfl) (by rfl) (by decide)
    · intro u hF; clear hF; unfold opCall; go_simp; exact HU.out _
    apply lexg_pure (by kernel_rfl)
    · intro u; unfold opPure; go_simp; rfl
    apply lexg_call 1 (by kernel_rfl) (by rfl) (by decide)
    · intro u hF; clear hF; unfold opCall; go_simp; exact HQ.out _
    apply lexg_pure (by kernel_rfl)
    · intro u; unfold opPure; go_simp; rfl
    apply lexg_pure (by kernel_rfl)
    · intro u; unfold opPure; go_simp; rfl
    apply lexg_end
    rotate_left
    · rfl
    intro u hR hD
    clear hR hD
    refine tail_store (by rfl) ?_; unfold opStore; go_simp
    refine tail_store (by rfl) ?_; unfold opStore; go_simp
    refine tail_end ?_
    go_wp2
    refine bodyPost_ret (by (simp [results, Tryz.results153, go_sem] <;> rfl)) rfl ?_
    exact ⟨ret_w2 (by rw [← Hr1.out]) (by rw [← Hr2.out]), (by repeat (first | with_reducible exact Grew.refl _ | with_reducible apply Grew.alloc | with_reducible apply Grew.later | with_reducible apply Grew.drew | with_reducible apply Grew.store | with_reducible assumption))⟩
end Go.Proofs.YtochpnomfedhoaaGreat
