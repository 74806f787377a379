/-
  Contract of nav.CheckRadio.
-/
import Derived.Test.YtdkfkalplmgoeaaRadio
namespace Go.Proofs.Ytdkfkalplmgoeaa
open Go.RowKit
set_option maxRecDepth 100000
set_option maxHeartbeats 16000000
theorem bx_ok (b : Bx) : b.okB = (b.x.okB && b.y.okB && b.z.okB) := by
  first | rfl | (unfold Bx.okB; simp [Bool.and_assoc])
/-- What nav's loop has seen to be right. -/
def radioTo (m : Radio) (k : Nat) : Prop := ∀ i, i < k → (m.place.at i).okB = true ∧ (m.dir.at i).okB = true
theorem radio_no (m : Radio) (k : Nat) (hk : k < 3) (h : (m.place.at k).okB = false ∨ (m.dir.at k).okB = false) : (m.place.okB && m.dir.okB) = false := by
  rcases h with h | h
  · rw [boxB_no m.place k hk h, Bool.false_and]
  · rw [boxB_no m.dir k hk h, Bool.and_false]
theorem radio_yes (m : Radio) (h : radioTo m 3) : (m.place.okB && m.dir.okB) = true := by
  have h0 := h 0 (by omega)
  have h1 := h 1 (by omega)
  have h2 := h 2 (by omega)
  rw [bx_ok, bx_ok]
  simp only [Bx.at] at h0 h1 h2
  simp [h0, h1, h2]
theorem navRadio_any (m : Radio) (w : World) : Calls Try.prog 12 #[.agg #[.int .i64 m.kind, .int .i64 m.place.x.lo, .int .i64 m.place.x.hi, .int .i64 m.place.y.lo, .int .i64 m.place.y.hi, .int .i64 m.place.z.lo, .int .i64 m.place.z.hi, .int .i64 m.dir.x.lo, .int .i64 m.dir.x.hi, .int .i64 m.dir.y.lo, .int .i64 m.dir.y.hi, .int .i64 m.dir.z.lo, .int .i64 m.dir.z.hi, .int .i64 m.value.lo, .int .i64 m.value.hi]] w fun e w' => e = .returned (.int .i64 (codeB m.okB 2)) ∧ Grew w w' := by
  have HC := Lib.hid (show m.okB = (decide (0 ≤ m.kind) && decide (m.kind ≤ 3) && m.place.okB && m.dir.okB && m.value.okB) from rfl)
  have HV := Lib.hid (fun w' => spCheck_any m.value w')
  have HS := Lib.hid (fun a w' => spCheck_any a w')
  by_cases k0 : m.kind < 0
  · have Hr := Lib.hid (show codeB m.okB 2 = 2 by rw [HC.out, decide_eq_false (by omega)]; rfl)
    go_enter Try.func12, Try.ntmps12
    go_wp2_with (first | (go_at_call 32; (with_reducible refine call_later (HV.out _) ?_); intro u))
    go_ret
    exact ⟨ret_int Hr.out.symm, gw⟩
  by_cases k3 : 3 < m.kind
  · have Hr := Lib.hid (show codeB m.okB 2 = 2 by rw [HC.out, decide_eq_false (show ¬ m.kind ≤ 3 by omega), Bool.and_false]; rfl)
    go_enter Try.func12, Try.ntmps12
    go_wp2_with (first | (go_at_call 32; (with_reducible refine call_later (HV.out _) ?_); intro u))
    go_ret
    exact ⟨ret_int Hr.out.symm, gw⟩
  cases hv : m.value.okB
  · have Hr := Lib.hid (show codeB m.okB 2 = 2 by rw [HC.out, hv, Bool.and_false]; rfl)
    have HV' := Lib.hid (fun w' => is_int (show codeB m.value.okB 2 = 2 by rw [hv]; rfl) (HV.out w'))
    clear HV
    go_enter Try.func12, Try.ntmps12
    go_wp2_with (first | (go_at_call 32; (with_reducible refine call_later (HV'.out _) ?_); intro u))
    go_ret
    exact ⟨ret_int Hr.out.symm, gw⟩
  have HV' := Lib.hid (fun w' => is_int (show codeB m.value.okB 2 = 0 by rw [hv]; rfl) (HV.out w'))
  have Hk := Lib.hid (show m.okB = (m.place.okB && m.dir.okB) by rw [HC.out, decide_eq_true (show 0 ≤ m.kind by omega), decide_eq_true (show m.kind ≤ 3 by omega), hv]; simp)
  clear HV HC
  go_enter Try.func12, Try.ntmps12
  go_wp2_with (first | (go_at_call 32; (with_reducible refine call_later (HV'.out _) ?_); intro u))
  go_loopw [18] (fun t wr => ∃ k : Nat, t = .int .i64 k ∧ k ≤ 3 ∧ radioTo m k ∧ Grew u.world wr) (fun t _ => 3 - (intOf t).toNat)
  case atStart => exact ⟨0, rfl, by omega, fun j hj => by omega, gw⟩
  case round =>
    obtain ⟨k, rfl, hk, hall, hg⟩ := hrel
    obtain ⟨x, rfl⟩ := later_of hg
    clear hg
    have Hall := Lib.hid hall
    clear hall
    by_cases hlt : k < 3
    · rcases (show k = 0 ∨ k = 1 ∨ k = 2 by omega) with rfl | rfl | rfl
      · skip
        cases h1 : (m.place.x).okB
        · have H1 := Lib.hid (fun w' => is_int (show codeB (m.place.x).okB 2 = 2 by rw [h1]; rfl) (HS.out (m.place.x) w'))
          have Hr := Lib.hid (show codeB m.okB 2 = 2 by rw [Hk.out, radio_no m 0 (by omega) (.inl h1)]; rfl)
          clear h1
          go_wp2_with (first | (go_at_call 32; (with_reducible refine call_later (H1.out _) ?_); intro u))
          go_ret
          exact ⟨ret_int Hr.out.symm, gw⟩
        · have H1 := Lib.hid (fun w' => is_int (show codeB (m.place.x).okB 2 = 0 by rw [h1]; rfl) (HS.out (m.place.x) w'))
          cases h2 : (m.dir.x).okB
          · have H2 := Lib.hid (fun w' => is_int (show codeB (m.dir.x).okB 2 = 2 by rw [h2]; rfl) (HS.out (m.dir.x) w'))
            have Hr := Lib.hid (show codeB m.okB 2 = 2 by rw [Hk.out, radio_no m 0 (by omega) (.inr h2)]; rfl)
            clear h1 h2
            go_wp2_with (first | (go_at_call 32; (with_reducible refine call_later (H1.out _) ?_); intro u) | (go_at_call 32; (with_reducible refine call_later (H2.out _) ?_); intro u))
            go_ret
            exact ⟨ret_int Hr.out.symm, gw⟩
          · have H2 := Lib.hid (fun w' => is_int (show codeB (m.dir.x).okB 2 = 0 by rw [h2]; rfl) (HS.out (m.dir.x) w'))
            have Hn := Lib.hid (show radioTo m (0 + 1) by
              intro j hj
              rcases Nat.lt_succ_iff_lt_or_eq.1 hj with hj | rfl
              · exact Hall.out j hj
              · exact ⟨h1, h2⟩)
            clear h1 h2
            go_wp2_with (first | (go_at_call 32; (with_reducible refine call_later (H1.out _) ?_); intro u) | (go_at_call 32; (with_reducible refine call_later (H2.out _) ?_); intro u))
            go_roundw
            case rel => exact ⟨0 + 1, rfl, by omega, Hn.out, gw⟩
            case measure => first | (simp [intOf]; done) | (simp [intOf]; omega)
      · skip
        cases h1 : (m.place.y).okB
        · have H1 := Lib.hid (fun w' => is_int (show codeB (m.place.y).okB 2 = 2 by rw [h1]; rfl) (HS.out (m.place.y) w'))
          have Hr := Lib.hid (show codeB m.okB 2 = 2 by rw [Hk.out, radio_no m 1 (by omega) (.inl h1)]; rfl)
          clear h1
          go_wp2_with (first | (go_at_call 32; (with_reducible refine call_later (H1.out _) ?_); intro u))
          go_ret
          exact ⟨ret_int Hr.out.symm, gw⟩
        · have H1 := Lib.hid (fun w' => is_int (show codeB (m.place.y).okB 2 = 0 by rw [h1]; rfl) (HS.out (m.place.y) w'))
          cases h2 : (m.dir.y).okB
          · have H2 := Lib.hid (fun w' => is_int (show codeB (m.dir.y).okB 2 = 2 by rw [h2]; rfl) (HS.out (m.dir.y) w'))
            have Hr := Lib.hid (show codeB m.okB 2 = 2 by rw [Hk.out, radio_no m 1 (by omega) (.inr h2)]; rfl)
            clear h1 h2
            go_wp2_with (first | (go_at_call 32; (with_reducible refine call_later (H1.out _) ?_); intro u) | (go_at_call 32; (with_reducible refine call_later (H2.out _) ?_); intro u))
            go_ret
            exact ⟨ret_int Hr.out.symm, gw⟩
          · have H2 := Lib.hid (fun w' => is_int (show codeB (m.dir.y).okB 2 = 0 by rw [h2]; rfl) (HS.out (m.dir.y) w'))
            have Hn := Lib.hid (show radioTo m (1 + 1) by
              intro j hj
              rcases Nat.lt_succ_iff_lt_or_eq.1 hj with hj | rfl
              · exact Hall.out j hj
              · exact ⟨h1, h2⟩)
            clear h1 h2
            go_wp2_with (first | (go_at_call 32; (with_reducible refine call_later (H1.out _) ?_); intro u) | (go_at_call 32; (with_reducible refine call_later (H2.out _) ?_); intro u))
            go_roundw
            case rel => exact ⟨1 + 1, rfl, by omega, Hn.out, gw⟩
            case measure => first | (simp [intOf]; done) | (simp [intOf]; omega)
      · skip
        cases h1 : (m.place.z).okB
        · have H1 := Lib.hid (fun w' => is_int (show codeB (m.place.z).okB 2 = 2 by rw [h1]; rfl) (HS.out (m.place.z) w'))
          have Hr := Lib.hid (show codeB m.okB 2 = 2 by rw [Hk.out, radio_no m 2 (by omega) (.inl h1)]; rfl)
          clear h1
          go_wp2_with (first | (go_at_call 32; (with_reducible refine call_later (H1.out _) ?_); intro u))
          go_ret
          exact ⟨ret_int Hr.out.symm, gw⟩
        · have H1 := Lib.hid (fun w' => is_int (show codeB (m.place.z).okB 2 = 0 by rw [h1]; rfl) (HS.out (m.place.z) w'))
          cases h2 : (m.dir.z).okB
          · have H2 := Lib.hid (fun w' => is_int (show codeB (m.dir.z).okB 2 = 2 by rw [h2]; rfl) (HS.out (m.dir.z) w'))
            have Hr := Lib.hid (show codeB m.okB 2 = 2 by rw [Hk.out, radio_no m 2 (by omega) (.inr h2)]; rfl)
            clear h1 h2
            go_wp2_with (first | (go_at_call 32; (with_reducible refine call_later (H1.out _) ?_); intro u) | (go_at_call 32; (with_reducible refine call_later (H2.out _) ?_); intro u))
            go_ret
            exact ⟨ret_int Hr.out.symm, gw⟩
          · have H2 := Lib.hid (fun w' => is_int (show codeB (m.dir.z).okB 2 = 0 by rw [h2]; rfl) (HS.out (m.dir.z) w'))
            have Hn := Lib.hid (show radioTo m (2 + 1) by
              intro j hj
              rcases Nat.lt_succ_iff_lt_or_eq.1 hj with hj | rfl
              · exact Hall.out j hj
              · exact ⟨h1, h2⟩)
            clear h1 h2
            go_wp2_with (first | (go_at_call 32; (with_reducible refine call_later (H1.out _) ?_); intro u) | (go_at_call 32; (with_reducible refine call_later (H2.out _) ?_); intro u))
            go_roundw
            case rel => exact ⟨2 + 1, rfl, by omega, Hn.out, gw⟩
            case measure => first | (simp [intOf]; done) | (simp [intOf]; omega)
    · obtain rfl : k = 3 := by omega
      have Hr := Lib.hid (show codeB m.okB 2 = 0 by rw [Hk.out, radio_yes m Hall.out]; rfl)
      go_wp2
      go_ret
      exact ⟨ret_int Hr.out.symm, gw⟩
end Go.Proofs.Ytdkfkalplmgoeaa
