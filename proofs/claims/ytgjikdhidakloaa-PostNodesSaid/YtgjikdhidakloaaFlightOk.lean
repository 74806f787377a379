/-
  Contracts: what is valid (flight).
-/
import Derived.Test.YtgjikdhidakloaaTable
namespace Go.Proofs.Ytgjikdhidakloaa
open Go.RowKit
set_option maxRecDepth 100000
set_option maxHeartbeats 1000000

theorem flSpans_any (l : List Sp) (v : Value) (w : World) (h : SlAt w v l.length (l.flatMap Sp.cells)) : Calls Try.prog 86 #[v] w fun e w' => e = .returned (.bool (l.all Sp.okB)) ∧ Grew w w' := by
  obtain ⟨ao, cap, rfl, hm, hc⟩ := h
  unfold maxLen at hm
  have Hc := Lib.hid (SlAt.elem (f := Sp.cells) (c := 2) (fun _ => rfl) (by omega) hc)
  clear hc
  go_enter Try.func86, Try.ntmps86
  go_wp2
  go_loopw [7] (fun t wr => ∃ k : Nat, t = .int .i64 k ∧ k ≤ l.length ∧ (l.take k).all Sp.okB = true ∧ Grew w wr) (fun t _ => l.length - (intOf t).toNat)
  case atStart => exact ⟨0, rfl, by omega, rfl, Grew.refl _⟩
  case round =>
    obtain ⟨k, rfl, hk, hall, hg⟩ := hrel
    obtain ⟨x, rfl⟩ := later_of hg
    clear hg
    have Hall := Lib.hid hall
    clear hall
    by_cases hlt : k < l.length
    · obtain ⟨b1, o1, rfl, i1, hd1, hd2⟩ := Hc.out k hlt
      have hd1 := hd1 _ rfl
      have hd2 := hd2 1 _ rfl
      have i1 : BlockIn w b1 := ⟨i1⟩
      cases h : l[k].okB
      · go_wp2_with (first | (go_at_call 88; (with_reducible refine call_later (spCheck_any _ _) ?_); intro u) | ((with_reducible refine wp_region_later ?_ ?_ ?_); (· kernel_rfl); (· kernel_rfl); (repeat (go_big_quiet_step ((first | (go_at_call 88; (with_reducible exact call_quiet (spCheck_any _ _))))))); refine wpQuiet_nil ?_; rintro _ ⟨u, rfl⟩))
        go_ret
        exact ⟨ret_bool (by rw [all_false _ _ _ hlt h]), (by repeat (first | with_reducible exact Grew.refl _ | with_reducible apply Grew.alloc | with_reducible apply Grew.later | with_reducible apply Grew.drew | with_reducible apply Grew.store | with_reducible assumption))⟩
      · go_wp2_with (first | (go_at_call 88; (with_reducible refine call_later (spCheck_any _ _) ?_); intro u) | ((with_reducible refine wp_region_later ?_ ?_ ?_); (· kernel_rfl); (· kernel_rfl); (repeat (go_big_quiet_step ((first | (go_at_call 88; (with_reducible exact call_quiet (spCheck_any _ _))))))); refine wpQuiet_nil ?_; rintro _ ⟨u, rfl⟩))
        go_roundw
        case rel => exact ⟨k + 1, by go_num, by omega, all_take_succ _ _ _ hlt Hall.out h, (by repeat (first | with_reducible exact Grew.refl _ | with_reducible apply Grew.alloc | with_reducible apply Grew.later | with_reducible apply Grew.drew | with_reducible apply Grew.store | with_reducible assumption))⟩
        case measure => simp [intOf]; omega
    · go_wp2
      go_ret
      exact ⟨ret_bool (by rw [all_true _ _ _ (by omega) Hall.out]), x.grew⟩
theorem flSpans_one (a : Sp) (v : Value) (w : World) (h : SlAt w v 1 [.int .i64 a.lo, .int .i64 a.hi]) : Calls Try.prog 86 #[v] w fun e w' => e = .returned (.bool a.okB) ∧ Grew w w' := by
  have := flSpans_any [a] v w h
  simpa using this
theorem flSpans_box (b : Bx) (v : Value) (w : World) (h : SlAt w v 3 [.int .i64 b.x.lo, .int .i64 b.x.hi, .int .i64 b.y.lo, .int .i64 b.y.hi, .int .i64 b.z.lo, .int .i64 b.z.hi]) : Calls Try.prog 86 #[v] w fun e w' => e = .returned (.bool b.okB) ∧ Grew w w' := by
  have := flSpans_any [b.x, b.y, b.z] v w h
  simpa [Bx.okB, Bool.and_assoc] using this
theorem flSpans_four (a b c d : Sp) (v : Value) (w : World) (h : SlAt w v 4 [.int .i64 a.lo, .int .i64 a.hi, .int .i64 b.lo, .int .i64 b.hi, .int .i64 c.lo, .int .i64 c.hi, .int .i64 d.lo, .int .i64 d.hi]) : Calls Try.prog 86 #[v] w fun e w' => e = .returned (.bool (a.okB && b.okB && c.okB && d.okB)) ∧ Grew w w' := by
  have := flSpans_any [a, b, c, d] v w h
  simpa [Bool.and_assoc] using this
end Go.Proofs.Ytgjikdhidakloaa
