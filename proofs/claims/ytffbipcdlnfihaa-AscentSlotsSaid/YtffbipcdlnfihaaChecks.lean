/-
  Contracts: what is valid (span, ullageref01).
-/
import Derived.Test.YtffbipcdlnfihaaProg
import Derived.Test.YtffbipcdlnfihaaCore
namespace Go.Proofs.Ytffbipcdlnfihaa
open Go.RowKit
set_option maxRecDepth 100000
set_option maxHeartbeats 1000000

theorem spValid_any (n : Int) (w : World) : Calls Try.prog 60 #[.int .i64 n] w fun e w' => e = .returned (.bool (numB n)) ∧ Grew w w' := by
  go_enter Try.func60, Try.ntmps60
  go_wp2
  go_ret
  exact ⟨ret_bool (by unfold numB; simp), Grew.refl _⟩
theorem spCheck_any (a : Sp) (w : World) : Calls Try.prog 46 #[.agg #[.int .i64 a.lo, .int .i64 a.hi]] w fun e w' => e = .returned (.int .i64 (codeB a.okB 2)) ∧ Grew w w' := by
  rcases bool_or (numB a.lo) with h1 | h1
  rotate_left
  rcases bool_or (numB a.hi) with h2 | h2
  rotate_left
  rcases prop_or (a.lo ≤ a.hi) with h3 | h3
  rotate_left
  all_goals
    go_enter Try.func46, Try.ntmps46
    go_wp2_with (first | (go_at_call 60; (with_reducible refine call_later (spValid_any _ _) ?_); intro u))
    go_ret
    exact ⟨ret_int (by (first | (rw [show a.okB = true from by simp [Sp.okB, *]]; rfl) | (rw [show a.okB = false from by simp [Sp.okB, *] <;> omega]; rfl) | (rw [show a.okB = true from by simp [Sp.okB, *] <;> omega]; rfl))), gw⟩
theorem spChecked_any (l : List Sp) (v : Value) (w : World) (h : SlAt w v l.length (l.flatMap Sp.cells)) : Calls Try.prog 56 #[v] w fun e w' => e = .returned (.int .i64 (codeB (l.all Sp.okB) 2)) ∧ Grew w w' := by
  obtain ⟨ao, cap, rfl, hm, hc⟩ := h
  unfold maxLen at hm
  have Hc := Lib.hid (SlAt.elem (f := Sp.cells) (c := 2) (fun _ => rfl) (by omega) hc)
  clear hc
  go_enter Try.func56, Try.ntmps56
  go_wp2
  go_loopw [8] (fun t wr => ∃ k : Nat, t = .int .i64 k ∧ k ≤ l.length ∧ (l.take k).all Sp.okB = true ∧ Grew w wr) (fun t _ => l.length - (intOf t).toNat)
  case atStart => exact ⟨0, rfl, by omega, rfl, Grew.refl _⟩
  case round =>
    obtain ⟨k, rfl, hk, hall, hg⟩ := hrel
    obtain ⟨x, rfl⟩ := later_of hg
    clear hg
    have Hall := Lib.hid hall
    clear hall
    by_cases hlt : k < l.length
    · obtain ⟨b1, o1, rfl, i1, hd1, hd2⟩ := Hc.out k hlt
      have hd1 := hd1 _ rfl
      have hd2 := hd2 1 _ rfl
      have i1 : BlockIn w b1 := ⟨i1⟩
      cases h : l[k].okB
      · go_wp2_with (first | (go_at_call 46; (with_reducible refine call_later (spCheck_any _ _) ?_); intro u))
        go_ret
        exact ⟨ret_int (by rw [all_false _ _ _ hlt h]; rfl), gw⟩
      · go_wp2_with (first | (go_at_call 46; (with_reducible refine call_later (spCheck_any _ _) ?_); intro u))
        go_roundw
        case rel => exact ⟨k + 1, by go_num, by omega, all_take_succ _ _ _ hlt Hall.out h, gw⟩
        case measure => simp [intOf]; omega
    · go_wp2
      go_ret
      exact ⟨ret_int (by rw [all_true _ _ _ (by omega) Hall.out]; rfl), x.grew⟩

theorem spChecked_two (a b : Sp) (v : Value) (w : World) (h : SlAt w v 2 [.int .i64 a.lo, .int .i64 a.hi, .int .i64 b.lo, .int .i64 b.hi]) : Calls Try.prog 56 #[v] w fun e w' => e = .returned (.int .i64 (codeB (a.okB && b.okB) 2)) ∧ Grew w w' := by
  have := spChecked_any [a, b] v w h
  simpa using this
theorem spIn_any (a : Sp) (n : Int) (w : World) : Calls Try.prog 58 #[.agg #[.int .i64 a.lo, .int .i64 a.hi], .int .i64 n] w fun e w' => e = .returned (.bool (a.hasB n)) ∧ Grew w w' := by
  rcases bool_or (a.okB) with h1 | h1
  rotate_left
  rcases prop_or (a.lo ≤ n) with h2 | h2
  rotate_left
  rcases prop_or (n ≤ a.hi) with h3 | h3
  rotate_left
  all_goals
    go_enter Try.func58, Try.ntmps58
    go_wp2_with (first | (go_at_call 46; (with_reducible refine call_later (spCheck_any _ _) ?_); intro u))
    go_ret
    exact ⟨ret_bool (by (first | (simp [Sp.hasB, *]; done) | (simp [Sp.hasB, *] <;> omega) | (simp [Sp.hasB, *]; omega))), gw⟩
theorem spWithin_any (a b : Sp) (w : World) : Calls Try.prog 40 #[.agg #[.int .i64 a.lo, .int .i64 a.hi], .agg #[.int .i64 b.lo, .int .i64 b.hi]] w fun e w' => e = .returned (.bool (a.inB b)) ∧ Grew w w' := by
  rcases bool_or ((a.okB && b.okB)) with h1 | h1
  rotate_left
  rcases prop_or (b.lo ≤ a.lo) with h2 | h2
  rotate_left
  rcases prop_or (a.hi ≤ b.hi) with h3 | h3
  rotate_left
  all_goals
    go_enter Try.func40, Try.ntmps40
    go_wp2_with (first | (go_at_call 56; (with_reducible refine call_later (spChecked_two a b _ _ (SlAt.fresh _ _ _ _ (by simp [maxLen]))) ?_); intro u))
    go_ret
    exact ⟨ret_bool (by (first | (simp [Sp.inB, *]; done) | (simp [Sp.inB, *] <;> omega) | (simp [Sp.inB, *]; omega))), gw⟩
/-! The reference. -/
end Go.Proofs.Ytffbipcdlnfihaa
