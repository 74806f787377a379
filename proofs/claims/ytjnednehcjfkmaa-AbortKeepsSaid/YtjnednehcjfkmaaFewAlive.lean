/-
  Contracts: ullagelaw11's point, of, alive.
-/
import Derived.Test.YtjnednehcjfkmaaPlanAll
import Derived.Test.YtjnednehcjfkmaaAbSep
namespace Go.Proofs.Ytjnednehcjfkmaa
open Go.RowKit
set_option maxRecDepth 100000
set_option maxHeartbeats 8000000
theorem point11_any (n : Int) (w : World) : Calls Try.prog 12 #[.int .i64 n] w fun e w' => e = .returned (.agg #[.int .i64 n, .int .i64 n]) ∧ Grew w w' := by
  go_enter Try.func12, Try.ntmps12
  go_wp2
  refine bodyPost_ret (by (simp [results, Try.results12, go_sem] <;> rfl)) rfl ?_
  exact ⟨rfl, (by repeat (first | with_reducible exact Grew.refl _ | with_reducible apply Grew.alloc | with_reducible apply Grew.later | with_reducible apply Grew.drew | with_reducible apply Grew.store | with_reducible assumption))⟩
theorem of11_any (x y z : Int) (hx : -1000 ≤ x ∧ x ≤ 1000) (hy : -1000 ≤ y ∧ y ≤ 1000) (hz : -1000 ≤ z ∧ z ≤ 1000) (w : World) : Calls Try.prog 21 #[.int .i64 x, .int .i64 y, .int .i64 z] w fun e w' => e = .returned (.agg #[.int .i64 ((⟨wholeS x, wholeS y, wholeS z⟩ : Bx)).x.lo, .int .i64 ((⟨wholeS x, wholeS y, wholeS z⟩ : Bx)).x.hi, .int .i64 ((⟨wholeS x, wholeS y, wholeS z⟩ : Bx)).y.lo, .int .i64 ((⟨wholeS x, wholeS y, wholeS z⟩ : Bx)).y.hi, .int .i64 ((⟨wholeS x, wholeS y, wholeS z⟩ : Bx)).z.lo, .int .i64 ((⟨wholeS x, wholeS y, wholeS z⟩ : Bx)).z.hi]) ∧ Grew w w' := by
  obtain ⟨hx1, hx2⟩ := hx
  obtain ⟨hy1, hy2⟩ := hy
  obtain ⟨hz1, hz2⟩ := hz
  go_enter Try.func21, Try.ntmps21
  go_wp2_with (first | (go_at_call 12; (with_reducible refine call_later (point11_any _ _) ?_); intro u) | ((with_reducible refine wp_region_later ?_ ?_ ?_); (· kernel_rfl); (· kernel_rfl); (repeat (go_big_quiet_step ((first | (go_at_call 12; (with_reducible exact call_quiet (point11_any _ _))))))); refine wpQuiet_nil ?_; rintro _ ⟨u, rfl⟩))
  refine bodyPost_ret (by (simp [results, Try.results21, go_sem] <;> rfl)) rfl ?_
  exact ⟨rfl, (by repeat (first | with_reducible exact Grew.refl _ | with_reducible apply Grew.alloc | with_reducible apply Grew.later | with_reducible apply Grew.drew | with_reducible apply Grew.store | with_reducible assumption))⟩
theorem plan_ex (v : Value) (w : World) (h : SlAt w v 4 (List.flatMap intC [3, 2, 2, 1])) : Calls Try.prog 7 #[v] w fun e w' => ∃ v', e = .returned (.tuple #[v', .int .i64 1, .int .i64 0]) ∧ SlAt w' v' 4 (List.flatMap intC [1, 1, 1, 0]) ∧ Grew w w' := by
  refine (abPlan_any [3, 2, 2, 1] v w h).mono ?_
  rintro e w' ⟨v', rfl, h1, h2⟩
  have e1 : planNR [3, 2, 2, 1] = 1 := by kernel_rfl
  have e2 : masksCode [3, 2, 2, 1] = 0 := by kernel_rfl
  have e3 : planR [3, 2, 2, 1] = [1, 1, 1, 0] := by kernel_rfl
  rw [e3] at h1
  exact ⟨v', by rw [e1, e2], h1, h2⟩
def exMo : Mo := ⟨⟨wholeS 10, wholeS 0, wholeS 0⟩, ⟨wholeS (-1), wholeS 0, wholeS 0⟩, ⟨wholeS 0, wholeS 0, wholeS 0⟩, 17179869184, 4⟩
theorem clear_ex (w : World) : Calls Try.prog 11 #[.agg #[.int .i64 ((⟨wholeS 10, wholeS 0, wholeS 0⟩ : Bx)).x.lo, .int .i64 ((⟨wholeS 10, wholeS 0, wholeS 0⟩ : Bx)).x.hi, .int .i64 ((⟨wholeS 10, wholeS 0, wholeS 0⟩ : Bx)).y.lo, .int .i64 ((⟨wholeS 10, wholeS 0, wholeS 0⟩ : Bx)).y.hi, .int .i64 ((⟨wholeS 10, wholeS 0, wholeS 0⟩ : Bx)).z.lo, .int .i64 ((⟨wholeS 10, wholeS 0, wholeS 0⟩ : Bx)).z.hi], .agg #[.int .i64 ((⟨wholeS (-1), wholeS 0, wholeS 0⟩ : Bx)).x.lo, .int .i64 ((⟨wholeS (-1), wholeS 0, wholeS 0⟩ : Bx)).x.hi, .int .i64 ((⟨wholeS (-1), wholeS 0, wholeS 0⟩ : Bx)).y.lo, .int .i64 ((⟨wholeS (-1), wholeS 0, wholeS 0⟩ : Bx)).y.hi, .int .i64 ((⟨wholeS (-1), wholeS 0, wholeS 0⟩ : Bx)).z.lo, .int .i64 ((⟨wholeS (-1), wholeS 0, wholeS 0⟩ : Bx)).z.hi], .agg #[.int .i64 ((⟨wholeS 0, wholeS 0, wholeS 0⟩ : Bx)).x.lo, .int .i64 ((⟨wholeS 0, wholeS 0, wholeS 0⟩ : Bx)).x.hi, .int .i64 ((⟨wholeS 0, wholeS 0, wholeS 0⟩ : Bx)).y.lo, .int .i64 ((⟨wholeS 0, wholeS 0, wholeS 0⟩ : Bx)).y.hi, .int .i64 ((⟨wholeS 0, wholeS 0, wholeS 0⟩ : Bx)).z.lo, .int .i64 ((⟨wholeS 0, wholeS 0, wholeS 0⟩ : Bx)).z.hi], .int .i64 17179869184, .int .i64 4] w fun e w' => e = .returned (.tuple #[.int .i64 25769803776, .int .i64 0]) ∧ Grew w w' := by
  have e : clearR exMo = (25769803776, 0) := by kernel_rfl
  have s : ∀ n : Int, n = 10 ∨ n = 0 ∨ n = -1 → S64 (wholeS n) := by
    intro n hn
    constructor <;> (unfold I64 wholeS; simp only []; omega)
  have hM : Mo64 exMo := ⟨⟨s _ (by decide), s _ (by decide), s _ (by decide)⟩, ⟨s _ (by decide), s _ (by decide), s _ (by decide)⟩, ⟨s _ (by decide), s _ (by decide), s _ (by decide)⟩⟩
  refine (abClearP_any exMo (by unfold I64 exMo; simp) w).mono ?_
  rintro e' w' ⟨rfl, h2⟩
  rw [e]
  exact ⟨rfl, h2⟩
theorem alive11_any (w : World) : Calls Try.prog 6 #[] w fun e w' => e = .returned (.bool true) ∧ Grew w w' := by
  go_enter Try.func6, Try.ntmps6
  go_wp2_with (first | (go_at_call 7; refine (plan_ex _ _ (SlAt.fresh _ _ _ _ (by simp [maxLen]))).mono ?_; rintro e w1 ⟨va, rfl, sa, ga⟩; obtain ⟨u1, rfl⟩ := later_of ga; clear ga; obtain ⟨b1, o1, c1, e1, i1, d0⟩ := int_cell (l := [1, 1, 1, 0]) sa 0 (by decide); obtain ⟨b2, o2, c2, e2, i2, d1⟩ := int_cell (l := [1, 1, 1, 0]) sa 1 (by decide); obtain ⟨b3, o3, c3, e3, i3, d2⟩ := int_cell (l := [1, 1, 1, 0]) sa 2 (by decide); obtain ⟨b4, o4, c4, e4, i4, d3⟩ := int_cell (l := [1, 1, 1, 0]) sa 3 (by decide); cases e1; cases e2; cases e3; cases e4; simp at d0 d1 d2 d3) | (go_at_call 21; (refine call_later (of11_any _ _ _ (by decide) (by decide) (by decide) _) ?_); intro u) | (go_at_call 11; (refine call_later (clear_ex _) ?_); intro u))
  all_goals go_ret
  all_goals exact ⟨rfl, (by repeat (first | with_reducible exact Grew.refl _ | with_reducible apply Grew.alloc | with_reducible apply Grew.later | with_reducible apply Grew.drew | with_reducible apply Grew.store | with_reducible assumption))⟩
end Go.Proofs.Ytjnednehcjfkmaa
