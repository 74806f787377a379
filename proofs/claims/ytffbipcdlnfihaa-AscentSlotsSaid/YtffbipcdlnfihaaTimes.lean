/-
  Contracts of the functions on windows and times (ascent, ullageref04).
-/
import Derived.Test.YtffbipcdlnfihaaProg
import Derived.Test.YtffbipcdlnfihaaCore
namespace Go.Proofs.Ytffbipcdlnfihaa
open Go.RowKit

theorem mod_any (n b : Int) (w : World) (hb : 1 ≤ b) (hb2 : b ≤ 1073741824) :
    Calls Try.prog 22 #[.int .i64 n, .int .i64 b] w fun e w' => e = .returned (.int .i64 (n % b)) ∧ Grew w w' := by
  have h := tmod_bd n b hb
  go_enter Try.func22, Try.ntmps22
  go_wp2
  go_ret
  exact ⟨ret_int (by simp [tmod_emod n b]), Grew.refl _⟩

def validB (P F L : Int) : Bool := decide (1 ≤ P ∧ P ≤ 1073741824 ∧ -1073741824 ≤ F ∧ F ≤ 1073741824 ∧ 0 ≤ L ∧ L ≤ P)
theorem validB_iff (P F L : Int) : validB P F L = true ↔ (1 ≤ P ∧ P ≤ 1073741824 ∧ -1073741824 ≤ F ∧ F ≤ 1073741824 ∧ 0 ≤ L ∧ L ≤ P) := by simp [validB]
theorem valid_any (P F L : Int) (w : World) :
    Calls Try.prog 18 #[.agg #[.int .i64 P, .int .i64 F, .int .i64 L]] w fun e w' => e = .returned (.bool (validB P F L)) ∧ Grew w w' := by
  go_enter Try.func18, Try.ntmps18
  go_wp2
  all_goals go_ret
  all_goals exact ⟨ret_bool (Bool.eq_iff_iff.2 (by simp [validB]; try omega)), (Grew.refl _).alloc _⟩

def limB (t : Int) : Bool := decide (-1152921504606846976 ≤ t ∧ t ≤ 1152921504606846976)
theorem limited_any (t : Int) (w : World) :
    Calls Try.prog 19 #[.int .i64 t] w fun e w' => e = .returned (.bool (limB t)) ∧ Grew w w' := by
  go_enter Try.func19, Try.ntmps19
  go_wp2
  all_goals go_ret
  all_goals exact ⟨ret_bool (Bool.eq_iff_iff.2 (by simp [limB]; try omega)), Grew.refl _⟩

theorem place_any (P F L t : Int) (w : World) (hb : 1 ≤ P) (hb2 : P ≤ 1073741824) :
    Calls Try.prog 20 #[.agg #[.int .i64 P, .int .i64 F, .int .i64 L], .int .i64 t] w fun e w' => e = .returned (.int .i64 ((t - F) % P)) ∧ Grew w w' := by
  have h1 := Int.emod_nonneg t (show P ≠ 0 by omega)
  have h2 := Int.emod_lt_of_pos t (show 0 < P by omega)
  have h3 := Int.emod_nonneg F (show P ≠ 0 by omega)
  have h4 := Int.emod_lt_of_pos F (show 0 < P by omega)
  go_enter Try.func20, Try.ntmps20
  go_wp2_with (first | (go_at_call 22; (with_reducible refine call_later (mod_any _ _ _ hb hb2) ?_); intro u) | ((with_reducible refine wp_region_later ?_ ?_ ?_); (· kernel_rfl); (· kernel_rfl); (try simp only [List.append_eq, List.cons_append, List.nil_append]); (repeat (go_big_quiet_step ((first | (go_at_call 22; (with_reducible exact call_quiet (mod_any _ _ _ hb hb2))))))); refine wpQuiet_nil ?_; rintro _ ⟨u, rfl⟩))
  go_ret
  exact ⟨ret_int (by rw [← Int.sub_emod]), ((Grew.refl _).alloc _).later _⟩

def containsB (P F L t : Int) : Bool := validB P F L && decide ((t - F) % P < L)
theorem contains_any (P F L t : Int) (w : World) :
    Calls Try.prog 8 #[.agg #[.int .i64 P, .int .i64 F, .int .i64 L], .int .i64 t] w fun e w' => e = .returned (.bool (containsB P F L t)) ∧ Grew w w' := by
  cases hv : validB P F L
  · go_enter Try.func8, Try.ntmps8
    go_wp2_with (first | (go_at_call 18; (with_reducible refine call_later (is_bool hv (valid_any _ _ _ _)) ?_); intro u) | ((with_reducible refine wp_region_later ?_ ?_ ?_); (· kernel_rfl); (· kernel_rfl); (try simp only [List.append_eq, List.cons_append, List.nil_append]); (repeat (go_big_quiet_step ((first | (go_at_call 18; (with_reducible exact call_quiet (is_bool hv (valid_any _ _ _ _)))))))); refine wpQuiet_nil ?_; rintro _ ⟨u, rfl⟩))
    go_ret
    exact ⟨ret_bool (by simp [containsB, hv]), ((Grew.refl _).alloc _).later _⟩
  · have hv' := (validB_iff P F L).1 hv
    have hb := hv'.1
    have hb2 := hv'.2.1
    clear hv'
    go_enter Try.func8, Try.ntmps8
    go_wp2_with (first | (go_at_call 18; (with_reducible refine call_later (is_bool hv (valid_any _ _ _ _)) ?_); intro u) | (go_at_call 20; (with_reducible refine call_later (place_any _ _ _ _ _ hb hb2) ?_); intro u) | ((with_reducible refine wp_region_later ?_ ?_ ?_); (· kernel_rfl); (· kernel_rfl); (try simp only [List.append_eq, List.cons_append, List.nil_append]); (repeat (go_big_quiet_step ((first | (go_at_call 18; (with_reducible exact call_quiet (is_bool hv (valid_any _ _ _ _)))) | (go_at_call 20; (with_reducible exact call_quiet (place_any _ _ _ _ _ hb hb2))))))); refine wpQuiet_nil ?_; rintro _ ⟨u, rfl⟩))
    go_ret
    exact ⟨ret_bool (by simp [containsB, hv]), ((Grew.refl _).alloc _).later _⟩

/-! The reference. -/
/-- After how many ticks a window changes. -/
def changeZ (P F L t : Int) : Int := if L = 0 ∨ L = P then 2305843009213693952 else if (t - F) % P < L then L - (t - F) % P else P - (t - F) % P
end Go.Proofs.Ytffbipcdlnfihaa
