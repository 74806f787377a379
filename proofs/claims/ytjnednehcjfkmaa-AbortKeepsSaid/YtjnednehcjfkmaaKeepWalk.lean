/-
  Contract: ullagelaw11's pick.
-/
import Derived.Test.YtjnednehcjfkmaaLexAll
import Derived.Test.YtjnednehcjfkmaaNumAll
import Derived.Test.YtjnednehcjfkmaaCore
import Derived.Test.YtjnednehcjfkmaaChecks
namespace Go.Proofs.Ytjnednehcjfkmaa
open Go.RowKit
set_option maxRecDepth 100000
set_option maxHeartbeats 8000000
/-- A number of a span, by a number of 64 bits. -/
def pickZ (a : Sp) (b : Int) : Int := a.lo + b % (a.hi - a.lo + 1)
theorem pickZ_in (a : Sp) (b : Int) (h : a.lo ≤ a.hi) : a.lo ≤ pickZ a b ∧ pickZ a b ≤ a.hi := by
  unfold pickZ
  have h1 := Int.emod_nonneg b (show a.hi - a.lo + 1 ≠ 0 by omega)
  have h2 := Int.emod_lt_of_pos b (show 0 < a.hi - a.lo + 1 by omega)
  omega
theorem pick11_any (a : Sp) (b : Int) [ha : S64 a] (hk : a.okB = true) (hb : U64 b) (w : World) : Calls Try.prog 13 #[.agg #[.int .i64 a.lo, .int .i64 a.hi], .int .u64 b] w fun e w' => e = .returned (.int .i64 (pickZ a b)) ∧ Grew w w' := by
  obtain ⟨k1, k2, k3⟩ := okB_num hk
  have a1 := ha.lo.2
  have a2 := ha.hi.2
  unfold U64 at hb
  obtain ⟨b1, b2⟩ := hb
  have hn := pickZ_in a b k3
  have hpz : pickZ a b = a.lo + b % (a.hi - a.lo + 1) := rfl
  have e0 : IntKind.u64.wrap (IntKind.u64.wrap a.hi - IntKind.u64.wrap a.lo) = a.hi - a.lo := by rw [IntKind.wrap_u64, IntKind.wrap_u64, IntKind.wrap_u64]; omega
  have e1 : IntKind.u64.wrap (a.hi - a.lo + 1) = a.hi - a.lo + 1 := by rw [IntKind.wrap_u64]; omega
  have e2 : b.tmod (a.hi - a.lo + 1) = b % (a.hi - a.lo + 1) := Int.tmod_eq_emod_of_nonneg b1
  have H3 := Lib.hid (show IntKind.i64.wrap (IntKind.u64.wrap (IntKind.u64.wrap a.lo + b % (a.hi - a.lo + 1))) = pickZ a b by rw [hpz] at hn ⊢; rw [IntKind.wrap_u64, IntKind.wrap_u64, IntKind.wrap_i64]; omega)
  have hd1 : 0 ≤ a.hi - a.lo ∧ a.hi - a.lo ≤ 18446744073709551614 := by omega
  obtain ⟨hd2, hd3⟩ := hd1
  clear hn hpz
  generalize a.hi - a.lo = d at *
  have hne : (d == 18446744073709551615) = false := by simp; omega
  have hne2 : (d + 1 == 0) = false := by simp; omega
  generalize b % (d + 1) = q at *
  go_enter Try.func13, Try.ntmps13
  go_wp2_with (first | ((with_reducible refine wp_region_later ?_ ?_ ?_); (· kernel_rfl); (· kernel_rfl); (repeat (go_big_quiet_step (fail))); refine wpQuiet_nil ?_; rintro _ ⟨u, rfl⟩))
  go_ret
  exact ⟨ret_int (by have := H3.out; rw [IntKind.wrap_i64] at this; rw [← this]; unfold wrap64; omega), (by repeat (first | with_reducible exact Grew.refl _ | with_reducible apply Grew.alloc | with_reducible apply Grew.later | with_reducible apply Grew.drew | with_reducible apply Grew.store | with_reducible assumption))⟩
end Go.Proofs.Ytjnednehcjfkmaa
