/-
  Contracts: integers of 128 bits (span's big).
-/
import Derived.Test.YtffbipcdlnfihaaProg
import Derived.Test.YtffbipcdlnfihaaNumAll
import Derived.Test.YtffbipcdlnfihaaChecks
import Derived.Lib.Mul64
import Derived.Laws.Bits64b
import Derived.Laws.BitsAllLaws
namespace Go.Proofs.Ytffbipcdlnfihaa
open Go.RowKit
set_option maxRecDepth 100000
set_option maxHeartbeats 1000000

/-- The model's entry for math/bits.Sub64. -/
def sub64E : Array Value → Sem Value := fun args => do
  let (x, y, b) ← Extern.MathBitsCarry.three "Sub64" args
  pure (Extern.MathBitsCarry.pair ((x + Extern.MathBitsCarry.m64 - y - b) % Extern.MathBitsCarry.m64) (if x < y + b then 1 else 0))
theorem sub64E_run (P : Program) (x y b : Nat) (hb : b ≤ 1) (w : World) :
    (sub64E #[.int .u64 x, .int .u64 y, .int .u64 b]).run P w =
      .ok (.tuple #[.int .u64 (((x + 18446744073709551616 - y - b) % 18446744073709551616 : Nat) : Int), .int .u64 ((if x < y + b then 1 else 0 : Nat) : Int)]) w := by
  have : b = 0 ∨ b = 1 := by omega
  rcases this with rfl | rfl <;> rfl
theorem add64_run (x y c : Int) (hx : U64 x) (hy : U64 y) (hc : 0 ≤ c ∧ c ≤ 1) (w : World) :
    (callFunc 79 #[.int .u64 x, .int .u64 y, .int .u64 c]).run Try.prog w =
      .ok (.value (.tuple #[.int .u64 ((x + y + c) % 18446744073709551616), .int .u64 ((x + y + c) / 18446744073709551616)])) w := by
  unfold U64 at hx hy
  obtain ⟨x, rfl⟩ := Int.eq_ofNat_of_zero_le hx.1
  obtain ⟨y, rfl⟩ := Int.eq_ofNat_of_zero_le hy.1
  obtain ⟨c, rfl⟩ := Int.eq_ofNat_of_zero_le hc.1
  rw [run_callFunc_extern Try.func79 (by kernel_rfl) (by kernel_rfl) (by kernel_rfl) (e := add64Entry) (by kernel_rfl), run_add64 x y c (by omega) (by omega) (by omega) (by omega)]
  rfl
theorem sub64_run (x y b : Int) (hx : U64 x) (hy : U64 y) (hb : 0 ≤ b ∧ b ≤ 1) (w : World) :
    (callFunc 80 #[.int .u64 x, .int .u64 y, .int .u64 b]).run Try.prog w =
      .ok (.value (.tuple #[.int .u64 ((x - y - b) % 18446744073709551616), .int .u64 (if x < y + b then 1 else 0)])) w := by
  unfold U64 at hx hy
  obtain ⟨x, rfl⟩ := Int.eq_ofNat_of_zero_le hx.1
  obtain ⟨y, rfl⟩ := Int.eq_ofNat_of_zero_le hy.1
  obtain ⟨b, rfl⟩ := Int.eq_ofNat_of_zero_le hb.1
  rw [run_callFunc_extern Try.func80 (by kernel_rfl) (by kernel_rfl) (by kernel_rfl) (e := sub64E) (by kernel_rfl), sub64E_run _ x y b (by omega)]
  simp only [Result.andThen]
  rw [show (((x + 18446744073709551616 - y - b) % 18446744073709551616 : Nat) : Int) = (x - y - b : Int) % 18446744073709551616 by omega]
  by_cases h : x < y + b
  · rw [if_pos h, if_pos (by omega)]; rfl
  · rw [if_neg h, if_neg (by omega)]; rfl

theorem u64_join (i : Nat) (x y : Int) (hx0 : 0 ≤ x) (hx1 : x ≤ 18446744073709551615) (hx : x % 2 ^ i = 0) (hy : 0 ≤ y) (hy1 : y ≤ 18446744073709551615) (hy2 : y < 2 ^ i) : bits .or .u64 x y = x + y := by
  obtain ⟨x, rfl⟩ := Int.eq_ofNat_of_zero_le hx0
  obtain ⟨y, rfl⟩ := Int.eq_ofNat_of_zero_le hy
  have e1 : ((2 : Int) ^ i) = ((2 ^ i : Nat) : Int) := by simp
  rw [e1] at hx hy2
  rw [u64_or_nat x y (by omega) (by omega), nat_join i x y (by omega) (by omega)]
  simp
/-- A product of two integers of 64 bits. -/
theorem mul64_any (x y : Int) (hx : U64 x) (hy : U64 y) (w : World) :
    Calls Try.prog 72 #[.int .u64 x, .int .u64 y] w fun e w' => e = .returned (.tuple #[.int .u64 (x * y / 18446744073709551616), .int .u64 (x * y % 18446744073709551616)]) ∧ Grew w w' := by
  unfold U64 at hx hy
  obtain ⟨x, rfl⟩ := Int.eq_ofNat_of_zero_le hx.1
  obtain ⟨y, rfl⟩ := Int.eq_ofNat_of_zero_le hy.1
  have hx : x < 18446744073709551616 := by omega
  have hy : y < 18446744073709551616 := by omega
  obtain ⟨bd, bt, bw, hhi⟩ := Lib.mul64_hi x y hx hy
  have ba := Lib.half_mul_le (a := x / 4294967296) (b := y / 4294967296) (by omega) (by omega)
  have bb := Lib.half_mul_le (a := x / 4294967296) (b := y % 4294967296) (by omega) (by omega)
  have bc := Lib.half_mul_le (a := x % 4294967296) (b := y / 4294967296) (by omega) (by omega)
  have ba' : x / 4294967296 * (y / 4294967296) < 18446744073709551616 := by omega
  have bb' : x / 4294967296 * (y % 4294967296) < 18446744073709551616 := by omega
  have bc' : x % 4294967296 * (y / 4294967296) < 18446744073709551616 := by omega
  have bh1 : x / 4294967296 * (y / 4294967296) + (x / 4294967296 * (y % 4294967296) + x % 4294967296 * (y % 4294967296) / 4294967296) / 4294967296 < 18446744073709551616 := by omega
  have bh : x / 4294967296 * (y / 4294967296) + (x / 4294967296 * (y % 4294967296) + x % 4294967296 * (y % 4294967296) / 4294967296) / 4294967296 + ((x / 4294967296 * (y % 4294967296) + x % 4294967296 * (y % 4294967296) / 4294967296) % 4294967296 + x % 4294967296 * (y / 4294967296)) / 4294967296 < 18446744073709551616 := by omega
  have maskN : ∀ a : Nat, a < 18446744073709551616 → bits .and .u64 (a : Int) 4294967295 = ((a % 4294967296 : Nat) : Int) := fun a ha => by
    have h := bits_and_u64_nat a 4294967295 ha (by omega)
    rw [show a &&& 4294967295 = a % 4294967296 from Nat.and_two_pow_sub_one_eq_mod a 32] at h
    exact h
  have divN : ∀ a : Nat, (a : Int) / 4294967296 = ((a / 4294967296 : Nat) : Int) := fun a => by omega
  have wrapN : ∀ a : Nat, a < 18446744073709551616 → IntKind.u64.wrap (a : Int) = (a : Int) := fun a ha => by rw [IntKind.wrap_u64]; omega
  have wrapM : ∀ a : Nat, IntKind.u64.wrap (a : Int) = ((a % 18446744073709551616 : Nat) : Int) := fun a => by rw [IntKind.wrap_u64]; omega
  have H := Lib.hid maskN
  have H2 := Lib.hid divN
  have H3 := Lib.hid wrapN
  have H4 := Lib.hid wrapM
  have H5 := Lib.hid hhi
  clear maskN divN wrapN wrapM hhi
  go_enter Try.func72, Try.ntmps72
  go_wp2
  simp only [H.out x hx, H.out y hy, H2.out, ← Int.natCast_mul, ← Int.natCast_add, H3.out _ bd, H3.out _ bb', H3.out _ bt, H.out _ bt, H3.out _ bc', H3.out _ bw, H3.out _ ba', H3.out _ bh1, H3.out _ bh, H4.out (x * y)]
  rw [H5.out]
  go_ret2
  exact ⟨rfl, Grew.refl _⟩
theorem big_size_any (n : Int) (hn : I64 n) (w : World) : Calls Try.prog 73 #[.int .i64 n] w fun e w' => e = .returned (.int .u64 n.natAbs) ∧ Grew w w' := by
  unfold I64 at hn
  go_enter Try.func73, Try.ntmps73
  go_wp2
  all_goals go_ret
  all_goals exact ⟨ret_int (by first | (rw [IntKind.wrap_u64, IntKind.wrap_u64]; omega) | (rw [IntKind.wrap_u64]; omega) | omega), Grew.refl _⟩
/-- An int64 as a Big; a product of two. -/
def ofB (n : Int) : Big := mkBig (decide (n < 0)) n.natAbs
def timesB (a b : Int) : Big := mkBig (decide (a < 0) != decide (b < 0)) (a.natAbs * b.natAbs)
theorem big_of_any (n : Int) (hn : I64 n) (w : World) : Calls Try.prog 64 #[.int .i64 n] w fun e w' => e = .returned (.agg #[.bool (ofB n).neg, .int .u64 (ofB n).hi, .int .u64 (ofB n).lo]) ∧ Grew w w' := by
  have hu : U64 n.natAbs := by unfold I64 at hn; unfold U64; omega
  go_enter Try.func64, Try.ntmps64
  go_wp2_with (first | (go_at_call 73; (with_reducible refine call_later (big_size_any n hn _) ?_); intro u))
  refine bodyPost_ret (by (simp [results, Try.results64, go_sem] <;> rfl)) rfl ?_
  refine ⟨ret_big ?_, gw⟩
  unfold U64 at hu
  unfold ofB mkBig
  congr 1 <;> omega
theorem big_times_any (a b : Int) (ha : I64 a) (hb : I64 b) (w : World) : Calls Try.prog 62 #[.int .i64 a, .int .i64 b] w fun e w' => e = .returned (.agg #[.bool (timesB a b).neg, .int .u64 (timesB a b).hi, .int .u64 (timesB a b).lo]) ∧ Grew w w' := by
  have hu : U64 a.natAbs := by unfold I64 at ha; unfold U64; omega
  have hv : U64 b.natAbs := by unfold I64 at hb; unfold U64; omega
  go_enter Try.func62, Try.ntmps62
  go_wp2_with (first | (go_at_call 73; (with_reducible refine call_later (big_size_any _ (by assumption) _) ?_); intro u) | (go_at_call 72; (with_reducible refine call_later (mul64_any _ _ (by assumption) (by assumption) _) ?_); intro u))
  refine bodyPost_ret (by (simp [results, Try.results62, go_sem] <;> rfl)) rfl ?_
  exact ⟨ret_big rfl, gw⟩
theorem big_zero_any (a : Big) (ha : a.ok) (w : World) : Calls Try.prog 77 #[.agg #[.bool a.neg, .int .u64 a.hi, .int .u64 a.lo]] w fun e w' => e = .returned (.bool (decide (a.m = 0))) ∧ Grew w w' := by
  have h1 : U64 a.hi := ha.1
  have h2 : U64 a.lo := ha.2
  clear ha
  go_enter Try.func77, Try.ntmps77
  go_wp2
  all_goals go_ret
  all_goals exact ⟨ret_bool (by unfold U64 at h1 h2; unfold Big.m; rw [Bool.eq_iff_iff]; simp [*]; try omega), gw⟩
theorem big_below_any (a : Big) (ha : a.ok) (w : World) : Calls Try.prog 91 #[.agg #[.bool a.neg, .int .u64 a.hi, .int .u64 a.lo]] w fun e w' => e = .returned (.bool (decide (a.val < 0))) ∧ Grew w w' := by
  have hm := Big.ok_m ha
  obtain ⟨n, x, y⟩ := a
  cases n
  all_goals
    go_enter Try.func91, Try.ntmps91
    go_wp2_with (first | (go_at_call 77; (with_reducible refine call_later (big_zero_any ⟨_, x, y⟩ ha _) ?_); intro u))
    all_goals go_ret
    all_goals exact ⟨ret_bool (by unfold B128 at hm; unfold Big.val; rw [Bool.eq_iff_iff]; simp [*]; try omega), gw⟩
theorem big_num_any (a : Big) (ha : a.ok) (w : World) : Calls Try.prog 78 #[.agg #[.bool a.neg, .int .u64 a.hi, .int .u64 a.lo]] w fun e w' => e = .returned (.tuple #[.int .i64 a.numV, .bool a.numB]) ∧ Grew w w' := by
  have h1 : U64 a.hi := ha.1
  have h2 : U64 a.lo := ha.2
  clear ha
  go_enter Try.func78, Try.ntmps78
  go_wp2
  all_goals go_ret2
  all_goals
    unfold U64 at h1 h2
    refine ⟨ret_num ?_ ?_, gw⟩
    · unfold Big.numV Big.val Big.m
      try unfold wrap64
      (repeat' split) <;> first | omega | (exfalso; simp_all; done)
    · unfold Big.numB Big.m
      rw [Bool.eq_iff_iff]
      simp
      omega
theorem plus_any (a b : Big) (w : World) (ha : a.ok) (hb : b.ok) (hs : B128 (a.m + b.m)) : Calls Try.prog 68 #[.agg #[.bool a.neg, .int .u64 a.hi, .int .u64 a.lo], .agg #[.bool b.neg, .int .u64 b.hi, .int .u64 b.lo]] w fun e w' => e = .returned (.agg #[.bool (plusB a b).neg, .int .u64 (plusB a b).hi, .int .u64 (plusB a b).lo]) ∧ Grew w w' := by
  have Hs := Lib.hid (show U64 a.hi ∧ U64 a.lo ∧ U64 b.hi ∧ U64 b.lo ∧ 0 ≤ a.hi * 18446744073709551616 + a.lo + (b.hi * 18446744073709551616 + b.lo) ∧ a.hi * 18446744073709551616 + a.lo + (b.hi * 18446744073709551616 + b.lo) ≤ 340282366920938463463374607431768211455 from ⟨ha.1, ha.2, hb.1, hb.2, hs⟩)
  obtain ⟨ha1, ha2⟩ := ha
  obtain ⟨hb1, hb2⟩ := hb
  clear hs
  rcases bool_or (a.neg == b.neg) with h1 | h1
  · have hp : ∀ x y, U64 x → U64 y → ((a.m < b.m → x * 18446744073709551616 + y = b.m - a.m) → a.m < b.m → (⟨b.neg, x, y⟩ : Big) = plusB a b) ∧ ((¬ a.m < b.m → x * 18446744073709551616 + y = a.m - b.m) → ¬ a.m < b.m → (⟨a.neg, x, y⟩ : Big) = plusB a b) := by
      intro x y hx hy
      unfold plusB
      rw [if_neg (by simpa using h1)]
      exact ⟨fun h h' => by rw [if_pos h']; exact big_eq hx hy (h h'), fun h h' => by rw [if_neg h']; exact big_eq hx hy (h h')⟩
    have Hp := Lib.hid hp
    clear hp
    go_enter Try.func68, Try.ntmps68
    go_wp2_with (first | (rw [add64_run _ _ _ (by assumption) (by assumption) (by (try unfold U64 at *); omega)]) | (rw [sub64_run _ _ _ (by assumption) (by assumption) (by (try unfold U64 at *); (try split) <;> omega)]))
    all_goals
      refine bodyPost_ret (by (simp [results, Try.results68, go_sem] <;> rfl)) rfl ?_
      refine ⟨ret_big ?_, gw⟩
      have hs := Hs.out
      clear Hs
      have hp := fun x y hx hy => Hp.out x y hx hy
      clear Hp
      unfold U64 Big.m at *
      first
      | exact (hp _ _ (by omega) (by omega)).1 (fun _ => by omega) (by omega)
      | exact (hp _ _ (by omega) (by omega)).2 (fun _ => by omega) (by omega)
  · have hp : ∀ x y, U64 x → U64 y → x * 18446744073709551616 + y = a.m + b.m → (⟨a.neg, x, y⟩ : Big) = plusB a b := by
      intro x y hx hy h
      unfold plusB
      rw [if_pos (by simpa using h1)]
      exact big_eq hx hy h
    have Hp := Lib.hid hp
    clear hp
    go_enter Try.func68, Try.ntmps68
    go_wp2_with (first | (rw [add64_run _ _ _ (by assumption) (by assumption) (by (try unfold U64 at *); omega)]) | (rw [sub64_run _ _ _ (by assumption) (by assumption) (by (try unfold U64 at *); omega)]))
    refine bodyPost_ret (by (simp [results, Try.results68, go_sem] <;> rfl)) rfl ?_
    refine ⟨ret_big (Hp.out _ _ (by unfold U64; have := Hs.out; omega) (by unfold U64; omega) ?_), gw⟩
    have hs := Hs.out
    unfold U64 Big.m at *
    omega
end Go.Proofs.Ytffbipcdlnfihaa
