/-
  Contracts: math/bits.Len64, LeadingZeros64, Div64.
-/
import Derived.Test.YtffbipcdlnfihaaBig
import Derived.Test.YtffbipcdlnfihaaNumAll
namespace Go.Proofs.Ytffbipcdlnfihaa
open Go.RowKit
set_option maxRecDepth 100000
set_option maxHeartbeats 1000000
/-- How many bits a number has. -/
def lenN (n : Nat) : Nat := if n = 0 then 0 else n.log2 + 1
def lenTab : ByteArray := ⟨((List.range 256).map fun k => UInt8.ofNat (lenN k)).toArray⟩
theorem lenTab_at (k : Nat) (h : k < lenTab.size) : (lenTab[k]'h).toNat = lenN k := by
  have h2 : ∀ k : Fin 256, ((lenTab.data.getD k.1 0).toNat == lenN k.1) = true := by decide +kernel
  have hs : lenTab.size = 256 := by decide +kernel
  have := h2 ⟨k, by omega⟩
  rw [beq_iff_eq] at this
  rw [← this]
  have h3 : k < lenTab.data.size := h
  rw [ByteArray.getElem_eq_getElem_data, Array.getD_eq_getD_getElem?, Array.getElem?_eq_getElem h3]
  rfl
theorem tab_use (T : ByteArray) (i : Nat) (h : i < T.size) (hT : T = lenTab) : (T[i]'h).toNat = lenN i := by
  subst hT
  exact lenTab_at i h
theorem lenN_up (n j : Nat) (h : 2 ^ j ≤ n) : lenN n = j + lenN (n / 2 ^ j) := by
  have hp : 0 < 2 ^ j := Nat.two_pow_pos j
  have h1 : n / 2 ^ j ≠ 0 := by
    intro h0
    rcases Nat.div_eq_zero_iff.1 h0 with h0 | h0 <;> omega
  have h2 : n ≠ 0 := by omega
  unfold lenN
  rw [if_neg h1, if_neg h2]
  have h3 := Nat.log2_self_le h1
  have h4 : n / 2 ^ j < 2 ^ ((n / 2 ^ j).log2 + 1) := Nat.lt_log2_self
  have : n.log2 = j + (n / 2 ^ j).log2 := by
    rw [Nat.log2_eq_iff h2]
    constructor
    · rw [Nat.pow_add, Nat.mul_comm]; exact (Nat.le_div_iff_mul_le hp).1 h3
    · rw [Nat.add_assoc, Nat.pow_add, Nat.mul_comm]; exact (Nat.div_lt_iff_lt_mul hp).1 h4
  omega
theorem lenN_bd (n k : Nat) (h : n < 2 ^ k) : lenN n ≤ k := by
  unfold lenN
  split
  · omega
  · rename_i h0
    have := (Nat.log2_lt h0).2 h
    omega
theorem len_up (x y : Int) (j : Nat) (hx : 0 ≤ x) (h : (2 : Int) ^ j ≤ x) (hy : y = x / 2 ^ j) : (lenN x.toNat : Int) = j + lenN y.toNat := by
  subst hy
  obtain ⟨x, rfl⟩ := Int.eq_ofNat_of_zero_le hx
  have e : ((2 : Int) ^ j) = ((2 ^ j : Nat) : Int) := by simp
  rw [e] at h ⊢
  have := lenN_up x j (by omega)
  rw [show ((x : Int) / ((2 ^ j : Nat) : Int)).toNat = x / 2 ^ j by rw [← Int.natCast_ediv]; rfl]
  simp only [Int.toNat_natCast]
  omega
theorem len_at (x y k : Int) (j : Nat) (p : Int) (hk : k = j) (hp : p = 2 ^ j) (hx : 0 ≤ x) (h : p ≤ x) (hy : y = x / p) (h1 : y < 256) (hj : j ≤ 56) :
    (k + ((↑(lenN y.toNat) + 9223372036854775808) % 18446744073709551616 - 9223372036854775808) + 9223372036854775808) % 18446744073709551616 - 9223372036854775808 = (lenN x.toNat : Int) := by
  subst hp
  subst hk
  have h2 := lenN_bd y.toNat 8 (by simp; omega)
  rw [len_up x y j hx h hy]
  omega
theorem len_at0 (x : Int) (h1 : x < 256) : (↑(lenN x.toNat) + 9223372036854775808) % 18446744073709551616 - 9223372036854775808 = (lenN x.toNat : Int) := by
  have h2 := lenN_bd x.toNat 8 (by simp; omega)
  omega
theorem len64_any (x : Int) (hx : U64 x) (w : World) : Calls Try.prog 90 #[.int .u64 x] w fun e w' => e = .returned (.int .i64 (lenN x.toNat)) ∧ Grew w w' := by
  unfold U64 at hx
  go_enter Try.func90, Try.ntmps90
  go_wp2
  all_goals go_ret
  all_goals
    refine ⟨ret_int ?_, Grew.refl _⟩
    rw [tab_use _ _ _ ?_]
    · unfold wrap64
      first
      | (rw [len_at0 _ (by omega)]; have h2 := lenN_bd x.toNat 8 (by simp; omega); omega)
      | exact len_at x _ _ 56 72057594037927936 (by omega) (by decide +kernel) hx.1 (by omega) (by omega) (by omega) (by omega)
      | exact len_at x _ _ 48 281474976710656 (by omega) (by decide +kernel) hx.1 (by omega) (by omega) (by omega) (by omega)
      | exact len_at x _ _ 40 1099511627776 (by omega) (by decide +kernel) hx.1 (by omega) (by omega) (by omega) (by omega)
      | exact len_at x _ _ 32 4294967296 (by omega) (by decide +kernel) hx.1 (by omega) (by omega) (by omega) (by omega)
      | exact len_at x _ _ 24 16777216 (by omega) (by decide +kernel) hx.1 (by omega) (by omega) (by omega) (by omega)
      | exact len_at x _ _ 16 65536 (by omega) (by decide +kernel) hx.1 (by omega) (by omega) (by omega) (by omega)
      | exact len_at x _ _ 8 256 (by omega) (by decide +kernel) hx.1 (by omega) (by omega) (by omega) (by omega)
    · kernel_rfl
/-- How many bits above its highest one. -/
def lzN (y : Int) : Int := 64 - lenN y.toNat
theorem lz_bd (y : Int) (h1 : 1 ≤ y) (h2 : y ≤ 18446744073709551615) : 0 ≤ lzN y ∧ lzN y ≤ 63 ∧ 9223372036854775808 ≤ y * 2 ^ (lzN y).toNat ∧ y * 2 ^ (lzN y).toNat ≤ 18446744073709551615 := by
  obtain ⟨y, rfl⟩ := Int.eq_ofNat_of_zero_le (show 0 ≤ y by omega)
  have h0 : y ≠ 0 := by omega
  have h3 := Nat.log2_self_le h0
  have h4 : y < 2 ^ (y.log2 + 1) := Nat.lt_log2_self
  have h5 : y.log2 < 64 := (Nat.log2_lt h0).2 (by simp; omega)
  unfold lzN lenN
  simp only [Int.toNat_natCast]
  rw [if_neg h0]
  have e : (64 - ((y.log2 + 1 : Nat) : Int)).toNat = 63 - y.log2 := by omega
  rw [e]
  have e1 : ((y : Int) * 2 ^ (63 - y.log2)) = ((y * 2 ^ (63 - y.log2) : Nat) : Int) := by simp
  have p1 : 2 ^ y.log2 * 2 ^ (63 - y.log2) = 2 ^ 63 := by rw [← Nat.pow_add]; congr 1; omega
  have p2 : 2 ^ (y.log2 + 1) * 2 ^ (63 - y.log2) = 2 ^ 64 := by rw [← Nat.pow_add]; congr 1; omega
  have q1 := Nat.mul_le_mul_right (2 ^ (63 - y.log2)) h3
  have q2 := Nat.mul_lt_mul_of_pos_right h4 (Nat.two_pow_pos (63 - y.log2))
  rw [p1] at q1
  rw [p2] at q2
  rw [e1]
  refine ⟨by omega, by omega, by omega, by omega⟩
theorem lz64_any (y : Int) (hy : U64 y) (w : World) : Calls Try.prog 92 #[.int .u64 y] w fun e w' => e = .returned (.int .i64 (lzN y)) ∧ Grew w w' := by
  have h := lenN_bd y.toNat 64 (by unfold U64 at hy; simp; omega)
  go_enter Try.func92, Try.ntmps92
  go_wp2_with (first | (go_at_call 90; (with_reducible refine call_later (len64_any _ hy _) ?_); intro u))
  go_ret
  exact ⟨ret_int (by unfold lzN; rfl), gw⟩
/-- What a step's digit D is, in words that the walk uses. -/
theorem digit_step {U u1 y1 y0 q r : Int} (hr : r = U - q * y1) (_hy1 : 2147483648 ≤ y1) (hy0 : 0 ≤ y0) (hy0' : y0 < 4294967296) (hu1 : 0 ≤ u1) (hU : 0 ≤ U) (hUY : U < y1 * 4294967296 + y0) (hu1' : u1 < 4294967296)
    (hD : (U * 4294967296 + u1) / (y1 * 4294967296 + y0) ≤ q) (hq : q ≤ 4294967297) (_hr0 : 0 ≤ r) (_hr1 : r < 4294967296) :
    (q < 4294967296 ∧ 4294967296 * r + u1 ≥ q * y0 ∧ 0 ≤ q * y0 ∧ q * y0 ≤ 18446744073709551615 ∧ 0 ≤ q ∧ q = (U * 4294967296 + u1) / (y1 * 4294967296 + y0)) ∨
    (1 ≤ q ∧ (4294967296 ≤ q ∨ (q < 4294967296 ∧ 4294967296 * r + u1 < q * y0 ∧ 0 ≤ q * y0 ∧ q * y0 ≤ 18446744073709551615)) ∧ (U * 4294967296 + u1) / (y1 * 4294967296 + y0) ≤ q - 1 ∧ r + y1 = U - (q - 1) * y1 ∧
      (4294967296 ≤ r + y1 → q - 1 = (U * 4294967296 + u1) / (y1 * 4294967296 + y0))) := by
  have hY : 0 < y1 * 4294967296 + y0 := by omega
  have h1 := digit_test q U u1 y1 y0
  have h2 := digit_lt U u1 _ hY hUY hu1'
  have hD0 : 0 ≤ (U * 4294967296 + u1) / (y1 * 4294967296 + y0) := Int.ediv_nonneg (by omega) (by omega)
  have hq0 : 0 ≤ q := by omega
  have hp0 : 0 ≤ q * y0 := Int.mul_nonneg hq0 hy0
  have hp1 : q < 4294967296 → q * y0 ≤ 18446744073709551615 := fun h => by
    have a1 : q * y0 ≤ 4294967295 * y0 := Int.mul_le_mul_of_nonneg_right (by omega) hy0
    omega
  have h3 : r + y1 = U - (q - 1) * y1 := by rw [Int.sub_mul]; omega
  rw [← hr] at h1
  by_cases hc : U * 4294967296 + u1 < q * (y1 * 4294967296 + y0)
  · right
    have h4 := digit_next q _ _ hY hc
    have h5 := h1.2 hc
    refine ⟨by omega, ?_, h4, h3, fun h => ?_⟩
    · by_cases hb : 4294967296 ≤ q
      · exact .inl hb
      · exact .inr ⟨by omega, h5, hp0, hp1 (by omega)⟩
    · exact digit_end _ _ _ hY h4 (digit_over (q - 1) U u1 y1 y0 hy0 hy0' hu1 (by omega) (by omega) (by omega))
  · left
    have h4 := digit_end q _ _ hY hD (by omega)
    have h5 : q < 4294967296 := by omega
    have h6 : ¬ 4294967296 * r + u1 < q * y0 := fun h => hc (h1.1 h)
    exact ⟨h5, by omega, hp0, hp1 h5, hq0, h4⟩
theorem div64_any (hi lo y : Int) (hhi : U64 hi) (hlo : U64 lo) (hy : U64 y) (h : hi < y) (w : World) :
    Calls Try.prog 75 #[.int .u64 hi, .int .u64 lo, .int .u64 y] w fun e w' => e = .returned (.tuple #[.int .u64 ((hi * 18446744073709551616 + lo) / y), .int .u64 ((hi * 18446744073709551616 + lo) % y)]) ∧ Grew w w' := by
  obtain ⟨a1, a2⟩ := hhi
  obtain ⟨b1, b2⟩ := hlo
  have hy0 : 1 ≤ y := by omega
  have Hy := Lib.hid hy
  obtain ⟨c1, c2⟩ := hy
  have hne : (y == 0) = false := by rw [beq_eq_false_iff_ne]; omega
  by_cases hz : hi = 0
  · subst hz
    go_enter Try.func75, Try.ntmps75
    go_wp2_with (first | (go_at_call 92; (with_reducible refine call_later (lz64_any _ Hy.out _) ?_); intro u) | ((with_reducible refine wp_region_later ?_ ?_ ?_); (· kernel_rfl); (· kernel_rfl); (try simp only [List.append_eq, List.cons_append, List.nil_append]); (repeat (go_big_quiet_step ((first | (go_at_call 92; (with_reducible exact call_quiet (lz64_any _ Hy.out _))))))); refine wpQuiet_nil ?_; rintro _ ⟨u, rfl⟩))
    go_ret2
    exact ⟨ret_two (by rw [Int.zero_mul, Int.zero_add]) (by rw [Int.zero_mul, Int.zero_add]), gw⟩
  · have hne2 : (hi == 0) = false := by rw [beq_eq_false_iff_ne]; exact hz
    have hlz := lz_bd y hy0 c2
    obtain ⟨s, hs⟩ : ∃ s, lzN y = s := ⟨_, rfl⟩
    rw [hs] at hlz
    obtain ⟨d1, d2, d3, d4⟩ := hlz
    have Hlz := Lib.hid (fun w => hs ▸ lz64_any y Hy.out w)
    have hp : (0 : Int) < 2 ^ s.toNat := Int.pow_pos (by omega)
    have hp2 : (2 : Int) ^ s.toNat * 2 ^ (64 - s).toNat = 18446744073709551616 := by
      rw [← Int.pow_add, show s.toNat + (64 - s).toNat = 64 by omega]; decide +kernel
    have hp3 : (0 : Int) < 2 ^ (64 - s).toNat := Int.pow_pos (by omega)
    have hj : hi * 2 ^ s.toNat % 2 ^ s.toNat = 0 := Int.mul_emod_left _ _
    have hr1 : lo / 2 ^ (64 - s).toNat < 2 ^ s.toNat := Int.ediv_lt_of_lt_mul hp3 (by rw [hp2]; omega)
    have hr0 : 0 ≤ lo / 2 ^ (64 - s).toNat := Int.ediv_nonneg b1 (by omega)
    have hhy : (hi + 1) * 2 ^ s.toNat ≤ y * 2 ^ s.toNat := Int.mul_le_mul_of_nonneg_right (by omega) (by omega)
    rw [Int.add_mul, Int.one_mul] at hhy
    have hh0 : 0 ≤ hi * 2 ^ s.toNat := Int.mul_nonneg a1 (by omega)
    have hN : hi * 2 ^ s.toNat * 18446744073709551616 + lo / 2 ^ (64 - s).toNat * 18446744073709551616 + lo * 2 ^ s.toNat % 18446744073709551616 = (hi * 18446744073709551616 + lo) * 2 ^ s.toNat := by
      have h1 := Int.mul_ediv_add_emod lo (2 ^ (64 - s).toNat)
      have h2 : lo * 2 ^ s.toNat % 18446744073709551616 = lo % 2 ^ (64 - s).toNat * 2 ^ s.toNat := by
        rw [← hp2, Int.mul_comm lo, Int.mul_emod_mul_of_pos _ _ hp, Int.mul_comm]
      rw [h2, Int.add_mul, Int.mul_right_comm hi 18446744073709551616]
      have h3 : lo / 2 ^ (64 - s).toNat * 18446744073709551616 + lo % 2 ^ (64 - s).toNat * 2 ^ s.toNat = lo * 2 ^ s.toNat := by
        rw [← hp2, Int.mul_comm (2 ^ s.toNat), ← Int.mul_assoc, ← Int.add_mul, Int.mul_comm (lo / _), h1]
      omega
    have e_wrap : ∀ a : Int, IntKind.u64.wrap a = a % 18446744073709551616 := fun a => IntKind.wrap_u64 a
    have e_and : ∀ a : Int, 0 ≤ a → a ≤ 18446744073709551615 → bits .and .u64 a 4294967295 = a % 4294967296 := fun a h1 h2 => by
      obtain ⟨a, rfl⟩ := Int.eq_ofNat_of_zero_le h1
      have h := bits_and_u64_nat a 4294967295 (by omega) (by omega)
      rw [show a &&& 4294967295 = a % 4294967296 from Nat.and_two_pow_sub_one_eq_mod a 32] at h
      rw [show (4294967295 : Int) = ((4294967295 : Nat) : Int) from rfl, h]
      omega
    have E1 := Lib.hid e_wrap
    have E2 := Lib.hid e_and
    have E3 := Lib.hid (u64_join s.toNat (hi * 2 ^ s.toNat) (lo / 2 ^ (64 - s).toNat) hh0 (by omega) hj hr0 (by omega) hr1)
    have HN := Lib.hid hN
    clear e_wrap e_and hN hp2 hj hne hne2
    go_enter Try.func75, Try.ntmps75
    go_wp2_with (first | (go_at_call 92; (with_reducible refine call_later (Hlz.out _) ?_); intro u) | ((with_reducible refine wp_region_later ?_ ?_ ?_); (· kernel_rfl); (· kernel_rfl); (try simp only [List.append_eq, List.cons_append, List.nil_append]); (repeat (go_big_quiet_step ((first | (go_at_call 92; (with_reducible exact call_quiet (Hlz.out _))))))); refine wpQuiet_nil ?_; rintro _ ⟨u, rfl⟩))
    rw [E3.out]
    have hL : IntKind.u64.wrap (lo * 2 ^ s.toNat) = lo * 2 ^ s.toNat % 18446744073709551616 := E1.out _
    rw [hL]
    clear hL
    have hN := HN.out
    clear HN E3
    have hfin : ∀ a b : Int, a = (hi * 18446744073709551616 + lo) * 2 ^ s.toNat / (y * 2 ^ s.toNat) → b = (hi * 18446744073709551616 + lo) * 2 ^ s.toNat % (y * 2 ^ s.toNat) → a = (hi * 18446744073709551616 + lo) / y ∧ b / 2 ^ s.toNat = (hi * 18446744073709551616 + lo) % y := by
      rintro a b rfl rfl
      rw [Int.mul_ediv_mul_of_pos_left _ _ hp, Int.mul_comm _ (2 ^ s.toNat), Int.mul_comm y, Int.mul_emod_mul_of_pos _ _ hp, Int.mul_ediv_cancel_left _ (by omega)]
      exact ⟨rfl, rfl⟩
    rw [← hN] at hfin
    have Hfin := Lib.hid hfin
    clear hfin hN
    have hU0 : 0 ≤ hi * 2 ^ s.toNat + lo / 2 ^ (64 - s).toNat := by omega
    have hUY : hi * 2 ^ s.toNat + lo / 2 ^ (64 - s).toNat < y * 2 ^ s.toNat := by omega
    have hL0 : 0 ≤ lo * 2 ^ s.toNat % 18446744073709551616 := by omega
    have hL1 : lo * 2 ^ s.toNat % 18446744073709551616 ≤ 18446744073709551615 := by omega
    rw [E2.out _ (by omega) d4, E2.out _ hL0 hL1]
    rw [← Int.add_mul] at Hfin
    generalize hi * 2 ^ s.toNat + lo / 2 ^ (64 - s).toNat = U at *
    generalize lo * 2 ^ s.toNat % 18446744073709551616 = L at *
    generalize y * 2 ^ s.toNat = Y at *
    have hY2 : Y = Y / 4294967296 * 4294967296 + Y % 4294967296 := by omega
    have hL2 : L = L / 4294967296 * 4294967296 + L % 4294967296 := by omega
    have hy1 : 2147483648 ≤ Y / 4294967296 := by omega
    have hy11 : Y / 4294967296 ≤ 4294967295 := by omega
    have hy00 : 0 ≤ Y % 4294967296 := by omega
    have hy01 : Y % 4294967296 < 4294967296 := by omega
    have hu10 : 0 ≤ L / 4294967296 := by omega
    have hu11 : L / 4294967296 < 4294967296 := by omega
    have hu00 : 0 ≤ L % 4294967296 := by omega
    have hu01 : L % 4294967296 < 4294967296 := by omega
    generalize Y / 4294967296 = y1 at *
    generalize Y % 4294967296 = y0 at *
    generalize L / 4294967296 = u1 at *
    generalize L % 4294967296 = u0 at *
    subst hY2
    subst hL2
    have hYp : 0 < y1 * 4294967296 + y0 := by omega
    obtain ⟨D, HD⟩ : ∃ D, Hid (D = (U * 4294967296 + u1) / (y1 * 4294967296 + y0)) := ⟨_, Lib.hid rfl⟩
    obtain ⟨R, HR⟩ : ∃ R, Hid (R = (U * 4294967296 + u1) % (y1 * 4294967296 + y0)) := ⟨_, Lib.hid rfl⟩
    obtain ⟨D2, HD2⟩ : ∃ D, Hid (D = (R * 4294967296 + u0) / (y1 * 4294967296 + y0)) := ⟨_, Lib.hid rfl⟩
    obtain ⟨R2, HR2⟩ : ∃ R', Hid (R' = (R * 4294967296 + u0) % (y1 * 4294967296 + y0)) := ⟨_, Lib.hid rfl⟩
    have hR0 : 0 ≤ R := by rw [HR.out]; exact Int.emod_nonneg _ (by omega)
    have HRY := Lib.hid (show R < y1 * 4294967296 + y0 by rw [HR.out]; exact Int.emod_lt_of_pos _ hYp)
    have hR1 : R ≤ 18446744073709551615 := by have := HRY.out; omega
    have hD0 : 0 ≤ D := by rw [HD.out]; exact Int.ediv_nonneg (by omega) (by omega)
    have hD1 : D < 4294967296 := by rw [HD.out]; exact digit_lt U u1 _ hYp hUY hu11
    have HE := Lib.hid (show D * (y1 * 4294967296 + y0) + R = U * 4294967296 + u1 by rw [HD.out, HR.out, Int.mul_comm]; exact Int.mul_ediv_add_emod _ _)
    have hR20 : 0 ≤ R2 := by rw [HR2.out]; exact Int.emod_nonneg _ (by omega)
    have HRY2 := Lib.hid (show R2 < y1 * 4294967296 + y0 by rw [HR2.out]; exact Int.emod_lt_of_pos _ hYp)
    have hD20 : 0 ≤ D2 := by rw [HD2.out]; exact Int.ediv_nonneg (by omega) (by omega)
    have hD21 : D2 < 4294967296 := by rw [HD2.out]; exact digit_lt R u0 _ hYp HRY.out hu01
    have HE2 := Lib.hid (show D2 * (y1 * 4294967296 + y0) + R2 = R * 4294967296 + u0 by rw [HD2.out, HR2.out, Int.mul_comm]; exact Int.mul_ediv_add_emod _ _)
    have hend := Hfin.out (D * 4294967296 + D2) R2 (by
      have := (digits U u1 u0 _ hYp).1
      rw [HD2.out, HR.out, HD.out, this]) (by
      have := (digits U u1 u0 _ hYp).2
      rw [HR2.out, HR.out, this])
    have Hend := Lib.hid hend
    clear hend Hfin
    have Tdiv := Lib.hid (fun (a : Int) (h : 0 ≤ a) => Int.tdiv_eq_ediv_of_nonneg (a := a) (b := y1) h)
    obtain ⟨g1, g2, g3, g4, g5⟩ := digit_start U u1 y1 y0 hy1 hy00 hy01 hU0 hUY hu10 hu11
    obtain ⟨m1, m2, m3, m4, m5⟩ := digit_start R u0 y1 y0 hy1 hy00 hy01 hR0 HRY.out hu00 hu01
    have g6 : 0 ≤ U / y1 * y1 := Int.mul_nonneg g5 (by omega)
    have m6 : 0 ≤ R / y1 * y1 := Int.mul_nonneg m5 (by omega)
    have Hg1 := Lib.hid g1
    have Hm1 := Lib.hid m1
    clear g1 m1
    rw [Tdiv.out U hU0]
    have k1 : IntKind.u64.wrap (U / y1) = U / y1 := by rw [E1.out]; omega
    rw [k1]
    have k2 : IntKind.u64.wrap (U / y1 * y1) = U / y1 * y1 := by rw [E1.out]; omega
    rw [k2]
    have k3 : IntKind.u64.wrap (U - U / y1 * y1) = U - U / y1 * y1 := by rw [E1.out]; omega
    rw [k3]
    clear k1 k2 k3
    go_loop [15, 16] (fun t r' => ∃ q r : Int, t = .int .u64 q ∧ r' = .int .u64 r ∧ Hid (r = U - q * y1) ∧ Hid ((U * 4294967296 + u1) / (y1 * 4294967296 + y0) ≤ q) ∧ 0 ≤ q ∧ q ≤ 4294967297 ∧ 0 ≤ r ∧ r < 4294967296) (fun t _ => (intOf t).toNat)
    case atStart => exact ⟨_, _, rfl, rfl, Lib.hid rfl, Hg1, by omega, by omega, by omega, by omega⟩
    case round =>
      obtain ⟨q, r, rfl, rfl, hr, hq, hq0, hq1, hr0, hr1⟩ := hrel
      rcases digit_step hr.out hy1 hy00 hy01 hu10 hU0 hUY hu11 hq.out hq1 hr0 hr1 with ⟨c1, c2, c3, c4, c5, c6⟩ | ⟨c1, c2, c3, c4, c5⟩
      · have hd1 : D = q := by rw [c6]; exact HD.out
        clear c6 hq
        subst hd1
        have f17 : IntKind.u64.wrap (IntKind.u64.wrap (IntKind.u64.wrap (U * 4294967296) + u1) - IntKind.u64.wrap (D * (y1 * 4294967296 + y0))) = R := by have := HE.out; have := HRY.out; simp only [E1.out]; omega
        have F17 := Lib.hid f17
        clear f17
        go_wp2_with fail
        rw [F17.out, Tdiv.out R hR0]
        have k1 : IntKind.u64.wrap (R / y1) = R / y1 := by rw [E1.out]; omega
        rw [k1]
        have k2 : IntKind.u64.wrap (R / y1 * y1) = R / y1 * y1 := by rw [E1.out]; omega
        rw [k2]
        have k3 : IntKind.u64.wrap (R - R / y1 * y1) = R - R / y1 * y1 := by rw [E1.out]; omega
        rw [k3]
        clear k1 k2 k3
        go_loop [18, 16] (fun t r' => ∃ q r : Int, t = .int .u64 q ∧ r' = .int .u64 r ∧ Hid (r = R - q * y1) ∧ Hid ((R * 4294967296 + u0) / (y1 * 4294967296 + y0) ≤ q) ∧ 0 ≤ q ∧ q ≤ 4294967297 ∧ 0 ≤ r ∧ r < 4294967296) (fun t _ => (intOf t).toNat)
        case atStart => exact ⟨_, _, rfl, rfl, Lib.hid rfl, Hm1, by omega, by omega, by omega, by omega⟩
        case round =>
          obtain ⟨q, r, rfl, rfl, hr, hq, hq0, hq1, hr0, hr1⟩ := hrel
          rcases digit_step hr.out hy1 hy00 hy01 hu00 hR0 HRY.out hu01 hq.out hq1 hr0 hr1 with ⟨c1, c2, c3, c4, c5, c6⟩ | ⟨c1, c2, c3, c4, c5⟩
          · have hd2 : D2 = q := by rw [c6]; exact HD2.out
            clear c6 hq
            subst hd2
            have f6 : IntKind.u64.wrap (IntKind.u64.wrap (D * 4294967296) + D2) = D * 4294967296 + D2 := by simp only [E1.out]; omega
            have f7 : IntKind.u64.wrap (IntKind.u64.wrap (IntKind.u64.wrap (R * 4294967296) + u0) - IntKind.u64.wrap (D2 * (y1 * 4294967296 + y0))) = R2 := by have := HE2.out; have := HRY2.out; simp only [E1.out]; omega
            have F6 := Lib.hid f6
            have F7 := Lib.hid f7
            clear f6 f7
            go_wp2
            go_ret2
            exact ⟨ret_two (by first | (rw [F6.out]; exact Hend.out.1) | exact Hend.out.1) (by first | (rw [F7.out]; exact Hend.out.2) | exact Hend.out.2), gw⟩
          · have C3 := Lib.hid c3
            have C4 := Lib.hid c4
            have C5 := Lib.hid c5
            clear c3 c4 c5
            rcases c2 with c2 | ⟨c2, c6, c7, c8⟩
            all_goals
              by_cases hb : 4294967296 ≤ r + y1
              · have hd2 : q - 1 = D2 := by rw [C5.out hb]; exact HD2.out.symm
                clear C3 C4 C5 hq
                obtain rfl : q = D2 + 1 := by omega
                clear hd2
                have f6 : IntKind.u64.wrap (IntKind.u64.wrap (D * 4294967296) + D2) = D * 4294967296 + D2 := by simp only [E1.out]; omega
                have f7 : IntKind.u64.wrap (IntKind.u64.wrap (IntKind.u64.wrap (R * 4294967296) + u0) - IntKind.u64.wrap (D2 * (y1 * 4294967296 + y0))) = R2 := by have := HE2.out; have := HRY2.out; simp only [E1.out]; omega
                have F6 := Lib.hid f6
                have F7 := Lib.hid f7
                clear f6 f7
                go_wp2
                go_ret2
                exact ⟨ret_two (by first | (rw [F6.out]; exact Hend.out.1) | exact Hend.out.1) (by first | (rw [F7.out]; exact Hend.out.2) | exact Hend.out.2), gw⟩
              · clear C5
                go_wp2
                go_round
                case rel => exact ⟨q - 1, r + y1, rfl, rfl, C4, C3, by omega, by omega, by omega, by omega⟩
                case measure => simp [intOf]; omega
      · have C3 := Lib.hid c3
        have C4 := Lib.hid c4
        have C5 := Lib.hid c5
        clear c3 c4 c5
        rcases c2 with c2 | ⟨c2, c6, c7, c8⟩
        all_goals
          by_cases hb : 4294967296 ≤ r + y1
          · have hd1 : q - 1 = D := by rw [C5.out hb]; exact HD.out.symm
            clear C3 C4 C5 hq
            obtain rfl : q = D + 1 := by omega
            clear hd1
            have f17 : IntKind.u64.wrap (IntKind.u64.wrap (IntKind.u64.wrap (U * 4294967296) + u1) - IntKind.u64.wrap (D * (y1 * 4294967296 + y0))) = R := by have := HE.out; have := HRY.out; simp only [E1.out]; omega
            have F17 := Lib.hid f17
            clear f17
            go_wp2_with fail
            rw [F17.out, Tdiv.out R hR0]
            have k1 : IntKind.u64.wrap (R / y1) = R / y1 := by rw [E1.out]; omega
            rw [k1]
            have k2 : IntKind.u64.wrap (R / y1 * y1) = R / y1 * y1 := by rw [E1.out]; omega
            rw [k2]
            have k3 : IntKind.u64.wrap (R - R / y1 * y1) = R - R / y1 * y1 := by rw [E1.out]; omega
            rw [k3]
            clear k1 k2 k3
            go_loop [18, 16] (fun t r' => ∃ q r : Int, t = .int .u64 q ∧ r' = .int .u64 r ∧ Hid (r = R - q * y1) ∧ Hid ((R * 4294967296 + u0) / (y1 * 4294967296 + y0) ≤ q) ∧ 0 ≤ q ∧ q ≤ 4294967297 ∧ 0 ≤ r ∧ r < 4294967296) (fun t _ => (intOf t).toNat)
            case atStart => exact ⟨_, _, rfl, rfl, Lib.hid rfl, Hm1, by omega, by omega, by omega, by omega⟩
            case round =>
              obtain ⟨q, r, rfl, rfl, hr, hq, hq0, hq1, hr0, hr1⟩ := hrel
              rcases digit_step hr.out hy1 hy00 hy01 hu00 hR0 HRY.out hu01 hq.out hq1 hr0 hr1 with ⟨c1, c2, c3, c4, c5, c6⟩ | ⟨c1, c2, c3, c4, c5⟩
              · have hd2 : D2 = q := by rw [c6]; exact HD2.out
                clear c6 hq
                subst hd2
                have f6 : IntKind.u64.wrap (IntKind.u64.wrap (D * 4294967296) + D2) = D * 4294967296 + D2 := by simp only [E1.out]; omega
                have f7 : IntKind.u64.wrap (IntKind.u64.wrap (IntKind.u64.wrap (R * 4294967296) + u0) - IntKind.u64.wrap (D2 * (y1 * 4294967296 + y0))) = R2 := by have := HE2.out; have := HRY2.out; simp only [E1.out]; omega
                have F6 := Lib.hid f6
                have F7 := Lib.hid f7
                clear f6 f7
                go_wp2
                go_ret2
                exact ⟨ret_two (by first | (rw [F6.out]; exact Hend.out.1) | exact Hend.out.1) (by first | (rw [F7.out]; exact Hend.out.2) | exact Hend.out.2), gw⟩
              · have C3 := Lib.hid c3
                have C4 := Lib.hid c4
                have C5 := Lib.hid c5
                clear c3 c4 c5
                rcases c2 with c2 | ⟨c2, c6, c7, c8⟩
                all_goals
                  by_cases hb : 4294967296 ≤ r + y1
                  · have hd2 : q - 1 = D2 := by rw [C5.out hb]; exact HD2.out.symm
                    clear C3 C4 C5 hq
                    obtain rfl : q = D2 + 1 := by omega
                    clear hd2
                    have f6 : IntKind.u64.wrap (IntKind.u64.wrap (D * 4294967296) + D2) = D * 4294967296 + D2 := by simp only [E1.out]; omega
                    have f7 : IntKind.u64.wrap (IntKind.u64.wrap (IntKind.u64.wrap (R * 4294967296) + u0) - IntKind.u64.wrap (D2 * (y1 * 4294967296 + y0))) = R2 := by have := HE2.out; have := HRY2.out; simp only [E1.out]; omega
                    have F6 := Lib.hid f6
                    have F7 := Lib.hid f7
                    clear f6 f7
                    go_wp2
                    go_ret2
                    exact ⟨ret_two (by first | (rw [F6.out]; exact Hend.out.1) | exact Hend.out.1) (by first | (rw [F7.out]; exact Hend.out.2) | exact Hend.out.2), gw⟩
                  · clear C5
                    go_wp2
                    go_round
                    case rel => exact ⟨q - 1, r + y1, rfl, rfl, C4, C3, by omega, by omega, by omega, by omega⟩
                    case measure => simp [intOf]; omega
          · clear C5
            go_wp2
            go_round
            case rel => exact ⟨q - 1, r + y1, rfl, rfl, C4, C3, by omega, by omega, by omega, by omega⟩
            case measure => simp [intOf]; omega
end Go.Proofs.Ytffbipcdlnfihaa
