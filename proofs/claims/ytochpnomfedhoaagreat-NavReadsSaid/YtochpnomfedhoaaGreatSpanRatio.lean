/-
  Contracts: span's ratio.
-/
import Derived.Test.YtochpnomfedhoaaGreatDivLaw
namespace Go.Proofs.YtochpnomfedhoaaGreat
open Go.RowKit
set_option maxRecDepth 100000
set_option maxHeartbeats 2000000
/-- The numerator of a ratio. -/
def ratX (a b : Int) : Big := mkBig (decide (a < 0) != decide (b < 0)) (a.natAbs * 4294967296)
def ratDB (a b : Int) : Big := divDown (ratX a b) b.natAbs
def ratUB (a b : Int) : Big := divUp (ratX a b) b.natAbs
theorem ratX_ok (a b : Int) (ha : I64 a) : (ratX a b).ok := mkBig_ok _ _ (by unfold I64 at ha; unfold B128; omega)
theorem ratX_val (a b : Int) : (ratX a b).val = if b < 0 then -a * 4294967296 else a * 4294967296 := by
  unfold ratX
  rw [mkBig_val]
  by_cases h1 : a < 0 <;> by_cases h2 : b < 0 <;> simp [h1, h2] <;> omega
theorem ratDB_val (a b : Int) : (ratDB a b).val = ratDown a b := by
  unfold ratDB ratDown
  rw [divDown_val, ratX_val]
  split
  · rw [show (b.natAbs : Int) = -b by omega]
  · rw [show (b.natAbs : Int) = b by omega]
theorem ratUB_val (a b : Int) : (ratUB a b).val = ratUp a b := by
  unfold ratUB ratUp
  rw [divUp_val, ratX_val]
  split
  · rw [show (b.natAbs : Int) = -b by omega]
  · rw [show (b.natAbs : Int) = b by omega]
theorem b128_div (m d : Int) (h0 : 0 ≤ m) (hm : m < 170141183460469231731687303715884105728) (hd : 1 ≤ d) : B128 (downZ m d) ∧ B128 (upZ m d) := by
  have h1 := Int.ediv_nonneg h0 (show 0 ≤ d by omega)
  have h2 := Int.ediv_le_self d h0
  rw [upZ_law m d hd]
  unfold B128 downZ
  refine ⟨by omega, ?_⟩
  split <;> omega
theorem ratX_m (a b : Int) : (ratX a b).m = a.natAbs * 4294967296 := mkBig_m _ _
theorem ratDB_ok (a b : Int) (ha : I64 a) (hb : b ≠ 0) : (ratDB a b).ok := by
  have h := b128_div (ratX a b).m b.natAbs (by rw [ratX_m]; omega) (by rw [ratX_m]; unfold I64 at ha; omega) (by omega)
  unfold ratDB divDown
  split
  · exact mkBig_ok _ _ h.2
  · exact mkBig_ok _ _ h.1
theorem ratUB_ok (a b : Int) (ha : I64 a) (hb : b ≠ 0) : (ratUB a b).ok := by
  have h := b128_div (ratX a b).m b.natAbs (by rw [ratX_m]; omega) (by rw [ratX_m]; unfold I64 at ha; omega) (by omega)
  unfold ratUB divUp
  split
  · exact mkBig_ok _ _ h.1
  · exact mkBig_ok _ _ h.2
theorem spRatio_any (a b : Int) (ha : I64 a) (hb : I64 b) (h0 : b ≠ 0) (w : World) : Calls Tryz.prog 144 #[.int .i64 a, .int .i64 b] w fun e w' => e = .returned (.tuple #[.agg #[.bool (ratDB a b).neg, .int .u64 (ratDB a b).hi, .int .u64 (ratDB a b).lo], .agg #[.bool (ratUB a b).neg, .int .u64 (ratUB a b).hi, .int .u64 (ratUB a b).lo]]) ∧ Grew w w' := by
  have hm : (ofB a).m < 79228162514264337593543950336 := by rw [ofB_m]; unfold I64 at ha; omega
  have ex : up32B (ofB a) = mkBig (decide (a < 0)) (a.natAbs * 4294967296) := by unfold up32B; rw [ofB_m]; rfl
  have Hu := Lib.hid (fun w => big_up32_any (ofB a) (ofB_ok a ha) hm w)
  rw [ex] at Hu
  have Ha := Lib.hid (fun w => big_of_any a ha w)
  have Hb := Lib.hid (fun w => big_of_any b hb w)
  have e1 : ofB b = ⟨decide (b < 0), 0, b.natAbs⟩ := by
    unfold ofB mkBig
    unfold I64 at hb
    congr 1 <;> omega
  have e2 : mkBig (decide (a < 0)) (a.natAbs * 4294967296) = ⟨decide (a < 0), (ratX a b).hi, (ratX a b).lo⟩ := rfl
  have e3 : ratX a b = ⟨decide (a < 0) != decide (b < 0), (ratX a b).hi, (ratX a b).lo⟩ := rfl
  have hd := fun w => divide_any (ratX a b) ⟨false, 0, b.natAbs⟩ (ratX_ok a b ha) (big_ok0 b.natAbs (by omega) (by unfold I64 at hb; omega)) rfl (by show 1 ≤ (b.natAbs : Int); omega) rfl w
  have Hdw := Lib.hid (show (⟨(ratDB a b).neg, (ratDB a b).hi, (ratDB a b).lo⟩ : Big) = ratDB a b from rfl)
  have Huw := Lib.hid (show (⟨(ratUB a b).neg, (ratUB a b).hi, (ratUB a b).lo⟩ : Big) = ratUB a b from rfl)
  change ∀ w, Calls Tryz.prog 151 #[.agg #[.bool (decide (a < 0) != decide (b < 0)), .int .u64 (ratX a b).hi, .int .u64 (ratX a b).lo], .agg #[.bool false, .int .u64 0, .int .u64 b.natAbs]] w fun e w' => e = .returned (.tuple #[.agg #[.bool (ratDB a b).neg, .int .u64 (ratDB a b).hi, .int .u64 (ratDB a b).lo], .agg #[.bool (ratUB a b).neg, .int .u64 (ratUB a b).hi, .int .u64 (ratUB a b).lo]]) ∧ Grew w w' at hd
  rw [e2] at Hu
  rw [e1] at Hb
  clear e1 e2 e3 ex hm ha hb
  generalize ratDB a b = D at *
  generalize ratUB a b = U at *
  generalize (ratX a b).hi = xh at *
  generalize (ratX a b).lo = xl at *
  generalize decide (a < 0) = sa at *
  generalize decide (b < 0) = sb at *
  generalize (b.natAbs : Int) = nb at *
  have e11 : (true != true) = false := rfl
  have e10 : (true != false) = true := rfl
  have e01 : (false != true) = true := rfl
  have e00 : (false != false) = false := rfl
  cases sa <;> cases sb
  all_goals
    simp only [e11, e10, e01, e00] at hd
    have Hd := Lib.hid hd
    clear hd e11 e10 e01 e00
    go_enter Tryz.func144, Tryz.ntmps144
    go_wp2_with (first | (go_at_call 150; (with_reducible refine call_later (Ha.out _) ?_); intro u) | (go_at_call 150; (with_reducible refine call_later (Hb.out _) ?_); intro u) | (go_at_call 167; (with_reducible refine call_later (Hu.out _) ?_); intro u) | (go_at_call 151; (with_reducible refine call_later (Hd.out _) ?_); intro u))
    refine bodyPost_ret (by (simp [results, Tryz.results144, go_sem] <;> rfl)) rfl ?_
    exact ⟨rfl, (by repeat (first | with_reducible exact Grew.refl _ | with_reducible apply Grew.alloc | with_reducible apply Grew.later | with_reducible apply Grew.drew | with_reducible apply Grew.store | with_reducible assumption))⟩
end Go.Proofs.YtochpnomfedhoaaGreat
