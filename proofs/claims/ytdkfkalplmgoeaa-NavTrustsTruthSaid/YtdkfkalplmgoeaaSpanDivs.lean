/-
  Contracts: span's ratio.
  Contracts: span's Div.
-/
import Derived.Test.YtdkfkalplmgoeaaDivLaw
import Derived.Test.YtdkfkalplmgoeaaSpanMul2
import Derived.Test.YtdkfkalplmgoeaaCore
import Derived.Deep.RegionHeld3
import Derived.Test.YtdkfkalplmgoeaaRow
namespace Go.Proofs.Ytdkfkalplmgoeaa
open Go.RowKit
set_option maxRecDepth 100000
set_option maxHeartbeats 2000000
/-- The numerator of a ratio. -/
def ratX (a b : Int) : Big := mkBig (decide (a < 0) != decide (b < 0)) (a.natAbs * 4294967296)
def ratDB (a b : Int) : Big := divDown (ratX a b) b.natAbs
def ratUB (a b : Int) : Big := divUp (ratX a b) b.natAbs
theorem ratX_ok (a b : Int) (ha : I64 a) : (ratX a b).ok := mkBig_ok _ _ (by unfold I64 at ha; unfold B128; omega)
theorem ratX_val (a b : Int) : (ratX a b).val = if b < 0 then -a * 4294967296 else a * 4294967296 := by
  unfold ratX
  rw [mkBig_val]
  by_cases h1 : a < 0 <;> by_cases h2 : b < 0 <;> simp [h1, h2] <;> omega
theorem ratDB_val (a b : Int) : (ratDB a b).val = ratDown a b := by
  unfold ratDB ratDown
  rw [divDown_val, ratX_val]
  split
  · rw [show (b.natAbs : Int) = -b by omega]
  · rw [show (b.natAbs : Int) = b by omega]
theorem ratUB_val (a b : Int) : (ratUB a b).val = ratUp a b := by
  unfold ratUB ratUp
  rw [divUp_val, ratX_val]
  split
  · rw [show (b.natAbs : Int) = -b by omega]
  · rw [show (b.natAbs : Int) = b by omega]
theorem b128_div (m d : Int) (h0 : 0 ≤ m) (hm : m < 170141183460469231731687303715884105728) (hd : 1 ≤ d) : B128 (downZ m d) ∧ B128 (upZ m d) := by
  have h1 := Int.ediv_nonneg h0 (show 0 ≤ d by omega)
  have h2 := Int.ediv_le_self d h0
  rw [upZ_law m d hd]
  unfold B128 downZ
  refine ⟨by omega, ?_⟩
  split <;> omega
theorem ratX_m (a b : Int) : (ratX a b).m = a.natAbs * 4294967296 := mkBig_m _ _
theorem ratDB_ok (a b : Int) (ha : I64 a) (hb : b ≠ 0) : (ratDB a b).ok := by
  have h := b128_div (ratX a b).m b.natAbs (by rw [ratX_m]; omega) (by rw [ratX_m]; unfold I64 at ha; omega) (by omega)
  unfold ratDB divDown
  split
  · exact mkBig_ok _ _ h.2
  · exact mkBig_ok _ _ h.1
theorem ratUB_ok (a b : Int) (ha : I64 a) (hb : b ≠ 0) : (ratUB a b).ok := by
  have h := b128_div (ratX a b).m b.natAbs (by rw [ratX_m]; omega) (by rw [ratX_m]; unfold I64 at ha; omega) (by omega)
  unfold ratUB divUp
  split
  · exact mkBig_ok _ _ h.1
  · exact mkBig_ok _ _ h.2
theorem spRatio_any (a b : Int) (ha : I64 a) (hb : I64 b) (h0 : b ≠ 0) (w : World) : Calls Try.prog 113 #[.int .i64 a, .int .i64 b] w fun e w' => e = .returned (.tuple #[.agg #[.bool (ratDB a b).neg, .int .u64 (ratDB a b).hi, .int .u64 (ratDB a b).lo], .agg #[.bool (ratUB a b).neg, .int .u64 (ratUB a b).hi, .int .u64 (ratUB a b).lo]]) ∧ Grew w w' := by
  have hm : (ofB a).m < 79228162514264337593543950336 := by rw [ofB_m]; unfold I64 at ha; omega
  have ex : up32B (ofB a) = mkBig (decide (a < 0)) (a.natAbs * 4294967296) := by unfold up32B; rw [ofB_m]; rfl
  have Hu := Lib.hid (fun w => big_up32_any (ofB a) (ofB_ok a ha) hm w)
  rw [ex] at Hu
  have Ha := Lib.hid (fun w => big_of_any a ha w)
  have Hb := Lib.hid (fun w => big_of_any b hb w)
  have e1 : ofB b = ⟨decide (b < 0), 0, b.natAbs⟩ := by
    unfold ofB mkBig
    unfold I64 at hb
    congr 1 <;> omega
  have e2 : mkBig (decide (a < 0)) (a.natAbs * 4294967296) = ⟨decide (a < 0), (ratX a b).hi, (ratX a b).lo⟩ := rfl
  have e3 : ratX a b = ⟨decide (a < 0) != decide (b < 0), (ratX a b).hi, (ratX a b).lo⟩ := rfl
  have hd := fun w => divide_any (ratX a b) ⟨false, 0, b.natAbs⟩ (ratX_ok a b ha) (big_ok0 b.natAbs (by omega) (by unfold I64 at hb; omega)) rfl (by show 1 ≤ (b.natAbs : Int); omega) rfl w
  have Hdw := Lib.hid (show (⟨(ratDB a b).neg, (ratDB a b).hi, (ratDB a b).lo⟩ : Big) = ratDB a b from rfl)
  have Huw := Lib.hid (show (⟨(ratUB a b).neg, (ratUB a b).hi, (ratUB a b).lo⟩ : Big) = ratUB a b from rfl)
  change ∀ w, Calls Try.prog 85 #[.agg #[.bool (decide (a < 0) != decide (b < 0)), .int .u64 (ratX a b).hi, .int .u64 (ratX a b).lo], .agg #[.bool false, .int .u64 0, .int .u64 b.natAbs]] w fun e w' => e = .returned (.tuple #[.agg #[.bool (ratDB a b).neg, .int .u64 (ratDB a b).hi, .int .u64 (ratDB a b).lo], .agg #[.bool (ratUB a b).neg, .int .u64 (ratUB a b).hi, .int .u64 (ratUB a b).lo]]) ∧ Grew w w' at hd
  rw [e2] at Hu
  rw [e1] at Hb
  clear e1 e2 e3 ex hm ha hb
  generalize ratDB a b = D at *
  generalize ratUB a b = U at *
  generalize (ratX a b).hi = xh at *
  generalize (ratX a b).lo = xl at *
  generalize decide (a < 0) = sa at *
  generalize decide (b < 0) = sb at *
  generalize (b.natAbs : Int) = nb at *
  have e11 : (true != true) = false := rfl
  have e10 : (true != false) = true := rfl
  have e01 : (false != true) = true := rfl
  have e00 : (false != false) = false := rfl
  cases sa <;> cases sb
  all_goals
    simp only [e11, e10, e01, e00] at hd
    have Hd := Lib.hid hd
    clear hd e11 e10 e01 e00
    go_enter Try.func113, Try.ntmps113
    go_wp2_with (first | (go_at_call 84; (with_reducible refine call_later (Ha.out _) ?_); intro u) | (go_at_call 84; (with_reducible refine call_later (Hb.out _) ?_); intro u) | (go_at_call 122; (with_reducible refine call_later (Hu.out _) ?_); intro u) | (go_at_call 85; (with_reducible refine call_later (Hd.out _) ?_); intro u))
    refine bodyPost_ret (by (simp [results, Try.results113, go_sem] <;> rfl)) rfl ?_
    exact ⟨rfl, gw⟩
end Go.Proofs.Ytdkfkalplmgoeaa
namespace Go.Proofs.Ytdkfkalplmgoeaa
open Go.RowKit
set_option maxRecDepth 100000
set_option maxHeartbeats 8000000
def nthS (a : Sp) (k : Nat) : Int := if k = 0 then a.lo else a.hi
theorem nthS_i64 (a : Sp) [h : S64 a] (k : Nat) : I64 (nthS a k) := by
  unfold nthS
  split
  · exact h.lo
  · exact h.hi
def ratCor (a b : Sp) : List (Int × Int) := [(a.lo, b.lo), (a.lo, b.hi), (a.hi, b.lo), (a.hi, b.hi)]
def downsL (a b : Sp) (n : Nat) : List Big := ((ratCor a b).take n).map fun p => ratDB p.1 p.2
def abovesL (a b : Sp) (n : Nat) : List Big := ((ratCor a b).take n).map fun p => ratUB p.1 p.2
theorem cor_at (a b : Sp) (k j : Nat) (hk : k < 2) (hj : j < 2) : (ratCor a b)[2 * k + j]? = some (nthS a k, nthS b j) := by
  rcases (show k = 0 ∨ k = 1 by omega) with rfl | rfl <;> rcases (show j = 0 ∨ j = 1 by omega) with rfl | rfl <;> rfl
theorem downsL_succ (a b : Sp) (k j : Nat) (hk : k < 2) (hj : j < 2) : (downsL a b (2 * k + j + 1)).flatMap Big.cells = (downsL a b (2 * k + j)).flatMap Big.cells ++ [.bool ((ratDB (nthS a k) (nthS b j))).neg, .int .u64 ((ratDB (nthS a k) (nthS b j))).hi, .int .u64 ((ratDB (nthS a k) (nthS b j))).lo] := by
  unfold downsL
  rw [List.take_add_one, cor_at a b k j hk hj]
  simp [Big.cells]
theorem abovesL_succ (a b : Sp) (k j : Nat) (hk : k < 2) (hj : j < 2) : (abovesL a b (2 * k + j + 1)).flatMap Big.cells = (abovesL a b (2 * k + j)).flatMap Big.cells ++ [.bool ((ratUB (nthS a k) (nthS b j))).neg, .int .u64 ((ratUB (nthS a k) (nthS b j))).hi, .int .u64 ((ratUB (nthS a k) (nthS b j))).lo] := by
  unfold abovesL
  rw [List.take_add_one, cor_at a b k j hk hj]
  simp [Big.cells]
theorem infoBig : (Try.prog.info? 139).map (fun i => (i.zero, i.size, i.bytes)) = some (some (.agg #[.bool false, .int .u64 0, .int .u64 0]), 3, 24) := by kernel_rfl
structure DivAt (a b : Sp) (W : World) (n : Nat) (v1 v2 : Value) (wr : World) : Prop where
  grew : Grew W wr
  own1 : wr.ownsRow W.heap.size 139 3 v1 n ((downsL a b n).flatMap Big.cells)
  own2 : wr.ownsRow W.heap.size 139 3 v2 n ((abovesL a b n).flatMap Big.cells)
  apart : RowsApart v1 v2
theorem spDiv_run (a b : Sp) [ha : S64 a] [hb : S64 b] (hk : (a.okB && b.okB) = true) (hb1 : b.lo ≠ 0) (hb2 : b.hi ≠ 0) (w : World) (hz : decide (b.lo ≤ 0) = false ∨ (decide (b.lo ≤ 0) = true ∧ decide (0 ≤ b.hi) = false))
    (R : Res) (hR : fitR (leastB (ratDB a.lo b.lo) [ratDB a.lo b.hi, ratDB a.hi b.lo, ratDB a.hi b.hi]).val (mostB (ratUB a.lo b.lo) [ratUB a.lo b.hi, ratUB a.hi b.lo, ratUB a.hi b.hi]).val = R) : Calls Try.prog 92 #[.agg #[.int .i64 a.lo, .int .i64 a.hi], .agg #[.int .i64 b.lo, .int .i64 b.hi]] w fun e w' => e = .returned (.tuple #[.agg #[.int .i64 R.s.lo, .int .i64 R.s.hi], .int .i64 R.e]) ∧ Grew w w' := by
  have Hf := Lib.hid hR
  have hne : ∀ j, nthS b j ≠ 0 := fun j => by unfold nthS; split <;> assumption
  have Hne := Lib.hid hne
  obtain ⟨i0, hi, hz0, hzz1, hzz2⟩ := info_parts infoBig
  have Hinf := Lib.hid (And.intro hi (And.intro hz0 (And.intro hzz1 hzz2)))
  clear hi hz0 hzz1 hzz2
  clear hR hne hb1 hb2
  rcases hz with hz1 | ⟨hz1, hz2⟩
  all_goals
    go_enter Try.func92, Try.ntmps92
    go_wp2_with (first | (go_at_call 51; (with_reducible refine call_later (spChecked_yes a b hk _ _ (SlAt.fresh _ _ _ _ (by simp [maxLen]))) ?_); intro u) | ((with_reducible refine wp_region_later ?_ ?_ ?_); (· kernel_rfl); (· kernel_rfl); (try simp only [List.append_eq, List.cons_append, List.nil_append]); (repeat (go_big_quiet_step ((first | (go_at_call 51; (with_reducible exact call_quiet (spChecked_yes a b hk _ _ (SlAt.fresh _ _ _ _ (by simp [maxLen]))))))))); refine wpQuiet_nil ?_; rintro _ ⟨u, rfl⟩))
    refine wp_to_later (z := w) gw ?_
    intro W hW
    have hA : BoxAt W.world w.heap.size [.int .i64 a.lo, .int .i64 a.hi] := by rw [hW]; exact bxt
    have hB : BoxAt W.world (w.heap.size + 1) [.int .i64 b.lo, .int .i64 b.hi] := by rw [hW]; exact bxt
    have hC : BoxAt W.world (w.heap.size + 1 + 1) [.int .i64 0, .int .i64 0] := by rw [hW]; exact bxt
    have hS : RowAt W.world u.world.heap.size [.int .i64 (nthS a 0), .int .i64 (nthS a 1)] := by
      rw [hW]
      show RowAt _ _ [.int .i64 a.lo, .int .i64 a.hi]
      infer_instance
    have gW : Grew w W.world := W.grew
    clear hW
    have hA_0 := (hA 0 _ rfl).1
    have hAf0 := (hA 0 _ rfl).2
    have hAi0 : HasCell (W.world) (w.heap.size) 0 := ⟨_, hA_0⟩
    have hA_1 := (hA 1 _ rfl).1
    have hAf1 := (hA 1 _ rfl).2
    have hAi1 : HasCell (W.world) (w.heap.size) 1 := ⟨_, hA_1⟩
    have hAb : BlockIn (W.world) (w.heap.size) := BlockIn.of_cell hA_0
    clear hA
    have hB_0 := (hB 0 _ rfl).1
    have hBf0 := (hB 0 _ rfl).2
    have hBi0 : HasCell (W.world) (w.heap.size + 1) 0 := ⟨_, hB_0⟩
    have hB_1 := (hB 1 _ rfl).1
    have hBf1 := (hB 1 _ rfl).2
    have hBi1 : HasCell (W.world) (w.heap.size + 1) 1 := ⟨_, hB_1⟩
    have hBb : BlockIn (W.world) (w.heap.size + 1) := BlockIn.of_cell hB_0
    clear hB
    have hC_0 := (hC 0 _ rfl).1
    have hCf0 := (hC 0 _ rfl).2
    have hCi0 : HasCell (W.world) (w.heap.size + 1 + 1) 0 := ⟨_, hC_0⟩
    have hC_1 := (hC 1 _ rfl).1
    have hCf1 := (hC 1 _ rfl).2
    have hCi1 : HasCell (W.world) (w.heap.size + 1 + 1) 1 := ⟨_, hC_1⟩
    have hCb : BlockIn (W.world) (w.heap.size + 1 + 1) := BlockIn.of_cell hC_0
    clear hC
    have hS0 := hS.is 0 _ rfl
    have ibS : BlockIn W.world u.world.heap.size := BlockIn.of_cell hS0
    go_loopw [7, 8, 42] (fun v1 v2 t wr => ∃ (k : Nat) (v7 v8 : Value), t = .int .i64 k ∧ v7 = v1 ∧ v8 = v2 ∧ k ≤ 2 ∧ DivAt a b W.world (2 * k) v7 v8 wr) (fun _ _ t _ => 2 - (intOf t).toNat)
    case atStart => exact ⟨0, _, _, rfl, rfl, rfl, by omega, Grew.refl _, World.ownsRow_nil _ _ _ _, World.ownsRow_nil _ _ _ _, rowsApart_nil _⟩
    case round =>
      obtain ⟨k, v7, v8, rfl, rfl, rfl, hk2, hD⟩ := hrel
      obtain ⟨hg, ho1, ho2, hap⟩ := hD
      obtain ⟨z, rfl⟩ := later_of hg
      clear hg
      by_cases hlt : k < 2
      · have hx : z.world.cell? ⟨u.world.heap.size, k, none⟩ = some (.int .i64 (nthS a k)) := by
          rw [z.cell]
          rcases (show k = 0 ∨ k = 1 by omega) with rfl | rfl
          · exact hS.is 0 _ rfl
          · exact hS.is 1 _ rfl
        have Hxi := Lib.hid (nthS_i64 a k)
        generalize hxe : nthS a k = x at *
        have Hxe := Lib.hid hxe
        clear hxe
        have io1 : Own z.world W.world.heap.size 139 3 v7 (2 * k) ((downsL a b (2 * k)).flatMap Big.cells) := ⟨ho1⟩
        have io2 : Own z.world W.world.heap.size 139 3 v8 (2 * k) ((abovesL a b (2 * k)).flatMap Big.cells) := ⟨ho2⟩
        have hltd : decide ((k : Int) < 2) = true := by simp; omega
        go_wp2
        go_loopw [7, 8, 52] (fun v1 v2 t wr => ∃ (j : Nat) (v7 v8 : Value), t = .int .i64 j ∧ v7 = v1 ∧ v8 = v2 ∧ j ≤ 2 ∧ DivAt a b W.world (2 * k + j) v7 v8 wr ∧ RowAt wr z.world.heap.size [.int .i64 (nthS b 0), .int .i64 (nthS b 1)] ∧ NotRow z.world.heap.size v7 ∧ NotRow z.world.heap.size v8) (fun _ _ t _ => 2 - (intOf t).toNat)
        case atStart =>
          refine ⟨0, _, _, rfl, rfl, rfl, by omega, ⟨gw, (io1.is.alloc _), (io2.is.alloc _), hap⟩, ?_, notRow_new io1.is _, notRow_new io2.is _⟩
          show RowAt _ _ [.int .i64 b.lo, .int .i64 b.hi]
          infer_instance
        case round =>
          obtain ⟨j, v7, v8, rfl, rfl, rfl, hj2, hD, hS5, hn7, hn8⟩ := hrel
          clear io1 io2 ho1 ho2 hap
          obtain ⟨hg, ho1, ho2, hap⟩ := hD
          obtain ⟨y, rfl⟩ := later_of hg
          clear hg
          have hS50 := hS5.is 0 _ rfl
          have ib5 : BlockIn y.world z.world.heap.size := BlockIn.of_cell hS50
          by_cases hlt2 : j < 2
          · have hy : y.world.cell? ⟨z.world.heap.size, j, none⟩ = some (.int .i64 (nthS b j)) := by
              rcases (show j = 0 ∨ j = 1 by omega) with rfl | rfl
              · exact hS5.is 0 _ rfl
              · exact hS5.is 1 _ rfl
            have io1 : Own y.world W.world.heap.size 139 3 v7 (2 * k + j) ((downsL a b (2 * k + j)).flatMap Big.cells) := ⟨ho1⟩
            have io2 : Own y.world W.world.heap.size 139 3 v8 (2 * k + j) ((abovesL a b (2 * k + j)).flatMap Big.cells) := ⟨ho2⟩
            have Hd1 := Lib.hid (downsL_succ a b k j hlt hlt2)
            have Hd2 := Lib.hid (abovesL_succ a b k j hlt hlt2)
            have Hyi := Lib.hid (nthS_i64 b j)
            have Hyn := Lib.hid (Hne.out j)
            rw [Hxe.out] at Hd1 Hd2
            generalize nthS b j = yv at *
            have HT := Lib.hid (fun w => spRatio_any x yv Hxi.out Hyi.out Hyn.out w)
            generalize ratDB x yv = D at *
            generalize ratUB x yv = U at *
            go_wp2_with (first | (go_at_call 113; (with_reducible refine call_later (HT.out _) ?_); intro u5))
            have nq13 : NewFor y.world u5.world.heap.size := inferInstance
            have nq14 : NewFor y.world (u5.world.heap.size + 1) := inferInstance
            refine wp_to_later (z := y.world) gw ?_
            intro Y hY
            have b13 : BoxAt Y.world u5.world.heap.size [.bool D.neg, .int .u64 D.hi, .int .u64 D.lo] := by rw [hY]; exact boxAt_three (by go_simp) (by go_simp) (by go_simp) (by go_simp) (by go_simp) (by go_simp)
            have b14 : BoxAt Y.world (u5.world.heap.size + 1) [.bool U.neg, .int .u64 U.hi, .int .u64 U.lo] := by rw [hY]; exact boxAt_three (by go_simp) (by go_simp) (by go_simp) (by go_simp) (by go_simp) (by go_simp)
            clear hY
            have r13 := rowAt_of_box b13
            have r14 := rowAt_of_box b14
            clear b13 b14
            have inr1 : ∀ b, [NewFor y.world b] → NotRow b v7 := fun b => notRow_new io1.is b
            have inr2 : ∀ b, [NewFor y.world b] → NotRow b v8 := fun b => notRow_new io2.is b
            have hbase : W.world.heap.size ≤ Y.world.heap.size := Nat.le_trans y.grew.size Y.grew.size
            have hm : 2 * k + j < 4 := by omega
            have ns13 : NewFor y.world Y.world.heap.size := inferInstance
            obtain ⟨hi, hz0, hzz1, hzz2⟩ := Hinf.out
            go_region_held3 (fun w' => w'.cell? ⟨u5.world.heap.size, 0, none⟩ = some (.bool D.neg) ∧ w'.cell? ⟨u5.world.heap.size, 1, none⟩ = some (.int .u64 D.hi) ∧ w'.cell? ⟨u5.world.heap.size, 2, none⟩ = some (.int .u64 D.lo) ∧ w'.cell? ⟨u5.world.heap.size + 1, 0, none⟩ = some (.bool U.neg) ∧ w'.cell? ⟨u5.world.heap.size + 1, 1, none⟩ = some (.int .u64 U.hi) ∧ w'.cell? ⟨u5.world.heap.size + 1, 2, none⟩ = some (.int .u64 U.lo))
              (exact ⟨RowAt.is (l := [.bool D.neg, .int .u64 D.hi, .int .u64 D.lo]) 0 _ rfl, RowAt.is (l := [.bool D.neg, .int .u64 D.hi, .int .u64 D.lo]) 1 _ rfl, RowAt.is (l := [.bool D.neg, .int .u64 D.hi, .int .u64 D.lo]) 2 _ rfl, RowAt.is (l := [.bool U.neg, .int .u64 U.hi, .int .u64 U.lo]) 0 _ rfl, RowAt.is (l := [.bool U.neg, .int .u64 U.hi, .int .u64 U.lo]) 1 _ rfl, RowAt.is (l := [.bool U.neg, .int .u64 U.hi, .int .u64 U.lo]) 2 _ rfl⟩)
              (first
                | (refine step_append_lies _ (by rfl) _ _ 158 (by rfl) W.world.heap.size 139 i0 _ 3 24 Try.underlying158 hi hz0 hzz1 hzz2 (by rfl) (by decide) v7 _ _ (by rfl) Own.is ⟨_, 0, none⟩ 1 1 [.bool D.neg, .int .u64 D.hi, .int .u64 D.lo] (by rfl) (by rfl) news_row (by simp [Value.oneCell']) (by decide) (by simp [maxLen]; omega) (by omega) (by (try simp); omega) _ rfl ?_
                   intro g1 cap1 w1 hown1 hgrow1 hat1 hlt1
                   have hg1 : Grew W.world w1 := Grew.append gw (Own.is (v := v7) (base := W.world.heap.size) (e := 139) (size := 3)) (Nat.le_refl _) hgrow1
                   have io3 : Own w1 W.world.heap.size 139 3 v8 (2 * k + j) ((abovesL a b (2 * k + j)).flatMap Big.cells) := ⟨owns_far Own.is hgrow1 hap.symm⟩
                   have hap1 : RowsApart (.slice (some ⟨g1, 0, none⟩) (2 * k + j + 1) cap1) v8 := apart_grown (Own.is (v := v8) (base := W.world.heap.size) (e := 139) (size := 3)) hap hat1
                   have io4 : Own w1 W.world.heap.size 139 3 (.slice (some ⟨g1, 0, none⟩) (2 * k + j + 1) cap1) (2 * k + j + 1) _ := ⟨hown1⟩
                   have ifar := far_inst hgrow1
                   have hsz1 := hg1.size
                   have hn71 : NotRow z.world.heap.size (.slice (some ⟨g1, 0, none⟩) (2 * k + j + 1) cap1) := notRow_grown BlockIn.lt hat1
                   have ib51 : BlockIn w1 z.world.heap.size := ⟨Nat.lt_of_lt_of_le BlockIn.lt hgrow1.size⟩
                   have inw : NewFor y.world w1.heap.size := ⟨Nat.le_trans (NewFor.le (a := y.world)) hgrow1.size⟩)
                | (refine step_append_lies _ (by rfl) _ _ 158 (by rfl) W.world.heap.size 139 i0 _ 3 24 Try.underlying158 hi hz0 hzz1 hzz2 (by rfl) (by decide) v8 _ _ (by rfl) Own.is ⟨_, 0, none⟩ 1 1 [.bool U.neg, .int .u64 U.hi, .int .u64 U.lo] (by rfl) (by rfl) news_row (by simp [Value.oneCell']) (by decide) (by simp [maxLen]; omega) (by omega) (by (try simp); omega) _ rfl ?_
                   intro g2 cap2 w2 hown2 hgrow2 hat2 hlt2
                   have ifar2 := far_inst hgrow2
                   have hg2 : Grew W.world w2 := Grew.append gw (Own.is (v := v8) (base := W.world.heap.size) (e := 139) (size := 3)) (Nat.le_refl _) hgrow2
                   have hown1' : w2.ownsRow W.world.heap.size 139 3 (.slice (some ⟨g1, 0, none⟩) (2 * k + j + 1) cap1) (2 * k + j + 1) _ := owns_far Own.is hgrow2 hap1
                   have hap2 := apart_grown2 (m := 2 * k + j + 1) (cap := cap2) (Own.is (v := .slice (some ⟨g1, 0, none⟩) (2 * k + j + 1) cap1) (base := W.world.heap.size) (e := 139) (size := 3)) hap1 hat2
                   have hn81 : NotRow z.world.heap.size (.slice (some ⟨g2, 0, none⟩) (2 * k + j + 1) cap2) := notRow_grown BlockIn.lt hat2
                   have ib52 : RowAt w2 z.world.heap.size [.int .i64 (nthS b 0), .int .i64 (nthS b 1)] := inferInstance))
            all_goals go_wp2
            all_goals
              go_roundw
              case rel =>
                refine ⟨j + 1, _, _, by go_num, rfl, rfl, by omega, ⟨hg2, ?_, ?_, hap2⟩, ib52, hn71, hn81⟩
                · show World.ownsRow _ _ _ _ _ (2 * k + j + 1) ((downsL a b (2 * k + j + 1)).flatMap Big.cells)
                  rw [Hd1.out]
                  exact hown1'
                · show World.ownsRow _ _ _ _ _ (2 * k + j + 1) ((abovesL a b (2 * k + j + 1)).flatMap Big.cells)
                  rw [Hd2.out]
                  exact hown2
              case measure => simp [intOf]; omega
          · obtain rfl : j = 2 := by omega
            rw [show ((2 : Nat) : Int) = 2 from rfl]
            have gy : Grew W.world y.world := gw
            go_wp2
            go_roundw
            case rel => exact ⟨k + 1, _, _, by go_num, rfl, rfl, by omega, gy, ho1, ho2, hap⟩
            case measure => simp [intOf]; omega
      · obtain rfl : k = 2 := by omega
        rw [show ((2 : Nat) : Int) = 2 from rfl]
        obtain ⟨ao1, cap1, rfl, hc1, hm1⟩ := owns_cap ho1 (by omega)
        obtain ⟨ao2, cap2, rfl, hc2, hm2⟩ := owns_cap ho2 (by omega)
        have HD1 := Lib.hid (ratDB_ok a.lo b.lo ha.lo (Hne.out 0))
        have HD2 := Lib.hid (ratDB_ok a.lo b.hi ha.lo (Hne.out 1))
        have HD3 := Lib.hid (ratDB_ok a.hi b.lo ha.hi (Hne.out 0))
        have HD4 := Lib.hid (ratDB_ok a.hi b.hi ha.hi (Hne.out 1))
        have HU1 := Lib.hid (ratUB_ok a.lo b.lo ha.lo (Hne.out 0))
        have HU2 := Lib.hid (ratUB_ok a.lo b.hi ha.lo (Hne.out 1))
        have HU3 := Lib.hid (ratUB_ok a.hi b.lo ha.hi (Hne.out 0))
        have HU4 := Lib.hid (ratUB_ok a.hi b.hi ha.hi (Hne.out 1))
        have hs1 : SlAt z.world (.slice ao1 4 cap1) 4 ((ratDB a.lo b.lo :: [ratDB a.lo b.hi, ratDB a.hi b.lo, ratDB a.hi b.hi]).flatMap Big.cells) := SlAt.of_owns ho1
        have hs2 : SlAt z.world (.slice ao2 4 cap2) 4 ((ratUB a.lo b.lo :: [ratUB a.lo b.hi, ratUB a.hi b.lo, ratUB a.hi b.hi]).flatMap Big.cells) := SlAt.of_owns ho2
        clear ho1 ho2 hap
        generalize ratDB a.lo b.lo = x1 at *
        generalize ratDB a.lo b.hi = x2 at *
        generalize ratDB a.hi b.lo = x3 at *
        generalize ratDB a.hi b.hi = x4 at *
        generalize ratUB a.lo b.lo = y1 at *
        generalize ratUB a.lo b.hi = y2 at *
        generalize ratUB a.hi b.lo = y3 at *
        generalize ratUB a.hi b.hi = y4 at *
        have HX := Lib.hid (fun w h => hull_any x1 [x2, x3, x4] HD1.out (by simpa using ⟨HD2.out, HD3.out, HD4.out⟩) ao1 cap1 hc1 w h)
        have HY := Lib.hid (fun w h => hull_any y1 [y2, y3, y4] HU1.out (by simpa using ⟨HU2.out, HU3.out, HU4.out⟩) ao2 cap2 hc2 w h)
        have HF := Lib.hid (fun w => big_fit_any (leastB x1 [x2, x3, x4]) (mostB y1 [y2, y3, y4]) (leastB_ok4 HD1.out HD2.out HD3.out HD4.out) (mostB_ok4 HU1.out HU2.out HU3.out HU4.out) w)
        have Hs1 := Lib.hid hs1
        have Hs2 := Lib.hid hs2
        clear hs1 hs2
        go_wp2_with (first | (go_at_call 83; (with_reducible refine call_later (HX.out _ (Hs1.out.grew gw)) ?_); intro u6) | (go_at_call 83; (with_reducible refine call_later (HY.out _ (Hs2.out.grew gw)) ?_); intro u7) | (go_at_call 86; (with_reducible refine call_later (HF.out _) ?_); intro u8))
        refine bodyPost_ret (by (simp [results, Try.results92, go_sem] <;> rfl)) rfl ?_
        exact ⟨ret_res (by rw [← Hf.out]), gw⟩
theorem spDiv_any (a b : Sp) [ha : S64 a] [hb : S64 b] (w : World) : Calls Try.prog 92 #[.agg #[.int .i64 a.lo, .int .i64 a.hi], .agg #[.int .i64 b.lo, .int .i64 b.hi]] w fun e w' => e = .returned (.tuple #[.agg #[.int .i64 (divR a b).s.lo, .int .i64 (divR a b).s.hi], .int .i64 (divR a b).e]) ∧ Grew w w' := by
  cases hk : (a.okB && b.okB)
  · have Hf := Lib.hid (show errR 2 = divR a b by unfold divR; rw [hk]; rfl)
    go_enter Try.func92, Try.ntmps92
    go_wp2_with (first | (go_at_call 51; (with_reducible refine call_later (spChecked_no a b hk _ _ (SlAt.fresh _ _ _ _ (by simp [maxLen]))) ?_); intro u) | ((with_reducible refine wp_region_later ?_ ?_ ?_); (· kernel_rfl); (· kernel_rfl); (try simp only [List.append_eq, List.cons_append, List.nil_append]); (repeat (go_big_quiet_step ((first | (go_at_call 51; (with_reducible exact call_quiet (spChecked_no a b hk _ _ (SlAt.fresh _ _ _ _ (by simp [maxLen]))))))))); refine wpQuiet_nil ?_; rintro _ ⟨u, rfl⟩))
    refine bodyPost_ret (by (simp [results, Try.results92, go_sem] <;> rfl)) rfl ?_
    exact ⟨ret_err Hf.out rfl, gw⟩
  · by_cases hz : b.lo ≤ 0 ∧ 0 ≤ b.hi
    · have Hf := Lib.hid (show errR 10 = divR a b by unfold divR; rw [hk, show (decide (b.lo ≤ 0) && decide (0 ≤ b.hi)) = true by simp [hz]]; rfl)
      obtain ⟨hz1, hz2⟩ := hz
      go_enter Try.func92, Try.ntmps92
      go_wp2_with (first | (go_at_call 51; (with_reducible refine call_later (spChecked_yes a b hk _ _ (SlAt.fresh _ _ _ _ (by simp [maxLen]))) ?_); intro u) | ((with_reducible refine wp_region_later ?_ ?_ ?_); (· kernel_rfl); (· kernel_rfl); (try simp only [List.append_eq, List.cons_append, List.nil_append]); (repeat (go_big_quiet_step ((first | (go_at_call 51; (with_reducible exact call_quiet (spChecked_yes a b hk _ _ (SlAt.fresh _ _ _ _ (by simp [maxLen]))))))))); refine wpQuiet_nil ?_; rintro _ ⟨u, rfl⟩))
      refine bodyPost_ret (by (simp [results, Try.results92, go_sem] <;> rfl)) rfl ?_
      exact ⟨ret_err Hf.out rfl, gw⟩
    · have hlo := (okB_num (Bool.and_eq_true_iff.1 hk).2).2.2
      have hz' : (decide (b.lo ≤ 0) && decide (0 ≤ b.hi)) = false := by
        by_cases h1 : b.lo ≤ 0 <;> simp [h1] ; omega
      have hzz : decide (b.lo ≤ 0) = false ∨ (decide (b.lo ≤ 0) = true ∧ decide (0 ≤ b.hi) = false) := by
        by_cases h1 : b.lo ≤ 0 <;> simp [h1] ; omega
      refine spDiv_run a b hk (by omega) (by omega) w hzz _ ?_
      unfold divR
      rw [hk, hz', leastB_val4, mostB_val4, ratDB_val, ratDB_val, ratDB_val, ratDB_val, ratUB_val, ratUB_val, ratUB_val, ratUB_val]
      rfl
end Go.Proofs.Ytdkfkalplmgoeaa
