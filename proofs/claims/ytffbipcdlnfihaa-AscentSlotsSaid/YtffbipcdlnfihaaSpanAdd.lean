/-
  Contracts: span's Add, Neg, Sub.
-/
import Derived.Test.YtffbipcdlnfihaaDivide
import Derived.Test.YtffbipcdlnfihaaNumAll
import Derived.Deep.RegionHeld3
namespace Go.Proofs.Ytffbipcdlnfihaa
open Go.RowKit
set_option maxRecDepth 100000
set_option maxHeartbeats 1000000
theorem spChecked_yes (a b : Sp) (hk : (a.okB && b.okB) = true) (v : Value) (w : World) (h : SlAt w v 2 [.int .i64 a.lo, .int .i64 a.hi, .int .i64 b.lo, .int .i64 b.hi]) : Calls Try.prog 56 #[v] w fun e w' => e = .returned (.int .i64 0) ∧ Grew w w' :=
  is_int (by rw [hk]; rfl) (spChecked_two a b v w h)
theorem spChecked_no (a b : Sp) (hk : (a.okB && b.okB) = false) (v : Value) (w : World) (h : SlAt w v 2 [.int .i64 a.lo, .int .i64 a.hi, .int .i64 b.lo, .int .i64 b.hi]) : Calls Try.prog 56 #[v] w fun e w' => e = .returned (.int .i64 2) ∧ Grew w w' :=
  is_int (by rw [hk]; rfl) (spChecked_two a b v w h)
theorem spCheck_yes (a : Sp) (hk : a.okB = true) (w : World) : Calls Try.prog 46 #[.agg #[.int .i64 a.lo, .int .i64 a.hi]] w fun e w' => e = .returned (.int .i64 0) ∧ Grew w w' := is_int (by rw [hk]; rfl) (spCheck_any a w)
theorem spCheck_no (a : Sp) (hk : a.okB = false) (w : World) : Calls Try.prog 46 #[.agg #[.int .i64 a.lo, .int .i64 a.hi]] w fun e w' => e = .returned (.int .i64 2) ∧ Grew w w' := is_int (by rw [hk]; rfl) (spCheck_any a w)
theorem is_res {P : Program} {f : FuncId} {args : Array Value} {w : World} {r r' : Res} (hr : r = r') (h : Calls P f args w fun e w' => e = .returned (.tuple #[.agg #[.int .i64 r.s.lo, .int .i64 r.s.hi], .int .i64 r.e]) ∧ Grew w w') : Calls P f args w fun e w' => e = .returned (.tuple #[.agg #[.int .i64 (r').s.lo, .int .i64 (r').s.hi], .int .i64 (r').e]) ∧ Grew w w' := hr ▸ h
theorem ret_err {e e' : Int} {r : Res} (h : errR e = r) (he : e = e') : Ending.returned (.tuple #[.agg #[.int .i64 0, .int .i64 0], .int .i64 e']) = .returned (.tuple #[.agg #[.int .i64 r.s.lo, .int .i64 r.s.hi], .int .i64 r.e]) := by rw [← h, ← he]; rfl
theorem sum1_any (a b : Int) [ha : N64 a] [hb : N64 b] (w : World) : Calls Try.prog 67 #[.int .i64 a, .int .i64 b] w fun e w' => e = .returned (.agg #[.bool (plusB (ofB a) (ofB b)).neg, .int .u64 (plusB (ofB a) (ofB b)).hi, .int .u64 (plusB (ofB a) (ofB b)).lo]) ∧ Grew w w' := by
  have h1 := Lib.hid (ofB_ok a ha.is)
  have h2 := Lib.hid (ofB_ok b hb.is)
  have h3 := Lib.hid (ofB_sum a b ha.is hb.is)
  go_enter Try.func67, Try.ntmps67
  go_wp2_with (first | (go_at_call 64; (with_reducible refine call_later (big_of_any _ N64.is _) ?_); intro u) | (go_at_call 68; (with_reducible refine call_later (plus_any _ _ _ h1.out h2.out h3.out) ?_); intro u))
  refine bodyPost_ret (by (simp [results, Try.results67, go_sem] <;> rfl)) rfl ?_
  exact ⟨rfl, gw⟩
theorem sumB_ok (a b : Int) [ha : N64 a] [hb : N64 b] : (plusB (ofB a) (ofB b)).ok := plusB_ok (ofB_ok a ha.is) (ofB_ok b hb.is) (ofB_sum a b ha.is hb.is)
theorem spAdd_any (a b : Sp) [ha : S64 a] [hb : S64 b] (w : World) : Calls Try.prog 48 #[.agg #[.int .i64 a.lo, .int .i64 a.hi], .agg #[.int .i64 b.lo, .int .i64 b.hi]] w fun e w' => e = .returned (.tuple #[.agg #[.int .i64 (addR a b).s.lo, .int .i64 (addR a b).s.hi], .int .i64 (addR a b).e]) ∧ Grew w w' := by
  cases hk : (a.okB && b.okB)
  · have Hf := Lib.hid (show errR 2 = addR a b by unfold addR; rw [hk]; rfl)
    go_enter Try.func48, Try.ntmps48
    go_wp2_with (first | (go_at_call 56; (with_reducible refine call_later (spChecked_no a b hk _ _ (SlAt.fresh _ _ _ _ (by simp [maxLen]))) ?_); intro u) | ((with_reducible refine wp_region_later ?_ ?_ ?_); (· kernel_rfl); (· kernel_rfl); (try simp only [List.append_eq, List.cons_append, List.nil_append]); (repeat (go_big_quiet_step ((first | (go_at_call 56; (with_reducible exact call_quiet (spChecked_no a b hk _ _ (SlAt.fresh _ _ _ _ (by simp [maxLen]))))))))); refine wpQuiet_nil ?_; rintro _ ⟨u, rfl⟩))
    refine bodyPost_ret (by (simp [results, Try.results48, go_sem] <;> rfl)) rfl ?_
    exact ⟨ret_err Hf.out rfl, gw⟩
  · have Hf := Lib.hid (show fitR (plusB (ofB a.lo) (ofB b.lo)).val (plusB (ofB a.hi) (ofB b.hi)).val = addR a b by unfold addR; rw [hk, plusB_val, plusB_val, ofB_val, ofB_val, ofB_val, ofB_val]; rfl)
    go_enter Try.func48, Try.ntmps48
    go_wp2_with (first | (go_at_call 56; (with_reducible refine call_later (spChecked_yes a b hk _ _ (SlAt.fresh _ _ _ _ (by simp [maxLen]))) ?_); intro u) | ((with_reducible refine wp_region_later ?_ ?_ ?_); (· kernel_rfl); (· kernel_rfl); (try simp only [List.append_eq, List.cons_append, List.nil_append]); (repeat (go_big_quiet_step ((first | (go_at_call 56; (with_reducible exact call_quiet (spChecked_yes a b hk _ _ (SlAt.fresh _ _ _ _ (by simp [maxLen]))))))))); refine wpQuiet_nil ?_; rintro _ ⟨u, rfl⟩))
    go_region_held3 (fun w' => w'.cell? ⟨w.heap.size, 0, none⟩ = some (.int .i64 a.lo) ∧ w'.cell? ⟨w.heap.size, 1, none⟩ = some (.int .i64 a.hi) ∧ w'.cell? ⟨w.heap.size + 1, 0, none⟩ = some (.int .i64 b.lo) ∧ w'.cell? ⟨w.heap.size + 1, 1, none⟩ = some (.int .i64 b.hi)) (first | exact ⟨(by go_simp), (by go_simp), (by go_simp), (by go_simp)⟩) (first | (go_at_call 67; refine call_later (sum1_any _ _ _) ?_; intro u) | (go_at_call 66; refine call_later (big_fit_any _ _ (sumB_ok _ _) (sumB_ok _ _) _) ?_; intro u))
    go_wp2
    refine bodyPost_ret (by (simp [results, Try.results48, go_sem] <;> rfl)) rfl ?_
    exact ⟨ret_res Hf.out, gw⟩
end Go.Proofs.Ytffbipcdlnfihaa
