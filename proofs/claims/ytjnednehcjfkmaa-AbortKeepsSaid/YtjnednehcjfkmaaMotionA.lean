/-
  Contracts: abort's whole, at, along.
-/
import Derived.Test.YtjnednehcjfkmaaMotion
import Derived.Test.YtjnednehcjfkmaaSpanDivs
import Derived.Test.YtjnednehcjfkmaaFolds
namespace Go.Proofs.Ytjnednehcjfkmaa
open Go.RowKit
set_option maxRecDepth 100000
set_option maxHeartbeats 4000000
theorem abWhole_any (n : Int) (h0 : 0 ≤ n) (h1 : n ≤ 1000000) (w : World) : Calls Try.prog 64 #[.int .i64 n] w fun e w' => e = .returned (.agg #[.int .i64 ((wholeS n)).lo, .int .i64 ((wholeS n)).hi]) ∧ Grew w w' := by
  go_enter Try.func64, Try.ntmps64
  go_wp2
  refine bodyPost_ret (by (simp [results, Try.results64, go_sem] <;> rfl)) rfl ?_
  exact ⟨rfl, (by repeat (first | with_reducible exact Grew.refl _ | with_reducible apply Grew.alloc | with_reducible apply Grew.later | with_reducible apply Grew.drew | with_reducible apply Grew.store | with_reducible assumption))⟩
class Sm (n : Int) : Prop where
  lo : 0 ≤ n
  hi : n ≤ 1000000
instance sm_two : Sm 2 := ⟨by omega, by omega⟩
theorem abWholeN (n : Int) [h : Sm n] (w : World) : Calls Try.prog 64 #[.int .i64 n] w fun e w' => e = .returned (.agg #[.int .i64 ((wholeS n)).lo, .int .i64 ((wholeS n)).hi]) ∧ Grew w w' := abWhole_any n h.lo h.hi w
theorem abAt_any (m : Mo) (k : Int) [hk : N64 k] (hm : m.fair) (w : World) : Calls Try.prog 42 #[.agg #[.int .i64 m.d.x.lo, .int .i64 m.d.x.hi, .int .i64 m.w.x.lo, .int .i64 m.w.x.hi, .int .i64 m.a.x.lo, .int .i64 m.a.x.hi, .int .i64 m.d.y.lo, .int .i64 m.d.y.hi, .int .i64 m.w.y.lo, .int .i64 m.w.y.hi, .int .i64 m.a.y.lo, .int .i64 m.a.y.hi, .int .i64 m.d.z.lo, .int .i64 m.d.z.hi, .int .i64 m.w.z.lo, .int .i64 m.w.z.hi, .int .i64 m.a.z.lo, .int .i64 m.a.z.hi, .int .i64 m.t, .int .i64 m.n], .int .i64 k] w fun e w' => e = .returned (.tuple #[.agg #[.int .i64 (momentR m k).s.lo, .int .i64 (momentR m k).s.hi], .int .i64 (momentR m k).e]) ∧ Grew w w' := by
  have hn : Sm m.n := ⟨by have := hm.2.2.1; omega, by have := hm.2.2.2; omega⟩
  have ht : N64 m.t := ⟨by have := hm.1; have := hm.2.1; unfold I64; omega⟩
  have hw := wholeS_64 m.n hn.lo hn.hi
  have HS := Lib.hid (fun w => (show Calls Try.prog 63 #[.agg #[.int .i64 ((⟨m.t, m.t⟩ : Sp)).lo, .int .i64 ((⟨m.t, m.t⟩ : Sp)).hi], .int .i64 k] w fun e w' => e = .returned (.tuple #[.agg #[.int .i64 (mo1 m k).s.lo, .int .i64 (mo1 m k).s.hi], .int .i64 (mo1 m k).e]) ∧ Grew w w' from spScale_any ⟨m.t, m.t⟩ k w))
  clear hm
  by_cases he : (mo1 m k).e = 0
  · have HD := Lib.hid (fun w => is_res (show divR (mo1 m k).s (wholeS m.n) = momentR m k by unfold momentR; rw [he, doR_ok]) (spDiv_any (mo1 m k).s (wholeS m.n) w))
    have he' : ((mo1 m k).e != 0) = false := by simp [he]
    clear he
    go_enter Try.func42, Try.ntmps42
    go_wp2_with (first | (go_at_call 63; (with_reducible refine call_later (HS.out _) ?_); intro u))
    go_region_held3 (fun w' => w'.cell? ⟨u.world.heap.size, 0, none⟩ = some (.int .i64 ((mo1 m k).s).lo) ∧ w'.cell? ⟨u.world.heap.size, 1, none⟩ = some (.int .i64 ((mo1 m k).s).hi) ∧ w'.cell? ⟨w.heap.size, 0, none⟩ = some (.int .i64 m.d.x.lo) ∧ w'.cell? ⟨w.heap.size, 1, none⟩ = some (.int .i64 m.d.x.hi) ∧ w'.cell? ⟨w.heap.size, 2, none⟩ = some (.int .i64 m.w.x.lo) ∧ w'.cell? ⟨w.heap.size, 3, none⟩ = some (.int .i64 m.w.x.hi) ∧ w'.cell? ⟨w.heap.size, 4, none⟩ = some (.int .i64 m.a.x.lo) ∧ w'.cell? ⟨w.heap.size, 5, none⟩ = some (.int .i64 m.a.x.hi) ∧ w'.cell? ⟨w.heap.size, 6, none⟩ = some (.int .i64 m.d.y.lo) ∧ w'.cell? ⟨w.heap.size, 7, none⟩ = some (.int .i64 m.d.y.hi) ∧ w'.cell? ⟨w.heap.size, 8, none⟩ = some (.int .i64 m.w.y.lo) ∧ w'.cell? ⟨w.heap.size, 9, none⟩ = some (.int .i64 m.w.y.hi) ∧ w'.cell? ⟨w.heap.size, 10, none⟩ = some (.int .i64 m.a.y.lo) ∧ w'.cell? ⟨w.heap.size, 11, none⟩ = some (.int .i64 m.a.y.hi) ∧ w'.cell? ⟨w.heap.size, 12, none⟩ = some (.int .i64 m.d.z.lo) ∧ w'.cell? ⟨w.heap.size, 13, none⟩ = some (.int .i64 m.d.z.hi) ∧ w'.cell? ⟨w.heap.size, 14, none⟩ = some (.int .i64 m.w.z.lo) ∧ w'.cell? ⟨w.heap.size, 15, none⟩ = some (.int .i64 m.w.z.hi) ∧ w'.cell? ⟨w.heap.size, 16, none⟩ = some (.int .i64 m.a.z.lo) ∧ w'.cell? ⟨w.heap.size, 17, none⟩ = some (.int .i64 m.a.z.hi) ∧ w'.cell? ⟨w.heap.size, 18, none⟩ = some (.int .i64 m.t) ∧ w'.cell? ⟨w.heap.size, 19, none⟩ = some (.int .i64 m.n)) (first | exact ⟨(by go_simp), (by go_simp), (by go_simp), (by go_simp), (by go_simp), (by go_simp), (by go_simp), (by go_simp), (by go_simp), (by go_simp), (by go_simp), (by go_simp), (by go_simp), (by go_simp), (by go_simp), (by go_simp), (by go_simp), (by go_simp), (by go_simp), (by go_simp), (by go_simp), (by go_simp)⟩) (first | (go_at_call 64; refine call_later (abWholeN m.n _) ?_; intro u) | (go_at_call 16; refine call_later (HD.out _) ?_; intro u))
    go_wp2
    refine bodyPost_ret (by (simp [results, Try.results42, go_sem] <;> rfl)) rfl ?_
    exact ⟨rfl, (by repeat (first | with_reducible exact Grew.refl _ | with_reducible apply Grew.alloc | with_reducible apply Grew.later | with_reducible apply Grew.drew | with_reducible apply Grew.store | with_reducible assumption))⟩
  · have HR := Lib.hid (show errR (mo1 m k).e = momentR m k by unfold momentR; rw [doR_bad _ he])
    have he' : ((mo1 m k).e != 0) = true := by simp [he]
    clear he
    go_enter Try.func42, Try.ntmps42
    go_wp2_with (first | (go_at_call 63; (with_reducible refine call_later (HS.out _) ?_); intro u))
    refine bodyPost_ret (by (simp [results, Try.results42, go_sem] <;> rfl)) rfl ?_
    exact ⟨ret_err HR.out rfl, (by repeat (first | with_reducible exact Grew.refl _ | with_reducible apply Grew.alloc | with_reducible apply Grew.later | with_reducible apply Grew.drew | with_reducible apply Grew.store | with_reducible assumption))⟩
theorem along_err (d v a u : Sp) : ((al1 v u).e ≠ 0 → alongR d v a u = errR (al1 v u).e) ∧ ((al2 d v u).e ≠ 0 → alongR d v a u = errR (al2 d v u).e) ∧ ((al3 d v u).e ≠ 0 → alongR d v a u = errR (al3 d v u).e) ∧ ((al4 d v a u).e ≠ 0 → alongR d v a u = errR (al4 d v a u).e) ∧ ((al5 d v a u).e ≠ 0 → alongR d v a u = errR (al5 d v a u).e) := by
  have k5 : (al5 d v a u).e ≠ 0 → alongR d v a u = errR (al5 d v a u).e := fun h => doR_bad _ h
  have k4 : (al4 d v a u).e ≠ 0 → alongR d v a u = errR (al4 d v a u).e := fun h => by
    have e : (al5 d v a u).e = (al4 d v a u).e := doR_e_ne _ h
    rw [k5 (by rw [e]; exact h), e]
  have k3 : (al3 d v u).e ≠ 0 → alongR d v a u = errR (al3 d v u).e := fun h => by
    have e : (al4 d v a u).e = (al3 d v u).e := doR_e_ne _ h
    rw [k4 (by rw [e]; exact h), e]
  have k2 : (al2 d v u).e ≠ 0 → alongR d v a u = errR (al2 d v u).e := fun h => by
    have e : (al3 d v u).e = (al2 d v u).e := doR_e_ne _ h
    rw [k3 (by rw [e]; exact h), e]
  have k1 : (al1 v u).e ≠ 0 → alongR d v a u = errR (al1 v u).e := fun h => by
    have e : (al2 d v u).e = (al1 v u).e := doR_e_ne _ h
    rw [k2 (by rw [e]; exact h), e]
  exact ⟨k1, k2, k3, k4, k5⟩
theorem abAlong_any (d v a u : Sp) [hd : S64 d] [hv : S64 v] [ha : S64 a] [hu : S64 u] (w : World) : Calls Try.prog 65 #[.agg #[.int .i64 ((⟨d, v, a⟩ : Bx)).x.lo, .int .i64 ((⟨d, v, a⟩ : Bx)).x.hi, .int .i64 ((⟨d, v, a⟩ : Bx)).y.lo, .int .i64 ((⟨d, v, a⟩ : Bx)).y.hi, .int .i64 ((⟨d, v, a⟩ : Bx)).z.lo, .int .i64 ((⟨d, v, a⟩ : Bx)).z.hi], .agg #[.int .i64 u.lo, .int .i64 u.hi]] w fun e w' => e = .returned (.tuple #[.agg #[.int .i64 (alongR d v a u).s.lo, .int .i64 (alongR d v a u).s.hi], .int .i64 (alongR d v a u).e]) ∧ Grew w w' := by
  obtain ⟨k1, k2, k3, k4, k5⟩ := along_err d v a u
  have w2 := wholeS_64 2 (by omega) (by omega)
  have H1 := Lib.hid (fun w => (show Calls Try.prog 15 #[.agg #[.int .i64 v.lo, .int .i64 v.hi], .agg #[.int .i64 u.lo, .int .i64 u.hi]] w fun e w' => e = .returned (.tuple #[.agg #[.int .i64 (al1 v u).s.lo, .int .i64 (al1 v u).s.hi], .int .i64 (al1 v u).e]) ∧ Grew w w' from spMul_any v u w))
  have H2 := Lib.hid (fun (h : (al1 v u).e = 0) w => is_res (show addR d (al1 v u).s = al2 d v u by unfold al2; rw [h, doR_ok]) (spAdd_any d (al1 v u).s w))
  have H3 := Lib.hid (fun (h : (al2 d v u).e = 0) w => is_res (show squareR u = al3 d v u by unfold al3; rw [h, doR_ok]) (spSquare_any u w))
  have H4 := Lib.hid (fun (h : (al3 d v u).e = 0) w => is_res (show mulR a (al3 d v u).s = al4 d v a u by unfold al4; rw [h, doR_ok]) (spMul_any a (al3 d v u).s w))
  have H5 := Lib.hid (fun (h : (al4 d v a u).e = 0) w => is_res (show divR (al4 d v a u).s (wholeS 2) = al5 d v a u by unfold al5; rw [h, doR_ok]) (spDiv_any (al4 d v a u).s (wholeS 2) w))
  have H6 := Lib.hid (fun (h : (al5 d v a u).e = 0) w => is_res (show addR (al2 d v u).s (al5 d v a u).s = alongR d v a u by unfold alongR; rw [h, doR_ok]) (spAdd_any (al2 d v u).s (al5 d v a u).s w))
  have K1 := Lib.hid k1
  have K2 := Lib.hid k2
  have K3 := Lib.hid k3
  have K4 := Lib.hid k4
  have K5 := Lib.hid k5
  clear k1 k2 k3 k4 k5
  by_cases e1 : (al1 v u).e = 0
  rotate_left
  · have HR := Lib.hid (K1.out e1).symm
    have f1 : ((al1 v u).e != 0) = true := by simp [e1]
    clear e1
    go_enter Try.func65, Try.ntmps65
    go_wp2_with (first | (go_at_call 15; (with_reducible refine call_later (H1.out _) ?_); intro u1))
    refine bodyPost_ret (by (simp [results, Try.results65, go_sem] <;> rfl)) rfl ?_
    exact ⟨ret_err HR.out rfl, (by repeat (first | with_reducible exact Grew.refl _ | with_reducible apply Grew.alloc | with_reducible apply Grew.later | with_reducible apply Grew.drew | with_reducible apply Grew.store | with_reducible assumption))⟩
  have f1 : ((al1 v u).e != 0) = false := by simp [e1]
  have J2 := Lib.hid (H2.out e1)
  clear e1
  by_cases e2 : (al2 d v u).e = 0
  rotate_left
  · have HR := Lib.hid (K2.out e2).symm
    have f2 : ((al2 d v u).e != 0) = true := by simp [e2]
    clear e2
    go_enter Try.func65, Try.ntmps65
    go_wp2_with (first | (go_at_call 15; (with_reducible refine call_later (H1.out _) ?_); intro u1) | (go_at_call 60; (with_reducible refine call_later (J2.out _) ?_); intro u2))
    refine bodyPost_ret (by (simp [results, Try.results65, go_sem] <;> rfl)) rfl ?_
    exact ⟨ret_err HR.out rfl, (by repeat (first | with_reducible exact Grew.refl _ | with_reducible apply Grew.alloc | with_reducible apply Grew.later | with_reducible apply Grew.drew | with_reducible apply Grew.store | with_reducible assumption))⟩
  have f2 : ((al2 d v u).e != 0) = false := by simp [e2]
  have J3 := Lib.hid (H3.out e2)
  clear e2
  by_cases e3 : (al3 d v u).e = 0
  rotate_left
  · have HR := Lib.hid (K3.out e3).symm
    have f3 : ((al3 d v u).e != 0) = true := by simp [e3]
    clear e3
    go_enter Try.func65, Try.ntmps65
    go_wp2_with (first | (go_at_call 15; (with_reducible refine call_later (H1.out _) ?_); intro u1) | (go_at_call 60; (with_reducible refine call_later (J2.out _) ?_); intro u2) | (go_at_call 14; (with_reducible refine call_later (J3.out _) ?_); intro u3))
    refine bodyPost_ret (by (simp [results, Try.results65, go_sem] <;> rfl)) rfl ?_
    exact ⟨ret_err HR.out rfl, (by repeat (first | with_reducible exact Grew.refl _ | with_reducible apply Grew.alloc | with_reducible apply Grew.later | with_reducible apply Grew.drew | with_reducible apply Grew.store | with_reducible assumption))⟩
  have f3 : ((al3 d v u).e != 0) = false := by simp [e3]
  have J4 := Lib.hid (H4.out e3)
  clear e3
  by_cases e4 : (al4 d v a u).e = 0
  rotate_left
  · have HR := Lib.hid (K4.out e4).symm
    have f4 : ((al4 d v a u).e != 0) = true := by simp [e4]
    clear e4
    go_enter Try.func65, Try.ntmps65
    go_wp2_with (first | (go_at_call 15; (with_reducible refine call_later (H1.out _) ?_); intro u1) | (go_at_call 60; (with_reducible refine call_later (J2.out _) ?_); intro u2) | (go_at_call 14; (with_reducible refine call_later (J3.out _) ?_); intro u3) | (go_at_call 15; (with_reducible refine call_later (J4.out _) ?_); intro u4))
    refine bodyPost_ret (by (simp [results, Try.results65, go_sem] <;> rfl)) rfl ?_
    exact ⟨ret_err HR.out rfl, (by repeat (first | with_reducible exact Grew.refl _ | with_reducible apply Grew.alloc | with_reducible apply Grew.later | with_reducible apply Grew.drew | with_reducible apply Grew.store | with_reducible assumption))⟩
  have f4 : ((al4 d v a u).e != 0) = false := by simp [e4]
  have J5 := Lib.hid (H5.out e4)
  clear e4
  by_cases e5 : (al5 d v a u).e = 0
  rotate_left
  · have HR := Lib.hid (K5.out e5).symm
    have f5 : ((al5 d v a u).e != 0) = true := by simp [e5]
    clear e5
    go_enter Try.func65, Try.ntmps65
    go_wp2_with (first | (go_at_call 15; (with_reducible refine call_later (H1.out _) ?_); intro u1) | (go_at_call 60; (with_reducible refine call_later (J2.out _) ?_); intro u2) | (go_at_call 14; (with_reducible refine call_later (J3.out _) ?_); intro u3) | (go_at_call 15; (with_reducible refine call_later (J4.out _) ?_); intro u4))
    go_region_with (first | (go_at_call 64; (with_reducible refine call_later (abWholeN 2 _) ?_); intro uw) | (go_at_call 16; (with_reducible refine call_later (J5.out _) ?_); intro ud))
    all_goals go_wp2
    all_goals
      refine bodyPost_ret (by (simp [results, Try.results65, go_sem] <;> rfl)) rfl ?_
      exact ⟨ret_err HR.out rfl, (by repeat (first | with_reducible exact Grew.refl _ | with_reducible apply Grew.alloc | with_reducible apply Grew.later | with_reducible apply Grew.drew | with_reducible apply Grew.store | with_reducible assumption))⟩
  have f5 : ((al5 d v a u).e != 0) = false := by simp [e5]
  have J6 := Lib.hid (H6.out e5)
  clear e5
  go_enter Try.func65, Try.ntmps65
  go_wp2_with (first | (go_at_call 15; (with_reducible refine call_later (H1.out _) ?_); intro u1) | (go_at_call 60; (with_reducible refine call_later (J2.out _) ?_); intro u2) | (go_at_call 14; (with_reducible refine call_later (J3.out _) ?_); intro u3) | (go_at_call 15; (with_reducible refine call_later (J4.out _) ?_); intro u4))
  go_region_with (first | (go_at_call 64; (with_reducible refine call_later (abWholeN 2 _) ?_); intro uw) | (go_at_call 16; (with_reducible refine call_later (J5.out _) ?_); intro ud))
  all_goals go_wp2_with (first | (go_at_call 60; (with_reducible refine call_later (J6.out _) ?_); intro u6))
  all_goals
    refine bodyPost_ret (by (simp [results, Try.results65, go_sem] <;> rfl)) rfl ?_
    exact ⟨rfl, (by repeat (first | with_reducible exact Grew.refl _ | with_reducible apply Grew.alloc | with_reducible apply Grew.later | with_reducible apply Grew.drew | with_reducible apply Grew.store | with_reducible assumption))⟩
end Go.Proofs.Ytjnednehcjfkmaa
