/-
  Contracts: ullageref01's Scale, Hull, Int, Whole, Dot1, and more operations of its Calc.
-/
import Derived.Test.YtdanaclplmacgaaCalcOps
import Derived.Test.YtdanaclplmacgaaRefDivS
namespace Go.Proofs.Ytdanaclplmacgaa
open Go.RowKit Go.Shelf
set_option maxRecDepth 100000
set_option maxHeartbeats 2000000
theorem rScale_any (a : Sp) (n : Int) [ha : S64 a] [hn : N64 n] (w : World) : Calls Try.prog 202 #[.agg #[.int .i64 a.lo, .int .i64 a.hi], .int .i64 n] w fun e w' => e = .returned (.tuple #[.agg #[.int .i64 (scaleR a n).s.lo, .int .i64 (scaleR a n).s.hi], .int .i64 (scaleR a n).e]) ∧ Grew w w' := by
  cases hk : a.okB
  · have Hf := Lib.hid (show errR 2 = scaleR a n by unfold scaleR; rw [hk]; rfl)
    go_enter Try.func202, Try.ntmps202
    go_wp2_with (first | (go_at_call 89; (with_reducible refine call_later (rCheck_no a hk _) ?_); intro u) | ((with_reducible refine wp_region_later ?_ ?_ ?_); (· kernel_rfl); (· kernel_rfl); (repeat (go_big_quiet_step ((first | (go_at_call 89; (with_reducible exact call_quiet (rCheck_no a hk _))))))); refine wpQuiet_nil ?_; rintro _ ⟨u, rfl⟩))
    refine bodyPost_ret (by (simp [results, Try.results202, go_sem] <;> rfl)) rfl ?_
    exact ⟨ret_err Hf.out rfl, (by repeat (first | with_reducible exact Grew.refl _ | with_reducible apply Grew.alloc | with_reducible apply Grew.later | with_reducible apply Grew.drew | with_reducible apply Grew.store | with_reducible assumption))⟩
  · have hf : scaleR a n = fitR (imin (a.lo * n) (a.hi * n)) (imax (a.lo * n) (a.hi * n)) := by unfold scaleR; rw [hk]; rfl
    have HT1 := Lib.hid (fun w => wTimes_any a.lo n ha.lo hn.is w)
    have HT2 := Lib.hid (fun w => wTimes_any a.hi n ha.hi hn.is w)
    have Hr1 := Lib.hid (r128_prod (prod_le ha.lo hn.is))
    have Hr2 := Lib.hid (r128_prod (prod_le ha.hi hn.is))
    generalize a.lo * n = x at *
    generalize a.hi * n = y at *
    rcases bool_or (decide (y < x)) with hc | hc
    · have Hf := Lib.hid (show fitR x y = scaleR a n by rw [hf]; simp at hc; unfold imin imax; rw [if_neg (by omega)]; split <;> first | rfl | (congr 1; omega))
      have Hc := Lib.hid hc
      have HL := Lib.hid (fun w => is_bool Hc.out (wLess_any y x Hr2.out Hr1.out w))
      have HO := Lib.hid (fun w => rOut_any x y Hr1.out Hr2.out w)
      clear hc hf
      go_enter Try.func202, Try.ntmps202
      go_wp2_with (first | (go_at_call 89; (with_reducible refine call_later (rCheck_yes a hk _) ?_); intro u) | (go_at_call 240; (with_reducible refine call_later (HT1.out _) ?_); intro u) | (go_at_call 240; (with_reducible refine call_later (HT2.out _) ?_); intro u) | (go_at_call 238; (with_reducible refine call_later (HL.out _) ?_); intro u) | (go_at_call 239; (with_reducible refine call_later (HO.out _) ?_); intro u))
      refine bodyPost_ret (by (simp [results, Try.results202, go_sem] <;> rfl)) rfl ?_
      exact ⟨ret_res (by rw [← Hf.out]), (by repeat (first | with_reducible exact Grew.refl _ | with_reducible apply Grew.alloc | with_reducible apply Grew.later | with_reducible apply Grew.drew | with_reducible apply Grew.store | with_reducible assumption))⟩
    · have Hf := Lib.hid (show fitR y x = scaleR a n by rw [hf]; simp at hc; unfold imin imax; rw [if_pos (by omega)]; split <;> first | rfl | (congr 1; omega))
      have Hc := Lib.hid hc
      have HL := Lib.hid (fun w => is_bool Hc.out (wLess_any y x Hr2.out Hr1.out w))
      have HO := Lib.hid (fun w => rOut_any y x Hr2.out Hr1.out w)
      clear hc hf
      go_enter Try.func202, Try.ntmps202
      go_wp2_with (first | (go_at_call 89; (with_reducible refine call_later (rCheck_yes a hk _) ?_); intro u) | (go_at_call 240; (with_reducible refine call_later (HT1.out _) ?_); intro u) | (go_at_call 240; (with_reducible refine call_later (HT2.out _) ?_); intro u) | (go_at_call 238; (with_reducible refine call_later (HL.out _) ?_); intro u) | (go_at_call 239; (with_reducible refine call_later (HO.out _) ?_); intro u))
      refine bodyPost_ret (by (simp [results, Try.results202, go_sem] <;> rfl)) rfl ?_
      exact ⟨ret_res (by rw [← Hf.out]), (by repeat (first | with_reducible exact Grew.refl _ | with_reducible apply Grew.alloc | with_reducible apply Grew.later | with_reducible apply Grew.drew | with_reducible apply Grew.store | with_reducible assumption))⟩
theorem rHull_any (a b : Sp) (w : World) : Calls Try.prog 175 #[.agg #[.int .i64 a.lo, .int .i64 a.hi], .agg #[.int .i64 b.lo, .int .i64 b.hi]] w fun e w' => e = .returned (.tuple #[.agg #[.int .i64 (hullR a b).s.lo, .int .i64 (hullR a b).s.hi], .int .i64 (hullR a b).e]) ∧ Grew w w' := by
  cases hk : (a.okB && b.okB)
  · have Hf := Lib.hid (show errR 2 = hullR a b by unfold hullR; rw [hk]; rfl)
    go_enter Try.func175, Try.ntmps175
    go_wp2_with (first | (go_at_call 150; (with_reducible refine call_later (rBoth_no a b hk _) ?_); intro u) | ((with_reducible refine wp_region_later ?_ ?_ ?_); (· kernel_rfl); (· kernel_rfl); (repeat (go_big_quiet_step ((first | (go_at_call 150; (with_reducible exact call_quiet (rBoth_no a b hk _))))))); refine wpQuiet_nil ?_; rintro _ ⟨u, rfl⟩))
    refine bodyPost_ret (by (simp [results, Try.results175, go_sem] <;> rfl)) rfl ?_
    exact ⟨ret_err Hf.out rfl, (by repeat (first | with_reducible exact Grew.refl _ | with_reducible apply Grew.alloc | with_reducible apply Grew.later | with_reducible apply Grew.drew | with_reducible apply Grew.store | with_reducible assumption))⟩
  · have Hf := Lib.hid (show (⟨hullS a b, 0⟩ : Res) = hullR a b by unfold hullR; rw [hk]; rfl)
    go_enter Try.func175, Try.ntmps175
    go_wp2_with (first | (go_at_call 150; (with_reducible refine call_later (rBoth_yes a b hk _) ?_); intro u) | ((with_reducible refine wp_region_later ?_ ?_ ?_); (· kernel_rfl); (· kernel_rfl); (repeat (go_big_quiet_step ((first | (go_at_call 150; (with_reducible exact call_quiet (rBoth_yes a b hk _))))))); refine wpQuiet_nil ?_; rintro _ ⟨u, rfl⟩))
    all_goals
      refine bodyPost_ret (by (simp [results, Try.results175, go_sem] <;> rfl)) rfl ?_
      exact ⟨ret_res (by rw [← Hf.out]; unfold hullS imin imax; (try simp only []); congr 2 <;> (repeat' split) <;> omega), (by repeat (first | with_reducible exact Grew.refl _ | with_reducible apply Grew.alloc | with_reducible apply Grew.later | with_reducible apply Grew.drew | with_reducible apply Grew.store | with_reducible assumption))⟩
/-- A small integer as a span. -/
def wholeS (n : Int) : Sp := ⟨n * 4294967296, n * 4294967296⟩
theorem wholeS_fit (n : Int) (h0 : 0 ≤ n) (h1 : n ≤ 1000000) : fitR (n * 4294967296) (n * 4294967296) = ⟨wholeS n, 0⟩ := by
  unfold fitR isNum
  rw [if_pos (by simp; omega)]
  rfl
theorem wholeS_64 (n : Int) (h0 : 0 ≤ n) (h1 : n ≤ 1000000) : S64 (wholeS n) := ⟨by unfold I64 wholeS; simp only []; omega, by unfold I64 wholeS; simp only []; omega⟩
theorem rInt_any (n : Int) (h0 : 0 ≤ n) (h1 : n ≤ 1000000) (w : World) : Calls Try.prog 203 #[.int .i64 n] w fun e w' => e = .returned (.tuple #[.agg #[.int .i64 ((⟨wholeS n, 0⟩ : Res)).s.lo, .int .i64 ((⟨wholeS n, 0⟩ : Res)).s.hi], .int .i64 ((⟨wholeS n, 0⟩ : Res)).e]) ∧ Grew w w' := by
  have HO := Lib.hid (fun w => wOf_any n (by unfold I64; omega) w)
  have HU := Lib.hid (fun w => wUp32_any n (by omega) w)
  have Hout := Lib.hid (fun w => is_res (wholeS_fit n h0 h1) (rOut_any (n * 4294967296) (n * 4294967296) (by unfold R128; omega) (by unfold R128; omega) w))
  clear h0 h1
  go_enter Try.func203, Try.ntmps203
  go_wp2_with (first | (go_at_call 242; (with_reducible refine call_later (HO.out _) ?_); intro u) | (go_at_call 241; (with_reducible refine call_later (HU.out _) ?_); intro u) | (go_at_call 239; (with_reducible refine call_later (Hout.out _) ?_); intro u))
  refine bodyPost_ret (by (simp [results, Try.results203, go_sem] <;> rfl)) rfl ?_
  exact ⟨rfl, (by repeat (first | with_reducible exact Grew.refl _ | with_reducible apply Grew.alloc | with_reducible apply Grew.later | with_reducible apply Grew.drew | with_reducible apply Grew.store | with_reducible assumption))⟩
theorem rWhole_any (n : Int) (h0 : 0 ≤ n) (h1 : n ≤ 1000000) (w : World) : Calls Try.prog 179 #[.int .i64 n] w fun e w' => e = .returned (.agg #[.int .i64 (wholeS n).lo, .int .i64 (wholeS n).hi]) ∧ Grew w w' := by
  have HI := Lib.hid (fun w => rInt_any n h0 h1 w)
  clear h0 h1
  go_enter Try.func179, Try.ntmps179
  go_wp2_with (first | (go_at_call 203; (with_reducible refine call_later (HI.out _) ?_); intro u))
  refine bodyPost_ret (by (simp [results, Try.results179, go_sem] <;> rfl)) rfl ?_
  exact ⟨rfl, (by repeat (first | with_reducible exact Grew.refl _ | with_reducible apply Grew.alloc | with_reducible apply Grew.later | with_reducible apply Grew.drew | with_reducible apply Grew.store | with_reducible assumption))⟩
theorem rDot1_any (n : Int) (w : World) : Calls Try.prog 178 #[.int .i64 n] w fun e w' => e = .returned (.agg #[.int .i64 ((⟨n, n⟩ : Sp)).lo, .int .i64 ((⟨n, n⟩ : Sp)).hi]) ∧ Grew w w' := by
  go_enter Try.func178, Try.ntmps178
  go_wp2
  refine bodyPost_ret (by (simp [results, Try.results178, go_sem] <;> rfl)) rfl ?_
  exact ⟨rfl, (by repeat (first | with_reducible exact Grew.refl _ | with_reducible apply Grew.alloc | with_reducible apply Grew.later | with_reducible apply Grew.drew | with_reducible apply Grew.store | with_reducible assumption))⟩
theorem rcAdd_any (c : Nat) (e : Int) (a b : Sp) [ha : S64 a] [hb : S64 b] (w : World) (hc : w.cell? ⟨c, 0, none⟩ = some (.int .i64 e)) (hf : w.frozen? ⟨c, 0, none⟩ = false) :
    Calls Try.prog 180 #[.pointer (some ⟨c, 0, none⟩), .agg #[.int .i64 a.lo, .int .i64 a.hi], .agg #[.int .i64 b.lo, .int .i64 b.hi]] w (RetC c (.agg #[.int .i64 ((doR e (addR a b)).s).lo, .int .i64 ((doR e (addR a b)).s).hi]) (doR e (addR a b)).e w) := by
  have ib : BlockIn w c := BlockIn.of_cell hc
  have hci : HasCell w c 0 := ⟨_, hc⟩
  have Hb := Lib.hid (But.refl hc)
  have Hc := Lib.hid hc
  go_enter Try.func180, Try.ntmps180
  go_wp2_with (first | (go_at_call 204; (with_reducible refine call_later (rAdd_any a b _) ?_); intro u) | (go_at_call 174; refine call_calc (rKeep_res c e (addR a b) _ (by go_simp) (by go_simp)) ?_; intro u) | ((with_reducible refine wp_region_later ?_ ?_ ?_); (· kernel_rfl); (· kernel_rfl); (repeat (go_big_quiet_step ((first | (go_at_call 204; (with_reducible exact call_quiet (rAdd_any a b _))))))); refine wpQuiet_nil ?_; rintro _ ⟨u, rfl⟩))
  refine bodyPost_ret (by (simp [results, Try.results180, go_sem] <;> rfl)) rfl ?_
  exact ⟨rfl, But.out (by repeat (first | with_reducible exact Hb.out | with_reducible apply But.alloc | with_reducible apply But.later | with_reducible apply But.drew | with_reducible apply But.put | with_reducible apply But.store)) Hc.out (by go_simp)⟩
theorem rcMul_any (c : Nat) (e : Int) (a b : Sp) [ha : S64 a] [hb : S64 b] (w : World) (hc : w.cell? ⟨c, 0, none⟩ = some (.int .i64 e)) (hf : w.frozen? ⟨c, 0, none⟩ = false) :
    Calls Try.prog 181 #[.pointer (some ⟨c, 0, none⟩), .agg #[.int .i64 a.lo, .int .i64 a.hi], .agg #[.int .i64 b.lo, .int .i64 b.hi]] w (RetC c (.agg #[.int .i64 ((doR e (mulR a b)).s).lo, .int .i64 ((doR e (mulR a b)).s).hi]) (doR e (mulR a b)).e w) := by
  have ib : BlockIn w c := BlockIn.of_cell hc
  have hci : HasCell w c 0 := ⟨_, hc⟩
  have Hb := Lib.hid (But.refl hc)
  have Hc := Lib.hid hc
  go_enter Try.func181, Try.ntmps181
  go_wp2_with (first | (go_at_call 205; (with_reducible refine call_later (rMul_any a b _) ?_); intro u) | (go_at_call 174; refine call_calc (rKeep_res c e (mulR a b) _ (by go_simp) (by go_simp)) ?_; intro u) | ((with_reducible refine wp_region_later ?_ ?_ ?_); (· kernel_rfl); (· kernel_rfl); (repeat (go_big_quiet_step ((first | (go_at_call 205; (with_reducible exact call_quiet (rMul_any a b _))))))); refine wpQuiet_nil ?_; rintro _ ⟨u, rfl⟩))
  refine bodyPost_ret (by (simp [results, Try.results181, go_sem] <;> rfl)) rfl ?_
  exact ⟨rfl, But.out (by repeat (first | with_reducible exact Hb.out | with_reducible apply But.alloc | with_reducible apply But.later | with_reducible apply But.drew | with_reducible apply But.put | with_reducible apply But.store)) Hc.out (by go_simp)⟩
theorem rcDiv_any (c : Nat) (e : Int) (a b : Sp) [ha : S64 a] [hb : S64 b] (w : World) (hc : w.cell? ⟨c, 0, none⟩ = some (.int .i64 e)) (hf : w.frozen? ⟨c, 0, none⟩ = false) :
    Calls Try.prog 176 #[.pointer (some ⟨c, 0, none⟩), .agg #[.int .i64 a.lo, .int .i64 a.hi], .agg #[.int .i64 b.lo, .int .i64 b.hi]] w (RetC c (.agg #[.int .i64 ((doR e (divR a b)).s).lo, .int .i64 ((doR e (divR a b)).s).hi]) (doR e (divR a b)).e w) := by
  have ib : BlockIn w c := BlockIn.of_cell hc
  have hci : HasCell w c 0 := ⟨_, hc⟩
  have Hb := Lib.hid (But.refl hc)
  have Hc := Lib.hid hc
  go_enter Try.func176, Try.ntmps176
  go_wp2_with (first | (go_at_call 201; (with_reducible refine call_later (rDiv_any a b _) ?_); intro u) | (go_at_call 174; refine call_calc (rKeep_res c e (divR a b) _ (by go_simp) (by go_simp)) ?_; intro u) | ((with_reducible refine wp_region_later ?_ ?_ ?_); (· kernel_rfl); (· kernel_rfl); (repeat (go_big_quiet_step ((first | (go_at_call 201; (with_reducible exact call_quiet (rDiv_any a b _))))))); refine wpQuiet_nil ?_; rintro _ ⟨u, rfl⟩))
  refine bodyPost_ret (by (simp [results, Try.results176, go_sem] <;> rfl)) rfl ?_
  exact ⟨rfl, But.out (by repeat (first | with_reducible exact Hb.out | with_reducible apply But.alloc | with_reducible apply But.later | with_reducible apply But.drew | with_reducible apply But.put | with_reducible apply But.store)) Hc.out (by go_simp)⟩
theorem rcHull_any (c : Nat) (e : Int) (a b : Sp) (w : World) (hc : w.cell? ⟨c, 0, none⟩ = some (.int .i64 e)) (hf : w.frozen? ⟨c, 0, none⟩ = false) :
    Calls Try.prog 139 #[.pointer (some ⟨c, 0, none⟩), .agg #[.int .i64 a.lo, .int .i64 a.hi], .agg #[.int .i64 b.lo, .int .i64 b.hi]] w (RetC c (.agg #[.int .i64 ((doR e (hullR a b)).s).lo, .int .i64 ((doR e (hullR a b)).s).hi]) (doR e (hullR a b)).e w) := by
  have ib : BlockIn w c := BlockIn.of_cell hc
  have hci : HasCell w c 0 := ⟨_, hc⟩
  have Hb := Lib.hid (But.refl hc)
  have Hc := Lib.hid hc
  go_enter Try.func139, Try.ntmps139
  go_wp2_with (first | (go_at_call 175; (with_reducible refine call_later (rHull_any a b _) ?_); intro u) | (go_at_call 174; refine call_calc (rKeep_res c e (hullR a b) _ (by go_simp) (by go_simp)) ?_; intro u) | ((with_reducible refine wp_region_later ?_ ?_ ?_); (· kernel_rfl); (· kernel_rfl); (repeat (go_big_quiet_step ((first | (go_at_call 175; (with_reducible exact call_quiet (rHull_any a b _))))))); refine wpQuiet_nil ?_; rintro _ ⟨u, rfl⟩))
  refine bodyPost_ret (by (simp [results, Try.results139, go_sem] <;> rfl)) rfl ?_
  exact ⟨rfl, But.out (by repeat (first | with_reducible exact Hb.out | with_reducible apply But.alloc | with_reducible apply But.later | with_reducible apply But.drew | with_reducible apply But.put | with_reducible apply But.store)) Hc.out (by go_simp)⟩
theorem rcSquare_any (c : Nat) (e : Int) (a : Sp) [ha : S64 a] (w : World) (hc : w.cell? ⟨c, 0, none⟩ = some (.int .i64 e)) (hf : w.frozen? ⟨c, 0, none⟩ = false) :
    Calls Try.prog 182 #[.pointer (some ⟨c, 0, none⟩), .agg #[.int .i64 a.lo, .int .i64 a.hi]] w (RetC c (.agg #[.int .i64 ((doR e (squareR a)).s).lo, .int .i64 ((doR e (squareR a)).s).hi]) (doR e (squareR a)).e w) := by
  have ib : BlockIn w c := BlockIn.of_cell hc
  have hci : HasCell w c 0 := ⟨_, hc⟩
  have Hb := Lib.hid (But.refl hc)
  have Hc := Lib.hid hc
  go_enter Try.func182, Try.ntmps182
  go_wp2_with (first | (go_at_call 206; (with_reducible refine call_later (rSquare_any a _) ?_); intro u) | (go_at_call 174; refine call_calc (rKeep_res c e (squareR a) _ (by go_simp) (by go_simp)) ?_; intro u) | ((with_reducible refine wp_region_later ?_ ?_ ?_); (· kernel_rfl); (· kernel_rfl); (repeat (go_big_quiet_step ((first | (go_at_call 206; (with_reducible exact call_quiet (rSquare_any a _))))))); refine wpQuiet_nil ?_; rintro _ ⟨u, rfl⟩))
  refine bodyPost_ret (by (simp [results, Try.results182, go_sem] <;> rfl)) rfl ?_
  exact ⟨rfl, But.out (by repeat (first | with_reducible exact Hb.out | with_reducible apply But.alloc | with_reducible apply But.later | with_reducible apply But.drew | with_reducible apply But.put | with_reducible apply But.store)) Hc.out (by go_simp)⟩
theorem rcScale_any (c : Nat) (e : Int) (a : Sp) (n : Int) [ha : S64 a] [hn : N64 n] (w : World) (hc : w.cell? ⟨c, 0, none⟩ = some (.int .i64 e)) (hf : w.frozen? ⟨c, 0, none⟩ = false) :
    Calls Try.prog 177 #[.pointer (some ⟨c, 0, none⟩), .agg #[.int .i64 a.lo, .int .i64 a.hi], .int .i64 n] w (RetC c (.agg #[.int .i64 ((doR e (scaleR a n)).s).lo, .int .i64 ((doR e (scaleR a n)).s).hi]) (doR e (scaleR a n)).e w) := by
  have ib : BlockIn w c := BlockIn.of_cell hc
  have hci : HasCell w c 0 := ⟨_, hc⟩
  have Hb := Lib.hid (But.refl hc)
  have Hc := Lib.hid hc
  go_enter Try.func177, Try.ntmps177
  go_wp2_with (first | (go_at_call 202; (with_reducible refine call_later (rScale_any a n _) ?_); intro u) | (go_at_call 174; refine call_calc (rKeep_res c e (scaleR a n) _ (by go_simp) (by go_simp)) ?_; intro u) | ((with_reducible refine wp_region_later ?_ ?_ ?_); (· kernel_rfl); (· kernel_rfl); (repeat (go_big_quiet_step ((first | (go_at_call 202; (with_reducible exact call_quiet (rScale_any a n _))))))); refine wpQuiet_nil ?_; rintro _ ⟨u, rfl⟩))
  refine bodyPost_ret (by (simp [results, Try.results177, go_sem] <;> rfl)) rfl ?_
  exact ⟨rfl, But.out (by repeat (first | with_reducible exact Hb.out | with_reducible apply But.alloc | with_reducible apply But.later | with_reducible apply But.drew | with_reducible apply But.put | with_reducible apply But.store)) Hc.out (by go_simp)⟩
end Go.Proofs.Ytdanaclplmacgaa
