/-
  Contracts: ullageref01's Scale, Hull, Int, Whole, Dot1, and more operations of its Calc.
  Contracts of ullageref06.away, ullageref06.reading.
  Contracts of ullageref06.reading, Reading, Agrees.
  Contracts of ullageref06.reading of a rate, of ullageref06.reading.
-/
import Derived.Test.YtochpnomfedhoaaGreatCalcOps
import Derived.Test.YtochpnomfedhoaaGreatRefDivS
import Derived.Test.YtochpnomfedhoaaGreatNavLaw
import Derived.Test.YtochpnomfedhoaaGreatRefDot
import Derived.Test.YtochpnomfedhoaaGreatLexC
namespace Go.Proofs.YtochpnomfedhoaaGreat
open Go.RowKit Go.Shelf
set_option maxRecDepth 100000
set_option maxHeartbeats 2000000
theorem rHull_any (a b : Sp) (w : World) : Calls Tryz.prog 180 #[.agg #[.int .i64 a.lo, .int .i64 a.hi], .agg #[.int .i64 b.lo, .int .i64 b.hi]] w fun e w' => e = .returned (.tuple #[.agg #[.int .i64 (hullR a b).s.lo, .int .i64 (hullR a b).s.hi], .int .i64 (hullR a b).e]) ∧ Grew w w' := by
  cases hk : (a.okB && b.okB)
  · have Hf := Lib.hid (show errR 2 = hullR a b by unfold hullR; rw [hk]; rfl)
    go_enter Tryz.func180, Tryz.ntmps180
    go_wp2_with (first | (go_at_call 80; (with_reducible refine call_later (rBoth_no a b hk _) ?_); intro u) | ((with_reducible refine wp_region_later ?_ ?_ ?_); (· kernel_rfl); (· kernel_rfl); (repeat (go_big_quiet_step ((first | (go_at_call 80; (with_reducible exact call_quiet (rBoth_no a b hk _))))))); refine wpQuiet_nil ?_; rintro _ ⟨u, rfl⟩))
    refine bodyPost_ret (by (simp [results, Tryz.results180, go_sem] <;> rfl)) rfl ?_
    exact ⟨ret_err Hf.out rfl, (by repeat (first | with_reducible exact Grew.refl _ | with_reducible apply Grew.alloc | with_reducible apply Grew.later | with_reducible apply Grew.drew | with_reducible apply Grew.store | with_reducible assumption))⟩
  · have Hf := Lib.hid (show (⟨hullS a b, 0⟩ : Res) = hullR a b by unfold hullR; rw [hk]; rfl)
    go_enter Tryz.func180, Tryz.ntmps180
    go_wp2_with (first | (go_at_call 80; (with_reducible refine call_later (rBoth_yes a b hk _) ?_); intro u) | ((with_reducible refine wp_region_later ?_ ?_ ?_); (· kernel_rfl); (· kernel_rfl); (repeat (go_big_quiet_step ((first | (go_at_call 80; (with_reducible exact call_quiet (rBoth_yes a b hk _))))))); refine wpQuiet_nil ?_; rintro _ ⟨u, rfl⟩))
    all_goals
      refine bodyPost_ret (by (simp [results, Tryz.results180, go_sem] <;> rfl)) rfl ?_
      exact ⟨ret_res (by rw [← Hf.out]; unfold hullS imin imax; (try simp only []); congr 2 <;> (repeat' split) <;> omega), (by repeat (first | with_reducible exact Grew.refl _ | with_reducible apply Grew.alloc | with_reducible apply Grew.later | with_reducible apply Grew.drew | with_reducible apply Grew.store | with_reducible assumption))⟩
/-- A small integer as a span. -/
def wholeS (n : Int) : Sp := ⟨n * 4294967296, n * 4294967296⟩
theorem wholeS_fit (n : Int) (h0 : 0 ≤ n) (h1 : n ≤ 1000000) : fitR (n * 4294967296) (n * 4294967296) = ⟨wholeS n, 0⟩ := by
  unfold fitR isNum
  rw [if_pos (by simp; omega)]
  rfl
theorem wholeS_64 (n : Int) (h0 : 0 ≤ n) (h1 : n ≤ 1000000) : S64 (wholeS n) := ⟨by unfold I64 wholeS; simp only []; omega, by unfold I64 wholeS; simp only []; omega⟩
theorem rInt_any (n : Int) (h0 : 0 ≤ n) (h1 : n ≤ 1000000) (w : World) : Calls Tryz.prog 118 #[.int .i64 n] w fun e w' => e = .returned (.tuple #[.agg #[.int .i64 ((⟨wholeS n, 0⟩ : Res)).s.lo, .int .i64 ((⟨wholeS n, 0⟩ : Res)).s.hi], .int .i64 ((⟨wholeS n, 0⟩ : Res)).e]) ∧ Grew w w' := by
  have HO := Lib.hid (fun w => wOf_any n (by unfold I64; omega) w)
  have HU := Lib.hid (fun w => wUp32_any n (by omega) w)
  have Hout := Lib.hid (fun w => is_res (wholeS_fit n h0 h1) (rOut_any (n * 4294967296) (n * 4294967296) (by unfold R128; omega) (by unfold R128; omega) w))
  clear h0 h1
  go_enter Tryz.func118, Tryz.ntmps118
  go_wp2_with (first | (go_at_call 161; (with_reducible refine call_later (HO.out _) ?_); intro u) | (go_at_call 140; (with_reducible refine call_later (HU.out _) ?_); intro u) | (go_at_call 137; (with_reducible refine call_later (Hout.out _) ?_); intro u))
  refine bodyPost_ret (by (simp [results, Tryz.results118, go_sem] <;> rfl)) rfl ?_
  exact ⟨rfl, (by repeat (first | with_reducible exact Grew.refl _ | with_reducible apply Grew.alloc | with_reducible apply Grew.later | with_reducible apply Grew.drew | with_reducible apply Grew.store | with_reducible assumption))⟩
theorem rWhole_any (n : Int) (h0 : 0 ≤ n) (h1 : n ≤ 1000000) (w : World) : Calls Tryz.prog 65 #[.int .i64 n] w fun e w' => e = .returned (.agg #[.int .i64 (wholeS n).lo, .int .i64 (wholeS n).hi]) ∧ Grew w w' := by
  have HI := Lib.hid (fun w => rInt_any n h0 h1 w)
  clear h0 h1
  go_enter Tryz.func65, Tryz.ntmps65
  go_wp2_with (first | (go_at_call 118; (with_reducible refine call_later (HI.out _) ?_); intro u))
  refine bodyPost_ret (by (simp [results, Tryz.results65, go_sem] <;> rfl)) rfl ?_
  exact ⟨rfl, (by repeat (first | with_reducible exact Grew.refl _ | with_reducible apply Grew.alloc | with_reducible apply Grew.later | with_reducible apply Grew.drew | with_reducible apply Grew.store | with_reducible assumption))⟩
theorem rcAdd_any (c : Nat) (e : Int) (a b : Sp) [ha : S64 a] [hb : S64 b] (w : World) (hc : w.cell? ⟨c, 0, none⟩ = some (.int .i64 e)) (hf : w.frozen? ⟨c, 0, none⟩ = false) :
    Calls Tryz.prog 126 #[.pointer (some ⟨c, 0, none⟩), .agg #[.int .i64 a.lo, .int .i64 a.hi], .agg #[.int .i64 b.lo, .int .i64 b.hi]] w (RetC c (.agg #[.int .i64 ((doR e (addR a b)).s).lo, .int .i64 ((doR e (addR a b)).s).hi]) (doR e (addR a b)).e w) := by
  have ib : BlockIn w c := BlockIn.of_cell hc
  have hci : HasCell w c 0 := ⟨_, hc⟩
  have Hb := Lib.hid (But.refl hc)
  have Hc := Lib.hid hc
  go_enter Tryz.func126, Tryz.ntmps126
  go_wp2_with (first | (go_at_call 103; (with_reducible refine call_later (rAdd_any a b _) ?_); intro u) | (go_at_call 95; refine call_calc (rKeep_res c e (addR a b) _ (by go_simp) (by go_simp)) ?_; intro u) | ((with_reducible refine wp_region_later ?_ ?_ ?_); (· kernel_rfl); (· kernel_rfl); (repeat (go_big_quiet_step ((first | (go_at_call 103; (with_reducible exact call_quiet (rAdd_any a b _))))))); refine wpQuiet_nil ?_; rintro _ ⟨u, rfl⟩))
  refine bodyPost_ret (by (simp [results, Tryz.results126, go_sem] <;> rfl)) rfl ?_
  exact ⟨rfl, But.out (by repeat (first | with_reducible exact Hb.out | with_reducible apply But.alloc | with_reducible apply But.later | with_reducible apply But.drew | with_reducible apply But.put | with_reducible apply But.store)) Hc.out (by go_simp)⟩
theorem rcMul_any (c : Nat) (e : Int) (a b : Sp) [ha : S64 a] [hb : S64 b] (w : World) (hc : w.cell? ⟨c, 0, none⟩ = some (.int .i64 e)) (hf : w.frozen? ⟨c, 0, none⟩ = false) :
    Calls Tryz.prog 62 #[.pointer (some ⟨c, 0, none⟩), .agg #[.int .i64 a.lo, .int .i64 a.hi], .agg #[.int .i64 b.lo, .int .i64 b.hi]] w (RetC c (.agg #[.int .i64 ((doR e (mulR a b)).s).lo, .int .i64 ((doR e (mulR a b)).s).hi]) (doR e (mulR a b)).e w) := by
  have ib : BlockIn w c := BlockIn.of_cell hc
  have hci : HasCell w c 0 := ⟨_, hc⟩
  have Hb := Lib.hid (But.refl hc)
  have Hc := Lib.hid hc
  go_enter Tryz.func62, Tryz.ntmps62
  go_wp2_with (first | (go_at_call 116; (with_reducible refine call_later (rMul_any a b _) ?_); intro u) | (go_at_call 95; refine call_calc (rKeep_res c e (mulR a b) _ (by go_simp) (by go_simp)) ?_; intro u) | ((with_reducible refine wp_region_later ?_ ?_ ?_); (· kernel_rfl); (· kernel_rfl); (repeat (go_big_quiet_step ((first | (go_at_call 116; (with_reducible exact call_quiet (rMul_any a b _))))))); refine wpQuiet_nil ?_; rintro _ ⟨u, rfl⟩))
  refine bodyPost_ret (by (simp [results, Tryz.results62, go_sem] <;> rfl)) rfl ?_
  exact ⟨rfl, But.out (by repeat (first | with_reducible exact Hb.out | with_reducible apply But.alloc | with_reducible apply But.later | with_reducible apply But.drew | with_reducible apply But.put | with_reducible apply But.store)) Hc.out (by go_simp)⟩
theorem rcDiv_any (c : Nat) (e : Int) (a b : Sp) [ha : S64 a] [hb : S64 b] (w : World) (hc : w.cell? ⟨c, 0, none⟩ = some (.int .i64 e)) (hf : w.frozen? ⟨c, 0, none⟩ = false) :
    Calls Tryz.prog 52 #[.pointer (some ⟨c, 0, none⟩), .agg #[.int .i64 a.lo, .int .i64 a.hi], .agg #[.int .i64 b.lo, .int .i64 b.hi]] w (RetC c (.agg #[.int .i64 ((doR e (divR a b)).s).lo, .int .i64 ((doR e (divR a b)).s).hi]) (doR e (divR a b)).e w) := by
  have ib : BlockIn w c := BlockIn.of_cell hc
  have hci : HasCell w c 0 := ⟨_, hc⟩
  have Hb := Lib.hid (But.refl hc)
  have Hc := Lib.hid hc
  go_enter Tryz.func52, Tryz.ntmps52
  go_wp2_with (first | (go_at_call 110; (with_reducible refine call_later (rDiv_any a b _) ?_); intro u) | (go_at_call 95; refine call_calc (rKeep_res c e (divR a b) _ (by go_simp) (by go_simp)) ?_; intro u) | ((with_reducible refine wp_region_later ?_ ?_ ?_); (· kernel_rfl); (· kernel_rfl); (repeat (go_big_quiet_step ((first | (go_at_call 110; (with_reducible exact call_quiet (rDiv_any a b _))))))); refine wpQuiet_nil ?_; rintro _ ⟨u, rfl⟩))
  refine bodyPost_ret (by (simp [results, Tryz.results52, go_sem] <;> rfl)) rfl ?_
  exact ⟨rfl, But.out (by repeat (first | with_reducible exact Hb.out | with_reducible apply But.alloc | with_reducible apply But.later | with_reducible apply But.drew | with_reducible apply But.put | with_reducible apply But.store)) Hc.out (by go_simp)⟩
theorem rcHull_any (c : Nat) (e : Int) (a b : Sp) (w : World) (hc : w.cell? ⟨c, 0, none⟩ = some (.int .i64 e)) (hf : w.frozen? ⟨c, 0, none⟩ = false) :
    Calls Tryz.prog 164 #[.pointer (some ⟨c, 0, none⟩), .agg #[.int .i64 a.lo, .int .i64 a.hi], .agg #[.int .i64 b.lo, .int .i64 b.hi]] w (RetC c (.agg #[.int .i64 ((doR e (hullR a b)).s).lo, .int .i64 ((doR e (hullR a b)).s).hi]) (doR e (hullR a b)).e w) := by
  have ib : BlockIn w c := BlockIn.of_cell hc
  have hci : HasCell w c 0 := ⟨_, hc⟩
  have Hb := Lib.hid (But.refl hc)
  have Hc := Lib.hid hc
  go_enter Tryz.func164, Tryz.ntmps164
  go_wp2_with (first | (go_at_call 180; (with_reducible refine call_later (rHull_any a b _) ?_); intro u) | (go_at_call 95; refine call_calc (rKeep_res c e (hullR a b) _ (by go_simp) (by go_simp)) ?_; intro u) | ((with_reducible refine wp_region_later ?_ ?_ ?_); (· kernel_rfl); (· kernel_rfl); (repeat (go_big_quiet_step ((first | (go_at_call 180; (with_reducible exact call_quiet (rHull_any a b _))))))); refine wpQuiet_nil ?_; rintro _ ⟨u, rfl⟩))
  refine bodyPost_ret (by (simp [results, Tryz.results164, go_sem] <;> rfl)) rfl ?_
  exact ⟨rfl, But.out (by repeat (first | with_reducible exact Hb.out | with_reducible apply But.alloc | with_reducible apply But.later | with_reducible apply But.drew | with_reducible apply But.put | with_reducible apply But.store)) Hc.out (by go_simp)⟩
theorem rcSquare_any (c : Nat) (e : Int) (a : Sp) [ha : S64 a] (w : World) (hc : w.cell? ⟨c, 0, none⟩ = some (.int .i64 e)) (hf : w.frozen? ⟨c, 0, none⟩ = false) :
    Calls Tryz.prog 64 #[.pointer (some ⟨c, 0, none⟩), .agg #[.int .i64 a.lo, .int .i64 a.hi]] w (RetC c (.agg #[.int .i64 ((doR e (squareR a)).s).lo, .int .i64 ((doR e (squareR a)).s).hi]) (doR e (squareR a)).e w) := by
  have ib : BlockIn w c := BlockIn.of_cell hc
  have hci : HasCell w c 0 := ⟨_, hc⟩
  have Hb := Lib.hid (But.refl hc)
  have Hc := Lib.hid hc
  go_enter Tryz.func64, Tryz.ntmps64
  go_wp2_with (first | (go_at_call 102; (with_reducible refine call_later (rSquare_any a _) ?_); intro u) | (go_at_call 95; refine call_calc (rKeep_res c e (squareR a) _ (by go_simp) (by go_simp)) ?_; intro u) | ((with_reducible refine wp_region_later ?_ ?_ ?_); (· kernel_rfl); (· kernel_rfl); (repeat (go_big_quiet_step ((first | (go_at_call 102; (with_reducible exact call_quiet (rSquare_any a _))))))); refine wpQuiet_nil ?_; rintro _ ⟨u, rfl⟩))
  refine bodyPost_ret (by (simp [results, Tryz.results64, go_sem] <;> rfl)) rfl ?_
  exact ⟨rfl, But.out (by repeat (first | with_reducible exact Hb.out | with_reducible apply But.alloc | with_reducible apply But.later | with_reducible apply But.drew | with_reducible apply But.put | with_reducible apply But.store)) Hc.out (by go_simp)⟩
end Go.Proofs.YtochpnomfedhoaaGreat
namespace Go.Proofs.YtochpnomfedhoaaGreat
open Go.RowKit Go.Shelf
set_option maxRecDepth 100000
set_option maxHeartbeats 16000000
def aw0 (e : Int) (p f : Bx) : Res := doR e (subR p.x f.x)
def aw1 (e : Int) (p f : Bx) : Res := doR (aw0 e p f).e (subR p.y f.y)
def aw2 (e : Int) (p f : Bx) : Res := doR (aw1 e p f).e (subR p.z f.z)
def awC (e : Int) (p f : Bx) : Bx := ⟨(aw0 e p f).s, (aw1 e p f).s, (aw2 e p f).s⟩
instance b64_awC (e : Int) (p f : Bx) : B64 (awC e p f) := by
  unfold awC aw0 aw1 aw2
  exact ⟨inferInstance, inferInstance, inferInstance⟩
theorem r6Away_any (c : Nat) (e : Int) (p f : Bx) [hp : B64 p] [hf : B64 f] (w : World) (hc : w.cell? ⟨c, 0, none⟩ = some (.int .i64 e)) (hfz0 : w.frozen? ⟨c, 0, none⟩ = false) :
    Calls Tryz.prog 77 #[.pointer (some ⟨c, 0, none⟩), .agg #[.int .i64 p.x.lo, .int .i64 p.x.hi, .int .i64 p.y.lo, .int .i64 p.y.hi, .int .i64 p.z.lo, .int .i64 p.z.hi], .agg #[.int .i64 f.x.lo, .int .i64 f.x.hi, .int .i64 f.y.lo, .int .i64 f.y.hi, .int .i64 f.z.lo, .int .i64 f.z.hi]] w (RetC c (.agg #[.int .i64 ((awC e p f)).x.lo, .int .i64 ((awC e p f)).x.hi, .int .i64 ((awC e p f)).y.lo, .int .i64 ((awC e p f)).y.hi, .int .i64 ((awC e p f)).z.lo, .int .i64 ((awC e p f)).z.hi]) (aw2 e p f).e w) := by
  have ib : BlockIn w c := BlockIn.of_cell hc
  have hci : HasCell w c 0 := ⟨_, hc⟩
  have Hb := Lib.hid (But.refl hc)
  have Hc := Lib.hid hc
  have HV := Lib.hid (show awC e p f = ⟨(aw0 e p f).s, (aw1 e p f).s, (aw2 e p f).s⟩ from rfl)
  go_enter Tryz.func77, Tryz.ntmps77
  go_wp2
  refine wp_loop_rounds 4 ?_
  rw [rounds_succ]
  go_wp2
  refine wp_region_calc c [e, (aw0 e p f).e] 10 [] [8] [] (fun W0 => []) [.agg #[.int .i64 ((aw0 e p f).s).lo, .int .i64 ((aw0 e p f).s).hi]] [10] (by rfl) (by go_simp) (by go_simp) (fun _ _ x hx => absurd hx (List.not_mem_nil)) (by kernel_rfl) (by kernel_rfl) (by kernel_rfl) ?_
  intro pz hd0
  apply Exists.intro
  apply And.intro
  apply lexc_pure hd0 (by kernel_rfl)
  · intro uz xc; unfold opPure; go_simp; rfl
  apply lexc_pure hd0 (by kernel_rfl)
  · intro uz xc; unfold opPure; go_simp; rfl
  apply lexc_pure hd0 (by kernel_rfl)
  · intro uz xc; unfold opPure; go_simp; rfl
  apply lexc_pure hd0 (by kernel_rfl)
  · intro uz xc; unfold opPure; go_simp; rfl
  apply lexc_pure hd0 (by kernel_rfl)
  · intro uz xc; unfold opPure; go_simp; rfl
  apply lexc_pure hd0 (by kernel_rfl)
  · intro uz xc; unfold opPure; go_simp; rfl
  apply lexc_pure hd0 (by kernel_rfl)
  · intro uz xc; unfold opPure; go_simp; rfl
  apply lexc_pure hd0 (by kernel_rfl)
  · intro uz xc; unfold opPure; go_simp; rfl
  apply lexc_call hd0 0 (by kernel_rfl) (by rfl) (by decide)
  · intro uz hfz hF; clear hF; unfold opCall; go_simp; exact rcSub_any _ e p.x f.x _ (by go_simp) hfz
  apply lexc_pure hd0 (by kernel_rfl)
  · intro uz xc; unfold opPure; go_simp; rfl
  apply lexc_end
  rotate_left
  · rfl
  intro uz hR hD hfz
  clear hR hD
  refine tail_store (by rfl) ?_; unfold opStore; go_simp
  refine tail_end ?_
  go_wp2
  rw [rounds_succ]
  go_wp2
  refine wp_region_calc c [(aw0 e p f).e, (aw1 e p f).e] 10 [] [8] [] (fun W0 => []) [.agg #[.int .i64 ((aw1 e p f).s).lo, .int .i64 ((aw1 e p f).s).hi]] [10] (by rfl) (by go_simp) (by go_simp) (fun _ _ x hx => absurd hx (List.not_mem_nil)) (by kernel_rfl) (by kernel_rfl) (by kernel_rfl) ?_
  intro pz hd0
  apply Exists.intro
  apply And.intro
  apply lexc_pure hd0 (by kernel_rfl)
  · intro uz xc; unfold opPure; go_simp; rfl
  apply lexc_pure hd0 (by kernel_rfl)
  · intro uz xc; unfold opPure; go_simp; rfl
  apply lexc_pure hd0 (by kernel_rfl)
  · intro uz xc; unfold opPure; go_simp; rfl
  apply lexc_pure hd0 (by kernel_rfl)
  · intro uz xc; unfold opPure; go_simp; rfl
  apply lexc_pure hd0 (by kernel_rfl)
  · intro uz xc; unfold opPure; go_simp; rfl
  apply lexc_pure hd0 (by kernel_rfl)
  · intro uz xc; unfold opPure; go_simp; rfl
  apply lexc_pure hd0 (by kernel_rfl)
  · intro uz xc; unfold opPure; go_simp; rfl
  apply lexc_pure hd0 (by kernel_rfl)
  · intro uz xc; unfold opPure; go_simp; rfl
  apply lexc_call hd0 0 (by kernel_rfl) (by rfl) (by decide)
  · intro uz hfz hF; clear hF; unfold opCall; go_simp; exact rcSub_any _ (aw0 e p f).e p.y f.y _ (by go_simp) hfz
  apply lexc_pure hd0 (by kernel_rfl)
  · intro uz xc; unfold opPure; go_simp; rfl
  apply lexc_end
  rotate_left
  · rfl
  intro uz hR hD hfz
  clear hR hD
  refine tail_store (by rfl) ?_; unfold opStore; go_simp
  refine tail_end ?_
  go_wp2
  rw [rounds_succ]
  go_wp2
  refine wp_region_calc c [(aw1 e p f).e, (aw2 e p f).e] 10 [] [8] [] (fun W0 => []) [.agg #[.int .i64 ((aw2 e p f).s).lo, .int .i64 ((aw2 e p f).s).hi]] [10] (by rfl) (by go_simp) (by go_simp) (fun _ _ x hx => absurd hx (List.not_mem_nil)) (by kernel_rfl) (by kernel_rfl) (by kernel_rfl) ?_
  intro pz hd0
  apply Exists.intro
  apply And.intro
  apply lexc_pure hd0 (by kernel_rfl)
  · intro uz xc; unfold opPure; go_simp; rfl
  apply lexc_pure hd0 (by kernel_rfl)
  · intro uz xc; unfold opPure; go_simp; rfl
  apply lexc_pure hd0 (by kernel_rfl)
  · intro uz xc; unfold opPure; go_simp; rfl
  apply lexc_pure hd0 (by kernel_rfl)
  · intro uz xc; unfold opPure; go_simp; rfl
  apply lexc_pure hd0 (by kernel_rfl)
  · intro uz xc; unfold opPure; go_simp; rfl
  apply lexc_pure hd0 (by kernel_rfl)
  · intro uz xc; unfold opPure; go_simp; rfl
  apply lexc_pure hd0 (by kernel_rfl)
  · intro uz xc; unfold opPure; go_simp; rfl
  apply lexc_pure hd0 (by kernel_rfl)
  · intro uz xc; unfold opPure; go_simp; rfl
  apply lexc_call hd0 0 (by kernel_rfl) (by rfl) (by decide)
  · intro uz hfz hF; clear hF; unfold opCall; go_simp; exact rcSub_any _ (aw1 e p f).e p.z f.z _ (by go_simp) hfz
  apply lexc_pure hd0 (by kernel_rfl)
  · intro uz xc; unfold opPure; go_simp; rfl
  apply lexc_end
  rotate_left
  · rfl
  intro uz hR hD hfz
  clear hR hD
  refine tail_store (by rfl) ?_; unfold opStore; go_simp
  refine tail_end ?_
  go_wp2
  rw [rounds_succ]
  go_wp2
  refine bodyPost_ret (by (simp [results, Tryz.results77, go_sem] <;> rfl)) rfl ?_
  exact ⟨rfl, But.out (by repeat (first | with_reducible exact Hb.out | with_reducible apply But.alloc | with_reducible apply But.later | with_reducible apply But.drew | with_reducible apply But.put | with_reducible apply But.store)) Hc.out (by go_simp)⟩
end Go.Proofs.YtochpnomfedhoaaGreat
namespace Go.Proofs.YtochpnomfedhoaaGreat
open Go.RowKit Go.Shelf
set_option maxRecDepth 100000
set_option maxHeartbeats 16000000
theorem aw_good {p f : Bx} (h : awayE p f = 0) : (aw2 0 p f).e = 0 ∧ awC 0 p f = awayS p f := by
  unfold awayE firstE at h
  have h0 : (subR p.x f.x).e = 0 := by
    by_cases a : (subR p.x f.x).e = 0
    · exact a
    · rw [if_neg a, if_neg a] at h; exact absurd h a
  rw [if_pos h0] at h
  have h1 : (subR p.y f.y).e = 0 := by
    by_cases a : (subR p.y f.y).e = 0
    · exact a
    · rw [if_neg a] at h; exact absurd h a
  rw [if_pos h1] at h
  have e0 : aw0 0 p f = subR p.x f.x := rfl
  have e1 : aw1 0 p f = subR p.y f.y := by unfold aw1; rw [e0, h0]; rfl
  have e2 : aw2 0 p f = subR p.z f.z := by unfold aw2; rw [e1, h1]; rfl
  refine ⟨by rw [e2]; exact h, ?_⟩
  unfold awC awayS
  rw [e0, e1, e2]
theorem aw_e (p f : Bx) : (aw2 0 p f).e = awayE p f := by
  unfold awayE firstE
  have e0 : aw0 0 p f = subR p.x f.x := rfl
  by_cases h0 : (subR p.x f.x).e = 0
  · rw [if_pos h0]
    have e1 : aw1 0 p f = subR p.y f.y := by unfold aw1; rw [e0, h0]; rfl
    by_cases h1 : (subR p.y f.y).e = 0
    · rw [if_pos h1]
      unfold aw2
      rw [e1, h1]
      rfl
    · rw [if_neg h1]
      unfold aw2
      rw [e1, doR_bad _ h1]
      rfl
  · rw [if_neg h0, if_neg h0]
    have e1 : aw1 0 p f = errR (subR p.x f.x).e := by unfold aw1; rw [e0, doR_bad _ h0]
    unfold aw2
    rw [e1, doR_bad _ (show (errR (subR p.x f.x).e).e ≠ 0 from h0)]
    rfl
/-- The last step of each kind of reading. -/
def rd0 (p f : Bx) : Res := doR (aw2 0 p f).e (normR (awC 0 p f).list)
def rd1a (p v f : Bx) : Res := doR (aw2 0 p f).e (dotBR (awC 0 p f) v)
def rd1b (p v f : Bx) : Res := doR (rd1a p v f).e (normR (awC 0 p f).list)
def rd1 (p v f : Bx) : Res := doR (rd1b p v f).e (divR (rd1a p v f).s (rd1b p v f).s)
theorem clean_same {a b : Res} (h : a.e = b.e) (h2 : b.e = 0 → a = b) : clean a = clean b := by
  by_cases h0 : b.e = 0
  · rw [h2 h0]
  · rw [clean_bad h0, clean_bad (by rw [h]; exact h0), h]
theorem rd0_is (p f : Bx) : clean (rd0 p f) = clean (normAway p f) := by
  unfold rd0 normAway
  by_cases h : awayE p f = 0
  · rw [(aw_good h).1, (aw_good h).2, if_pos h]
    rfl
  · rw [aw_e, doR_bad _ h, if_neg h]
theorem rd1_is (p v f : Bx) : clean (rd1 p v f) = clean (rateR p v f) := by
  unfold rateR
  by_cases h : awayE p f = 0
  · rw [if_pos h]
    have e1 : rd1a p v f = dotBR (awayS p f) v := by unfold rd1a; rw [(aw_good h).1, (aw_good h).2]; rfl
    unfold divsR rd1
    by_cases h1 : (dotBR (awayS p f) v).e = 0
    · rw [if_pos h1]
      have e2 : rd1b p v f = normR (awayS p f).list := by unfold rd1b; rw [e1, h1, (aw_good h).2]; rfl
      by_cases h2 : (normR (awayS p f).list).e = 0
      · rw [if_pos h2, e2, e1, h2]; rfl
      · rw [if_neg h2, e2, doR_bad _ h2]
    · rw [if_neg h1]
      have e2 : rd1b p v f = errR (dotBR (awayS p f) v).e := by unfold rd1b; rw [e1, doR_bad _ h1]
      rw [e2, doR_bad _ (show (errR (dotBR (awayS p f) v).e).e ≠ 0 from h1)]
      rfl
  · rw [if_neg h]
    have e1 : rd1a p v f = errR (awayE p f) := by unfold rd1a; rw [aw_e, doR_bad _ h]
    have e2 : rd1b p v f = errR (awayE p f) := by unfold rd1b; rw [e1, doR_bad _ (show (errR (awayE p f)).e ≠ 0 from h)]; rfl
    unfold rd1
    rw [e2, doR_bad _ (show (errR (awayE p f)).e ≠ 0 from h)]
    rfl
theorem rcNorm_rd0 (c : Nat) (p f : Bx) (w : World) (hc : w.cell? ⟨c, 0, none⟩ = some (.int .i64 (aw2 0 p f).e)) (hf : w.frozen? ⟨c, 0, none⟩ = false) :
    Calls Tryz.prog 46 #[.pointer (some ⟨c, 0, none⟩), .agg #[.int .i64 ((awC 0 p f)).x.lo, .int .i64 ((awC 0 p f)).x.hi, .int .i64 ((awC 0 p f)).y.lo, .int .i64 ((awC 0 p f)).y.hi, .int .i64 ((awC 0 p f)).z.lo, .int .i64 ((awC 0 p f)).z.hi]] w (RetC c (.agg #[.int .i64 ((rd0 p f).s).lo, .int .i64 ((rd0 p f).s).hi]) (rd0 p f).e w) := rcNorm_any c (aw2 0 p f).e (awC 0 p f) w hc hf
theorem rcDot_rd1a (c : Nat) (p v f : Bx) [hv : B64 v] (w : World) (hc : w.cell? ⟨c, 0, none⟩ = some (.int .i64 (aw2 0 p f).e)) (hf : w.frozen? ⟨c, 0, none⟩ = false) :
    Calls Tryz.prog 53 #[.pointer (some ⟨c, 0, none⟩), .agg #[.int .i64 ((awC 0 p f)).x.lo, .int .i64 ((awC 0 p f)).x.hi, .int .i64 ((awC 0 p f)).y.lo, .int .i64 ((awC 0 p f)).y.hi, .int .i64 ((awC 0 p f)).z.lo, .int .i64 ((awC 0 p f)).z.hi], .agg #[.int .i64 v.x.lo, .int .i64 v.x.hi, .int .i64 v.y.lo, .int .i64 v.y.hi, .int .i64 v.z.lo, .int .i64 v.z.hi]] w (RetC c (.agg #[.int .i64 ((rd1a p v f).s).lo, .int .i64 ((rd1a p v f).s).hi]) (rd1a p v f).e w) := rcDot_any c (aw2 0 p f).e (awC 0 p f) v w hc hf
theorem rcNorm_rd1b (c : Nat) (p v f : Bx) (w : World) (hc : w.cell? ⟨c, 0, none⟩ = some (.int .i64 (rd1a p v f).e)) (hf : w.frozen? ⟨c, 0, none⟩ = false) :
    Calls Tryz.prog 46 #[.pointer (some ⟨c, 0, none⟩), .agg #[.int .i64 ((awC 0 p f)).x.lo, .int .i64 ((awC 0 p f)).x.hi, .int .i64 ((awC 0 p f)).y.lo, .int .i64 ((awC 0 p f)).y.hi, .int .i64 ((awC 0 p f)).z.lo, .int .i64 ((awC 0 p f)).z.hi]] w (RetC c (.agg #[.int .i64 ((rd1b p v f).s).lo, .int .i64 ((rd1b p v f).s).hi]) (rd1b p v f).e w) := rcNorm_any c (rd1a p v f).e (awC 0 p f) w hc hf
instance s64_rd1a (p v f : Bx) : S64 (rd1a p v f).s := by unfold rd1a; infer_instance
instance s64_rd1b (p v f : Bx) : S64 (rd1b p v f).s := by unfold rd1b; infer_instance
theorem rcDiv_rd1 (c : Nat) (p v f : Bx) (w : World) (hc : w.cell? ⟨c, 0, none⟩ = some (.int .i64 (rd1b p v f).e)) (hf : w.frozen? ⟨c, 0, none⟩ = false) :
    Calls Tryz.prog 52 #[.pointer (some ⟨c, 0, none⟩), .agg #[.int .i64 ((rd1a p v f).s).lo, .int .i64 ((rd1a p v f).s).hi], .agg #[.int .i64 ((rd1b p v f).s).lo, .int .i64 ((rd1b p v f).s).hi]] w (RetC c (.agg #[.int .i64 ((rd1 p v f).s).lo, .int .i64 ((rd1 p v f).s).hi]) (rd1 p v f).e w) := rcDiv_any c (rd1b p v f).e (rd1a p v f).s (rd1b p v f).s w hc hf
theorem rcDot_0 (c : Nat) (a b : Bx) [ha : B64 a] [hb : B64 b] (w : World) (hc : w.cell? ⟨c, 0, none⟩ = some (.int .i64 0)) (hf : w.frozen? ⟨c, 0, none⟩ = false) :
    Calls Tryz.prog 53 #[.pointer (some ⟨c, 0, none⟩), .agg #[.int .i64 a.x.lo, .int .i64 a.x.hi, .int .i64 a.y.lo, .int .i64 a.y.hi, .int .i64 a.z.lo, .int .i64 a.z.hi], .agg #[.int .i64 b.x.lo, .int .i64 b.x.hi, .int .i64 b.y.lo, .int .i64 b.y.hi, .int .i64 b.z.lo, .int .i64 b.z.hi]] w (RetC c (.agg #[.int .i64 ((dotBR a b).s).lo, .int .i64 ((dotBR a b).s).hi]) (dotBR a b).e w) := rcDot_any c 0 a b w hc hf
theorem res_eta2 {r : Res} (h : r.e = 0) : (⟨⟨r.s.lo, r.s.hi⟩, 0⟩ : Res) = r := by
  cases r
  simp only at h
  subst h
  rfl
theorem r6read0_any (s : State) (m : Radio) [hp : B64 s.p] [hf : B64 m.place] (hk : m.kind = 0) (w : World) : Calls Tryz.prog 30 #[.agg #[.int .i64 s.t, .int .i64 s.p.x.lo, .int .i64 s.p.x.hi, .int .i64 s.p.y.lo, .int .i64 s.p.y.hi, .int .i64 s.p.z.lo, .int .i64 s.p.z.hi, .int .i64 s.v.x.lo, .int .i64 s.v.x.hi, .int .i64 s.v.y.lo, .int .i64 s.v.y.hi, .int .i64 s.v.z.lo, .int .i64 s.v.z.hi, .int .i64 s.m.lo, .int .i64 s.m.hi], .agg #[.int .i64 m.kind, .int .i64 m.place.x.lo, .int .i64 m.place.x.hi, .int .i64 m.place.y.lo, .int .i64 m.place.y.hi, .int .i64 m.place.z.lo, .int .i64 m.place.z.hi, .int .i64 m.dir.x.lo, .int .i64 m.dir.x.hi, .int .i64 m.dir.y.lo, .int .i64 m.dir.y.hi, .int .i64 m.dir.z.lo, .int .i64 m.dir.z.hi, .int .i64 m.value.lo, .int .i64 m.value.hi]] w fun e w' => e = .returned (.tuple #[.agg #[.int .i64 (clean (readR s m)).s.lo, .int .i64 (clean (readR s m)).s.hi], .int .i64 (clean (readR s m)).e]) ∧ Grew w w' := by
  have HL := Lib.hid (show clean (readR s m) = clean (rd0 s.p m.place) by unfold readR; rw [if_pos hk, rd0_is])
  by_cases hz : (rd0 s.p m.place).e = 0
  · have HQ := Lib.hid (show clean (readR s m) = rd0 s.p m.place by rw [HL.out]; exact clean_ok hz)
    have Hz := Lib.hid hz
    have hz' : ((rd0 s.p m.place).e != 0) = false := by simp [hz]
    clear hz
    go_enter Tryz.func30, Tryz.ntmps30
    go_wp2_with (first | (go_at_call 77; (with_reducible refine call_calc (r6Away_any (w.heap.size + 1 + 1 + 1) 0 s.p m.place _ (by go_simp) (by go_simp)) ?_); intro u1) | (go_at_call 46; (with_reducible refine call_calc (rcNorm_rd0 (w.heap.size + 1 + 1 + 1) s.p m.place _ (by go_simp) (by go_simp)) ?_); intro u2))
    refine bodyPost_ret (by (simp [results, Tryz.results30, go_sem] <;> rfl)) rfl ?_
    exact ⟨ret_res (by rw [HQ.out]; exact res_eta2 Hz.out), (by repeat (first | with_reducible exact Grew.refl _ | with_reducible apply Grew.alloc | with_reducible apply Grew.later | with_reducible apply Grew.drew | with_reducible apply Grew.store | with_reducible assumption))⟩
  · have HQ := Lib.hid (show clean (readR s m) = errR (rd0 s.p m.place).e by rw [HL.out]; exact clean_bad hz)
    have hz' : ((rd0 s.p m.place).e != 0) = true := by simp [hz]
    clear hz
    go_enter Tryz.func30, Tryz.ntmps30
    go_wp2_with (first | (go_at_call 77; (with_reducible refine call_calc (r6Away_any (w.heap.size + 1 + 1 + 1) 0 s.p m.place _ (by go_simp) (by go_simp)) ?_); intro u1) | (go_at_call 46; (with_reducible refine call_calc (rcNorm_rd0 (w.heap.size + 1 + 1 + 1) s.p m.place _ (by go_simp) (by go_simp)) ?_); intro u2))
    go_region
    all_goals go_wp2
    all_goals
      refine bodyPost_ret (by (simp [results, Tryz.results30, go_sem] <;> rfl)) rfl ?_
      exact ⟨ret_err HQ.out.symm rfl, (by repeat (first | with_reducible exact Grew.refl _ | with_reducible apply Grew.alloc | with_reducible apply Grew.later | with_reducible apply Grew.drew | with_reducible apply Grew.store | with_reducible assumption))⟩
theorem r6read2_any (s : State) (m : Radio) [hp : B64 s.p] [hf : B64 m.dir] (hk : m.kind = 2) (w : World) : Calls Tryz.prog 30 #[.agg #[.int .i64 s.t, .int .i64 s.p.x.lo, .int .i64 s.p.x.hi, .int .i64 s.p.y.lo, .int .i64 s.p.y.hi, .int .i64 s.p.z.lo, .int .i64 s.p.z.hi, .int .i64 s.v.x.lo, .int .i64 s.v.x.hi, .int .i64 s.v.y.lo, .int .i64 s.v.y.hi, .int .i64 s.v.z.lo, .int .i64 s.v.z.hi, .int .i64 s.m.lo, .int .i64 s.m.hi], .agg #[.int .i64 m.kind, .int .i64 m.place.x.lo, .int .i64 m.place.x.hi, .int .i64 m.place.y.lo, .int .i64 m.place.y.hi, .int .i64 m.place.z.lo, .int .i64 m.place.z.hi, .int .i64 m.dir.x.lo, .int .i64 m.dir.x.hi, .int .i64 m.dir.y.lo, .int .i64 m.dir.y.hi, .int .i64 m.dir.z.lo, .int .i64 m.dir.z.hi, .int .i64 m.value.lo, .int .i64 m.value.hi]] w fun e w' => e = .returned (.tuple #[.agg #[.int .i64 (clean (readR s m)).s.lo, .int .i64 (clean (readR s m)).s.hi], .int .i64 (clean (readR s m)).e]) ∧ Grew w w' := by
  have HL := Lib.hid (show clean (readR s m) = clean (dotBR m.dir s.p) by unfold readR; rw [if_neg (by omega), if_neg (by omega), if_pos hk])
  by_cases hz : (dotBR m.dir s.p).e = 0
  · have HQ := Lib.hid (show clean (readR s m) = dotBR m.dir s.p by rw [HL.out]; exact clean_ok hz)
    have Hz := Lib.hid hz
    have hz' : ((dotBR m.dir s.p).e != 0) = false := by simp [hz]
    clear hz
    go_enter Tryz.func30, Tryz.ntmps30
    go_wp2_with (first | (go_at_call 53; (with_reducible refine call_calc (rcDot_0 (w.heap.size + 1 + 1 + 1) m.dir s.p _ (by go_simp) (by go_simp)) ?_); intro u1))
    refine bodyPost_ret (by (simp [results, Tryz.results30, go_sem] <;> rfl)) rfl ?_
    exact ⟨ret_res (by rw [HQ.out]; exact res_eta2 Hz.out), (by repeat (first | with_reducible exact Grew.refl _ | with_reducible apply Grew.alloc | with_reducible apply Grew.later | with_reducible apply Grew.drew | with_reducible apply Grew.store | with_reducible assumption))⟩
  · have HQ := Lib.hid (show clean (readR s m) = errR (dotBR m.dir s.p).e by rw [HL.out]; exact clean_bad hz)
    have hz' : ((dotBR m.dir s.p).e != 0) = true := by simp [hz]
    clear hz
    go_enter Tryz.func30, Tryz.ntmps30
    go_wp2_with (first | (go_at_call 53; (with_reducible refine call_calc (rcDot_0 (w.heap.size + 1 + 1 + 1) m.dir s.p _ (by go_simp) (by go_simp)) ?_); intro u1))
    go_region
    all_goals go_wp2
    all_goals
      refine bodyPost_ret (by (simp [results, Tryz.results30, go_sem] <;> rfl)) rfl ?_
      exact ⟨ret_err HQ.out.symm rfl, (by repeat (first | with_reducible exact Grew.refl _ | with_reducible apply Grew.alloc | with_reducible apply Grew.later | with_reducible apply Grew.drew | with_reducible apply Grew.store | with_reducible assumption))⟩
theorem r6read3_any (s : State) (m : Radio) [hp : B64 s.v] [hf : B64 m.dir] (hk : m.kind = 3) (w : World) : Calls Tryz.prog 30 #[.agg #[.int .i64 s.t, .int .i64 s.p.x.lo, .int .i64 s.p.x.hi, .int .i64 s.p.y.lo, .int .i64 s.p.y.hi, .int .i64 s.p.z.lo, .int .i64 s.p.z.hi, .int .i64 s.v.x.lo, .int .i64 s.v.x.hi, .int .i64 s.v.y.lo, .int .i64 s.v.y.hi, .int .i64 s.v.z.lo, .int .i64 s.v.z.hi, .int .i64 s.m.lo, .int .i64 s.m.hi], .agg #[.int .i64 m.kind, .int .i64 m.place.x.lo, .int .i64 m.place.x.hi, .int .i64 m.place.y.lo, .int .i64 m.place.y.hi, .int .i64 m.place.z.lo, .int .i64 m.place.z.hi, .int .i64 m.dir.x.lo, .int .i64 m.dir.x.hi, .int .i64 m.dir.y.lo, .int .i64 m.dir.y.hi, .int .i64 m.dir.z.lo, .int .i64 m.dir.z.hi, .int .i64 m.value.lo, .int .i64 m.value.hi]] w fun e w' => e = .returned (.tuple #[.agg #[.int .i64 (clean (readR s m)).s.lo, .int .i64 (clean (readR s m)).s.hi], .int .i64 (clean (readR s m)).e]) ∧ Grew w w' := by
  have HL := Lib.hid (show clean (readR s m) = clean (dotBR m.dir s.v) by unfold readR; rw [if_neg (by omega), if_neg (by omega), if_neg (by omega)])
  by_cases hz : (dotBR m.dir s.v).e = 0
  · have HQ := Lib.hid (show clean (readR s m) = dotBR m.dir s.v by rw [HL.out]; exact clean_ok hz)
    have Hz := Lib.hid hz
    have hz' : ((dotBR m.dir s.v).e != 0) = false := by simp [hz]
    clear hz
    go_enter Tryz.func30, Tryz.ntmps30
    go_wp2_with (first | (go_at_call 53; (with_reducible refine call_calc (rcDot_0 (w.heap.size + 1 + 1 + 1) m.dir s.v _ (by go_simp) (by go_simp)) ?_); intro u1))
    refine bodyPost_ret (by (simp [results, Tryz.results30, go_sem] <;> rfl)) rfl ?_
    exact ⟨ret_res (by rw [HQ.out]; exact res_eta2 Hz.out), (by repeat (first | with_reducible exact Grew.refl _ | with_reducible apply Grew.alloc | with_reducible apply Grew.later | with_reducible apply Grew.drew | with_reducible apply Grew.store | with_reducible assumption))⟩
  · have HQ := Lib.hid (show clean (readR s m) = errR (dotBR m.dir s.v).e by rw [HL.out]; exact clean_bad hz)
    have hz' : ((dotBR m.dir s.v).e != 0) = true := by simp [hz]
    clear hz
    go_enter Tryz.func30, Tryz.ntmps30
    go_wp2_with (first | (go_at_call 53; (with_reducible refine call_calc (rcDot_0 (w.heap.size + 1 + 1 + 1) m.dir s.v _ (by go_simp) (by go_simp)) ?_); intro u1))
    go_region
    all_goals go_wp2
    all_goals
      refine bodyPost_ret (by (simp [results, Tryz.results30, go_sem] <;> rfl)) rfl ?_
      exact ⟨ret_err HQ.out.symm rfl, (by repeat (first | with_reducible exact Grew.refl _ | with_reducible apply Grew.alloc | with_reducible apply Grew.later | with_reducible apply Grew.drew | with_reducible apply Grew.store | with_reducible assumption))⟩
end Go.Proofs.YtochpnomfedhoaaGreat
namespace Go.Proofs.YtochpnomfedhoaaGreat
open Go.RowKit Go.Shelf
set_option maxRecDepth 100000
set_option maxHeartbeats 16000000
theorem r6read1_any (s : State) (m : Radio) [hp : B64 s.p] [hv : B64 s.v] [hf : B64 m.place] (hk : m.kind = 1) (w : World) : Calls Tryz.prog 30 #[.agg #[.int .i64 s.t, .int .i64 s.p.x.lo, .int .i64 s.p.x.hi, .int .i64 s.p.y.lo, .int .i64 s.p.y.hi, .int .i64 s.p.z.lo, .int .i64 s.p.z.hi, .int .i64 s.v.x.lo, .int .i64 s.v.x.hi, .int .i64 s.v.y.lo, .int .i64 s.v.y.hi, .int .i64 s.v.z.lo, .int .i64 s.v.z.hi, .int .i64 s.m.lo, .int .i64 s.m.hi], .agg #[.int .i64 m.kind, .int .i64 m.place.x.lo, .int .i64 m.place.x.hi, .int .i64 m.place.y.lo, .int .i64 m.place.y.hi, .int .i64 m.place.z.lo, .int .i64 m.place.z.hi, .int .i64 m.dir.x.lo, .int .i64 m.dir.x.hi, .int .i64 m.dir.y.lo, .int .i64 m.dir.y.hi, .int .i64 m.dir.z.lo, .int .i64 m.dir.z.hi, .int .i64 m.value.lo, .int .i64 m.value.hi]] w fun e w' => e = .returned (.tuple #[.agg #[.int .i64 (clean (readR s m)).s.lo, .int .i64 (clean (readR s m)).s.hi], .int .i64 (clean (readR s m)).e]) ∧ Grew w w' := by
  have HL := Lib.hid (show clean (readR s m) = clean (rd1 s.p s.v m.place) by unfold readR; rw [if_neg (by omega), if_pos hk, rd1_is])
  by_cases hz : (rd1 s.p s.v m.place).e = 0
  · have HQ := Lib.hid (show clean (readR s m) = rd1 s.p s.v m.place by rw [HL.out]; exact clean_ok hz)
    have Hz := Lib.hid hz
    have hz' : ((rd1 s.p s.v m.place).e != 0) = false := by simp [hz]
    clear hz
    go_enter Tryz.func30, Tryz.ntmps30
    go_wp2_with (first | (go_at_call 77; (with_reducible refine call_calc (r6Away_any (w.heap.size + 1 + 1 + 1) 0 s.p m.place _ (by go_simp) (by go_simp)) ?_); intro u1))
    refine wp_region_calc (w.heap.size + 1 + 1 + 1) [(aw2 0 s.p m.place).e, (rd1a s.p s.v m.place).e, (rd1b s.p s.v m.place).e, (rd1 s.p s.v m.place).e] 10 [] [5, 8, 9] [] (fun W0 => []) [.agg #[.int .i64 ((rd1a s.p s.v m.place).s).lo, .int .i64 ((rd1a s.p s.v m.place).s).hi], .agg #[.int .i64 ((rd1b s.p s.v m.place).s).lo, .int .i64 ((rd1b s.p s.v m.place).s).hi], .agg #[.int .i64 ((rd1 s.p s.v m.place).s).lo, .int .i64 ((rd1 s.p s.v m.place).s).hi]] [10] (by rfl) (by go_simp) (by go_simp) (fun _ _ x hx => absurd hx (List.not_mem_nil)) (by kernel_rfl) (by kernel_rfl) (by kernel_rfl) ?_
    intro pz hd0
    apply Exists.intro
    apply And.intro
    apply lexc_pure hd0 (by kernel_rfl)
    · intro uz xc; unfold opPure; go_simp; rfl
    apply lexc_pure hd0 (by kernel_rfl)
    · intro uz xc; unfold opPure; go_simp; rfl
    apply lexc_pure hd0 (by kernel_rfl)
    · intro uz xc; unfold opPure; go_simp; rfl
    apply lexc_pure hd0 (by kernel_rfl)
    · intro uz xc; unfold opPure; go_simp; rfl
    apply lexc_pure hd0 (by kernel_rfl)
    · intro uz xc; unfold opPure; go_simp; rfl
    apply lexc_call hd0 0 (by kernel_rfl) (by rfl) (by decide)
    · intro uz hfz hF; clear hF; unfold opCall; go_simp; exact rcDot_rd1a _ s.p s.v m.place _ (by go_simp) hfz
    apply lexc_pure hd0 (by kernel_rfl)
    · intro uz xc; unfold opPure; go_simp; rfl
    apply lexc_pure hd0 (by kernel_rfl)
    · intro uz xc; unfold opPure; go_simp; rfl
    apply lexc_call hd0 1 (by kernel_rfl) (by rfl) (by decide)
    · intro uz hfz hF; clear hF; unfold opCall; go_simp; exact rcNorm_rd1b _ s.p s.v m.place _ (by go_simp) hfz
    apply lexc_call hd0 2 (by kernel_rfl) (by rfl) (by decide)
    · intro uz hfz hF; clear hF; unfold opCall; go_simp; exact rcDiv_rd1 _ s.p s.v m.place _ (by go_simp) hfz
    apply lexc_end
    rotate_left
    · rfl
    intro uz hR hD hfz
    clear hR hD
    refine tail_store (by rfl) ?_; unfold opStore; go_simp
    refine tail_end ?_
    go_wp2
    refine bodyPost_ret (by (simp [results, Tryz.results30, go_sem] <;> rfl)) rfl ?_
    exact ⟨ret_res (by rw [HQ.out]; exact res_eta2 Hz.out), (by repeat (first | with_reducible exact Grew.refl _ | with_reducible apply Grew.alloc | with_reducible apply Grew.later | with_reducible apply Grew.drew | with_reducible apply Grew.store | with_reducible assumption))⟩
  · have HQ := Lib.hid (show clean (readR s m) = errR (rd1 s.p s.v m.place).e by rw [HL.out]; exact clean_bad hz)
    have hz' : ((rd1 s.p s.v m.place).e != 0) = true := by simp [hz]
    clear hz
    go_enter Tryz.func30, Tryz.ntmps30
    go_wp2_with (first | (go_at_call 77; (with_reducible refine call_calc (r6Away_any (w.heap.size + 1 + 1 + 1) 0 s.p m.place _ (by go_simp) (by go_simp)) ?_); intro u1))
    refine wp_region_calc (w.heap.size + 1 + 1 + 1) [(aw2 0 s.p m.place).e, (rd1a s.p s.v m.place).e, (rd1b s.p s.v m.place).e, (rd1 s.p s.v m.place).e] 10 [] [5, 8, 9] [] (fun W0 => []) [.agg #[.int .i64 ((rd1a s.p s.v m.place).s).lo, .int .i64 ((rd1a s.p s.v m.place).s).hi], .agg #[.int .i64 ((rd1b s.p s.v m.place).s).lo, .int .i64 ((rd1b s.p s.v m.place).s).hi], .agg #[.int .i64 ((rd1 s.p s.v m.place).s).lo, .int .i64 ((rd1 s.p s.v m.place).s).hi]] [10] (by rfl) (by go_simp) (by go_simp) (fun _ _ x hx => absurd hx (List.not_mem_nil)) (by kernel_rfl) (by kernel_rfl) (by kernel_rfl) ?_
    intro pz hd0
    apply Exists.intro
    apply And.intro
    apply lexc_pure hd0 (by kernel_rfl)
    · intro uz xc; unfold opPure; go_simp; rfl
    apply lexc_pure hd0 (by kernel_rfl)
    · intro uz xc; unfold opPure; go_simp; rfl
    apply lexc_pure hd0 (by kernel_rfl)
    · intro uz xc; unfold opPure; go_simp; rfl
    apply lexc_pure hd0 (by kernel_rfl)
    · intro uz xc; unfold opPure; go_simp; rfl
    apply lexc_pure hd0 (by kernel_rfl)
    · intro uz xc; unfold opPure; go_simp; rfl
    apply lexc_call hd0 0 (by kernel_rfl) (by rfl) (by decide)
    · intro uz hfz hF; clear hF; unfold opCall; go_simp; exact rcDot_rd1a _ s.p s.v m.place _ (by go_simp) hfz
    apply lexc_pure hd0 (by kernel_rfl)
    · intro uz xc; unfold opPure; go_simp; rfl
    apply lexc_pure hd0 (by kernel_rfl)
    · intro uz xc; unfold opPure; go_simp; rfl
    apply lexc_call hd0 1 (by kernel_rfl) (by rfl) (by decide)
    · intro uz hfz hF; clear hF; unfold opCall; go_simp; exact rcNorm_rd1b _ s.p s.v m.place _ (by go_simp) hfz
    apply lexc_call hd0 2 (by kernel_rfl) (by rfl) (by decide)
    · intro uz hfz hF; clear hF; unfold opCall; go_simp; exact rcDiv_rd1 _ s.p s.v m.place _ (by go_simp) hfz
    apply lexc_end
    rotate_left
    · rfl
    intro uz hR hD hfz
    clear hR hD
    refine tail_store (by rfl) ?_; unfold opStore; go_simp
    refine tail_end ?_
    go_wp2
    go_region
    all_goals go_wp2
    all_goals
      refine bodyPost_ret (by (simp [results, Tryz.results30, go_sem] <;> rfl)) rfl ?_
      exact ⟨ret_err HQ.out.symm rfl, (by repeat (first | with_reducible exact Grew.refl _ | with_reducible apply Grew.alloc | with_reducible apply Grew.later | with_reducible apply Grew.drew | with_reducible apply Grew.store | with_reducible assumption))⟩
end Go.Proofs.YtochpnomfedhoaaGreat
