/-
  Contracts of flight: operations of a calculation on whole boxes, as method values; zero, place, speed, whole.
-/
import Derived.Test.YtnedbhdokljpcaaGreatPress
import Derived.Test.YtnedbhdokljpcaaGreatForceLaw
namespace Go.Proofs.YtnedbhdokljpcaaGreat
open Go.RowKit Go.Shelf
set_option maxRecDepth 100000
set_option maxHeartbeats 8000000
theorem bin_add : BinOk 95 addR := fun w a b _ _ => spAdd_any a b w
theorem cAdd_any (c : Nat) (e : Int) (a b : Sp) [ha : S64 a] [hb : S64 b] (w : World) (hc : w.cell? ⟨c, 0, none⟩ = some (.int .i64 e)) (hf : w.frozen? ⟨c, 0, none⟩ = false) :
    Calls Tryz.prog 132 #[.pointer (some ⟨c, 0, none⟩), .agg #[.int .i64 a.lo, .int .i64 a.hi], .agg #[.int .i64 b.lo, .int .i64 b.hi]] w (RetC c (.agg #[.int .i64 ((doR e (addR a b)).s).lo, .int .i64 ((doR e (addR a b)).s).hi]) (doR e (addR a b)).e w) := by
  have ib : BlockIn w c := BlockIn.of_cell hc
  have hci : HasCell w c 0 := ⟨_, hc⟩
  have Hb := Lib.hid (But.refl hc)
  have Hc := Lib.hid hc
  go_enter Tryz.func132, Tryz.ntmps132
  go_wp2_with (go_at_call 97; refine call_calc (cDo_any 95 addR (enters_of Tryz.func95 (by kernel_rfl) rfl) bin_add c e a b _ (by go_simp) (by go_simp)) ?_; intro u)
  refine bodyPost_ret (by (simp [results, Tryz.results132, go_sem] <;> rfl)) rfl ?_
  exact ⟨rfl, But.out (by repeat (first | with_reducible exact Hb.out | with_reducible apply But.alloc | with_reducible apply But.later | with_reducible apply But.drew | with_reducible apply But.put | with_reducible apply But.store)) Hc.out (by go_simp)⟩
theorem cScale_any (c : Nat) (e : Int) (a : Sp) (n : Int) [ha : S64 a] [hn : N64 n] (w : World) (hc : w.cell? ⟨c, 0, none⟩ = some (.int .i64 e)) (hf : w.frozen? ⟨c, 0, none⟩ = false) :
    Calls Tryz.prog 133 #[.pointer (some ⟨c, 0, none⟩), .agg #[.int .i64 a.lo, .int .i64 a.hi], .int .i64 n] w (RetC c (.agg #[.int .i64 ((doR e (scaleR a n)).s).lo, .int .i64 ((doR e (scaleR a n)).s).hi]) (doR e (scaleR a n)).e w) := by
  have ib : BlockIn w c := BlockIn.of_cell hc
  have hci : HasCell w c 0 := ⟨_, hc⟩
  have Hb := Lib.hid (But.refl hc)
  have Hc := Lib.hid hc
  go_enter Tryz.func133, Tryz.ntmps133
  go_wp2_with (first | (go_at_call 184; (with_reducible refine call_later (spScale_any a n _) ?_); intro u) | (go_at_call 46; refine call_calc (cKeep_any c e (scaleR a n) _ (by go_simp) (by go_simp)) ?_; intro u) | ((with_reducible refine wp_region_later ?_ ?_ ?_); (· kernel_rfl); (· kernel_rfl); (try simp only [List.append_eq, List.cons_append, List.nil_append]); (repeat (go_big_quiet_step ((first | (go_at_call 184; (with_reducible exact call_quiet (spScale_any a n _))))))); refine wpQuiet_nil ?_; rintro _ ⟨u, rfl⟩))
  refine bodyPost_ret (by (simp [results, Tryz.results133, go_sem] <;> rfl)) rfl ?_
  exact ⟨rfl, But.out (by repeat (first | with_reducible exact Hb.out | with_reducible apply But.alloc | with_reducible apply But.later | with_reducible apply But.drew | with_reducible apply But.put | with_reducible apply But.store)) Hc.out (by go_simp)⟩
theorem flWhole_one (w : World) : Calls Tryz.prog 55 #[.int .i64 1] w fun e w' => e = .returned (.agg #[.int .i64 (wholeS 1).lo, .int .i64 (wholeS 1).hi]) ∧ Grew w w' := by
  go_enter Tryz.func55, Tryz.ntmps55
  go_wp2_with (first | (go_at_call 119; (with_reducible refine call_later (flPoint_any _ _) ?_); intro u) | ((with_reducible refine wp_region_later ?_ ?_ ?_); (· kernel_rfl); (· kernel_rfl); (try simp only [List.append_eq, List.cons_append, List.nil_append]); (repeat (go_big_quiet_step ((first | (go_at_call 119; (with_reducible exact call_quiet (flPoint_any _ _))))))); refine wpQuiet_nil ?_; rintro _ ⟨u, rfl⟩))
  refine bodyPost_ret (by (simp [results, Tryz.results55, go_sem] <;> rfl)) rfl ?_
  exact ⟨rfl, (by repeat (first | with_reducible exact Grew.refl _ | with_reducible apply Grew.alloc | with_reducible apply Grew.later | with_reducible apply Grew.drew | with_reducible apply Grew.store | with_reducible assumption))⟩
theorem flWhole_three (w : World) : Calls Tryz.prog 55 #[.int .i64 3] w fun e w' => e = .returned (.agg #[.int .i64 (wholeS 3).lo, .int .i64 (wholeS 3).hi]) ∧ Grew w w' := by
  go_enter Tryz.func55, Tryz.ntmps55
  go_wp2_with (first | (go_at_call 119; (with_reducible refine call_later (flPoint_any _ _) ?_); intro u) | ((with_reducible refine wp_region_later ?_ ?_ ?_); (· kernel_rfl); (· kernel_rfl); (try simp only [List.append_eq, List.cons_append, List.nil_append]); (repeat (go_big_quiet_step ((first | (go_at_call 119; (with_reducible exact call_quiet (flPoint_any _ _))))))); refine wpQuiet_nil ?_; rintro _ ⟨u, rfl⟩))
  refine bodyPost_ret (by (simp [results, Tryz.results55, go_sem] <;> rfl)) rfl ?_
  exact ⟨rfl, (by repeat (first | with_reducible exact Grew.refl _ | with_reducible apply Grew.alloc | with_reducible apply Grew.later | with_reducible apply Grew.drew | with_reducible apply Grew.store | with_reducible assumption))⟩
theorem flZero_any (a : Sp) (w : World) : Calls Tryz.prog 129 #[.agg #[.int .i64 a.lo, .int .i64 a.hi]] w fun e w' => e = .returned (.bool (zeroB a)) ∧ Grew w w' := by
  unfold zeroB
  go_enter Tryz.func129, Tryz.ntmps129
  go_wp2
  all_goals
    go_ret
    exact ⟨by congr 1; simp [*], (by repeat (first | with_reducible exact Grew.refl _ | with_reducible apply Grew.alloc | with_reducible apply Grew.later | with_reducible apply Grew.drew | with_reducible apply Grew.store | with_reducible assumption))⟩
theorem r3Point0_any (a : Sp) (w : World) : Calls Tryz.prog 135 #[.agg #[.int .i64 a.lo, .int .i64 a.hi]] w fun e w' => e = .returned (.bool (zeroB a)) ∧ Grew w w' := by
  unfold zeroB
  cases h1 : decide (a.lo = 0) <;> cases h2 : decide (a.hi = 0)
  all_goals
    simp only [decide_eq_true_eq, decide_eq_false_iff_not] at h1 h2
    go_enter Tryz.func135, Tryz.ntmps135
    go_wp2
    go_ret
    exact ⟨by simp [h1, h2], (by repeat (first | with_reducible exact Grew.refl _ | with_reducible apply Grew.alloc | with_reducible apply Grew.later | with_reducible apply Grew.drew | with_reducible apply Grew.store | with_reducible assumption))⟩
@[go_sem] theorem arrayAt_box (a : Addr) (cap : Nat) (w : World) : (Instr.arrayAt 26 (.slice (some a) 3 cap)).run Tryz.prog w = .ok (.pointer (some a)) w := by
  simp [Instr.arrayAt]
theorem flPlace_any (p v : Bx) (w : World) : Calls Tryz.prog 127 #[.agg #[.int .i64 p.x.lo, .int .i64 p.x.hi, .int .i64 p.y.lo, .int .i64 p.y.hi, .int .i64 p.z.lo, .int .i64 p.z.hi, .int .i64 v.x.lo, .int .i64 v.x.hi, .int .i64 v.y.lo, .int .i64 v.y.hi, .int .i64 v.z.lo, .int .i64 v.z.hi]] w fun e w' => e = .returned (.agg #[.int .i64 p.x.lo, .int .i64 p.x.hi, .int .i64 p.y.lo, .int .i64 p.y.hi, .int .i64 p.z.lo, .int .i64 p.z.hi]) ∧ Grew w w' := by
  go_enter Tryz.func127, Tryz.ntmps127
  go_wp2
  refine bodyPost_ret (by (simp [results, Tryz.results127, go_sem] <;> rfl)) rfl ?_
  exact ⟨rfl, (by repeat (first | with_reducible exact Grew.refl _ | with_reducible apply Grew.alloc | with_reducible apply Grew.later | with_reducible apply Grew.drew | with_reducible apply Grew.store | with_reducible assumption))⟩
theorem flSpeedOf_any (p v : Bx) (w : World) : Calls Tryz.prog 128 #[.agg #[.int .i64 p.x.lo, .int .i64 p.x.hi, .int .i64 p.y.lo, .int .i64 p.y.hi, .int .i64 p.z.lo, .int .i64 p.z.hi, .int .i64 v.x.lo, .int .i64 v.x.hi, .int .i64 v.y.lo, .int .i64 v.y.hi, .int .i64 v.z.lo, .int .i64 v.z.hi]] w fun e w' => e = .returned (.agg #[.int .i64 v.x.lo, .int .i64 v.x.hi, .int .i64 v.y.lo, .int .i64 v.y.hi, .int .i64 v.z.lo, .int .i64 v.z.hi]) ∧ Grew w w' := by
  go_enter Tryz.func128, Tryz.ntmps128
  go_wp2
  refine bodyPost_ret (by (simp [results, Tryz.results128, go_sem] <;> rfl)) rfl ?_
  exact ⟨rfl, (by repeat (first | with_reducible exact Grew.refl _ | with_reducible apply Grew.alloc | with_reducible apply Grew.later | with_reducible apply Grew.drew | with_reducible apply Grew.store | with_reducible assumption))⟩
/-- What is asked of a method of a calculation. -/
def OpM (g : Nat) (op : Sp → Sp → Res) : Prop :=
  ∀ (c : Nat) (e : Int) (a b : Sp), S64 a → S64 b → ∀ (w : World), w.cell? ⟨c, 0, none⟩ = some (.int .i64 e) → w.frozen? ⟨c, 0, none⟩ = false →
    Calls Tryz.prog g #[.pointer (some ⟨c, 0, none⟩), .agg #[.int .i64 a.lo, .int .i64 a.hi], .agg #[.int .i64 b.lo, .int .i64 b.hi]] w (RetC c (.agg #[.int .i64 ((doR e (op a b)).s).lo, .int .i64 ((doR e (op a b)).s).hi]) (doR e (op a b)).e w)
theorem opm_add : OpM 132 addR := fun c e a b _ _ w hc hf => cAdd_any c e a b w hc hf
theorem opm_sub : OpM 37 subR := fun c e a b _ _ w hc hf => cSub_any c e a b w hc hf
theorem opm_mul : OpM 53 mulR := fun c e a b _ _ w hc hf => cMul_any c e a b w hc hf
theorem opm_div : OpM 45 divR := fun c e a b _ _ w hc hf => cDiv_any c e a b w hc hf
theorem cEachM_any (g : Nat) (op : Sp → Sp → Res) (eg : ∀ args w, (callFunc g args).run Tryz.prog w = .ok (.enter g args) w) (hop : OpM g op) (c : Nat) (e : Int) (a b : Bx) [ha : B64 a] [hb : B64 b] (w : World) (hc : w.cell? ⟨c, 0, none⟩ = some (.int .i64 e)) (hf : w.frozen? ⟨c, 0, none⟩ = false) :
    Calls Tryz.prog 130 #[.pointer (some ⟨c, 0, none⟩), .func (.func g) #[.pointer (some ⟨c, 0, none⟩)] #[], .agg #[.int .i64 a.x.lo, .int .i64 a.x.hi, .int .i64 a.y.lo, .int .i64 a.y.hi, .int .i64 a.z.lo, .int .i64 a.z.hi], .agg #[.int .i64 b.x.lo, .int .i64 b.x.hi, .int .i64 b.y.lo, .int .i64 b.y.hi, .int .i64 b.z.lo, .int .i64 b.z.hi]] w (RetC c (.agg #[.int .i64 ((eachR op e a b).b).x.lo, .int .i64 ((eachR op e a b).b).x.hi, .int .i64 ((eachR op e a b).b).y.lo, .int .i64 ((eachR op e a b).b).y.hi, .int .i64 ((eachR op e a b).b).z.lo, .int .i64 ((eachR op e a b).b).z.hi]) (eachR op e a b).e w) := by
  have ib : BlockIn w c := BlockIn.of_cell hc
  have hci : HasCell w c 0 := ⟨_, hc⟩
  have Hb := Lib.hid (But.refl hc)
  have Hc := Lib.hid hc
  have HO := Lib.hid hop
  clear hop
  go_enter Tryz.func130, Tryz.ntmps130
  go_wp2
  go_loopw [11] (fun t wr => ∃ k : Nat, t = .int .i64 k ∧ k ≤ 3 ∧ EachAt op e a b c (w.heap.size + 1 + 1 + 1) w k wr) (fun t _ => 3 - (intOf t).toNat)
  case atStart => exact ⟨0, rfl, by omega, (by repeat (first | with_reducible exact Hb.out | with_reducible apply But.alloc | with_reducible apply But.later | with_reducible apply But.drew | with_reducible apply But.put | with_reducible apply But.store)), by go_simp; rfl, by go_simp, boxAt_six (by go_simp) (by go_simp) (by go_simp) (by go_simp) (by go_simp) (by go_simp) (by go_simp) (by go_simp) (by go_simp) (by go_simp) (by go_simp) (by go_simp), boxAt_six (by go_simp) (by go_simp) (by go_simp) (by go_simp) (by go_simp) (by go_simp) (by go_simp) (by go_simp) (by go_simp) (by go_simp) (by go_simp) (by go_simp), boxAt_six (by go_simp) (by go_simp) (by go_simp) (by go_simp) (by go_simp) (by go_simp) (by go_simp) (by go_simp) (by go_simp) (by go_simp) (by go_simp) (by go_simp), boxAt_six (by go_simp) (by go_simp) (by go_simp) (by go_simp) (by go_simp) (by go_simp) (by go_simp) (by go_simp) (by go_simp) (by go_simp) (by go_simp) (by go_simp)⟩
  case round =>
    obtain ⟨k, rfl, hk, hE⟩ := hrel
    obtain ⟨h1, h2, h3, h4, h5, h6, h7⟩ := hE
    have : Apart (w.heap.size) (w.heap.size + 1) := ⟨by omega⟩
    have : Apart (w.heap.size) (w.heap.size + 1 + 1) := ⟨by omega⟩
    have : Apart (w.heap.size) (w.heap.size + 1 + 1 + 1) := ⟨by omega⟩
    have : Apart (w.heap.size + 1) (w.heap.size) := ⟨by omega⟩
    have : Apart (w.heap.size + 1) (w.heap.size + 1 + 1) := ⟨by omega⟩
    have : Apart (w.heap.size + 1) (w.heap.size + 1 + 1 + 1) := ⟨by omega⟩
    have : Apart (w.heap.size + 1 + 1) (w.heap.size) := ⟨by omega⟩
    have : Apart (w.heap.size + 1 + 1) (w.heap.size + 1) := ⟨by omega⟩
    have : Apart (w.heap.size + 1 + 1) (w.heap.size + 1 + 1 + 1) := ⟨by omega⟩
    have : Apart (w.heap.size + 1 + 1 + 1) (w.heap.size) := ⟨by omega⟩
    have : Apart (w.heap.size + 1 + 1 + 1) (w.heap.size + 1) := ⟨by omega⟩
    have : Apart (w.heap.size + 1 + 1 + 1) (w.heap.size + 1 + 1) := ⟨by omega⟩
    have Hb := Lib.hid h1
    have ibw : BlockIn wr c := BlockIn.of_cell h2
    have hcw : HasCell wr c 0 := ⟨_, h2⟩
    have hlt := ib.lt
    have : Apart (c) (w.heap.size) := ⟨by omega⟩
    have : Apart (c) (w.heap.size + 1) := ⟨by omega⟩
    have : Apart (c) (w.heap.size + 1 + 1) := ⟨by omega⟩
    have : Apart (c) (w.heap.size + 1 + 1 + 1) := ⟨by omega⟩
    have : Apart (w.heap.size) (c) := ⟨by omega⟩
    have : Apart (w.heap.size) (w.heap.size + 1) := ⟨by omega⟩
    have : Apart (w.heap.size) (w.heap.size + 1 + 1) := ⟨by omega⟩
    have : Apart (w.heap.size) (w.heap.size + 1 + 1 + 1) := ⟨by omega⟩
    have : Apart (w.heap.size + 1) (c) := ⟨by omega⟩
    have : Apart (w.heap.size + 1) (w.heap.size) := ⟨by omega⟩
    have : Apart (w.heap.size + 1) (w.heap.size + 1 + 1) := ⟨by omega⟩
    have : Apart (w.heap.size + 1) (w.heap.size + 1 + 1 + 1) := ⟨by omega⟩
    have : Apart (w.heap.size + 1 + 1) (c) := ⟨by omega⟩
    have : Apart (w.heap.size + 1 + 1) (w.heap.size) := ⟨by omega⟩
    have : Apart (w.heap.size + 1 + 1) (w.heap.size + 1) := ⟨by omega⟩
    have : Apart (w.heap.size + 1 + 1) (w.heap.size + 1 + 1 + 1) := ⟨by omega⟩
    have : Apart (w.heap.size + 1 + 1 + 1) (c) := ⟨by omega⟩
    have : Apart (w.heap.size + 1 + 1 + 1) (w.heap.size) := ⟨by omega⟩
    have : Apart (w.heap.size + 1 + 1 + 1) (w.heap.size + 1) := ⟨by omega⟩
    have : Apart (w.heap.size + 1 + 1 + 1) (w.heap.size + 1 + 1) := ⟨by omega⟩
    clear h1 hc hf hci
    have h4_0 := (h4 0 _ rfl).1
    have h4f0 := (h4 0 _ rfl).2
    have h4i0 : HasCell (wr) (w.heap.size) 0 := ⟨_, h4_0⟩
    have h4_1 := (h4 1 _ rfl).1
    have h4f1 := (h4 1 _ rfl).2
    have h4i1 : HasCell (wr) (w.heap.size) 1 := ⟨_, h4_1⟩
    have h4_2 := (h4 2 _ rfl).1
    have h4f2 := (h4 2 _ rfl).2
    have h4i2 : HasCell (wr) (w.heap.size) 2 := ⟨_, h4_2⟩
    have h4_3 := (h4 3 _ rfl).1
    have h4f3 := (h4 3 _ rfl).2
    have h4i3 : HasCell (wr) (w.heap.size) 3 := ⟨_, h4_3⟩
    have h4_4 := (h4 4 _ rfl).1
    have h4f4 := (h4 4 _ rfl).2
    have h4i4 : HasCell (wr) (w.heap.size) 4 := ⟨_, h4_4⟩
    have h4_5 := (h4 5 _ rfl).1
    have h4f5 := (h4 5 _ rfl).2
    have h4i5 : HasCell (wr) (w.heap.size) 5 := ⟨_, h4_5⟩
    have h4b : BlockIn (wr) (w.heap.size) := BlockIn.of_cell h4_0
    clear h4
    have h5_0 := (h5 0 _ rfl).1
    have h5f0 := (h5 0 _ rfl).2
    have h5i0 : HasCell (wr) (w.heap.size + 1) 0 := ⟨_, h5_0⟩
    have h5_1 := (h5 1 _ rfl).1
    have h5f1 := (h5 1 _ rfl).2
    have h5i1 : HasCell (wr) (w.heap.size + 1) 1 := ⟨_, h5_1⟩
    have h5_2 := (h5 2 _ rfl).1
    have h5f2 := (h5 2 _ rfl).2
    have h5i2 : HasCell (wr) (w.heap.size + 1) 2 := ⟨_, h5_2⟩
    have h5_3 := (h5 3 _ rfl).1
    have h5f3 := (h5 3 _ rfl).2
    have h5i3 : HasCell (wr) (w.heap.size + 1) 3 := ⟨_, h5_3⟩
    have h5_4 := (h5 4 _ rfl).1
    have h5f4 := (h5 4 _ rfl).2
    have h5i4 : HasCell (wr) (w.heap.size + 1) 4 := ⟨_, h5_4⟩
    have h5_5 := (h5 5 _ rfl).1
    have h5f5 := (h5 5 _ rfl).2
    have h5i5 : HasCell (wr) (w.heap.size + 1) 5 := ⟨_, h5_5⟩
    have h5b : BlockIn (wr) (w.heap.size + 1) := BlockIn.of_cell h5_0
    clear h5
    have h6_0 := (h6 0 _ rfl).1
    have h6f0 := (h6 0 _ rfl).2
    have h6i0 : HasCell (wr) (w.heap.size + 1 + 1) 0 := ⟨_, h6_0⟩
    have h6_1 := (h6 1 _ rfl).1
    have h6f1 := (h6 1 _ rfl).2
    have h6i1 : HasCell (wr) (w.heap.size + 1 + 1) 1 := ⟨_, h6_1⟩
    have h6_2 := (h6 2 _ rfl).1
    have h6f2 := (h6 2 _ rfl).2
    have h6i2 : HasCell (wr) (w.heap.size + 1 + 1) 2 := ⟨_, h6_2⟩
    have h6_3 := (h6 3 _ rfl).1
    have h6f3 := (h6 3 _ rfl).2
    have h6i3 : HasCell (wr) (w.heap.size + 1 + 1) 3 := ⟨_, h6_3⟩
    have h6_4 := (h6 4 _ rfl).1
    have h6f4 := (h6 4 _ rfl).2
    have h6i4 : HasCell (wr) (w.heap.size + 1 + 1) 4 := ⟨_, h6_4⟩
    have h6_5 := (h6 5 _ rfl).1
    have h6f5 := (h6 5 _ rfl).2
    have h6i5 : HasCell (wr) (w.heap.size + 1 + 1) 5 := ⟨_, h6_5⟩
    have h6b : BlockIn (wr) (w.heap.size + 1 + 1) := BlockIn.of_cell h6_0
    clear h6
    rcases (show k = 0 ∨ k = 1 ∨ k = 2 ∨ k = 3 by omega) with rfl | rfl | rfl | rfl
    · unfold eachErr at h2
      unfold eachCells at h7
      have h7_0 := (h7 0 _ rfl).1
      have h7f0 := (h7 0 _ rfl).2
      have h7i0 : HasCell (wr) (w.heap.size + 1 + 1 + 1) 0 := ⟨_, h7_0⟩
      have h7_1 := (h7 1 _ rfl).1
      have h7f1 := (h7 1 _ rfl).2
      have h7i1 : HasCell (wr) (w.heap.size + 1 + 1 + 1) 1 := ⟨_, h7_1⟩
      have h7_2 := (h7 2 _ rfl).1
      have h7f2 := (h7 2 _ rfl).2
      have h7i2 : HasCell (wr) (w.heap.size + 1 + 1 + 1) 2 := ⟨_, h7_2⟩
      have h7_3 := (h7 3 _ rfl).1
      have h7f3 := (h7 3 _ rfl).2
      have h7i3 : HasCell (wr) (w.heap.size + 1 + 1 + 1) 3 := ⟨_, h7_3⟩
      have h7_4 := (h7 4 _ rfl).1
      have h7f4 := (h7 4 _ rfl).2
      have h7i4 : HasCell (wr) (w.heap.size + 1 + 1 + 1) 4 := ⟨_, h7_4⟩
      have h7_5 := (h7 5 _ rfl).1
      have h7f5 := (h7 5 _ rfl).2
      have h7i5 : HasCell (wr) (w.heap.size + 1 + 1 + 1) 5 := ⟨_, h7_5⟩
      have h7b : BlockIn (wr) (w.heap.size + 1 + 1 + 1) := BlockIn.of_cell h7_0
      clear h7
      go_wp2
      refine wp_region_calc c [e, (each1 op e a b).e] 10 [] [8] [] (fun W0 => []) [.agg #[.int .i64 ((each1 op e a b).s).lo, .int .i64 ((each1 op e a b).s).hi]] [10] (by rfl) (by go_simp) (by go_simp) (fun _ _ x hx => absurd hx (List.not_mem_nil)) (by kernel_rfl) (by kernel_rfl) (by kernel_rfl) ?_
      intro pz hd0
      apply Exists.intro
      apply And.intro
      apply lexc_pure hd0 (by kernel_rfl)
      · intro uz xc; unfold opPure; go_simp; rfl
      apply lexc_pure hd0 (by kernel_rfl)
      · intro uz xc; unfold opPure; go_simp; rfl
      apply lexc_pure hd0 (by kernel_rfl)
      · intro uz xc; unfold opPure; go_simp; rfl
      apply lexc_pure hd0 (by kernel_rfl)
      · intro uz xc; unfold opPure; go_simp; rfl
      apply lexc_pure hd0 (by kernel_rfl)
      · intro uz xc; unfold opPure; go_simp; rfl
      apply lexc_pure hd0 (by kernel_rfl)
      · intro uz xc; unfold opPure; go_simp; rfl
      apply lexc_pure hd0 (by kernel_rfl)
      · intro uz xc; unfold opPure; go_simp; rfl
      apply lexc_pure hd0 (by kernel_rfl)
      · intro uz xc; unfold opPure; go_simp; rfl
      apply lexc_call hd0 0 (by kernel_rfl) (by rfl) (by decide)
      · intro uz hfz hF; clear hF; unfold opCall; go_simp; exact HO.out _ _ _ _ ha.x hb.x _ (by go_simp) hfz
      apply lexc_pure hd0 (by kernel_rfl)
      · intro uz xc; unfold opPure; go_simp; rfl
      apply lexc_end
      rotate_left
      · rfl
      intro uz hR hD hfz
      clear hR hD
      refine tail_store (by rfl) ?_; unfold opStore; go_simp
      refine tail_end ?_
      go_wp2
      refine ⟨⟨1, rfl, by omega, (by repeat (first | with_reducible exact Hb.out | with_reducible apply But.alloc | with_reducible apply But.later | with_reducible apply But.drew | with_reducible apply But.put | with_reducible apply But.store)), by go_simp; rfl, by go_simp, boxAt_six (by go_simp) (by go_simp) (by go_simp) (by go_simp) (by go_simp) (by go_simp) (by go_simp) (by go_simp) (by go_simp) (by go_simp) (by go_simp) (by go_simp), boxAt_six (by go_simp) (by go_simp) (by go_simp) (by go_simp) (by go_simp) (by go_simp) (by go_simp) (by go_simp) (by go_simp) (by go_simp) (by go_simp) (by go_simp), boxAt_six (by go_simp) (by go_simp) (by go_simp) (by go_simp) (by go_simp) (by go_simp) (by go_simp) (by go_simp) (by go_simp) (by go_simp) (by go_simp) (by go_simp), ?_⟩, by simp [intOf]⟩
      exact boxAt_six (by go_simp <;> rfl) (by go_simp) (by go_simp <;> rfl) (by go_simp) (by go_simp <;> rfl) (by go_simp) (by go_simp <;> rfl) (by go_simp) (by go_simp <;> rfl) (by go_simp) (by go_simp <;> rfl) (by go_simp)
    · unfold eachErr at h2
      unfold eachCells at h7
      have h7_0 := (h7 0 _ rfl).1
      have h7f0 := (h7 0 _ rfl).2
      have h7i0 : HasCell (wr) (w.heap.size + 1 + 1 + 1) 0 := ⟨_, h7_0⟩
      have h7_1 := (h7 1 _ rfl).1
      have h7f1 := (h7 1 _ rfl).2
      have h7i1 : HasCell (wr) (w.heap.size + 1 + 1 + 1) 1 := ⟨_, h7_1⟩
      have h7_2 := (h7 2 _ rfl).1
      have h7f2 := (h7 2 _ rfl).2
      have h7i2 : HasCell (wr) (w.heap.size + 1 + 1 + 1) 2 := ⟨_, h7_2⟩
      have h7_3 := (h7 3 _ rfl).1
      have h7f3 := (h7 3 _ rfl).2
      have h7i3 : HasCell (wr) (w.heap.size + 1 + 1 + 1) 3 := ⟨_, h7_3⟩
      have h7_4 := (h7 4 _ rfl).1
      have h7f4 := (h7 4 _ rfl).2
      have h7i4 : HasCell (wr) (w.heap.size + 1 + 1 + 1) 4 := ⟨_, h7_4⟩
      have h7_5 := (h7 5 _ rfl).1
      have h7f5 := (h7 5 _ rfl).2
      have h7i5 : HasCell (wr) (w.heap.size + 1 + 1 + 1) 5 := ⟨_, h7_5⟩
      have h7b : BlockIn (wr) (w.heap.size + 1 + 1 + 1) := BlockIn.of_cell h7_0
      clear h7
      go_wp2
      refine wp_region_calc c [(each1 op e a b).e, (each2 op e a b).e] 10 [] [8] [] (fun W0 => []) [.agg #[.int .i64 ((each2 op e a b).s).lo, .int .i64 ((each2 op e a b).s).hi]] [10] (by rfl) (by go_simp) (by go_simp) (fun _ _ x hx => absurd hx (List.not_mem_nil)) (by kernel_rfl) (by kernel_rfl) (by kernel_rfl) ?_
      intro pz hd0
      apply Exists.intro
      apply And.intro
      apply lexc_pure hd0 (by kernel_rfl)
      · intro uz xc; unfold opPure; go_simp; rfl
      apply lexc_pure hd0 (by kernel_rfl)
      · intro uz xc; unfold opPure; go_simp; rfl
      apply lexc_pure hd0 (by kernel_rfl)
      · intro uz xc; unfold opPure; go_simp; rfl
      apply lexc_pure hd0 (by kernel_rfl)
      · intro uz xc; unfold opPure; go_simp; rfl
      apply lexc_pure hd0 (by kernel_rfl)
      · intro uz xc; unfold opPure; go_simp; rfl
      apply lexc_pure hd0 (by kernel_rfl)
      · intro uz xc; unfold opPure; go_simp; rfl
      apply lexc_pure hd0 (by kernel_rfl)
      · intro uz xc; unfold opPure; go_simp; rfl
      apply lexc_pure hd0 (by kernel_rfl)
      · intro uz xc; unfold opPure; go_simp; rfl
      apply lexc_call hd0 0 (by kernel_rfl) (by rfl) (by decide)
      · intro uz hfz hF; clear hF; unfold opCall; go_simp; exact HO.out _ _ _ _ ha.y hb.y _ (by go_simp) hfz
      apply lexc_pure hd0 (by kernel_rfl)
      · intro uz xc; unfold opPure; go_simp; rfl
      apply lexc_end
      rotate_left
      · rfl
      intro uz hR hD hfz
      clear hR hD
      refine tail_store (by rfl) ?_; unfold opStore; go_simp
      refine tail_end ?_
      go_wp2
      refine ⟨⟨2, rfl, by omega, (by repeat (first | with_reducible exact Hb.out | with_reducible apply But.alloc | with_reducible apply But.later | with_reducible apply But.drew | with_reducible apply But.put | with_reducible apply But.store)), by go_simp; rfl, by go_simp, boxAt_six (by go_simp) (by go_simp) (by go_simp) (by go_simp) (by go_simp) (by go_simp) (by go_simp) (by go_simp) (by go_simp) (by go_simp) (by go_simp) (by go_simp), boxAt_six (by go_simp) (by go_simp) (by go_simp) (by go_simp) (by go_simp) (by go_simp) (by go_simp) (by go_simp) (by go_simp) (by go_simp) (by go_simp) (by go_simp), boxAt_six (by go_simp) (by go_simp) (by go_simp) (by go_simp) (by go_simp) (by go_simp) (by go_simp) (by go_simp) (by go_simp) (by go_simp) (by go_simp) (by go_simp), ?_⟩, by simp [intOf]⟩
      exact boxAt_six (by go_simp <;> rfl) (by go_simp) (by go_simp <;> rfl) (by go_simp) (by go_simp <;> rfl) (by go_simp) (by go_simp <;> rfl) (by go_simp) (by go_simp <;> rfl) (by go_simp) (by go_simp <;> rfl) (by go_simp)
    · unfold eachErr at h2
      unfold eachCells at h7
      have h7_0 := (h7 0 _ rfl).1
      have h7f0 := (h7 0 _ rfl).2
      have h7i0 : HasCell (wr) (w.heap.size + 1 + 1 + 1) 0 := ⟨_, h7_0⟩
      have h7_1 := (h7 1 _ rfl).1
      have h7f1 := (h7 1 _ rfl).2
      have h7i1 : HasCell (wr) (w.heap.size + 1 + 1 + 1) 1 := ⟨_, h7_1⟩
      have h7_2 := (h7 2 _ rfl).1
      have h7f2 := (h7 2 _ rfl).2
      have h7i2 : HasCell (wr) (w.heap.size + 1 + 1 + 1) 2 := ⟨_, h7_2⟩
      have h7_3 := (h7 3 _ rfl).1
      have h7f3 := (h7 3 _ rfl).2
      have h7i3 : HasCell (wr) (w.heap.size + 1 + 1 + 1) 3 := ⟨_, h7_3⟩
      have h7_4 := (h7 4 _ rfl).1
      have h7f4 := (h7 4 _ rfl).2
      have h7i4 : HasCell (wr) (w.heap.size + 1 + 1 + 1) 4 := ⟨_, h7_4⟩
      have h7_5 := (h7 5 _ rfl).1
      have h7f5 := (h7 5 _ rfl).2
      have h7i5 : HasCell (wr) (w.heap.size + 1 + 1 + 1) 5 := ⟨_, h7_5⟩
      have h7b : BlockIn (wr) (w.heap.size + 1 + 1 + 1) := BlockIn.of_cell h7_0
      clear h7
      go_wp2
      refine wp_region_calc c [(each2 op e a b).e, (each3 op e a b).e] 10 [] [8] [] (fun W0 => []) [.agg #[.int .i64 ((each3 op e a b).s).lo, .int .i64 ((each3 op e a b).s).hi]] [10] (by rfl) (by go_simp) (by go_simp) (fun _ _ x hx => absurd hx (List.not_mem_nil)) (by kernel_rfl) (by kernel_rfl) (by kernel_rfl) ?_
      intro pz hd0
      apply Exists.intro
      apply And.intro
      apply lexc_pure hd0 (by kernel_rfl)
      · intro uz xc; unfold opPure; go_simp; rfl
      apply lexc_pure hd0 (by kernel_rfl)
      · intro uz xc; unfold opPure; go_simp; rfl
      apply lexc_pure hd0 (by kernel_rfl)
      · intro uz xc; unfold opPure; go_simp; rfl
      apply lexc_pure hd0 (by kernel_rfl)
      · intro uz xc; unfold opPure; go_simp; rfl
      apply lexc_pure hd0 (by kernel_rfl)
      · intro uz xc; unfold opPure; go_simp; rfl
      apply lexc_pure hd0 (by kernel_rfl)
      · intro uz xc; unfold opPure; go_simp; rfl
      apply lexc_pure hd0 (by kernel_rfl)
      · intro uz xc; unfold opPure; go_simp; rfl
      apply lexc_pure hd0 (by kernel_rfl)
      · intro uz xc; unfold opPure; go_simp; rfl
      apply lexc_call hd0 0 (by kernel_rfl) (by rfl) (by decide)
      · intro uz hfz hF; clear hF; unfold opCall; go_simp; exact HO.out _ _ _ _ ha.z hb.z _ (by go_simp) hfz
      apply lexc_pure hd0 (by kernel_rfl)
      · intro uz xc; unfold opPure; go_simp; rfl
      apply lexc_end
      rotate_left
      · rfl
      intro uz hR hD hfz
      clear hR hD
      refine tail_store (by rfl) ?_; unfold opStore; go_simp
      refine tail_end ?_
      go_wp2
      refine ⟨⟨3, rfl, by omega, (by repeat (first | with_reducible exact Hb.out | with_reducible apply But.alloc | with_reducible apply But.later | with_reducible apply But.drew | with_reducible apply But.put | with_reducible apply But.store)), by go_simp; rfl, by go_simp, boxAt_six (by go_simp) (by go_simp) (by go_simp) (by go_simp) (by go_simp) (by go_simp) (by go_simp) (by go_simp) (by go_simp) (by go_simp) (by go_simp) (by go_simp), boxAt_six (by go_simp) (by go_simp) (by go_simp) (by go_simp) (by go_simp) (by go_simp) (by go_simp) (by go_simp) (by go_simp) (by go_simp) (by go_simp) (by go_simp), boxAt_six (by go_simp) (by go_simp) (by go_simp) (by go_simp) (by go_simp) (by go_simp) (by go_simp) (by go_simp) (by go_simp) (by go_simp) (by go_simp) (by go_simp), ?_⟩, by simp [intOf]⟩
      exact boxAt_six (by go_simp <;> rfl) (by go_simp) (by go_simp <;> rfl) (by go_simp) (by go_simp <;> rfl) (by go_simp) (by go_simp <;> rfl) (by go_simp) (by go_simp <;> rfl) (by go_simp) (by go_simp <;> rfl) (by go_simp)
    · unfold eachErr at h2
      unfold eachCells at h7
      have h7_0 := (h7 0 _ rfl).1
      have h7f0 := (h7 0 _ rfl).2
      have h7i0 : HasCell (wr) (w.heap.size + 1 + 1 + 1) 0 := ⟨_, h7_0⟩
      have h7_1 := (h7 1 _ rfl).1
      have h7f1 := (h7 1 _ rfl).2
      have h7i1 : HasCell (wr) (w.heap.size + 1 + 1 + 1) 1 := ⟨_, h7_1⟩
      have h7_2 := (h7 2 _ rfl).1
      have h7f2 := (h7 2 _ rfl).2
      have h7i2 : HasCell (wr) (w.heap.size + 1 + 1 + 1) 2 := ⟨_, h7_2⟩
      have h7_3 := (h7 3 _ rfl).1
      have h7f3 := (h7 3 _ rfl).2
      have h7i3 : HasCell (wr) (w.heap.size + 1 + 1 + 1) 3 := ⟨_, h7_3⟩
      have h7_4 := (h7 4 _ rfl).1
      have h7f4 := (h7 4 _ rfl).2
      have h7i4 : HasCell (wr) (w.heap.size + 1 + 1 + 1) 4 := ⟨_, h7_4⟩
      have h7_5 := (h7 5 _ rfl).1
      have h7f5 := (h7 5 _ rfl).2
      have h7i5 : HasCell (wr) (w.heap.size + 1 + 1 + 1) 5 := ⟨_, h7_5⟩
      have h7b : BlockIn (wr) (w.heap.size + 1 + 1 + 1) := BlockIn.of_cell h7_0
      clear h7
      go_wp2
      refine bodyPost_ret (by (simp [results, Tryz.results130, go_sem] <;> rfl)) rfl ?_
      exact ⟨rfl, But.out (by repeat (first | with_reducible exact Hb.out | with_reducible apply But.alloc | with_reducible apply But.later | with_reducible apply But.drew | with_reducible apply But.put | with_reducible apply But.store)) Hc.out (by go_simp; rfl)⟩
theorem cByM_any (g : Nat) (op : Sp → Sp → Res) (eg : ∀ args w, (callFunc g args).run Tryz.prog w = .ok (.enter g args) w) (hop : OpM g op) (c : Nat) (e : Int) (a : Sp) (b : Bx) [ha : S64 a] [hb : B64 b] (w : World) (hc : w.cell? ⟨c, 0, none⟩ = some (.int .i64 e)) (hf : w.frozen? ⟨c, 0, none⟩ = false) :
    Calls Tryz.prog 134 #[.pointer (some ⟨c, 0, none⟩), .func (.func g) #[.pointer (some ⟨c, 0, none⟩)] #[], .agg #[.int .i64 a.lo, .int .i64 a.hi], .agg #[.int .i64 b.x.lo, .int .i64 b.x.hi, .int .i64 b.y.lo, .int .i64 b.y.hi, .int .i64 b.z.lo, .int .i64 b.z.hi]] w (RetC c (.agg #[.int .i64 ((eachR op e (ones a) b).b).x.lo, .int .i64 ((eachR op e (ones a) b).b).x.hi, .int .i64 ((eachR op e (ones a) b).b).y.lo, .int .i64 ((eachR op e (ones a) b).b).y.hi, .int .i64 ((eachR op e (ones a) b).b).z.lo, .int .i64 ((eachR op e (ones a) b).b).z.hi]) (eachR op e (ones a) b).e w) := by
  have ib : BlockIn w c := BlockIn.of_cell hc
  have hci : HasCell w c 0 := ⟨_, hc⟩
  have Hb := Lib.hid (But.refl hc)
  have Hc := Lib.hid hc
  have i3 : B64 (ones a) := ⟨ha, ha, ha⟩
  have HE := Lib.hid (fun w' hc hf => show Calls Tryz.prog 130 #[.pointer (some ⟨c, 0, none⟩), .func (.func g) #[.pointer (some ⟨c, 0, none⟩)] #[], .agg #[.int .i64 a.lo, .int .i64 a.hi, .int .i64 a.lo, .int .i64 a.hi, .int .i64 a.lo, .int .i64 a.hi], .agg #[.int .i64 b.x.lo, .int .i64 b.x.hi, .int .i64 b.y.lo, .int .i64 b.y.hi, .int .i64 b.z.lo, .int .i64 b.z.hi]] w' (RetC c (.agg #[.int .i64 ((eachR op e (ones a) b).b).x.lo, .int .i64 ((eachR op e (ones a) b).b).x.hi, .int .i64 ((eachR op e (ones a) b).b).y.lo, .int .i64 ((eachR op e (ones a) b).b).y.hi, .int .i64 ((eachR op e (ones a) b).b).z.lo, .int .i64 ((eachR op e (ones a) b).b).z.hi]) (eachR op e (ones a) b).e w') from cEachM_any g op eg hop c e (ones a) b w' hc hf)
  clear hop
  generalize eachR op e (ones a) b = R at *
  go_enter Tryz.func134, Tryz.ntmps134
  go_wp2_with (go_at_call 130; (with_reducible refine call_calc (HE.out _ ?_ ?_) ?_); (· go_simp); (· go_simp); intro u)
  refine bodyPost_ret (by (simp [results, Tryz.results134, go_sem] <;> rfl)) rfl ?_
  exact ⟨rfl, But.out (by repeat (first | with_reducible exact Hb.out | with_reducible apply But.alloc | with_reducible apply But.later | with_reducible apply But.drew | with_reducible apply But.put | with_reducible apply But.store)) Hc.out (by go_simp)⟩
end Go.Proofs.YtnedbhdokljpcaaGreat
