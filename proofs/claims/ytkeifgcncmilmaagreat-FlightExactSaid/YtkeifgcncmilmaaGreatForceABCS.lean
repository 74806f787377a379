/-
  Contracts of flight: operations of a calculation on whole boxes, as method values; zero, place, speed, whole.
  Contracts: the factors of an oblate planet's attraction (ullageref03), a planet's attraction (flight).
  Contract: a planet's attraction (flight).
-/
import Derived.Test.YtkeifgcncmilmaaGreatLookCS
import Derived.Test.YtkeifgcncmilmaaGreatForceLawS
namespace Go.Proofs.YtkeifgcncmilmaaGreat
open Go.RowKit Go.Shelf
set_option maxRecDepth 100000
set_option maxHeartbeats 8000000
theorem bin_add : BinOk 41 addR := fun w a b _ _ => spAdd_any a b w
theorem cAdd_any (c : Nat) (e : Int) (a b : Sp) [ha : S64 a] [hb : S64 b] (w : World) (hc : w.cell? ⟨c, 0, none⟩ = some (.int .i64 e)) (hf : w.frozen? ⟨c, 0, none⟩ = false) :
    Calls Tryz.prog 116 #[.pointer (some ⟨c, 0, none⟩), .agg #[.int .i64 a.lo, .int .i64 a.hi], .agg #[.int .i64 b.lo, .int .i64 b.hi]] w (RetC c (.agg #[.int .i64 ((doR e (addR a b)).s).lo, .int .i64 ((doR e (addR a b)).s).hi]) (doR e (addR a b)).e w) := by
  have ib : BlockIn w c := BlockIn.of_cell hc
  have hci : HasCell w c 0 := ⟨_, hc⟩
  have Hb := Lib.hid (But.refl hc)
  have Hc := Lib.hid hc
  go_enter Tryz.func116, Tryz.ntmps116
  go_wp2_with (go_at_call 143; refine call_calc (cDo_any 41 addR (enters_of Tryz.func41 (by kernel_rfl) rfl) bin_add c e a b _ (by go_simp) (by go_simp)) ?_; intro u)
  refine bodyPost_ret (by (simp [results, Tryz.results116, go_sem] <;> rfl)) rfl ?_
  exact ⟨rfl, But.out (by repeat (first | with_reducible exact Hb.out | with_reducible apply But.alloc | with_reducible apply But.later | with_reducible apply But.drew | with_reducible apply But.put | with_reducible apply But.store)) Hc.out (by go_simp)⟩
theorem cScale_any (c : Nat) (e : Int) (a : Sp) (n : Int) [ha : S64 a] [hn : N64 n] (w : World) (hc : w.cell? ⟨c, 0, none⟩ = some (.int .i64 e)) (hf : w.frozen? ⟨c, 0, none⟩ = false) :
    Calls Tryz.prog 174 #[.pointer (some ⟨c, 0, none⟩), .agg #[.int .i64 a.lo, .int .i64 a.hi], .int .i64 n] w (RetC c (.agg #[.int .i64 ((doR e (scaleR a n)).s).lo, .int .i64 ((doR e (scaleR a n)).s).hi]) (doR e (scaleR a n)).e w) := by
  have ib : BlockIn w c := BlockIn.of_cell hc
  have hci : HasCell w c 0 := ⟨_, hc⟩
  have Hb := Lib.hid (But.refl hc)
  have Hc := Lib.hid hc
  go_enter Tryz.func174, Tryz.ntmps174
  go_wp2_with (first | (go_at_call 203; (with_reducible refine call_later (spScale_any a n _) ?_); intro u) | (go_at_call 144; refine call_calc (cKeep_any c e (scaleR a n) _ (by go_simp) (by go_simp)) ?_; intro u))
  refine bodyPost_ret (by (simp [results, Tryz.results174, go_sem] <;> rfl)) rfl ?_
  exact ⟨rfl, But.out (by repeat (first | with_reducible exact Hb.out | with_reducible apply But.alloc | with_reducible apply But.later | with_reducible apply But.drew | with_reducible apply But.put | with_reducible apply But.store)) Hc.out (by go_simp)⟩
theorem flWhole_one (w : World) : Calls Tryz.prog 123 #[.int .i64 1] w fun e w' => e = .returned (.agg #[.int .i64 (wholeS 1).lo, .int .i64 (wholeS 1).hi]) ∧ Grew w w' := by
  go_enter Tryz.func123, Tryz.ntmps123
  go_wp2_with (first | (go_at_call 117; (with_reducible refine call_later (flPoint_any _ _) ?_); intro u))
  refine bodyPost_ret (by (simp [results, Tryz.results123, go_sem] <;> rfl)) rfl ?_
  exact ⟨rfl, gw⟩
theorem flWhole_three (w : World) : Calls Tryz.prog 123 #[.int .i64 3] w fun e w' => e = .returned (.agg #[.int .i64 (wholeS 3).lo, .int .i64 (wholeS 3).hi]) ∧ Grew w w' := by
  go_enter Tryz.func123, Tryz.ntmps123
  go_wp2_with (first | (go_at_call 117; (with_reducible refine call_later (flPoint_any _ _) ?_); intro u))
  refine bodyPost_ret (by (simp [results, Tryz.results123, go_sem] <;> rfl)) rfl ?_
  exact ⟨rfl, gw⟩
theorem flZero_any (a : Sp) (w : World) : Calls Tryz.prog 170 #[.agg #[.int .i64 a.lo, .int .i64 a.hi]] w fun e w' => e = .returned (.bool (zeroB a)) ∧ Grew w w' := by
  unfold zeroB
  go_enter Tryz.func170, Tryz.ntmps170
  go_wp2
  all_goals
    go_ret
    exact ⟨by congr 1; simp [*], gw⟩
@[go_sem] theorem arrayAt_box (a : Addr) (cap : Nat) (w : World) : (Instr.arrayAt 26 (.slice (some a) 3 cap)).run Tryz.prog w = .ok (.pointer (some a)) w := by
  simp [Instr.arrayAt]
theorem flPlace_any (p v : Bx) (w : World) : Calls Tryz.prog 124 #[.agg #[.int .i64 p.x.lo, .int .i64 p.x.hi, .int .i64 p.y.lo, .int .i64 p.y.hi, .int .i64 p.z.lo, .int .i64 p.z.hi, .int .i64 v.x.lo, .int .i64 v.x.hi, .int .i64 v.y.lo, .int .i64 v.y.hi, .int .i64 v.z.lo, .int .i64 v.z.hi]] w fun e w' => e = .returned (.agg #[.int .i64 p.x.lo, .int .i64 p.x.hi, .int .i64 p.y.lo, .int .i64 p.y.hi, .int .i64 p.z.lo, .int .i64 p.z.hi]) ∧ Grew w w' := by
  go_enter Tryz.func124, Tryz.ntmps124
  go_wp2
  refine bodyPost_ret (by (simp [results, Tryz.results124, go_sem] <;> rfl)) rfl ?_
  exact ⟨rfl, gw⟩
theorem flSpeedOf_any (p v : Bx) (w : World) : Calls Tryz.prog 125 #[.agg #[.int .i64 p.x.lo, .int .i64 p.x.hi, .int .i64 p.y.lo, .int .i64 p.y.hi, .int .i64 p.z.lo, .int .i64 p.z.hi, .int .i64 v.x.lo, .int .i64 v.x.hi, .int .i64 v.y.lo, .int .i64 v.y.hi, .int .i64 v.z.lo, .int .i64 v.z.hi]] w fun e w' => e = .returned (.agg #[.int .i64 v.x.lo, .int .i64 v.x.hi, .int .i64 v.y.lo, .int .i64 v.y.hi, .int .i64 v.z.lo, .int .i64 v.z.hi]) ∧ Grew w w' := by
  go_enter Tryz.func125, Tryz.ntmps125
  go_wp2
  refine bodyPost_ret (by (simp [results, Tryz.results125, go_sem] <;> rfl)) rfl ?_
  exact ⟨rfl, gw⟩
/-- What is asked of a method of a calculation. -/
def OpM (g : Nat) (op : Sp → Sp → Res) : Prop :=
  ∀ (c : Nat) (e : Int) (a b : Sp), S64 a → S64 b → ∀ (w : World), w.cell? ⟨c, 0, none⟩ = some (.int .i64 e) → w.frozen? ⟨c, 0, none⟩ = false →
    Calls Tryz.prog g #[.pointer (some ⟨c, 0, none⟩), .agg #[.int .i64 a.lo, .int .i64 a.hi], .agg #[.int .i64 b.lo, .int .i64 b.hi]] w (RetC c (.agg #[.int .i64 ((doR e (op a b)).s).lo, .int .i64 ((doR e (op a b)).s).hi]) (doR e (op a b)).e w)
theorem opm_add : OpM 116 addR := fun c e a b _ _ w hc hf => cAdd_any c e a b w hc hf
theorem opm_sub : OpM 86 subR := fun c e a b _ _ w hc hf => cSub_any c e a b w hc hf
theorem opm_mul : OpM 118 mulR := fun c e a b _ _ w hc hf => cMul_any c e a b w hc hf
theorem opm_div : OpM 122 divR := fun c e a b _ _ w hc hf => cDiv_any c e a b w hc hf
theorem cEachM_any (g : Nat) (op : Sp → Sp → Res) (eg : ∀ args w, (callFunc g args).run Tryz.prog w = .ok (.enter g args) w) (hop : OpM g op) (c : Nat) (e : Int) (a b : Bx) [ha : B64 a] [hb : B64 b] (w : World) (hc : w.cell? ⟨c, 0, none⟩ = some (.int .i64 e)) (hf : w.frozen? ⟨c, 0, none⟩ = false) :
    Calls Tryz.prog 171 #[.pointer (some ⟨c, 0, none⟩), .func (.func g) #[.pointer (some ⟨c, 0, none⟩)] #[], .agg #[.int .i64 a.x.lo, .int .i64 a.x.hi, .int .i64 a.y.lo, .int .i64 a.y.hi, .int .i64 a.z.lo, .int .i64 a.z.hi], .agg #[.int .i64 b.x.lo, .int .i64 b.x.hi, .int .i64 b.y.lo, .int .i64 b.y.hi, .int .i64 b.z.lo, .int .i64 b.z.hi]] w (RetC c (.agg #[.int .i64 ((eachR op e a b).b).x.lo, .int .i64 ((eachR op e a b).b).x.hi, .int .i64 ((eachR op e a b).b).y.lo, .int .i64 ((eachR op e a b).b).y.hi, .int .i64 ((eachR op e a b).b).z.lo, .int .i64 ((eachR op e a b).b).z.hi]) (eachR op e a b).e w) := by
  have ib : BlockIn w c := BlockIn.of_cell hc
  have hci : HasCell w c 0 := ⟨_, hc⟩
  have Hb := Lib.hid (But.refl hc)
  have Hc := Lib.hid hc
  have HO := Lib.hid hop
  clear hop
  go_enter Tryz.func171, Tryz.ntmps171
  go_wp2
  go_loopw [11] (fun t wr => ∃ k : Nat, t = .int .i64 k ∧ k ≤ 3 ∧ EachAt op e a b c (w.heap.size + 1 + 1 + 1) w k wr) (fun t _ => 3 - (intOf t).toNat)
  case atStart => exact ⟨0, rfl, by omega, (by repeat (first | with_reducible exact Hb.out | with_reducible apply But.alloc | with_reducible apply But.later | with_reducible apply But.drew | with_reducible apply But.put | with_reducible apply But.store)), by go_simp; rfl, by go_simp, boxAt_six (by go_simp) (by go_simp) (by go_simp) (by go_simp) (by go_simp) (by go_simp) (by go_simp) (by go_simp) (by go_simp) (by go_simp) (by go_simp) (by go_simp), boxAt_six (by go_simp) (by go_simp) (by go_simp) (by go_simp) (by go_simp) (by go_simp) (by go_simp) (by go_simp) (by go_simp) (by go_simp) (by go_simp) (by go_simp), boxAt_six (by go_simp) (by go_simp) (by go_simp) (by go_simp) (by go_simp) (by go_simp) (by go_simp) (by go_simp) (by go_simp) (by go_simp) (by go_simp) (by go_simp), boxAt_six (by go_simp) (by go_simp) (by go_simp) (by go_simp) (by go_simp) (by go_simp) (by go_simp) (by go_simp) (by go_simp) (by go_simp) (by go_simp) (by go_simp)⟩
  case round =>
    obtain ⟨k, rfl, hk, hE⟩ := hrel
    obtain ⟨h1, h2, h3, h4, h5, h6, h7⟩ := hE

    have Hb := Lib.hid h1
    have ibw : BlockIn wr c := BlockIn.of_cell h2
    have hcw : HasCell wr c 0 := ⟨_, h2⟩
    have hlt := ib.lt
    have : Apart (c) (w.heap.size) := ⟨by omega⟩
    have : Apart (c) (w.heap.size + 1) := ⟨by omega⟩
    have : Apart (c) (w.heap.size + 1 + 1) := ⟨by omega⟩
    have : Apart (c) (w.heap.size + 1 + 1 + 1) := ⟨by omega⟩
    have : Apart (w.heap.size) (c) := ⟨by omega⟩
    have : Apart (w.heap.size + 1) (c) := ⟨by omega⟩
    have : Apart (w.heap.size + 1 + 1) (c) := ⟨by omega⟩
    have : Apart (w.heap.size + 1 + 1 + 1) (c) := ⟨by omega⟩
    clear h1 hc hf hci
    have h4_0 := (h4 0 _ rfl).1
    have h4f0 := (h4 0 _ rfl).2
    have h4i0 : HasCell (wr) (w.heap.size) 0 := ⟨_, h4_0⟩
    have h4_1 := (h4 1 _ rfl).1
    have h4f1 := (h4 1 _ rfl).2
    have h4i1 : HasCell (wr) (w.heap.size) 1 := ⟨_, h4_1⟩
    have h4_2 := (h4 2 _ rfl).1
    have h4f2 := (h4 2 _ rfl).2
    have h4i2 : HasCell (wr) (w.heap.size) 2 := ⟨_, h4_2⟩
    have h4_3 := (h4 3 _ rfl).1
    have h4f3 := (h4 3 _ rfl).2
    have h4i3 : HasCell (wr) (w.heap.size) 3 := ⟨_, h4_3⟩
    have h4_4 := (h4 4 _ rfl).1
    have h4f4 := (h4 4 _ rfl).2
    have h4i4 : HasCell (wr) (w.heap.size) 4 := ⟨_, h4_4⟩
    have h4_5 := (h4 5 _ rfl).1
    have h4f5 := (h4 5 _ rfl).2
    have h4i5 : HasCell (wr) (w.heap.size) 5 := ⟨_, h4_5⟩
    have h4b : BlockIn (wr) (w.heap.size) := BlockIn.of_cell h4_0
    clear h4
    have h5_0 := (h5 0 _ rfl).1
    have h5f0 := (h5 0 _ rfl).2
    have h5i0 : HasCell (wr) (w.heap.size + 1) 0 := ⟨_, h5_0⟩
    have h5_1 := (h5 1 _ rfl).1
    have h5f1 := (h5 1 _ rfl).2
    have h5i1 : HasCell (wr) (w.heap.size + 1) 1 := ⟨_, h5_1⟩
    have h5_2 := (h5 2 _ rfl).1
    have h5f2 := (h5 2 _ rfl).2
    have h5i2 : HasCell (wr) (w.heap.size + 1) 2 := ⟨_, h5_2⟩
    have h5_3 := (h5 3 _ rfl).1
    have h5f3 := (h5 3 _ rfl).2
    have h5i3 : HasCell (wr) (w.heap.size + 1) 3 := ⟨_, h5_3⟩
    have h5_4 := (h5 4 _ rfl).1
    have h5f4 := (h5 4 _ rfl).2
    have h5i4 : HasCell (wr) (w.heap.size + 1) 4 := ⟨_, h5_4⟩
    have h5_5 := (h5 5 _ rfl).1
    have h5f5 := (h5 5 _ rfl).2
    have h5i5 : HasCell (wr) (w.heap.size + 1) 5 := ⟨_, h5_5⟩
    have h5b : BlockIn (wr) (w.heap.size + 1) := BlockIn.of_cell h5_0
    clear h5
    have h6_0 := (h6 0 _ rfl).1
    have h6f0 := (h6 0 _ rfl).2
    have h6i0 : HasCell (wr) (w.heap.size + 1 + 1) 0 := ⟨_, h6_0⟩
    have h6_1 := (h6 1 _ rfl).1
    have h6f1 := (h6 1 _ rfl).2
    have h6i1 : HasCell (wr) (w.heap.size + 1 + 1) 1 := ⟨_, h6_1⟩
    have h6_2 := (h6 2 _ rfl).1
    have h6f2 := (h6 2 _ rfl).2
    have h6i2 : HasCell (wr) (w.heap.size + 1 + 1) 2 := ⟨_, h6_2⟩
    have h6_3 := (h6 3 _ rfl).1
    have h6f3 := (h6 3 _ rfl).2
    have h6i3 : HasCell (wr) (w.heap.size + 1 + 1) 3 := ⟨_, h6_3⟩
    have h6_4 := (h6 4 _ rfl).1
    have h6f4 := (h6 4 _ rfl).2
    have h6i4 : HasCell (wr) (w.heap.size + 1 + 1) 4 := ⟨_, h6_4⟩
    have h6_5 := (h6 5 _ rfl).1
    have h6f5 := (h6 5 _ rfl).2
    have h6i5 : HasCell (wr) (w.heap.size + 1 + 1) 5 := ⟨_, h6_5⟩
    have h6b : BlockIn (wr) (w.heap.size + 1 + 1) := BlockIn.of_cell h6_0
    clear h6
    rcases (show k = 0 ∨ k = 1 ∨ k = 2 ∨ k = 3 by omega) with rfl | rfl | rfl | rfl
    · unfold eachErr at h2
      unfold eachCells at h7
      have h7_0 := (h7 0 _ rfl).1
      have h7f0 := (h7 0 _ rfl).2
      have h7i0 : HasCell (wr) (w.heap.size + 1 + 1 + 1) 0 := ⟨_, h7_0⟩
      have h7_1 := (h7 1 _ rfl).1
      have h7f1 := (h7 1 _ rfl).2
      have h7i1 : HasCell (wr) (w.heap.size + 1 + 1 + 1) 1 := ⟨_, h7_1⟩
      have h7_2 := (h7 2 _ rfl).1
      have h7f2 := (h7 2 _ rfl).2
      have h7i2 : HasCell (wr) (w.heap.size + 1 + 1 + 1) 2 := ⟨_, h7_2⟩
      have h7_3 := (h7 3 _ rfl).1
      have h7f3 := (h7 3 _ rfl).2
      have h7i3 : HasCell (wr) (w.heap.size + 1 + 1 + 1) 3 := ⟨_, h7_3⟩
      have h7_4 := (h7 4 _ rfl).1
      have h7f4 := (h7 4 _ rfl).2
      have h7i4 : HasCell (wr) (w.heap.size + 1 + 1 + 1) 4 := ⟨_, h7_4⟩
      have h7_5 := (h7 5 _ rfl).1
      have h7f5 := (h7 5 _ rfl).2
      have h7i5 : HasCell (wr) (w.heap.size + 1 + 1 + 1) 5 := ⟨_, h7_5⟩
      have h7b : BlockIn (wr) (w.heap.size + 1 + 1 + 1) := BlockIn.of_cell h7_0
      clear h7
      go_wp2
      refine wp_region_calc c [e, (each1 op e a b).e] 10 [] [8] [] (fun W0 => []) [.agg #[.int .i64 ((each1 op e a b).s).lo, .int .i64 ((each1 op e a b).s).hi]] [10] (by rfl) (by go_simp) (by go_simp) (fun _ _ x hx => absurd hx (List.not_mem_nil)) (by kernel_rfl) (by kernel_rfl) (by kernel_rfl) ?_
      intro pz hd0
      apply Exists.intro
      apply And.intro
      iterate 8 (apply lexc_pure hd0 (by kernel_rfl); (· intro uz xc; unfold opPure; go_simp; rfl))
      apply lexc_call hd0 0 (by kernel_rfl) (by rfl) (by decide)
      · intro uz hfz hF; clear hF; unfold opCall; go_simp; exact HO.out _ _ _ _ ha.x hb.x _ (by go_simp) hfz
      apply lexc_pure hd0 (by kernel_rfl)
      · intro uz xc; unfold opPure; go_simp; rfl
      apply lexc_end
      rotate_left
      · rfl
      intro uz hR hD hfz
      clear hR hD
      refine tail_store (by rfl) ?_; unfold opStore; go_simp
      refine tail_end ?_
      go_wp2
      refine ⟨⟨1, rfl, by omega, (by repeat (first | with_reducible exact Hb.out | with_reducible apply But.alloc | with_reducible apply But.later | with_reducible apply But.drew | with_reducible apply But.put | with_reducible apply But.store)), by go_simp; rfl, by go_simp, boxAt_six (by go_simp) (by go_simp) (by go_simp) (by go_simp) (by go_simp) (by go_simp) (by go_simp) (by go_simp) (by go_simp) (by go_simp) (by go_simp) (by go_simp), boxAt_six (by go_simp) (by go_simp) (by go_simp) (by go_simp) (by go_simp) (by go_simp) (by go_simp) (by go_simp) (by go_simp) (by go_simp) (by go_simp) (by go_simp), boxAt_six (by go_simp) (by go_simp) (by go_simp) (by go_simp) (by go_simp) (by go_simp) (by go_simp) (by go_simp) (by go_simp) (by go_simp) (by go_simp) (by go_simp), ?_⟩, by simp [intOf]⟩
      exact boxAt_six (by go_simp <;> rfl) (by go_simp) (by go_simp <;> rfl) (by go_simp) (by go_simp <;> rfl) (by go_simp) (by go_simp <;> rfl) (by go_simp) (by go_simp <;> rfl) (by go_simp) (by go_simp <;> rfl) (by go_simp)
    · unfold eachErr at h2
      unfold eachCells at h7
      have h7_0 := (h7 0 _ rfl).1
      have h7f0 := (h7 0 _ rfl).2
      have h7i0 : HasCell (wr) (w.heap.size + 1 + 1 + 1) 0 := ⟨_, h7_0⟩
      have h7_1 := (h7 1 _ rfl).1
      have h7f1 := (h7 1 _ rfl).2
      have h7i1 : HasCell (wr) (w.heap.size + 1 + 1 + 1) 1 := ⟨_, h7_1⟩
      have h7_2 := (h7 2 _ rfl).1
      have h7f2 := (h7 2 _ rfl).2
      have h7i2 : HasCell (wr) (w.heap.size + 1 + 1 + 1) 2 := ⟨_, h7_2⟩
      have h7_3 := (h7 3 _ rfl).1
      have h7f3 := (h7 3 _ rfl).2
      have h7i3 : HasCell (wr) (w.heap.size + 1 + 1 + 1) 3 := ⟨_, h7_3⟩
      have h7_4 := (h7 4 _ rfl).1
      have h7f4 := (h7 4 _ rfl).2
      have h7i4 : HasCell (wr) (w.heap.size + 1 + 1 + 1) 4 := ⟨_, h7_4⟩
      have h7_5 := (h7 5 _ rfl).1
      have h7f5 := (h7 5 _ rfl).2
      have h7i5 : HasCell (wr) (w.heap.size + 1 + 1 + 1) 5 := ⟨_, h7_5⟩
      have h7b : BlockIn (wr) (w.heap.size + 1 + 1 + 1) := BlockIn.of_cell h7_0
      clear h7
      go_wp2
      refine wp_region_calc c [(each1 op e a b).e, (each2 op e a b).e] 10 [] [8] [] (fun W0 => []) [.agg #[.int .i64 ((each2 op e a b).s).lo, .int .i64 ((each2 op e a b).s).hi]] [10] (by rfl) (by go_simp) (by go_simp) (fun _ _ x hx => absurd hx (List.not_mem_nil)) (by kernel_rfl) (by kernel_rfl) (by kernel_rfl) ?_
      intro pz hd0
      apply Exists.intro
      apply And.intro
      iterate 8 (apply lexc_pure hd0 (by kernel_rfl); (· intro uz xc; unfold opPure; go_simp; rfl))
      apply lexc_call hd0 0 (by kernel_rfl) (by rfl) (by decide)
      · intro uz hfz hF; clear hF; unfold opCall; go_simp; exact HO.out _ _ _ _ ha.y hb.y _ (by go_simp) hfz
      apply lexc_pure hd0 (by kernel_rfl)
      · intro uz xc; unfold opPure; go_simp; rfl
      apply lexc_end
      rotate_left
      · rfl
      intro uz hR hD hfz
      clear hR hD
      refine tail_store (by rfl) ?_; unfold opStore; go_simp
      refine tail_end ?_
      go_wp2
      refine ⟨⟨2, rfl, by omega, (by repeat (first | with_reducible exact Hb.out | with_reducible apply But.alloc | with_reducible apply But.later | with_reducible apply But.drew | with_reducible apply But.put | with_reducible apply But.store)), by go_simp; rfl, by go_simp, boxAt_six (by go_simp) (by go_simp) (by go_simp) (by go_simp) (by go_simp) (by go_simp) (by go_simp) (by go_simp) (by go_simp) (by go_simp) (by go_simp) (by go_simp), boxAt_six (by go_simp) (by go_simp) (by go_simp) (by go_simp) (by go_simp) (by go_simp) (by go_simp) (by go_simp) (by go_simp) (by go_simp) (by go_simp) (by go_simp), boxAt_six (by go_simp) (by go_simp) (by go_simp) (by go_simp) (by go_simp) (by go_simp) (by go_simp) (by go_simp) (by go_simp) (by go_simp) (by go_simp) (by go_simp), ?_⟩, by simp [intOf]⟩
      exact boxAt_six (by go_simp <;> rfl) (by go_simp) (by go_simp <;> rfl) (by go_simp) (by go_simp <;> rfl) (by go_simp) (by go_simp <;> rfl) (by go_simp) (by go_simp <;> rfl) (by go_simp) (by go_simp <;> rfl) (by go_simp)
    · unfold eachErr at h2
      unfold eachCells at h7
      have h7_0 := (h7 0 _ rfl).1
      have h7f0 := (h7 0 _ rfl).2
      have h7i0 : HasCell (wr) (w.heap.size + 1 + 1 + 1) 0 := ⟨_, h7_0⟩
      have h7_1 := (h7 1 _ rfl).1
      have h7f1 := (h7 1 _ rfl).2
      have h7i1 : HasCell (wr) (w.heap.size + 1 + 1 + 1) 1 := ⟨_, h7_1⟩
      have h7_2 := (h7 2 _ rfl).1
      have h7f2 := (h7 2 _ rfl).2
      have h7i2 : HasCell (wr) (w.heap.size + 1 + 1 + 1) 2 := ⟨_, h7_2⟩
      have h7_3 := (h7 3 _ rfl).1
      have h7f3 := (h7 3 _ rfl).2
      have h7i3 : HasCell (wr) (w.heap.size + 1 + 1 + 1) 3 := ⟨_, h7_3⟩
      have h7_4 := (h7 4 _ rfl).1
      have h7f4 := (h7 4 _ rfl).2
      have h7i4 : HasCell (wr) (w.heap.size + 1 + 1 + 1) 4 := ⟨_, h7_4⟩
      have h7_5 := (h7 5 _ rfl).1
      have h7f5 := (h7 5 _ rfl).2
      have h7i5 : HasCell (wr) (w.heap.size + 1 + 1 + 1) 5 := ⟨_, h7_5⟩
      have h7b : BlockIn (wr) (w.heap.size + 1 + 1 + 1) := BlockIn.of_cell h7_0
      clear h7
      go_wp2
      refine wp_region_calc c [(each2 op e a b).e, (each3 op e a b).e] 10 [] [8] [] (fun W0 => []) [.agg #[.int .i64 ((each3 op e a b).s).lo, .int .i64 ((each3 op e a b).s).hi]] [10] (by rfl) (by go_simp) (by go_simp) (fun _ _ x hx => absurd hx (List.not_mem_nil)) (by kernel_rfl) (by kernel_rfl) (by kernel_rfl) ?_
      intro pz hd0
      apply Exists.intro
      apply And.intro
      iterate 8 (apply lexc_pure hd0 (by kernel_rfl); (· intro uz xc; unfold opPure; go_simp; rfl))
      apply lexc_call hd0 0 (by kernel_rfl) (by rfl) (by decide)
      · intro uz hfz hF; clear hF; unfold opCall; go_simp; exact HO.out _ _ _ _ ha.z hb.z _ (by go_simp) hfz
      apply lexc_pure hd0 (by kernel_rfl)
      · intro uz xc; unfold opPure; go_simp; rfl
      apply lexc_end
      rotate_left
      · rfl
      intro uz hR hD hfz
      clear hR hD
      refine tail_store (by rfl) ?_; unfold opStore; go_simp
      refine tail_end ?_
      go_wp2
      refine ⟨⟨3, rfl, by omega, (by repeat (first | with_reducible exact Hb.out | with_reducible apply But.alloc | with_reducible apply But.later | with_reducible apply But.drew | with_reducible apply But.put | with_reducible apply But.store)), by go_simp; rfl, by go_simp, boxAt_six (by go_simp) (by go_simp) (by go_simp) (by go_simp) (by go_simp) (by go_simp) (by go_simp) (by go_simp) (by go_simp) (by go_simp) (by go_simp) (by go_simp), boxAt_six (by go_simp) (by go_simp) (by go_simp) (by go_simp) (by go_simp) (by go_simp) (by go_simp) (by go_simp) (by go_simp) (by go_simp) (by go_simp) (by go_simp), boxAt_six (by go_simp) (by go_simp) (by go_simp) (by go_simp) (by go_simp) (by go_simp) (by go_simp) (by go_simp) (by go_simp) (by go_simp) (by go_simp) (by go_simp), ?_⟩, by simp [intOf]⟩
      exact boxAt_six (by go_simp <;> rfl) (by go_simp) (by go_simp <;> rfl) (by go_simp) (by go_simp <;> rfl) (by go_simp) (by go_simp <;> rfl) (by go_simp) (by go_simp <;> rfl) (by go_simp) (by go_simp <;> rfl) (by go_simp)
    · unfold eachErr at h2
      unfold eachCells at h7
      have h7_0 := (h7 0 _ rfl).1
      have h7f0 := (h7 0 _ rfl).2
      have h7i0 : HasCell (wr) (w.heap.size + 1 + 1 + 1) 0 := ⟨_, h7_0⟩
      have h7_1 := (h7 1 _ rfl).1
      have h7f1 := (h7 1 _ rfl).2
      have h7i1 : HasCell (wr) (w.heap.size + 1 + 1 + 1) 1 := ⟨_, h7_1⟩
      have h7_2 := (h7 2 _ rfl).1
      have h7f2 := (h7 2 _ rfl).2
      have h7i2 : HasCell (wr) (w.heap.size + 1 + 1 + 1) 2 := ⟨_, h7_2⟩
      have h7_3 := (h7 3 _ rfl).1
      have h7f3 := (h7 3 _ rfl).2
      have h7i3 : HasCell (wr) (w.heap.size + 1 + 1 + 1) 3 := ⟨_, h7_3⟩
      have h7_4 := (h7 4 _ rfl).1
      have h7f4 := (h7 4 _ rfl).2
      have h7i4 : HasCell (wr) (w.heap.size + 1 + 1 + 1) 4 := ⟨_, h7_4⟩
      have h7_5 := (h7 5 _ rfl).1
      have h7f5 := (h7 5 _ rfl).2
      have h7i5 : HasCell (wr) (w.heap.size + 1 + 1 + 1) 5 := ⟨_, h7_5⟩
      have h7b : BlockIn (wr) (w.heap.size + 1 + 1 + 1) := BlockIn.of_cell h7_0
      clear h7
      go_wp2
      refine bodyPost_ret (by (simp [results, Tryz.results171, go_sem] <;> rfl)) rfl ?_
      exact ⟨rfl, But.out (by repeat (first | with_reducible exact Hb.out | with_reducible apply But.alloc | with_reducible apply But.later | with_reducible apply But.drew | with_reducible apply But.put | with_reducible apply But.store)) Hc.out (by go_simp; rfl)⟩
theorem cByM_any (g : Nat) (op : Sp → Sp → Res) (eg : ∀ args w, (callFunc g args).run Tryz.prog w = .ok (.enter g args) w) (hop : OpM g op) (c : Nat) (e : Int) (a : Sp) (b : Bx) [ha : S64 a] [hb : B64 b] (w : World) (hc : w.cell? ⟨c, 0, none⟩ = some (.int .i64 e)) (hf : w.frozen? ⟨c, 0, none⟩ = false) :
    Calls Tryz.prog 175 #[.pointer (some ⟨c, 0, none⟩), .func (.func g) #[.pointer (some ⟨c, 0, none⟩)] #[], .agg #[.int .i64 a.lo, .int .i64 a.hi], .agg #[.int .i64 b.x.lo, .int .i64 b.x.hi, .int .i64 b.y.lo, .int .i64 b.y.hi, .int .i64 b.z.lo, .int .i64 b.z.hi]] w (RetC c (.agg #[.int .i64 ((eachR op e (ones a) b).b).x.lo, .int .i64 ((eachR op e (ones a) b).b).x.hi, .int .i64 ((eachR op e (ones a) b).b).y.lo, .int .i64 ((eachR op e (ones a) b).b).y.hi, .int .i64 ((eachR op e (ones a) b).b).z.lo, .int .i64 ((eachR op e (ones a) b).b).z.hi]) (eachR op e (ones a) b).e w) := by
  have ib : BlockIn w c := BlockIn.of_cell hc
  have hci : HasCell w c 0 := ⟨_, hc⟩
  have Hb := Lib.hid (But.refl hc)
  have Hc := Lib.hid hc
  have i3 : B64 (ones a) := ⟨ha, ha, ha⟩
  have HE := Lib.hid (fun w' hc hf => show Calls Tryz.prog 171 #[.pointer (some ⟨c, 0, none⟩), .func (.func g) #[.pointer (some ⟨c, 0, none⟩)] #[], .agg #[.int .i64 a.lo, .int .i64 a.hi, .int .i64 a.lo, .int .i64 a.hi, .int .i64 a.lo, .int .i64 a.hi], .agg #[.int .i64 b.x.lo, .int .i64 b.x.hi, .int .i64 b.y.lo, .int .i64 b.y.hi, .int .i64 b.z.lo, .int .i64 b.z.hi]] w' (RetC c (.agg #[.int .i64 ((eachR op e (ones a) b).b).x.lo, .int .i64 ((eachR op e (ones a) b).b).x.hi, .int .i64 ((eachR op e (ones a) b).b).y.lo, .int .i64 ((eachR op e (ones a) b).b).y.hi, .int .i64 ((eachR op e (ones a) b).b).z.lo, .int .i64 ((eachR op e (ones a) b).b).z.hi]) (eachR op e (ones a) b).e w') from cEachM_any g op eg hop c e (ones a) b w' hc hf)
  clear hop
  generalize eachR op e (ones a) b = R at *
  go_enter Tryz.func175, Tryz.ntmps175
  go_wp2_with (go_at_call 171; (with_reducible refine call_calc (HE.out _ ?_ ?_) ?_); (· go_simp); (· go_simp); intro u)
  refine bodyPost_ret (by (simp [results, Tryz.results175, go_sem] <;> rfl)) rfl ?_
  exact ⟨rfl, But.out (by repeat (first | with_reducible exact Hb.out | with_reducible apply But.alloc | with_reducible apply But.later | with_reducible apply But.drew | with_reducible apply But.put | with_reducible apply But.store)) Hc.out (by go_simp)⟩
end Go.Proofs.YtkeifgcncmilmaaGreat
namespace Go.Proofs.YtkeifgcncmilmaaGreat
open Go.RowKit Go.Shelf
set_option maxRecDepth 100000
set_option maxHeartbeats 16000000
theorem newFor_of {a w : World} {q : Nat} [h : NewFor a w.heap.size] (n : NewFor w q) : NewFor a q := ⟨Nat.le_trans h.le n.le⟩
instance s64_whole1 : S64 (wholeS 1) := ⟨⟨by unfold wholeS; simp only []; omega, by unfold wholeS; simp only []; omega⟩, ⟨by unfold wholeS; simp only []; omega, by unfold wholeS; simp only []; omega⟩⟩
instance s64_whole2 : S64 (wholeS 2) := ⟨⟨by unfold wholeS; simp only []; omega, by unfold wholeS; simp only []; omega⟩, ⟨by unfold wholeS; simp only []; omega, by unfold wholeS; simp only []; omega⟩⟩
instance s64_whole3 : S64 (wholeS 3) := ⟨⟨by unfold wholeS; simp only []; omega, by unfold wholeS; simp only []; omega⟩, ⟨by unfold wholeS; simp only []; omega, by unfold wholeS; simp only []; omega⟩⟩
instance n64_five : N64 5 := ⟨by unfold I64; omega⟩
instance n64_two : N64 2 := ⟨by unfold I64; omega⟩
instance s64_sh3 (p : Planet) (r : Sp) (e : Int) : S64 (sh3 p r e).s := s64_do _ _
instance s64_sh5 (p : Planet) (r up : Sp) (e : Int) : S64 (sh5 p r up e).s := s64_do _ _
instance b64_eachR (f : Sp → Sp → Res) (e : Int) (a b : Bx) [hf : ∀ x y, S64 (f x y).s] : B64 (eachR f e a b).b := ⟨s64_do _ _, s64_do _ _, s64_do _ _⟩
instance b64_shape (p : Planet) (r up : Sp) (e : Int) : B64 (shapeR p r up e).b := by
  unfold shapeR
  split
  · exact ⟨s64_whole1, s64_whole1, s64_whole1⟩
  · exact ⟨s64_do _ _, s64_do _ _, s64_do _ _⟩
end Go.Proofs.YtkeifgcncmilmaaGreat
namespace Go.Proofs.YtkeifgcncmilmaaGreat
open Go.RowKit Go.Shelf
set_option maxRecDepth 100000
set_option maxHeartbeats 16000000
theorem cAttr_any (p : Planet) (x : Arc) (place : Bx) (r : Sp) [hp : Pl64 p] [hpl : B64 place] [hr : S64 r] (c : Nat) (e : Int) (w : World) (hc : w.cell? ⟨c, 0, none⟩ = some (.int .i64 e)) (hf : w.frozen? ⟨c, 0, none⟩ = false) :
    Calls Tryz.prog 172 #[.agg #[.int .i64 p.mu.lo, .int .i64 p.mu.hi, .int .i64 p.radius.lo, .int .i64 p.radius.hi, .int .i64 p.oblate.lo, .int .i64 p.oblate.hi, .int .i64 p.spin.lo, .int .i64 p.spin.hi, .int .i64 p.pull.x.lo, .int .i64 p.pull.x.hi, .int .i64 p.pull.y.lo, .int .i64 p.pull.y.hi, .int .i64 p.pull.z.lo, .int .i64 p.pull.z.hi, .int .i64 x.time, .int .i64 x.step, .int .i64 x.thrust.lo, .int .i64 x.thrust.hi, .int .i64 x.flow.lo, .int .i64 x.flow.hi, .int .i64 x.dir.x.lo, .int .i64 x.dir.x.hi, .int .i64 x.dir.y.lo, .int .i64 x.dir.y.hi, .int .i64 x.dir.z.lo, .int .i64 x.dir.z.hi, .slice x.drag.ao x.drag.n x.drag.cap, .int .i64 x.drop.lo, .int .i64 x.drop.hi], .pointer (some ⟨c, 0, none⟩), .agg #[.int .i64 place.x.lo, .int .i64 place.x.hi, .int .i64 place.y.lo, .int .i64 place.y.hi, .int .i64 place.z.lo, .int .i64 place.z.hi], .agg #[.int .i64 r.lo, .int .i64 r.hi]] w (RetC c (.agg #[.int .i64 ((attR p place r e).b).x.lo, .int .i64 ((attR p place r e).b).x.hi, .int .i64 ((attR p place r e).b).y.lo, .int .i64 ((attR p place r e).b).y.hi, .int .i64 ((attR p place r e).b).z.lo, .int .i64 ((attR p place r e).b).z.hi]) (attR p place r e).e w) := by
  have ib : BlockIn w c := BlockIn.of_cell hc
  have hci : HasCell w c 0 := ⟨_, hc⟩
  have Hb := Lib.hid (But.refl hc)
  have Hc := Lib.hid hc
  have KW1 := Lib.hid flWhole_one
  have KW3 := Lib.hid flWhole_three
  have a1 : B64 (atU place r e).b := b64_eachR _ _ _ _
  have a3 : S64 (atT p place r e).s := s64_do _ _
  have a2 : S64 (atS p place r e).s := s64_do _ _
  have a4 : B64 (atN p place r e).b := b64_shape _ _ _ _
  have a5 : B64 (atM p place r e).b := b64_eachR _ _ _ _
  have J1 := Lib.hid (fun w hc hf => show Calls Tryz.prog 171 #[.pointer (some ⟨c, 0, none⟩), .func (.func 122) #[.pointer (some ⟨c, 0, none⟩)] #[], .agg #[.int .i64 place.x.lo, .int .i64 place.x.hi, .int .i64 place.y.lo, .int .i64 place.y.hi, .int .i64 place.z.lo, .int .i64 place.z.hi], .agg #[.int .i64 r.lo, .int .i64 r.hi, .int .i64 r.lo, .int .i64 r.hi, .int .i64 r.lo, .int .i64 r.hi]] w (RetC c (.agg #[.int .i64 ((atU place r e).b).x.lo, .int .i64 ((atU place r e).b).x.hi, .int .i64 ((atU place r e).b).y.lo, .int .i64 ((atU place r e).b).y.hi, .int .i64 ((atU place r e).b).z.lo, .int .i64 ((atU place r e).b).z.hi]) (atU place r e).e w) from cEachM_any 122 divR (enters_of Tryz.func122 (by kernel_rfl) rfl) opm_div c e place (ones r) (ha := inferInstance) (hb := ⟨hr, hr, hr⟩) w hc hf)
  have J2 := Lib.hid (fun w hc hf => show Calls Tryz.prog 122 #[.pointer (some ⟨c, 0, none⟩), .agg #[.int .i64 p.mu.lo, .int .i64 p.mu.hi], .agg #[.int .i64 r.lo, .int .i64 r.hi]] w (RetC c (.agg #[.int .i64 ((atS p place r e).s).lo, .int .i64 ((atS p place r e).s).hi]) (atS p place r e).e w) from cDiv_any c (atU place r e).e p.mu r w hc hf)
  have J3 := Lib.hid (fun w hc hf => show Calls Tryz.prog 122 #[.pointer (some ⟨c, 0, none⟩), .agg #[.int .i64 ((atS p place r e).s).lo, .int .i64 ((atS p place r e).s).hi], .agg #[.int .i64 r.lo, .int .i64 r.hi]] w (RetC c (.agg #[.int .i64 ((atT p place r e).s).lo, .int .i64 ((atT p place r e).s).hi]) (atT p place r e).e w) from cDiv_any c (atS p place r e).e (atS p place r e).s r w hc hf)
  have J4 := Lib.hid (fun w hc hf => show Calls Tryz.prog 175 #[.pointer (some ⟨c, 0, none⟩), .func (.func 118) #[.pointer (some ⟨c, 0, none⟩)] #[], .agg #[.int .i64 ((atT p place r e).s).lo, .int .i64 ((atT p place r e).s).hi], .agg #[.int .i64 ((atU place r e).b).x.lo, .int .i64 ((atU place r e).b).x.hi, .int .i64 ((atU place r e).b).y.lo, .int .i64 ((atU place r e).b).y.hi, .int .i64 ((atU place r e).b).z.lo, .int .i64 ((atU place r e).b).z.hi]] w (RetC c (.agg #[.int .i64 ((atM p place r e).b).x.lo, .int .i64 ((atM p place r e).b).x.hi, .int .i64 ((atM p place r e).b).y.lo, .int .i64 ((atM p place r e).b).y.hi, .int .i64 ((atM p place r e).b).z.lo, .int .i64 ((atM p place r e).b).z.hi]) (atM p place r e).e w) from cByM_any 118 mulR (enters_of Tryz.func118 (by kernel_rfl) rfl) opm_mul c (atN p place r e).e (atT p place r e).s (atU place r e).b w hc hf)
  have J5 := Lib.hid (fun w hc hf => show Calls Tryz.prog 171 #[.pointer (some ⟨c, 0, none⟩), .func (.func 118) #[.pointer (some ⟨c, 0, none⟩)] #[], .agg #[.int .i64 ((atM p place r e).b).x.lo, .int .i64 ((atM p place r e).b).x.hi, .int .i64 ((atM p place r e).b).y.lo, .int .i64 ((atM p place r e).b).y.hi, .int .i64 ((atM p place r e).b).z.lo, .int .i64 ((atM p place r e).b).z.hi], .agg #[.int .i64 ((atN p place r e).b).x.lo, .int .i64 ((atN p place r e).b).x.hi, .int .i64 ((atN p place r e).b).y.lo, .int .i64 ((atN p place r e).b).y.hi, .int .i64 ((atN p place r e).b).z.lo, .int .i64 ((atN p place r e).b).z.hi]] w (RetC c (.agg #[.int .i64 ((attR p place r e).b).x.lo, .int .i64 ((attR p place r e).b).x.hi, .int .i64 ((attR p place r e).b).y.lo, .int .i64 ((attR p place r e).b).y.hi, .int .i64 ((attR p place r e).b).z.lo, .int .i64 ((attR p place r e).b).z.hi]) (attR p place r e).e w) from cEachM_any 118 mulR (enters_of Tryz.func118 (by kernel_rfl) rfl) opm_mul c (atM p place r e).e (atM p place r e).b (atN p place r e).b w hc hf)
  clear a2 a5
  cases hz : zeroB p.oblate
  · have HZ := Lib.hid (fun w' => is_bool hz (flZero_any p.oblate w'))
    have su : S64 (atU place r e).b.z := a1.z
    have HN := Lib.hid (show atN p place r e = ⟨⟨(sh8 p r (atU place r e).b.z (atT p place r e).e).s, (sh8 p r (atU place r e).b.z (atT p place r e).e).s, (sh11 p r (atU place r e).b.z (atT p place r e).e).s⟩, (sh11 p r (atU place r e).b.z (atT p place r e).e).e⟩ by unfold atN shapeR; rw [hz]; rfl)
    rw [HN.out] at J4 J5
    clear HN
    generalize atM p place r e = M at *
    generalize attR p place r e = R at *
    generalize atS p place r e = S at *
    generalize atT p place r e = T at *
    generalize atU place r e = U at *
    clear hz a4
    generalize U.b.z = up at *
    generalize T.e = e at *
    have s1 : S64 (sh1 p r e).s := s64_do _ _
    have s2 : S64 (sh2 p r e).s := s64_do _ _
    have s3 : S64 (sh3 p r e).s := s64_do _ _
    have s4 : S64 (sh4 p r up e).s := s64_do _ _
    have s5 : S64 (sh5 p r up e).s := s64_do _ _
    have s6 : S64 (sh6 p r up e).s := s64_do _ _
    have s7 : S64 (sh7 p r up e).s := s64_do _ _
    have s9 : S64 (sh9 p r up e).s := s64_do _ _
    have s10 : S64 (sh10 p r up e).s := s64_do _ _
    have K1 := Lib.hid (fun w hc hf => show Calls Tryz.prog 122 #[.pointer (some ⟨c, 0, none⟩), .agg #[.int .i64 p.radius.lo, .int .i64 p.radius.hi], .agg #[.int .i64 r.lo, .int .i64 r.hi]] w (RetC c (.agg #[.int .i64 ((sh1 p r e).s).lo, .int .i64 ((sh1 p r e).s).hi]) (sh1 p r e).e w) from cDiv_any c e p.radius r w hc hf)
    have K2 := Lib.hid (fun w hc hf => show Calls Tryz.prog 173 #[.pointer (some ⟨c, 0, none⟩), .agg #[.int .i64 ((sh1 p r e).s).lo, .int .i64 ((sh1 p r e).s).hi]] w (RetC c (.agg #[.int .i64 ((sh2 p r e).s).lo, .int .i64 ((sh2 p r e).s).hi]) (sh2 p r e).e w) from cSquare_any c (sh1 p r e).e (sh1 p r e).s w hc hf)
    have K3 := Lib.hid (fun w hc hf => show Calls Tryz.prog 118 #[.pointer (some ⟨c, 0, none⟩), .agg #[.int .i64 p.oblate.lo, .int .i64 p.oblate.hi], .agg #[.int .i64 ((sh2 p r e).s).lo, .int .i64 ((sh2 p r e).s).hi]] w (RetC c (.agg #[.int .i64 ((sh3 p r e).s).lo, .int .i64 ((sh3 p r e).s).hi]) (sh3 p r e).e w) from cMul_any c (sh2 p r e).e p.oblate (sh2 p r e).s w hc hf)
    have K4 := Lib.hid (fun w hc hf => show Calls Tryz.prog 173 #[.pointer (some ⟨c, 0, none⟩), .agg #[.int .i64 up.lo, .int .i64 up.hi]] w (RetC c (.agg #[.int .i64 ((sh4 p r up e).s).lo, .int .i64 ((sh4 p r up e).s).hi]) (sh4 p r up e).e w) from cSquare_any c (sh3 p r e).e up w hc hf)
    have K5 := Lib.hid (fun w hc hf => show Calls Tryz.prog 174 #[.pointer (some ⟨c, 0, none⟩), .agg #[.int .i64 ((sh4 p r up e).s).lo, .int .i64 ((sh4 p r up e).s).hi], .int .i64 5] w (RetC c (.agg #[.int .i64 ((sh5 p r up e).s).lo, .int .i64 ((sh5 p r up e).s).hi]) (sh5 p r up e).e w) from cScale_any c (sh4 p r up e).e (sh4 p r up e).s 5 w hc hf)
    have K6 := Lib.hid (fun w hc hf => show Calls Tryz.prog 86 #[.pointer (some ⟨c, 0, none⟩), .agg #[.int .i64 ((wholeS 1)).lo, .int .i64 ((wholeS 1)).hi], .agg #[.int .i64 ((sh5 p r up e).s).lo, .int .i64 ((sh5 p r up e).s).hi]] w (RetC c (.agg #[.int .i64 ((sh6 p r up e).s).lo, .int .i64 ((sh6 p r up e).s).hi]) (sh6 p r up e).e w) from cSub_any c (sh5 p r up e).e (wholeS 1) (sh5 p r up e).s w hc hf)
    have K7 := Lib.hid (fun w hc hf => show Calls Tryz.prog 118 #[.pointer (some ⟨c, 0, none⟩), .agg #[.int .i64 ((sh3 p r e).s).lo, .int .i64 ((sh3 p r e).s).hi], .agg #[.int .i64 ((sh6 p r up e).s).lo, .int .i64 ((sh6 p r up e).s).hi]] w (RetC c (.agg #[.int .i64 ((sh7 p r up e).s).lo, .int .i64 ((sh7 p r up e).s).hi]) (sh7 p r up e).e w) from cMul_any c (sh6 p r up e).e (sh3 p r e).s (sh6 p r up e).s w hc hf)
    have K8 := Lib.hid (fun w hc hf => show Calls Tryz.prog 116 #[.pointer (some ⟨c, 0, none⟩), .agg #[.int .i64 ((wholeS 1)).lo, .int .i64 ((wholeS 1)).hi], .agg #[.int .i64 ((sh7 p r up e).s).lo, .int .i64 ((sh7 p r up e).s).hi]] w (RetC c (.agg #[.int .i64 ((sh8 p r up e).s).lo, .int .i64 ((sh8 p r up e).s).hi]) (sh8 p r up e).e w) from cAdd_any c (sh7 p r up e).e (wholeS 1) (sh7 p r up e).s w hc hf)
    have K9 := Lib.hid (fun w hc hf => show Calls Tryz.prog 86 #[.pointer (some ⟨c, 0, none⟩), .agg #[.int .i64 ((wholeS 3)).lo, .int .i64 ((wholeS 3)).hi], .agg #[.int .i64 ((sh5 p r up e).s).lo, .int .i64 ((sh5 p r up e).s).hi]] w (RetC c (.agg #[.int .i64 ((sh9 p r up e).s).lo, .int .i64 ((sh9 p r up e).s).hi]) (sh9 p r up e).e w) from cSub_any c (sh8 p r up e).e (wholeS 3) (sh5 p r up e).s w hc hf)
    have K10 := Lib.hid (fun w hc hf => show Calls Tryz.prog 118 #[.pointer (some ⟨c, 0, none⟩), .agg #[.int .i64 ((sh3 p r e).s).lo, .int .i64 ((sh3 p r e).s).hi], .agg #[.int .i64 ((sh9 p r up e).s).lo, .int .i64 ((sh9 p r up e).s).hi]] w (RetC c (.agg #[.int .i64 ((sh10 p r up e).s).lo, .int .i64 ((sh10 p r up e).s).hi]) (sh10 p r up e).e w) from cMul_any c (sh9 p r up e).e (sh3 p r e).s (sh9 p r up e).s w hc hf)
    have K11 := Lib.hid (fun w hc hf => show Calls Tryz.prog 116 #[.pointer (some ⟨c, 0, none⟩), .agg #[.int .i64 ((wholeS 1)).lo, .int .i64 ((wholeS 1)).hi], .agg #[.int .i64 ((sh10 p r up e).s).lo, .int .i64 ((sh10 p r up e).s).hi]] w (RetC c (.agg #[.int .i64 ((sh11 p r up e).s).lo, .int .i64 ((sh11 p r up e).s).hi]) (sh11 p r up e).e w) from cAdd_any c (sh10 p r up e).e (wholeS 1) (sh10 p r up e).s w hc hf)
    clear s1 s2 s3 s4 s5 s6 s7 s9 s10
    generalize sh1 p r e = r1 at *
    generalize sh2 p r e = r2 at *
    generalize sh3 p r e = r3 at *
    generalize sh4 p r up e = r4 at *
    generalize sh5 p r up e = r5 at *
    generalize sh6 p r up e = r6 at *
    generalize sh7 p r up e = r7 at *
    generalize sh8 p r up e = r8 at *
    generalize sh9 p r up e = r9 at *
    generalize sh10 p r up e = r10 at *
    generalize sh11 p r up e = r11 at *
    generalize wholeS 1 = W1 at *
    generalize wholeS 3 = W3 at *
    go_enter Tryz.func172, Tryz.ntmps172
    go_wp2_with (first | (go_at_call 171; (with_reducible refine call_calc (J1.out _ ?_ ?_) ?_); (· go_simp); (· go_simp); intro u1) | (go_at_call 123; (with_reducible refine call_later (KW1.out _) ?_); intro u2) | (go_at_call 170; (with_reducible refine call_later (HZ.out _) ?_); intro u3))
    refine wp_region_calc c [U.e, S.e, e] 10 [9] [6, 8] [] (fun W0 => [(9, BoxR W0 [.int .i64 0, .int .i64 0])]) [.agg #[.int .i64 S.s.lo, .int .i64 S.s.hi], .agg #[.int .i64 T.s.lo, .int .i64 T.s.hi]] [10] (by rfl) (by go_simp) (by go_simp) (by intro W0 hW0 x hx; simp only [List.mem_cons, List.not_mem_nil, or_false] at hx; rcases hx with rfl <;> first | exact goodc_box _ _ hW0 _) (by kernel_rfl) (by kernel_rfl) (by kernel_rfl) ?_
    intro pz hd0
    apply Exists.intro
    apply And.intro
    iterate 6 (apply lexc_pure hd0 (by kernel_rfl); (· intro uz xc; unfold opPure; go_simp; rfl))
    apply lexc_call hd0 0 (by kernel_rfl) (by rfl) (by decide)
    · intro uz hfz hF; clear hF; unfold opCall; go_simp; exact J2.out _ (by go_simp) hfz
    apply lexc_pure hd0 (by kernel_rfl)
    · intro uz xc; unfold opPure; go_simp; rfl
    apply lexc_call hd0 1 (by kernel_rfl) (by rfl) (by decide)
    · intro uz hfz hF; clear hF; unfold opCall; go_simp; exact J3.out _ (by go_simp) hfz
    apply lexc_make hd0 (by kernel_rfl)
    · intro uz xc hF; clear hF; unfold opMake; go_simp; refine (show Made (BoxR _ [.int .i64 0, .int .i64 0]) _ _ _ from ?_); exact madec_box _ _ _ _
    apply lexc_end
    rotate_left
    · rfl
    intro uz hR hD hfz
    obtain ⟨q9, e9, hB9, kB9, nB9⟩ := (show BoxR _ [.int .i64 0, .int .i64 0] (pz 9) _ from hR 9 (by decide))
    clear hR hD
    rw [e9]
    clear e9
    have oB9 := apart_oldL nB9
    have oC9 := apart_oldR nB9
    have hB9 := boxAt_cw hB9 hd0 nB9
    have kB9 := blockIn_cw kB9
    have hB9_0 := (hB9 0 _ rfl).1
    have hB9f0 := (hB9 0 _ rfl).2
    have hB9i0 : HasCell (uz.world) (q9) 0 := ⟨_, hB9_0⟩
    have hB9_1 := (hB9 1 _ rfl).1
    have hB9f1 := (hB9 1 _ rfl).2
    have hB9i1 : HasCell (uz.world) (q9) 1 := ⟨_, hB9_1⟩
    have hB9b : BlockIn (uz.world) (q9) := BlockIn.of_cell hB9_0
    clear hB9
    refine tail_store (by rfl) ?_; unfold opStore; go_simp
    refine tail_end ?_
    have nw9 : NewFor w q9 := newFor_of nB9
    go_wp2_with (first | (go_at_call 123; (with_reducible refine call_later (KW1.out _) ?_); intro u2) | (go_at_call 170; (with_reducible refine call_later (HZ.out _) ?_); intro u3))
    refine wp_region_calc c [e, r1.e, r2.e, r3.e] 14 [13] [10, 11, 12] [] (fun W0 => [(13, BoxR W0 [.int .i64 0, .int .i64 0])]) [.agg #[.int .i64 r1.s.lo, .int .i64 r1.s.hi], .agg #[.int .i64 r2.s.lo, .int .i64 r2.s.hi], .agg #[.int .i64 r3.s.lo, .int .i64 r3.s.hi]] [14] (by rfl) (by go_simp) (by go_simp) (by intro W0 hW0 x hx; simp only [List.mem_cons, List.not_mem_nil, or_false] at hx; rcases hx with rfl <;> first | exact goodc_box _ _ hW0 _) (by kernel_rfl) (by kernel_rfl) (by kernel_rfl) ?_
    intro pz hd0
    apply Exists.intro
    apply And.intro
    iterate 10 (apply lexc_pure hd0 (by kernel_rfl); (· intro uz xc; unfold opPure; go_simp; rfl))
    apply lexc_call hd0 0 (by kernel_rfl) (by rfl) (by decide)
    · intro uz hfz hF; clear hF; unfold opCall; go_simp; exact K1.out _ (by go_simp) hfz
    apply lexc_call hd0 1 (by kernel_rfl) (by rfl) (by decide)
    · intro uz hfz hF; clear hF; unfold opCall; go_simp; exact K2.out _ (by go_simp) hfz
    apply lexc_call hd0 2 (by kernel_rfl) (by rfl) (by decide)
    · intro uz hfz hF; clear hF; unfold opCall; go_simp; exact K3.out _ (by go_simp) hfz
    apply lexc_make hd0 (by kernel_rfl)
    · intro uz xc hF; clear hF; unfold opMake; go_simp; refine (show Made (BoxR _ [.int .i64 0, .int .i64 0]) _ _ _ from ?_); exact madec_box _ _ _ _
    apply lexc_end
    rotate_left
    · rfl
    intro uz hR hD hfz
    obtain ⟨q13, e13, hB13, kB13, nB13⟩ := (show BoxR _ [.int .i64 0, .int .i64 0] (pz 13) _ from hR 13 (by decide))
    clear hR hD
    rw [e13]
    clear e13
    have oB13 := apart_oldL nB13
    have oC13 := apart_oldR nB13
    have hB13 := boxAt_cw hB13 hd0 nB13
    have kB13 := blockIn_cw kB13
    have hB13_0 := (hB13 0 _ rfl).1
    have hB13f0 := (hB13 0 _ rfl).2
    have hB13i0 : HasCell (uz.world) (q13) 0 := ⟨_, hB13_0⟩
    have hB13_1 := (hB13 1 _ rfl).1
    have hB13f1 := (hB13 1 _ rfl).2
    have hB13i1 : HasCell (uz.world) (q13) 1 := ⟨_, hB13_1⟩
    have hB13b : BlockIn (uz.world) (q13) := BlockIn.of_cell hB13_0
    clear hB13
    refine tail_store (by rfl) ?_; unfold opStore; go_simp
    refine tail_end ?_
    have nw13 : NewFor w q13 := newFor_of nB13
    go_wp2_with (first | (go_at_call 173; (with_reducible refine call_calc (K4.out _ ?_ ?_) ?_); (· go_simp); (· go_simp); intro u4) | (go_at_call 174; (with_reducible refine call_calc (K5.out _ ?_ ?_) ?_); (· go_simp); (· go_simp); intro u5))
    refine wp_region_calc c [r5.e, r6.e, r7.e, r8.e] 11 [10] [7, 8, 9] [] (fun W0 => [(10, BoxR W0 [.int .i64 0, .int .i64 0])]) [.agg #[.int .i64 r6.s.lo, .int .i64 r6.s.hi], .agg #[.int .i64 r7.s.lo, .int .i64 r7.s.hi], .agg #[.int .i64 r8.s.lo, .int .i64 r8.s.hi]] [11] (by rfl) (by go_simp) (by go_simp) (by intro W0 hW0 x hx; simp only [List.mem_cons, List.not_mem_nil, or_false] at hx; rcases hx with rfl <;> first | exact goodc_box _ _ hW0 _) (by kernel_rfl) (by kernel_rfl) (by kernel_rfl) ?_
    intro pz hd0
    apply Exists.intro
    apply And.intro
    iterate 7 (apply lexc_pure hd0 (by kernel_rfl); (· intro uz xc; unfold opPure; go_simp; rfl))
    apply lexc_call hd0 0 (by kernel_rfl) (by rfl) (by decide)
    · intro uz hfz hF; clear hF; unfold opCall; go_simp; exact K6.out _ (by go_simp) hfz
    apply lexc_call hd0 1 (by kernel_rfl) (by rfl) (by decide)
    · intro uz hfz hF; clear hF; unfold opCall; go_simp; exact K7.out _ (by go_simp) hfz
    apply lexc_call hd0 2 (by kernel_rfl) (by rfl) (by decide)
    · intro uz hfz hF; clear hF; unfold opCall; go_simp; exact K8.out _ (by go_simp) hfz
    apply lexc_make hd0 (by kernel_rfl)
    · intro uz xc hF; clear hF; unfold opMake; go_simp; refine (show Made (BoxR _ [.int .i64 0, .int .i64 0]) _ _ _ from ?_); exact madec_box _ _ _ _
    apply lexc_end
    rotate_left
    · rfl
    intro uz hR hD hfz
    obtain ⟨q10, e10, hB10, kB10, nB10⟩ := (show BoxR _ [.int .i64 0, .int .i64 0] (pz 10) _ from hR 10 (by decide))
    clear hR hD
    rw [e10]
    clear e10
    have oB10 := apart_oldL nB10
    have oC10 := apart_oldR nB10
    have hB10 := boxAt_cw hB10 hd0 nB10
    have kB10 := blockIn_cw kB10
    have hB10_0 := (hB10 0 _ rfl).1
    have hB10f0 := (hB10 0 _ rfl).2
    have hB10i0 : HasCell (uz.world) (q10) 0 := ⟨_, hB10_0⟩
    have hB10_1 := (hB10 1 _ rfl).1
    have hB10f1 := (hB10 1 _ rfl).2
    have hB10i1 : HasCell (uz.world) (q10) 1 := ⟨_, hB10_1⟩
    have hB10b : BlockIn (uz.world) (q10) := BlockIn.of_cell hB10_0
    clear hB10
    refine tail_store (by rfl) ?_; unfold opStore; go_simp
    refine tail_end ?_
    have nw10 : NewFor w q10 := newFor_of nB10
    go_wp2
    refine wp_region_calc c [r8.e, r8.e, r9.e, r10.e, r11.e] 13 [] [7, 9, 10, 11] [] (fun W0 => []) [.agg #[.int .i64 W3.lo, .int .i64 W3.hi], .agg #[.int .i64 r9.s.lo, .int .i64 r9.s.hi], .agg #[.int .i64 r10.s.lo, .int .i64 r10.s.hi], .agg #[.int .i64 r11.s.lo, .int .i64 r11.s.hi]] [13] (by rfl) (by go_simp) (by go_simp) (fun _ _ x hx => absurd hx (List.not_mem_nil)) (by kernel_rfl) (by kernel_rfl) (by kernel_rfl) ?_
    intro pz hd0
    apply Exists.intro
    apply And.intro
    iterate 7 (apply lexc_pure hd0 (by kernel_rfl); (· intro uz xc; unfold opPure; go_simp; rfl))
    apply lexc_call hd0 0 (by kernel_rfl) (by rfl) (by decide)
    · intro uz hfz hF; clear hF; unfold opCall; go_simp; exact retc_of (KW3.out _) (by go_simp)
    apply lexc_pure hd0 (by kernel_rfl)
    · intro uz xc; unfold opPure; go_simp; rfl
    apply lexc_call hd0 1 (by kernel_rfl) (by rfl) (by decide)
    · intro uz hfz hF; clear hF; unfold opCall; go_simp; exact K9.out _ (by go_simp) hfz
    apply lexc_call hd0 2 (by kernel_rfl) (by rfl) (by decide)
    · intro uz hfz hF; clear hF; unfold opCall; go_simp; exact K10.out _ (by go_simp) hfz
    apply lexc_call hd0 3 (by kernel_rfl) (by rfl) (by decide)
    · intro uz hfz hF; clear hF; unfold opCall; go_simp; exact K11.out _ (by go_simp) hfz
    apply lexc_pure hd0 (by kernel_rfl)
    · intro uz xc; unfold opPure; go_simp; rfl
    apply lexc_end
    rotate_left
    · rfl
    intro uz hR hD hfz
    clear hR hD
    refine tail_store (by rfl) ?_; unfold opStore; go_simp
    refine tail_end ?_
    go_wp2
    refine wp_region_calc c [r11.e, M.e, R.e] 11 [] [8, 10] [] (fun W0 => []) [.agg #[.int .i64 M.b.x.lo, .int .i64 M.b.x.hi, .int .i64 M.b.y.lo, .int .i64 M.b.y.hi, .int .i64 M.b.z.lo, .int .i64 M.b.z.hi], .agg #[.int .i64 R.b.x.lo, .int .i64 R.b.x.hi, .int .i64 R.b.y.lo, .int .i64 R.b.y.hi, .int .i64 R.b.z.lo, .int .i64 R.b.z.hi]] [11] (by rfl) (by go_simp) (by go_simp) (fun _ _ x hx => absurd hx (List.not_mem_nil)) (by kernel_rfl) (by kernel_rfl) (by kernel_rfl) ?_
    intro pz hd0
    apply Exists.intro
    apply And.intro
    iterate 8 (apply lexc_pure hd0 (by kernel_rfl); (· intro uz xc; unfold opPure; go_simp; rfl))
    apply lexc_call hd0 0 (by kernel_rfl) (by rfl) (by decide)
    · intro uz hfz hF; clear hF; unfold opCall; go_simp; exact J4.out _ (by go_simp) hfz
    apply lexc_pure hd0 (by kernel_rfl)
    · intro uz xc; unfold opPure; go_simp; rfl
    apply lexc_call hd0 1 (by kernel_rfl) (by rfl) (by decide)
    · intro uz hfz hF; clear hF; unfold opCall; go_simp; exact J5.out _ (by go_simp) hfz
    apply lexc_end
    rotate_left
    · rfl
    intro uz hR hD hfz
    clear hR hD
    refine tail_store (by rfl) ?_; unfold opStore; go_simp
    refine tail_end ?_
    go_wp2
    refine bodyPost_ret (by (simp [results, Tryz.results172, go_sem] <;> rfl)) rfl ?_
    exact ⟨rfl, But.out (by repeat (first | with_reducible exact Hb.out | with_reducible apply But.alloc | with_reducible apply But.later | with_reducible apply But.drew | with_reducible apply But.put | with_reducible apply But.store)) Hc.out (by go_simp)⟩
  · have HZ := Lib.hid (fun w' => is_bool hz (flZero_any p.oblate w'))
    have HN := Lib.hid (show atN p place r e = ⟨⟨wholeS 1, wholeS 1, wholeS 1⟩, (atT p place r e).e⟩ by unfold atN shapeR; rw [hz]; rfl)
    rw [HN.out] at J4 J5
    clear hz HN a4
    generalize atM p place r e = M at *
    generalize attR p place r e = R at *
    generalize atS p place r e = S at *
    generalize atT p place r e = T at *
    generalize atU place r e = U at *
    generalize wholeS 1 = W1 at *
    go_enter Tryz.func172, Tryz.ntmps172
    go_wp2_with (first | (go_at_call 171; (with_reducible refine call_calc (J1.out _ ?_ ?_) ?_); (· go_simp); (· go_simp); intro u1) | (go_at_call 123; (with_reducible refine call_later (KW1.out _) ?_); intro u2) | (go_at_call 170; (with_reducible refine call_later (HZ.out _) ?_); intro u3))
    refine wp_region_calc c [U.e, S.e, T.e] 10 [9] [6, 8] [] (fun W0 => [(9, BoxR W0 [.int .i64 0, .int .i64 0])]) [.agg #[.int .i64 S.s.lo, .int .i64 S.s.hi], .agg #[.int .i64 T.s.lo, .int .i64 T.s.hi]] [10] (by rfl) (by go_simp) (by go_simp) (by intro W0 hW0 x hx; simp only [List.mem_cons, List.not_mem_nil, or_false] at hx; rcases hx with rfl <;> first | exact goodc_box _ _ hW0 _) (by kernel_rfl) (by kernel_rfl) (by kernel_rfl) ?_
    intro pz hd0
    apply Exists.intro
    apply And.intro
    iterate 6 (apply lexc_pure hd0 (by kernel_rfl); (· intro uz xc; unfold opPure; go_simp; rfl))
    apply lexc_call hd0 0 (by kernel_rfl) (by rfl) (by decide)
    · intro uz hfz hF; clear hF; unfold opCall; go_simp; exact J2.out _ (by go_simp) hfz
    apply lexc_pure hd0 (by kernel_rfl)
    · intro uz xc; unfold opPure; go_simp; rfl
    apply lexc_call hd0 1 (by kernel_rfl) (by rfl) (by decide)
    · intro uz hfz hF; clear hF; unfold opCall; go_simp; exact J3.out _ (by go_simp) hfz
    apply lexc_make hd0 (by kernel_rfl)
    · intro uz xc hF; clear hF; unfold opMake; go_simp; refine (show Made (BoxR _ [.int .i64 0, .int .i64 0]) _ _ _ from ?_); exact madec_box _ _ _ _
    apply lexc_end
    rotate_left
    · rfl
    intro uz hR hD hfz
    obtain ⟨q9, e9, hB9, kB9, nB9⟩ := (show BoxR _ [.int .i64 0, .int .i64 0] (pz 9) _ from hR 9 (by decide))
    clear hR hD
    rw [e9]
    clear e9
    have oB9 := apart_oldL nB9
    have oC9 := apart_oldR nB9
    have hB9 := boxAt_cw hB9 hd0 nB9
    have kB9 := blockIn_cw kB9
    have hB9_0 := (hB9 0 _ rfl).1
    have hB9f0 := (hB9 0 _ rfl).2
    have hB9i0 : HasCell (uz.world) (q9) 0 := ⟨_, hB9_0⟩
    have hB9_1 := (hB9 1 _ rfl).1
    have hB9f1 := (hB9 1 _ rfl).2
    have hB9i1 : HasCell (uz.world) (q9) 1 := ⟨_, hB9_1⟩
    have hB9b : BlockIn (uz.world) (q9) := BlockIn.of_cell hB9_0
    clear hB9
    refine tail_store (by rfl) ?_; unfold opStore; go_simp
    refine tail_end ?_
    have nw9 : NewFor w q9 := newFor_of nB9
    go_wp2_with (first | (go_at_call 123; (with_reducible refine call_later (KW1.out _) ?_); intro u2) | (go_at_call 170; (with_reducible refine call_later (HZ.out _) ?_); intro u3))
    refine wp_region_calc c [T.e, M.e, R.e] 11 [] [8, 10] [] (fun W0 => []) [.agg #[.int .i64 M.b.x.lo, .int .i64 M.b.x.hi, .int .i64 M.b.y.lo, .int .i64 M.b.y.hi, .int .i64 M.b.z.lo, .int .i64 M.b.z.hi], .agg #[.int .i64 R.b.x.lo, .int .i64 R.b.x.hi, .int .i64 R.b.y.lo, .int .i64 R.b.y.hi, .int .i64 R.b.z.lo, .int .i64 R.b.z.hi]] [11] (by rfl) (by go_simp) (by go_simp) (fun _ _ x hx => absurd hx (List.not_mem_nil)) (by kernel_rfl) (by kernel_rfl) (by kernel_rfl) ?_
    intro pz hd0
    apply Exists.intro
    apply And.intro
    iterate 8 (apply lexc_pure hd0 (by kernel_rfl); (· intro uz xc; unfold opPure; go_simp; rfl))
    apply lexc_call hd0 0 (by kernel_rfl) (by rfl) (by decide)
    · intro uz hfz hF; clear hF; unfold opCall; go_simp; exact J4.out _ (by go_simp) hfz
    apply lexc_pure hd0 (by kernel_rfl)
    · intro uz xc; unfold opPure; go_simp; rfl
    apply lexc_call hd0 1 (by kernel_rfl) (by rfl) (by decide)
    · intro uz hfz hF; clear hF; unfold opCall; go_simp; exact J5.out _ (by go_simp) hfz
    apply lexc_end
    rotate_left
    · rfl
    intro uz hR hD hfz
    clear hR hD
    refine tail_store (by rfl) ?_; unfold opStore; go_simp
    refine tail_end ?_
    go_wp2
    refine bodyPost_ret (by (simp [results, Tryz.results172, go_sem] <;> rfl)) rfl ?_
    exact ⟨rfl, But.out (by repeat (first | with_reducible exact Hb.out | with_reducible apply But.alloc | with_reducible apply But.later | with_reducible apply But.drew | with_reducible apply But.put | with_reducible apply But.store)) Hc.out (by go_simp)⟩
end Go.Proofs.YtkeifgcncmilmaaGreat
