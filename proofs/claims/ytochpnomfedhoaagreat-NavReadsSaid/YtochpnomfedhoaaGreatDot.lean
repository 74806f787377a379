/-
  Contracts: span.few of two lists, span.Dot of two boxes; the plain law of a product.
-/
import Derived.Test.YtochpnomfedhoaaGreatFold2
import Derived.Test.YtochpnomfedhoaaGreatCalcOps
import Derived.Deep.RegionHeld3
namespace Go.Proofs.YtochpnomfedhoaaGreat
open Go.RowKit Go.Shelf
set_option maxRecDepth 100000
set_option maxHeartbeats 2000000
/-- The terms of a product of two boxes. -/
def Bx.terms (a b : Bx) : List SS := [(a.x, b.x), (a.y, b.y), (a.z, b.z)]
def mul2 (p : SS) : Res := mulR p.1 p.2
/-- A product of two boxes. -/
def dotBR (a b : Bx) : Res := if a.okB && b.okB then foldR mul2 z0 (a.terms b) else errR 2
theorem list_ok (a : Bx) : a.list.all Sp.okB = a.okB := by
  unfold Bx.list Bx.okB
  simp [Bool.and_assoc]
theorem few2_any (A B : List Sp) (ao1 ao2 : Option Addr) (cap1 cap2 b : Nat) (w : World) (hA : A.length ≤ 64) (hB : B.length ≤ 64) (hc1 : w.cell? ⟨b, 0, none⟩ = some (.slice ao1 A.length cap1)) (hc2 : w.cell? ⟨b, 1, none⟩ = some (.slice ao2 B.length cap2))
    (hs1 : SlAt w (.slice ao1 A.length cap1) A.length (A.flatMap Sp.cells)) (hs2 : SlAt w (.slice ao2 B.length cap2) B.length (B.flatMap Sp.cells)) :
    Calls Tryz.prog 96 #[.slice (some ⟨b, 0, none⟩) 2 2] w fun e w' => e = .returned (.int .i64 (codeB (A.all Sp.okB && B.all Sp.okB) 2)) ∧ Grew w w' := by
  have HA := Lib.hid (fun w' (g : Grew w w') => spChecked_any A (.slice ao1 A.length cap1) w' (hs1.grew g))
  have HB := Lib.hid (fun w' (g : Grew w w') => spChecked_any B (.slice ao2 B.length cap2) w' (hs2.grew g))
  clear hs1 hs2
  have ib : BlockIn w b := BlockIn.of_cell hc1
  have hA' : ¬ ((64 : Int) < A.length) := by omega
  have hB' : ¬ ((64 : Int) < B.length) := by omega
  cases h1 : A.all Sp.okB
  · have HA2 := Lib.hid (fun w' g => is_int (show codeB (A.all Sp.okB) 2 = 2 by rw [h1]; rfl) (HA.out w' g))
    clear HA h1
    go_enter Tryz.func96, Tryz.ntmps96
    go_wp2
    refine wp_loop_rounds 3 ?_
    rw [rounds_succ]
    go_wp2
    rw [rounds_succ]
    go_wp2
    rw [rounds_succ]
    go_wp2
    refine wp_loop_rounds 3 ?_
    rw [rounds_succ]
    go_wp2_with (first | (go_at_call 79; (with_reducible refine call_later (HA2.out _ (by repeat (first | with_reducible exact Grew.refl _ | with_reducible apply Grew.alloc | with_reducible apply Grew.later | with_reducible apply Grew.drew | with_reducible apply Grew.store | with_reducible assumption))) ?_); intro u) | ((with_reducible refine wp_region_later ?_ ?_ ?_); (· kernel_rfl); (· kernel_rfl); (repeat (go_big_quiet_step ((first | (go_at_call 79; (with_reducible exact call_quiet (HA2.out _ (by repeat (first | with_reducible exact Grew.refl _ | with_reducible apply Grew.alloc | with_reducible apply Grew.later | with_reducible apply Grew.drew | with_reducible apply Grew.store | with_reducible assumption))))))))); refine wpQuiet_nil ?_; rintro _ ⟨u, rfl⟩))
    go_ret
    exact ⟨rfl, (by repeat (first | with_reducible exact Grew.refl _ | with_reducible apply Grew.alloc | with_reducible apply Grew.later | with_reducible apply Grew.drew | with_reducible apply Grew.store | with_reducible assumption))⟩
  · have HA2 := Lib.hid (fun w' g => is_int (show codeB (A.all Sp.okB) 2 = 0 by rw [h1]; rfl) (HA.out w' g))
    clear HA h1
    cases h2 : B.all Sp.okB
    · have HB2 := Lib.hid (fun w' g => is_int (show codeB (B.all Sp.okB) 2 = 2 by rw [h2]; rfl) (HB.out w' g))
      clear HB h2
      go_enter Tryz.func96, Tryz.ntmps96
      go_wp2
      refine wp_loop_rounds 3 ?_
      rw [rounds_succ]
      go_wp2
      rw [rounds_succ]
      go_wp2
      rw [rounds_succ]
      go_wp2
      refine wp_loop_rounds 3 ?_
      rw [rounds_succ]
      go_wp2_with (first | (go_at_call 79; (with_reducible refine call_later (HA2.out _ (by repeat (first | with_reducible exact Grew.refl _ | with_reducible apply Grew.alloc | with_reducible apply Grew.later | with_reducible apply Grew.drew | with_reducible apply Grew.store | with_reducible assumption))) ?_); intro u) | ((with_reducible refine wp_region_later ?_ ?_ ?_); (· kernel_rfl); (· kernel_rfl); (repeat (go_big_quiet_step ((first | (go_at_call 79; (with_reducible exact call_quiet (HA2.out _ (by repeat (first | with_reducible exact Grew.refl _ | with_reducible apply Grew.alloc | with_reducible apply Grew.later | with_reducible apply Grew.drew | with_reducible apply Grew.store | with_reducible assumption))))))))); refine wpQuiet_nil ?_; rintro _ ⟨u, rfl⟩))
      rw [rounds_succ]
      go_wp2_with (first | (go_at_call 79; (with_reducible refine call_later (HB2.out _ (by repeat (first | with_reducible exact Grew.refl _ | with_reducible apply Grew.alloc | with_reducible apply Grew.later | with_reducible apply Grew.drew | with_reducible apply Grew.store | with_reducible assumption))) ?_); intro u) | ((with_reducible refine wp_region_later ?_ ?_ ?_); (· kernel_rfl); (· kernel_rfl); (repeat (go_big_quiet_step ((first | (go_at_call 79; (with_reducible exact call_quiet (HB2.out _ (by repeat (first | with_reducible exact Grew.refl _ | with_reducible apply Grew.alloc | with_reducible apply Grew.later | with_reducible apply Grew.drew | with_reducible apply Grew.store | with_reducible assumption))))))))); refine wpQuiet_nil ?_; rintro _ ⟨u, rfl⟩))
      go_ret
      exact ⟨rfl, (by repeat (first | with_reducible exact Grew.refl _ | with_reducible apply Grew.alloc | with_reducible apply Grew.later | with_reducible apply Grew.drew | with_reducible apply Grew.store | with_reducible assumption))⟩
    · have HB2 := Lib.hid (fun w' g => is_int (show codeB (B.all Sp.okB) 2 = 0 by rw [h2]; rfl) (HB.out w' g))
      clear HB h2
      go_enter Tryz.func96, Tryz.ntmps96
      go_wp2
      refine wp_loop_rounds 3 ?_
      rw [rounds_succ]
      go_wp2
      rw [rounds_succ]
      go_wp2
      rw [rounds_succ]
      go_wp2
      refine wp_loop_rounds 3 ?_
      rw [rounds_succ]
      go_wp2_with (first | (go_at_call 79; (with_reducible refine call_later (HA2.out _ (by repeat (first | with_reducible exact Grew.refl _ | with_reducible apply Grew.alloc | with_reducible apply Grew.later | with_reducible apply Grew.drew | with_reducible apply Grew.store | with_reducible assumption))) ?_); intro u) | ((with_reducible refine wp_region_later ?_ ?_ ?_); (· kernel_rfl); (· kernel_rfl); (repeat (go_big_quiet_step ((first | (go_at_call 79; (with_reducible exact call_quiet (HA2.out _ (by repeat (first | with_reducible exact Grew.refl _ | with_reducible apply Grew.alloc | with_reducible apply Grew.later | with_reducible apply Grew.drew | with_reducible apply Grew.store | with_reducible assumption))))))))); refine wpQuiet_nil ?_; rintro _ ⟨u, rfl⟩))
      rw [rounds_succ]
      go_wp2_with (first | (go_at_call 79; (with_reducible refine call_later (HB2.out _ (by repeat (first | with_reducible exact Grew.refl _ | with_reducible apply Grew.alloc | with_reducible apply Grew.later | with_reducible apply Grew.drew | with_reducible apply Grew.store | with_reducible assumption))) ?_); intro u) | ((with_reducible refine wp_region_later ?_ ?_ ?_); (· kernel_rfl); (· kernel_rfl); (repeat (go_big_quiet_step ((first | (go_at_call 79; (with_reducible exact call_quiet (HB2.out _ (by repeat (first | with_reducible exact Grew.refl _ | with_reducible apply Grew.alloc | with_reducible apply Grew.later | with_reducible apply Grew.drew | with_reducible apply Grew.store | with_reducible assumption))))))))); refine wpQuiet_nil ?_; rintro _ ⟨u, rfl⟩))
      rw [rounds_succ]
      go_wp2
      go_ret
      exact ⟨rfl, (by repeat (first | with_reducible exact Grew.refl _ | with_reducible apply Grew.alloc | with_reducible apply Grew.later | with_reducible apply Grew.drew | with_reducible apply Grew.store | with_reducible assumption))⟩
theorem term_mul (w : World) : TermOk2 108 #[] mul2 w := fun w x _ => by
  obtain ⟨⟨a, ha⟩, ⟨b, hb⟩⟩ := x
  show Calls Tryz.prog 108 #[.agg #[.int .i64 a.lo, .int .i64 a.hi, .int .i64 b.lo, .int .i64 b.hi]] w fun e w' => e = .returned (.tuple #[.agg #[.int .i64 (mulR a b).s.lo, .int .i64 (mulR a b).s.hi], .int .i64 (mulR a b).e]) ∧ Grew w w'
  go_enter Tryz.func108, Tryz.ntmps108
  go_wp2_with (first | (go_at_call 109; (with_reducible refine call_later (spMul_any a b _) ?_); intro u) | ((with_reducible refine wp_region_later ?_ ?_ ?_); (· kernel_rfl); (· kernel_rfl); (repeat (go_big_quiet_step ((first | (go_at_call 109; (with_reducible exact call_quiet (spMul_any a b _))))))); refine wpQuiet_nil ?_; rintro _ ⟨u, rfl⟩))
  refine bodyPost_ret (by (simp [results, Tryz.results108, go_sem] <;> rfl)) rfl ?_
  exact ⟨rfl, (by repeat (first | with_reducible exact Grew.refl _ | with_reducible apply Grew.alloc | with_reducible apply Grew.later | with_reducible apply Grew.drew | with_reducible apply Grew.store | with_reducible assumption))⟩
theorem infoPair : (Tryz.prog.info? 135).map (fun i => (i.zero, i.size, i.bytes)) = some (some (.agg #[.int .i64 0, .int .i64 0, .int .i64 0, .int .i64 0]), 4, 32) := by kernel_rfl
theorem make_pairs (w : World) : (Instr.makeSlice 134 (.int .i64 3) (.int .i64 3)).run Tryz.prog w = .ok (.slice (some ⟨w.heap.size, 0, none⟩) 3 3) (w.alloc (.cells #[.int .i64 0, .int .i64 0, .int .i64 0, .int .i64 0, .int .i64 0, .int .i64 0, .int .i64 0, .int .i64 0, .int .i64 0, .int .i64 0, .int .i64 0, .int .i64 0] 135)) := by
  obtain ⟨i0, hi, hz0, hz1, hz2⟩ := info_parts infoPair
  have := run_make (P := Tryz.prog) w 134 135 i0 _ Tryz.underlying134 hi hz0 .i64 .i64 3 3 (by omega) (by omega) (by rw [hz2]; decide) (by omega)
  rw [hz1] at this
  refine this.trans ?_
  kernel_rfl
def pairsOf (a b : Bx) (ha : B64 a) (hb : B64 b) : List Px := [(⟨a.x, ha.x⟩, ⟨b.x, hb.x⟩), (⟨a.y, ha.y⟩, ⟨b.y, hb.y⟩), (⟨a.z, ha.z⟩, ⟨b.z, hb.z⟩)]
theorem spDot_box (a b : Bx) [ha : B64 a] [hb : B64 b] (ao1 ao2 : Option Addr) (w : World) (hs1 : SlAt w (.slice ao1 3 3) 3 [.int .i64 a.x.lo, .int .i64 a.x.hi, .int .i64 a.y.lo, .int .i64 a.y.hi, .int .i64 a.z.lo, .int .i64 a.z.hi]) (hs2 : SlAt w (.slice ao2 3 3) 3 [.int .i64 b.x.lo, .int .i64 b.x.hi, .int .i64 b.y.lo, .int .i64 b.y.hi, .int .i64 b.z.lo, .int .i64 b.z.hi]) : Calls Tryz.prog 51 #[.slice ao1 3 3, .slice ao2 3 3] w fun e w' => e = .returned (.tuple #[.agg #[.int .i64 (dotBR a b).s.lo, .int .i64 (dotBR a b).s.hi], .int .i64 (dotBR a b).e]) ∧ Grew w w' := by
  have HF := Lib.hid (fun bb w' (g : Grew w w') (hc1 : w'.cell? ⟨bb, 0, none⟩ = some (.slice ao1 3 3)) (hc2 : w'.cell? ⟨bb, 1, none⟩ = some (.slice ao2 3 3)) => few2_any a.list b.list ao1 ao2 3 3 bb w' (by simp [Bx.list]) (by simp [Bx.list]) hc1 hc2 (hs1.grew g) (hs2.grew g))
  rw [list_ok, list_ok] at HF
  cases hok : (a.okB && b.okB)
  · have Hn := Lib.hid (show dotBR a b = errR 2 by unfold dotBR; rw [hok]; rfl)
    have HF2 := Lib.hid (fun bb w' g h1 h2 => is_int (show codeB (a.okB && b.okB) 2 = 2 by rw [hok]; rfl) (HF.out bb w' g h1 h2))
    clear HF hok hs1 hs2
    go_enter Tryz.func51, Tryz.ntmps51
    go_wp2_with (first | (go_at_call 96; (with_reducible refine call_later (HF2.out _ _ (by repeat (first | with_reducible exact Grew.refl _ | with_reducible apply Grew.alloc | with_reducible apply Grew.later | with_reducible apply Grew.drew | with_reducible apply Grew.store | with_reducible assumption)) (by go_simp) (by go_simp)) ?_); intro u) | ((with_reducible refine wp_region_later ?_ ?_ ?_); (· kernel_rfl); (· kernel_rfl); (repeat (go_big_quiet_step ((first | (go_at_call 96; (with_reducible exact call_quiet (HF2.out _ _ (by repeat (first | with_reducible exact Grew.refl _ | with_reducible apply Grew.alloc | with_reducible apply Grew.later | with_reducible apply Grew.drew | with_reducible apply Grew.store | with_reducible assumption)) (by go_simp) (by go_simp)))))))); refine wpQuiet_nil ?_; rintro _ ⟨u, rfl⟩))
    refine bodyPost_ret (by (simp [results, Tryz.results51, go_sem] <;> rfl)) rfl ?_
    exact ⟨ret_err Hn.out.symm rfl, (by repeat (first | with_reducible exact Grew.refl _ | with_reducible apply Grew.alloc | with_reducible apply Grew.later | with_reducible apply Grew.drew | with_reducible apply Grew.store | with_reducible assumption))⟩
  · have Hn := Lib.hid (show dotBR a b = foldR mul2 z0 (a.terms b) by unfold dotBR; rw [hok]; rfl)
    have HF2 := Lib.hid (fun bb w' g h1 h2 => is_int (show codeB (a.okB && b.okB) 2 = 0 by rw [hok]; rfl) (HF.out bb w' g h1 h2))
    obtain ⟨ao1', cap1', e1, -, hx1⟩ := hs1
    cases e1
    obtain ⟨ao2', cap2', e2, -, hx2⟩ := hs2
    cases e2
    obtain ⟨b1, o1, rfl, hc0⟩ := hx1 0 _ rfl
    obtain ⟨_, _, q, hc1⟩ := hx1 1 _ rfl
    cases q
    obtain ⟨_, _, q, hc2⟩ := hx1 2 _ rfl
    cases q
    obtain ⟨_, _, q, hc3⟩ := hx1 3 _ rfl
    cases q
    obtain ⟨_, _, q, hc4⟩ := hx1 4 _ rfl
    cases q
    obtain ⟨_, _, q, hc5⟩ := hx1 5 _ rfl
    cases q
    obtain ⟨b2, o2, rfl, hd0⟩ := hx2 0 _ rfl
    obtain ⟨_, _, q, hd1⟩ := hx2 1 _ rfl
    cases q
    obtain ⟨_, _, q, hd2⟩ := hx2 2 _ rfl
    cases q
    obtain ⟨_, _, q, hd3⟩ := hx2 3 _ rfl
    cases q
    obtain ⟨_, _, q, hd4⟩ := hx2 4 _ rfl
    cases q
    obtain ⟨_, _, q, hd5⟩ := hx2 5 _ rfl
    cases q
    rw [Nat.add_zero] at hc0 hd0
    have i1 : BlockIn w b1 := BlockIn.of_cell hc0
    have i2 : BlockIn w b2 := BlockIn.of_cell hd0
    have hmk := make_pairs
    have Hfold := Lib.hid (fun Bs v w' (hc : w'.cell? ⟨Bs, 0, none⟩ = some v) (hs : SlAt w' v 3 ((pairsOf a b ha hb).flatMap Px.cells)) => show (fun w => Calls Tryz.prog 106 #[.func (.func 147) #[] #[.pointer (some ⟨Bs, 0, none⟩)], .func (.func 108) #[] #[]] w fun e w' => e = .returned (.tuple #[.agg #[.int .i64 (foldR mul2 z0 (a.terms b)).s.lo, .int .i64 (foldR mul2 z0 (a.terms b)).s.hi], .int .i64 (foldR mul2 z0 (a.terms b)).e]) ∧ Grew w w') w' from
      by
        have := fold2_any mul2 (fun x => by unfold mul2; infer_instance) 108 #[] (enters_of Tryz.func108 (by kernel_rfl) rfl) (pairsOf a b ha hb) Bs v w' hc hs (term_mul w')
        rw [show (pairsOf a b ha hb).map Px.ss = a.terms b from rfl] at this
        exact this)
    clear HF hok hx1 hx2
    go_enter Tryz.func51, Tryz.ntmps51
    go_wp2_with (first | (go_at_call 96; (with_reducible refine call_later (HF2.out _ _ (by repeat (first | with_reducible exact Grew.refl _ | with_reducible apply Grew.alloc | with_reducible apply Grew.later | with_reducible apply Grew.drew | with_reducible apply Grew.store | with_reducible assumption)) (by go_simp) (by go_simp)) ?_); intro u) | ((with_reducible refine wp_region_later ?_ ?_ ?_); (· kernel_rfl); (· kernel_rfl); (repeat (go_big_quiet_step ((first | (go_at_call 96; (with_reducible exact call_quiet (HF2.out _ _ (by repeat (first | with_reducible exact Grew.refl _ | with_reducible apply Grew.alloc | with_reducible apply Grew.later | with_reducible apply Grew.drew | with_reducible apply Grew.store | with_reducible assumption)) (by go_simp) (by go_simp)))))))); refine wpQuiet_nil ?_; rintro _ ⟨u, rfl⟩))
    refine wp_loop_rounds 4 ?_
    rw [rounds_succ]
    go_wp2
    go_region_held3 (fun w' => w'.cell? ⟨b1, o1, none⟩ = some (.int .i64 a.x.lo) ∧ w'.cell? ⟨b1, o1 + 1, none⟩ = some (.int .i64 a.x.hi) ∧ w'.cell? ⟨b2, o2, none⟩ = some (.int .i64 b.x.lo) ∧ w'.cell? ⟨b2, o2 + 1, none⟩ = some (.int .i64 b.x.hi)) (exact ⟨by (first | (go_simp; done)), by (first | (go_simp; done)), by (first | (go_simp; done)), by (first | (go_simp; done))⟩) (fail)
    go_wp2
    rw [rounds_succ]
    go_wp2
    go_region_held3 (fun w' => w'.cell? ⟨b1, o1 + 2, none⟩ = some (.int .i64 a.y.lo) ∧ w'.cell? ⟨b1, o1 + 3, none⟩ = some (.int .i64 a.y.hi) ∧ w'.cell? ⟨b2, o2 + 2, none⟩ = some (.int .i64 b.y.lo) ∧ w'.cell? ⟨b2, o2 + 3, none⟩ = some (.int .i64 b.y.hi)) (exact ⟨by (first | (go_simp; done)), by (first | (go_simp; done)), by (first | (go_simp; done)), by (first | (go_simp; done))⟩) (fail)
    go_wp2
    rw [rounds_succ]
    go_wp2
    go_region_held3 (fun w' => w'.cell? ⟨b1, o1 + 4, none⟩ = some (.int .i64 a.z.lo) ∧ w'.cell? ⟨b1, o1 + 5, none⟩ = some (.int .i64 a.z.hi) ∧ w'.cell? ⟨b2, o2 + 4, none⟩ = some (.int .i64 b.z.lo) ∧ w'.cell? ⟨b2, o2 + 5, none⟩ = some (.int .i64 b.z.hi)) (exact ⟨by (first | (go_simp; done)), by (first | (go_simp; done)), by (first | (go_simp; done)), by (first | (go_simp; done))⟩) (fail)
    go_wp2
    rw [rounds_succ]
    have S3 := Lib.hid (SlAt.fresh (w := u.world) (m := u.world.heap.size) [.int .i64 a.x.lo, .int .i64 a.x.hi, .int .i64 b.x.lo, .int .i64 b.x.hi, .int .i64 a.y.lo, .int .i64 a.y.hi, .int .i64 b.y.lo, .int .i64 b.y.hi, .int .i64 a.z.lo, .int .i64 a.z.hi, .int .i64 b.z.lo, .int .i64 b.z.hi] 135 3 3 (by simp [maxLen]))
    go_wp2_with (first | (first | (go_at_call 107; refine (spAll2_any _ _ _ _).mono ?_; rintro e w' ⟨rfl, rfl⟩) | (go_at_call 106; go_loud (refine call_later (Hfold.out _ _ _ (by go_simp) (S3.out.grew (by repeat (first | with_reducible exact Grew.refl _ | with_reducible apply Grew.alloc | with_reducible apply Grew.later | with_reducible apply Grew.drew | with_reducible apply Grew.store | with_reducible assumption)))) ?_; intro u5))) | ((with_reducible refine wp_region_later ?_ ?_ ?_); (· kernel_rfl); (· kernel_rfl); (repeat (go_big_quiet_step (fail))); refine wpQuiet_nil ?_; rintro _ ⟨u, rfl⟩))
    refine bodyPost_ret (by (simp [results, Tryz.results51, go_sem] <;> rfl)) rfl ?_
    exact ⟨ret_res (by rw [Hn.out]), (by repeat (first | with_reducible exact Grew.refl _ | with_reducible apply Grew.alloc | with_reducible apply Grew.later | with_reducible apply Grew.drew | with_reducible apply Grew.store | with_reducible assumption))⟩
end Go.Proofs.YtochpnomfedhoaaGreat
