/-
  Contracts: flight.calc's mul, div, square; Speed, Climb (flight, ullageref03).
-/
import Derived.Test.YtnedbhdokljpcaaGreatFlightCalc
import Derived.Test.YtnedbhdokljpcaaGreatSpanDivs
import Derived.Test.YtnedbhdokljpcaaGreatRefDot
import Derived.Test.YtnedbhdokljpcaaGreatRefDivs
import Derived.Test.YtnedbhdokljpcaaGreatFlightOks
namespace Go.Proofs.YtnedbhdokljpcaaGreat
open Go.RowKit Go.Shelf
set_option maxRecDepth 100000
set_option maxHeartbeats 8000000
theorem bin_div : BinOk 110 divR := fun w a b _ _ => spDiv_any a b w
theorem cDiv_any (c : Nat) (e : Int) (a b : Sp) [ha : S64 a] [hb : S64 b] (w : World) (hc : w.cell? ⟨c, 0, none⟩ = some (.int .i64 e)) (hf : w.frozen? ⟨c, 0, none⟩ = false) :
    Calls Tryz.prog 45 #[.pointer (some ⟨c, 0, none⟩), .agg #[.int .i64 a.lo, .int .i64 a.hi], .agg #[.int .i64 b.lo, .int .i64 b.hi]] w (RetC c (.agg #[.int .i64 ((doR e (divR a b)).s).lo, .int .i64 ((doR e (divR a b)).s).hi]) (doR e (divR a b)).e w) := by
  have ib : BlockIn w c := BlockIn.of_cell hc
  have hci : HasCell w c 0 := ⟨_, hc⟩
  have Hb := Lib.hid (But.refl hc)
  have Hc := Lib.hid hc
  go_enter Tryz.func45, Tryz.ntmps45
  go_wp2_with (go_at_call 97; refine call_calc (cDo_any 110 divR (enters_of Tryz.func110 (by kernel_rfl) rfl) bin_div c e a b _ (by go_simp) (by go_simp)) ?_; intro u)
  refine bodyPost_ret (by (simp [results, Tryz.results45, go_sem] <;> rfl)) rfl ?_
  exact ⟨rfl, But.out (by repeat (first | with_reducible exact Hb.out | with_reducible apply But.alloc | with_reducible apply But.later | with_reducible apply But.drew | with_reducible apply But.put | with_reducible apply But.store)) Hc.out (by go_simp)⟩
theorem bin_mul : BinOk 114 mulR := fun w a b _ _ => spMul_any a b w
theorem cMul_any (c : Nat) (e : Int) (a b : Sp) [ha : S64 a] [hb : S64 b] (w : World) (hc : w.cell? ⟨c, 0, none⟩ = some (.int .i64 e)) (hf : w.frozen? ⟨c, 0, none⟩ = false) :
    Calls Tryz.prog 53 #[.pointer (some ⟨c, 0, none⟩), .agg #[.int .i64 a.lo, .int .i64 a.hi], .agg #[.int .i64 b.lo, .int .i64 b.hi]] w (RetC c (.agg #[.int .i64 ((doR e (mulR a b)).s).lo, .int .i64 ((doR e (mulR a b)).s).hi]) (doR e (mulR a b)).e w) := by
  have ib : BlockIn w c := BlockIn.of_cell hc
  have hci : HasCell w c 0 := ⟨_, hc⟩
  have Hb := Lib.hid (But.refl hc)
  have Hc := Lib.hid hc
  go_enter Tryz.func53, Tryz.ntmps53
  go_wp2_with (go_at_call 97; refine call_calc (cDo_any 114 mulR (enters_of Tryz.func114 (by kernel_rfl) rfl) bin_mul c e a b _ (by go_simp) (by go_simp)) ?_; intro u)
  refine bodyPost_ret (by (simp [results, Tryz.results53, go_sem] <;> rfl)) rfl ?_
  exact ⟨rfl, But.out (by repeat (first | with_reducible exact Hb.out | with_reducible apply But.alloc | with_reducible apply But.later | with_reducible apply But.drew | with_reducible apply But.put | with_reducible apply But.store)) Hc.out (by go_simp)⟩
theorem cSquare_any (c : Nat) (e : Int) (a : Sp) [ha : S64 a] (w : World) (hc : w.cell? ⟨c, 0, none⟩ = some (.int .i64 e)) (hf : w.frozen? ⟨c, 0, none⟩ = false) :
    Calls Tryz.prog 54 #[.pointer (some ⟨c, 0, none⟩), .agg #[.int .i64 a.lo, .int .i64 a.hi]] w (RetC c (.agg #[.int .i64 ((doR e (squareR a)).s).lo, .int .i64 ((doR e (squareR a)).s).hi]) (doR e (squareR a)).e w) := by
  have ib : BlockIn w c := BlockIn.of_cell hc
  have hci : HasCell w c 0 := ⟨_, hc⟩
  have Hb := Lib.hid (But.refl hc)
  have Hc := Lib.hid hc
  go_enter Tryz.func54, Tryz.ntmps54
  go_wp2_with (first | (go_at_call 105; (with_reducible refine call_later (spSquare_any a _) ?_); intro u) | (go_at_call 46; refine call_calc (cKeep_any c e (squareR a) _ (by go_simp) (by go_simp)) ?_; intro u) | ((with_reducible refine wp_region_later ?_ ?_ ?_); (· kernel_rfl); (· kernel_rfl); (try simp only [List.append_eq, List.cons_append, List.nil_append]); (repeat (go_big_quiet_step ((first | (go_at_call 105; (with_reducible exact call_quiet (spSquare_any a _))))))); refine wpQuiet_nil ?_; rintro _ ⟨u, rfl⟩))
  refine bodyPost_ret (by (simp [results, Tryz.results54, go_sem] <;> rfl)) rfl ?_
  exact ⟨rfl, But.out (by repeat (first | with_reducible exact Hb.out | with_reducible apply But.alloc | with_reducible apply But.later | with_reducible apply But.drew | with_reducible apply But.put | with_reducible apply But.store)) Hc.out (by go_simp)⟩
/-- A call that leaves the calculation as it is. -/
theorem retc_of {P : Program} {f : FuncId} {args : Array Value} {w : World} {c : Nat} {e : Int} {v : Value} (h : Calls P f args w fun en w' => en = .returned v ∧ Grew w w') (hc : w.cell? ⟨c, 0, none⟩ = some (.int .i64 e)) : Calls P f args w (RetC c v e w) :=
  h.mono fun _ w' ⟨he, g⟩ => ⟨he, ⟨w', g⟩, (setCell_same (g.cell hc)).symm⟩
theorem flSpeed_any (v : Bx) [hv : B64 v] (w : World) : Calls Tryz.prog 10 #[.agg #[.int .i64 v.x.lo, .int .i64 v.x.hi, .int .i64 v.y.lo, .int .i64 v.y.hi, .int .i64 v.z.lo, .int .i64 v.z.hi]] w fun e w' => e = .returned (.tuple #[.agg #[.int .i64 (normR v.list).s.lo, .int .i64 (normR v.list).s.hi], .int .i64 (normR v.list).e]) ∧ Grew w w' := by
  have S1 := Lib.hid (SlAt.fresh (w := w) (m := w.heap.size) [.int .i64 v.x.lo, .int .i64 v.x.hi, .int .i64 v.y.lo, .int .i64 v.y.hi, .int .i64 v.z.lo, .int .i64 v.z.hi] 26 3 3 (by simp [maxLen]))
  have H1 := Lib.hid (fun w h => spNorm_box v (some ⟨w.heap.size, 0, none⟩) w h)
  clear H1
  go_enter Tryz.func10, Tryz.ntmps10
  go_wp2_with (first | (go_at_call 43; (with_reducible refine call_later (spNorm_box v _ _ (S1.out.grew (by repeat (first | with_reducible exact Grew.refl _ | with_reducible apply Grew.alloc | with_reducible apply Grew.later | with_reducible apply Grew.drew | with_reducible apply Grew.store | with_reducible assumption)))) ?_); intro u) | ((with_reducible refine wp_region_later ?_ ?_ ?_); (· kernel_rfl); (· kernel_rfl); (try simp only [List.append_eq, List.cons_append, List.nil_append]); (repeat (go_big_quiet_step ((first | (go_at_call 43; (with_reducible exact call_quiet (spNorm_box v _ _ (S1.out.grew (by repeat (first | with_reducible exact Grew.refl _ | with_reducible apply Grew.alloc | with_reducible apply Grew.later | with_reducible apply Grew.drew | with_reducible apply Grew.store | with_reducible assumption)))))))))); refine wpQuiet_nil ?_; rintro _ ⟨u, rfl⟩))
  refine bodyPost_ret (by (simp [results, Tryz.results10, go_sem] <;> rfl)) rfl ?_
  exact ⟨rfl, (by repeat (first | with_reducible exact Grew.refl _ | with_reducible apply Grew.alloc | with_reducible apply Grew.later | with_reducible apply Grew.drew | with_reducible apply Grew.store | with_reducible assumption))⟩
theorem r3Speed_any (v : Bx) [hv : B64 v] (w : World) : Calls Tryz.prog 11 #[.agg #[.int .i64 v.x.lo, .int .i64 v.x.hi, .int .i64 v.y.lo, .int .i64 v.y.hi, .int .i64 v.z.lo, .int .i64 v.z.hi]] w fun e w' => e = .returned (.tuple #[.agg #[.int .i64 (normR v.list).s.lo, .int .i64 (normR v.list).s.hi], .int .i64 (normR v.list).e]) ∧ Grew w w' := by
  go_enter Tryz.func11, Tryz.ntmps11
  go_wp2_with (first | (go_at_call 44; (with_reducible refine call_later (rNorm_box v _ _ (SlAt.fresh _ _ _ _ (by simp [maxLen]))) ?_); intro u) | ((with_reducible refine wp_region_later ?_ ?_ ?_); (· kernel_rfl); (· kernel_rfl); (try simp only [List.append_eq, List.cons_append, List.nil_append]); (repeat (go_big_quiet_step ((first | (go_at_call 44; (with_reducible exact call_quiet (rNorm_box v _ _ (SlAt.fresh _ _ _ _ (by simp [maxLen]))))))))); refine wpQuiet_nil ?_; rintro _ ⟨u, rfl⟩))
  refine bodyPost_ret (by (simp [results, Tryz.results11, go_sem] <;> rfl)) rfl ?_
  exact ⟨rfl, (by repeat (first | with_reducible exact Grew.refl _ | with_reducible apply Grew.alloc | with_reducible apply Grew.later | with_reducible apply Grew.drew | with_reducible apply Grew.store | with_reducible assumption))⟩
def clN (p v : Bx) : Res := doR (dotBR p v).e (normR p.list)
def climbV (p v : Bx) : Res := doR (clN p v).e (divR (dotBR p v).s (clN p v).s)
def climbR (p v : Bx) : Res := if p.okB && v.okB then climbV p v else errR 2
theorem fit_z {x y : Int} (h : (fitR x y).e ≠ 0) : (fitR x y).s = z0 := by
  unfold fitR at h ⊢
  split
  · rename_i h1; rw [if_pos h1] at h; exact absurd rfl h
  · rfl
theorem divR_z (a b : Sp) (h : (divR a b).e ≠ 0) : (divR a b).s = z0 := by
  unfold divR at h ⊢
  split
  · rename_i h1
    rw [if_pos h1] at h
    split
    · rfl
    · rename_i h2
      rw [if_neg h2] at h
      exact fit_z h
  · rfl
theorem climbV_z (p v : Bx) (h : (climbV p v).e ≠ 0) : climbV p v = errR (climbV p v).e := by
  unfold climbV at h ⊢
  generalize hr : divR (dotBR p v).s (clN p v).s = r at *
  by_cases he : (clN p v).e = 0
  · rw [he, doR_ok] at h ⊢
    have := divR_z (dotBR p v).s (clN p v).s (by rw [hr]; exact h)
    rw [hr] at this
    obtain ⟨s, x⟩ := r
    simp only at this
    rw [this]
    rfl
  · rw [doR_bad r he]; rfl
theorem s64_dotS (a b : Bx) : S64 (dotBR a b).s := by
  unfold dotBR
  split
  · exact s64_foldR mul2 (fun x => by unfold mul2; infer_instance) _ _ inferInstance
  · exact s64_err _
instance s64_clN (p v : Bx) : S64 (clN p v).s := by unfold clN; infer_instance
theorem flClimb_any (p v : Bx) [hp : B64 p] [hv : B64 v] (w : World) : Calls Tryz.prog 12 #[.agg #[.int .i64 p.x.lo, .int .i64 p.x.hi, .int .i64 p.y.lo, .int .i64 p.y.hi, .int .i64 p.z.lo, .int .i64 p.z.hi], .agg #[.int .i64 v.x.lo, .int .i64 v.x.hi, .int .i64 v.y.lo, .int .i64 v.y.hi, .int .i64 v.z.lo, .int .i64 v.z.hi]] w fun e w' => e = .returned (.tuple #[.agg #[.int .i64 (climbR p v).s.lo, .int .i64 (climbR p v).s.hi], .int .i64 (climbR p v).e]) ∧ Grew w w' := by
  cases h1 : (p.okB && v.okB)
  · have HR := Lib.hid (show errR 2 = climbR p v by unfold climbR; rw [h1]; rfl)
    go_enter Tryz.func12, Tryz.ntmps12
    go_wp2_with (first | (go_at_call 36; (with_reducible refine call_later (is_bool h1 (flBoxes_two p v _ _ (SlAt.fresh _ _ _ _ (by simp [maxLen])))) ?_); intro u) | ((with_reducible refine wp_region_later ?_ ?_ ?_); (· kernel_rfl); (· kernel_rfl); (try simp only [List.append_eq, List.cons_append, List.nil_append]); (repeat (go_big_quiet_step ((first | (go_at_call 36; (with_reducible exact call_quiet (is_bool h1 (flBoxes_two p v _ _ (SlAt.fresh _ _ _ _ (by simp [maxLen])))))))))); refine wpQuiet_nil ?_; rintro _ ⟨u, rfl⟩))
    refine bodyPost_ret (by (simp [results, Tryz.results12, go_sem] <;> rfl)) rfl ?_
    exact ⟨ret_err HR.out rfl, (by repeat (first | with_reducible exact Grew.refl _ | with_reducible apply Grew.alloc | with_reducible apply Grew.later | with_reducible apply Grew.drew | with_reducible apply Grew.store | with_reducible assumption))⟩
  · have HR := Lib.hid (show climbV p v = climbR p v by unfold climbR; rw [h1]; rfl)
    have S1 := Lib.hid (SlAt.fresh (w := w) (m := w.heap.size) [.int .i64 p.x.lo, .int .i64 p.x.hi, .int .i64 p.y.lo, .int .i64 p.y.hi, .int .i64 p.z.lo, .int .i64 p.z.hi] 26 3 3 (by simp [maxLen]))
    have S2 := Lib.hid (SlAt.fresh (w := w.alloc (.cells [.int .i64 p.x.lo, .int .i64 p.x.hi, .int .i64 p.y.lo, .int .i64 p.y.hi, .int .i64 p.z.lo, .int .i64 p.z.hi].toArray 26)) (m := w.heap.size + 1) [.int .i64 v.x.lo, .int .i64 v.x.hi, .int .i64 v.y.lo, .int .i64 v.y.hi, .int .i64 v.z.lo, .int .i64 v.z.hi] 26 3 3 (by simp [maxLen]))
    have K1 := Lib.hid (fun w h1 h2 => spDot_box p v (some ⟨w.heap.size, 0, none⟩) (some ⟨w.heap.size, 0, none⟩) w h1 h2)
    clear K1
    have sdt : S64 (dotBR p v).s := s64_dotS p v
    have K2 := Lib.hid (fun c w hc hf => show Calls Tryz.prog 46 #[.pointer (some ⟨c, 0, none⟩), .agg #[.int .i64 ((dotBR p v).s).lo, .int .i64 ((dotBR p v).s).hi], .int .i64 (dotBR p v).e] w (RetC c (.agg #[.int .i64 ((dotBR p v).s).lo, .int .i64 ((dotBR p v).s).hi]) (dotBR p v).e w) from cKeep_any c 0 (dotBR p v) w hc hf)
    have K3 := Lib.hid (fun c w hc hf => show Calls Tryz.prog 38 #[.pointer (some ⟨c, 0, none⟩), .agg #[.int .i64 p.x.lo, .int .i64 p.x.hi, .int .i64 p.y.lo, .int .i64 p.y.hi, .int .i64 p.z.lo, .int .i64 p.z.hi]] w (RetC c (.agg #[.int .i64 ((clN p v).s).lo, .int .i64 ((clN p v).s).hi]) (clN p v).e w) from cNorm_any c (dotBR p v).e p w hc hf)
    have K4 := Lib.hid (fun c w hc hf => show Calls Tryz.prog 45 #[.pointer (some ⟨c, 0, none⟩), .agg #[.int .i64 ((dotBR p v).s).lo, .int .i64 ((dotBR p v).s).hi], .agg #[.int .i64 ((clN p v).s).lo, .int .i64 ((clN p v).s).hi]] w (RetC c (.agg #[.int .i64 ((climbV p v).s).lo, .int .i64 ((climbV p v).s).hi]) (climbV p v).e w) from cDiv_any c (clN p v).e (dotBR p v).s (clN p v).s w hc hf)
    go_enter Tryz.func12, Tryz.ntmps12
    go_wp2_with (first | (go_at_call 36; (with_reducible refine call_later (is_bool h1 (flBoxes_two p v _ _ (SlAt.fresh _ _ _ _ (by simp [maxLen])))) ?_); intro u) | ((with_reducible refine wp_region_later ?_ ?_ ?_); (· kernel_rfl); (· kernel_rfl); (try simp only [List.append_eq, List.cons_append, List.nil_append]); (repeat (go_big_quiet_step ((first | (go_at_call 36; (with_reducible exact call_quiet (is_bool h1 (flBoxes_two p v _ _ (SlAt.fresh _ _ _ _ (by simp [maxLen])))))))))); refine wpQuiet_nil ?_; rintro _ ⟨u, rfl⟩))
    have nwc : NewFor w u.world.heap.size := inferInstance
    refine wp_region_calc (u.world.heap.size) [0, 0, (dotBR p v).e, (clN p v).e, (climbV p v).e] 13 [12] [4, 7, 10, 11] [] (fun W0 => [(12, BoxR W0 [.int .i64 0, .int .i64 0])]) [.tuple #[.agg #[.int .i64 ((dotBR p v).s).lo, .int .i64 ((dotBR p v).s).hi], .int .i64 (dotBR p v).e], .agg #[.int .i64 ((dotBR p v).s).lo, .int .i64 ((dotBR p v).s).hi], .agg #[.int .i64 ((clN p v).s).lo, .int .i64 ((clN p v).s).hi], .agg #[.int .i64 ((climbV p v).s).lo, .int .i64 ((climbV p v).s).hi]] [13] (by rfl) (by go_simp) (by go_simp) (by intro W0 hW0 x hx; simp only [List.mem_cons, List.not_mem_nil, or_false] at hx; rcases hx with rfl <;> first | exact goodc_box _ _ hW0 _) (by kernel_rfl) (by kernel_rfl) (by kernel_rfl) ?_
    intro pz hd0
    apply Exists.intro
    apply And.intro
    apply lexc_pure hd0 (by kernel_rfl)
    · intro uz xc; unfold opPure; go_simp; rfl
    apply lexc_pure hd0 (by kernel_rfl)
    · intro uz xc; unfold opPure; go_simp; rfl
    apply lexc_pure hd0 (by kernel_rfl)
    · intro uz xc; unfold opPure; go_simp; rfl
    apply lexc_pure hd0 (by kernel_rfl)
    · intro uz xc; unfold opPure; go_simp; rfl
    apply lexc_call hd0 0 (by kernel_rfl) (by rfl) (by decide)
    · intro uz hfz hF; clear hF; unfold opCall; go_simp; exact retc_of (spDot_box p v _ _ _ (S1.out.grew (by repeat (first | with_reducible exact Grew.refl _ | with_reducible apply Grew.alloc | with_reducible apply Grew.later | with_reducible apply Grew.drew | with_reducible apply Grew.store | with_reducible assumption))) (S2.out.grew (by repeat (first | with_reducible exact Grew.refl _ | with_reducible apply Grew.alloc | with_reducible apply Grew.later | with_reducible apply Grew.drew | with_reducible apply Grew.store | with_reducible assumption)))) (by go_simp)
    apply lexc_pure hd0 (by kernel_rfl)
    · intro uz xc; unfold opPure; go_simp; rfl
    apply lexc_pure hd0 (by kernel_rfl)
    · intro uz xc; unfold opPure; go_simp; rfl
    apply lexc_call hd0 1 (by kernel_rfl) (by rfl) (by decide)
    · intro uz hfz hF; clear hF; unfold opCall; go_simp; exact K2.out _ _ (by go_simp) hfz
    apply lexc_pure hd0 (by kernel_rfl)
    · intro uz xc; unfold opPure; go_simp; rfl
    apply lexc_pure hd0 (by kernel_rfl)
    · intro uz xc; unfold opPure; go_simp; rfl
    apply lexc_call hd0 2 (by kernel_rfl) (by rfl) (by decide)
    · intro uz hfz hF; clear hF; unfold opCall; go_simp; exact K3.out _ _ (by go_simp) hfz
    apply lexc_call hd0 3 (by kernel_rfl) (by rfl) (by decide)
    · intro uz hfz hF; clear hF; unfold opCall; go_simp; exact K4.out _ _ (by go_simp) hfz
    apply lexc_make hd0 (by kernel_rfl)
    · intro uz xc hF; clear hF; unfold opMake; go_simp; refine (show Made (BoxR _ [.int .i64 0, .int .i64 0]) _ _ _ from ?_); exact madec_box _ _ _ _
    apply lexc_end
    rotate_left
    · rfl
    intro uz hR hD hfz
    obtain ⟨q12, e12, hB12, kB12, nB12⟩ := (show BoxR _ [.int .i64 0, .int .i64 0] (pz 12) _ from hR 12 (by decide))
    clear hR hD
    rw [e12]
    clear e12
    have oB12 := apart_oldL nB12
    have oC12 := apart_oldR nB12
    have hB12 := boxAt_cw hB12 hd0 nB12
    have kB12 := blockIn_cw kB12
    have hB12_0 := (hB12 0 _ rfl).1
    have hB12f0 := (hB12 0 _ rfl).2
    have hB12i0 : HasCell (uz.world) (q12) 0 := ⟨_, hB12_0⟩
    have hB12_1 := (hB12 1 _ rfl).1
    have hB12f1 := (hB12 1 _ rfl).2
    have hB12i1 : HasCell (uz.world) (q12) 1 := ⟨_, hB12_1⟩
    have hB12b : BlockIn (uz.world) (q12) := BlockIn.of_cell hB12_0
    clear hB12
    refine tail_store (by rfl) ?_; unfold opStore; go_simp
    refine tail_end ?_
    have nw12 : NewFor w q12 := ⟨Nat.le_trans nwc.le (by have := nB12.le; simp at this; omega)⟩
    go_wp2
    go_region
    all_goals go_wp2
    all_goals
      refine bodyPost_ret (by (simp [results, Tryz.results12, go_sem] <;> rfl)) rfl ?_
      exact ⟨ret_res (by rw [← HR.out]), (by repeat (first | with_reducible exact Grew.refl _ | with_reducible apply Grew.alloc | with_reducible apply Grew.later | with_reducible apply Grew.drew | with_reducible apply Grew.store | with_reducible assumption))⟩
theorem r3Climb_any (p v : Bx) [hp : B64 p] [hv : B64 v] (w : World) : Calls Tryz.prog 13 #[.agg #[.int .i64 p.x.lo, .int .i64 p.x.hi, .int .i64 p.y.lo, .int .i64 p.y.hi, .int .i64 p.z.lo, .int .i64 p.z.hi], .agg #[.int .i64 v.x.lo, .int .i64 v.x.hi, .int .i64 v.y.lo, .int .i64 v.y.hi, .int .i64 v.z.lo, .int .i64 v.z.hi]] w fun e w' => e = .returned (.tuple #[.agg #[.int .i64 (climbR p v).s.lo, .int .i64 (climbR p v).s.hi], .int .i64 (climbR p v).e]) ∧ Grew w w' := by
  cases h1 : p.okB
  · have HR := Lib.hid (show errR 2 = climbR p v by unfold climbR; rw [h1]; rfl)
    go_enter Tryz.func13, Tryz.ntmps13
    go_wp2_with (first | (go_at_call 39; (with_reducible refine call_later (is_bool h1 (r3Box_any p _)) ?_); intro u) | ((with_reducible refine wp_region_later ?_ ?_ ?_); (· kernel_rfl); (· kernel_rfl); (try simp only [List.append_eq, List.cons_append, List.nil_append]); (repeat (go_big_quiet_step ((first | (go_at_call 39; (with_reducible exact call_quiet (is_bool h1 (r3Box_any p _)))))))); refine wpQuiet_nil ?_; rintro _ ⟨u, rfl⟩))
    refine bodyPost_ret (by (simp [results, Tryz.results13, go_sem] <;> rfl)) rfl ?_
    exact ⟨ret_err HR.out rfl, (by repeat (first | with_reducible exact Grew.refl _ | with_reducible apply Grew.alloc | with_reducible apply Grew.later | with_reducible apply Grew.drew | with_reducible apply Grew.store | with_reducible assumption))⟩
  cases h2 : v.okB
  · have HR := Lib.hid (show errR 2 = climbR p v by unfold climbR; rw [h1, h2]; rfl)
    go_enter Tryz.func13, Tryz.ntmps13
    go_wp2_with (first | (go_at_call 39; (with_reducible refine call_later (is_bool h1 (r3Box_any p _)) ?_); intro u) | (go_at_call 39; (with_reducible refine call_later (is_bool h2 (r3Box_any v _)) ?_); intro u) | ((with_reducible refine wp_region_later ?_ ?_ ?_); (· kernel_rfl); (· kernel_rfl); (try simp only [List.append_eq, List.cons_append, List.nil_append]); (repeat (go_big_quiet_step ((first | (go_at_call 39; (with_reducible exact call_quiet (is_bool h1 (r3Box_any p _)))) | (go_at_call 39; (with_reducible exact call_quiet (is_bool h2 (r3Box_any v _)))))))); refine wpQuiet_nil ?_; rintro _ ⟨u, rfl⟩))
    refine bodyPost_ret (by (simp [results, Tryz.results13, go_sem] <;> rfl)) rfl ?_
    exact ⟨ret_err HR.out rfl, (by repeat (first | with_reducible exact Grew.refl _ | with_reducible apply Grew.alloc | with_reducible apply Grew.later | with_reducible apply Grew.drew | with_reducible apply Grew.store | with_reducible assumption))⟩
  have HR := Lib.hid (show climbV p v = climbR p v by unfold climbR; rw [h1, h2]; rfl)
  have sdt : S64 (dotBR p v).s := s64_dotS p v
  have K2 := Lib.hid (fun c w hc hf => show Calls Tryz.prog 49 #[.pointer (some ⟨c, 0, none⟩), .agg #[.int .i64 p.x.lo, .int .i64 p.x.hi, .int .i64 p.y.lo, .int .i64 p.y.hi, .int .i64 p.z.lo, .int .i64 p.z.hi], .agg #[.int .i64 v.x.lo, .int .i64 v.x.hi, .int .i64 v.y.lo, .int .i64 v.y.hi, .int .i64 v.z.lo, .int .i64 v.z.hi]] w (RetC c (.agg #[.int .i64 ((dotBR p v).s).lo, .int .i64 ((dotBR p v).s).hi]) (dotBR p v).e w) from rcDot_any c 0 p v w hc hf)
  have K3 := Lib.hid (fun c w hc hf => show Calls Tryz.prog 42 #[.pointer (some ⟨c, 0, none⟩), .agg #[.int .i64 p.x.lo, .int .i64 p.x.hi, .int .i64 p.y.lo, .int .i64 p.y.hi, .int .i64 p.z.lo, .int .i64 p.z.hi]] w (RetC c (.agg #[.int .i64 ((clN p v).s).lo, .int .i64 ((clN p v).s).hi]) (clN p v).e w) from rcNorm_any c (dotBR p v).e p w hc hf)
  have K4 := Lib.hid (fun c w hc hf => show Calls Tryz.prog 48 #[.pointer (some ⟨c, 0, none⟩), .agg #[.int .i64 ((dotBR p v).s).lo, .int .i64 ((dotBR p v).s).hi], .agg #[.int .i64 ((clN p v).s).lo, .int .i64 ((clN p v).s).hi]] w (RetC c (.agg #[.int .i64 ((climbV p v).s).lo, .int .i64 ((climbV p v).s).hi]) (climbV p v).e w) from rcDiv_any c (clN p v).e (dotBR p v).s (clN p v).s w hc hf)
  by_cases he : (climbV p v).e = 0
  all_goals
    first | have he' : ((climbV p v).e != 0) = false := by simp [he] | have he' : ((climbV p v).e != 0) = true := by simp [he]
    have Hz := Lib.hid (show ((climbV p v).e != 0) = true → climbV p v = errR (climbV p v).e from fun h => climbV_z p v (by simpa using h))
    have He := Lib.hid (show ((climbV p v).e != 0) = false → (climbV p v).e = 0 from fun h => by simpa using h)
    clear he
    go_enter Tryz.func13, Tryz.ntmps13
    go_wp2_with (first | (go_at_call 39; (with_reducible refine call_later (is_bool h1 (r3Box_any p _)) ?_); intro u) | (go_at_call 39; (with_reducible refine call_later (is_bool h2 (r3Box_any v _)) ?_); intro u) | ((with_reducible refine wp_region_later ?_ ?_ ?_); (· kernel_rfl); (· kernel_rfl); (try simp only [List.append_eq, List.cons_append, List.nil_append]); (repeat (go_big_quiet_step ((first | (go_at_call 39; (with_reducible exact call_quiet (is_bool h1 (r3Box_any p _)))) | (go_at_call 39; (with_reducible exact call_quiet (is_bool h2 (r3Box_any v _)))))))); refine wpQuiet_nil ?_; rintro _ ⟨u, rfl⟩))
    have nwc : NewFor w u.world.heap.size := inferInstance
    refine wp_region_calc (u.world.heap.size) [0, (dotBR p v).e, (clN p v).e, (climbV p v).e] 10 [9] [4, 7, 8] [] (fun W0 => [(9, BoxR W0 [.int .i64 0, .int .i64 0])]) [.agg #[.int .i64 ((dotBR p v).s).lo, .int .i64 ((dotBR p v).s).hi], .agg #[.int .i64 ((clN p v).s).lo, .int .i64 ((clN p v).s).hi], .agg #[.int .i64 ((climbV p v).s).lo, .int .i64 ((climbV p v).s).hi]] [10] (by rfl) (by go_simp) (by go_simp) (by intro W0 hW0 x hx; simp only [List.mem_cons, List.not_mem_nil, or_false] at hx; rcases hx with rfl <;> first | exact goodc_box _ _ hW0 _) (by kernel_rfl) (by kernel_rfl) (by kernel_rfl) ?_
    intro pz hd0
    apply Exists.intro
    apply And.intro
    apply lexc_pure hd0 (by kernel_rfl)
    · intro uz xc; unfold opPure; go_simp; rfl
    apply lexc_pure hd0 (by kernel_rfl)
    · intro uz xc; unfold opPure; go_simp; rfl
    apply lexc_pure hd0 (by kernel_rfl)
    · intro uz xc; unfold opPure; go_simp; rfl
    apply lexc_pure hd0 (by kernel_rfl)
    · intro uz xc; unfold opPure; go_simp; rfl
    apply lexc_call hd0 0 (by kernel_rfl) (by rfl) (by decide)
    · intro uz hfz hF; clear hF; unfold opCall; go_simp; exact K2.out _ _ (by go_simp) hfz
    apply lexc_pure hd0 (by kernel_rfl)
    · intro uz xc; unfold opPure; go_simp; rfl
    apply lexc_pure hd0 (by kernel_rfl)
    · intro uz xc; unfold opPure; go_simp; rfl
    apply lexc_call hd0 1 (by kernel_rfl) (by rfl) (by decide)
    · intro uz hfz hF; clear hF; unfold opCall; go_simp; exact K3.out _ _ (by go_simp) hfz
    apply lexc_call hd0 2 (by kernel_rfl) (by rfl) (by decide)
    · intro uz hfz hF; clear hF; unfold opCall; go_simp; exact K4.out _ _ (by go_simp) hfz
    apply lexc_make hd0 (by kernel_rfl)
    · intro uz xc hF; clear hF; unfold opMake; go_simp; refine (show Made (BoxR _ [.int .i64 0, .int .i64 0]) _ _ _ from ?_); exact madec_box _ _ _ _
    apply lexc_end
    rotate_left
    · rfl
    intro uz hR hD hfz
    obtain ⟨q9, e9, hB9, kB9, nB9⟩ := (show BoxR _ [.int .i64 0, .int .i64 0] (pz 9) _ from hR 9 (by decide))
    clear hR hD
    rw [e9]
    clear e9
    have oB9 := apart_oldL nB9
    have oC9 := apart_oldR nB9
    have hB9 := boxAt_cw hB9 hd0 nB9
    have kB9 := blockIn_cw kB9
    have hB9_0 := (hB9 0 _ rfl).1
    have hB9f0 := (hB9 0 _ rfl).2
    have hB9i0 : HasCell (uz.world) (q9) 0 := ⟨_, hB9_0⟩
    have hB9_1 := (hB9 1 _ rfl).1
    have hB9f1 := (hB9 1 _ rfl).2
    have hB9i1 : HasCell (uz.world) (q9) 1 := ⟨_, hB9_1⟩
    have hB9b : BlockIn (uz.world) (q9) := BlockIn.of_cell hB9_0
    clear hB9
    refine tail_store (by rfl) ?_; unfold opStore; go_simp
    refine tail_end ?_
    have nw9 : NewFor w q9 := ⟨Nat.le_trans nwc.le (by have := nB9.le; simp at this; omega)⟩
    go_wp2
    try go_region
    all_goals go_wp2
    all_goals
      refine bodyPost_ret (by (simp [results, Tryz.results13, go_sem] <;> rfl)) rfl ?_
      first
        | exact ⟨ret_res (by rw [← HR.out]; have := He.out he'; generalize climbV p v = r at *; cases r; simp only at this; subst this; rfl), (by repeat (first | with_reducible exact Grew.refl _ | with_reducible apply Grew.alloc | with_reducible apply Grew.later | with_reducible apply Grew.drew | with_reducible apply Grew.store | with_reducible assumption))⟩
        | exact ⟨ret_err (by rw [← HR.out]; exact (Hz.out he').symm) rfl, (by repeat (first | with_reducible exact Grew.refl _ | with_reducible apply Grew.alloc | with_reducible apply Grew.later | with_reducible apply Grew.drew | with_reducible apply Grew.store | with_reducible assumption))⟩
end Go.Proofs.YtnedbhdokljpcaaGreat
