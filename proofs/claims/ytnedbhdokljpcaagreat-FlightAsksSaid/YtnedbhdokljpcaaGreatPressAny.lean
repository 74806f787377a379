/-
  Contracts of flight.Pressure, ullageref03.Pressure, from the contracts of both Looks.
-/
import Derived.Test.YtnedbhdokljpcaaGreatPress
namespace Go.Proofs.YtnedbhdokljpcaaGreat
open Go.RowKit Go.Shelf
set_option maxRecDepth 100000
set_option maxHeartbeats 8000000
theorem flPress_any (HL : LookOk 118) (p : Planet) (l : List Pt) (t : Tube) [hr : S64 p.radius] [hp : B64 t.p] [hv : B64 t.v] (ao : Option Addr) (cap : Nat) (w : World) (hs : SlAt w (.slice ao l.length cap) l.length (l.flatMap Pt.cells)) :
    Calls Tryz.prog 14 #[.agg #[.int .i64 p.mu.lo, .int .i64 p.mu.hi, .int .i64 p.radius.lo, .int .i64 p.radius.hi, .int .i64 p.oblate.lo, .int .i64 p.oblate.hi, .int .i64 p.spin.lo, .int .i64 p.spin.hi, .int .i64 p.pull.x.lo, .int .i64 p.pull.x.hi, .int .i64 p.pull.y.lo, .int .i64 p.pull.y.hi, .int .i64 p.pull.z.lo, .int .i64 p.pull.z.hi], .slice ao l.length cap, .agg #[.int .i64 t.a, .int .i64 t.z, .int .i64 t.p.x.lo, .int .i64 t.p.x.hi, .int .i64 t.p.y.lo, .int .i64 t.p.y.hi, .int .i64 t.p.z.lo, .int .i64 t.p.z.hi, .int .i64 t.v.x.lo, .int .i64 t.v.x.hi, .int .i64 t.v.y.lo, .int .i64 t.v.y.hi, .int .i64 t.v.z.lo, .int .i64 t.v.z.hi, .int .i64 t.m.lo, .int .i64 t.m.hi]] w fun e w' => e = .returned (.tuple #[.agg #[.int .i64 (pressR p l t).s.lo, .int .i64 (pressR p l t).s.hi], .int .i64 (pressR p l t).e]) ∧ Grew w w' := by
  cases h1 : p.okB
  · have HR := Lib.hid (show errR 2 = pressR p l t by unfold pressR; rw [h1]; rfl)
    have HP := Lib.hid (fun w' => is_int (show codeB p.okB 2 = 2 by rw [h1]; rfl) (flPlanet_any p w'))
    clear h1 hs HL
    generalize pressR p l t = R at *
    go_enter Tryz.func14, Tryz.ntmps14
    go_wp2_with (first | (go_at_call 35; (with_reducible refine call_later (HP.out _) ?_); intro u) | ((with_reducible refine wp_region_later ?_ ?_ ?_); (· kernel_rfl); (· kernel_rfl); (try simp only [List.append_eq, List.cons_append, List.nil_append]); (repeat (go_big_quiet_step ((first | (go_at_call 35; (with_reducible exact call_quiet (HP.out _))))))); refine wpQuiet_nil ?_; rintro _ ⟨u, rfl⟩))
    refine bodyPost_ret (by (simp [results, Tryz.results14, go_sem] <;> rfl)) rfl ?_
    exact ⟨ret_err HR.out rfl, (by repeat (first | with_reducible exact Grew.refl _ | with_reducible apply Grew.alloc | with_reducible apply Grew.later | with_reducible apply Grew.drew | with_reducible apply Grew.store | with_reducible assumption))⟩
  cases h2 : t.okB
  · have HR := Lib.hid (show errR 2 = pressR p l t by unfold pressR; rw [h1, h2]; rfl)
    have HP := Lib.hid (fun w' => is_int (show codeB p.okB 2 = 0 by rw [h1]; rfl) (flPlanet_any p w'))
    have HT := Lib.hid (fun w' => is_int (show codeB t.okB 2 = 2 by rw [h2]; rfl) (flTube_any t w'))
    clear h1 h2 hs HL
    generalize pressR p l t = R at *
    go_enter Tryz.func14, Tryz.ntmps14
    go_wp2_with (first | (go_at_call 35; (with_reducible refine call_later (HP.out _) ?_); intro u) | (go_at_call 50; (with_reducible refine call_later (HT.out _) ?_); intro u) | ((with_reducible refine wp_region_later ?_ ?_ ?_); (· kernel_rfl); (· kernel_rfl); (try simp only [List.append_eq, List.cons_append, List.nil_append]); (repeat (go_big_quiet_step ((first | (go_at_call 35; (with_reducible exact call_quiet (HP.out _))) | (go_at_call 50; (with_reducible exact call_quiet (HT.out _))))))); refine wpQuiet_nil ?_; rintro _ ⟨u, rfl⟩))
    refine bodyPost_ret (by (simp [results, Tryz.results14, go_sem] <;> rfl)) rfl ?_
    exact ⟨ret_err HR.out rfl, (by repeat (first | with_reducible exact Grew.refl _ | with_reducible apply Grew.alloc | with_reducible apply Grew.later | with_reducible apply Grew.drew | with_reducible apply Grew.store | with_reducible assumption))⟩
  cases h3 : tableB l
  · have HR := Lib.hid (show errR 2 = pressR p l t by unfold pressR; rw [h1, h2, h3]; rfl)
    have HP := Lib.hid (fun w' => is_int (show codeB p.okB 2 = 0 by rw [h1]; rfl) (flPlanet_any p w'))
    have HT := Lib.hid (fun w' => is_int (show codeB t.okB 2 = 0 by rw [h2]; rfl) (flTube_any t w'))
    have HB := Lib.hid (fun w' (g : Grew w w') => is_int (show codeB (tableB l) 2 = 2 by rw [h3]; rfl) (spTable_any l (.slice ao l.length cap) w' (hs.grew g)))
    clear h1 h2 h3 hs HL
    generalize pressR p l t = R at *
    go_enter Tryz.func14, Tryz.ntmps14
    go_wp2_with (first | (go_at_call 35; (with_reducible refine call_later (HP.out _) ?_); intro u) | (go_at_call 50; (with_reducible refine call_later (HT.out _) ?_); intro u) | (go_at_call 51; (with_reducible refine call_later (HB.out _ (by repeat (first | with_reducible exact Grew.refl _ | with_reducible apply Grew.alloc | with_reducible apply Grew.later | with_reducible apply Grew.drew | with_reducible apply Grew.store | with_reducible assumption))) ?_); intro u) | ((with_reducible refine wp_region_later ?_ ?_ ?_); (· kernel_rfl); (· kernel_rfl); (try simp only [List.append_eq, List.cons_append, List.nil_append]); (repeat (go_big_quiet_step ((first | (go_at_call 35; (with_reducible exact call_quiet (HP.out _))) | (go_at_call 50; (with_reducible exact call_quiet (HT.out _))) | (go_at_call 51; (with_reducible exact call_quiet (HB.out _ (by repeat (first | with_reducible exact Grew.refl _ | with_reducible apply Grew.alloc | with_reducible apply Grew.later | with_reducible apply Grew.drew | with_reducible apply Grew.store | with_reducible assumption))))))))); refine wpQuiet_nil ?_; rintro _ ⟨u, rfl⟩))
    refine bodyPost_ret (by (simp [results, Tryz.results14, go_sem] <;> rfl)) rfl ?_
    exact ⟨ret_err HR.out rfl, (by repeat (first | with_reducible exact Grew.refl _ | with_reducible apply Grew.alloc | with_reducible apply Grew.later | with_reducible apply Grew.drew | with_reducible apply Grew.store | with_reducible assumption))⟩
  · rw [show pressR p l t = prV p l t by unfold pressR; rw [h1, h2, h3]; rfl]
    exact flPress_ok HL p l t h1 h2 h3 ao cap w hs
theorem r3Press_any (HL : LookOk 122) (p : Planet) (l : List Pt) (t : Tube) [hr : S64 p.radius] [hp : B64 t.p] [hv : B64 t.v] (ao : Option Addr) (cap : Nat) (w : World) (hs : SlAt w (.slice ao l.length cap) l.length (l.flatMap Pt.cells)) :
    Calls Tryz.prog 15 #[.agg #[.int .i64 p.mu.lo, .int .i64 p.mu.hi, .int .i64 p.radius.lo, .int .i64 p.radius.hi, .int .i64 p.oblate.lo, .int .i64 p.oblate.hi, .int .i64 p.spin.lo, .int .i64 p.spin.hi, .int .i64 p.pull.x.lo, .int .i64 p.pull.x.hi, .int .i64 p.pull.y.lo, .int .i64 p.pull.y.hi, .int .i64 p.pull.z.lo, .int .i64 p.pull.z.hi], .slice ao l.length cap, .agg #[.int .i64 t.a, .int .i64 t.z, .int .i64 t.p.x.lo, .int .i64 t.p.x.hi, .int .i64 t.p.y.lo, .int .i64 t.p.y.hi, .int .i64 t.p.z.lo, .int .i64 t.p.z.hi, .int .i64 t.v.x.lo, .int .i64 t.v.x.hi, .int .i64 t.v.y.lo, .int .i64 t.v.y.hi, .int .i64 t.v.z.lo, .int .i64 t.v.z.hi, .int .i64 t.m.lo, .int .i64 t.m.hi]] w fun e w' => e = .returned (.tuple #[.agg #[.int .i64 (pressR p l t).s.lo, .int .i64 (pressR p l t).s.hi], .int .i64 (pressR p l t).e]) ∧ Grew w w' := by
  cases h1 : p.okB
  · have HR := Lib.hid (show errR 2 = pressR p l t by unfold pressR; rw [h1]; rfl)
    have HP := Lib.hid (fun w' => is_int (show codeB p.okB 2 = 2 by rw [h1]; rfl) (r3Planet_any p w'))
    clear h1 hs HL
    generalize pressR p l t = R at *
    go_enter Tryz.func15, Tryz.ntmps15
    go_wp2_with (first | (go_at_call 40; (with_reducible refine call_later (HP.out _) ?_); intro u) | ((with_reducible refine wp_region_later ?_ ?_ ?_); (· kernel_rfl); (· kernel_rfl); (try simp only [List.append_eq, List.cons_append, List.nil_append]); (repeat (go_big_quiet_step ((first | (go_at_call 40; (with_reducible exact call_quiet (HP.out _))))))); refine wpQuiet_nil ?_; rintro _ ⟨u, rfl⟩))
    refine bodyPost_ret (by (simp [results, Tryz.results15, go_sem] <;> rfl)) rfl ?_
    exact ⟨ret_err HR.out rfl, (by repeat (first | with_reducible exact Grew.refl _ | with_reducible apply Grew.alloc | with_reducible apply Grew.later | with_reducible apply Grew.drew | with_reducible apply Grew.store | with_reducible assumption))⟩
  cases h2 : t.okB
  · have HR := Lib.hid (show errR 2 = pressR p l t by unfold pressR; rw [h1, h2]; rfl)
    have HP := Lib.hid (fun w' => is_int (show codeB p.okB 2 = 0 by rw [h1]; rfl) (r3Planet_any p w'))
    have HT := Lib.hid (fun w' => is_int (show codeB t.okB 2 = 2 by rw [h2]; rfl) (r3Tube_any t w'))
    clear h1 h2 hs HL
    generalize pressR p l t = R at *
    go_enter Tryz.func15, Tryz.ntmps15
    go_wp2_with (first | (go_at_call 40; (with_reducible refine call_later (HP.out _) ?_); intro u) | (go_at_call 56; (with_reducible refine call_later (HT.out _) ?_); intro u) | ((with_reducible refine wp_region_later ?_ ?_ ?_); (· kernel_rfl); (· kernel_rfl); (try simp only [List.append_eq, List.cons_append, List.nil_append]); (repeat (go_big_quiet_step ((first | (go_at_call 40; (with_reducible exact call_quiet (HP.out _))) | (go_at_call 56; (with_reducible exact call_quiet (HT.out _))))))); refine wpQuiet_nil ?_; rintro _ ⟨u, rfl⟩))
    refine bodyPost_ret (by (simp [results, Tryz.results15, go_sem] <;> rfl)) rfl ?_
    exact ⟨ret_err HR.out rfl, (by repeat (first | with_reducible exact Grew.refl _ | with_reducible apply Grew.alloc | with_reducible apply Grew.later | with_reducible apply Grew.drew | with_reducible apply Grew.store | with_reducible assumption))⟩
  cases h3 : tableB l
  · have HR := Lib.hid (show errR 2 = pressR p l t by unfold pressR; rw [h1, h2, h3]; rfl)
    have HP := Lib.hid (fun w' => is_int (show codeB p.okB 2 = 0 by rw [h1]; rfl) (r3Planet_any p w'))
    have HT := Lib.hid (fun w' => is_int (show codeB t.okB 2 = 0 by rw [h2]; rfl) (r3Tube_any t w'))
    have HB := Lib.hid (fun w' (g : Grew w w') => is_int (show codeB (tableB l) 2 = 2 by rw [h3]; rfl) (rTable_any l (.slice ao l.length cap) w' (hs.grew g)))
    clear h1 h2 h3 hs HL
    generalize pressR p l t = R at *
    go_enter Tryz.func15, Tryz.ntmps15
    go_wp2_with (first | (go_at_call 40; (with_reducible refine call_later (HP.out _) ?_); intro u) | (go_at_call 56; (with_reducible refine call_later (HT.out _) ?_); intro u) | (go_at_call 57; (with_reducible refine call_later (HB.out _ (by repeat (first | with_reducible exact Grew.refl _ | with_reducible apply Grew.alloc | with_reducible apply Grew.later | with_reducible apply Grew.drew | with_reducible apply Grew.store | with_reducible assumption))) ?_); intro u) | ((with_reducible refine wp_region_later ?_ ?_ ?_); (· kernel_rfl); (· kernel_rfl); (try simp only [List.append_eq, List.cons_append, List.nil_append]); (repeat (go_big_quiet_step ((first | (go_at_call 40; (with_reducible exact call_quiet (HP.out _))) | (go_at_call 56; (with_reducible exact call_quiet (HT.out _))) | (go_at_call 57; (with_reducible exact call_quiet (HB.out _ (by repeat (first | with_reducible exact Grew.refl _ | with_reducible apply Grew.alloc | with_reducible apply Grew.later | with_reducible apply Grew.drew | with_reducible apply Grew.store | with_reducible assumption))))))))); refine wpQuiet_nil ?_; rintro _ ⟨u, rfl⟩))
    refine bodyPost_ret (by (simp [results, Tryz.results15, go_sem] <;> rfl)) rfl ?_
    exact ⟨ret_err HR.out rfl, (by repeat (first | with_reducible exact Grew.refl _ | with_reducible apply Grew.alloc | with_reducible apply Grew.later | with_reducible apply Grew.drew | with_reducible apply Grew.store | with_reducible assumption))⟩
  · rw [show pressR p l t = prV p l t by unfold pressR; rw [h1, h2, h3]; rfl]
    exact r3Press_ok HL p l t h1 h2 h3 ao cap w hs
end Go.Proofs.YtnedbhdokljpcaaGreat
