/-
  Measurements and reports; contracts of nav.CheckRadio, ullageref06.CheckRadio.
-/
import Derived.Test.YtohinapfpfjlkaaGreatFlightOks
namespace Go.Proofs.YtohinapfpfjlkaaGreat
open Go.RowKit
set_option maxRecDepth 100000
set_option maxHeartbeats 16000000
structure Radio where
  kind : Int
  place : Bx
  dir : Bx
  value : Sp
structure Report where
  node : Int
  sensor : Int
  heard : Radio
def Radio.okB (m : Radio) : Bool := decide (0 ≤ m.kind) && decide (m.kind ≤ 3) && m.place.okB && m.dir.okB && m.value.okB
theorem r6Radio_any (m : Radio) (w : World) : Calls Tryz.prog 31 #[.agg #[.int .i64 m.kind, .int .i64 m.place.x.lo, .int .i64 m.place.x.hi, .int .i64 m.place.y.lo, .int .i64 m.place.y.hi, .int .i64 m.place.z.lo, .int .i64 m.place.z.hi, .int .i64 m.dir.x.lo, .int .i64 m.dir.x.hi, .int .i64 m.dir.y.lo, .int .i64 m.dir.y.hi, .int .i64 m.dir.z.lo, .int .i64 m.dir.z.hi, .int .i64 m.value.lo, .int .i64 m.value.hi]] w fun e w' => e = .returned (.int .i64 (codeB m.okB 2)) ∧ Grew w w' := by
  have HC := Lib.hid (show m.okB = (decide (0 ≤ m.kind) && decide (m.kind ≤ 3) && m.place.okB && m.dir.okB && m.value.okB) from rfl)
  have HB1 := Lib.hid (fun w' => r3Box_any m.place w')
  have HB2 := Lib.hid (fun w' => r3Box_any m.dir w')
  have HV := Lib.hid (fun w' => rCheck_any m.value w')
  cases h1 : m.place.okB
  all_goals
    cases h2 : m.dir.okB
    all_goals
      cases h3 : m.value.okB
      all_goals
        have HB1' := Lib.hid (fun w' => is_bool h1 (HB1.out w'))
        have HB2' := Lib.hid (fun w' => is_bool h2 (HB2.out w'))
        have HV' := Lib.hid (fun w' => is_int (congrArg (fun b => codeB b 2) h3) (HV.out w'))
        have HC' := Lib.hid HC.out
        rw [h1, h2, h3] at HC'
        clear HB1 HB2 HV HC h1 h2 h3
        simp only [codeB] at HV'
        by_cases k0 : m.kind < 0
        · have Hr := Lib.hid (show codeB m.okB 2 = 2 by rw [HC'.out, decide_eq_false (by omega)]; rfl)
          go_enter Tryz.func31, Tryz.ntmps31
          go_wp2_with (first | (go_at_call 37; (with_reducible refine call_later (HB1'.out _) ?_); intro u) | (go_at_call 37; (with_reducible refine call_later (HB2'.out _) ?_); intro u) | (go_at_call 90; (with_reducible refine call_later (HV'.out _) ?_); intro u) | ((with_reducible refine wp_region_later ?_ ?_ ?_); (· kernel_rfl); (· kernel_rfl); (try simp only [List.append_eq, List.cons_append, List.nil_append]); (repeat (go_big_quiet_step ((first | (go_at_call 37; (with_reducible exact call_quiet (HB1'.out _))) | (go_at_call 37; (with_reducible exact call_quiet (HB2'.out _))) | (go_at_call 90; (with_reducible exact call_quiet (HV'.out _))))))); refine wpQuiet_nil ?_; rintro _ ⟨u, rfl⟩))
          go_ret
          exact ⟨ret_int Hr.out.symm, (by repeat (first | with_reducible exact Grew.refl _ | with_reducible apply Grew.alloc | with_reducible apply Grew.later | with_reducible apply Grew.drew | with_reducible apply Grew.store | with_reducible assumption))⟩
        by_cases k3 : 3 < m.kind
        · have Hr := Lib.hid (show codeB m.okB 2 = 2 by rw [HC'.out, decide_eq_false (show ¬ m.kind ≤ 3 by omega), Bool.and_false]; rfl)
          go_enter Tryz.func31, Tryz.ntmps31
          go_wp2_with (first | (go_at_call 37; (with_reducible refine call_later (HB1'.out _) ?_); intro u) | (go_at_call 37; (with_reducible refine call_later (HB2'.out _) ?_); intro u) | (go_at_call 90; (with_reducible refine call_later (HV'.out _) ?_); intro u) | ((with_reducible refine wp_region_later ?_ ?_ ?_); (· kernel_rfl); (· kernel_rfl); (try simp only [List.append_eq, List.cons_append, List.nil_append]); (repeat (go_big_quiet_step ((first | (go_at_call 37; (with_reducible exact call_quiet (HB1'.out _))) | (go_at_call 37; (with_reducible exact call_quiet (HB2'.out _))) | (go_at_call 90; (with_reducible exact call_quiet (HV'.out _))))))); refine wpQuiet_nil ?_; rintro _ ⟨u, rfl⟩))
          go_ret
          exact ⟨ret_int Hr.out.symm, (by repeat (first | with_reducible exact Grew.refl _ | with_reducible apply Grew.alloc | with_reducible apply Grew.later | with_reducible apply Grew.drew | with_reducible apply Grew.store | with_reducible assumption))⟩
        · have Hr := Lib.hid (show codeB m.okB 2 = _ by rw [HC'.out, decide_eq_true (show 0 ≤ m.kind by omega), decide_eq_true (show m.kind ≤ 3 by omega)])
          go_enter Tryz.func31, Tryz.ntmps31
          go_wp2_with (first | (go_at_call 37; (with_reducible refine call_later (HB1'.out _) ?_); intro u) | (go_at_call 37; (with_reducible refine call_later (HB2'.out _) ?_); intro u) | (go_at_call 90; (with_reducible refine call_later (HV'.out _) ?_); intro u) | ((with_reducible refine wp_region_later ?_ ?_ ?_); (· kernel_rfl); (· kernel_rfl); (try simp only [List.append_eq, List.cons_append, List.nil_append]); (repeat (go_big_quiet_step ((first | (go_at_call 37; (with_reducible exact call_quiet (HB1'.out _))) | (go_at_call 37; (with_reducible exact call_quiet (HB2'.out _))) | (go_at_call 90; (with_reducible exact call_quiet (HV'.out _))))))); refine wpQuiet_nil ?_; rintro _ ⟨u, rfl⟩))
          go_ret
          exact ⟨ret_int Hr.out.symm, (by repeat (first | with_reducible exact Grew.refl _ | with_reducible apply Grew.alloc | with_reducible apply Grew.later | with_reducible apply Grew.drew | with_reducible apply Grew.store | with_reducible assumption))⟩
end Go.Proofs.YtohinapfpfjlkaaGreat
