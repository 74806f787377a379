/-
  Contracts of post.checkReports, ullageref13.reports.
-/
import Derived.Test.YtgjikdhidakloaaNodeCount
import Derived.Test.YtgjikdhidakloaaRadioNav
namespace Go.Proofs.Ytgjikdhidakloaa
open Go.RowKit
set_option maxRecDepth 100000
set_option maxHeartbeats 16000000
def repC (r : Report) : List Value := [.int .i64 r.node, .int .i64 r.sensor, .int .i64 r.heard.kind, .int .i64 r.heard.place.x.lo, .int .i64 r.heard.place.x.hi, .int .i64 r.heard.place.y.lo, .int .i64 r.heard.place.y.hi, .int .i64 r.heard.place.z.lo, .int .i64 r.heard.place.z.hi, .int .i64 r.heard.dir.x.lo, .int .i64 r.heard.dir.x.hi, .int .i64 r.heard.dir.y.lo, .int .i64 r.heard.dir.y.hi, .int .i64 r.heard.dir.z.lo, .int .i64 r.heard.dir.z.hi, .int .i64 r.heard.value.lo, .int .i64 r.heard.value.hi]
def ReportsAt (w : World) (v : Value) (R : List Report) : Prop := SlAt w v R.length (R.flatMap repC)
def reportB (n : Int) (r : Report) : Bool := decide (0 ≤ r.node) && decide (r.node ≤ n) && decide (0 ≤ r.sensor) && decide (r.sensor < 12) && r.heard.okB
def reportsCode (n : Int) (R : List Report) : Int := if 256 < R.length then 3 else codeB (R.all (reportB n)) 2
theorem all_bad {n : Int} {R : List Report} (k : Nat) (hk : k < R.length) (h : reportB n R[k] = false) : R.all (reportB n) = false := by
  rw [List.all_eq_false]
  exact ⟨R[k], List.getElem_mem hk, by rw [h]; decide⟩
theorem all_good {n : Int} {R : List Report} (h : ∀ j (hj : j < R.length), reportB n R[j] = true) : R.all (reportB n) = true := by
  rw [List.all_eq_true]
  intro x hx
  obtain ⟨i, hi, e⟩ := List.mem_iff_getElem.1 hx
  rw [← e]
  exact h i hi
theorem postReports_any (L : Arcs) (R : List Report) (v1 v2 : Value) (w : World) (hd : ArcsAt w v1 L) (hc : arcsCode L = 0) (hr : ReportsAt w v2 R) : Calls Try.prog 41 #[v1, v2] w fun e w' => e = .returned (.int .i64 (reportsCode (sumZ L) R)) ∧ Grew w w' := by
  have HL := Lib.hid (fun w' (g : Grew w w') => postLegs_any L v1 w' (hd.grew g) hc)
  have Hll := Lib.hid (legsL_len L)
  obtain ⟨ao2, cap2, rfl, hm, hcc⟩ := hr
  unfold maxLen at hm
  have HE := Lib.hid (SlAt.elem (f := repC) (c := 17) (fun _ => rfl) (by omega) hcc)
  clear hcc hd
  by_cases hl : 256 < R.length
  · have hl' : (256 : Int) < R.length := by omega
    have HR := Lib.hid (show reportsCode (sumZ L) R = 3 by unfold reportsCode; rw [if_pos hl])
    go_enter Try.func41, Try.ntmps41
    go_wp2
    go_ret
    exact ⟨ret_int HR.out.symm, (by repeat (first | with_reducible exact Grew.refl _ | with_reducible apply Grew.alloc | with_reducible apply Grew.later | with_reducible apply Grew.drew | with_reducible apply Grew.store | with_reducible assumption))⟩
  have hl' : ¬ ((256 : Int) < R.length) := by omega
  have HR := Lib.hid (show reportsCode (sumZ L) R = codeB (R.all (reportB (sumZ L))) 2 by unfold reportsCode; rw [if_neg hl])
  rw [← Hll.out] at HR ⊢
  have HBad := Lib.hid (fun k hk h => all_bad (n := ((legsL L).length : Int)) (R := R) k hk h)
  have HGood := Lib.hid (fun h => all_good (n := ((legsL L).length : Int)) (R := R) h)
  go_enter Try.func41, Try.ntmps41
  go_wp2_with (first | (go_at_call 38; go_loud (refine (HL.out _ (by repeat (first | with_reducible exact Grew.refl _ | with_reducible apply Grew.alloc | with_reducible apply Grew.later | with_reducible apply Grew.drew | with_reducible apply Grew.store | with_reducible assumption))).mono ?_; rintro e w1 ⟨v3, rfl, s1, g1⟩; obtain ⟨u1, rfl⟩ := later_of g1; clear g1; obtain ⟨ao1, cap1, rfl, hm1, -⟩ := s1)))
  generalize hN : (legsL L).length = N at *
  have HNe := Lib.hid hN
  clear hN
  go_loopw [16] (fun t wr => ∃ k : Nat, t = .int .i64 k ∧ k ≤ R.length ∧ (∀ j (hj : j < R.length), j < k → reportB (N : Int) R[j] = true) ∧ Grew w wr) (fun t _ => R.length - (intOf t).toNat)
  case atStart => exact ⟨0, rfl, by omega, fun _ _ h => by omega, (by repeat (first | with_reducible exact Grew.refl _ | with_reducible apply Grew.alloc | with_reducible apply Grew.later | with_reducible apply Grew.drew | with_reducible apply Grew.store | with_reducible assumption))⟩
  case round =>
    obtain ⟨k, rfl, hk, hbe, hg⟩ := hrel
    obtain ⟨z, rfl⟩ := later_of hg
    clear hg
    have Hbe := Lib.hid hbe
    clear hbe
    by_cases hlt : k < R.length
    · obtain ⟨b1, o1, e1, i1, hd1, hd2⟩ := HE.out k hlt
      have hc0 := hd1 _ rfl
      have hc1 := hd2 1 _ rfl
      have hc2 := hd2 2 _ rfl
      have hc3 := hd2 3 _ rfl
      have hc4 := hd2 4 _ rfl
      have hc5 := hd2 5 _ rfl
      have hc6 := hd2 6 _ rfl
      have hc7 := hd2 7 _ rfl
      have hc8 := hd2 8 _ rfl
      have hc9 := hd2 9 _ rfl
      have hc10 := hd2 10 _ rfl
      have hc11 := hd2 11 _ rfl
      have hc12 := hd2 12 _ rfl
      have hc13 := hd2 13 _ rfl
      have hc14 := hd2 14 _ rfl
      have hc15 := hd2 15 _ rfl
      have hc16 := hd2 16 _ rfl
      clear hd1 hd2
      cases e1
      have i1 : BlockIn w b1 := ⟨i1⟩
      have Hb := Lib.hid (fun h => show reportsCode (N : Int) R = 2 by rw [HR.out, HBad.out k hlt h]; rfl)
      have Hs := Lib.hid (fun (hx : reportB (N : Int) R[k] = true) j (hj : j < R.length) (hjk : j < k + 1) => show reportB (N : Int) R[j] = true by
        by_cases e : j = k
        · subst e; exact hx
        · exact Hbe.out j hj (by omega))
      generalize R[k] = r at *
      have HN := Lib.hid (fun w' => navRadio_any r.heard w')
      have Hdef := Lib.hid (show reportB (N : Int) r = (decide (0 ≤ r.node) && decide (r.node ≤ N) && decide (0 ≤ r.sensor) && decide (r.sensor < 12) && r.heard.okB) from rfl)
      by_cases q1 : r.node < 0
      · have Hr := Lib.hid (Hb.out (by rw [Hdef.out, decide_eq_false (by omega)]; simp))
        go_wp2_with (first | (go_at_call 66; (with_reducible refine call_later (HN.out _) ?_); intro u) | ((with_reducible refine wp_region_later ?_ ?_ ?_); (· kernel_rfl); (· kernel_rfl); (repeat (go_big_quiet_step ((first | (go_at_call 66; (with_reducible exact call_quiet (HN.out _))))))); refine wpQuiet_nil ?_; rintro _ ⟨u, rfl⟩))
        go_ret
        exact ⟨ret_int (by rw [HNe.out]; exact Hr.out.symm), (by repeat (first | with_reducible exact Grew.refl _ | with_reducible apply Grew.alloc | with_reducible apply Grew.later | with_reducible apply Grew.drew | with_reducible apply Grew.store | with_reducible assumption))⟩
      by_cases q2 : (N : Int) < r.node
      · have Hr := Lib.hid (Hb.out (by rw [Hdef.out, decide_eq_false (show ¬ r.node ≤ N by omega)]; simp))
        go_wp2_with (first | (go_at_call 66; (with_reducible refine call_later (HN.out _) ?_); intro u) | ((with_reducible refine wp_region_later ?_ ?_ ?_); (· kernel_rfl); (· kernel_rfl); (repeat (go_big_quiet_step ((first | (go_at_call 66; (with_reducible exact call_quiet (HN.out _))))))); refine wpQuiet_nil ?_; rintro _ ⟨u, rfl⟩))
        go_ret
        exact ⟨ret_int (by rw [HNe.out]; exact Hr.out.symm), (by repeat (first | with_reducible exact Grew.refl _ | with_reducible apply Grew.alloc | with_reducible apply Grew.later | with_reducible apply Grew.drew | with_reducible apply Grew.store | with_reducible assumption))⟩
      by_cases q3 : r.sensor < 0
      · have Hr := Lib.hid (Hb.out (by rw [Hdef.out, decide_eq_false (show ¬ 0 ≤ r.sensor by omega)]; simp))
        go_wp2_with (first | (go_at_call 66; (with_reducible refine call_later (HN.out _) ?_); intro u) | ((with_reducible refine wp_region_later ?_ ?_ ?_); (· kernel_rfl); (· kernel_rfl); (repeat (go_big_quiet_step ((first | (go_at_call 66; (with_reducible exact call_quiet (HN.out _))))))); refine wpQuiet_nil ?_; rintro _ ⟨u, rfl⟩))
        go_ret
        exact ⟨ret_int (by rw [HNe.out]; exact Hr.out.symm), (by repeat (first | with_reducible exact Grew.refl _ | with_reducible apply Grew.alloc | with_reducible apply Grew.later | with_reducible apply Grew.drew | with_reducible apply Grew.store | with_reducible assumption))⟩
      by_cases q4 : 12 ≤ r.sensor
      · have Hr := Lib.hid (Hb.out (by rw [Hdef.out, decide_eq_false (show ¬ r.sensor < 12 by omega)]; simp))
        go_wp2_with (first | (go_at_call 66; (with_reducible refine call_later (HN.out _) ?_); intro u) | ((with_reducible refine wp_region_later ?_ ?_ ?_); (· kernel_rfl); (· kernel_rfl); (repeat (go_big_quiet_step ((first | (go_at_call 66; (with_reducible exact call_quiet (HN.out _))))))); refine wpQuiet_nil ?_; rintro _ ⟨u, rfl⟩))
        go_ret
        exact ⟨ret_int (by rw [HNe.out]; exact Hr.out.symm), (by repeat (first | with_reducible exact Grew.refl _ | with_reducible apply Grew.alloc | with_reducible apply Grew.later | with_reducible apply Grew.drew | with_reducible apply Grew.store | with_reducible assumption))⟩
      cases q5 : r.heard.okB
      · have Hr := Lib.hid (Hb.out (by rw [Hdef.out, q5]; simp))
        have HN2 := Lib.hid (fun w' => is_int (show codeB r.heard.okB 2 = 2 by rw [q5]; rfl) (HN.out w'))
        clear q5 HN
        go_wp2_with (first | (go_at_call 66; (with_reducible refine call_later (HN2.out _) ?_); intro u) | ((with_reducible refine wp_region_later ?_ ?_ ?_); (· kernel_rfl); (· kernel_rfl); (repeat (go_big_quiet_step ((first | (go_at_call 66; (with_reducible exact call_quiet (HN2.out _))))))); refine wpQuiet_nil ?_; rintro _ ⟨u, rfl⟩))
        go_ret
        exact ⟨ret_int (by rw [HNe.out]; exact Hr.out.symm), (by repeat (first | with_reducible exact Grew.refl _ | with_reducible apply Grew.alloc | with_reducible apply Grew.later | with_reducible apply Grew.drew | with_reducible apply Grew.store | with_reducible assumption))⟩
      · have Hn := Lib.hid (Hs.out (by rw [Hdef.out, decide_eq_true (show 0 ≤ r.node by omega), decide_eq_true (show r.node ≤ N by omega), decide_eq_true (show 0 ≤ r.sensor by omega), decide_eq_true (show r.sensor < 12 by omega), q5]; rfl))
        have HN2 := Lib.hid (fun w' => is_int (show codeB r.heard.okB 2 = 0 by rw [q5]; rfl) (HN.out w'))
        clear q5 HN
        go_wp2_with (first | (go_at_call 66; (with_reducible refine call_later (HN2.out _) ?_); intro u) | ((with_reducible refine wp_region_later ?_ ?_ ?_); (· kernel_rfl); (· kernel_rfl); (repeat (go_big_quiet_step ((first | (go_at_call 66; (with_reducible exact call_quiet (HN2.out _))))))); refine wpQuiet_nil ?_; rintro _ ⟨u, rfl⟩))
        go_roundw
        case rel => exact ⟨k + 1, by go_num, by omega, Hn.out, (by repeat (first | with_reducible exact Grew.refl _ | with_reducible apply Grew.alloc | with_reducible apply Grew.later | with_reducible apply Grew.drew | with_reducible apply Grew.store | with_reducible assumption))⟩
        case measure => simp [intOf]; omega
    · obtain rfl : k = R.length := by omega
      have Hr := Lib.hid (show reportsCode (N : Int) R = 0 by rw [HR.out, HGood.out (fun j hj => Hbe.out j hj hj)]; rfl)
      go_wp2
      go_ret
      exact ⟨ret_int (by rw [HNe.out]; exact Hr.out.symm), (by repeat (first | with_reducible exact Grew.refl _ | with_reducible apply Grew.alloc | with_reducible apply Grew.later | with_reducible apply Grew.drew | with_reducible apply Grew.store | with_reducible assumption))⟩
end Go.Proofs.Ytgjikdhidakloaa
