/-
  AscentSlots: for every window and times, a time is in the slots of the window just if the window contains it; for every two sets (of at most 60 slots), what they have in common, both together, and one without the other one have the times that they should, and their totals add up. No condition.
-/
import Derived.Test.YtffbipcdlnfihaaAlive04
import Derived.Test.YtffbipcdlnfihaaSetsOut
import Derived.Deep.DeepCutAuto
import Derived.Test.YtffbipcdlnfihaaRows
namespace Go.Proofs.Ytffbipcdlnfihaa
open Go.RowKit
set_option maxRecDepth 100000
set_option maxHeartbeats 16000000
set_option linter.unusedSimpArgs false
theorem totalN_bd {l : List (Int × Int)} (h : setB l = true) : 0 ≤ totalN l ∧ totalN l ≤ 2305843009213693952 := by
  unfold totalN
  rw [if_pos h]
  exact totalAt_some h _ (Nat.le_refl _)
theorem slots_walk (P F L a z : Int) (A B : List (Int × Int)) (v1 v2 : Value) (t : Int) (w : World) (hA : SlAt w v1 A.length (A.flatMap slC)) (hB : SlAt w v2 B.length (B.flatMap slC)) : Calls Try.prog 4 #[.agg #[.int .i64 P, .int .i64 F, .int .i64 L], .int .i64 a, .int .i64 z, v1, v2, .int .i64 t] w fun e w' => e = .returned (.bool true) ∧ Grew w w' := by
  have HA := Lib.hid hA
  have HB := Lib.hid hB
  obtain ⟨ao1, cap1, rfl, hm1⟩ := sl2_form hA
  obtain ⟨ao2, cap2, rfl, hm2⟩ := sl2_form hB
  by_cases l1 : A.length ≤ 60
  rotate_left
  · have l1' : (60 : Int) < A.length := by omega
    clear hA hB
    go_enter Try.func4, Try.ntmps4
    go_wp2_with (first | (go_at_call 5; (with_reducible refine call_later (l4Alive_any _) ?_); intro u) | ((with_reducible refine wp_region_later ?_ ?_ ?_); (· kernel_rfl); (· kernel_rfl); (try simp only [List.append_eq, List.cons_append, List.nil_append]); (repeat (go_big_quiet_step ((first | (go_at_call 5; (with_reducible exact call_quiet (l4Alive_any _))))))); refine wpQuiet_nil ?_; rintro _ ⟨u, rfl⟩))
    go_ret
    exact ⟨rfl, gw⟩
  have l1' : ¬ ((60 : Int) < A.length) := by omega
  by_cases l2 : B.length ≤ 60
  rotate_left
  · have l2' : (60 : Int) < B.length := by omega
    clear hA hB
    go_enter Try.func4, Try.ntmps4
    go_wp2_with (first | (go_at_call 5; (with_reducible refine call_later (l4Alive_any _) ?_); intro u) | ((with_reducible refine wp_region_later ?_ ?_ ?_); (· kernel_rfl); (· kernel_rfl); (try simp only [List.append_eq, List.cons_append, List.nil_append]); (repeat (go_big_quiet_step ((first | (go_at_call 5; (with_reducible exact call_quiet (l4Alive_any _))))))); refine wpQuiet_nil ?_; rintro _ ⟨u, rfl⟩))
    go_ret
    exact ⟨rfl, gw⟩
  have l2' : ¬ ((60 : Int) < B.length) := by omega
  have A0 := Lib.hid (fun w' (g : Grew w w') => abBoth_any A B l1 l2 _ _ w' (hA.grew g) (hB.grew g))
  have A1 := Lib.hid (fun w' (g : Grew w w') => abEither_any A B l1 l2 _ _ w' (hA.grew g) (hB.grew g))
  have A2 := Lib.hid (fun w' (g : Grew w w') => abWithout_any A B l1 l2 _ _ w' (hA.grew g) (hB.grew g))
  have TA := Lib.hid (fun w' (g : Grew w w') => abTotal_any A _ w' (hA.grew g))
  have TB := Lib.hid (fun w' (g : Grew w w') => abTotal_any B _ w' (hB.grew g))
  have IA := Lib.hid (fun w' (g : Grew w w') => l4In_any A t _ w' (hA.grew g))
  have IB := Lib.hid (fun w' (g : Grew w w') => l4In_any B t _ w' (hB.grew g))
  have HL := Lib.hid (fun h => slots_law (P := P) (F := F) (L := L) (a := a) (z := z) h t)
  have HM := Lib.hid (fun hA hB => mix_laws (A := A) (B := B) hA hB t)
  have HT := Lib.hid (fun hA hB => mix_totals (A := A) (B := B) hA hB l1 l2)
  have HS := Lib.hid (fun is hA hB => mixR_set is (A := A) (B := B) hA hB l1 l2)
  have HK := Lib.hid (show mixCode A B = codeB (setB A && setB B) 2 from rfl)
  clear hA hB l1 l2
  go_enter Try.func4, Try.ntmps4
  go_upto_region 5 with (first | (go_at_call 5; (with_reducible refine call_later (l4Alive_any _) ?_); intro ua) | (go_at_call 9; go_loud (refine (slotsA_any P F L a z _).mono ?_; rintro e w1 ⟨vl, rfl, sl, gl⟩; obtain ⟨ul, rfl⟩ := later_of gl; clear gl; obtain ⟨aol, capl, rfl, hml⟩ := sl2_form sl; have Hsl := Lib.hid sl; clear sl)) | (go_at_call 10; (with_reducible refine call_later (is_bool hL (l4In_any _ t _ _ (Hsl.out.grew gw))) ?_); intro ui) | (go_at_call 8; (with_reducible refine call_later (is_bool hC (contains_any P F L t _)) ?_); intro uc))
  refine wp_rawG fun Y hY => ?_
  have gY : Grew ul.world Y := by rw [hY]; exact gw
  have gw : Grew w Y := by rw [hY]; exact gw
  have bW : BlockIn Y w.heap.size := by rw [hY]; infer_instance
  have c0 : Y.cell? ⟨w.heap.size, 0, none⟩ = some (.int .i64 P) := by rw [hY]; go_simp
  have c1 : Y.cell? ⟨w.heap.size, 1, none⟩ = some (.int .i64 F) := by rw [hY]; go_simp
  have c2 : Y.cell? ⟨w.heap.size, 2, none⟩ = some (.int .i64 L) := by rw [hY]; go_simp
  clear hY
  have sl := Hsl.out.grew gY
  clear Hsl gY
  obtain ⟨y, rfl⟩ := later_of gw
  clear gw
  have HIl := Lib.hid (fun w' (g : Grew y.world w') => l4In_any _ t _ w' (sl.grew g))
  have HC := Lib.hid (fun w' => contains_any P F L t w')
  clear sl
  generalize slotsCode P F L a z = cd at *
  generalize slotsList P F L a z = ls at *
  generalize holdsB ls t = hin at *
  generalize containsB P F L t = C at *
  go_cut [73] (fun c wx => c = .bool false ∧ Grew y.world wx)
  case first =>
    by_cases e0 : cd = 0
    · have e1 : (cd == 0) = true := by simp [e0]
      have hh := HL.out e0
      cases C
      · obtain rfl : hin = false := hh
        clear e0
        go_wp2_with (first | (go_at_call 10; (with_reducible refine call_later (HIl.out _ gw) ?_); intro u) | (go_at_call 8; (with_reducible refine call_later (HC.out _) ?_); intro u) | ((with_reducible refine wp_region_later ?_ ?_ ?_); (· kernel_rfl); (· kernel_rfl); (try simp only [List.append_eq, List.cons_append, List.nil_append]); (repeat (go_big_quiet_step ((first | (go_at_call 10; (with_reducible exact call_quiet (HIl.out _ gw))) | (go_at_call 8; (with_reducible exact call_quiet (HC.out _))))))); refine wpQuiet_nil ?_; rintro _ ⟨u, rfl⟩))
        go_meet
        case rel => exact ⟨rfl, gw⟩
      · by_cases d1 : a ≤ t
        · have k1 : decide (a ≤ t) = true := by simp [d1]
          by_cases d2 : t < z
          · have k2 : decide (t < z) = true := by simp [d2]
            obtain rfl : hin = true := by rw [hh, k1, k2]; rfl
            clear hh e0 d1 d2
            go_wp2_with (first | (go_at_call 10; (with_reducible refine call_later (HIl.out _ gw) ?_); intro u) | (go_at_call 8; (with_reducible refine call_later (HC.out _) ?_); intro u) | ((with_reducible refine wp_region_later ?_ ?_ ?_); (· kernel_rfl); (· kernel_rfl); (try simp only [List.append_eq, List.cons_append, List.nil_append]); (repeat (go_big_quiet_step ((first | (go_at_call 10; (with_reducible exact call_quiet (HIl.out _ gw))) | (go_at_call 8; (with_reducible exact call_quiet (HC.out _))))))); refine wpQuiet_nil ?_; rintro _ ⟨u, rfl⟩))
            go_meet
            case rel => exact ⟨rfl, gw⟩
          · have k2 : decide (t < z) = false := by simp [d2]
            obtain rfl : hin = false := by rw [hh, k1, k2]; rfl
            clear hh e0 d1 d2
            go_wp2_with (first | (go_at_call 10; (with_reducible refine call_later (HIl.out _ gw) ?_); intro u) | (go_at_call 8; (with_reducible refine call_later (HC.out _) ?_); intro u) | ((with_reducible refine wp_region_later ?_ ?_ ?_); (· kernel_rfl); (· kernel_rfl); (try simp only [List.append_eq, List.cons_append, List.nil_append]); (repeat (go_big_quiet_step ((first | (go_at_call 10; (with_reducible exact call_quiet (HIl.out _ gw))) | (go_at_call 8; (with_reducible exact call_quiet (HC.out _))))))); refine wpQuiet_nil ?_; rintro _ ⟨u, rfl⟩))
            go_meet
            case rel => exact ⟨rfl, gw⟩
        · have k1 : decide (a ≤ t) = false := by simp [d1]
          obtain rfl : hin = false := by rw [hh, k1]; rfl
          clear hh e0 d1
          go_wp2_with (first | (go_at_call 10; (with_reducible refine call_later (HIl.out _ gw) ?_); intro u) | (go_at_call 8; (with_reducible refine call_later (HC.out _) ?_); intro u) | ((with_reducible refine wp_region_later ?_ ?_ ?_); (· kernel_rfl); (· kernel_rfl); (try simp only [List.append_eq, List.cons_append, List.nil_append]); (repeat (go_big_quiet_step ((first | (go_at_call 10; (with_reducible exact call_quiet (HIl.out _ gw))) | (go_at_call 8; (with_reducible exact call_quiet (HC.out _))))))); refine wpQuiet_nil ?_; rintro _ ⟨u, rfl⟩))
          go_meet
          case rel => exact ⟨rfl, gw⟩
    · have e1 : (cd == 0) = false := by simp [e0]
      clear e0
      go_wp2_with (first | ((with_reducible refine wp_region_later ?_ ?_ ?_); (· kernel_rfl); (· kernel_rfl); (try simp only [List.append_eq, List.cons_append, List.nil_append]); (repeat (go_big_quiet_step (fail))); refine wpQuiet_nil ?_; rintro _ ⟨u, rfl⟩))
      go_meet
      case rel => exact ⟨rfl, gw⟩
  case rest =>
    obtain ⟨rfl, hg⟩ := hcut
    obtain ⟨z1, rfl⟩ := later_of hg
    clear hg HIl HC HL c0 c1 c2 bW
    rw [HK.out] at A0 A1 A2
    cases hs : (setB A && setB B)
    · rw [hs] at A0 A1 A2
      rw [show codeB false 2 = 2 from rfl] at A0 A1 A2
      clear HM HT HS HK hs IA IB TA TB
      go_wp2_with (first | (go_at_call 11; go_loud (refine (A0.out _ gw).mono ?_; rintro e w1 ⟨vx, rfl, sx, gx⟩; obtain ⟨ux, rfl⟩ := later_of gx; clear gx; obtain ⟨aox, capx, rfl, hmx⟩ := sl2_form sx; have Hsx := Lib.hid sx; clear sx)) | (go_at_call 12; go_loud (refine (A1.out _ gw).mono ?_; rintro e w1 ⟨vy, rfl, sy, gy⟩; obtain ⟨uy, rfl⟩ := later_of gy; clear gy; obtain ⟨aoy, capy, rfl, hmy⟩ := sl2_form sy; have Hsy := Lib.hid sy; clear sy)) | (go_at_call 13; go_loud (refine (A2.out _ gw).mono ?_; rintro e w1 ⟨vv, rfl, sv, gv⟩; obtain ⟨uv, rfl⟩ := later_of gv; clear gv; obtain ⟨aov, capv, rfl, hmv⟩ := sl2_form sv; have Hsv := Lib.hid sv; clear sv)))
      go_ret
      exact ⟨rfl, gw⟩
    rw [hs] at A0 A1 A2
    rw [show codeB true 2 = 0 from rfl] at A0 A1 A2
    rw [Bool.and_eq_true] at hs
    have q0 : setCode A = 0 := by unfold setCode; rw [hs.1]; rfl
    have q1 : setCode B = 0 := by unfold setCode; rw [hs.2]; rfl
    obtain ⟨m0, m1, m2⟩ := HM.out hs.1 hs.2
    obtain ⟨s1, s2⟩ := HT.out hs.1 hs.2
    have k0 := HS.out andB hs.1 hs.2
    have k1 := HS.out orB hs.1 hs.2
    have k2 := HS.out butB hs.1 hs.2
    have w0 : setCode (mixR andB A B) = 0 := by unfold setCode; rw [k0]; rfl
    have w1 : setCode (mixR orB A B) = 0 := by unfold setCode; rw [k1]; rfl
    have w2 : setCode (mixR butB A B) = 0 := by unfold setCode; rw [k2]; rfl
    have bA := totalN_bd hs.1
    have bB := totalN_bd hs.2
    have b0 := totalN_bd k0
    have b1 := totalN_bd k1
    have b2 := totalN_bd k2
    have v1 : (totalN (mixR andB A B) + totalN (mixR orB A B) == totalN A + totalN B) = true := by simp [s1]
    have v2 : (totalN (mixR andB A B) + totalN (mixR butB A B) == totalN A) = true := by simp [s2]
    rw [q0] at TA
    rw [q1] at TB
    have J0 := Lib.hid (fun v w' (h : SlAt w' v (mixR andB A B).length ((mixR andB A B).flatMap slC)) => is_bool m0 (l4In_any (mixR andB A B) t v w' h))
    have J1 := Lib.hid (fun v w' (h : SlAt w' v (mixR orB A B).length ((mixR orB A B).flatMap slC)) => is_bool m1 (l4In_any (mixR orB A B) t v w' h))
    have J2 := Lib.hid (fun v w' (h : SlAt w' v (mixR butB A B).length ((mixR butB A B).flatMap slC)) => is_bool m2 (l4In_any (mixR butB A B) t v w' h))
    have T0 := Lib.hid (fun v w' (h : SlAt w' v (mixR andB A B).length ((mixR andB A B).flatMap slC)) => abTotal_any (mixR andB A B) v w' h)
    have T1 := Lib.hid (fun v w' (h : SlAt w' v (mixR orB A B).length ((mixR orB A B).flatMap slC)) => abTotal_any (mixR orB A B) v w' h)
    have T2 := Lib.hid (fun v w' (h : SlAt w' v (mixR butB A B).length ((mixR butB A B).flatMap slC)) => abTotal_any (mixR butB A B) v w' h)
    rw [w0] at T0
    rw [w1] at T1
    rw [w2] at T2
    clear HM HT HS HK hs q0 q1 m0 m1 m2 s1 s2 k0 k1 k2 w0 w1 w2
    generalize mixR andB A B = M0 at *
    generalize mixR orB A B = M1 at *
    generalize mixR butB A B = M2 at *
    generalize totalN A = nA at *
    generalize totalN B = nB at *
    generalize totalN M0 = n0 at *
    generalize totalN M1 = n1 at *
    generalize totalN M2 = n2 at *
    generalize holdsB A t = ha at *
    generalize holdsB B t = hb at *
    go_upto_region 12 with (first | (go_at_call 11; go_loud (refine (A0.out _ gw).mono ?_; rintro e w1 ⟨vx, rfl, sx, gx⟩; obtain ⟨ux, rfl⟩ := later_of gx; clear gx; obtain ⟨aox, capx, rfl, hmx⟩ := sl2_form sx; have Hsx := Lib.hid sx; clear sx)) | (go_at_call 12; go_loud (refine (A1.out _ gw).mono ?_; rintro e w1 ⟨vy, rfl, sy, gy⟩; obtain ⟨uy, rfl⟩ := later_of gy; clear gy; obtain ⟨aoy, capy, rfl, hmy⟩ := sl2_form sy; have Hsy := Lib.hid sy; clear sy)) | (go_at_call 13; go_loud (refine (A2.out _ gw).mono ?_; rintro e w1 ⟨vv, rfl, sv, gv⟩; obtain ⟨uv, rfl⟩ := later_of gv; clear gv; obtain ⟨aov, capv, rfl, hmv⟩ := sl2_form sv; have Hsv := Lib.hid sv; clear sv)))
    have G0 := Lib.hid (fun w' (g : Grew ux.world w') => J0.out _ w' (Hsx.out.grew g))
    have G1 := Lib.hid (fun w' (g : Grew uy.world w') => J1.out _ w' (Hsy.out.grew g))
    have G2 := Lib.hid (fun w' (g : Grew uv.world w') => J2.out _ w' (Hsv.out.grew g))
    have X0 := Lib.hid (fun w' (g : Grew ux.world w') => T0.out _ w' (Hsx.out.grew g))
    have X1 := Lib.hid (fun w' (g : Grew uy.world w') => T1.out _ w' (Hsy.out.grew g))
    have X2 := Lib.hid (fun w' (g : Grew uv.world w') => T2.out _ w' (Hsv.out.grew g))
    clear J0 J1 J2 T0 T1 T2 Hsx Hsy Hsv
    go_cut [155] (fun c wx => c = .bool false ∧ Grew uv.world wx)
    case first =>
      cases ha <;> cases hb
      all_goals
        go_wp2_with (first | (go_at_call 10; (with_reducible refine call_later (G0.out _ gw) ?_); intro u) | (go_at_call 10; (with_reducible refine call_later (G1.out _ gw) ?_); intro u) | (go_at_call 10; (with_reducible refine call_later (G2.out _ gw) ?_); intro u) | (go_at_call 10; (with_reducible refine call_later (IA.out _ gw) ?_); intro u) | (go_at_call 10; (with_reducible refine call_later (IB.out _ gw) ?_); intro u) | ((with_reducible refine wp_region_later ?_ ?_ ?_); (· kernel_rfl); (· kernel_rfl); (try simp only [List.append_eq, List.cons_append, List.nil_append]); (repeat (go_big_quiet_step ((first | (go_at_call 10; (with_reducible exact call_quiet (G0.out _ gw))) | (go_at_call 10; (with_reducible exact call_quiet (G1.out _ gw))) | (go_at_call 10; (with_reducible exact call_quiet (G2.out _ gw))) | (go_at_call 10; (with_reducible exact call_quiet (IA.out _ gw))) | (go_at_call 10; (with_reducible exact call_quiet (IB.out _ gw))))))); refine wpQuiet_nil ?_; rintro _ ⟨u, rfl⟩))
        go_meet
        case rel => exact ⟨rfl, gw⟩
    case rest =>
      obtain ⟨rfl, hg⟩ := hcut
      obtain ⟨z2, rfl⟩ := later_of hg
      clear hg G0 G1 G2 IA IB
      go_wp2_with (first | (go_at_call 14; (with_reducible refine call_later (TA.out _ gw) ?_); intro u) | (go_at_call 14; (with_reducible refine call_later (TB.out _ gw) ?_); intro u) | (go_at_call 14; (with_reducible refine call_later (X0.out _ gw) ?_); intro u) | (go_at_call 14; (with_reducible refine call_later (X1.out _ gw) ?_); intro u) | (go_at_call 14; (with_reducible refine call_later (X2.out _ gw) ?_); intro u) | ((with_reducible refine wp_region_later ?_ ?_ ?_); (· kernel_rfl); (· kernel_rfl); (try simp only [List.append_eq, List.cons_append, List.nil_append]); (repeat (go_big_quiet_step ((first | (go_at_call 14; (with_reducible exact call_quiet (TA.out _ gw))) | (go_at_call 14; (with_reducible exact call_quiet (TB.out _ gw))) | (go_at_call 14; (with_reducible exact call_quiet (X0.out _ gw))) | (go_at_call 14; (with_reducible exact call_quiet (X1.out _ gw))) | (go_at_call 14; (with_reducible exact call_quiet (X2.out _ gw))))))); refine wpQuiet_nil ?_; rintro _ ⟨u, rfl⟩))
      go_ret
      exact ⟨rfl, gw⟩
namespace ascentSlotsRow
open Go.ChangeShapes Go.WideShapes Go.ChangeAt Go.RowKit
theorem own : ownKnob Try.prog.godebug = none := by kernel_rfl
theorem lifted (os : Os) (started : os.Started) (H : Type) (enc : TypeId × Value → H) :
    ReturnsInHanded {} Try.checked os 4 .any (Rows.ascentSlotsSpec.pre6 enc Try.prog Try.f4 Rows.ascentSlotsRow.domain false) (Rows.ascentSlotsSpec.post enc Try.prog Try.f4 false true false false) := by
  refine returnsInHanded_of_change (C := Try.checked) own started (by kernel_rfl) Try.func4
    (ChangeSpec.witness6 (enc := enc) (C := Try.checked) false ⟨#[], #[.agg #[.int .i64 0, .int .i64 0, .int .i64 0], .int .i64 0, .int .i64 0, .slice none 0 0, .slice none 0 0, .int .i64 0], []⟩ 8 (by as_aux_lemma => kernel_rfl) (by as_aux_lemma => kernel_rfl) (by as_aux_lemma => kernel_rfl) (by as_aux_lemma => kernel_rfl)) ?_
  intro W base args ds gs before hval0 hW _ _
  have hval : ∀ (j : Nat) t v, Try.f4.params[j]? = some t → args[j]? = some v → Value.okWide Try.prog W .any base t v := hval0
  have hW' := hW
  obtain ⟨p, q, hA0, hV, rfl, hfz, hnd⟩ := hW
  have hA : DataW.TrodAll enc Try.prog W 0 (fun _ => true) true Try.f4.params.toList args.toList ds p := hA0
  rw [Try.params4] at hA hval
  obtain ⟨v0, vs0, d0, ds0, p0, q0, hargs, rfl, rfl, h0, r0⟩ := trodAll_cons hA
  obtain ⟨v1, vs1, d1, ds1, p1, q1, rfl, rfl, rfl, h1, r1⟩ := trodAll_cons r0
  obtain ⟨v2, vs2, d2, ds2, p2, q2, rfl, rfl, rfl, h2, r2⟩ := trodAll_cons r1
  obtain ⟨v3, vs3, d3, ds3, p3, q3, rfl, rfl, rfl, h3, r3⟩ := trodAll_cons r2
  obtain ⟨v4, vs4, d4, ds4, p4, q4, rfl, rfl, rfl, h4, r4⟩ := trodAll_cons r3
  obtain ⟨v5, vs5, d5, ds5, p5, q5, rfl, rfl, rfl, h5, r5⟩ := trodAll_cons r4
  obtain ⟨rfl, rfl, rfl⟩ := trodAll_nil r5
  obtain rfl : args = #[v0, v1, v2, v3, v4, v5] := by cases args; simp_all
  obtain ⟨rfl, rfl⟩ := trodVars_none hV
  obtain ⟨ns0, rfl, hl0, -⟩ := open_flat 3 (by kernel_rfl) Try.underlying23 (hval 0 23 v0 rfl rfl) h0
  obtain ⟨a1, rfl, -, -⟩ := open_num Try.underlying3 (hval 1 3 v1 rfl rfl) h1
  obtain ⟨a2, rfl, -, -⟩ := open_num Try.underlying3 (hval 2 3 v2 rfl rfl) h2
  obtain ⟨ao3, n3, cap3, rfl⟩ := okWide_slice Try.underlying31 (hval 3 31 v3 rfl rfl)
  obtain ⟨ao4, n4, cap4, rfl⟩ := okWide_slice Try.underlying31 (hval 4 31 v4 rfl rfl)
  obtain ⟨a5, rfl, -, -⟩ := open_num Try.underlying3 (hval 5 3 v5 rfl rfl) h5
  obtain ⟨P, F, L, rfl⟩ := list3 hl0
  obtain ⟨_, h3⟩ := h3
  obtain ⟨_, h4⟩ := h4
  obtain ⟨aoP, capP, A, eP, hP⟩ := slots_trod h3
  obtain ⟨aoT, capT, B, eT, hT⟩ := slots_trod h4
  rw [← (by simpa [Value.cells] using eP : Value.slice ao3 n3 cap3 = .slice aoP A.length capP)] at hP
  rw [← (by simpa [Value.cells] using eT : Value.slice ao4 n4 cap4 = .slice aoT B.length capT)] at hT
  refine (slots_walk P F L a1 a2 A B _ _ a5 W hP hT).mono fun e W' ⟨he, hg⟩ => ?_
  subst he
  exact ⟨_, rfl, law_post (by kernel_rfl) (by kernel_rfl) rfl rfl Try.underlying4 hW' rfl hg⟩
theorem proved : Rows.AscentSlotsSaid :=
  OpenClaim.holds_of_wide 4 Try.f4 rfl rfl rfl rfl rfl rfl rfl ⟨rfl, rfl, rfl, rfl, rfl⟩ rfl rfl rfl rfl rfl (by as_aux_lemma => kernel_rfl) Try.func4 (by as_aux_lemma => kernel_rfl)
    (of_decide_eq_true (by as_aux_lemma => kernel_rfl)) (by unfold Func.isWrapper; first | (rw [if_pos (by decide +kernel)]; kernel_rfl) | (rw [if_neg (by decide +kernel)]; exact ⟨rfl, rfl⟩))
    (fun os started H enc _ => lifted os started H enc)
end ascentSlotsRow
end Go.Proofs.Ytffbipcdlnfihaa
