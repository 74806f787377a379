/-
  Contracts of ullageref01's Floor, Ceil, bound, line.
-/
import Derived.Test.YtnedbhdokljpcaaGreatLookVal
import Derived.Test.YtnedbhdokljpcaaGreatRefDivs
namespace Go.Proofs.YtnedbhdokljpcaaGreat
open Go.RowKit Go.Shelf
set_option maxRecDepth 100000
set_option maxHeartbeats 8000000
theorem wFloor_any (x b : Int) (h1 : -42535295865117307932921825928971026432 ≤ x) (h2 : x ≤ 42535295865117307932921825928971026432) (hb0 : 0 < b) (hb : b ≤ 42535295865117307932921825928971026432) (w : World) : Calls Tryz.prog 220 #[.agg #[.int .i64 (mkW x).h, .int .u64 (mkW x).l], .agg #[.int .i64 (mkW b).h, .int .u64 (mkW b).l]] w fun e w' => e = .returned (.agg #[.int .i64 (mkW (downZ x b)).h, .int .u64 (mkW (downZ x b)).l]) ∧ Grew w w' := by
  have HQ := Lib.hid (fun w => wQuotient_any x b h1 h2 hb0 hb w)
  clear h1 h2 hb0 hb
  generalize mkW (downZ x b) = d at *
  generalize mkW (upZ x b) = u at *
  generalize mkW x = a at *
  generalize mkW b = c at *
  go_enter Tryz.func220, Tryz.ntmps220
  go_wp2_with (first | (go_at_call 218; (with_reducible refine call_later (HQ.out _) ?_); intro u) | ((with_reducible refine wp_region_later ?_ ?_ ?_); (· kernel_rfl); (· kernel_rfl); (try simp only [List.append_eq, List.cons_append, List.nil_append]); (repeat (go_big_quiet_step ((first | (go_at_call 218; (with_reducible exact call_quiet (HQ.out _))))))); refine wpQuiet_nil ?_; rintro _ ⟨u, rfl⟩))
  refine bodyPost_ret (by (simp [results, Tryz.results220, go_sem] <;> rfl)) rfl ?_
  exact ⟨rfl, (by repeat (first | with_reducible exact Grew.refl _ | with_reducible apply Grew.alloc | with_reducible apply Grew.later | with_reducible apply Grew.drew | with_reducible apply Grew.store | with_reducible assumption))⟩
theorem wCeil_any (x b : Int) (h1 : -42535295865117307932921825928971026432 ≤ x) (h2 : x ≤ 42535295865117307932921825928971026432) (hb0 : 0 < b) (hb : b ≤ 42535295865117307932921825928971026432) (w : World) : Calls Tryz.prog 221 #[.agg #[.int .i64 (mkW x).h, .int .u64 (mkW x).l], .agg #[.int .i64 (mkW b).h, .int .u64 (mkW b).l]] w fun e w' => e = .returned (.agg #[.int .i64 (mkW (upZ x b)).h, .int .u64 (mkW (upZ x b)).l]) ∧ Grew w w' := by
  have HQ := Lib.hid (fun w => wQuotient_any x b h1 h2 hb0 hb w)
  clear h1 h2 hb0 hb
  generalize mkW (downZ x b) = d at *
  generalize mkW (upZ x b) = u at *
  generalize mkW x = a at *
  generalize mkW b = c at *
  go_enter Tryz.func221, Tryz.ntmps221
  go_wp2_with (first | (go_at_call 218; (with_reducible refine call_later (HQ.out _) ?_); intro u) | ((with_reducible refine wp_region_later ?_ ?_ ?_); (· kernel_rfl); (· kernel_rfl); (try simp only [List.append_eq, List.cons_append, List.nil_append]); (repeat (go_big_quiet_step ((first | (go_at_call 218; (with_reducible exact call_quiet (HQ.out _))))))); refine wpQuiet_nil ?_; rintro _ ⟨u, rfl⟩))
  refine bodyPost_ret (by (simp [results, Tryz.results221, go_sem] <;> rfl)) rfl ?_
  exact ⟨rfl, (by repeat (first | with_reducible exact Grew.refl _ | with_reducible apply Grew.alloc | with_reducible apply Grew.later | with_reducible apply Grew.drew | with_reducible apply Grew.store | with_reducible assumption))⟩
theorem rBound_any (p : Pt) (up : Bool) (w : World) : Calls Tryz.prog 219 #[.agg #[.int .i64 p.place, .int .i64 p.value.lo, .int .i64 p.value.hi], .bool up] w fun e w' => e = .returned (.int .i64 (bnd up p.value)) ∧ Grew w w' := by
  cases up
  all_goals
    go_enter Tryz.func219, Tryz.ntmps219
    go_wp2
    go_ret
    exact ⟨rfl, (by repeat (first | with_reducible exact Grew.refl _ | with_reducible apply Grew.alloc | with_reducible apply Grew.later | with_reducible apply Grew.drew | with_reducible apply Grew.store | with_reducible assumption))⟩
theorem lineR_0 {l : List Pt} {up : Bool} {x : Int} (h : idxT x l = 0) (hl : 0 < l.length) : lineR l up x = (bnd up l[0].value, bnd up l[0].value) := by
  unfold lineR
  rw [if_pos h, getD_is hl]
theorem lineR_n {l : List Pt} {up : Bool} {x : Int} {k : Nat} (h : idxT x l = l.length) (hl : l.length = k + 1) (hk : k < l.length) : lineR l up x = (bnd up l[k].value, bnd up l[k].value) := by
  unfold lineR
  rw [if_neg (by omega), if_pos h, show l.length - 1 = k by omega, getD_is hk]
theorem lineR_i {l : List Pt} {up : Bool} {x : Int} {k : Nat} (h : idxT x l = k + 1) (hl : k + 1 < l.length) (hk : k < l.length) : lineR l up x = (bnd up l[k].value + downZ ((bnd up l[k + 1].value - bnd up l[k].value) * (x - l[k].place)) (l[k + 1].place - l[k].place), bnd up l[k].value + upZ ((bnd up l[k + 1].value - bnd up l[k].value) * (x - l[k].place)) (l[k + 1].place - l[k].place)) := by
  unfold lineR
  rw [if_neg (by omega), if_neg (by omega), h, show k + 1 - 1 = k by omega, getD_is hl, getD_is hk]
/-- A product of differences within a table, and its quotients. -/
theorem mul_box {a b d : Int} (h1 : -4611686018427387904 ≤ a) (h2 : a ≤ 4611686018427387904) (h3 : 0 ≤ b ∧ b ≤ 4611686018427387904) (h4 : 1 ≤ d ∧ d ≤ 4611686018427387904) :
    (-21267647932558653966460912964485513216 ≤ a * b ∧ a * b ≤ 21267647932558653966460912964485513216) ∧ (-21267647932558653966460912964485513216 ≤ downZ (a * b) d ∧ downZ (a * b) d ≤ 21267647932558653966460912964485513216) ∧ -21267647932558653966460912964485513217 ≤ upZ (a * b) d ∧ upZ (a * b) d ≤ 21267647932558653966460912964485513217 := by
  have hab : -21267647932558653966460912964485513216 ≤ a * b ∧ a * b ≤ 21267647932558653966460912964485513216 := by
    have k1 : a * b ≤ 4611686018427387904 * b := Int.mul_le_mul_of_nonneg_right h2 h3.1
    have k2 : -4611686018427387904 * b ≤ a * b := Int.mul_le_mul_of_nonneg_right h1 h3.1
    omega
  generalize a * b = m at *
  have hd : -21267647932558653966460912964485513216 ≤ m / d ∧ m / d ≤ 21267647932558653966460912964485513216 := by
    have e := Int.mul_ediv_add_emod m d
    have r1 := Int.emod_nonneg m (show d ≠ 0 by omega)
    have r2 := Int.emod_lt_of_pos m (show 0 < d by omega)
    refine ⟨?_, ?_⟩
    · exact (Int.le_ediv_iff_mul_le (by omega)).2 (by
        have : -21267647932558653966460912964485513216 * d ≤ -21267647932558653966460912964485513216 * 1 := by omega
        omega)
    · have := Int.ediv_le_ediv (show 0 < d by omega) hab.2
      have k := Int.ediv_le_self d (show (0 : Int) ≤ 21267647932558653966460912964485513216 by omega)
      omega
  refine ⟨hab, hd, ?_⟩
  rw [upZ_law m d h4.1]
  split <;> omega
theorem rLine_any (l : List Pt) (up : Bool) (x : Int) (ht : tableB l = true) (ao : Option Addr) (cap : Nat) (w : World) (hs : SlAt w (.slice ao l.length cap) l.length (l.flatMap Pt.cells)) :
    Calls Tryz.prog 182 #[.slice ao l.length cap, .bool up, .int .i64 x] w fun e w' => e = .returned (.tuple #[.agg #[.int .i64 (mkW (lineR l up x).1).h, .int .u64 (mkW (lineR l up x).1).l], .agg #[.int .i64 (mkW (lineR l up x).2).h, .int .u64 (mkW (lineR l up x).2).l]]) ∧ Grew w w' := by
  have hm := hs.len_le
  unfold maxLen at hm
  obtain ⟨ao', cap', e1, -, hx⟩ := hs
  cases e1
  have HE := Lib.hid (SlAt.elem (f := Pt.cells) (c := 3) (fun _ => rfl) (by omega) hx)
  clear hx
  obtain ⟨h1, h2, h3, h4⟩ := table_facts ht
  have H3 := Lib.hid h3
  clear ht h3 h4
  obtain ⟨b0, o0, e0, i0, hd1, hd2⟩ := HE.out 0 (by omega)
  have hz0 := hd1 _ rfl
  have hz1 := hd2 1 _ rfl
  have hz2 := hd2 2 _ rfl
  clear hd1 hd2
  cases e0
  have j0 : BlockIn w b0 := ⟨i0⟩
  simp only [Nat.zero_mul, Nat.add_zero] at hz0 hz1 hz2
  by_cases hx0 : x ≤ l[0].place
  · have Hv := Lib.hid (lineR_0 (l := l) (up := up) (x := x) (idxT_is (by omega) (fun _ _ h => by omega) (fun _ => hx0)) (by omega))
    have HI := Lib.hid (bnd_i64 (H3.out 0 (by omega)) up)
    generalize lineR l up x = L at *
    generalize l[0] = qA at *
    go_enter Tryz.func182, Tryz.ntmps182
    have HC := Lib.hid (fun w => rBound_any qA up w)
    have HO := Lib.hid (fun w => wide_any (bnd up qA.value) HI.out w)
    generalize bnd up qA.value = vA at *
    generalize hmA : mkW vA = mA at *
    have HM := Lib.hid hmA
    clear hmA
    go_wp2_with (first | (go_at_call 219; (with_reducible refine call_later (HC.out _) ?_); intro u1) | (go_at_call 147; (with_reducible refine call_later (HO.out _) ?_); intro u2))
    go_region
    all_goals go_wp2
    all_goals
      refine bodyPost_ret (by (simp [results, Tryz.results182, go_sem] <;> rfl)) rfl ?_
      exact ⟨by rw [Hv.out, ← HM.out], (by repeat (first | with_reducible exact Grew.refl _ | with_reducible apply Grew.alloc | with_reducible apply Grew.later | with_reducible apply Grew.drew | with_reducible apply Grew.store | with_reducible assumption))⟩
  · have hlt0 : l[0].place < x := by omega
    have Hlt0 := Lib.hid hlt0
    have t0 : decide (x ≤ l[0].place) = false := by simp [hx0]
    generalize hL : lineR l up x = L at *
    have HL := Lib.hid hL
    clear hL hlt0 hx0
    go_enter Tryz.func182, Tryz.ntmps182
    go_wp2
    go_loopw [9] (fun t wr => ∃ i : Nat, t = .int .i64 i ∧ 1 ≤ i ∧ i ≤ l.length ∧ (∀ j (hj : j < l.length), j < i → l[j].place < x) ∧ Grew ((w.alloc (.cells #[.int .i64 0, .int .u64 0] 197)).alloc (.cells #[.int .i64 0, .int .u64 0] 197)) wr) (fun t _ => l.length - (intOf t).toNat)
    case atStart =>
      have Hall : ∀ j (hj : j < l.length), j < 1 → l[j].place < x := fun j hj h => by
        have e : j = 0 := by omega
        subst e
        exact Hlt0.out
      refine ⟨1, by simp, by omega, by omega, Hall, ?_⟩
      exact (by repeat (first | with_reducible exact Grew.refl _ | with_reducible apply Grew.alloc | with_reducible apply Grew.later | with_reducible apply Grew.drew | with_reducible apply Grew.store | with_reducible assumption))
    case round =>
      obtain ⟨i, rfl, hi1, hi, hbe, hg⟩ := hrel
      obtain ⟨z, rfl⟩ := later_of hg
      clear hg hz0 hz1 hz2 t0
      have Hbe := Lib.hid hbe
      clear hbe
      by_cases hlt : i < l.length
      · obtain ⟨b1, o1, e1, i1, hd1, hd2⟩ := HE.out i hlt
        cases e1
        have hc0 := hd1 _ rfl
        have hc1 := hd2 1 _ rfl
        have hc2 := hd2 2 _ rfl
        clear hd1 hd2
        by_cases hp : l[i].place < x
        · have Hn := Lib.hid (fun j (hj : j < l.length) (hji : j < i + 1) => show l[j].place < x by
            by_cases e : j = i
            · subst e; exact hp
            · exact Hbe.out j hj (by omega))
          generalize l[i] = qA at *
          go_wp2
          go_roundw
          case rel => exact ⟨i + 1, by go_num, by omega, by omega, Hn.out, (by repeat (first | with_reducible exact Grew.refl _ | with_reducible apply Grew.alloc | with_reducible apply Grew.later | with_reducible apply Grew.drew | with_reducible apply Grew.store | with_reducible assumption))⟩
          case measure => simp [intOf]; omega
        · obtain ⟨k, rfl⟩ : ∃ k, i = k + 1 := ⟨i - 1, by omega⟩
          have hkl : k < l.length := by omega
          have Hidx := Lib.hid (show idxT x l = k + 1 from idxT_is (by omega) Hbe.out (fun _ => by omega))
          obtain ⟨b2, o2, e2, -, he1, he2⟩ := HE.out k hkl
          cases e2
          have kc0 := he1 _ rfl
          have kc1 := he2 1 _ rfl
          have kc2 := he2 2 _ rfl
          clear he1 he2
          have Hv := Lib.hid (show L = _ from HL.out.symm.trans (lineR_i Hidx.out hlt hkl))
          have hb := Hbe.out k hkl (by omega)
          obtain ⟨⟨a5, a6⟩, a1, a2⟩ := pt_bd (H3.out k hkl) up
          obtain ⟨⟨a7, a8⟩, a3, a4⟩ := pt_bd (H3.out (k + 1) hlt) up
          generalize l[k + 1] = qA at *
          generalize l[k] = pA at *
          have qp1 : I64 (bnd up qA.value - bnd up pA.value) := by unfold I64; omega
          have qp2 : I64 (x - pA.place) := by unfold I64; omega
          have qp3 : I64 (qA.place - pA.place) := by unfold I64; omega
          have qp4 : I64 (bnd up pA.value) := by unfold I64; omega
          have hw3 : IntKind.i64.wrap (bnd up qA.value - bnd up pA.value) = bnd up qA.value - bnd up pA.value := wrapI64 _ (by omega) (by omega)
          have hw4 : IntKind.i64.wrap (x - pA.place) = x - pA.place := wrapI64 _ (by omega) (by omega)
          have hw5 : IntKind.i64.wrap (qA.place - pA.place) = qA.place - pA.place := wrapI64 _ (by omega) (by omega)
          have him : (((k + 1 : Nat) : Int) - 1) = (k : Int) := by omega
          have hbx := mul_box (a := bnd up qA.value - bnd up pA.value) (b := x - pA.place) (d := qA.place - pA.place) (by omega) (by omega) (by omega) (by omega)
          have HBp := Lib.hid (fun w => rBound_any pA up w)
          have HBq := Lib.hid (fun w => rBound_any qA up w)
          have HT := Lib.hid (fun w => wTimes_any (bnd up qA.value - bnd up pA.value) (x - pA.place) qp1 qp2 w)
          have HW := Lib.hid (fun w => wide_any (qA.place - pA.place) qp3 w)
          have HA := Lib.hid (fun w => wide_any (bnd up pA.value) qp4 w)
          have HF := Lib.hid (fun w => wFloor_any ((bnd up qA.value - bnd up pA.value) * (x - pA.place)) (qA.place - pA.place) (by omega) (by omega) (by omega) (by omega) w)
          have HC := Lib.hid (fun w => wCeil_any ((bnd up qA.value - bnd up pA.value) * (x - pA.place)) (qA.place - pA.place) (by omega) (by omega) (by omega) (by omega) w)
          have HP1 := Lib.hid (fun w => wPlus_any (bnd up pA.value) (downZ ((bnd up qA.value - bnd up pA.value) * (x - pA.place)) (qA.place - pA.place)) (by unfold R128; omega) (by unfold R128; omega) (by unfold R128; omega) w)
          have HP2 := Lib.hid (fun w => wPlus_any (bnd up pA.value) (upZ ((bnd up qA.value - bnd up pA.value) * (x - pA.place)) (qA.place - pA.place)) (by unfold R128; omega) (by unfold R128; omega) (by unfold R128; omega) w)
          clear hbx qp1 qp2 qp3 qp4 HE H3 Hbe Hidx HL Hlt0
          generalize hT : mkW ((bnd up qA.value - bnd up pA.value) * (x - pA.place)) = mT at *
          generalize hO : mkW (qA.place - pA.place) = mO at *
          generalize hA : mkW (bnd up pA.value) = mA at *
          generalize hFl : mkW (downZ ((bnd up qA.value - bnd up pA.value) * (x - pA.place)) (qA.place - pA.place)) = mF at *
          generalize hCe : mkW (upZ ((bnd up qA.value - bnd up pA.value) * (x - pA.place)) (qA.place - pA.place)) = mC at *
          generalize hD : mkW (bnd up pA.value + downZ ((bnd up qA.value - bnd up pA.value) * (x - pA.place)) (qA.place - pA.place)) = mD at *
          generalize hU : mkW (bnd up pA.value + upZ ((bnd up qA.value - bnd up pA.value) * (x - pA.place)) (qA.place - pA.place)) = mU at *
          have HR := Lib.hid (show mkW L.1 = mD ∧ mkW L.2 = mU from ⟨by rw [Hv.out]; exact hD, by rw [Hv.out]; exact hU⟩)
          clear hT hO hA hFl hCe hD hU Hv
          generalize bnd up pA.value = vp at *
          generalize bnd up qA.value = vq at *
          have kl1 : (0 : Int) ≤ (k : Int) := by omega
          have kl2 : (k : Int) < (l.length : Int) := by omega
          have kl3 : ((k + 1 : Nat) : Int) < (l.length : Int) := by omega
          have kl4 : (k : Int) + 1 < (l.length : Int) := by omega
          have kl5 : (0 : Int) ≤ (k : Int) + 1 := by omega
          have kl6 : ((k : Int) + 1).toNat = k + 1 := by omega
          have kl7 : IntKind.i64.wrap ((k : Int) + 1 - 1) = (k : Int) := by rw [wrapI64 _ (by omega) (by omega)]; omega
          have kl9 : IntKind.i64.wrap (k : Int) = (k : Int) := wrapI64 _ (by omega) (by omega)
          have kl8 : (k : Int) + 1 - 1 = k := by omega
          go_wp2_with (first | (go_at_call 219; (with_reducible refine call_later (HBp.out _) ?_); intro u1) | (go_at_call 219; (with_reducible refine call_later (HBq.out _) ?_); intro u2) | (go_at_call 167; (with_reducible refine call_later (HT.out _) ?_); intro u3))
          refine wp_region_grown 14 [13] [12] [] (fun W0 => [(13, BoxR W0 [.int .i64 0, .int .u64 0])]) [.agg #[.int .i64 mO.h, .int .u64 mO.l]] [14] (by rfl) (by intro W0 x hx; simp only [List.mem_cons, List.not_mem_nil, or_false] at hx; rcases hx with rfl; exact good_box _ _) (by kernel_rfl) (by kernel_rfl) (by kernel_rfl) ?_
          intro p
          apply Exists.intro
          apply And.intro
          apply lexg_pure (by kernel_rfl)
          · intro u; unfold opPure; go_simp; rfl
          apply lexg_pure (by kernel_rfl)
          · intro u; unfold opPure; go_simp; rfl
          apply lexg_pure (by kernel_rfl)
          · intro u; unfold opPure; go_simp; rfl
          apply lexg_pure (by kernel_rfl)
          · intro u; unfold opPure; go_simp; rfl
          apply lexg_pure (by kernel_rfl)
          · intro u; unfold opPure; go_simp; rfl
          apply lexg_pure (by kernel_rfl)
          · intro u; unfold opPure; go_simp; rfl
          apply lexg_pure (by kernel_rfl)
          · intro u; unfold opPure; go_simp; rfl
          apply lexg_pure (by kernel_rfl)
          · intro u; unfold opPure; go_simp; rfl
          apply lexg_pure (by kernel_rfl)
          · intro u; unfold opPure; go_simp; rfl
          apply lexg_pure (by kernel_rfl)
          · intro u; unfold opPure; go_simp; rfl
          apply lexg_pure (by kernel_rfl)
          · intro u; unfold opPure; go_simp; rfl
          apply lexg_pure (by kernel_rfl)
          · intro u; unfold opPure; go_simp; rfl
          apply lexg_call 0 (by kernel_rfl) (by rfl) (by decide)
          · intro u hF; clear hF; unfold opCall; go_simp; exact HW.out _
          apply lexg_make (by kernel_rfl)
          · intro u hF; clear hF; unfold opMake; go_simp; exact made_box _ _ _ _
          apply lexg_end
          rotate_left
          · rfl
          intro u hR hD
          obtain ⟨q13, e13, hB13, kB13, nB13⟩ := (show BoxR _ [.int .i64 0, .int .u64 0] (p 13) u.world from hR 13 (by decide))
          clear hR hD
          rw [e13]
          clear e13
          have oB13 := apart_oldL nB13
          have oC13 := apart_oldR nB13
          have nC13 : NewFor w q13 := ⟨Nat.le_trans (Grew.size (by repeat (first | with_reducible exact Grew.refl _ | with_reducible apply Grew.alloc | with_reducible apply Grew.later | with_reducible apply Grew.drew | with_reducible apply Grew.store | with_reducible assumption))) nB13.le⟩
          have hB13_0 := (hB13 0 _ rfl).1
          have hB13f0 := (hB13 0 _ rfl).2
          have hB13i0 : HasCell (u.world) (q13) 0 := ⟨_, hB13_0⟩
          have hB13_1 := (hB13 1 _ rfl).1
          have hB13f1 := (hB13 1 _ rfl).2
          have hB13i1 : HasCell (u.world) (q13) 1 := ⟨_, hB13_1⟩
          have hB13b : BlockIn (u.world) (q13) := BlockIn.of_cell hB13_0
          clear hB13
          refine tail_store (by rfl) ?_; unfold opStore; go_simp
          refine tail_end ?_
          go_wp2
          refine wp_region_grown 12 [] [1, 4, 5, 7, 10, 11] [] (fun W0 => []) [.agg #[.int .i64 mA.h, .int .u64 mA.l], .agg #[.int .i64 mF.h, .int .u64 mF.l], .agg #[.int .i64 mD.h, .int .u64 mD.l], .agg #[.int .i64 mA.h, .int .u64 mA.l], .agg #[.int .i64 mC.h, .int .u64 mC.l], .agg #[.int .i64 mU.h, .int .u64 mU.l]] [12, 13] (by rfl) (fun _ x hx => absurd hx (List.not_mem_nil)) (by kernel_rfl) (by kernel_rfl) (by kernel_rfl) ?_
          intro p
          apply Exists.intro
          apply And.intro
          apply lexg_pure (by kernel_rfl)
          · intro u; unfold opPure; go_simp; rfl
          apply lexg_call 0 (by kernel_rfl) (by rfl) (by decide)
          · intro u hF; clear hF; unfold opCall; go_simp; exact HA.out _
          apply lexg_pure (by kernel_rfl)
          · intro u; unfold opPure; go_simp; rfl
          apply lexg_pure (by kernel_rfl)
          · intro u; unfold opPure; go_simp; rfl
          apply lexg_call 1 (by kernel_rfl) (by rfl) (by decide)
          · intro u hF; clear hF; unfold opCall; go_simp; exact HF.out _
          apply lexg_call 2 (by kernel_rfl) (by rfl) (by decide)
          · intro u hF; clear hF; unfold opCall; go_simp; exact HP1.out _
          apply lexg_pure (by kernel_rfl)
          · intro u; unfold opPure; go_simp; rfl
          apply lexg_call 3 (by kernel_rfl) (by rfl) (by decide)
          · intro u hF; clear hF; unfold opCall; go_simp; exact HA.out _
          apply lexg_pure (by kernel_rfl)
          · intro u; unfold opPure; go_simp; rfl
          apply lexg_pure (by kernel_rfl)
          · intro u; unfold opPure; go_simp; rfl
          apply lexg_call 4 (by kernel_rfl) (by rfl) (by decide)
          · intro u hF; clear hF; unfold opCall; go_simp; exact HC.out _
          apply lexg_call 5 (by kernel_rfl) (by rfl) (by decide)
          · intro u hF; clear hF; unfold opCall; go_simp; exact HP2.out _
          apply lexg_end
          rotate_left
          · rfl
          intro u hR hD
          clear hR hD
          refine tail_store (by rfl) ?_; unfold opStore; go_simp
          refine tail_store (by rfl) ?_; unfold opStore; go_simp
          refine tail_end ?_
          go_wp2
          refine bodyPost_ret (by (simp [results, Tryz.results182, go_sem] <;> rfl)) rfl ?_
          exact ⟨by rw [HR.out.1, HR.out.2], (by repeat (first | with_reducible exact Grew.refl _ | with_reducible apply Grew.alloc | with_reducible apply Grew.later | with_reducible apply Grew.drew | with_reducible apply Grew.store | with_reducible assumption))⟩
      · obtain ⟨k, hk⟩ : ∃ k, l.length = k + 1 := ⟨l.length - 1, by omega⟩
        have hkl : k < l.length := by omega
        have hi2 : i = l.length := by omega
        have Hidx := Lib.hid (show idxT x l = l.length from idxT_is (by omega) (fun j hj _ => Hbe.out j hj (by omega)) (fun h => absurd h (by omega)))
        have Hv := Lib.hid (show L = _ from HL.out.symm.trans (lineR_n Hidx.out hk hkl))
        obtain ⟨b1, o1, e1, i1, hd1, hd2⟩ := HE.out k hkl
        cases e1
        have hc0 := hd1 _ rfl
        have hc1 := hd2 1 _ rfl
        have hc2 := hd2 2 _ rfl
        clear hd1 hd2
        have HI := Lib.hid (bnd_i64 (H3.out k hkl) up)
        generalize l[k] = qA at *
        subst hi2
        have him : ((l.length : Int) - 1) = k := by omega
        have kl1 : (0 : Int) ≤ (k : Int) := by omega
        have kl2 : (k : Int) < (l.length : Int) := by omega
        clear HE Hbe H3 HL Hidx hk hi hlt Hlt0
        have HC := Lib.hid (fun w => rBound_any qA up w)
        have HO := Lib.hid (fun w => wide_any (bnd up qA.value) HI.out w)
        generalize bnd up qA.value = vA at *
        generalize hmA : mkW vA = mA at *
        have HM := Lib.hid hmA
        clear hmA
        go_wp2_with (first | (go_at_call 219; (with_reducible refine call_later (HC.out _) ?_); intro u1) | (go_at_call 147; (with_reducible refine call_later (HO.out _) ?_); intro u2))
        go_region
        all_goals go_wp2
        all_goals
          refine bodyPost_ret (by (simp [results, Tryz.results182, go_sem] <;> rfl)) rfl ?_
          exact ⟨by rw [Hv.out, ← HM.out], (by repeat (first | with_reducible exact Grew.refl _ | with_reducible apply Grew.alloc | with_reducible apply Grew.later | with_reducible apply Grew.drew | with_reducible apply Grew.store | with_reducible assumption))⟩
end Go.Proofs.YtnedbhdokljpcaaGreat
