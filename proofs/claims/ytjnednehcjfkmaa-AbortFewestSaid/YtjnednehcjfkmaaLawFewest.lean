/-
  AbortFewest: for every list of masks and picks (at most 200), the plan has a mode of each mask and none just where there is none, no other plan has fewer changes, and none with as many comes before it. No condition.
-/
import Derived.Test.YtjnednehcjfkmaaFewAll
import Derived.Test.YtjnednehcjfkmaaFewAlive
import Derived.Test.YtjnednehcjfkmaaOpenApi
import Derived.Test.YtjnednehcjfkmaaRows
namespace Go.Proofs.Ytjnednehcjfkmaa
open Go.RowKit
set_option maxRecDepth 100000
set_option maxHeartbeats 32000000
def u8C (x : Int) : List Value := [.int .u8 x]
theorem u8_cell {w : World} {v : Value} {l : List Int} (h : SlAt w v l.length (l.flatMap u8C)) (k : Nat) (hk : k < l.length) :
    ∃ b off cap, v = .slice (some ⟨b, off, none⟩) l.length cap ∧ BlockIn w b ∧ w.cell? ⟨b, off + k, none⟩ = some (.int .u8 l[k]) := by
  obtain ⟨ao, cap, rfl, hm, hc⟩ := h
  obtain ⟨b, off, rfl, hb, h1, -⟩ := SlAt.elem (f := u8C) (c := 1) (fun _ => rfl) (by omega) hc k hk
  refine ⟨b, off, cap, rfl, ⟨hb⟩, ?_⟩
  have := h1 _ rfl
  rwa [Nat.mul_one] at this
theorem lat_cell_n {w : World} {v : Value} {l : List Int} {n : Nat} (hn : l.length = n) (h : SlAt w v n (l.flatMap intC)) (k : Nat) (hk : k < n) :
    ∃ b off cap, v = .slice (some ⟨b, off, none⟩) n cap ∧ BlockIn w b ∧ w.cell? ⟨b, off + k, none⟩ = some (.int .i64 (lat l k)) := by
  subst hn
  exact lat_cell h k hk
theorem bit_one (m : Int) (j : Nat) (h0 : 0 ≤ m) (h1 : m < 65536) : bits .and .i64 (m / 2 ^ j) 1 = m / 2 ^ j % 2 := by
  have hb := half_bits m j h0 h1
  exact and_one_nat _ hb.1 (by omega)
/-- What AbortFewest looks for behind the loops. -/
theorem few_err (P : List Int) (v1 v2 : Value) (K : List Int) (w : World) (hP : SlAt w v1 P.length (P.flatMap intC)) (hK : SlAt w v2 K.length (K.flatMap u8C)) (h : 200 < P.length ∨ 200 < K.length ∨ masksCode P ≠ 0) : Calls Try.prog 3 #[v1, v2] w fun e w' => e = .returned (.bool true) ∧ Grew w w' := by
  have H1 := Lib.hid (fun w' (g : Grew w w') => abPlan_any P v1 w' (hP.grew g))
  have H2 := Lib.hid (fun w' (g : Grew w w') => abGaps_any P v1 w' (hP.grew g))
  obtain ⟨ao1, cap1, rfl, hm1⟩ := sl_form hP
  obtain ⟨ao2, cap2, rfl, hm2⟩ := sl_form hK
  clear hP hK
  by_cases l1 : 200 < P.length
  · have l1' : decide ((200 : Int) < P.length) = true := by simp; omega
    clear h
    go_enter Try.func3, Try.ntmps3
    go_wp2_with (first | (go_at_call 6; (with_reducible refine call_later (alive11_any _) ?_); intro u) | ((with_reducible refine wp_region_later ?_ ?_ ?_); (· kernel_rfl); (· kernel_rfl); (repeat (go_big_quiet_step ((first | (go_at_call 6; (with_reducible exact call_quiet (alive11_any _))))))); refine wpQuiet_nil ?_; rintro _ ⟨u, rfl⟩))
    go_ret
    exact ⟨rfl, (by repeat (first | with_reducible exact Grew.refl _ | with_reducible apply Grew.alloc | with_reducible apply Grew.later | with_reducible apply Grew.drew | with_reducible apply Grew.store | with_reducible assumption))⟩
  have l1' : decide ((200 : Int) < P.length) = false := by simp; omega
  by_cases l2 : 200 < K.length
  · have l2' : decide ((200 : Int) < K.length) = true := by simp; omega
    clear h
    go_enter Try.func3, Try.ntmps3
    go_wp2_with (first | (go_at_call 6; (with_reducible refine call_later (alive11_any _) ?_); intro u) | ((with_reducible refine wp_region_later ?_ ?_ ?_); (· kernel_rfl); (· kernel_rfl); (repeat (go_big_quiet_step ((first | (go_at_call 6; (with_reducible exact call_quiet (alive11_any _))))))); refine wpQuiet_nil ?_; rintro _ ⟨u, rfl⟩))
    go_ret
    exact ⟨rfl, (by repeat (first | with_reducible exact Grew.refl _ | with_reducible apply Grew.alloc | with_reducible apply Grew.later | with_reducible apply Grew.drew | with_reducible apply Grew.store | with_reducible assumption))⟩
  have l2' : decide ((200 : Int) < K.length) = false := by simp; omega
  have hc : masksCode P ≠ 0 := by omega
  have hc' : (masksCode P != 0) = true := by simp [hc]
  have HR := Lib.hid (show planR P = [] by unfold planR; rw [if_neg hc])
  have HN := Lib.hid (show planNR P = 0 by unfold planNR; rw [if_neg hc])
  clear hc h
  unfold RetPlan at H1
  unfold RetIntsC at H2
  rw [HR.out, HN.out] at H1
  generalize masksCode P = c at *
  go_enter Try.func3, Try.ntmps3
  go_wp2_with (first | (go_at_call 6; (with_reducible refine call_later (alive11_any _) ?_); intro u) | (go_at_call 7; (with_reducible refine (H1.out _ (by repeat (first | with_reducible exact Grew.refl _ | with_reducible apply Grew.alloc | with_reducible apply Grew.later | with_reducible apply Grew.drew | with_reducible apply Grew.store | with_reducible assumption))).mono ?_); rintro e w1 ⟨va, rfl, sa, ga⟩; obtain ⟨u1, rfl⟩ := later_of ga; clear ga; obtain ⟨aoa, capa, rfl, -⟩ := sl_form sa) | (go_at_call 8; (with_reducible refine (H2.out _ (by repeat (first | with_reducible exact Grew.refl _ | with_reducible apply Grew.alloc | with_reducible apply Grew.later | with_reducible apply Grew.drew | with_reducible apply Grew.store | with_reducible assumption))).mono ?_); rintro e w2 ⟨vb, rfl, sb, gb⟩; obtain ⟨u2, rfl⟩ := later_of gb; clear gb) | ((with_reducible refine wp_region_later ?_ ?_ ?_); (· kernel_rfl); (· kernel_rfl); (repeat (go_big_quiet_step ((first | (go_at_call 6; (with_reducible exact call_quiet (alive11_any _))))))); refine wpQuiet_nil ?_; rintro _ ⟨u, rfl⟩))
  all_goals go_ret
  all_goals exact ⟨rfl, (by repeat (first | with_reducible exact Grew.refl _ | with_reducible apply Grew.alloc | with_reducible apply Grew.later | with_reducible apply Grew.drew | with_reducible apply Grew.store | with_reducible assumption))⟩
theorem few_walk (P : List Int) (v1 v2 : Value) (K : List Int) (w : World) (hP : SlAt w v1 P.length (P.flatMap intC)) (hK : SlAt w v2 K.length (K.flatMap u8C)) (hk : ∀ x ∈ K, 0 ≤ x ∧ x ≤ 255) (l1 : P.length ≤ 200) (l2 : K.length ≤ 200) (hc : masksCode P = 0) : Calls Try.prog 3 #[v1, v2] w fun e w' => e = .returned (.bool true) ∧ Grew w w' := by
  have H1 := Lib.hid (fun w' (g : Grew w w') => abPlan_any P v1 w' (hP.grew g))
  have H2 := Lib.hid (fun w' (g : Grew w w') => abGaps_any P v1 w' (hP.grew g))
  have HI := Lib.hid (fun k hk => lat_cell hP k hk)
  have HK := Lib.hid (fun k hk => u8_cell hK k hk)
  have HU := Lib.hid hk
  obtain ⟨ao1, cap1, rfl, hm1⟩ := sl_form hP
  obtain ⟨ao2, cap2, rfl, hm2⟩ := sl_form hK
  clear hP hK hk
  have l1' : decide ((200 : Int) < P.length) = false := by simp; omega
  have l2' : decide ((200 : Int) < K.length) = false := by simp; omega
  have e1 : planR P = planL P := by unfold planR; rw [if_pos hc]
  have e2 : planNR P = planN P := by unfold planNR; rw [if_pos hc]
  have e3 : gapsL P = gapsAt P P.length := by unfold gapsL; rw [if_pos hc]
  unfold RetPlan at H1
  unfold RetIntsC at H2
  rw [e1, e2, hc, plan_len] at H1
  rw [e3, hc] at H2
  clear e1 e2 e3
  have HF := Lib.hid (fun i hi => plan_fits hc i hi)
  have HM := Lib.hid (fun i hi => mask_bd hc i hi)
  have HC := Lib.hid (fun v w' (h : SlAt w' v P.length ((planL P).flatMap intC)) => is_int (k := .i64) (plan_num hc) (changes_any (planL P) v w' (by rw [plan_len]; exact h)))
  have HL := Lib.hid (fun O hO hl => fits_least (P := P) (O := O) hc hO hl)
  have HA := Lib.hid (fun O hO hl he => fits_after (P := P) (O := O) hc hO hl he)
  have HG1 := Lib.hid (fun k hk h => gap_at P k hk h)
  have HG2 := Lib.hid (fun k hk h => gap_no P k hk h)
  have hplen := plan_len P
  have hgl := gapsAt_len P P.length
  generalize hpl : planL P = pl at *
  generalize planN P = pn at *
  clear hpl hc
  go_enter Try.func3, Try.ntmps3
  go_wp2_with (first | (go_at_call 6; (with_reducible refine call_later (alive11_any _) ?_); intro u) | (go_at_call 7; (with_reducible refine (H1.out _ (by repeat (first | with_reducible exact Grew.refl _ | with_reducible apply Grew.alloc | with_reducible apply Grew.later | with_reducible apply Grew.drew | with_reducible apply Grew.store | with_reducible assumption))).mono ?_); rintro e w1 ⟨va, rfl, sa, ga⟩; obtain ⟨u1, rfl⟩ := later_of ga; clear ga; have Sa := Lib.hid sa; have HIa := Lib.hid (fun k hk => lat_cell_n hplen sa k hk); obtain ⟨aoa, capa, rfl, -⟩ := sl_form sa; clear sa) | (go_at_call 8; (with_reducible refine (H2.out _ (by repeat (first | with_reducible exact Grew.refl _ | with_reducible apply Grew.alloc | with_reducible apply Grew.later | with_reducible apply Grew.drew | with_reducible apply Grew.store | with_reducible assumption))).mono ?_); rintro e w2 ⟨vb, rfl, sb, gb⟩; obtain ⟨u2, rfl⟩ := later_of gb; clear gb; have HIb := Lib.hid (fun k hk => lat_cell sb k hk); obtain ⟨aob, capb, rfl, -⟩ := sl_form sb; clear sb) | (go_at_call 9; (with_reducible refine call_later (HC.out _ _ (Sa.out.grew (by repeat (first | with_reducible exact Grew.refl _ | with_reducible apply Grew.alloc | with_reducible apply Grew.later | with_reducible apply Grew.drew | with_reducible apply Grew.store | with_reducible assumption)))) ?_); intro u3) | ((with_reducible refine wp_region_later ?_ ?_ ?_); (· kernel_rfl); (· kernel_rfl); (repeat (go_big_quiet_step ((first | (go_at_call 6; (with_reducible exact call_quiet (alive11_any _))))))); refine wpQuiet_nil ?_; rintro _ ⟨u, rfl⟩))
  go_loopw [11, 76] (fun v t wr => ∃ k : Nat, t = .int .i64 k ∧ v = .int .i64 (gapsAt P k).length ∧ k ≤ P.length ∧ Grew u3.world wr) (fun _ t _ => P.length - (intOf t).toNat)
  case atStart => exact ⟨0, rfl, rfl, by omega, (by repeat (first | with_reducible exact Grew.refl _ | with_reducible apply Grew.alloc | with_reducible apply Grew.later | with_reducible apply Grew.drew | with_reducible apply Grew.store | with_reducible assumption))⟩
  case round =>
    obtain ⟨k, rfl, rfl, hk, hg⟩ := hrel
    obtain ⟨y, rfl⟩ := later_of hg
    clear hg
    by_cases hlt : k < P.length
    · obtain ⟨b1, o1, c1, e1, i1, d1⟩ := HI.out k hlt
      obtain ⟨b2, o2, c2, e2, i2, d2⟩ := HIa.out k (by omega)
      cases e1
      cases e2
      obtain ⟨m0, m1⟩ := HM.out k hlt
      rcases HF.out k hlt with ⟨f1, f2⟩ | ⟨f1, j, f2, f3, f4⟩
      · obtain ⟨g1, g2, g3⟩ := HG1.out k hlt f1
        obtain ⟨b3, o3, c3, e3, i3, d3⟩ := HIb.out (gapsAt P k).length g1
        rw [g2] at d3
        rw [f1] at d1
        rw [f2] at d2
        have Hg := Lib.hid g3
        have hgk := gapsAt_len P k
        have q3 : decide (((gapsAt P P.length).length : Int) ≤ (gapsAt P k).length) = false := by simp; omega
        have g1' : ((gapsAt P k).length : Int) < (gapsAt P P.length).length := by omega
        clear g2 g3 f1 f2 m0 m1 hgl
        generalize (gapsAt P P.length).length = n1 at *
        generalize (gapsAt P k).length = n0 at *
        cases e3
        go_wp2_with (first | ((with_reducible refine wp_region_later ?_ ?_ ?_); (· kernel_rfl); (· kernel_rfl); (repeat (go_big_quiet_step (fail))); refine wpQuiet_nil ?_; rintro _ ⟨u, rfl⟩))
        go_roundw
        case rel => exact ⟨k + 1, by go_num, by rw [Hg.out]; go_num, by omega, (by repeat (first | with_reducible exact Grew.refl _ | with_reducible apply Grew.alloc | with_reducible apply Grew.later | with_reducible apply Grew.drew | with_reducible apply Grew.store | with_reducible assumption))⟩
        case measure => simp [intOf]; omega
      · have Hg := Lib.hid (HG2.out k hlt f1)
        have hb := bit_one (lat P k) j m0 m1
        rw [f4] at hb
        have hb' : (bits .and .i64 (lat P k / 2 ^ j) 1 == 0) = false := by rw [hb]; rfl
        have f1' : (lat P k == 0) = false := by simp [f1]
        have j1 : decide ((15 : Int) < j) = false := by simp; omega
        have j2 : ((j : Int) == -1) = false := by simp
        rw [f3] at d2
        clear hb f1 f3 f4 m0 m1 hgl
        generalize lat P k = mk at *
        generalize (gapsAt P k).length = n0 at *
        go_wp2_with (first | ((with_reducible refine wp_region_later ?_ ?_ ?_); (· kernel_rfl); (· kernel_rfl); (repeat (go_big_quiet_step (fail))); refine wpQuiet_nil ?_; rintro _ ⟨u, rfl⟩))
        go_roundw
        case rel => exact ⟨k + 1, by go_num, by rw [Hg.out], by omega, (by repeat (first | with_reducible exact Grew.refl _ | with_reducible apply Grew.alloc | with_reducible apply Grew.later | with_reducible apply Grew.drew | with_reducible apply Grew.store | with_reducible assumption))⟩
        case measure => simp [intOf]; omega
    · obtain rfl : k = P.length := by omega
      clear HG1 HG2 HF HIb
      go_wp2
      go_loopw [14, 131] (fun v t wr => ∃ (k : Nat) (O : List Int) (v3 : Value), t = .int .i64 k ∧ v3 = v ∧ k ≤ P.length ∧ Hid (O.length = k) ∧ Hid (FitsL P O) ∧ wr.ownsRow u3.world.heap.size 3 1 v3 O.length (O.flatMap intC) ∧ Grew u3.world wr) (fun _ t _ => P.length - (intOf t).toNat)
      case atStart => exact ⟨0, [], _, rfl, rfl, by omega, Lib.hid rfl, Lib.hid ⟨by simp, fun i hi => by simp at hi⟩, World.ownsRow_nil _ _ _ _, (by repeat (first | with_reducible exact Grew.refl _ | with_reducible apply Grew.alloc | with_reducible apply Grew.later | with_reducible apply Grew.drew | with_reducible apply Grew.store | with_reducible assumption))⟩
      case round =>
        obtain ⟨k, O, v3, rfl, rfl, hk2, HO2, HO, hown, hg⟩ := hrel
        obtain ⟨z, rfl⟩ := later_of hg
        clear hg
        by_cases hlt2 : k < P.length
        · obtain ⟨b1, o1, c1, e1, i1, d1⟩ := HI.out k hlt2
          cases e1
          obtain ⟨m0, m1⟩ := HM.out k hlt2
          have Hsn := Lib.hid (fun c (h : Fits (lat P k) c) => fitsL_snoc (c := c) HO.out (by rw [HO2.out]; exact hlt2) (by rw [HO2.out]; exact h))
          have hOl : O.length ≤ 200 := by rw [HO2.out]; omega
          by_cases hz : lat P k = 0
          · have Hs := Lib.hid (Hsn.out (-1) (.inl ⟨hz, rfl⟩))
            rw [hz] at d1
            clear hz m0 m1
            go_wp2_with (at_builtin; refine wpList_app_int u3.world _ (by repeat (first | with_reducible exact Grew.refl _ | with_reducible apply Grew.alloc | with_reducible apply Grew.later | with_reducible apply Grew.drew | with_reducible apply Grew.store | with_reducible assumption)) rfl _ _ rfl _ _ hown rfl _ _ rfl (by omega) ?_; intro v' y1 hown')
            go_roundw
            case rel => exact ⟨k + 1, O ++ [-1], _, by go_num, rfl, by omega, Lib.hid (by rw [List.length_append, HO2.out]; rfl), Hs, hown', (by repeat (first | with_reducible exact Grew.refl _ | with_reducible apply Grew.alloc | with_reducible apply Grew.later | with_reducible apply Grew.drew | with_reducible apply Grew.store | with_reducible assumption))⟩
            case measure => simp [intOf]; omega
          · have hpos : decide (0 < lat P k) = true := by simp; omega
            obtain ⟨s, hs16, hsb⟩ := mask_bit (lat P k) (by omega) m1
            replace hz := Lib.hid hz
            generalize lat P k = mk at *
            by_cases hK : K.length = 0
            · have hK' : decide (0 < K.length) = false := by simp [hK]
              clear HK hK
              obtain ⟨q, hqx, hqy, hq16⟩ : ∃ q : Nat, ((k : Int)).tmod 16 = q ∧ ((k : Int)) % 16 = q ∧ q < 16 := ⟨(((k : Int)).tmod 16).toNat, by rw [Int.tmod_eq_emod_of_nonneg (by omega)]; omega, by rw [Int.tmod_eq_emod_of_nonneg (by omega)]; omega, by rw [Int.tmod_eq_emod_of_nonneg (by omega)]; omega⟩
              obtain ⟨q3, hqx3, hqy3⟩ : ∃ q : Nat, ((k : Int)).tmod 3 = q ∧ ((k : Int)) % 3 = q := ⟨(((k : Int)).tmod 3).toNat, by rw [Int.tmod_eq_emod_of_nonneg (by omega)]; omega, by rw [Int.tmod_eq_emod_of_nonneg (by omega)]; omega⟩
              by_cases hk0 : k = 0
              · have hk0' : decide (0 < k) = false := by simp [hk0]
                clear hk0
                go_wp2
                go_loopw [17] (fun t wr => ∃ r : Nat, t = .int .i64 r ∧ r < 16 ∧ wr = z.world) (fun t _ => (s + 16 - (intOf t).toNat) % 16)
                case atStart => exact ⟨q, rfl, hq16, rfl⟩
                case round =>
                  obtain ⟨r, rfl, hr, rfl⟩ := hrel
                  have hb := bit_one mk r m0 m1
                  have hrt : ((r : Int) + 1).tmod 16 = ((r + 1) % 16 : Nat) := by rw [Int.tmod_eq_emod_of_nonneg (by omega)]; omega
                  by_cases hbit : mk / 2 ^ r % 2 = 1
                  · have Hs := Lib.hid (Hsn.out r (.inr ⟨hz.out, r, hr, rfl, hbit⟩))
                    rw [hbit] at hb
                    have hb' : (bits .and .i64 (mk / 2 ^ r) 1 == 0) = false := by rw [hb]; rfl
                    clear hb hbit hz m0 m1 hrt
                    go_wp2_with (at_builtin; refine wpList_app_int u3.world _ (by repeat (first | with_reducible exact Grew.refl _ | with_reducible apply Grew.alloc | with_reducible apply Grew.later | with_reducible apply Grew.drew | with_reducible apply Grew.store | with_reducible assumption)) rfl _ _ rfl _ _ hown rfl _ _ rfl (by omega) ?_; intro v' y1 hown')
                    go_roundw
                    case rel => exact ⟨k + 1, O ++ [(r : Int)], _, by go_num, rfl, by omega, Lib.hid (by rw [List.length_append, HO2.out]; rfl), Hs, hown', (by repeat (first | with_reducible exact Grew.refl _ | with_reducible apply Grew.alloc | with_reducible apply Grew.later | with_reducible apply Grew.drew | with_reducible apply Grew.store | with_reducible assumption))⟩
                    case measure => simp [intOf]; omega
                  · have hne : r ≠ s := fun e => hbit (by rw [e]; exact hsb)
                    have hb' : (bits .and .i64 (mk / 2 ^ r) 1 == 0) = true := by rw [hb]; simp; omega
                    clear hb hbit
                    go_wp2
                    go_roundw
                    case rel => exact ⟨(r + 1) % 16, by rw [← hrt]; (first | rfl | (rw [Int.tmod_eq_emod_of_nonneg (by omega)])), by omega, by first | trivial | rfl⟩
                    case measure => simp [intOf]; omega
              obtain ⟨j, hj⟩ : ∃ j, k = j + 1 := ⟨k - 1, by omega⟩
              have hk0' : decide (0 < k) = true := by simp; omega
              obtain ⟨b3, o3, c3, e3, i3, d3⟩ := lat_cell (SlAt.of_owns hown) j (by have := HO2.out; omega)
              subst e3
              have hj1 : (k : Int) - 1 = j := by omega
              have hj2 : (j : Int) < O.length := by have := HO2.out; omega
              have hf := HO.out.2 j (by have := HO2.out; omega)
              clear hj hk0
              by_cases c0 : 0 ≤ lat O j
              · have c0' : decide (0 ≤ lat O j) = true := by simp [c0]
                have c16 : lat O j < 16 := by
                  rcases hf with ⟨-, h2⟩ | ⟨-, i, h2, h3, -⟩
                  · omega
                  · omega
                cases h3 : decide (0 < q3)
                · clear hf c16 c0
                  generalize lat O j = c at *
                  go_wp2
                  go_loopw [17] (fun t wr => ∃ r : Nat, t = .int .i64 r ∧ r < 16 ∧ wr = z.world) (fun t _ => (s + 16 - (intOf t).toNat) % 16)
                  case atStart => exact ⟨q, rfl, hq16, rfl⟩
                  case round =>
                    obtain ⟨r, rfl, hr, rfl⟩ := hrel
                    have hb := bit_one mk r m0 m1
                    have hrt : ((r : Int) + 1).tmod 16 = ((r + 1) % 16 : Nat) := by rw [Int.tmod_eq_emod_of_nonneg (by omega)]; omega
                    by_cases hbit : mk / 2 ^ r % 2 = 1
                    · have Hs := Lib.hid (Hsn.out r (.inr ⟨hz.out, r, hr, rfl, hbit⟩))
                      rw [hbit] at hb
                      have hb' : (bits .and .i64 (mk / 2 ^ r) 1 == 0) = false := by rw [hb]; rfl
                      clear hb hbit hz m0 m1 hrt
                      go_wp2_with (at_builtin; refine wpList_app_int u3.world _ (by repeat (first | with_reducible exact Grew.refl _ | with_reducible apply Grew.alloc | with_reducible apply Grew.later | with_reducible apply Grew.drew | with_reducible apply Grew.store | with_reducible assumption)) rfl _ _ rfl _ _ hown rfl _ _ rfl (by omega) ?_; intro v' y1 hown')
                      go_roundw
                      case rel => exact ⟨k + 1, O ++ [(r : Int)], _, by go_num, rfl, by omega, Lib.hid (by rw [List.length_append, HO2.out]; rfl), Hs, hown', (by repeat (first | with_reducible exact Grew.refl _ | with_reducible apply Grew.alloc | with_reducible apply Grew.later | with_reducible apply Grew.drew | with_reducible apply Grew.store | with_reducible assumption))⟩
                      case measure => simp [intOf]; omega
                    · have hne : r ≠ s := fun e => hbit (by rw [e]; exact hsb)
                      have hb' : (bits .and .i64 (mk / 2 ^ r) 1 == 0) = true := by rw [hb]; simp; omega
                      clear hb hbit
                      go_wp2
                      go_roundw
                      case rel => exact ⟨(r + 1) % 16, by rw [← hrt]; (first | rfl | (rw [Int.tmod_eq_emod_of_nonneg (by omega)])), by omega, by first | trivial | rfl⟩
                      case measure => simp [intOf]; omega
                · clear hqx hqy hq16 q
                  obtain ⟨q, hqx, hq16⟩ : ∃ q : Nat, (lat O j).tmod 16 = q ∧ q < 16 := ⟨((lat O j).tmod 16).toNat, by rw [Int.tmod_eq_emod_of_nonneg (by omega)]; omega, by rw [Int.tmod_eq_emod_of_nonneg (by omega)]; omega⟩
                  clear hf
                  generalize lat O j = c at *
                  go_wp2
                  go_loopw [17] (fun t wr => ∃ r : Nat, t = .int .i64 r ∧ r < 16 ∧ wr = z.world) (fun t _ => (s + 16 - (intOf t).toNat) % 16)
                  case atStart => exact ⟨q, rfl, hq16, rfl⟩
                  case round =>
                    obtain ⟨r, rfl, hr, rfl⟩ := hrel
                    have hb := bit_one mk r m0 m1
                    have hrt : ((r : Int) + 1).tmod 16 = ((r + 1) % 16 : Nat) := by rw [Int.tmod_eq_emod_of_nonneg (by omega)]; omega
                    by_cases hbit : mk / 2 ^ r % 2 = 1
                    · have Hs := Lib.hid (Hsn.out r (.inr ⟨hz.out, r, hr, rfl, hbit⟩))
                      rw [hbit] at hb
                      have hb' : (bits .and .i64 (mk / 2 ^ r) 1 == 0) = false := by rw [hb]; rfl
                      clear hb hbit hz m0 m1 hrt
                      go_wp2_with (at_builtin; refine wpList_app_int u3.world _ (by repeat (first | with_reducible exact Grew.refl _ | with_reducible apply Grew.alloc | with_reducible apply Grew.later | with_reducible apply Grew.drew | with_reducible apply Grew.store | with_reducible assumption)) rfl _ _ rfl _ _ hown rfl _ _ rfl (by omega) ?_; intro v' y1 hown')
                      go_roundw
                      case rel => exact ⟨k + 1, O ++ [(r : Int)], _, by go_num, rfl, by omega, Lib.hid (by rw [List.length_append, HO2.out]; rfl), Hs, hown', (by repeat (first | with_reducible exact Grew.refl _ | with_reducible apply Grew.alloc | with_reducible apply Grew.later | with_reducible apply Grew.drew | with_reducible apply Grew.store | with_reducible assumption))⟩
                      case measure => simp [intOf]; omega
                    · have hne : r ≠ s := fun e => hbit (by rw [e]; exact hsb)
                      have hb' : (bits .and .i64 (mk / 2 ^ r) 1 == 0) = true := by rw [hb]; simp; omega
                      clear hb hbit
                      go_wp2
                      go_roundw
                      case rel => exact ⟨(r + 1) % 16, by rw [← hrt]; (first | rfl | (rw [Int.tmod_eq_emod_of_nonneg (by omega)])), by omega, by first | trivial | rfl⟩
                      case measure => simp [intOf]; omega
              · have c0' : decide (0 ≤ lat O j) = false := by simp; omega
                clear hf c0
                generalize lat O j = c at *
                go_wp2
                go_loopw [17] (fun t wr => ∃ r : Nat, t = .int .i64 r ∧ r < 16 ∧ wr = z.world) (fun t _ => (s + 16 - (intOf t).toNat) % 16)
                case atStart => exact ⟨q, rfl, hq16, rfl⟩
                case round =>
                  obtain ⟨r, rfl, hr, rfl⟩ := hrel
                  have hb := bit_one mk r m0 m1
                  have hrt : ((r : Int) + 1).tmod 16 = ((r + 1) % 16 : Nat) := by rw [Int.tmod_eq_emod_of_nonneg (by omega)]; omega
                  by_cases hbit : mk / 2 ^ r % 2 = 1
                  · have Hs := Lib.hid (Hsn.out r (.inr ⟨hz.out, r, hr, rfl, hbit⟩))
                    rw [hbit] at hb
                    have hb' : (bits .and .i64 (mk / 2 ^ r) 1 == 0) = false := by rw [hb]; rfl
                    clear hb hbit hz m0 m1 hrt
                    go_wp2_with (at_builtin; refine wpList_app_int u3.world _ (by repeat (first | with_reducible exact Grew.refl _ | with_reducible apply Grew.alloc | with_reducible apply Grew.later | with_reducible apply Grew.drew | with_reducible apply Grew.store | with_reducible assumption)) rfl _ _ rfl _ _ hown rfl _ _ rfl (by omega) ?_; intro v' y1 hown')
                    go_roundw
                    case rel => exact ⟨k + 1, O ++ [(r : Int)], _, by go_num, rfl, by omega, Lib.hid (by rw [List.length_append, HO2.out]; rfl), Hs, hown', (by repeat (first | with_reducible exact Grew.refl _ | with_reducible apply Grew.alloc | with_reducible apply Grew.later | with_reducible apply Grew.drew | with_reducible apply Grew.store | with_reducible assumption))⟩
                    case measure => simp [intOf]; omega
                  · have hne : r ≠ s := fun e => hbit (by rw [e]; exact hsb)
                    have hb' : (bits .and .i64 (mk / 2 ^ r) 1 == 0) = true := by rw [hb]; simp; omega
                    clear hb hbit
                    go_wp2
                    go_roundw
                    case rel => exact ⟨(r + 1) % 16, by rw [← hrt]; (first | rfl | (rw [Int.tmod_eq_emod_of_nonneg (by omega)])), by omega, by first | trivial | rfl⟩
                    case measure => simp [intOf]; omega
            · have hK' : decide (0 < K.length) = true := by simp; omega
              have hmod : k % K.length < K.length := Nat.mod_lt _ (by omega)
              have ht : (k : Int).tmod K.length = (k % K.length : Nat) := by rw [Int.tmod_eq_emod_of_nonneg (by omega)]; rfl
              obtain ⟨b4, o4, c4, e4, i4, d4⟩ := HK.out (k % K.length) hmod
              cases e4
              obtain ⟨x0, x1⟩ := HU.out _ (List.getElem_mem hmod)
              generalize K[k % K.length] = x at *
              have hx : IntKind.i64.wrap x = x := by rw [IntKind.wrap_i64]; omega
              have hmod' : ((k % K.length : Nat) : Int) < K.length := by omega
              generalize k % K.length = km at *
              clear hK hmod
              obtain ⟨q, hqx, hqy, hq16⟩ : ∃ q : Nat, (x).tmod 16 = q ∧ (x) % 16 = q ∧ q < 16 := ⟨((x).tmod 16).toNat, by rw [Int.tmod_eq_emod_of_nonneg (by omega)]; omega, by rw [Int.tmod_eq_emod_of_nonneg (by omega)]; omega, by rw [Int.tmod_eq_emod_of_nonneg (by omega)]; omega⟩
              obtain ⟨q3, hqx3, hqy3⟩ : ∃ q : Nat, (x).tmod 3 = q ∧ (x) % 3 = q := ⟨((x).tmod 3).toNat, by rw [Int.tmod_eq_emod_of_nonneg (by omega)]; omega, by rw [Int.tmod_eq_emod_of_nonneg (by omega)]; omega⟩
              by_cases hk0 : k = 0
              · have hk0' : decide (0 < k) = false := by simp [hk0]
                clear hk0
                go_wp2
                go_loopw [17] (fun t wr => ∃ r : Nat, t = .int .i64 r ∧ r < 16 ∧ wr = z.world) (fun t _ => (s + 16 - (intOf t).toNat) % 16)
                case atStart => exact ⟨q, rfl, hq16, rfl⟩
                case round =>
                  obtain ⟨r, rfl, hr, rfl⟩ := hrel
                  have hb := bit_one mk r m0 m1
                  have hrt : ((r : Int) + 1).tmod 16 = ((r + 1) % 16 : Nat) := by rw [Int.tmod_eq_emod_of_nonneg (by omega)]; omega
                  by_cases hbit : mk / 2 ^ r % 2 = 1
                  · have Hs := Lib.hid (Hsn.out r (.inr ⟨hz.out, r, hr, rfl, hbit⟩))
                    rw [hbit] at hb
                    have hb' : (bits .and .i64 (mk / 2 ^ r) 1 == 0) = false := by rw [hb]; rfl
                    clear hb hbit hz m0 m1 hrt
                    go_wp2_with (at_builtin; refine wpList_app_int u3.world _ (by repeat (first | with_reducible exact Grew.refl _ | with_reducible apply Grew.alloc | with_reducible apply Grew.later | with_reducible apply Grew.drew | with_reducible apply Grew.store | with_reducible assumption)) rfl _ _ rfl _ _ hown rfl _ _ rfl (by omega) ?_; intro v' y1 hown')
                    go_roundw
                    case rel => exact ⟨k + 1, O ++ [(r : Int)], _, by go_num, rfl, by omega, Lib.hid (by rw [List.length_append, HO2.out]; rfl), Hs, hown', (by repeat (first | with_reducible exact Grew.refl _ | with_reducible apply Grew.alloc | with_reducible apply Grew.later | with_reducible apply Grew.drew | with_reducible apply Grew.store | with_reducible assumption))⟩
                    case measure => simp [intOf]; omega
                  · have hne : r ≠ s := fun e => hbit (by rw [e]; exact hsb)
                    have hb' : (bits .and .i64 (mk / 2 ^ r) 1 == 0) = true := by rw [hb]; simp; omega
                    clear hb hbit
                    go_wp2
                    go_roundw
                    case rel => exact ⟨(r + 1) % 16, by rw [← hrt]; (first | rfl | (rw [Int.tmod_eq_emod_of_nonneg (by omega)])), by omega, by first | trivial | rfl⟩
                    case measure => simp [intOf]; omega
              obtain ⟨j, hj⟩ : ∃ j, k = j + 1 := ⟨k - 1, by omega⟩
              have hk0' : decide (0 < k) = true := by simp; omega
              obtain ⟨b3, o3, c3, e3, i3, d3⟩ := lat_cell (SlAt.of_owns hown) j (by have := HO2.out; omega)
              subst e3
              have hj1 : (k : Int) - 1 = j := by omega
              have hj2 : (j : Int) < O.length := by have := HO2.out; omega
              have hf := HO.out.2 j (by have := HO2.out; omega)
              clear hj hk0
              by_cases c0 : 0 ≤ lat O j
              · have c0' : decide (0 ≤ lat O j) = true := by simp [c0]
                have c16 : lat O j < 16 := by
                  rcases hf with ⟨-, h2⟩ | ⟨-, i, h2, h3, -⟩
                  · omega
                  · omega
                cases h3 : decide (0 < q3)
                · clear hf c16 c0
                  generalize lat O j = c at *
                  go_wp2
                  go_loopw [17] (fun t wr => ∃ r : Nat, t = .int .i64 r ∧ r < 16 ∧ wr = z.world) (fun t _ => (s + 16 - (intOf t).toNat) % 16)
                  case atStart => exact ⟨q, rfl, hq16, rfl⟩
                  case round =>
                    obtain ⟨r, rfl, hr, rfl⟩ := hrel
                    have hb := bit_one mk r m0 m1
                    have hrt : ((r : Int) + 1).tmod 16 = ((r + 1) % 16 : Nat) := by rw [Int.tmod_eq_emod_of_nonneg (by omega)]; omega
                    by_cases hbit : mk / 2 ^ r % 2 = 1
                    · have Hs := Lib.hid (Hsn.out r (.inr ⟨hz.out, r, hr, rfl, hbit⟩))
                      rw [hbit] at hb
                      have hb' : (bits .and .i64 (mk / 2 ^ r) 1 == 0) = false := by rw [hb]; rfl
                      clear hb hbit hz m0 m1 hrt
                      go_wp2_with (at_builtin; refine wpList_app_int u3.world _ (by repeat (first | with_reducible exact Grew.refl _ | with_reducible apply Grew.alloc | with_reducible apply Grew.later | with_reducible apply Grew.drew | with_reducible apply Grew.store | with_reducible assumption)) rfl _ _ rfl _ _ hown rfl _ _ rfl (by omega) ?_; intro v' y1 hown')
                      go_roundw
                      case rel => exact ⟨k + 1, O ++ [(r : Int)], _, by go_num, rfl, by omega, Lib.hid (by rw [List.length_append, HO2.out]; rfl), Hs, hown', (by repeat (first | with_reducible exact Grew.refl _ | with_reducible apply Grew.alloc | with_reducible apply Grew.later | with_reducible apply Grew.drew | with_reducible apply Grew.store | with_reducible assumption))⟩
                      case measure => simp [intOf]; omega
                    · have hne : r ≠ s := fun e => hbit (by rw [e]; exact hsb)
                      have hb' : (bits .and .i64 (mk / 2 ^ r) 1 == 0) = true := by rw [hb]; simp; omega
                      clear hb hbit
                      go_wp2
                      go_roundw
                      case rel => exact ⟨(r + 1) % 16, by rw [← hrt]; (first | rfl | (rw [Int.tmod_eq_emod_of_nonneg (by omega)])), by omega, by first | trivial | rfl⟩
                      case measure => simp [intOf]; omega
                · clear hqx hqy hq16 q
                  obtain ⟨q, hqx, hq16⟩ : ∃ q : Nat, (lat O j).tmod 16 = q ∧ q < 16 := ⟨((lat O j).tmod 16).toNat, by rw [Int.tmod_eq_emod_of_nonneg (by omega)]; omega, by rw [Int.tmod_eq_emod_of_nonneg (by omega)]; omega⟩
                  clear hf
                  generalize lat O j = c at *
                  go_wp2
                  go_loopw [17] (fun t wr => ∃ r : Nat, t = .int .i64 r ∧ r < 16 ∧ wr = z.world) (fun t _ => (s + 16 - (intOf t).toNat) % 16)
                  case atStart => exact ⟨q, rfl, hq16, rfl⟩
                  case round =>
                    obtain ⟨r, rfl, hr, rfl⟩ := hrel
                    have hb := bit_one mk r m0 m1
                    have hrt : ((r : Int) + 1).tmod 16 = ((r + 1) % 16 : Nat) := by rw [Int.tmod_eq_emod_of_nonneg (by omega)]; omega
                    by_cases hbit : mk / 2 ^ r % 2 = 1
                    · have Hs := Lib.hid (Hsn.out r (.inr ⟨hz.out, r, hr, rfl, hbit⟩))
                      rw [hbit] at hb
                      have hb' : (bits .and .i64 (mk / 2 ^ r) 1 == 0) = false := by rw [hb]; rfl
                      clear hb hbit hz m0 m1 hrt
                      go_wp2_with (at_builtin; refine wpList_app_int u3.world _ (by repeat (first | with_reducible exact Grew.refl _ | with_reducible apply Grew.alloc | with_reducible apply Grew.later | with_reducible apply Grew.drew | with_reducible apply Grew.store | with_reducible assumption)) rfl _ _ rfl _ _ hown rfl _ _ rfl (by omega) ?_; intro v' y1 hown')
                      go_roundw
                      case rel => exact ⟨k + 1, O ++ [(r : Int)], _, by go_num, rfl, by omega, Lib.hid (by rw [List.length_append, HO2.out]; rfl), Hs, hown', (by repeat (first | with_reducible exact Grew.refl _ | with_reducible apply Grew.alloc | with_reducible apply Grew.later | with_reducible apply Grew.drew | with_reducible apply Grew.store | with_reducible assumption))⟩
                      case measure => simp [intOf]; omega
                    · have hne : r ≠ s := fun e => hbit (by rw [e]; exact hsb)
                      have hb' : (bits .and .i64 (mk / 2 ^ r) 1 == 0) = true := by rw [hb]; simp; omega
                      clear hb hbit
                      go_wp2
                      go_roundw
                      case rel => exact ⟨(r + 1) % 16, by rw [← hrt]; (first | rfl | (rw [Int.tmod_eq_emod_of_nonneg (by omega)])), by omega, by first | trivial | rfl⟩
                      case measure => simp [intOf]; omega
              · have c0' : decide (0 ≤ lat O j) = false := by simp; omega
                clear hf c0
                generalize lat O j = c at *
                go_wp2
                go_loopw [17] (fun t wr => ∃ r : Nat, t = .int .i64 r ∧ r < 16 ∧ wr = z.world) (fun t _ => (s + 16 - (intOf t).toNat) % 16)
                case atStart => exact ⟨q, rfl, hq16, rfl⟩
                case round =>
                  obtain ⟨r, rfl, hr, rfl⟩ := hrel
                  have hb := bit_one mk r m0 m1
                  have hrt : ((r : Int) + 1).tmod 16 = ((r + 1) % 16 : Nat) := by rw [Int.tmod_eq_emod_of_nonneg (by omega)]; omega
                  by_cases hbit : mk / 2 ^ r % 2 = 1
                  · have Hs := Lib.hid (Hsn.out r (.inr ⟨hz.out, r, hr, rfl, hbit⟩))
                    rw [hbit] at hb
                    have hb' : (bits .and .i64 (mk / 2 ^ r) 1 == 0) = false := by rw [hb]; rfl
                    clear hb hbit hz m0 m1 hrt
                    go_wp2_with (at_builtin; refine wpList_app_int u3.world _ (by repeat (first | with_reducible exact Grew.refl _ | with_reducible apply Grew.alloc | with_reducible apply Grew.later | with_reducible apply Grew.drew | with_reducible apply Grew.store | with_reducible assumption)) rfl _ _ rfl _ _ hown rfl _ _ rfl (by omega) ?_; intro v' y1 hown')
                    go_roundw
                    case rel => exact ⟨k + 1, O ++ [(r : Int)], _, by go_num, rfl, by omega, Lib.hid (by rw [List.length_append, HO2.out]; rfl), Hs, hown', (by repeat (first | with_reducible exact Grew.refl _ | with_reducible apply Grew.alloc | with_reducible apply Grew.later | with_reducible apply Grew.drew | with_reducible apply Grew.store | with_reducible assumption))⟩
                    case measure => simp [intOf]; omega
                  · have hne : r ≠ s := fun e => hbit (by rw [e]; exact hsb)
                    have hb' : (bits .and .i64 (mk / 2 ^ r) 1 == 0) = true := by rw [hb]; simp; omega
                    clear hb hbit
                    go_wp2
                    go_roundw
                    case rel => exact ⟨(r + 1) % 16, by rw [← hrt]; (first | rfl | (rw [Int.tmod_eq_emod_of_nonneg (by omega)])), by omega, by first | trivial | rfl⟩
                    case measure => simp [intOf]; omega
        · have hOP : O.length = P.length := by rw [HO2.out]; omega
          have hl := HL.out O HO.out hOP
          have HSO := Lib.hid (SlAt.of_owns hown)
          have HCO := Lib.hid (fun w' (g : Grew z.world w') => changes_any O v3 w' (HSO.out.grew g))
          have HBO := Lib.hid (fun (he : chA (lat O) O.length = pn) w' (g1 : Grew u1.world w') (g : Grew z.world w') => before_no O pl v3 (.slice aoa P.length capa) w' (by rw [hOP, hplen]) (HSO.out.grew g) (by rw [hplen]; exact Sa.out.grew g1) (fun i hi hs => HA.out O HO.out hOP he i hi hs))
          have hkP : k = P.length := by omega
          subst hkP
          clear HM HI HA HL HK HU hOP hm2 hown
          generalize chA (lat O) O.length = kn at *
          by_cases he : kn = pn
          · have HB := Lib.hid (HBO.out he)
            clear HBO hl
            subst he
            go_wp2_with (first | (go_at_call 9; (with_reducible refine call_later (HCO.out _ (by repeat (first | with_reducible exact Grew.refl _ | with_reducible apply Grew.alloc | with_reducible apply Grew.later | with_reducible apply Grew.drew | with_reducible apply Grew.store | with_reducible assumption))) ?_); intro u5) | (go_at_call 10; (with_reducible refine call_later (HB.out _ (by repeat (first | with_reducible exact Grew.refl _ | with_reducible apply Grew.alloc | with_reducible apply Grew.later | with_reducible apply Grew.drew | with_reducible apply Grew.store | with_reducible assumption)) (by repeat (first | with_reducible exact Grew.refl _ | with_reducible apply Grew.alloc | with_reducible apply Grew.later | with_reducible apply Grew.drew | with_reducible apply Grew.store | with_reducible assumption))) ?_); intro u6))
            go_ret
            exact ⟨rfl, (by repeat (first | with_reducible exact Grew.refl _ | with_reducible apply Grew.alloc | with_reducible apply Grew.later | with_reducible apply Grew.drew | with_reducible apply Grew.store | with_reducible assumption))⟩
          · have hg : decide (pn < kn) = true := by simp; omega
            clear HBO hl he
            go_wp2_with (first | (go_at_call 9; (with_reducible refine call_later (HCO.out _ (by repeat (first | with_reducible exact Grew.refl _ | with_reducible apply Grew.alloc | with_reducible apply Grew.later | with_reducible apply Grew.drew | with_reducible apply Grew.store | with_reducible assumption))) ?_); intro u5))
            go_ret
            exact ⟨rfl, (by repeat (first | with_reducible exact Grew.refl _ | with_reducible apply Grew.alloc | with_reducible apply Grew.later | with_reducible apply Grew.drew | with_reducible apply Grew.store | with_reducible assumption))⟩
section
variable {H : Type} {enc : TypeId × Value → H} {w : World} {base : Nat} {spare : Nat → Bool} {held : Bool} {fuel : Nat} {cs : List Value} {x : DataW H × List MemPlace}
theorem ints_trod3 (h : DataW.trod enc Try.prog w base spare held fuel 22 cs = some x) : ∃ (ao : Option Addr) (cap : Nat) (l : List Int), cs = [.slice ao l.length cap] ∧ SlAt w (.slice ao l.length cap) l.length (l.flatMap intC) := by
  obtain ⟨ao, n, cap, l, e, hn, h1, h2⟩ := slice_trod intC (c := 1) (fun _ => rfl) (fun _ => True) Try.underlying22 (by kernel_rfl) (fun m cs' x' h' => by
    obtain ⟨k, e, -⟩ := DataW.trod_int Try.underlying3 h'
    exact ⟨k, e, trivial⟩) h
  subst hn
  exact ⟨ao, cap, l, e, h1⟩
theorem u8s_trod (h : DataW.trod enc Try.prog w base spare held fuel 23 cs = some x) : ∃ (ao : Option Addr) (cap : Nat) (l : List Int), cs = [.slice ao l.length cap] ∧ SlAt w (.slice ao l.length cap) l.length (l.flatMap u8C) ∧ ∀ x ∈ l, 0 ≤ x ∧ x ≤ 255 := by
  obtain ⟨ao, n, cap, l, e, hn, h1, h2⟩ := slice_trod u8C (c := 1) (fun _ => rfl) (fun x => 0 ≤ x ∧ x ≤ 255) Try.underlying23 (by kernel_rfl) (fun m cs' x' h' => by
    obtain ⟨k, e, hk⟩ := DataW.trod_int Try.underlying5 h'
    exact ⟨k, e, by simpa [Lit.wf, IntKind.min, IntKind.max, IntKind.signed, IntKind.bits] using hk.2⟩) h
  subst hn
  exact ⟨ao, cap, l, e, h1, h2⟩
end
theorem fewest_any (P : List Int) (v1 v2 : Value) (K : List Int) (w : World) (hP : SlAt w v1 P.length (P.flatMap intC)) (hK : SlAt w v2 K.length (K.flatMap u8C)) (hk : ∀ x ∈ K, 0 ≤ x ∧ x ≤ 255) : Calls Try.prog 3 #[v1, v2] w fun e w' => e = .returned (.bool true) ∧ Grew w w' := by
  by_cases h : 200 < P.length ∨ 200 < K.length ∨ masksCode P ≠ 0
  · exact few_err P v1 v2 K w hP hK h
  · exact few_walk P v1 v2 K w hP hK hk (by omega) (by omega) (by omega)
namespace abortFewestRow
open Go.ChangeShapes Go.WideShapes Go.ChangeAt Go.RowKit
theorem own : ownKnob Try.prog.godebug = none := by kernel_rfl
theorem lifted (os : Os) (started : os.Started) (H : Type) (enc : TypeId × Value → H) :
    ReturnsInHanded {} Try.checked os 3 .any (Rows.abortFewestSpec.pre6 enc Try.prog Try.f3 Rows.abortFewestRow.domain false) (Rows.abortFewestSpec.post enc Try.prog Try.f3 false true false false) := by
  refine returnsInHanded_of_change (C := Try.checked) own started (by kernel_rfl) Try.func3
    (ChangeSpec.witness6 (enc := enc) (C := Try.checked) false ⟨#[], #[.slice none 0 0, .slice none 0 0], []⟩ 8 (by as_aux_lemma => kernel_rfl) (by as_aux_lemma => kernel_rfl) (by as_aux_lemma => kernel_rfl) (by as_aux_lemma => kernel_rfl)) ?_
  intro W base args ds gs before hval0 hW _ _
  have hval : ∀ (j : Nat) t v, Try.f3.params[j]? = some t → args[j]? = some v → Value.okWide Try.prog W .any base t v := hval0
  have hW' := hW
  obtain ⟨p, q, hA0, hV, rfl, hfz, hnd⟩ := hW
  have hA : DataW.TrodAll enc Try.prog W 0 (fun _ => true) true Try.f3.params.toList args.toList ds p := hA0
  rw [Try.params3] at hA hval
  obtain ⟨v0, vs0, d0, ds0, p0, q0, hargs, rfl, rfl, h0, r0⟩ := trodAll_cons hA
  obtain ⟨v1, vs1, d1, ds1, p1, q1, rfl, rfl, rfl, h1, r1⟩ := trodAll_cons r0
  obtain ⟨rfl, rfl, rfl⟩ := trodAll_nil r1
  obtain rfl : args = #[v0, v1] := by cases args; simp_all
  obtain ⟨rfl, rfl⟩ := trodVars_none hV
  obtain ⟨ao0, n0, cap0, rfl⟩ := okWide_slice Try.underlying22 (hval 0 22 v0 rfl rfl)
  obtain ⟨ao1, n1, cap1, rfl⟩ := okWide_slice Try.underlying23 (hval 1 23 v1 rfl rfl)
  obtain ⟨_, h0⟩ := h0
  obtain ⟨_, h1⟩ := h1
  obtain ⟨aoP, capP, P, eP, hP⟩ := ints_trod3 h0
  obtain ⟨aoK, capK, K, eK, hK, hk⟩ := u8s_trod h1
  rw [← (by simpa [Value.cells] using eP : Value.slice ao0 n0 cap0 = .slice aoP P.length capP)] at hP
  rw [← (by simpa [Value.cells] using eK : Value.slice ao1 n1 cap1 = .slice aoK K.length capK)] at hK
  refine (fewest_any P _ _ K W hP hK hk).mono fun e W' ⟨he, hg⟩ => ?_
  subst he
  exact ⟨_, rfl, law_post (by kernel_rfl) (by kernel_rfl) rfl rfl Try.underlying4 hW' rfl hg⟩
theorem proved : Rows.AbortFewestSaid :=
  OpenClaim.holds_of_wide 3 Try.f3 rfl rfl rfl rfl rfl rfl rfl ⟨rfl, rfl, rfl, rfl, rfl⟩ rfl rfl rfl rfl rfl (by as_aux_lemma => kernel_rfl) Try.func3 (by as_aux_lemma => kernel_rfl)
    (of_decide_eq_true (by as_aux_lemma => kernel_rfl)) (by unfold Func.isWrapper; first | (rw [if_pos (by decide +kernel)]; kernel_rfl) | (rw [if_neg (by decide +kernel)]; exact ⟨rfl, rfl⟩))
    (fun os started H enc _ => lifted os started H enc)
end abortFewestRow
end Go.Proofs.Ytjnednehcjfkmaa
