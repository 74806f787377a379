/-
  AscentSets: for every two sets (of at most 60 slots), what they have in common, both together, one without the other one, and how many times one has, or the errors, of ascent are those of ullageref04; the sets stay. No condition.
-/
import Derived.Test.YtgjikdhidakloaaSetsAb
import Derived.Test.YtgjikdhidakloaaCopy
import Derived.Test.YtgjikdhidakloaaOpenApi
import Derived.Test.YtgjikdhidakloaaRows
namespace Go.Proofs.Ytgjikdhidakloaa
open Go.RowKit
set_option maxRecDepth 100000
set_option maxHeartbeats 16000000
theorem both_fact : FactOk 44 andB := by
  intro x y w
  cases x <;> cases y
  all_goals
    go_enter Try.func44, Try.ntmps44
    go_wp2
    go_ret
    exact ⟨rfl, (by repeat (first | with_reducible exact Grew.refl _ | with_reducible apply Grew.alloc | with_reducible apply Grew.later | with_reducible apply Grew.drew | with_reducible apply Grew.store | with_reducible assumption))⟩
theorem either_fact : FactOk 45 orB := by
  intro x y w
  cases x <;> cases y
  all_goals
    go_enter Try.func45, Try.ntmps45
    go_wp2
    go_ret
    exact ⟨rfl, (by repeat (first | with_reducible exact Grew.refl _ | with_reducible apply Grew.alloc | with_reducible apply Grew.later | with_reducible apply Grew.drew | with_reducible apply Grew.store | with_reducible assumption))⟩
theorem without_fact : FactOk 46 butB := by
  intro x y w
  cases x <;> cases y
  all_goals
    go_enter Try.func46, Try.ntmps46
    go_wp2
    go_ret
    exact ⟨rfl, (by repeat (first | with_reducible exact Grew.refl _ | with_reducible apply Grew.alloc | with_reducible apply Grew.later | with_reducible apply Grew.drew | with_reducible apply Grew.store | with_reducible assumption))⟩
theorem abMixed_any (g : Nat) (is : Bool → Bool → Bool) (hg : FactOk g is) (his : is false false = false) (eg : ∀ args w, (callFunc g args).run Try.prog w = .ok (.enter g args) w) (A B : List (Int × Int)) (hA : A.length ≤ 60) (hB : B.length ≤ 60) (v1 v2 : Value) (w : World)
    (h1 : SlAt w v1 A.length (A.flatMap slC)) (h2 : SlAt w v2 B.length (B.flatMap slC)) : Calls Try.prog 43 #[v1, v2, .func (.func g) #[] #[]] w (RetSlC (mixR is A B) (mixCode A B) w) := by
  have HSA := Lib.hid (fun w' (g : Grew w w') => abSet_any A v1 w' (h1.grew g))
  have HSB := Lib.hid (fun w' (g : Grew w w') => abSet_any B v2 w' (h2.grew g))
  have HW := Lib.hid (fun (s1 : setB A = true) (s2 : setB B = true) w' (g' : Grew w w') => abSweep_any g is hg his eg A B hA hB s1 s2 v1 v2 w' (h1.grew g') (h2.grew g'))
  have hml := mixL_len is A B
  obtain ⟨ao1, cap1, rfl, hm1⟩ := sl2_form h1
  obtain ⟨ao2, cap2, rfl, hm2⟩ := sl2_form h2
  clear h1 h2
  cases hs1 : setB A
  · have HR := Lib.hid (show mixR is A B = [] by unfold mixR; simp [hs1])
    have HC := Lib.hid (show mixCode A B = 2 by unfold mixCode; rw [hs1]; rfl)
    cases hs2 : setB B
    all_goals
      go_enter Try.func43, Try.ntmps43
      go_wp2_with (first | (go_at_call 47; (with_reducible refine call_later (is_bool hs1 (HSA.out _ (by repeat (first | with_reducible exact Grew.refl _ | with_reducible apply Grew.alloc | with_reducible apply Grew.later | with_reducible apply Grew.drew | with_reducible apply Grew.store | with_reducible assumption)))) ?_); intro u) | (go_at_call 47; (with_reducible refine call_later (is_bool hs2 (HSB.out _ (by repeat (first | with_reducible exact Grew.refl _ | with_reducible apply Grew.alloc | with_reducible apply Grew.later | with_reducible apply Grew.drew | with_reducible apply Grew.store | with_reducible assumption)))) ?_); intro u) | ((with_reducible refine wp_region_later ?_ ?_ ?_); (· kernel_rfl); (· kernel_rfl); (repeat (go_big_quiet_step ((first | (go_at_call 47; (with_reducible exact call_quiet (is_bool hs1 (HSA.out _ (by repeat (first | with_reducible exact Grew.refl _ | with_reducible apply Grew.alloc | with_reducible apply Grew.later | with_reducible apply Grew.drew | with_reducible apply Grew.store | with_reducible assumption)))))) | (go_at_call 47; (with_reducible exact call_quiet (is_bool hs2 (HSB.out _ (by repeat (first | with_reducible exact Grew.refl _ | with_reducible apply Grew.alloc | with_reducible apply Grew.later | with_reducible apply Grew.drew | with_reducible apply Grew.store | with_reducible assumption)))))))))); refine wpQuiet_nil ?_; rintro _ ⟨u, rfl⟩))
      go_ret2
      exact RetSlC.full HR.out HC.out (SlAt.nil _) (by repeat (first | with_reducible exact Grew.refl _ | with_reducible apply Grew.alloc | with_reducible apply Grew.later | with_reducible apply Grew.drew | with_reducible apply Grew.store | with_reducible assumption))
  cases hs2 : setB B
  · have HR := Lib.hid (show mixR is A B = [] by unfold mixR; simp [hs2])
    have HC := Lib.hid (show mixCode A B = 2 by unfold mixCode; rw [hs1, hs2]; rfl)
    go_enter Try.func43, Try.ntmps43
    go_wp2_with (first | (go_at_call 47; (with_reducible refine call_later (is_bool hs1 (HSA.out _ (by repeat (first | with_reducible exact Grew.refl _ | with_reducible apply Grew.alloc | with_reducible apply Grew.later | with_reducible apply Grew.drew | with_reducible apply Grew.store | with_reducible assumption)))) ?_); intro u) | (go_at_call 47; (with_reducible refine call_later (is_bool hs2 (HSB.out _ (by repeat (first | with_reducible exact Grew.refl _ | with_reducible apply Grew.alloc | with_reducible apply Grew.later | with_reducible apply Grew.drew | with_reducible apply Grew.store | with_reducible assumption)))) ?_); intro u) | ((with_reducible refine wp_region_later ?_ ?_ ?_); (· kernel_rfl); (· kernel_rfl); (repeat (go_big_quiet_step ((first | (go_at_call 47; (with_reducible exact call_quiet (is_bool hs1 (HSA.out _ (by repeat (first | with_reducible exact Grew.refl _ | with_reducible apply Grew.alloc | with_reducible apply Grew.later | with_reducible apply Grew.drew | with_reducible apply Grew.store | with_reducible assumption)))))) | (go_at_call 47; (with_reducible exact call_quiet (is_bool hs2 (HSB.out _ (by repeat (first | with_reducible exact Grew.refl _ | with_reducible apply Grew.alloc | with_reducible apply Grew.later | with_reducible apply Grew.drew | with_reducible apply Grew.store | with_reducible assumption)))))))))); refine wpQuiet_nil ?_; rintro _ ⟨u, rfl⟩))
    go_ret2
    exact RetSlC.full HR.out HC.out (SlAt.nil _) (by repeat (first | with_reducible exact Grew.refl _ | with_reducible apply Grew.alloc | with_reducible apply Grew.later | with_reducible apply Grew.drew | with_reducible apply Grew.store | with_reducible assumption))
  have HR := Lib.hid (show mixR is A B = mixL is A B by unfold mixR; rw [if_pos ⟨hs1, hs2⟩])
  have HC := Lib.hid (show mixCode A B = 0 by unfold mixCode; rw [hs1, hs2]; rfl)
  have HW1 := Lib.hid (HW.out hs1 hs2)
  have hl4 : decide ((4096 : Int) < (mixL is A B).length) = false := by rw [decide_eq_false_iff_not]; omega
  generalize mixL is A B = M at *
  go_enter Try.func43, Try.ntmps43
  go_wp2_with (first | (go_at_call 47; (with_reducible refine call_later (is_bool hs1 (HSA.out _ (by repeat (first | with_reducible exact Grew.refl _ | with_reducible apply Grew.alloc | with_reducible apply Grew.later | with_reducible apply Grew.drew | with_reducible apply Grew.store | with_reducible assumption)))) ?_); intro u) | (go_at_call 47; (with_reducible refine call_later (is_bool hs2 (HSB.out _ (by repeat (first | with_reducible exact Grew.refl _ | with_reducible apply Grew.alloc | with_reducible apply Grew.later | with_reducible apply Grew.drew | with_reducible apply Grew.store | with_reducible assumption)))) ?_); intro u) | (go_at_call 68; go_loud (refine (HW1.out _ (by repeat (first | with_reducible exact Grew.refl _ | with_reducible apply Grew.alloc | with_reducible apply Grew.later | with_reducible apply Grew.drew | with_reducible apply Grew.store | with_reducible assumption))).mono ?_; rintro e w1 ⟨vr, rfl, sr, gr⟩; obtain ⟨u1, rfl⟩ := later_of gr; clear gr; obtain ⟨aor, capr, rfl, hmr⟩ := sl2_form sr)) | ((with_reducible refine wp_region_later ?_ ?_ ?_); (· kernel_rfl); (· kernel_rfl); (repeat (go_big_quiet_step ((first | (go_at_call 47; (with_reducible exact call_quiet (is_bool hs1 (HSA.out _ (by repeat (first | with_reducible exact Grew.refl _ | with_reducible apply Grew.alloc | with_reducible apply Grew.later | with_reducible apply Grew.drew | with_reducible apply Grew.store | with_reducible assumption)))))) | (go_at_call 47; (with_reducible exact call_quiet (is_bool hs2 (HSB.out _ (by repeat (first | with_reducible exact Grew.refl _ | with_reducible apply Grew.alloc | with_reducible apply Grew.later | with_reducible apply Grew.drew | with_reducible apply Grew.store | with_reducible assumption)))))))))); refine wpQuiet_nil ?_; rintro _ ⟨u, rfl⟩))
  go_ret2
  exact RetSlC.full HR.out HC.out sr (by repeat (first | with_reducible exact Grew.refl _ | with_reducible apply Grew.alloc | with_reducible apply Grew.later | with_reducible apply Grew.drew | with_reducible apply Grew.store | with_reducible assumption))
theorem abBoth_any (A B : List (Int × Int)) (hA : A.length ≤ 60) (hB : B.length ≤ 60) (v1 v2 : Value) (w : World) (h1 : SlAt w v1 A.length (A.flatMap slC)) (h2 : SlAt w v2 B.length (B.flatMap slC)) : Calls Try.prog 18 #[v1, v2] w (RetSlC (mixR andB A B) (mixCode A B) w) := by
  have HM := Lib.hid (abMixed_any 44 andB both_fact rfl (enters_of Try.func44 (by kernel_rfl) rfl) A B hA hB v1 v2 w h1 h2)
  obtain ⟨ao1, cap1, rfl, hm1⟩ := sl2_form h1
  obtain ⟨ao2, cap2, rfl, hm2⟩ := sl2_form h2
  clear h1 h2
  go_enter Try.func18, Try.ntmps18
  go_wp2_with (go_at_call 43; go_loud (refine HM.out.mono ?_; rintro e w1 ⟨vr, rfl, sr, gr⟩))
  go_ret2
  exact RetSlC.full rfl rfl sr gr
theorem abEither_any (A B : List (Int × Int)) (hA : A.length ≤ 60) (hB : B.length ≤ 60) (v1 v2 : Value) (w : World) (h1 : SlAt w v1 A.length (A.flatMap slC)) (h2 : SlAt w v2 B.length (B.flatMap slC)) : Calls Try.prog 19 #[v1, v2] w (RetSlC (mixR orB A B) (mixCode A B) w) := by
  have HM := Lib.hid (abMixed_any 45 orB either_fact rfl (enters_of Try.func45 (by kernel_rfl) rfl) A B hA hB v1 v2 w h1 h2)
  obtain ⟨ao1, cap1, rfl, hm1⟩ := sl2_form h1
  obtain ⟨ao2, cap2, rfl, hm2⟩ := sl2_form h2
  clear h1 h2
  go_enter Try.func19, Try.ntmps19
  go_wp2_with (go_at_call 43; go_loud (refine HM.out.mono ?_; rintro e w1 ⟨vr, rfl, sr, gr⟩))
  go_ret2
  exact RetSlC.full rfl rfl sr gr
theorem abWithout_any (A B : List (Int × Int)) (hA : A.length ≤ 60) (hB : B.length ≤ 60) (v1 v2 : Value) (w : World) (h1 : SlAt w v1 A.length (A.flatMap slC)) (h2 : SlAt w v2 B.length (B.flatMap slC)) : Calls Try.prog 20 #[v1, v2] w (RetSlC (mixR butB A B) (mixCode A B) w) := by
  have HM := Lib.hid (abMixed_any 46 butB without_fact rfl (enters_of Try.func46 (by kernel_rfl) rfl) A B hA hB v1 v2 w h1 h2)
  obtain ⟨ao1, cap1, rfl, hm1⟩ := sl2_form h1
  obtain ⟨ao2, cap2, rfl, hm2⟩ := sl2_form h2
  clear h1 h2
  go_enter Try.func20, Try.ntmps20
  go_wp2_with (go_at_call 43; go_loud (refine HM.out.mono ?_; rintro e w1 ⟨vr, rfl, sr, gr⟩))
  go_ret2
  exact RetSlC.full rfl rfl sr gr
theorem sameSlots_any (l : List (Int × Int)) (v1 v2 : Value) (w : World) (h1 : SlAt w v1 l.length (l.flatMap slC)) (h2 : SlAt w v2 l.length (l.flatMap slC)) : Calls Try.prog 24 #[v1, v2] w fun e w' => e = .returned (.bool true) ∧ Grew w w' := by
  have Hc1 := Lib.hid (fun k hk => sl_two h1 k hk)
  have Hc2 := Lib.hid (fun k hk => sl_two h2 k hk)
  obtain ⟨ao1, cap1, rfl, hm⟩ := sl2_form h1
  obtain ⟨ao2, cap2, rfl, -⟩ := sl2_form h2
  clear h1 h2
  go_enter Try.func24, Try.ntmps24
  go_wp2
  go_loopw [5] (fun t wr => ∃ k : Nat, t = .int .i64 k ∧ k ≤ l.length ∧ Grew w wr) (fun t _ => l.length - (intOf t).toNat)
  case atStart => exact ⟨0, rfl, by omega, Grew.refl _⟩
  case round =>
    obtain ⟨k, rfl, hk, hg⟩ := hrel
    obtain ⟨x, rfl⟩ := later_of hg
    clear hg
    by_cases hlt : k < l.length
    · obtain ⟨b1, o1, c1, e1, i1, hd1, hd2⟩ := Hc1.out k hlt
      obtain ⟨b2, o2, c2, e2, i2, hd3, hd4⟩ := Hc2.out k hlt
      cases e1
      cases e2
      generalize l[k].1 = a at *
      generalize l[k].2 = z at *
      go_wp2_with (first | ((with_reducible refine wp_region_later ?_ ?_ ?_); (· kernel_rfl); (· kernel_rfl); (repeat (go_big_quiet_step (fail))); refine wpQuiet_nil ?_; rintro _ ⟨u, rfl⟩))
      go_roundw
      case rel => exact ⟨k + 1, by go_num, by omega, x.grew.later _⟩
      case measure => simp [intOf]; omega
    · go_wp2
      go_ret
      exact ⟨rfl, x.grew⟩
theorem one_slots (l : List (Int × Int)) : ∀ u ∈ l.flatMap slC, u.oneCell' = true := by
  intro u hu
  obtain ⟨x, -, hx⟩ := List.mem_flatMap.1 hu
  simp [slC] at hx
  rcases hx with rfl | rfl <;> rfl
theorem sets_walk (A B : List (Int × Int)) (v1 v2 : Value) (w : World) (hA : SlAt w v1 A.length (A.flatMap slC)) (hB : SlAt w v2 B.length (B.flatMap slC)) : Calls Try.prog 5 #[v1, v2] w fun e w' => e = .returned (.bool true) ∧ Grew w w' := by
  have HA := Lib.hid hA
  have HB := Lib.hid hB
  obtain ⟨ao1, cap1, rfl, hm1⟩ := sl2_form hA
  obtain ⟨ao2, cap2, rfl, hm2⟩ := sl2_form hB
  by_cases l1 : A.length ≤ 60
  rotate_left
  · have l1' : (60 : Int) < A.length := by omega
    clear hA hB
    go_enter Try.func5, Try.ntmps5
    go_wp2
    go_ret
    exact ⟨rfl, (by repeat (first | with_reducible exact Grew.refl _ | with_reducible apply Grew.alloc | with_reducible apply Grew.later | with_reducible apply Grew.drew | with_reducible apply Grew.store | with_reducible assumption))⟩
  by_cases l2 : B.length ≤ 60
  rotate_left
  · have l2' : (60 : Int) < B.length := by omega
    have l1' : ¬ ((60 : Int) < A.length) := by omega
    clear hA hB
    go_enter Try.func5, Try.ntmps5
    go_wp2
    go_ret
    exact ⟨rfl, (by repeat (first | with_reducible exact Grew.refl _ | with_reducible apply Grew.alloc | with_reducible apply Grew.later | with_reducible apply Grew.drew | with_reducible apply Grew.store | with_reducible assumption))⟩
  have R0 := Lib.hid (fun w' (g : Grew w w') => r4Mixed0_any A B l1 l2 _ _ w' (hA.grew g) (hB.grew g))
  have R1 := Lib.hid (fun w' (g : Grew w w') => r4Mixed1_any A B l1 l2 _ _ w' (hA.grew g) (hB.grew g))
  have R2 := Lib.hid (fun w' (g : Grew w w') => r4Mixed2_any A B l1 l2 _ _ w' (hA.grew g) (hB.grew g))
  have RT := Lib.hid (fun w' (g : Grew w w') => r4Total_any A _ w' (hA.grew g))
  have A0 := Lib.hid (fun V1 V2 w' (h1 : SlAt w' V1 A.length (A.flatMap slC)) (h2 : SlAt w' V2 B.length (B.flatMap slC)) => abBoth_any A B l1 l2 V1 V2 w' h1 h2)
  have A1 := Lib.hid (fun V1 V2 w' (h1 : SlAt w' V1 A.length (A.flatMap slC)) (h2 : SlAt w' V2 B.length (B.flatMap slC)) => abEither_any A B l1 l2 V1 V2 w' h1 h2)
  have A2 := Lib.hid (fun V1 V2 w' (h1 : SlAt w' V1 A.length (A.flatMap slC)) (h2 : SlAt w' V2 B.length (B.flatMap slC)) => abWithout_any A B l1 l2 V1 V2 w' h1 h2)
  have AT := Lib.hid (fun V1 w' (h1 : SlAt w' V1 A.length (A.flatMap slC)) => abTotal_any A V1 w' h1)
  have one1 := one_slots A
  have one2 := one_slots B
  have len1 : (A.flatMap slC).length = A.length * 2 := slC_len A
  have len2 : (B.flatMap slC).length = B.length * 2 := slC_len B
  have by1 : A.length * 16 ≤ 140737488355328 := by omega
  have by2 : B.length * 16 ≤ 140737488355328 := by omega
  have l1' : ¬ ((60 : Int) < A.length) := by omega
  have l2' : ¬ ((60 : Int) < B.length) := by omega
  clear hA hB l1 l2
  generalize mixR andB A B = M0 at *
  generalize mixR orB A B = M1 at *
  generalize mixR butB A B = M2 at *
  generalize mixCode A B = mc at *
  generalize totalN A = tn at *
  generalize setCode A = sc at *
  go_enter Try.func5, Try.ntmps5
  go_wp2_with (first | (first | (at_builtin; refine wpList_copy w rfl _ _ 41 rfl 87 2 16 _ Try.underlying41 infoSl2 rfl (by omega) rfl _ _ _ HA.out rfl len1 one1 by1 ?_; intro aox capx y1 hx) | (at_builtin; go_loud (refine wpList_copy _ rfl _ _ 41 rfl 87 2 16 _ Try.underlying41 infoSl2 rfl (by omega) rfl _ _ _ (HB.out.grew (by repeat (first | with_reducible exact Grew.refl _ | with_reducible apply Grew.alloc | with_reducible apply Grew.later | with_reducible apply Grew.drew | with_reducible apply Grew.store | with_reducible assumption))) rfl len2 one2 by2 ?_; intro aoy capy y2 hy)) | (go_at_call 18; go_loud (refine (A0.out _ _ _ (hx.grew (by repeat (first | with_reducible exact Grew.refl _ | with_reducible apply Grew.alloc | with_reducible apply Grew.later | with_reducible apply Grew.drew | with_reducible apply Grew.store | with_reducible assumption))) (hy.grew (by repeat (first | with_reducible exact Grew.refl _ | with_reducible apply Grew.alloc | with_reducible apply Grew.later | with_reducible apply Grew.drew | with_reducible apply Grew.store | with_reducible assumption)))).mono ?_; rintro e w1 ⟨va, rfl, sa, ga⟩; obtain ⟨u1, rfl⟩ := later_of ga; clear ga)) | (go_at_call 19; refine (A1.out _ _ _ (hx.grew (by repeat (first | with_reducible exact Grew.refl _ | with_reducible apply Grew.alloc | with_reducible apply Grew.later | with_reducible apply Grew.drew | with_reducible apply Grew.store | with_reducible assumption))) (hy.grew (by repeat (first | with_reducible exact Grew.refl _ | with_reducible apply Grew.alloc | with_reducible apply Grew.later | with_reducible apply Grew.drew | with_reducible apply Grew.store | with_reducible assumption)))).mono ?_; rintro e w1 ⟨vb, rfl, sb, gb⟩; obtain ⟨u2, rfl⟩ := later_of gb; clear gb) | (go_at_call 20; refine (A2.out _ _ _ (hx.grew (by repeat (first | with_reducible exact Grew.refl _ | with_reducible apply Grew.alloc | with_reducible apply Grew.later | with_reducible apply Grew.drew | with_reducible apply Grew.store | with_reducible assumption))) (hy.grew (by repeat (first | with_reducible exact Grew.refl _ | with_reducible apply Grew.alloc | with_reducible apply Grew.later | with_reducible apply Grew.drew | with_reducible apply Grew.store | with_reducible assumption)))).mono ?_; rintro e w1 ⟨vc, rfl, sc, gc⟩; obtain ⟨u3, rfl⟩ := later_of gc; clear gc) | (go_at_call 21; refine call_later (AT.out _ _ (hx.grew (by repeat (first | with_reducible exact Grew.refl _ | with_reducible apply Grew.alloc | with_reducible apply Grew.later | with_reducible apply Grew.drew | with_reducible apply Grew.store | with_reducible assumption)))) ?_; intro u4) | (go_at_call 22; (with_reducible refine (R0.out _ (by repeat (first | with_reducible exact Grew.refl _ | with_reducible apply Grew.alloc | with_reducible apply Grew.later | with_reducible apply Grew.drew | with_reducible apply Grew.store | with_reducible assumption))).mono ?_); rintro e w1 ⟨vd, rfl, sd, gd⟩; obtain ⟨u5, rfl⟩ := later_of gd; clear gd) | (go_at_call 22; (with_reducible refine (R1.out _ (by repeat (first | with_reducible exact Grew.refl _ | with_reducible apply Grew.alloc | with_reducible apply Grew.later | with_reducible apply Grew.drew | with_reducible apply Grew.store | with_reducible assumption))).mono ?_); rintro e w1 ⟨ve, rfl, se, ge⟩; obtain ⟨u6, rfl⟩ := later_of ge; clear ge) | (go_at_call 22; (with_reducible refine (R2.out _ (by repeat (first | with_reducible exact Grew.refl _ | with_reducible apply Grew.alloc | with_reducible apply Grew.later | with_reducible apply Grew.drew | with_reducible apply Grew.store | with_reducible assumption))).mono ?_); rintro e w1 ⟨vf, rfl, sf, gf⟩; obtain ⟨u7, rfl⟩ := later_of gf; clear gf) | (go_at_call 23; refine call_later (RT.out _ (by repeat (first | with_reducible exact Grew.refl _ | with_reducible apply Grew.alloc | with_reducible apply Grew.later | with_reducible apply Grew.drew | with_reducible apply Grew.store | with_reducible assumption))) ?_; intro u8) | (go_at_call 24; (with_reducible refine call_later (sameSlots_any M0 va vd _ (sa.grew (by repeat (first | with_reducible exact Grew.refl _ | with_reducible apply Grew.alloc | with_reducible apply Grew.later | with_reducible apply Grew.drew | with_reducible apply Grew.store | with_reducible assumption))) (sd.grew (by repeat (first | with_reducible exact Grew.refl _ | with_reducible apply Grew.alloc | with_reducible apply Grew.later | with_reducible apply Grew.drew | with_reducible apply Grew.store | with_reducible assumption)))) ?_); intro u9) | (go_at_call 24; (with_reducible refine call_later (sameSlots_any M1 vb ve _ (sb.grew (by repeat (first | with_reducible exact Grew.refl _ | with_reducible apply Grew.alloc | with_reducible apply Grew.later | with_reducible apply Grew.drew | with_reducible apply Grew.store | with_reducible assumption))) (se.grew (by repeat (first | with_reducible exact Grew.refl _ | with_reducible apply Grew.alloc | with_reducible apply Grew.later | with_reducible apply Grew.drew | with_reducible apply Grew.store | with_reducible assumption)))) ?_); intro u10) | (go_at_call 24; (with_reducible refine call_later (sameSlots_any M2 vc vf _ (sc.grew (by repeat (first | with_reducible exact Grew.refl _ | with_reducible apply Grew.alloc | with_reducible apply Grew.later | with_reducible apply Grew.drew | with_reducible apply Grew.store | with_reducible assumption))) (sf.grew (by repeat (first | with_reducible exact Grew.refl _ | with_reducible apply Grew.alloc | with_reducible apply Grew.later | with_reducible apply Grew.drew | with_reducible apply Grew.store | with_reducible assumption)))) ?_); intro u11) | (go_at_call 24; (with_reducible refine call_later (sameSlots_any A _ _ _ (hx.grew (by repeat (first | with_reducible exact Grew.refl _ | with_reducible apply Grew.alloc | with_reducible apply Grew.later | with_reducible apply Grew.drew | with_reducible apply Grew.store | with_reducible assumption))) (HA.out.grew (by repeat (first | with_reducible exact Grew.refl _ | with_reducible apply Grew.alloc | with_reducible apply Grew.later | with_reducible apply Grew.drew | with_reducible apply Grew.store | with_reducible assumption)))) ?_); intro u12) | (go_at_call 24; (with_reducible refine call_later (sameSlots_any B _ _ _ (hy.grew (by repeat (first | with_reducible exact Grew.refl _ | with_reducible apply Grew.alloc | with_reducible apply Grew.later | with_reducible apply Grew.drew | with_reducible apply Grew.store | with_reducible assumption))) (HB.out.grew (by repeat (first | with_reducible exact Grew.refl _ | with_reducible apply Grew.alloc | with_reducible apply Grew.later | with_reducible apply Grew.drew | with_reducible apply Grew.store | with_reducible assumption)))) ?_); intro u13)) | ((with_reducible refine wp_region_later ?_ ?_ ?_); (· kernel_rfl); (· kernel_rfl); (repeat (go_big_quiet_step (fail))); refine wpQuiet_nil ?_; rintro _ ⟨u, rfl⟩))
  all_goals go_ret
  all_goals exact ⟨rfl, (by repeat (first | with_reducible exact Grew.refl _ | with_reducible apply Grew.alloc | with_reducible apply Grew.later | with_reducible apply Grew.drew | with_reducible apply Grew.store | with_reducible assumption))⟩
section
variable {H : Type} {enc : TypeId × Value → H} {w : World} {base : Nat} {spare : Nat → Bool} {held : Bool} {fuel : Nat} {cs : List Value} {x : DataW H × List MemPlace}
theorem slots_trod (h : DataW.trod enc Try.prog w base spare held fuel 41 cs = some x) : ∃ (ao : Option Addr) (cap : Nat) (l : List (Int × Int)), cs = [.slice ao l.length cap] ∧ SlAt w (.slice ao l.length cap) l.length (l.flatMap slC) := by
  obtain ⟨ao, n, cap, l, e, hn, h1, h2⟩ := slice_trod slC (c := 2) (fun _ => rfl) (fun _ => True) Try.underlying41 (by kernel_rfl) (fun m cs' x' h' => by
    obtain ⟨hl, hi⟩ := flat_trod Try.prog 12 87 2 m cs' x' (by kernel_rfl) h'
    obtain ⟨ns, e, -⟩ := allInt_list cs' hi
    rw [e, List.length_map] at hl
    obtain ⟨a, z, rfl⟩ : ∃ a z, ns = [a, z] := by
      match ns, hl with | [a, z], _ => exact ⟨a, z, rfl⟩
    exact ⟨(a, z), e, trivial⟩) h
  subst hn
  exact ⟨ao, cap, l, e, h1⟩
end
namespace ascentSetsRow
open Go.ChangeShapes Go.WideShapes Go.ChangeAt Go.RowKit
theorem own : ownKnob Try.prog.godebug = none := by kernel_rfl
theorem lifted (os : Os) (started : os.Started) (H : Type) (enc : TypeId × Value → H) :
    ReturnsInHanded {} Try.checked os 5 .any (Rows.ascentSetsSpec.pre6 enc Try.prog Try.f5 Rows.ascentSetsRow.domain false) (Rows.ascentSetsSpec.post enc Try.prog Try.f5 false true false false) := by
  refine returnsInHanded_of_change (C := Try.checked) own started (by kernel_rfl) Try.func5
    (ChangeSpec.witness6 (enc := enc) (C := Try.checked) false ⟨#[], #[.slice none 0 0, .slice none 0 0], []⟩ 8 (by as_aux_lemma => kernel_rfl) (by as_aux_lemma => kernel_rfl) (by as_aux_lemma => kernel_rfl) (by as_aux_lemma => kernel_rfl)) ?_
  intro W base args ds gs before hval0 hW _ _
  have hval : ∀ (j : Nat) t v, Try.f5.params[j]? = some t → args[j]? = some v → Value.okWide Try.prog W .any base t v := hval0
  have hW' := hW
  obtain ⟨p, q, hA0, hV, rfl, hfz, hnd⟩ := hW
  have hA : DataW.TrodAll enc Try.prog W 0 (fun _ => true) true Try.f5.params.toList args.toList ds p := hA0
  rw [Try.params5] at hA hval
  obtain ⟨v0, vs0, d0, ds0, p0, q0, hargs, rfl, rfl, h0, r0⟩ := trodAll_cons hA
  obtain ⟨v1, vs1, d1, ds1, p1, q1, rfl, rfl, rfl, h1, r1⟩ := trodAll_cons r0
  obtain ⟨rfl, rfl, rfl⟩ := trodAll_nil r1
  obtain rfl : args = #[v0, v1] := by cases args; simp_all
  obtain ⟨rfl, rfl⟩ := trodVars_none hV
  obtain ⟨ao0, n0, cap0, rfl⟩ := okWide_slice Try.underlying41 (hval 0 41 v0 rfl rfl)
  obtain ⟨ao1, n1, cap1, rfl⟩ := okWide_slice Try.underlying41 (hval 1 41 v1 rfl rfl)
  obtain ⟨_, h0⟩ := h0
  obtain ⟨_, h1⟩ := h1
  obtain ⟨aoP, capP, P, eP, hP⟩ := slots_trod h0
  obtain ⟨aoT, capT, T, eT, hT⟩ := slots_trod h1
  rw [← (by simpa [Value.cells] using eP : Value.slice ao0 n0 cap0 = .slice aoP P.length capP)] at hP
  rw [← (by simpa [Value.cells] using eT : Value.slice ao1 n1 cap1 = .slice aoT T.length capT)] at hT
  refine (sets_walk P T _ _ W hP hT).mono fun e W' ⟨he, hg⟩ => ?_
  subst he
  exact ⟨_, rfl, law_post (by kernel_rfl) (by kernel_rfl) rfl rfl Try.underlying4 hW' rfl hg⟩
theorem proved : Rows.AscentSetsSaid :=
  OpenClaim.holds_of_wide 5 Try.f5 rfl rfl rfl rfl rfl rfl rfl ⟨rfl, rfl, rfl, rfl, rfl⟩ rfl rfl rfl rfl rfl (by as_aux_lemma => kernel_rfl) Try.func5 (by as_aux_lemma => kernel_rfl)
    (of_decide_eq_true (by as_aux_lemma => kernel_rfl)) (by unfold Func.isWrapper; first | (rw [if_pos (by decide +kernel)]; kernel_rfl) | (rw [if_neg (by decide +kernel)]; exact ⟨rfl, rfl⟩))
    (fun os started H enc _ => lifted os started H enc)
end ascentSetsRow
end Go.Proofs.Ytgjikdhidakloaa
