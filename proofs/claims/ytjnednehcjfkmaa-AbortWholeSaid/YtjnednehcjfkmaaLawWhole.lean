/-
  AbortWhole: for every list of masks and flight (at most 60 of each), the phases of the plan are its tubes, without gaps and overlaps, one more than its changes. No condition.
-/
import Derived.Test.YtjnednehcjfkmaaWholeLaw
import Derived.Test.YtjnednehcjfkmaaAbPhasesW
import Derived.Test.YtjnednehcjfkmaaFewAlive
import Derived.Test.YtjnednehcjfkmaaFewAll
import Derived.Test.YtjnednehcjfkmaaOpenApi
import Derived.Test.YtjnednehcjfkmaaRows
namespace Go.Proofs.Ytjnednehcjfkmaa
open Go.RowKit
set_option maxRecDepth 100000
set_option maxHeartbeats 32000000
theorem take_last {α : Type} (L : List α) (j : Nat) (hi : j < L.length) : (L.take (j + 1)).getLast? = some L[j] := by
  rw [List.take_succ_eq_append_getElem hi, List.getLast?_concat]
/-- The phase at an index, behind those before. -/
theorem ph_at {P : List Int} {T : List Tube} {L : List Ph} (hf : flownB T = true) (hl : P.length = T.length) (h : Tl P T P.length L) (i a : Nat) (hi : i < L.length) (ha : Tl P T a (L.take i)) :
    ∃ z, L[i] = phOf P T (a, z) ∧ a ≤ z ∧ z < T.length ∧ (∀ k, a ≤ k → k ≤ z → plAt P k = plAt P a) ∧ Tl P T (z + 1) (L.take (i + 1)) ∧
      ∀ j (hj : j < L.length), i = j + 1 → L[j].z = (tuAt T a).a ∧ L[j].mode ≠ plAt P a := by
  obtain ⟨a', z, g1, ⟨g2, g3, g4⟩, g5, g6, g7⟩ := h.at i hi
  obtain rfl := g1.one ha
  refine ⟨z, g2, g3, by omega, fun k h1 h2 => by rw [g4 k h1 h2, g2]; rfl, g5, fun j hj hij => ?_⟩
  subst hij
  have ht := take_last L j hj
  obtain ⟨q1, q2⟩ := g1.last ht
  have q3 := g7 _ ht
  rw [g2] at q3
  refine ⟨?_, q3⟩
  rw [q2]
  unfold flownB at hf
  have := List.all_eq_true.1 hf a' (by simp; omega)
  unfold flB at this
  simp at this
  omega
theorem phasesL_nil (T : List Tube) : phasesL [] T = [] := by
  unfold phasesL
  split <;> rfl
theorem whole_err (P : List Int) (T : List Tube) (v1 v2 : Value) (w : World) (hP : SlAt w v1 P.length (P.flatMap intC)) (hT : SlAt w v2 T.length (T.flatMap Tube.cells)) (h : 60 < P.length ∨ 60 < T.length ∨ masksCode P ≠ 0 ∨ phasesCode (planR P) T ≠ 0) : Calls Try.prog 5 #[v1, v2] w fun e w' => e = .returned (.bool true) ∧ Grew w w' := by
  have H1 := Lib.hid (fun w' (g : Grew w w') => abPlan_any P v1 w' (hP.grew g))
  have H2 := Lib.hid (fun va w' (s : SlAt w' va (planR P).length ((planR P).flatMap intC)) (g : Grew w w') => abPhases_any (planR P) T va v2 w' s (hT.grew g))
  obtain ⟨ao1, cap1, rfl, hm1⟩ := sl_form hP
  obtain ⟨ao2, cap2, rfl, hm2⟩ := sl_form hT
  clear hP hT
  by_cases l1 : 60 < P.length
  · have l1' : decide ((60 : Int) < P.length) = true := by simp; omega
    clear h
    go_enter Try.func5, Try.ntmps5
    go_wp2_with (first | (go_at_call 6; (with_reducible refine call_later (alive11_any _) ?_); intro u) | ((with_reducible refine wp_region_later ?_ ?_ ?_); (· kernel_rfl); (· kernel_rfl); (try simp only [List.append_eq, List.cons_append, List.nil_append]); (repeat (go_big_quiet_step ((first | (go_at_call 6; (with_reducible exact call_quiet (alive11_any _))))))); refine wpQuiet_nil ?_; rintro _ ⟨u, rfl⟩))
    go_ret
    exact ⟨rfl, (by repeat (first | with_reducible exact Grew.refl _ | with_reducible apply Grew.alloc | with_reducible apply Grew.later | with_reducible apply Grew.drew | with_reducible apply Grew.store | with_reducible assumption))⟩
  have l1' : decide ((60 : Int) < P.length) = false := by simp; omega
  by_cases l2 : 60 < T.length
  · have l2' : decide ((60 : Int) < T.length) = true := by simp; omega
    clear h
    go_enter Try.func5, Try.ntmps5
    go_wp2_with (first | (go_at_call 6; (with_reducible refine call_later (alive11_any _) ?_); intro u) | ((with_reducible refine wp_region_later ?_ ?_ ?_); (· kernel_rfl); (· kernel_rfl); (try simp only [List.append_eq, List.cons_append, List.nil_append]); (repeat (go_big_quiet_step ((first | (go_at_call 6; (with_reducible exact call_quiet (alive11_any _))))))); refine wpQuiet_nil ?_; rintro _ ⟨u, rfl⟩))
    go_ret
    exact ⟨rfl, (by repeat (first | with_reducible exact Grew.refl _ | with_reducible apply Grew.alloc | with_reducible apply Grew.later | with_reducible apply Grew.drew | with_reducible apply Grew.store | with_reducible assumption))⟩
  have l2' : decide ((60 : Int) < T.length) = false := by simp; omega
  have hL : phasesL (planR P) T = [] := by
    by_cases hc : masksCode P = 0
    · have : phasesCode (planR P) T ≠ 0 := by omega
      unfold phasesL
      rw [if_neg this]
    · have : planR P = [] := by unfold planR; rw [if_neg hc]
      rw [this]
      exact phasesL_nil T
  have hcd : masksCode P ≠ 0 ∨ phasesCode (planR P) T ≠ 0 := by omega
  unfold RetPlan at H1
  unfold RetPh at H2
  rw [hL] at H2
  clear hL h
  generalize planR P = pl at *
  generalize planNR P = pn at *
  generalize masksCode P = c at *
  generalize phasesCode pl T = d at *
  by_cases hc : c = 0
  · have hd' : (d != 0) = true := by simp; omega
    subst hc
    clear hcd
    go_enter Try.func5, Try.ntmps5
    go_wp2_with (first | (go_at_call 6; (with_reducible refine call_later (alive11_any _) ?_); intro u) | (go_at_call 7; (with_reducible refine (H1.out _ (by repeat (first | with_reducible exact Grew.refl _ | with_reducible apply Grew.alloc | with_reducible apply Grew.later | with_reducible apply Grew.drew | with_reducible apply Grew.store | with_reducible assumption))).mono ?_); rintro e w1 ⟨va, rfl, sa, ga⟩; obtain ⟨u1, rfl⟩ := later_of ga; clear ga) | (go_at_call 20; (with_reducible refine (H2.out _ _ sa (by repeat (first | with_reducible exact Grew.refl _ | with_reducible apply Grew.alloc | with_reducible apply Grew.later | with_reducible apply Grew.drew | with_reducible apply Grew.store | with_reducible assumption))).mono ?_); rintro e w2 ⟨vb, rfl, sb, gb⟩; obtain ⟨u2, rfl⟩ := later_of gb; clear gb; obtain ⟨aob, capb, rfl, -⟩ := sl_form sb) | ((with_reducible refine wp_region_later ?_ ?_ ?_); (· kernel_rfl); (· kernel_rfl); (try simp only [List.append_eq, List.cons_append, List.nil_append]); (repeat (go_big_quiet_step ((first | (go_at_call 6; (with_reducible exact call_quiet (alive11_any _))))))); refine wpQuiet_nil ?_; rintro _ ⟨u, rfl⟩))
    all_goals go_ret
    all_goals exact ⟨rfl, (by repeat (first | with_reducible exact Grew.refl _ | with_reducible apply Grew.alloc | with_reducible apply Grew.later | with_reducible apply Grew.drew | with_reducible apply Grew.store | with_reducible assumption))⟩
  · have hc' : (c != 0) = true := by simp [hc]
    clear hcd hc
    go_enter Try.func5, Try.ntmps5
    go_wp2_with (first | (go_at_call 6; (with_reducible refine call_later (alive11_any _) ?_); intro u) | (go_at_call 7; (with_reducible refine (H1.out _ (by repeat (first | with_reducible exact Grew.refl _ | with_reducible apply Grew.alloc | with_reducible apply Grew.later | with_reducible apply Grew.drew | with_reducible apply Grew.store | with_reducible assumption))).mono ?_); rintro e w1 ⟨va, rfl, sa, ga⟩; obtain ⟨u1, rfl⟩ := later_of ga; clear ga) | (go_at_call 20; (with_reducible refine (H2.out _ _ sa (by repeat (first | with_reducible exact Grew.refl _ | with_reducible apply Grew.alloc | with_reducible apply Grew.later | with_reducible apply Grew.drew | with_reducible apply Grew.store | with_reducible assumption))).mono ?_); rintro e w2 ⟨vb, rfl, sb, gb⟩; obtain ⟨u2, rfl⟩ := later_of gb; clear gb; obtain ⟨aob, capb, rfl, -⟩ := sl_form sb) | ((with_reducible refine wp_region_later ?_ ?_ ?_); (· kernel_rfl); (· kernel_rfl); (try simp only [List.append_eq, List.cons_append, List.nil_append]); (repeat (go_big_quiet_step ((first | (go_at_call 6; (with_reducible exact call_quiet (alive11_any _))))))); refine wpQuiet_nil ?_; rintro _ ⟨u, rfl⟩))
    all_goals go_ret
    all_goals exact ⟨rfl, (by repeat (first | with_reducible exact Grew.refl _ | with_reducible apply Grew.alloc | with_reducible apply Grew.later | with_reducible apply Grew.drew | with_reducible apply Grew.store | with_reducible assumption))⟩
theorem pl_cell {w : World} {v : Value} {l : List Int} {n : Nat} (hn : l.length = n) (h : SlAt w v n (l.flatMap intC)) (k : Nat) (hk : k < n) :
    ∃ b off cap, v = .slice (some ⟨b, off, none⟩) n cap ∧ BlockIn w b ∧ w.cell? ⟨b, off + k, none⟩ = some (.int .i64 (plAt l k)) := by
  subst hn
  exact lat_cell h k hk
theorem whole_walk (P : List Int) (T : List Tube) (v1 v2 : Value) (w : World) (hP : SlAt w v1 P.length (P.flatMap intC)) (hT : SlAt w v2 T.length (T.flatMap Tube.cells)) (l1 : P.length ≤ 60) (l2 : T.length ≤ 60) (hc : masksCode P = 0) (hd : phasesCode (planL P) T = 0) : Calls Try.prog 5 #[v1, v2] w fun e w' => e = .returned (.bool true) ∧ Grew w w' := by
  have H1 := Lib.hid (fun w' (g : Grew w w') => abPlan_any P v1 w' (hP.grew g))
  have H2 := Lib.hid (fun va w' (s : SlAt w' va (planL P).length ((planL P).flatMap intC)) (g : Grew w w') => abPhases_any (planL P) T va v2 w' s (hT.grew g))
  obtain ⟨ao1, cap1, rfl, hm1⟩ := sl_form hP
  obtain ⟨ao2, cap2, rfl, hm2, hc2⟩ := hT
  unfold maxLen at hm2
  have HT := Lib.hid (fun k hk => tube_two hc2 k hk)
  clear hc2 hP
  have l1' : decide ((60 : Int) < P.length) = false := by simp; omega
  have l2' : decide ((60 : Int) < T.length) = false := by simp; omega
  have e1 : planR P = planL P := by unfold planR; rw [if_pos hc]
  have e2 : planNR P = planN P := by unfold planNR; rw [if_pos hc]
  have e3 : phasesL (planL P) T = phAt (planL P) T (planL P).length := by unfold phasesL; rw [if_pos hd]
  have hPT : flownB T = true ∧ (planL P).length = T.length := by
    unfold phasesCode at hd
    split at hd
    · split at hd
      · rename_i h1 h2
        exact ⟨h2.1, h2.2.1⟩
      · exact absurd hd (by decide)
    · exact absurd hd (by decide)
  obtain ⟨hfl, hPl⟩ := hPT
  have hlen := ph_len (planL P) T (planL P).length
  have hnum := plan_num hc
  unfold RetPlan at H1
  unfold RetPh at H2
  rw [e1, e2, hc] at H1
  rw [e3, hd] at H2
  have hTl := tl_all (planL P) T (planL P).length
  have hbd := phAt_len (planL P) T (planL P).length
  clear e1 e2 e3 hd hc
  rw [show chA (plAt (planL P)) (planL P).length = planN P from hnum] at hlen
  clear hnum
  generalize planL P = pl at *
  generalize planN P = pn at *
  generalize phAt pl T pl.length = L at *
  have HN := Lib.hid hTl
  have HA := Lib.hid (fun i a hi ha => ph_at hfl hPl hTl i a hi ha)
  clear hTl hfl
  have Hlen := Lib.hid hlen
  have hL60 : L.length ≤ 60 := by omega
  have HPl := Lib.hid hPl
  clear hPl
  have hbd1 := hbd.1
  clear hlen hbd
  go_enter Try.func5, Try.ntmps5
  go_wp2_with (first | (go_at_call 6; (with_reducible refine call_later (alive11_any _) ?_); intro u) | (go_at_call 7; (with_reducible refine (H1.out _ (by repeat (first | with_reducible exact Grew.refl _ | with_reducible apply Grew.alloc | with_reducible apply Grew.later | with_reducible apply Grew.drew | with_reducible apply Grew.store | with_reducible assumption))).mono ?_); rintro e w1 ⟨va, rfl, sa, ga⟩; obtain ⟨u1, rfl⟩ := later_of ga; clear ga) | (go_at_call 20; (with_reducible refine (H2.out _ _ sa (by repeat (first | with_reducible exact Grew.refl _ | with_reducible apply Grew.alloc | with_reducible apply Grew.later | with_reducible apply Grew.drew | with_reducible apply Grew.store | with_reducible assumption))).mono ?_); rintro e w2 ⟨vb, rfl, sb, gb⟩; obtain ⟨u2, rfl⟩ := later_of gb; clear gb; have HIa := Lib.hid (fun k hk => pl_cell rfl sa k hk); obtain ⟨aoa, capa, rfl, -⟩ := sl_form sa; clear sa; obtain ⟨aob, capb, rfl, hmb, hcb⟩ := sb; have HIb := Lib.hid (SlAt.elem (f := Ph.cells) (c := 5) (fun _ => rfl) (by omega) hcb); clear hcb hmb) | ((with_reducible refine wp_region_later ?_ ?_ ?_); (· kernel_rfl); (· kernel_rfl); (try simp only [List.append_eq, List.cons_append, List.nil_append]); (repeat (go_big_quiet_step ((first | (go_at_call 6; (with_reducible exact call_quiet (alive11_any _))))))); refine wpQuiet_nil ?_; rintro _ ⟨u, rfl⟩))
  go_loopw [11, 55] (fun v t wr => ∃ i a : Nat, t = .int .i64 i ∧ v = .int .i64 a ∧ i ≤ L.length ∧ Hid (Tl pl T a (L.take i)) ∧ Grew u2.world wr) (fun _ t _ => L.length - (intOf t).toNat)
  case atStart => exact ⟨0, 0, rfl, rfl, by omega, Lib.hid .nil, (by repeat (first | with_reducible exact Grew.refl _ | with_reducible apply Grew.alloc | with_reducible apply Grew.later | with_reducible apply Grew.drew | with_reducible apply Grew.store | with_reducible assumption))⟩
  case round =>
    obtain ⟨i, a, rfl, rfl, hi, Ha, hg⟩ := hrel
    obtain ⟨y, rfl⟩ := later_of hg
    clear hg
    by_cases hlt : i < L.length
    · obtain ⟨z, p1, p2, p3, p4, p5, p6⟩ := HA.out i a hlt Ha.out
      obtain ⟨b1, o1, rfl, i1, he, he2⟩ := HIb.out i hlt
      have i1 : BlockIn u2.world b1 := ⟨i1⟩
      rw [p1] at he he2
      have he0 := he _ rfl
      have he1 := he2 1 _ rfl
      have he3 := he2 2 _ rfl
      have he4 := he2 3 _ rfl
      have he5 := he2 4 _ rfl
      clear he he2
      unfold phOf at he0 he1 he3 he4 he5
      simp only at he0 he1 he3 he4 he5
      obtain ⟨b2, o2, rfl, i2, t1, t2⟩ := HT.out a (by omega)
      obtain ⟨b3, o3, e3, i3, t3, t4⟩ := HT.out z (by omega)
      cases e3
      have P5 := Lib.hid p5
      have P4 := Lib.hid p4
      clear p1 p4 p5
      have hza : decide (z < a) = false := by simp; omega
      have hzT : decide (T.length ≤ z) = false := by simp; omega
      have haT : a < T.length := by omega
      by_cases h0 : i = 0
      · have h0' : decide (0 < i) = false := by simp [h0]
        clear h0 p6
        generalize plAt pl a = md at *
        generalize (tuAt T a).a = fa at *
        generalize (tuAt T z).z = tz at *
        go_wp2_with (first | ((with_reducible refine wp_region_later ?_ ?_ ?_); (· kernel_rfl); (· kernel_rfl); (try simp only [List.append_eq, List.cons_append, List.nil_append]); (repeat (go_big_quiet_step (fail))); refine wpQuiet_nil ?_; rintro _ ⟨u, rfl⟩))
        refine wp_to_later (z := u2.world) (by repeat (first | with_reducible exact Grew.refl _ | with_reducible apply Grew.alloc | with_reducible apply Grew.later | with_reducible apply Grew.drew | with_reducible apply Grew.store | with_reducible assumption)) ?_
        intro y0 hy0
        have q0 : y0.world.cell? ⟨y.world.heap.size, 0, none⟩ = some (.int .i64 md) := by rw [hy0]; go_simp
        have q2 : y0.world.cell? ⟨y.world.heap.size, 2, none⟩ = some (.int .i64 z) := by rw [hy0]; go_simp
        clear hy0
        generalize y.world.heap.size = bp at *
        have ibp : BlockIn y0.world bp := BlockIn.of_cell q0
        go_loopw [14] (fun t wr => ∃ k : Nat, t = .int .i64 k ∧ a ≤ k ∧ k ≤ z + 1 ∧ Grew y0.world wr) (fun t _ => z + 1 - (intOf t).toNat)
        case atStart => exact ⟨a, rfl, by omega, by omega, (by repeat (first | with_reducible exact Grew.refl _ | with_reducible apply Grew.alloc | with_reducible apply Grew.later | with_reducible apply Grew.drew | with_reducible apply Grew.store | with_reducible assumption))⟩
        case round =>
          obtain ⟨k, rfl, hk1, hk2, hg⟩ := hrel
          obtain ⟨x, rfl⟩ := later_of hg
          clear hg
          by_cases hk3 : k ≤ z
          · obtain ⟨b5, o5, c5, e5, i5, d5⟩ := HIa.out k (by have := HPl.out; omega)
            cases e5
            rw [P4.out k hk1 hk3] at d5
            have hkp : k < pl.length := by have := HPl.out; omega
            go_wp2_with (first | ((with_reducible refine wp_region_later ?_ ?_ ?_); (· kernel_rfl); (· kernel_rfl); (try simp only [List.append_eq, List.cons_append, List.nil_append]); (repeat (go_big_quiet_step (fail))); refine wpQuiet_nil ?_; rintro _ ⟨u, rfl⟩))
            go_roundw
            case rel => exact ⟨k + 1, by go_num, by omega, by omega, (by repeat (first | with_reducible exact Grew.refl _ | with_reducible apply Grew.alloc | with_reducible apply Grew.later | with_reducible apply Grew.drew | with_reducible apply Grew.store | with_reducible assumption))⟩
            case measure => simp [intOf]; omega
          · go_wp2
            go_roundw
            case rel => exact ⟨i + 1, z + 1, by go_num, by go_num, by omega, P5, (by repeat (first | with_reducible exact Grew.refl _ | with_reducible apply Grew.alloc | with_reducible apply Grew.later | with_reducible apply Grew.drew | with_reducible apply Grew.store | with_reducible assumption))⟩
            case measure => simp [intOf]; omega
      · obtain ⟨j, hj⟩ : ∃ j, i = j + 1 := ⟨i - 1, by omega⟩
        have h0' : decide (0 < i) = true := by simp; omega
        have hjL : j < L.length := by omega
        have hj1 : (i : Int) - 1 = j := by omega
        have p7 : (L[j]'hjL).z = (tuAt T a).a ∧ (L[j]'hjL).mode ≠ plAt pl a := by
          exact p6 j hjL hj
        obtain ⟨b4, o4, e4, i4, hf, hf2⟩ := HIb.out j hjL
        cases e4
        have hf0 := hf _ rfl
        have hf5 := hf2 4 _ rfl
        clear hf hf2
        rw [p7.1] at hf5
        have hne : (plAt pl a == (L[j]'hjL).mode) = false := by simp; exact fun e => p7.2 e.symm
        clear hj h0 p6 p7
        generalize (L[j]'hjL).mode = mj at *
        generalize plAt pl a = md at *
        generalize (tuAt T a).a = fa at *
        generalize (tuAt T z).z = tz at *
        go_wp2_with (first | ((with_reducible refine wp_region_later ?_ ?_ ?_); (· kernel_rfl); (· kernel_rfl); (try simp only [List.append_eq, List.cons_append, List.nil_append]); (repeat (go_big_quiet_step (fail))); refine wpQuiet_nil ?_; rintro _ ⟨u, rfl⟩))
        refine wp_to_later (z := u2.world) (by repeat (first | with_reducible exact Grew.refl _ | with_reducible apply Grew.alloc | with_reducible apply Grew.later | with_reducible apply Grew.drew | with_reducible apply Grew.store | with_reducible assumption)) ?_
        intro y0 hy0
        have q0 : y0.world.cell? ⟨y.world.heap.size, 0, none⟩ = some (.int .i64 md) := by rw [hy0]; go_simp
        have q2 : y0.world.cell? ⟨y.world.heap.size, 2, none⟩ = some (.int .i64 z) := by rw [hy0]; go_simp
        clear hy0
        generalize y.world.heap.size = bp at *
        have ibp : BlockIn y0.world bp := BlockIn.of_cell q0
        go_loopw [14] (fun t wr => ∃ k : Nat, t = .int .i64 k ∧ a ≤ k ∧ k ≤ z + 1 ∧ Grew y0.world wr) (fun t _ => z + 1 - (intOf t).toNat)
        case atStart => exact ⟨a, rfl, by omega, by omega, (by repeat (first | with_reducible exact Grew.refl _ | with_reducible apply Grew.alloc | with_reducible apply Grew.later | with_reducible apply Grew.drew | with_reducible apply Grew.store | with_reducible assumption))⟩
        case round =>
          obtain ⟨k, rfl, hk1, hk2, hg⟩ := hrel
          obtain ⟨x, rfl⟩ := later_of hg
          clear hg
          by_cases hk3 : k ≤ z
          · obtain ⟨b5, o5, c5, e5, i5, d5⟩ := HIa.out k (by have := HPl.out; omega)
            cases e5
            rw [P4.out k hk1 hk3] at d5
            have hkp : k < pl.length := by have := HPl.out; omega
            go_wp2_with (first | ((with_reducible refine wp_region_later ?_ ?_ ?_); (· kernel_rfl); (· kernel_rfl); (try simp only [List.append_eq, List.cons_append, List.nil_append]); (repeat (go_big_quiet_step (fail))); refine wpQuiet_nil ?_; rintro _ ⟨u, rfl⟩))
            go_roundw
            case rel => exact ⟨k + 1, by go_num, by omega, by omega, (by repeat (first | with_reducible exact Grew.refl _ | with_reducible apply Grew.alloc | with_reducible apply Grew.later | with_reducible apply Grew.drew | with_reducible apply Grew.store | with_reducible assumption))⟩
            case measure => simp [intOf]; omega
          · go_wp2
            go_roundw
            case rel => exact ⟨i + 1, z + 1, by go_num, by go_num, by omega, P5, (by repeat (first | with_reducible exact Grew.refl _ | with_reducible apply Grew.alloc | with_reducible apply Grew.later | with_reducible apply Grew.drew | with_reducible apply Grew.store | with_reducible assumption))⟩
            case measure => simp [intOf]; omega
    · obtain rfl : i = L.length := by omega
      rw [List.take_length] at Ha
      obtain rfl := Ha.out.one HN.out
      have hlen := Hlen.out
      have hPl := HPl.out
      clear Hlen HN HA HIa HIb HT Ha HPl
      by_cases hz : pl.length = 0
      · rw [if_pos hz] at hlen
        have hLn : (L.length : Int) = pn + min 1 (T.length : Int) := by omega
        go_wp2
        go_ret
        exact ⟨ret_bool (by rw [Bool.eq_iff_iff]; simp; omega), (by repeat (first | with_reducible exact Grew.refl _ | with_reducible apply Grew.alloc | with_reducible apply Grew.later | with_reducible apply Grew.drew | with_reducible apply Grew.store | with_reducible assumption))⟩
      · rw [if_neg hz] at hlen
        have hLn : (L.length : Int) = pn + min 1 (T.length : Int) := by omega
        go_wp2
        go_ret
        exact ⟨ret_bool (by rw [Bool.eq_iff_iff]; simp; omega), (by repeat (first | with_reducible exact Grew.refl _ | with_reducible apply Grew.alloc | with_reducible apply Grew.later | with_reducible apply Grew.drew | with_reducible apply Grew.store | with_reducible assumption))⟩
section
variable {H : Type} {enc : TypeId × Value → H} {w : World} {base : Nat} {spare : Nat → Bool} {held : Bool} {fuel : Nat} {cs : List Value} {x : DataW H × List MemPlace}
theorem ints_trod4 (h : DataW.trod enc Try.prog w base spare held fuel 22 cs = some x) : ∃ (ao : Option Addr) (cap : Nat) (l : List Int), cs = [.slice ao l.length cap] ∧ SlAt w (.slice ao l.length cap) l.length (l.flatMap intC) := by
  obtain ⟨ao, n, cap, l, e, hn, h1, h2⟩ := slice_trod intC (c := 1) (fun _ => rfl) (fun _ => True) Try.underlying22 (by kernel_rfl) (fun m cs' x' h' => by
    obtain ⟨k, e, -⟩ := DataW.trod_int Try.underlying3 h'
    exact ⟨k, e, trivial⟩) h
  subst hn
  exact ⟨ao, cap, l, e, h1⟩
theorem tubes_trod4 (h : DataW.trod enc Try.prog w base spare held fuel 55 cs = some x) : ∃ (ao : Option Addr) (cap : Nat) (l : List Tube), cs = [.slice ao l.length cap] ∧ SlAt w (.slice ao l.length cap) l.length (l.flatMap Tube.cells) := by
  obtain ⟨ao, n, cap, l, e, hn, h1, h2⟩ := slice_trod Tube.cells (c := 16) (fun _ => rfl) (fun _ => True) Try.underlying55 (by kernel_rfl) (fun m cs' x' h' => by
    obtain ⟨a, e, -⟩ := tube_trod h'
    exact ⟨a, e, trivial⟩) h
  subst hn
  exact ⟨ao, cap, l, e, h1⟩
end
theorem whole_any (P : List Int) (T : List Tube) (v1 v2 : Value) (w : World) (hP : SlAt w v1 P.length (P.flatMap intC)) (hT : SlAt w v2 T.length (T.flatMap Tube.cells)) : Calls Try.prog 5 #[v1, v2] w fun e w' => e = .returned (.bool true) ∧ Grew w w' := by
  by_cases h : 60 < P.length ∨ 60 < T.length ∨ masksCode P ≠ 0 ∨ phasesCode (planR P) T ≠ 0
  · exact whole_err P T v1 v2 w hP hT h
  · have hc : masksCode P = 0 := by omega
    have hp : phasesCode (planR P) T = 0 := by omega
    have e : planR P = planL P := by unfold planR; rw [if_pos hc]
    rw [e] at hp
    exact whole_walk P T v1 v2 w hP hT (by omega) (by omega) hc hp
namespace abortWholeRow
open Go.ChangeShapes Go.WideShapes Go.ChangeAt Go.RowKit
theorem own : ownKnob Try.prog.godebug = none := by kernel_rfl
theorem lifted (os : Os) (started : os.Started) (H : Type) (enc : TypeId × Value → H) :
    ReturnsInHanded {} Try.checked os 5 .any (Rows.abortWholeSpec.pre6 enc Try.prog Try.f5 Rows.abortWholeRow.domain false) (Rows.abortWholeSpec.post enc Try.prog Try.f5 false true false false) := by
  refine returnsInHanded_of_change (C := Try.checked) own started (by kernel_rfl) Try.func5
    (ChangeSpec.witness6 (enc := enc) (C := Try.checked) false ⟨#[], #[.slice none 0 0, .slice none 0 0], []⟩ 8 (by as_aux_lemma => kernel_rfl) (by as_aux_lemma => kernel_rfl) (by as_aux_lemma => kernel_rfl) (by as_aux_lemma => kernel_rfl)) ?_
  intro W base args ds gs before hval0 hW _ _
  have hval : ∀ (j : Nat) t v, Try.f5.params[j]? = some t → args[j]? = some v → Value.okWide Try.prog W .any base t v := hval0
  have hW' := hW
  obtain ⟨p, q, hA0, hV, rfl, hfz, hnd⟩ := hW
  have hA : DataW.TrodAll enc Try.prog W 0 (fun _ => true) true Try.f5.params.toList args.toList ds p := hA0
  rw [Try.params5] at hA hval
  obtain ⟨v0, vs0, d0, ds0, p0, q0, hargs, rfl, rfl, h0, r0⟩ := trodAll_cons hA
  obtain ⟨v1, vs1, d1, ds1, p1, q1, rfl, rfl, rfl, h1, r1⟩ := trodAll_cons r0
  obtain ⟨rfl, rfl, rfl⟩ := trodAll_nil r1
  obtain rfl : args = #[v0, v1] := by cases args; simp_all
  obtain ⟨rfl, rfl⟩ := trodVars_none hV
  obtain ⟨ao0, n0, cap0, rfl⟩ := okWide_slice Try.underlying22 (hval 0 22 v0 rfl rfl)
  obtain ⟨ao1, n1, cap1, rfl⟩ := okWide_slice Try.underlying55 (hval 1 55 v1 rfl rfl)
  obtain ⟨_, h0⟩ := h0
  obtain ⟨_, h1⟩ := h1
  obtain ⟨aoP, capP, P, eP, hP⟩ := ints_trod4 h0
  obtain ⟨aoT, capT, T, eT, hT⟩ := tubes_trod4 h1
  rw [← (by simpa [Value.cells] using eP : Value.slice ao0 n0 cap0 = .slice aoP P.length capP)] at hP
  rw [← (by simpa [Value.cells] using eT : Value.slice ao1 n1 cap1 = .slice aoT T.length capT)] at hT
  refine (whole_any P T _ _ W hP hT).mono fun e W' ⟨he, hg⟩ => ?_
  subst he
  exact ⟨_, rfl, law_post (by kernel_rfl) (by kernel_rfl) rfl rfl Try.underlying4 hW' rfl hg⟩
theorem proved : Rows.AbortWholeSaid :=
  OpenClaim.holds_of_wide 5 Try.f5 rfl rfl rfl rfl rfl rfl rfl ⟨rfl, rfl, rfl, rfl, rfl⟩ rfl rfl rfl rfl rfl (by as_aux_lemma => kernel_rfl) Try.func5 (by as_aux_lemma => kernel_rfl)
    (of_decide_eq_true (by as_aux_lemma => kernel_rfl)) (by unfold Func.isWrapper; first | (rw [if_pos (by decide +kernel)]; kernel_rfl) | (rw [if_neg (by decide +kernel)]; exact ⟨rfl, rfl⟩))
    (fun os started H enc _ => lifted os started H enc)
end abortWholeRow
end Go.Proofs.Ytjnednehcjfkmaa
