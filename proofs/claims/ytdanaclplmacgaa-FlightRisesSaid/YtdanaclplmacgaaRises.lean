/-
  Contracts: flight.Rises.
-/
import Derived.Test.YtdanaclplmacgaaRisesB
namespace Go.Proofs.Ytdanaclplmacgaa
open Go.RowKit Go.Shelf
set_option maxRecDepth 100000
set_option maxHeartbeats 8000000
theorem flRises_any (p : Planet) (l : List Tube) (h : Int) [hp : Pl64 p] (hT : ∀ t ∈ l, Tb64 t) (ao : Option Addr) (cap : Nat) (w : World) (hs : SlAt w (.slice ao l.length cap) l.length (l.flatMap Tube.cells)) :
    Calls Try.prog 58 #[.agg #[.int .i64 p.mu.lo, .int .i64 p.mu.hi, .int .i64 p.radius.lo, .int .i64 p.radius.hi, .int .i64 p.oblate.lo, .int .i64 p.oblate.hi, .int .i64 p.spin.lo, .int .i64 p.spin.hi, .int .i64 p.pull.x.lo, .int .i64 p.pull.x.hi, .int .i64 p.pull.y.lo, .int .i64 p.pull.y.hi, .int .i64 p.pull.z.lo, .int .i64 p.pull.z.hi], .slice ao l.length cap, .int .i64 h] w (RetRz (risesR p l h) w) := by
  cases h1 : p.okB
  · as_aux_lemma =>
    have HR := Lib.hid (show (⟨0, 0, 2⟩ : Rz) = risesR p l h by unfold risesR; rw [h1]; rfl)
    go_enter Try.func58, Try.ntmps58
    go_wp2_with (first | (go_at_call 34; (with_reducible refine call_later (flPlanet_no p h1 _) ?_); intro u) | ((with_reducible refine wp_region_later ?_ ?_ ?_); (· kernel_rfl); (· kernel_rfl); (repeat (go_big_quiet_step ((first | (go_at_call 34; (with_reducible exact call_quiet (flPlanet_no p h1 _))))))); refine wpQuiet_nil ?_; rintro _ ⟨u, rfl⟩))
    go_ret3
    exact ⟨ret_rz HR.out, (by repeat (first | with_reducible exact Grew.refl _ | with_reducible apply Grew.alloc | with_reducible apply Grew.later | with_reducible apply Grew.drew | with_reducible apply Grew.store | with_reducible assumption))⟩
  cases h2 : numB h
  · as_aux_lemma =>
    have HR := Lib.hid (show (⟨0, 0, 2⟩ : Rz) = risesR p l h by unfold risesR; rw [h1, h2]; rfl)
    go_enter Try.func58, Try.ntmps58
    go_wp2_with (first | (go_at_call 34; (with_reducible refine call_later (flPlanet_yes p h1 _) ?_); intro u) | (go_at_call 96; (with_reducible refine call_later (is_bool h2 (flValid_any h _)) ?_); intro u) | ((with_reducible refine wp_region_later ?_ ?_ ?_); (· kernel_rfl); (· kernel_rfl); (repeat (go_big_quiet_step ((first | (go_at_call 34; (with_reducible exact call_quiet (flPlanet_yes p h1 _))) | (go_at_call 96; (with_reducible exact call_quiet (is_bool h2 (flValid_any h _)))))))); refine wpQuiet_nil ?_; rintro _ ⟨u, rfl⟩))
    go_ret3
    exact ⟨ret_rz HR.out, (by repeat (first | with_reducible exact Grew.refl _ | with_reducible apply Grew.alloc | with_reducible apply Grew.later | with_reducible apply Grew.drew | with_reducible apply Grew.store | with_reducible assumption))⟩
  have HR := Lib.hid (show risesR p l h = if l.all Tube.okB = true then riseScan p h 0 (-1) (-1) l else ⟨0, 0, 2⟩ by unfold risesR; rw [h1, h2]; rfl)
  have hm := hs.len_le
  unfold maxLen at hm
  obtain ⟨ao', cap', e1, -, hx⟩ := hs
  cases e1
  have HE := Lib.hid (fun k hk => tube_cells hx k hk)
  have HT := Lib.hid hT
  clear hx hT
  go_enter Try.func58, Try.ntmps58
  go_wp2_with (first | (go_at_call 34; (with_reducible refine call_later (flPlanet_yes p h1 _) ?_); intro u) | (go_at_call 96; (with_reducible refine call_later (is_bool h2 (flValid_any h _)) ?_); intro u) | ((with_reducible refine wp_region_later ?_ ?_ ?_); (· kernel_rfl); (· kernel_rfl); (repeat (go_big_quiet_step ((first | (go_at_call 34; (with_reducible exact call_quiet (flPlanet_yes p h1 _))) | (go_at_call 96; (with_reducible exact call_quiet (is_bool h2 (flValid_any h _)))))))); refine wpQuiet_nil ?_; rintro _ ⟨u, rfl⟩))
  go_loopw [26] (fun t wr => ∃ k : Nat, t = .int .i64 k ∧ k ≤ l.length ∧ (l.take k).all Tube.okB = true ∧ Grew u.world wr) (fun t _ => l.length - (intOf t).toNat)
  case atStart => exact ⟨0, rfl, by omega, rfl, (by repeat (first | with_reducible exact Grew.refl _ | with_reducible apply Grew.alloc | with_reducible apply Grew.later | with_reducible apply Grew.drew | with_reducible apply Grew.store | with_reducible assumption))⟩
  case round =>
    obtain ⟨k, rfl, hk, hall, hg⟩ := hrel
    obtain ⟨z, rfl⟩ := later_of hg
    clear hg
    have Hall := Lib.hid hall
    clear hall
    by_cases hlt : k < l.length
    · obtain ⟨b1, o1, rfl, i1, hd1, hd2⟩ := HE.out k hlt
      have hc0 := hd1
      have hc1 := hd2 1 _ rfl
      have hc2 := hd2 2 _ rfl
      have hc3 := hd2 3 _ rfl
      have hc4 := hd2 4 _ rfl
      have hc5 := hd2 5 _ rfl
      have hc6 := hd2 6 _ rfl
      have hc7 := hd2 7 _ rfl
      have hc8 := hd2 8 _ rfl
      have hc9 := hd2 9 _ rfl
      have hc10 := hd2 10 _ rfl
      have hc11 := hd2 11 _ rfl
      have hc12 := hd2 12 _ rfl
      have hc13 := hd2 13 _ rfl
      have hc14 := hd2 14 _ rfl
      have hc15 := hd2 15 _ rfl
      clear hd1 hd2
      have Hno := Lib.hid (fun h : (l[k]).okB = false => all_false Tube.okB l k hlt h)
      have Hyes := Lib.hid (fun h : (l[k]).okB = true => all_take_succ Tube.okB l k hlt Hall.out h)
      generalize l[k] = t at *
      cases hx : t.okB
      · as_aux_lemma =>
        go_wp2_with (first | (go_at_call 127; (with_reducible refine call_later (flTube_no t hx _) ?_); intro u) | ((with_reducible refine wp_region_later ?_ ?_ ?_); (· kernel_rfl); (· kernel_rfl); (repeat (go_big_quiet_step ((first | (go_at_call 127; (with_reducible exact call_quiet (flTube_no t hx _))))))); refine wpQuiet_nil ?_; rintro _ ⟨u, rfl⟩))
        go_ret3
        exact ⟨ret_rz (by rw [HR.out, Hno.out hx]; rfl), (by repeat (first | with_reducible exact Grew.refl _ | with_reducible apply Grew.alloc | with_reducible apply Grew.later | with_reducible apply Grew.drew | with_reducible apply Grew.store | with_reducible assumption))⟩
      · as_aux_lemma =>
        go_wp2_with (first | (go_at_call 127; (with_reducible refine call_later (flTube_yes t hx _) ?_); intro u) | ((with_reducible refine wp_region_later ?_ ?_ ?_); (· kernel_rfl); (· kernel_rfl); (repeat (go_big_quiet_step ((first | (go_at_call 127; (with_reducible exact call_quiet (flTube_yes t hx _))))))); refine wpQuiet_nil ?_; rintro _ ⟨u, rfl⟩))
        go_roundw
        case rel => exact ⟨k + 1, by go_num, by omega, Hyes.out hx, (by repeat (first | with_reducible exact Grew.refl _ | with_reducible apply Grew.alloc | with_reducible apply Grew.later | with_reducible apply Grew.drew | with_reducible apply Grew.store | with_reducible assumption))⟩
        case measure => simp [intOf]; omega
    · have hf := all_true Tube.okB l k (by omega) Hall.out
      have HR2 := Lib.hid (show risesR p l h = riseScan p h 0 (-1) (-1) l by rw [HR.out, if_pos hf])
      clear hf
      obtain rfl : k = l.length := by omega
      go_wp2
      go_loopw [6, 7, 38] (fun m q t wr => ∃ (k : Nat) (may sure : Int), t = .int .i64 k ∧ m = .int .i64 may ∧ q = .int .i64 sure ∧ k ≤ l.length ∧ -1 ≤ may ∧ may ≤ k ∧ -1 ≤ sure ∧ sure ≤ k ∧ Hid (riseScan p h 0 (-1) (-1) l = riseScan p h k may sure (l.drop k)) ∧ Grew u.world wr) (fun _ _ t _ => l.length - (intOf t).toNat)
      case atStart => exact ⟨0, -1, -1, rfl, rfl, rfl, by omega, by omega, by omega, by omega, by omega, Lib.hid rfl, (by repeat (first | with_reducible exact Grew.refl _ | with_reducible apply Grew.alloc | with_reducible apply Grew.later | with_reducible apply Grew.drew | with_reducible apply Grew.store | with_reducible assumption))⟩
      case round =>
        obtain ⟨k, may, sure, rfl, rfl, rfl, hk, m1, m2, s1, s2, Hsc, hg⟩ := hrel
        obtain ⟨y, rfl⟩ := later_of hg
        clear hg
        by_cases hlt : k < l.length
        · obtain ⟨b1, o1, rfl, i1, hd1, hd2⟩ := HE.out k hlt
          have hc0 := hd1
          have hc1 := hd2 1 _ rfl
          have hc2 := hd2 2 _ rfl
          have hc3 := hd2 3 _ rfl
          have hc4 := hd2 4 _ rfl
          have hc5 := hd2 5 _ rfl
          have hc6 := hd2 6 _ rfl
          have hc7 := hd2 7 _ rfl
          have hc8 := hd2 8 _ rfl
          have hc9 := hd2 9 _ rfl
          have hc10 := hd2 10 _ rfl
          have hc11 := hd2 11 _ rfl
          have hc12 := hd2 12 _ rfl
          have hc13 := hd2 13 _ rfl
          have hc14 := hd2 14 _ rfl
          have hc15 := hd2 15 _ rfl
          clear hd1 hd2
          have hT := HT.out _ (List.getElem_mem hlt)
          have hsc := Hsc.out
          rw [List.drop_eq_getElem_cons hlt, riseScan] at hsc
          generalize l[k] = t at *
          by_cases he : (heightR p t.p).e = 0
          · as_aux_lemma =>
            rw [if_pos he] at hsc
            have he' : ((heightR p t.p).e != 0) = false := by simp [he]
            clear he
            have Hsc2 := Lib.hid hsc
            clear hsc
            go_wp2_with (first | (go_at_call 128; (with_reducible refine call_later (flHeight_any p t.p _) ?_); intro u) | ((with_reducible refine wp_region_later ?_ ?_ ?_); (· kernel_rfl); (· kernel_rfl); (repeat (go_big_quiet_step ((first | (go_at_call 128; (with_reducible exact call_quiet (flHeight_any p t.p _))))))); refine wpQuiet_nil ?_; rintro _ ⟨u, rfl⟩))
            all_goals
              go_roundw
              case rel =>
                refine ⟨k + 1, _, _, by go_num, rfl, rfl, by omega, ?_, ?_, ?_, ?_, Lib.hid (by
                  rw [Hsc2.out]
                  first
                  | (rw [if_pos (by simp; omega), if_pos (by simp; omega)]; rfl)
                  | (rw [if_pos (by simp; omega), if_neg (by simp; omega)]; rfl)
                  | (rw [if_neg (by simp; omega), if_pos (by simp; omega)]; rfl)
                  | (rw [if_neg (by simp; omega), if_neg (by simp; omega)]; rfl)), (by repeat (first | with_reducible exact Grew.refl _ | with_reducible apply Grew.alloc | with_reducible apply Grew.later | with_reducible apply Grew.drew | with_reducible apply Grew.store | with_reducible assumption))⟩ <;> omega
              case measure => simp [intOf]; omega
          · as_aux_lemma =>
            rw [if_neg he] at hsc
            have he' : ((heightR p t.p).e != 0) = true := by simp [he]
            have Hs2 := Lib.hid hsc
            clear he hsc
            go_wp2_with (first | (go_at_call 128; (with_reducible refine call_later (flHeight_any p t.p _) ?_); intro u) | ((with_reducible refine wp_region_later ?_ ?_ ?_); (· kernel_rfl); (· kernel_rfl); (repeat (go_big_quiet_step ((first | (go_at_call 128; (with_reducible exact call_quiet (flHeight_any p t.p _))))))); refine wpQuiet_nil ?_; rintro _ ⟨u, rfl⟩))
            go_ret3
            exact ⟨ret_rz (by rw [HR2.out, Hs2.out]), (by repeat (first | with_reducible exact Grew.refl _ | with_reducible apply Grew.alloc | with_reducible apply Grew.later | with_reducible apply Grew.drew | with_reducible apply Grew.store | with_reducible assumption))⟩
        · have hk' : k = l.length := by omega
          have hsc := Hsc.out
          rw [hk', List.drop_length, riseScan] at hsc
          by_cases hm0 : may < 0
          · as_aux_lemma =>
            rw [if_pos hm0] at hsc
            have Hs2 := Lib.hid hsc
            clear hsc hk'
            go_wp2
            go_ret3
            exact ⟨ret_rz (by rw [HR2.out, Hs2.out]), (by repeat (first | with_reducible exact Grew.refl _ | with_reducible apply Grew.alloc | with_reducible apply Grew.later | with_reducible apply Grew.drew | with_reducible apply Grew.store | with_reducible assumption))⟩
          · as_aux_lemma =>
            rw [if_neg hm0] at hsc
            have Hs2 := Lib.hid hsc
            clear hsc hk'
            go_wp2
            go_ret3
            exact ⟨ret_rz (by rw [HR2.out, Hs2.out]), (by repeat (first | with_reducible exact Grew.refl _ | with_reducible apply Grew.alloc | with_reducible apply Grew.later | with_reducible apply Grew.drew | with_reducible apply Grew.store | with_reducible assumption))⟩
end Go.Proofs.Ytdanaclplmacgaa
