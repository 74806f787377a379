/-
  Contracts: slices.IndexFunc, ContainsFunc at arcs (post.checkArcs), post.checkArcs, ullageref13.arcs.
-/
import Derived.Test.YtgjikdhidakloaaModeOk
import Derived.Test.YtgjikdhidakloaaEvery
namespace Go.Proofs.Ytgjikdhidakloaa
open Go.RowKit
set_option maxRecDepth 100000
set_option maxHeartbeats 16000000
/-- The error of the arcs of a flight. -/
def badB (x : Arc × List Pt) : Bool := !(x.1.okB x.2)
def arcsCode (L : Arcs) : Int := if L.any badB = true then 2 else if decide (L.length ≤ 32) && fitB 4096 0 L then 0 else 3
theorem checkArcs1_any (x : Arc × List Pt) (w : World) (hd : DragAt w x.1 x.2) : Calls Try.prog 63 #[.agg #[.int .i64 x.1.time, .int .i64 x.1.step, .int .i64 x.1.thrust.lo, .int .i64 x.1.thrust.hi, .int .i64 x.1.flow.lo, .int .i64 x.1.flow.hi, .int .i64 x.1.dir.x.lo, .int .i64 x.1.dir.x.hi, .int .i64 x.1.dir.y.lo, .int .i64 x.1.dir.y.hi, .int .i64 x.1.dir.z.lo, .int .i64 x.1.dir.z.hi, .slice x.1.drag.ao x.1.drag.n x.1.drag.cap, .int .i64 x.1.drop.lo, .int .i64 x.1.drop.hi]] w fun e w' => e = .returned (.bool (badB x)) ∧ Grew w w' := by
  have HC := Lib.hid (fun w' (g : Grew w w') => flArc_any x.1 x.2 w' (hd.grew g))
  have HB := Lib.hid (show badB x = !(x.1.okB x.2) from rfl)
  clear hd
  obtain ⟨a, l⟩ := x
  generalize badB (a, l) = q at *
  cases h : a.okB l
  · have HC2 := Lib.hid (fun w' g => is_int (show codeB (a.okB l) 2 = 2 by rw [h]; rfl) (HC.out w' g))
    have HB2 := Lib.hid (show q = true by rw [HB.out, h]; rfl)
    clear HC h HB
    go_enter Try.func63, Try.ntmps63
    go_wp2_with (first | (go_at_call 64; (with_reducible refine call_later (HC2.out _ (by repeat (first | with_reducible exact Grew.refl _ | with_reducible apply Grew.alloc | with_reducible apply Grew.later | with_reducible apply Grew.drew | with_reducible apply Grew.store | with_reducible assumption))) ?_); intro u) | ((with_reducible refine wp_region_later ?_ ?_ ?_); (· kernel_rfl); (· kernel_rfl); (repeat (go_big_quiet_step ((first | (go_at_call 64; (with_reducible exact call_quiet (HC2.out _ (by repeat (first | with_reducible exact Grew.refl _ | with_reducible apply Grew.alloc | with_reducible apply Grew.later | with_reducible apply Grew.drew | with_reducible apply Grew.store | with_reducible assumption))))))))); refine wpQuiet_nil ?_; rintro _ ⟨u, rfl⟩))
    go_ret
    exact ⟨ret_bool HB2.out.symm, (by repeat (first | with_reducible exact Grew.refl _ | with_reducible apply Grew.alloc | with_reducible apply Grew.later | with_reducible apply Grew.drew | with_reducible apply Grew.store | with_reducible assumption))⟩
  · have HC2 := Lib.hid (fun w' g => is_int (show codeB (a.okB l) 2 = 0 by rw [h]; rfl) (HC.out w' g))
    have HB2 := Lib.hid (show q = false by rw [HB.out, h]; rfl)
    clear HC h HB
    go_enter Try.func63, Try.ntmps63
    go_wp2_with (first | (go_at_call 64; (with_reducible refine call_later (HC2.out _ (by repeat (first | with_reducible exact Grew.refl _ | with_reducible apply Grew.alloc | with_reducible apply Grew.later | with_reducible apply Grew.drew | with_reducible apply Grew.store | with_reducible assumption))) ?_); intro u) | ((with_reducible refine wp_region_later ?_ ?_ ?_); (· kernel_rfl); (· kernel_rfl); (repeat (go_big_quiet_step ((first | (go_at_call 64; (with_reducible exact call_quiet (HC2.out _ (by repeat (first | with_reducible exact Grew.refl _ | with_reducible apply Grew.alloc | with_reducible apply Grew.later | with_reducible apply Grew.drew | with_reducible apply Grew.store | with_reducible assumption))))))))); refine wpQuiet_nil ?_; rintro _ ⟨u, rfl⟩))
    go_ret
    exact ⟨ret_bool HB2.out.symm, (by repeat (first | with_reducible exact Grew.refl _ | with_reducible apply Grew.alloc | with_reducible apply Grew.later | with_reducible apply Grew.drew | with_reducible apply Grew.store | with_reducible assumption))⟩
theorem idxArc_any (L : Arcs) (v : Value) (w : World) (hd : ArcsAt w v L) : Calls Try.prog 84 #[v, .func (.func 63) #[] #[]] w fun e w' => e = .returned (.int .i64 (idxGo badB 0 L)) ∧ Grew w w' := by
  obtain ⟨⟨ao, cap, rfl, hm, hc⟩, hdr⟩ := hd
  unfold maxLen at hm
  have HcA := Lib.hid (SlAt.elem (f := arcCells) (c := 15) (fun _ => rfl) (by omega) hc)
  have Hdr := Lib.hid hdr
  clear hc hdr
  go_enter Try.func84, Try.ntmps84
  go_wp2
  go_loopw [8] (fun t wr => ∃ k : Nat, t = .int .i64 k ∧ k ≤ L.length ∧ Hid (idxGo badB 0 L = idxGo badB k (L.drop k)) ∧ Grew w wr) (fun t _ => L.length - (intOf t).toNat)
  case atStart => exact ⟨0, rfl, by omega, Lib.hid rfl, (by repeat (first | with_reducible exact Grew.refl _ | with_reducible apply Grew.alloc | with_reducible apply Grew.later | with_reducible apply Grew.drew | with_reducible apply Grew.store | with_reducible assumption))⟩
  case round =>
    obtain ⟨k, rfl, hk, Hs, hg⟩ := hrel
    obtain ⟨z, rfl⟩ := later_of hg
    clear hg
    by_cases hlt : k < L.length
    · skip
      obtain ⟨b1, o1, e1, i1, hd1, hd2⟩ := HcA.out k hlt
      have hc0 := hd1 _ rfl
      have hc1 := hd2 1 _ rfl
      have hc2 := hd2 2 _ rfl
      have hc3 := hd2 3 _ rfl
      have hc4 := hd2 4 _ rfl
      have hc5 := hd2 5 _ rfl
      have hc6 := hd2 6 _ rfl
      have hc7 := hd2 7 _ rfl
      have hc8 := hd2 8 _ rfl
      have hc9 := hd2 9 _ rfl
      have hc10 := hd2 10 _ rfl
      have hc11 := hd2 11 _ rfl
      have hc12 := hd2 12 _ rfl
      have hc13 := hd2 13 _ rfl
      have hc14 := hd2 14 _ rfl
      clear hd1 hd2
      have i1 : BlockIn w b1 := ⟨i1⟩
      obtain ⟨hdr, ht, hst⟩ := Hdr.out _ (List.getElem_mem hlt)
      have Hd := Lib.hid (idxGo_drop badB L k hlt)
      have HP := Lib.hid (fun w' (g : Grew w w') => checkArcs1_any L[k] w' (hdr.grew g))
      clear hdr ht hst
      cases e1
      generalize L[k] = x at *
      cases hy : badB x
      · have HC := Lib.hid (fun W h => is_bool hy (HP.out W h))
        have Hn := Lib.hid (Hs.out.trans (Hd.out.trans (by rw [hy])))
        clear hy HP Hd
        go_wp2_with (first | (go_at_call 63; go_loud (refine call_later (HC.out _ (by repeat (first | with_reducible exact Grew.refl _ | with_reducible apply Grew.alloc | with_reducible apply Grew.later | with_reducible apply Grew.drew | with_reducible apply Grew.store | with_reducible assumption))) ?_; intro u)))
        go_roundw
        case rel => exact ⟨k + 1, by go_num, by omega, Hn, (by repeat (first | with_reducible exact Grew.refl _ | with_reducible apply Grew.alloc | with_reducible apply Grew.later | with_reducible apply Grew.drew | with_reducible apply Grew.store | with_reducible assumption))⟩
        case measure => simp [intOf]; omega
      · have HC := Lib.hid (fun W h => is_bool hy (HP.out W h))
        have Hn := Lib.hid (Hs.out.trans (Hd.out.trans (by rw [hy])))
        clear hy HP Hd
        go_wp2_with (first | (go_at_call 63; go_loud (refine call_later (HC.out _ (by repeat (first | with_reducible exact Grew.refl _ | with_reducible apply Grew.alloc | with_reducible apply Grew.later | with_reducible apply Grew.drew | with_reducible apply Grew.store | with_reducible assumption))) ?_; intro u)))
        go_ret
        exact ⟨ret_int Hn.out.symm, (by repeat (first | with_reducible exact Grew.refl _ | with_reducible apply Grew.alloc | with_reducible apply Grew.later | with_reducible apply Grew.drew | with_reducible apply Grew.store | with_reducible assumption))⟩
    · have Hn := Lib.hid (Hs.out.trans (idxGo_end badB L k (by omega)))
      go_wp2
      go_ret
      exact ⟨ret_int Hn.out.symm, (by repeat (first | with_reducible exact Grew.refl _ | with_reducible apply Grew.alloc | with_reducible apply Grew.later | with_reducible apply Grew.drew | with_reducible apply Grew.store | with_reducible assumption))⟩
theorem containsArc_any (L : Arcs) (v : Value) (w : World) (hd : ArcsAt w v L) : Calls Try.prog 62 #[v, .func (.func 63) #[] #[]] w fun e w' => e = .returned (.bool (L.any badB)) ∧ Grew w w' := by
  have hb := idxGo_any badB L 0
  have hI := idxArc_any L v w hd
  obtain ⟨⟨ao, cap, rfl, -, -⟩, -⟩ := hd
  generalize idxGo badB 0 L = z at *
  have H1 := Lib.hid hb.1
  have HI := Lib.hid hI
  clear hb hI
  go_enter Try.func62, Try.ntmps62
  go_wp2_with (first | (go_at_call 84; refine call_later HI.out ?_; intro u))
  go_ret
  exact ⟨ret_bool H1.out, (by repeat (first | with_reducible exact Grew.refl _ | with_reducible apply Grew.alloc | with_reducible apply Grew.later | with_reducible apply Grew.drew | with_reducible apply Grew.store | with_reducible assumption))⟩
theorem any_bad_get {L : Arcs} (h : L.any badB = false) (k : Nat) (hk : k < L.length) : L[k].1.okB L[k].2 = true := by
  have h1 := List.any_eq_false.1 h L[k] (List.getElem_mem hk)
  unfold badB at h1
  simpa using h1
theorem postArcs_any (L : Arcs) (v : Value) (w : World) (hd : ArcsAt w v L) : Calls Try.prog 37 #[v] w fun e w' => e = .returned (.int .i64 (arcsCode L)) ∧ Grew w w' := by
  have HK := Lib.hid (containsArc_any L v w hd)
  have hn : ∃ ao cap, v = .slice ao L.length cap ∧ L.length ≤ 9223372036854775807 := by
    obtain ⟨⟨ao, cap, rfl, hm, -⟩, -⟩ := hd
    exact ⟨ao, cap, rfl, by unfold maxLen at hm; omega⟩
  obtain ⟨⟨ao0, cap0, e0, hm, hc⟩, hdr⟩ := hd
  unfold maxLen at hm
  have HcA := Lib.hid (SlAt.elem (f := arcCells) (c := 15) (fun _ => rfl) (by omega) hc)
  have Hdr := Lib.hid hdr
  clear hc hdr hn
  subst e0
  cases hb : L.any badB
  rotate_left
  · have HK2 := Lib.hid (is_bool hb HK.out)
    have HR := Lib.hid (show arcsCode L = 2 by unfold arcsCode; rw [if_pos hb])
    clear HK hb
    go_enter Try.func37, Try.ntmps37
    go_wp2_with (first | (go_at_call 62; refine call_later HK2.out ?_; intro u))
    go_ret
    exact ⟨ret_int HR.out.symm, (by repeat (first | with_reducible exact Grew.refl _ | with_reducible apply Grew.alloc | with_reducible apply Grew.later | with_reducible apply Grew.drew | with_reducible apply Grew.store | with_reducible assumption))⟩
  · have HK2 := Lib.hid (is_bool hb HK.out)
    have HR := Lib.hid (show arcsCode L = if decide (L.length ≤ 32) && fitB 4096 0 L then 0 else 3 by unfold arcsCode; rw [if_neg (by rw [hb]; decide)])
    clear HK hb
    go_enter Try.func37, Try.ntmps37
    go_wp2_with (first | (go_at_call 62; refine call_later HK2.out ?_; intro u0))
    go_loopw [3, 12] (fun q t wr => ∃ (k : Nat) (s : Int), t = .int .i64 k ∧ q = .int .i64 s ∧ k ≤ L.length ∧ k ≤ 32 ∧ 0 ≤ s ∧ s ≤ 4096 ∧ fitB 4096 0 L = fitB 4096 s (L.drop k) ∧ Grew w wr) (fun _ t _ => L.length - (intOf t).toNat)
    case atStart => exact ⟨0, 0, rfl, rfl, by omega, by omega, by omega, by omega, rfl, (by repeat (first | with_reducible exact Grew.refl _ | with_reducible apply Grew.alloc | with_reducible apply Grew.later | with_reducible apply Grew.drew | with_reducible apply Grew.store | with_reducible assumption))⟩
    case round =>
      obtain ⟨k, s, rfl, rfl, hk, hk32, hs1, hs2, hfit, hg⟩ := hrel
      obtain ⟨z, rfl⟩ := later_of hg
      clear hg
      by_cases hlt : k < L.length
      · skip
        obtain ⟨b1, o1, e1, i1, hd1, hd2⟩ := HcA.out k hlt
        have hc0 := hd1 _ rfl
        have hc1 := hd2 1 _ rfl
        have hc2 := hd2 2 _ rfl
        have hc3 := hd2 3 _ rfl
        have hc4 := hd2 4 _ rfl
        have hc5 := hd2 5 _ rfl
        have hc6 := hd2 6 _ rfl
        have hc7 := hd2 7 _ rfl
        have hc8 := hd2 8 _ rfl
        have hc9 := hd2 9 _ rfl
        have hc10 := hd2 10 _ rfl
        have hc11 := hd2 11 _ rfl
        have hc12 := hd2 12 _ rfl
        have hc13 := hd2 13 _ rfl
        have hc14 := hd2 14 _ rfl
        clear hd1 hd2
        have i1 : BlockIn w b1 := ⟨i1⟩
        obtain ⟨hdr, ht, hst⟩ := Hdr.out _ (List.getElem_mem hlt)
        have HS := Lib.hid (fun w' (g : Grew w w') => flSteps_any L[k].1 L[k].2 w' (hdr.grew g) ht hst)
        clear hdr ht hst
        rw [drop_cons L k hlt, fitB] at hfit
        have Hfit := Lib.hid hfit
        clear hfit
        have hb := stepsNum_bd L[k].1 L[k].2
        obtain ⟨hb1, hb2⟩ := hb
        cases e1
        generalize L[k] = x at *
        generalize stepsNum x.1 x.2 = sn at *
        rcases prop_or (stepsCode x.1 x.2 = 0) with h11 | h11
        · have h11' : (stepsCode x.1 x.2 != 0) = true := by simp [h11]
          have Hr := Lib.hid (show arcsCode L = 3 by rw [HR.out, Hfit.out, decide_eq_false h11]; simp)
          clear h11 Hfit
          generalize stepsCode x.1 x.2 = sc at *
          go_wp2_with (first | (go_at_call 65; (with_reducible refine call_later (HS.out _ (by repeat (first | with_reducible exact Grew.refl _ | with_reducible apply Grew.alloc | with_reducible apply Grew.later | with_reducible apply Grew.drew | with_reducible apply Grew.store | with_reducible assumption))) ?_); intro u) | ((with_reducible refine wp_region_later ?_ ?_ ?_); (· kernel_rfl); (· kernel_rfl); (repeat (go_big_quiet_step ((first | (go_at_call 65; (with_reducible exact call_quiet (HS.out _ (by repeat (first | with_reducible exact Grew.refl _ | with_reducible apply Grew.alloc | with_reducible apply Grew.later | with_reducible apply Grew.drew | with_reducible apply Grew.store | with_reducible assumption))))))))); refine wpQuiet_nil ?_; rintro _ ⟨u, rfl⟩))
          go_ret
          exact ⟨ret_int Hr.out.symm, (by repeat (first | with_reducible exact Grew.refl _ | with_reducible apply Grew.alloc | with_reducible apply Grew.later | with_reducible apply Grew.drew | with_reducible apply Grew.store | with_reducible assumption))⟩
        · have h11' : (stepsCode x.1 x.2 != 0) = false := by simp [h11]
          have Hfit2 := Lib.hid (show fitB 4096 0 L = (decide (s + sn ≤ 4096) && fitB 4096 (s + sn) (L.drop (k + 1))) by rw [Hfit.out, decide_eq_true h11]; simp)
          clear h11 Hfit
          generalize stepsCode x.1 x.2 = sc at *
          by_cases h12 : s + sn ≤ 4096
          · by_cases h13 : k < 32
            · have hf := Hfit2.out
              rw [decide_eq_true h12, Bool.true_and] at hf
              have Hf := Lib.hid hf
              clear hf Hfit2
              go_wp2_with (first | (go_at_call 65; (with_reducible refine call_later (HS.out _ (by repeat (first | with_reducible exact Grew.refl _ | with_reducible apply Grew.alloc | with_reducible apply Grew.later | with_reducible apply Grew.drew | with_reducible apply Grew.store | with_reducible assumption))) ?_); intro u) | ((with_reducible refine wp_region_later ?_ ?_ ?_); (· kernel_rfl); (· kernel_rfl); (repeat (go_big_quiet_step ((first | (go_at_call 65; (with_reducible exact call_quiet (HS.out _ (by repeat (first | with_reducible exact Grew.refl _ | with_reducible apply Grew.alloc | with_reducible apply Grew.later | with_reducible apply Grew.drew | with_reducible apply Grew.store | with_reducible assumption))))))))); refine wpQuiet_nil ?_; rintro _ ⟨u, rfl⟩))
              go_roundw
              case rel => exact ⟨k + 1, s + sn, by go_num, rfl, by omega, by omega, by omega, by omega, Hf.out, (by repeat (first | with_reducible exact Grew.refl _ | with_reducible apply Grew.alloc | with_reducible apply Grew.later | with_reducible apply Grew.drew | with_reducible apply Grew.store | with_reducible assumption))⟩
              case measure => simp [intOf]; omega
            · have Hr := Lib.hid (show arcsCode L = 3 by rw [HR.out, decide_eq_false (by omega)]; simp)
              have h13' : (32 : Int) ≤ k := by omega
              clear Hfit2
              go_wp2_with (first | (go_at_call 65; (with_reducible refine call_later (HS.out _ (by repeat (first | with_reducible exact Grew.refl _ | with_reducible apply Grew.alloc | with_reducible apply Grew.later | with_reducible apply Grew.drew | with_reducible apply Grew.store | with_reducible assumption))) ?_); intro u) | ((with_reducible refine wp_region_later ?_ ?_ ?_); (· kernel_rfl); (· kernel_rfl); (repeat (go_big_quiet_step ((first | (go_at_call 65; (with_reducible exact call_quiet (HS.out _ (by repeat (first | with_reducible exact Grew.refl _ | with_reducible apply Grew.alloc | with_reducible apply Grew.later | with_reducible apply Grew.drew | with_reducible apply Grew.store | with_reducible assumption))))))))); refine wpQuiet_nil ?_; rintro _ ⟨u, rfl⟩))
              go_ret
              exact ⟨ret_int Hr.out.symm, (by repeat (first | with_reducible exact Grew.refl _ | with_reducible apply Grew.alloc | with_reducible apply Grew.later | with_reducible apply Grew.drew | with_reducible apply Grew.store | with_reducible assumption))⟩
          · have Hr := Lib.hid (show arcsCode L = 3 by rw [HR.out, Hfit2.out, decide_eq_false h12]; simp)
            have h12' : 4096 < s + sn := by omega
            clear Hfit2
            go_wp2_with (first | (go_at_call 65; (with_reducible refine call_later (HS.out _ (by repeat (first | with_reducible exact Grew.refl _ | with_reducible apply Grew.alloc | with_reducible apply Grew.later | with_reducible apply Grew.drew | with_reducible apply Grew.store | with_reducible assumption))) ?_); intro u) | ((with_reducible refine wp_region_later ?_ ?_ ?_); (· kernel_rfl); (· kernel_rfl); (repeat (go_big_quiet_step ((first | (go_at_call 65; (with_reducible exact call_quiet (HS.out _ (by repeat (first | with_reducible exact Grew.refl _ | with_reducible apply Grew.alloc | with_reducible apply Grew.later | with_reducible apply Grew.drew | with_reducible apply Grew.store | with_reducible assumption))))))))); refine wpQuiet_nil ?_; rintro _ ⟨u, rfl⟩))
            go_ret
            exact ⟨ret_int Hr.out.symm, (by repeat (first | with_reducible exact Grew.refl _ | with_reducible apply Grew.alloc | with_reducible apply Grew.later | with_reducible apply Grew.drew | with_reducible apply Grew.store | with_reducible assumption))⟩
      · have Hr := Lib.hid (show arcsCode L = 0 by rw [HR.out, hfit, List.drop_eq_nil_of_le (by omega), decide_eq_true (by omega)]; rfl)
        clear hfit
        go_wp2
        go_ret
        exact ⟨ret_int Hr.out.symm, (by repeat (first | with_reducible exact Grew.refl _ | with_reducible apply Grew.alloc | with_reducible apply Grew.later | with_reducible apply Grew.drew | with_reducible apply Grew.store | with_reducible assumption))⟩
end Go.Proofs.Ytgjikdhidakloaa
