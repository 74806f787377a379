/-
  Contracts: ullageref01's Root, list, Norm.
-/
import Derived.Test.YtochpnomfedhoaaGreatRefMul
import Derived.Test.YtochpnomfedhoaaGreatNorm
namespace Go.Proofs.YtochpnomfedhoaaGreat
open Go.RowKit Go.Shelf
set_option maxRecDepth 100000
set_option maxHeartbeats 2000000
theorem rootAt_sq (k : Nat) (r x : Int) (h : r * r ≤ x) : rootAt k r x * rootAt k r x ≤ x := by
  induction k generalizing r with
  | zero => exact h
  | succ k ih =>
    unfold rootAt
    split
    · exact ih _ (by assumption)
    · exact ih _ h
theorem rootZ_sq (x : Int) (h : 0 ≤ x) : rootZ x * rootZ x ≤ x := rootAt_sq 49 0 x (by omega)
theorem rootUp_less (x : Int) (h : 0 ≤ x) : rootUp x = if decide (rootZ x * rootZ x < x) then rootZ x + 1 else rootZ x := by
  have := rootZ_sq x h
  unfold rootUp
  by_cases e : rootZ x * rootZ x = x
  · rw [if_pos e, if_neg (by simp; omega)]
  · rw [if_neg e, if_pos (by simp; omega)]
theorem rRoot_any (a : Sp) [ha : S64 a] (w : World) : Calls Tryz.prog 104 #[.agg #[.int .i64 a.lo, .int .i64 a.hi]] w fun e w' => e = .returned (.tuple #[.agg #[.int .i64 (rootR a).s.lo, .int .i64 (rootR a).s.hi], .int .i64 (rootR a).e]) ∧ Grew w w' := by
  cases hk : a.okB
  · have Hf := Lib.hid (show errR 2 = rootR a by unfold rootR; rw [hk]; rfl)
    go_enter Tryz.func104, Tryz.ntmps104
    go_wp2_with (first | (go_at_call 33; (with_reducible refine call_later (rCheck_no a hk _) ?_); intro u) | ((with_reducible refine wp_region_later ?_ ?_ ?_); (· kernel_rfl); (· kernel_rfl); (repeat (go_big_quiet_step ((first | (go_at_call 33; (with_reducible exact call_quiet (rCheck_no a hk _))))))); refine wpQuiet_nil ?_; rintro _ ⟨u, rfl⟩))
    refine bodyPost_ret (by (simp [results, Tryz.results104, go_sem] <;> rfl)) rfl ?_
    exact ⟨ret_err Hf.out rfl, (by repeat (first | with_reducible exact Grew.refl _ | with_reducible apply Grew.alloc | with_reducible apply Grew.later | with_reducible apply Grew.drew | with_reducible apply Grew.store | with_reducible assumption))⟩
  · have h1 := okB_num hk
    have h2 := ha.lo.2
    have h3 := ha.hi.2
    by_cases hn : a.hi < 0
    · have Hf := Lib.hid (show errR 4 = rootR a by unfold rootR; rw [hk, if_pos hn]; rfl)
      go_enter Tryz.func104, Tryz.ntmps104
      go_wp2_with (first | (go_at_call 33; (with_reducible refine call_later (rCheck_yes a hk _) ?_); intro u) | ((with_reducible refine wp_region_later ?_ ?_ ?_); (· kernel_rfl); (· kernel_rfl); (repeat (go_big_quiet_step ((first | (go_at_call 33; (with_reducible exact call_quiet (rCheck_yes a hk _))))))); refine wpQuiet_nil ?_; rintro _ ⟨u, rfl⟩))
      refine bodyPost_ret (by (simp [results, Tryz.results104, go_sem] <;> rfl)) rfl ?_
      exact ⟨ret_err Hf.out rfl, (by repeat (first | with_reducible exact Grew.refl _ | with_reducible apply Grew.alloc | with_reducible apply Grew.later | with_reducible apply Grew.drew | with_reducible apply Grew.store | with_reducible assumption))⟩
    · have Hf := Lib.hid (show (⟨⟨rootZ (imax a.lo 0 * 4294967296), rootUp (a.hi * 4294967296)⟩, 0⟩ : Res) = rootR a by unfold rootR; rw [hk, if_neg hn]; rfl)
      obtain ⟨h11, h12, h13⟩ := h1
      obtain ⟨hr21, hr22⟩ := rootZ_bd (a.hi * 4294967296)
      have Hq := Lib.hid (rootUp_less (a.hi * 4294967296) (by omega))
      obtain ⟨m, hm⟩ : ∃ m, m = imax a.lo 0 := ⟨_, rfl⟩
      have hm0 : 0 ≤ m ∧ m ≤ 9223372036854775807 := by rw [hm]; unfold imax; split <;> omega
      obtain ⟨hm1, hm2⟩ := hm0
      have Hm := Lib.hid hm
      rw [← hm] at Hf
      have HW1 := Lib.hid (fun w => wide_any m ⟨by omega, hm2⟩ w)
      have HU1 := Lib.hid (fun w => wUp32_any m (by omega) w)
      have HW2 := Lib.hid (fun w => wide_any a.hi ⟨by omega, h3⟩ w)
      have HU2 := Lib.hid (fun w => wUp32_any a.hi (by omega) w)
      have HR1 := Lib.hid (fun w => wRoot_any (m * 4294967296) (by omega) (by omega) w)
      have HR2 := Lib.hid (fun w => wRoot_any (a.hi * 4294967296) (by omega) (by omega) w)
      have hsq := prod_bd (u := rootZ (a.hi * 4294967296)) (v := rootZ (a.hi * 4294967296)) (U := 562949953421312) (V := 562949953421312) hr21 (by omega) hr21 (by omega)
      have HT := Lib.hid (fun w => wTimes_any (rootZ (a.hi * 4294967296)) (rootZ (a.hi * 4294967296)) ⟨by omega, by omega⟩ ⟨by omega, by omega⟩ w)
      have HLs := Lib.hid (fun w => wLess_any (rootZ (a.hi * 4294967296) * rootZ (a.hi * 4294967296)) (a.hi * 4294967296) (by unfold R128; omega) (by unfold R128; omega) w)
      clear hsq hm
      rcases bool_or (decide (rootZ (a.hi * 4294967296) * rootZ (a.hi * 4294967296) < a.hi * 4294967296)) with c | c
      all_goals
        rw [c] at HLs Hq
        clear c
        generalize rootZ (a.hi * 4294967296) = r2 at *
        generalize rootZ (m * 4294967296) = r1 at *
        have hmx : (a.lo < 0 ∧ m = 0) ∨ (¬ a.lo < 0 ∧ m = a.lo) := by
          have := Hm.out
          unfold imax at this
          split at this
          · exact .inl ⟨by assumption, this⟩
          · exact .inr ⟨by assumption, this⟩
        rcases hmx with ⟨hx, rfl⟩ | ⟨hx, rfl⟩
        all_goals
          try rw [Int.zero_mul] at HU1 HR1
          go_enter Tryz.func104, Tryz.ntmps104
          go_wp2_with (first | (go_at_call 33; (with_reducible refine call_later (rCheck_yes a hk _) ?_); intro u) | (go_at_call 139; (with_reducible refine call_later (HW1.out _) ?_); intro u) | (go_at_call 139; (with_reducible refine call_later (HW2.out _) ?_); intro u) | (go_at_call 140; (with_reducible refine call_later (HU1.out _) ?_); intro u) | (go_at_call 140; (with_reducible refine call_later (HU2.out _) ?_); intro u) | (go_at_call 141; (with_reducible refine call_later (HR1.out _) ?_); intro u) | (go_at_call 141; (with_reducible refine call_later (HR2.out _) ?_); intro u) | (go_at_call 143; (with_reducible refine call_later (HT.out _) ?_); intro u) | (go_at_call 142; (with_reducible refine call_later (HLs.out _) ?_); intro u) | ((with_reducible refine wp_region_later ?_ ?_ ?_); (· kernel_rfl); (· kernel_rfl); (repeat (go_big_quiet_step ((first | (go_at_call 33; (with_reducible exact call_quiet (rCheck_yes a hk _))) | (go_at_call 139; (with_reducible exact call_quiet (HW1.out _))) | (go_at_call 139; (with_reducible exact call_quiet (HW2.out _))) | (go_at_call 140; (with_reducible exact call_quiet (HU1.out _))) | (go_at_call 140; (with_reducible exact call_quiet (HU2.out _))) | (go_at_call 141; (with_reducible exact call_quiet (HR1.out _))) | (go_at_call 141; (with_reducible exact call_quiet (HR2.out _))) | (go_at_call 143; (with_reducible exact call_quiet (HT.out _))) | (go_at_call 142; (with_reducible exact call_quiet (HLs.out _))))))); refine wpQuiet_nil ?_; rintro _ ⟨u, rfl⟩))
          refine bodyPost_ret (by (simp [results, Tryz.results104, go_sem] <;> rfl)) rfl ?_
          exact ⟨ret_res (by rw [← Hf.out, Hq.out]; (try simp)), (by repeat (first | with_reducible exact Grew.refl _ | with_reducible apply Grew.alloc | with_reducible apply Grew.later | with_reducible apply Grew.drew | with_reducible apply Grew.store | with_reducible assumption))⟩
theorem rList_any (L : List Sp) (v : Value) (w : World) (h : SlAt w v L.length (L.flatMap Sp.cells)) : Calls Tryz.prog 101 #[v] w fun e w' => e = .returned (.int .i64 (fewE L)) ∧ Grew w w' := by
  have hm := h.len_le
  unfold maxLen at hm
  obtain ⟨ao, cap, rfl, -, hx⟩ := h
  have HE := Lib.hid (SlAt.elem (f := Sp.cells) (c := 2) (fun _ => rfl) (by omega) hx)
  clear hx
  by_cases hl : L.length ≤ 64
  · have Hcode := Lib.hid (show fewE L = codeB (L.all Sp.okB) 2 by unfold fewE; rw [if_pos hl])
    go_enter Tryz.func101, Tryz.ntmps101
    go_wp2
    go_loopw [3] (fun t wr => ∃ k : Nat, t = .int .i64 k ∧ k ≤ L.length ∧ (L.take k).all Sp.okB = true ∧ Grew w wr) (fun t _ => L.length - (intOf t).toNat)
    case atStart => exact ⟨0, rfl, by omega, rfl, Grew.refl _⟩
    case round =>
      obtain ⟨k, rfl, hk, hall, hg⟩ := hrel
      obtain ⟨z, rfl⟩ := later_of hg
      clear hg
      have Hall := Lib.hid hall
      clear hall
      by_cases hlt : k < L.length
      · obtain ⟨b1, o1, rfl, i1, hd1, hd2⟩ := HE.out k hlt
        have hc0 := hd1 _ rfl
        have hc1 := hd2 1 _ rfl
        clear hd1 hd2
        have i1 : BlockIn w b1 := ⟨i1⟩
        have Hno := Lib.hid (fun h : (L[k]).okB = false => all_false Sp.okB L k hlt h)
        have Hyes := Lib.hid (fun h : (L[k]).okB = true => all_take_succ Sp.okB L k hlt Hall.out h)
        generalize L[k] = x at *
        cases hx : x.okB
        · go_wp2_with (first | (go_at_call 33; (with_reducible refine call_later (rCheck_no x hx _) ?_); intro u) | ((with_reducible refine wp_region_later ?_ ?_ ?_); (· kernel_rfl); (· kernel_rfl); (repeat (go_big_quiet_step ((first | (go_at_call 33; (with_reducible exact call_quiet (rCheck_no x hx _))))))); refine wpQuiet_nil ?_; rintro _ ⟨u, rfl⟩))
          go_ret
          exact ⟨ret_int (by rw [Hcode.out, Hno.out hx]; rfl), (by repeat (first | with_reducible exact Grew.refl _ | with_reducible apply Grew.alloc | with_reducible apply Grew.later | with_reducible apply Grew.drew | with_reducible apply Grew.store | with_reducible assumption))⟩
        · go_wp2_with (first | (go_at_call 33; (with_reducible refine call_later (rCheck_yes x hx _) ?_); intro u) | ((with_reducible refine wp_region_later ?_ ?_ ?_); (· kernel_rfl); (· kernel_rfl); (repeat (go_big_quiet_step ((first | (go_at_call 33; (with_reducible exact call_quiet (rCheck_yes x hx _))))))); refine wpQuiet_nil ?_; rintro _ ⟨u, rfl⟩))
          go_roundw
          case rel => exact ⟨k + 1, by go_num, by omega, Hyes.out hx, (by repeat (first | with_reducible exact Grew.refl _ | with_reducible apply Grew.alloc | with_reducible apply Grew.later | with_reducible apply Grew.drew | with_reducible apply Grew.store | with_reducible assumption))⟩
          case measure => simp [intOf]; omega
      · have hf := all_true Sp.okB L k (by omega) Hall.out
        have Hf := Lib.hid hf
        clear hf
        go_wp2
        go_ret
        exact ⟨ret_int (by rw [Hcode.out, Hf.out]; rfl), (by repeat (first | with_reducible exact Grew.refl _ | with_reducible apply Grew.alloc | with_reducible apply Grew.later | with_reducible apply Grew.drew | with_reducible apply Grew.store | with_reducible assumption))⟩
  · have Hcode := Lib.hid (show fewE L = 3 by unfold fewE; rw [if_neg hl])
    go_enter Tryz.func101, Tryz.ntmps101
    go_wp2
    go_ret
    exact ⟨ret_int Hcode.out.symm, (by repeat (first | with_reducible exact Grew.refl _ | with_reducible apply Grew.alloc | with_reducible apply Grew.later | with_reducible apply Grew.drew | with_reducible apply Grew.store | with_reducible assumption))⟩
theorem norm_step (f : Sp → Res) (L : List Sx) (k : Nat) (hk : k < L.length) (s : Sp) (h : foldR f z0 (valsS (L.take k)) = ⟨s, 0⟩) :
    foldR f z0 (valsS (L.take (k + 1))) = if (f (L[k]).1).e = 0 then (if (addR s (f (L[k]).1).s).e = 0 then ⟨(addR s (f (L[k]).1).s).s, 0⟩ else errR (addR s (f (L[k]).1).s).e) else errR (f (L[k]).1).e := by
  rw [List.take_succ_eq_append_getElem hk]
  unfold valsS at *
  rw [List.map_append, List.map_cons, List.map_nil, foldR_snoc, h, if_pos rfl]
  rfl
theorem norm_fail (f : Sp → Res) (L : List Sx) (k : Nat) (c : Int) (hc : c ≠ 0) (h : foldR f z0 (valsS (L.take k)) = errR c) : foldR f z0 (valsS L) = errR c := by
  have e : valsS L = valsS (L.take k) ++ valsS (L.drop k) := by unfold valsS; rw [← List.map_append, List.take_append_drop]
  rw [e, foldR_err f z0 _ _ (by rw [h]; exact hc), h]
theorem if_errR {c : Int} (hc : c ≠ 0) : (if (errR c).e = 0 then rootR (errR c).s else errR (errR c).e) = errR c := if_neg hc
theorem normR_few (l : List Sp) (h : fewE l = 0) : normR l = if (foldR squareR z0 l).e = 0 then rootR (foldR squareR z0 l).s else errR (foldR squareR z0 l).e := by
  unfold fewE at h
  unfold normR
  split at h
  · rename_i hl
    rw [if_pos hl]
    cases h2 : l.all Sp.okB
    · rw [h2] at h; cases h
    · rfl
  · cases h
theorem normR_bad (l : List Sp) (h : fewE l ≠ 0) : normR l = errR (fewE l) := by
  unfold fewE at h ⊢
  unfold normR
  split at h
  · rename_i hl
    rw [if_pos hl]
    cases h2 : l.all Sp.okB
    · rw [if_pos hl]; rfl
    · rw [h2] at h; exact absurd rfl h
  · rename_i hl
    rw [if_neg hl, if_neg hl]
theorem rNorm_any (L : List Sx) (ao : Option Addr) (cap : Nat) (w : World) (hs : SlAt w (.slice ao L.length cap) L.length (L.flatMap Sx.cells)) :
    Calls Tryz.prog 48 #[.slice ao L.length cap] w fun e w' => e = .returned (.tuple #[.agg #[.int .i64 (normR (valsS L)).s.lo, .int .i64 (normR (valsS L)).s.hi], .int .i64 (normR (valsS L)).e]) ∧ Grew w w' := by
  have hlen : (valsS L).length = L.length := by simp [valsS]
  have hm := hs.len_le
  unfold maxLen at hm
  have Hlist := Lib.hid (show ∀ (w' : World), Grew w w' → (fun w => Calls Tryz.prog 101 #[.slice ao L.length cap] w fun e w' => e = .returned (.int .i64 (fewE (valsS L))) ∧ Grew w w') w' from fun w' g => rList_any (valsS L) _ w' (by rw [hlen, ← cellsS]; exact hs.grew g))
  obtain ⟨ao', cap', e1, -, hx⟩ := hs
  cases e1
  have HE := Lib.hid (SlAt.elem (f := Sx.cells) (c := 2) (fun _ => rfl) (by omega) hx)
  clear hx
  by_cases hf : fewE (valsS L) = 0
  · have Hn := Lib.hid (normR_few (valsS L) hf)
    rw [hf] at Hlist
    have HS := Lib.hid (s64_foldR squareR (fun x => inferInstance) (valsS L) z0 inferInstance)
    have Hstep := Lib.hid (norm_step squareR L)
    have Hfail := Lib.hid (norm_fail squareR L)
    have Hfull := Lib.hid (show L.take L.length = L from List.take_length)
    clear hf hlen
    go_enter Tryz.func48, Tryz.ntmps48
    go_wp2_with (first | (go_at_call 101; (with_reducible refine call_later (Hlist.out _ (by repeat (first | with_reducible exact Grew.refl _ | with_reducible apply Grew.alloc | with_reducible apply Grew.later | with_reducible apply Grew.drew | with_reducible apply Grew.store | with_reducible assumption))) ?_); intro u) | ((with_reducible refine wp_region_later ?_ ?_ ?_); (· kernel_rfl); (· kernel_rfl); (repeat (go_big_quiet_step ((first | (go_at_call 101; (with_reducible exact call_quiet (Hlist.out _ (by repeat (first | with_reducible exact Grew.refl _ | with_reducible apply Grew.alloc | with_reducible apply Grew.later | with_reducible apply Grew.drew | with_reducible apply Grew.store | with_reducible assumption))))))))); refine wpQuiet_nil ?_; rintro _ ⟨u, rfl⟩))
    go_loopw [6] (fun t wr => ∃ (k : Nat) (s : Sp), t = .int .i64 k ∧ k ≤ L.length ∧ S64 s ∧ Hid (foldR squareR z0 (valsS (L.take k)) = ⟨s, 0⟩) ∧ Grew w wr ∧ BoxAt wr w.heap.size [.int .i64 0, .int .i64 0] ∧ BoxAt wr u.world.heap.size [.int .i64 s.lo, .int .i64 s.hi]) (fun t _ => L.length - (intOf t).toNat)
    case atStart => exact ⟨0, z0, rfl, by omega, inferInstance, Lib.hid rfl, (by repeat (first | with_reducible exact Grew.refl _ | with_reducible apply Grew.alloc | with_reducible apply Grew.later | with_reducible apply Grew.drew | with_reducible apply Grew.store | with_reducible assumption)), boxAt_two (by go_simp) (by go_simp) (by go_simp) (by go_simp), boxAt_two (by go_simp) (by go_simp) (by go_simp) (by go_simp)⟩
    case round =>
      obtain ⟨k, s, rfl, hk, hs, Hfo, hg, hA, hB⟩ := hrel
      obtain ⟨z, rfl⟩ := later_of hg
      clear hg
      have nu : w.heap.size + 1 ≤ u.world.heap.size := by have := u.grew.size; simpa using this
      have : Apart (w.heap.size) (u.world.heap.size) := ⟨by omega⟩
      have : Apart (u.world.heap.size) (w.heap.size) := ⟨by omega⟩
      have nw : NewFor w u.world.heap.size := ⟨by omega⟩
      have hA_0 := (hA 0 _ rfl).1
      have hAf0 := (hA 0 _ rfl).2
      have hAi0 : HasCell (z.world) (w.heap.size) 0 := ⟨_, hA_0⟩
      have hA_1 := (hA 1 _ rfl).1
      have hAf1 := (hA 1 _ rfl).2
      have hAi1 : HasCell (z.world) (w.heap.size) 1 := ⟨_, hA_1⟩
      have hAb : BlockIn (z.world) (w.heap.size) := BlockIn.of_cell hA_0
      clear hA
      have hB_0 := (hB 0 _ rfl).1
      have hBf0 := (hB 0 _ rfl).2
      have hBi0 : HasCell (z.world) (u.world.heap.size) 0 := ⟨_, hB_0⟩
      have hB_1 := (hB 1 _ rfl).1
      have hBf1 := (hB 1 _ rfl).2
      have hBi1 : HasCell (z.world) (u.world.heap.size) 1 := ⟨_, hB_1⟩
      have hBb : BlockIn (z.world) (u.world.heap.size) := BlockIn.of_cell hB_0
      clear hB
      by_cases hlt : k < L.length
      · obtain ⟨b1, o1, rfl, i1, hd1, hd2⟩ := HE.out k hlt
        have hc0 := hd1 _ rfl
        have hc1 := hd2 1 _ rfl
        clear hd1 hd2
        have i1 : BlockIn w b1 := ⟨i1⟩
        have hst := Hstep.out k hlt s Hfo.out
        have hx := (L[k]).2
        have hcell : (L[k]).cells = [.int .i64 (L[k]).1.lo, .int .i64 (L[k]).1.hi] := rfl
        generalize (L[k]).1 = x at *
        by_cases c1 : (squareR x).e = 0
        · rw [if_pos c1] at hst
          have c1' : ((squareR x).e != 0) = false := by simp [c1]
          clear c1
          by_cases c2 : (addR s (squareR x).s).e = 0
          · rw [if_pos c2] at hst
            have Hst := Lib.hid hst
            have c2' : ((addR s (squareR x).s).e != 0) = false := by simp [c2]
            clear c2 hst
            go_wp2_with (first | (go_at_call 102; (with_reducible refine call_later (rSquare_any x _) ?_); intro u) | (go_at_call 103; (with_reducible refine call_later (rAdd_any _ _ _) ?_); intro u) | ((with_reducible refine wp_region_later ?_ ?_ ?_); (· kernel_rfl); (· kernel_rfl); (repeat (go_big_quiet_step ((first | (go_at_call 102; (with_reducible exact call_quiet (rSquare_any x _))) | (go_at_call 103; (with_reducible exact call_quiet (rAdd_any _ _ _))))))); refine wpQuiet_nil ?_; rintro _ ⟨u, rfl⟩))
            go_roundw
            case rel => exact ⟨k + 1, (addR s (squareR x).s).s, by go_num, by omega, inferInstance, Lib.hid Hst.out, (by repeat (first | with_reducible exact Grew.refl _ | with_reducible apply Grew.alloc | with_reducible apply Grew.later | with_reducible apply Grew.drew | with_reducible apply Grew.store | with_reducible assumption)), boxAt_two (by go_simp) (by go_simp) (by go_simp) (by go_simp), boxAt_two (by go_simp) (by go_simp) (by go_simp) (by go_simp)⟩
            case measure => simp [intOf]; omega
          · rw [if_neg c2] at hst
            have He := Lib.hid (Hfail.out (k + 1) _ c2 hst)
            have c2' : ((addR s (squareR x).s).e != 0) = true := by simp [c2]
            have C2 := Lib.hid c2
            clear c2 hst
            go_wp2_with (first | (go_at_call 102; (with_reducible refine call_later (rSquare_any x _) ?_); intro u) | (go_at_call 103; (with_reducible refine call_later (rAdd_any _ _ _) ?_); intro u) | ((with_reducible refine wp_region_later ?_ ?_ ?_); (· kernel_rfl); (· kernel_rfl); (repeat (go_big_quiet_step ((first | (go_at_call 102; (with_reducible exact call_quiet (rSquare_any x _))) | (go_at_call 103; (with_reducible exact call_quiet (rAdd_any _ _ _))))))); refine wpQuiet_nil ?_; rintro _ ⟨u, rfl⟩))
            refine bodyPost_ret (by (simp [results, Tryz.results48, go_sem] <;> rfl)) rfl ?_
            exact ⟨ret_err (by rw [Hn.out, He.out, if_errR C2.out]) rfl, (by repeat (first | with_reducible exact Grew.refl _ | with_reducible apply Grew.alloc | with_reducible apply Grew.later | with_reducible apply Grew.drew | with_reducible apply Grew.store | with_reducible assumption))⟩
        · rw [if_neg c1] at hst
          have He := Lib.hid (Hfail.out (k + 1) _ c1 hst)
          have c1' : ((squareR x).e != 0) = true := by simp [c1]
          have C1 := Lib.hid c1
          clear c1 hst
          go_wp2_with (first | (go_at_call 102; (with_reducible refine call_later (rSquare_any x _) ?_); intro u) | ((with_reducible refine wp_region_later ?_ ?_ ?_); (· kernel_rfl); (· kernel_rfl); (repeat (go_big_quiet_step ((first | (go_at_call 102; (with_reducible exact call_quiet (rSquare_any x _))))))); refine wpQuiet_nil ?_; rintro _ ⟨u, rfl⟩))
          refine bodyPost_ret (by (simp [results, Tryz.results48, go_sem] <;> rfl)) rfl ?_
          exact ⟨ret_err (by rw [Hn.out, He.out, if_errR C1.out]) rfl, (by repeat (first | with_reducible exact Grew.refl _ | with_reducible apply Grew.alloc | with_reducible apply Grew.later | with_reducible apply Grew.drew | with_reducible apply Grew.store | with_reducible assumption))⟩
      · have hk' : k = L.length := by omega
        have hfo := Hfo.out
        rw [hk', Hfull.out] at hfo
        have Hfo' := Lib.hid hfo
        clear hfo hk'
        go_wp2_with (first | (go_at_call 104; (with_reducible refine call_later (rRoot_any s _) ?_); intro u) | ((with_reducible refine wp_region_later ?_ ?_ ?_); (· kernel_rfl); (· kernel_rfl); (repeat (go_big_quiet_step ((first | (go_at_call 104; (with_reducible exact call_quiet (rRoot_any s _))))))); refine wpQuiet_nil ?_; rintro _ ⟨u, rfl⟩))
        refine bodyPost_ret (by (simp [results, Tryz.results48, go_sem] <;> rfl)) rfl ?_
        exact ⟨ret_res (by rw [Hn.out, Hfo'.out, if_pos rfl]), (by repeat (first | with_reducible exact Grew.refl _ | with_reducible apply Grew.alloc | with_reducible apply Grew.later | with_reducible apply Grew.drew | with_reducible apply Grew.store | with_reducible assumption))⟩
  · have Hn := Lib.hid (normR_bad (valsS L) hf)
    have hf' : (fewE (valsS L) != 0) = true := by simp [hf]
    clear hf hlen
    generalize fewE (valsS L) = c at *
    go_enter Tryz.func48, Tryz.ntmps48
    go_wp2_with (first | (go_at_call 101; (with_reducible refine call_later (Hlist.out _ (by repeat (first | with_reducible exact Grew.refl _ | with_reducible apply Grew.alloc | with_reducible apply Grew.later | with_reducible apply Grew.drew | with_reducible apply Grew.store | with_reducible assumption))) ?_); intro u) | ((with_reducible refine wp_region_later ?_ ?_ ?_); (· kernel_rfl); (· kernel_rfl); (repeat (go_big_quiet_step ((first | (go_at_call 101; (with_reducible exact call_quiet (Hlist.out _ (by repeat (first | with_reducible exact Grew.refl _ | with_reducible apply Grew.alloc | with_reducible apply Grew.later | with_reducible apply Grew.drew | with_reducible apply Grew.store | with_reducible assumption))))))))); refine wpQuiet_nil ?_; rintro _ ⟨u, rfl⟩))
    refine bodyPost_ret (by (simp [results, Tryz.results48, go_sem] <;> rfl)) rfl ?_
    exact ⟨ret_err Hn.out.symm rfl, (by repeat (first | with_reducible exact Grew.refl _ | with_reducible apply Grew.alloc | with_reducible apply Grew.later | with_reducible apply Grew.drew | with_reducible apply Grew.store | with_reducible assumption))⟩
end Go.Proofs.YtochpnomfedhoaaGreat
