/-
  Contracts: span's Meet, few, Root, Norm.
-/
import Derived.Test.YtochpnomfedhoaaGreatFold
namespace Go.Proofs.YtochpnomfedhoaaGreat
open Go.RowKit Go.Shelf
set_option maxRecDepth 100000
set_option maxHeartbeats 2000000
theorem spMeet_any (a b : Sp) (w : World) : Calls Tryz.prog 121 #[.agg #[.int .i64 a.lo, .int .i64 a.hi], .agg #[.int .i64 b.lo, .int .i64 b.hi]] w fun e w' => e = .returned (.tuple #[.agg #[.int .i64 (meetR a b).s.lo, .int .i64 (meetR a b).s.hi], .int .i64 (meetR a b).e]) ∧ Grew w w' := by
  cases hk : (a.okB && b.okB)
  · have Hf := Lib.hid (show errR 2 = meetR a b by unfold meetR; rw [hk]; rfl)
    go_enter Tryz.func121, Tryz.ntmps121
    go_wp2_with (first | (go_at_call 79; (with_reducible refine call_later (spChecked_no a b hk _ _ (SlAt.fresh _ _ _ _ (by simp [maxLen]))) ?_); intro u) | ((with_reducible refine wp_region_later ?_ ?_ ?_); (· kernel_rfl); (· kernel_rfl); (repeat (go_big_quiet_step ((first | (go_at_call 79; (with_reducible exact call_quiet (spChecked_no a b hk _ _ (SlAt.fresh _ _ _ _ (by simp [maxLen]))))))))); refine wpQuiet_nil ?_; rintro _ ⟨u, rfl⟩))
    refine bodyPost_ret (by (simp [results, Tryz.results121, go_sem] <;> rfl)) rfl ?_
    exact ⟨ret_err Hf.out rfl, (by repeat (first | with_reducible exact Grew.refl _ | with_reducible apply Grew.alloc | with_reducible apply Grew.later | with_reducible apply Grew.drew | with_reducible apply Grew.store | with_reducible assumption))⟩
  · have Hf := Lib.hid (show (if (meetS a b).hi < (meetS a b).lo then errR 7 else ⟨meetS a b, 0⟩) = meetR a b by unfold meetR; rw [hk]; rfl)
    go_enter Tryz.func121, Tryz.ntmps121
    go_wp2_with (first | (go_at_call 79; (with_reducible refine call_later (spChecked_yes a b hk _ _ (SlAt.fresh _ _ _ _ (by simp [maxLen]))) ?_); intro u) | ((with_reducible refine wp_region_later ?_ ?_ ?_); (· kernel_rfl); (· kernel_rfl); (repeat (go_big_quiet_step ((first | (go_at_call 79; (with_reducible exact call_quiet (spChecked_yes a b hk _ _ (SlAt.fresh _ _ _ _ (by simp [maxLen]))))))))); refine wpQuiet_nil ?_; rintro _ ⟨u, rfl⟩))
    all_goals
      refine bodyPost_ret (by (simp [results, Tryz.results121, go_sem] <;> rfl)) rfl ?_
      first
      | exact ⟨ret_err (by rw [← Hf.out]; unfold meetS imin imax; simp only []; rw [if_pos (by (repeat' split) <;> omega)]) rfl, (by repeat (first | with_reducible exact Grew.refl _ | with_reducible apply Grew.alloc | with_reducible apply Grew.later | with_reducible apply Grew.drew | with_reducible apply Grew.store | with_reducible assumption))⟩
      | exact ⟨ret_res (by rw [← Hf.out]; unfold meetS imin imax; simp only []; rw [if_neg (by (repeat' split) <;> omega)]; congr 2 <;> (repeat' split) <;> omega), (by repeat (first | with_reducible exact Grew.refl _ | with_reducible apply Grew.alloc | with_reducible apply Grew.later | with_reducible apply Grew.drew | with_reducible apply Grew.store | with_reducible assumption))⟩
def fewE (L : List Sp) : Int := if L.length ≤ 64 then codeB (L.all Sp.okB) 2 else 3
theorem few_any (L : List Sp) (ao : Option Addr) (cap b : Nat) (w : World) (hc : w.cell? ⟨b, 0, none⟩ = some (.slice ao L.length cap)) (hs : SlAt w (.slice ao L.length cap) L.length (L.flatMap Sp.cells)) :
    Calls Tryz.prog 96 #[.slice (some ⟨b, 0, none⟩) 1 1] w fun e w' => e = .returned (.int .i64 (fewE L)) ∧ Grew w w' := by
  have hm := hs.len_le
  unfold maxLen at hm
  have Hs := Lib.hid hs
  clear hs
  have ib : BlockIn w b := BlockIn.of_cell hc
  have Hf1 := Lib.hid (fun h : ¬ L.length ≤ 64 => show fewE L = 3 by unfold fewE; rw [if_neg h])
  have Hf2 := Lib.hid (fun h : L.length ≤ 64 => show fewE L = codeB (L.all Sp.okB) 2 by unfold fewE; rw [if_pos h])
  go_enter Tryz.func96, Tryz.ntmps96
  go_wp2
  go_loopw [10] (fun t wr => ∃ k : Nat, t = .int .i64 k ∧ k ≤ 1 ∧ (k = 1 → L.length ≤ 64) ∧ Grew w wr) (fun t _ => 1 - (intOf t).toNat)
  case atStart => exact ⟨0, rfl, by omega, by omega, Grew.refl _⟩
  case round =>
    obtain ⟨k, rfl, hk, h64, hg⟩ := hrel
    obtain ⟨z, rfl⟩ := later_of hg
    clear hg
    by_cases hlt : k < 1
    · obtain rfl : k = 0 := by omega
      clear h64
      by_cases hl : L.length ≤ 64
      · go_wp2
        go_roundw
        case rel => exact ⟨1, by go_num, by omega, fun _ => hl, (by repeat (first | with_reducible exact Grew.refl _ | with_reducible apply Grew.alloc | with_reducible apply Grew.later | with_reducible apply Grew.drew | with_reducible apply Grew.store | with_reducible assumption))⟩
        case measure => simp [intOf]
      · go_wp2
        go_ret
        exact ⟨ret_int (by rw [Hf1.out hl]), (by repeat (first | with_reducible exact Grew.refl _ | with_reducible apply Grew.alloc | with_reducible apply Grew.later | with_reducible apply Grew.drew | with_reducible apply Grew.store | with_reducible assumption))⟩
    · obtain rfl : k = 1 := by omega
      rw [show ((1 : Nat) : Int) = 1 from rfl]
      have hl := h64 rfl
      clear h64
      have Hcode := Lib.hid (Hf2.out hl)
      cases hall : L.all Sp.okB
      · rw [hall] at Hcode
        have Hc := Lib.hid (fun w h => is_int (b := codeB (L.all Sp.okB) 2) (b' := 2) (k := .i64) (by rw [hall]; rfl) (spChecked_any L (.slice ao L.length cap) w h))
        clear hall
        go_wp2
        go_loopw [20] (fun t wr => t = .int .i64 0 ∧ Grew w wr) (fun t _ => 0)
        case atStart => exact ⟨rfl, (by repeat (first | with_reducible exact Grew.refl _ | with_reducible apply Grew.alloc | with_reducible apply Grew.later | with_reducible apply Grew.drew | with_reducible apply Grew.store | with_reducible assumption))⟩
        case round =>
          obtain ⟨rfl, hg⟩ := hrel
          obtain ⟨y, rfl⟩ := later_of hg
          clear hg
          go_wp2_with (first | (go_at_call 79; (with_reducible refine call_later (Hc.out _ (Hs.out.grew (by repeat (first | with_reducible exact Grew.refl _ | with_reducible apply Grew.alloc | with_reducible apply Grew.later | with_reducible apply Grew.drew | with_reducible apply Grew.store | with_reducible assumption)))) ?_); intro u) | ((with_reducible refine wp_region_later ?_ ?_ ?_); (· kernel_rfl); (· kernel_rfl); (repeat (go_big_quiet_step ((first | (go_at_call 79; (with_reducible exact call_quiet (Hc.out _ (Hs.out.grew (by repeat (first | with_reducible exact Grew.refl _ | with_reducible apply Grew.alloc | with_reducible apply Grew.later | with_reducible apply Grew.drew | with_reducible apply Grew.store | with_reducible assumption)))))))))); refine wpQuiet_nil ?_; rintro _ ⟨u, rfl⟩))
          go_ret
          exact ⟨ret_int (by rw [Hcode.out]; rfl), (by repeat (first | with_reducible exact Grew.refl _ | with_reducible apply Grew.alloc | with_reducible apply Grew.later | with_reducible apply Grew.drew | with_reducible apply Grew.store | with_reducible assumption))⟩
      · rw [hall] at Hcode
        have Hc := Lib.hid (fun w h => is_int (b := codeB (L.all Sp.okB) 2) (b' := 0) (k := .i64) (by rw [hall]; rfl) (spChecked_any L (.slice ao L.length cap) w h))
        clear hall
        go_wp2
        go_loopw [20] (fun t wr => ∃ k : Nat, t = .int .i64 k ∧ k ≤ 1 ∧ Grew w wr) (fun t _ => 1 - (intOf t).toNat)
        case atStart => exact ⟨0, rfl, by omega, (by repeat (first | with_reducible exact Grew.refl _ | with_reducible apply Grew.alloc | with_reducible apply Grew.later | with_reducible apply Grew.drew | with_reducible apply Grew.store | with_reducible assumption))⟩
        case round =>
          obtain ⟨k, rfl, hk, hg⟩ := hrel
          obtain ⟨y, rfl⟩ := later_of hg
          clear hg
          by_cases hlt : k < 1
          · obtain rfl : k = 0 := by omega
            go_wp2_with (first | (go_at_call 79; (with_reducible refine call_later (Hc.out _ (Hs.out.grew (by repeat (first | with_reducible exact Grew.refl _ | with_reducible apply Grew.alloc | with_reducible apply Grew.later | with_reducible apply Grew.drew | with_reducible apply Grew.store | with_reducible assumption)))) ?_); intro u) | ((with_reducible refine wp_region_later ?_ ?_ ?_); (· kernel_rfl); (· kernel_rfl); (repeat (go_big_quiet_step ((first | (go_at_call 79; (with_reducible exact call_quiet (Hc.out _ (Hs.out.grew (by repeat (first | with_reducible exact Grew.refl _ | with_reducible apply Grew.alloc | with_reducible apply Grew.later | with_reducible apply Grew.drew | with_reducible apply Grew.store | with_reducible assumption)))))))))); refine wpQuiet_nil ?_; rintro _ ⟨u, rfl⟩))
            go_roundw
            case rel => exact ⟨1, by go_num, by omega, (by repeat (first | with_reducible exact Grew.refl _ | with_reducible apply Grew.alloc | with_reducible apply Grew.later | with_reducible apply Grew.drew | with_reducible apply Grew.store | with_reducible assumption))⟩
            case measure => simp [intOf]
          · obtain rfl : k = 1 := by omega
            go_wp2
            go_ret
            exact ⟨ret_int (by rw [Hcode.out]; rfl), (by repeat (first | with_reducible exact Grew.refl _ | with_reducible apply Grew.alloc | with_reducible apply Grew.later | with_reducible apply Grew.drew | with_reducible apply Grew.store | with_reducible assumption))⟩
theorem spRoot_any (a : Sp) [ha : S64 a] (w : World) : Calls Tryz.prog 100 #[.agg #[.int .i64 a.lo, .int .i64 a.hi]] w fun e w' => e = .returned (.tuple #[.agg #[.int .i64 (rootR a).s.lo, .int .i64 (rootR a).s.hi], .int .i64 (rootR a).e]) ∧ Grew w w' := by
  cases hk : a.okB
  · have Hf := Lib.hid (show errR 2 = rootR a by unfold rootR; rw [hk]; rfl)
    go_enter Tryz.func100, Tryz.ntmps100
    go_wp2_with (first | (go_at_call 31; (with_reducible refine call_later (spCheck_no a hk _) ?_); intro u) | ((with_reducible refine wp_region_later ?_ ?_ ?_); (· kernel_rfl); (· kernel_rfl); (repeat (go_big_quiet_step ((first | (go_at_call 31; (with_reducible exact call_quiet (spCheck_no a hk _))))))); refine wpQuiet_nil ?_; rintro _ ⟨u, rfl⟩))
    refine bodyPost_ret (by (simp [results, Tryz.results100, go_sem] <;> rfl)) rfl ?_
    exact ⟨ret_err Hf.out rfl, (by repeat (first | with_reducible exact Grew.refl _ | with_reducible apply Grew.alloc | with_reducible apply Grew.later | with_reducible apply Grew.drew | with_reducible apply Grew.store | with_reducible assumption))⟩
  · have h1 := okB_num hk
    have h2 := ha.lo.2
    have h3 := ha.hi.2
    by_cases hn : a.hi < 0
    · have Hf := Lib.hid (show errR 4 = rootR a by unfold rootR; rw [hk, if_pos hn]; rfl)
      go_enter Tryz.func100, Tryz.ntmps100
      go_wp2_with (first | (go_at_call 31; (with_reducible refine call_later (spCheck_yes a hk _) ?_); intro u) | ((with_reducible refine wp_region_later ?_ ?_ ?_); (· kernel_rfl); (· kernel_rfl); (repeat (go_big_quiet_step ((first | (go_at_call 31; (with_reducible exact call_quiet (spCheck_yes a hk _))))))); refine wpQuiet_nil ?_; rintro _ ⟨u, rfl⟩))
      refine bodyPost_ret (by (simp [results, Tryz.results100, go_sem] <;> rfl)) rfl ?_
      exact ⟨ret_err Hf.out rfl, (by repeat (first | with_reducible exact Grew.refl _ | with_reducible apply Grew.alloc | with_reducible apply Grew.later | with_reducible apply Grew.drew | with_reducible apply Grew.store | with_reducible assumption))⟩
    · have Hf := Lib.hid (show (⟨⟨rootZ (imax a.lo 0 * 4294967296), rootUp (a.hi * 4294967296)⟩, 0⟩ : Res) = rootR a by unfold rootR; rw [hk, if_neg hn]; rfl)
      obtain ⟨h11, h12, h13⟩ := h1
      have hr1 := rootZ_bd (imax a.lo 0 * 4294967296)
      have hr2 := rootZ_bd (a.hi * 4294967296)
      obtain ⟨hr11, hr12⟩ := hr1
      obtain ⟨hr21, hr22⟩ := hr2
      have Hq := Lib.hid (show rootUp (a.hi * 4294967296) = if rootSq (a.hi * 4294967296) then rootZ (a.hi * 4294967296) else rootZ (a.hi * 4294967296) + 1 by unfold rootUp rootSq; by_cases h : rootZ (a.hi * 4294967296) * rootZ (a.hi * 4294967296) = a.hi * 4294967296 <;> simp [h])
      have Hhi := Lib.hid (fun w => root_any a.hi (by omega) h3 w)
      have Hlo := Lib.hid (fun w => root_any (imax a.lo 0) (by unfold imax; split <;> omega) (by unfold imax; split <;> omega) w)
      have hmax : a.lo < 0 ∨ ¬ a.lo < 0 := Classical.em _
      rcases hmax with hm | hm
      all_goals
        first | rw [show imax a.lo 0 = 0 by unfold imax; rw [if_pos hm]] at Hlo Hf hr11 hr12 | rw [show imax a.lo 0 = a.lo by unfold imax; rw [if_neg hm]] at Hlo Hf hr11 hr12
        cases hs : rootSq (a.hi * 4294967296)
        all_goals
          rw [hs] at Hhi Hq
          clear hs
          generalize rootZ (a.hi * 4294967296) = r2 at *
          first | generalize rootZ (0 * 4294967296) = r1 at * | generalize rootZ (a.lo * 4294967296) = r1 at *
          go_enter Tryz.func100, Tryz.ntmps100
          go_wp2_with (first | (go_at_call 31; (with_reducible refine call_later (spCheck_yes a hk _) ?_); intro u) | (go_at_call 135; (with_reducible refine call_later (Hlo.out _) ?_); intro u) | (go_at_call 135; (with_reducible refine call_later (Hhi.out _) ?_); intro u) | ((with_reducible refine wp_region_later ?_ ?_ ?_); (· kernel_rfl); (· kernel_rfl); (repeat (go_big_quiet_step ((first | (go_at_call 31; (with_reducible exact call_quiet (spCheck_yes a hk _))) | (go_at_call 135; (with_reducible exact call_quiet (Hlo.out _))) | (go_at_call 135; (with_reducible exact call_quiet (Hhi.out _))))))); refine wpQuiet_nil ?_; rintro _ ⟨u, rfl⟩))
          refine bodyPost_ret (by (simp [results, Tryz.results100, go_sem] <;> rfl)) rfl ?_
          exact ⟨ret_res (by rw [← Hf.out, Hq.out]; (try simp); (try omega)), (by repeat (first | with_reducible exact Grew.refl _ | with_reducible apply Grew.alloc | with_reducible apply Grew.later | with_reducible apply Grew.drew | with_reducible apply Grew.store | with_reducible assumption))⟩
theorem term_square (w : World) : TermOk 99 #[] squareR w := fun w x _ => by
  have := x.2
  exact spSquare_any x.1 w
def valsS (L : List Sx) : List Sp := L.map fun x => x.1
theorem cellsS (L : List Sx) : L.flatMap Sx.cells = (valsS L).flatMap Sp.cells := by
  unfold valsS
  rw [List.flatMap_map]
  rfl
theorem s64_foldR {α : Type} (f : α → Res) (_hf : ∀ x, S64 (f x).s) (l : List α) : ∀ s : Sp, S64 s → S64 (foldR f s l).s := by
  induction l with
  | nil => intro s h; exact h
  | cons x l ih =>
    intro s h
    unfold foldR
    split
    · split
      · exact ih _ inferInstance
      · exact s64_err _
    · exact s64_err _
theorem spNorm_any (L : List Sx) (ao : Option Addr) (cap : Nat) (w : World) (hs : SlAt w (.slice ao L.length cap) L.length (L.flatMap Sx.cells)) :
    Calls Tryz.prog 47 #[.slice ao L.length cap] w fun e w' => e = .returned (.tuple #[.agg #[.int .i64 (normR (valsS L)).s.lo, .int .i64 (normR (valsS L)).s.hi], .int .i64 (normR (valsS L)).e]) ∧ Grew w w' := by
  have hlen : (valsS L).length = L.length := by simp [valsS]
  have Hs := Lib.hid hs
  clear hs
  have Hsc := Lib.hid (cellsS L)
  have Hfew := Lib.hid (show ∀ (b : Nat) (w : World), w.cell? ⟨b, 0, none⟩ = some (.slice ao L.length cap) → SlAt w (.slice ao L.length cap) L.length (L.flatMap Sx.cells) → Calls Tryz.prog 96 #[.slice (some ⟨b, 0, none⟩) 1 1] w fun e w' => e = .returned (.int .i64 (fewE (valsS L))) ∧ Grew w w' from fun b w hc h => by
    have := few_any (valsS L) ao cap b w (by rw [hlen]; exact hc) (by rw [hlen, ← cellsS]; exact h)
    exact this)
  by_cases hf : fewE (valsS L) = 0
  · have hn : normR (valsS L) = if (foldR squareR z0 (valsS L)).e = 0 then rootR (foldR squareR z0 (valsS L)).s else errR (foldR squareR z0 (valsS L)).e := by
      unfold fewE at hf
      unfold normR
      split at hf
      · rename_i h
        rw [if_pos h]
        cases h2 : (valsS L).all Sp.okB
        · rw [h2] at hf; cases hf
        · rfl
      · cases hf
    have Hn := Lib.hid hn
    clear hn
    rw [hf] at Hfew
    clear hf hlen
    have Hfold := Lib.hid (show ∀ (Bs : Nat) (w : World), w.cell? ⟨Bs, 0, none⟩ = some (.slice ao L.length cap) → SlAt w (.slice ao L.length cap) L.length (L.flatMap Sx.cells) → Calls Tryz.prog 97 #[.func (.func 133) #[] #[.pointer (some ⟨Bs, 0, none⟩)], .func (.func 99) #[] #[]] w fun e w' => e = .returned (.tuple #[.agg #[.int .i64 (foldR squareR z0 (valsS L)).s.lo, .int .i64 (foldR squareR z0 (valsS L)).s.hi], .int .i64 (foldR squareR z0 (valsS L)).e]) ∧ Grew w w' from
      fun Bs w hc h => fold_any squareR (fun x hx => inferInstance) 99 #[] (enters_of Tryz.func99 (by kernel_rfl) rfl) L Bs _ w hc h (term_square w))
    have hS := s64_foldR squareR (fun x => inferInstance) (valsS L) z0 inferInstance
    by_cases he : (foldR squareR z0 (valsS L)).e = 0
    · have he' : ((foldR squareR z0 (valsS L)).e != 0) = false := by simp [he]
      rw [if_pos he] at Hn
      clear he
      generalize foldR squareR z0 (valsS L) = r at *
      have hRs := hS
      go_enter Tryz.func47, Tryz.ntmps47
      go_wp2_with (first | (go_at_call 96; (with_reducible refine call_later (Hfew.out _ _ (by go_simp) (Hs.out.grew (by repeat (first | with_reducible exact Grew.refl _ | with_reducible apply Grew.alloc | with_reducible apply Grew.later | with_reducible apply Grew.drew | with_reducible apply Grew.store | with_reducible assumption)))) ?_); intro u) | (go_at_call 97; (with_reducible refine call_later (Hfold.out _ _ (by go_simp) (Hs.out.grew (by repeat (first | with_reducible exact Grew.refl _ | with_reducible apply Grew.alloc | with_reducible apply Grew.later | with_reducible apply Grew.drew | with_reducible apply Grew.store | with_reducible assumption)))) ?_); intro u) | (go_at_call 100; (with_reducible refine call_later (spRoot_any _ _) ?_); intro u) | (go_at_call 98; refine (spAll_any _ _ _ _).mono ?_; rintro e w' ⟨rfl, rfl⟩) | ((with_reducible refine wp_region_later ?_ ?_ ?_); (· kernel_rfl); (· kernel_rfl); (repeat (go_big_quiet_step ((first | (go_at_call 96; (with_reducible exact call_quiet (Hfew.out _ _ (by go_simp) (Hs.out.grew (by repeat (first | with_reducible exact Grew.refl _ | with_reducible apply Grew.alloc | with_reducible apply Grew.later | with_reducible apply Grew.drew | with_reducible apply Grew.store | with_reducible assumption)))))) | (go_at_call 97; (with_reducible exact call_quiet (Hfold.out _ _ (by go_simp) (Hs.out.grew (by repeat (first | with_reducible exact Grew.refl _ | with_reducible apply Grew.alloc | with_reducible apply Grew.later | with_reducible apply Grew.drew | with_reducible apply Grew.store | with_reducible assumption)))))) | (go_at_call 100; (with_reducible exact call_quiet (spRoot_any _ _))))))); refine wpQuiet_nil ?_; rintro _ ⟨u, rfl⟩))
      refine bodyPost_ret (by (simp [results, Tryz.results47, go_sem] <;> rfl)) rfl ?_
      exact ⟨ret_res (by rw [Hn.out]), (by repeat (first | with_reducible exact Grew.refl _ | with_reducible apply Grew.alloc | with_reducible apply Grew.later | with_reducible apply Grew.drew | with_reducible apply Grew.store | with_reducible assumption))⟩
    · have he' : ((foldR squareR z0 (valsS L)).e != 0) = true := by simp [he]
      rw [if_neg he] at Hn
      clear he
      generalize foldR squareR z0 (valsS L) = r at *
      go_enter Tryz.func47, Tryz.ntmps47
      go_wp2_with (first | (go_at_call 96; (with_reducible refine call_later (Hfew.out _ _ (by go_simp) (Hs.out.grew (by repeat (first | with_reducible exact Grew.refl _ | with_reducible apply Grew.alloc | with_reducible apply Grew.later | with_reducible apply Grew.drew | with_reducible apply Grew.store | with_reducible assumption)))) ?_); intro u) | (go_at_call 97; (with_reducible refine call_later (Hfold.out _ _ (by go_simp) (Hs.out.grew (by repeat (first | with_reducible exact Grew.refl _ | with_reducible apply Grew.alloc | with_reducible apply Grew.later | with_reducible apply Grew.drew | with_reducible apply Grew.store | with_reducible assumption)))) ?_); intro u) | (go_at_call 100; (with_reducible refine call_later (spRoot_any _ _) ?_); intro u) | (go_at_call 98; refine (spAll_any _ _ _ _).mono ?_; rintro e w' ⟨rfl, rfl⟩) | ((with_reducible refine wp_region_later ?_ ?_ ?_); (· kernel_rfl); (· kernel_rfl); (repeat (go_big_quiet_step ((first | (go_at_call 96; (with_reducible exact call_quiet (Hfew.out _ _ (by go_simp) (Hs.out.grew (by repeat (first | with_reducible exact Grew.refl _ | with_reducible apply Grew.alloc | with_reducible apply Grew.later | with_reducible apply Grew.drew | with_reducible apply Grew.store | with_reducible assumption)))))) | (go_at_call 97; (with_reducible exact call_quiet (Hfold.out _ _ (by go_simp) (Hs.out.grew (by repeat (first | with_reducible exact Grew.refl _ | with_reducible apply Grew.alloc | with_reducible apply Grew.later | with_reducible apply Grew.drew | with_reducible apply Grew.store | with_reducible assumption)))))) | (go_at_call 100; (with_reducible exact call_quiet (spRoot_any _ _))))))); refine wpQuiet_nil ?_; rintro _ ⟨u, rfl⟩))
      refine bodyPost_ret (by (simp [results, Tryz.results47, go_sem] <;> rfl)) rfl ?_
      exact ⟨ret_err Hn.out.symm rfl, (by repeat (first | with_reducible exact Grew.refl _ | with_reducible apply Grew.alloc | with_reducible apply Grew.later | with_reducible apply Grew.drew | with_reducible apply Grew.store | with_reducible assumption))⟩
  · have hn : normR (valsS L) = errR (fewE (valsS L)) := by
      unfold fewE at hf ⊢
      unfold normR
      split at hf
      · rename_i h
        rw [if_pos h]
        cases h2 : (valsS L).all Sp.okB
        · rw [if_pos h]; rfl
        · rw [h2] at hf; exact absurd rfl hf
      · rename_i h
        rw [if_neg h, if_neg h]
    have Hn := Lib.hid hn
    have hf' : (fewE (valsS L) != 0) = true := by simp [hf]
    clear hn hf hlen
    generalize fewE (valsS L) = c at *
    go_enter Tryz.func47, Tryz.ntmps47
    go_wp2_with (first | (go_at_call 96; (with_reducible refine call_later (Hfew.out _ _ (by go_simp) (Hs.out.grew (by repeat (first | with_reducible exact Grew.refl _ | with_reducible apply Grew.alloc | with_reducible apply Grew.later | with_reducible apply Grew.drew | with_reducible apply Grew.store | with_reducible assumption)))) ?_); intro u) | ((with_reducible refine wp_region_later ?_ ?_ ?_); (· kernel_rfl); (· kernel_rfl); (repeat (go_big_quiet_step ((first | (go_at_call 96; (with_reducible exact call_quiet (Hfew.out _ _ (by go_simp) (Hs.out.grew (by repeat (first | with_reducible exact Grew.refl _ | with_reducible apply Grew.alloc | with_reducible apply Grew.later | with_reducible apply Grew.drew | with_reducible apply Grew.store | with_reducible assumption)))))))))); refine wpQuiet_nil ?_; rintro _ ⟨u, rfl⟩))
    refine bodyPost_ret (by (simp [results, Tryz.results47, go_sem] <;> rfl)) rfl ?_
    exact ⟨ret_err Hn.out.symm rfl, (by repeat (first | with_reducible exact Grew.refl _ | with_reducible apply Grew.alloc | with_reducible apply Grew.later | with_reducible apply Grew.drew | with_reducible apply Grew.store | with_reducible assumption))⟩
end Go.Proofs.YtochpnomfedhoaaGreat
