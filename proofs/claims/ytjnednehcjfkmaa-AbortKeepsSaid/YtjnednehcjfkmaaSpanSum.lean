/-
  Contract: span.Sum.
-/
import Derived.Test.YtjnednehcjfkmaaFolds
import Derived.Test.YtjnednehcjfkmaaMonoLaw
namespace Go.Proofs.Ytjnednehcjfkmaa
open Go.RowKit Go.Shelf
set_option maxRecDepth 100000
set_option maxHeartbeats 4000000
def sumCR (l : List Sp) : Res := if l.length ≤ 64 then (if l.all Sp.okB then sumR l else errR 2) else errR 3
theorem sumC_zero {l : List Sp} (h : (sumCR l).e = 0) : sumCR l = sumR l ∧ (sumR l).e = 0 := by
  unfold sumCR at *
  split at h
  · rename_i h1
    rw [if_pos h1]
    split at h
    · rename_i h2
      rw [if_pos h2]
      exact ⟨rfl, h⟩
    · exact absurd h (by decide)
  · exact absurd h (by decide)
theorem sumTerm_one (a : Sp) (w : World) : Calls Try.prog 39 #[.agg #[.int .i64 a.lo, .int .i64 a.hi]] w fun e w' => e = .returned (.tuple #[.agg #[.int .i64 ((⟨a, 0⟩ : Res)).s.lo, .int .i64 ((⟨a, 0⟩ : Res)).s.hi], .int .i64 ((⟨a, 0⟩ : Res)).e]) ∧ Grew w w' := by
  go_enter Try.func39, Try.ntmps39
  go_wp2
  refine bodyPost_ret (by (simp [results, Try.results39, go_sem] <;> rfl)) rfl ?_
  exact ⟨rfl, (by repeat (first | with_reducible exact Grew.refl _ | with_reducible apply Grew.alloc | with_reducible apply Grew.later | with_reducible apply Grew.drew | with_reducible apply Grew.store | with_reducible assumption))⟩
theorem term_sum (w : World) : TermOk 39 #[] (fun x => ⟨x, 0⟩) w := fun w x _ => sumTerm_one x.1 w
theorem spSum_any (L : List Sx) (ao : Option Addr) (cap : Nat) (w : World) (hs : SlAt w (.slice ao L.length cap) L.length (L.flatMap Sx.cells)) :
    Calls Try.prog 17 #[.slice ao L.length cap] w fun e w' => e = .returned (.tuple #[.agg #[.int .i64 (sumCR (valsS L)).s.lo, .int .i64 (sumCR (valsS L)).s.hi], .int .i64 (sumCR (valsS L)).e]) ∧ Grew w w' := by
  have hlen : (valsS L).length = L.length := by simp [valsS]
  have Hs := Lib.hid hs
  clear hs
  have Hsc := Lib.hid (cellsS L)
  have Hfew := Lib.hid (show ∀ (b : Nat) (w : World), w.cell? ⟨b, 0, none⟩ = some (.slice ao L.length cap) → SlAt w (.slice ao L.length cap) L.length (L.flatMap Sx.cells) → Calls Try.prog 36 #[.slice (some ⟨b, 0, none⟩) 1 1] w fun e w' => e = .returned (.int .i64 (fewE (valsS L))) ∧ Grew w w' from fun b w hc h => by
    have := few_any (valsS L) ao cap b w (by rw [hlen]; exact hc) (by rw [hlen, ← cellsS]; exact h)
    exact this)
  by_cases hf : fewE (valsS L) = 0
  · have hn : sumCR (valsS L) = foldR (fun x => ⟨x, 0⟩) z0 (valsS L) := by
      unfold fewE at hf
      unfold sumCR
      split at hf
      · rename_i h
        rw [if_pos h]
        cases h2 : (valsS L).all Sp.okB
        · rw [h2] at hf; cases hf
        · rfl
      · cases hf
    have Hn := Lib.hid hn
    clear hn
    rw [hf] at Hfew
    clear hf hlen
    have Hfold := Lib.hid (show ∀ (Bs : Nat) (w : World), w.cell? ⟨Bs, 0, none⟩ = some (.slice ao L.length cap) → SlAt w (.slice ao L.length cap) L.length (L.flatMap Sx.cells) → Calls Try.prog 37 #[.func (.func 61) #[] #[.pointer (some ⟨Bs, 0, none⟩)], .func (.func 39) #[] #[]] w fun e w' => e = .returned (.tuple #[.agg #[.int .i64 (foldR (fun x => ⟨x, 0⟩) z0 (valsS L)).s.lo, .int .i64 (foldR (fun x => ⟨x, 0⟩) z0 (valsS L)).s.hi], .int .i64 (foldR (fun x => ⟨x, 0⟩) z0 (valsS L)).e]) ∧ Grew w w' from
      fun Bs w hc h => fold_any (fun x => ⟨x, 0⟩) (fun x hx => hx) 39 #[] (enters_of Try.func39 (by kernel_rfl) rfl) L Bs _ w hc h (term_sum w))
    generalize foldR (fun x => (⟨x, 0⟩ : Res)) z0 (valsS L) = r at *
    go_enter Try.func17, Try.ntmps17
    go_wp2_with (first | (go_at_call 36; (with_reducible refine call_later (Hfew.out _ _ (by go_simp) (Hs.out.grew (by repeat (first | with_reducible exact Grew.refl _ | with_reducible apply Grew.alloc | with_reducible apply Grew.later | with_reducible apply Grew.drew | with_reducible apply Grew.store | with_reducible assumption)))) ?_); intro u) | (go_at_call 37; (with_reducible refine call_later (Hfold.out _ _ (by go_simp) (Hs.out.grew (by repeat (first | with_reducible exact Grew.refl _ | with_reducible apply Grew.alloc | with_reducible apply Grew.later | with_reducible apply Grew.drew | with_reducible apply Grew.store | with_reducible assumption)))) ?_); intro u) | (go_at_call 38; refine (spAll_any _ _ _ _).mono ?_; rintro e w' ⟨rfl, rfl⟩) | ((with_reducible refine wp_region_later ?_ ?_ ?_); (· kernel_rfl); (· kernel_rfl); (repeat (go_big_quiet_step ((first | (go_at_call 36; (with_reducible exact call_quiet (Hfew.out _ _ (by go_simp) (Hs.out.grew (by repeat (first | with_reducible exact Grew.refl _ | with_reducible apply Grew.alloc | with_reducible apply Grew.later | with_reducible apply Grew.drew | with_reducible apply Grew.store | with_reducible assumption)))))) | (go_at_call 37; (with_reducible exact call_quiet (Hfold.out _ _ (by go_simp) (Hs.out.grew (by repeat (first | with_reducible exact Grew.refl _ | with_reducible apply Grew.alloc | with_reducible apply Grew.later | with_reducible apply Grew.drew | with_reducible apply Grew.store | with_reducible assumption)))))))))); refine wpQuiet_nil ?_; rintro _ ⟨u, rfl⟩))
    refine bodyPost_ret (by (simp [results, Try.results17, go_sem] <;> rfl)) rfl ?_
    exact ⟨ret_res (by rw [Hn.out]), (by repeat (first | with_reducible exact Grew.refl _ | with_reducible apply Grew.alloc | with_reducible apply Grew.later | with_reducible apply Grew.drew | with_reducible apply Grew.store | with_reducible assumption))⟩
  · have hn : sumCR (valsS L) = errR (fewE (valsS L)) := by
      unfold fewE at hf ⊢
      unfold sumCR
      split at hf
      · rename_i h
        rw [if_pos h]
        cases h2 : (valsS L).all Sp.okB
        · rw [if_pos h]; rfl
        · rw [h2] at hf; exact absurd rfl hf
      · rename_i h
        rw [if_neg h, if_neg h]
    have Hn := Lib.hid hn
    have hf' : (fewE (valsS L) != 0) = true := by simp [hf]
    clear hn hf hlen
    generalize fewE (valsS L) = c at *
    go_enter Try.func17, Try.ntmps17
    go_wp2_with (first | (go_at_call 36; (with_reducible refine call_later (Hfew.out _ _ (by go_simp) (Hs.out.grew (by repeat (first | with_reducible exact Grew.refl _ | with_reducible apply Grew.alloc | with_reducible apply Grew.later | with_reducible apply Grew.drew | with_reducible apply Grew.store | with_reducible assumption)))) ?_); intro u) | ((with_reducible refine wp_region_later ?_ ?_ ?_); (· kernel_rfl); (· kernel_rfl); (repeat (go_big_quiet_step ((first | (go_at_call 36; (with_reducible exact call_quiet (Hfew.out _ _ (by go_simp) (Hs.out.grew (by repeat (first | with_reducible exact Grew.refl _ | with_reducible apply Grew.alloc | with_reducible apply Grew.later | with_reducible apply Grew.drew | with_reducible apply Grew.store | with_reducible assumption)))))))))); refine wpQuiet_nil ?_; rintro _ ⟨u, rfl⟩))
    refine bodyPost_ret (by (simp [results, Try.results17, go_sem] <;> rfl)) rfl ?_
    exact ⟨ret_err Hn.out.symm rfl, (by repeat (first | with_reducible exact Grew.refl _ | with_reducible apply Grew.alloc | with_reducible apply Grew.later | with_reducible apply Grew.drew | with_reducible apply Grew.store | with_reducible assumption))⟩
end Go.Proofs.Ytjnednehcjfkmaa
