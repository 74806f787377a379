/-
  AbortPhases: for every plan and flight (at most 60 of each), abort.Phases and ullageref11.Phases hand back the same phases, or the same error. No condition.
-/
import Derived.Test.YtdanaclplmacgaaAbPhasesW
import Derived.Test.YtdanaclplmacgaaOpenApi
import Derived.Test.YtdanaclplmacgaaRows
namespace Go.Proofs.Ytdanaclplmacgaa
open Go.RowKit
set_option maxRecDepth 100000
set_option maxHeartbeats 16000000
theorem samePhases_any (l : List Ph) (v1 v2 : Value) (w : World) (h1 : SlAt w v1 l.length (l.flatMap Ph.cells)) (h2 : SlAt w v2 l.length (l.flatMap Ph.cells)) : Calls Try.prog 42 #[v1, v2] w fun e w' => e = .returned (.bool true) ∧ Grew w w' := by
  obtain ⟨ao1, cap1, rfl, hm, hc1⟩ := h1
  obtain ⟨ao2, cap2, rfl, -, hc2⟩ := h2
  unfold maxLen at hm
  have Hc1 := Lib.hid (SlAt.elem (f := Ph.cells) (c := 5) (fun _ => rfl) (by omega) hc1)
  have Hc2 := Lib.hid (SlAt.elem (f := Ph.cells) (c := 5) (fun _ => rfl) (by omega) hc2)
  clear hc1 hc2
  go_enter Try.func42, Try.ntmps42
  go_wp2
  go_loopw [5] (fun t wr => ∃ k : Nat, t = .int .i64 k ∧ k ≤ l.length ∧ Grew w wr) (fun t _ => l.length - (intOf t).toNat)
  case atStart => exact ⟨0, rfl, by omega, Grew.refl _⟩
  case round =>
    obtain ⟨k, rfl, hk, hg⟩ := hrel
    obtain ⟨x, rfl⟩ := later_of hg
    clear hg
    by_cases hlt : k < l.length
    · obtain ⟨b1, o1, rfl, i1, hd, hd2⟩ := Hc1.out k hlt
      obtain ⟨b2, o2, rfl, i2, he, he2⟩ := Hc2.out k hlt
      have hd0 := hd _ rfl
      have hd1 := hd2 1 _ rfl
      have hd3 := hd2 2 _ rfl
      have hd4 := hd2 3 _ rfl
      have hd5 := hd2 4 _ rfl
      have he0 := he _ rfl
      have he1 := he2 1 _ rfl
      have he3 := he2 2 _ rfl
      have he4 := he2 3 _ rfl
      have he5 := he2 4 _ rfl
      clear hd hd2 he he2
      have i1 : BlockIn w b1 := ⟨i1⟩
      have i2 : BlockIn w b2 := ⟨i2⟩
      generalize l[k] = p at *
      go_wp2_with (first | ((with_reducible refine wp_region_later ?_ ?_ ?_); (· kernel_rfl); (· kernel_rfl); (repeat (go_big_quiet_step (fail))); refine wpQuiet_nil ?_; rintro _ ⟨u, rfl⟩))
      go_roundw
      case rel => exact ⟨k + 1, by go_num, by omega, x.grew.later _⟩
      case measure => simp [intOf]; omega
    · go_wp2
      go_ret
      exact ⟨rfl, x.grew⟩
theorem abPhases_any (P : List Int) (T : List Tube) (v1 v2 : Value) (w : World) (hP : SlAt w v1 P.length (P.flatMap intC)) (hT : SlAt w v2 T.length (T.flatMap Tube.cells)) : Calls Try.prog 40 #[v1, v2] w (RetPh (phasesCode P T) (phasesL P T) w) := by
  by_cases hc : phasesCode P T = 0
  · have h := hc
    unfold phasesCode at h
    split at h
    · rename_i hl
      split at h
      · rename_i ha
        exact abPhases_run P T v1 v2 w hP hT hl.1 ha.1 ha.2.1 ha.2.2 hc
      · exact absurd h (by decide)
    · exact absurd h (by decide)
  · exact abPhases_bad P T v1 v2 w hP hT hc
theorem phases_walk (P : List Int) (T : List Tube) (v1 v2 : Value) (w : World) (hP : SlAt w v1 P.length (P.flatMap intC)) (hT : SlAt w v2 T.length (T.flatMap Tube.cells)) : Calls Try.prog 8 #[v1, v2] w fun e w' => e = .returned (.bool true) ∧ Grew w w' := by
  have H1 := Lib.hid (fun w' (g : Grew w w') => abPhases_any P T v1 v2 w' (hP.grew g) (hT.grew g))
  have H2 := Lib.hid (fun w' (g : Grew w w') => r11Phases_any P T v1 v2 w' (hP.grew g) (hT.grew g))
  obtain ⟨ao1, cap1, rfl, hm1, -⟩ := hP
  obtain ⟨ao2, cap2, rfl, hm2, -⟩ := hT
  unfold maxLen at hm1 hm2
  by_cases l1 : P.length ≤ 60
  · by_cases l2 : T.length ≤ 60
    · have l1' : decide ((60 : Int) < P.length) = false := by simp; omega
      have l2' : decide ((60 : Int) < T.length) = false := by simp; omega
      clear l1 l2
      generalize phasesCode P T = c at *
      generalize phasesL P T = l at *
      go_enter Try.func8, Try.ntmps8
      go_wp2_with (first | (go_at_call 40; (with_reducible refine (H1.out _ (by repeat (first | with_reducible exact Grew.refl _ | with_reducible apply Grew.alloc | with_reducible apply Grew.later | with_reducible apply Grew.drew | with_reducible apply Grew.store | with_reducible assumption))).mono ?_); rintro e w1 ⟨va, rfl, sa, ga⟩; obtain ⟨u1, rfl⟩ := later_of ga; clear ga) | (go_at_call 41; (with_reducible refine (H2.out _ (by repeat (first | with_reducible exact Grew.refl _ | with_reducible apply Grew.alloc | with_reducible apply Grew.later | with_reducible apply Grew.drew | with_reducible apply Grew.store | with_reducible assumption))).mono ?_); rintro e w2 ⟨vb, rfl, sb, gb⟩; obtain ⟨u2, rfl⟩ := later_of gb; clear gb) | (go_at_call 42; (with_reducible refine call_later (samePhases_any l va vb _ (sa.grew (by repeat (first | with_reducible exact Grew.refl _ | with_reducible apply Grew.alloc | with_reducible apply Grew.later | with_reducible apply Grew.drew | with_reducible apply Grew.store | with_reducible assumption))) (sb.grew (by repeat (first | with_reducible exact Grew.refl _ | with_reducible apply Grew.alloc | with_reducible apply Grew.later | with_reducible apply Grew.drew | with_reducible apply Grew.store | with_reducible assumption)))) ?_); intro u3))
      all_goals go_ret
      all_goals exact ⟨rfl, (by repeat (first | with_reducible exact Grew.refl _ | with_reducible apply Grew.alloc | with_reducible apply Grew.later | with_reducible apply Grew.drew | with_reducible apply Grew.store | with_reducible assumption))⟩
    · have l1' : decide ((60 : Int) < P.length) = false := by simp; omega
      have l2' : decide ((60 : Int) < T.length) = true := by simp; omega
      clear l2
      go_enter Try.func8, Try.ntmps8
      go_wp2
      go_ret
      exact ⟨rfl, (by repeat (first | with_reducible exact Grew.refl _ | with_reducible apply Grew.alloc | with_reducible apply Grew.later | with_reducible apply Grew.drew | with_reducible apply Grew.store | with_reducible assumption))⟩
  · have l1' : decide ((60 : Int) < P.length) = true := by simp; omega
    clear l1
    go_enter Try.func8, Try.ntmps8
    go_wp2
    go_ret
    exact ⟨rfl, (by repeat (first | with_reducible exact Grew.refl _ | with_reducible apply Grew.alloc | with_reducible apply Grew.later | with_reducible apply Grew.drew | with_reducible apply Grew.store | with_reducible assumption))⟩
section
variable {H : Type} {enc : TypeId × Value → H} {w : World} {base : Nat} {spare : Nat → Bool} {held : Bool} {fuel : Nat} {cs : List Value} {x : DataW H × List MemPlace}
theorem ints_trod (h : DataW.trod enc Try.prog w base spare held fuel 41 cs = some x) : ∃ (ao : Option Addr) (cap : Nat) (l : List Int), cs = [.slice ao l.length cap] ∧ SlAt w (.slice ao l.length cap) l.length (l.flatMap intC) := by
  obtain ⟨ao, n, cap, l, e, hn, h1, h2⟩ := slice_trod intC (c := 1) (fun _ => rfl) (fun _ => True) Try.underlying41 (by kernel_rfl) (fun m cs' x' h' => by
    obtain ⟨k, e, -⟩ := DataW.trod_int Try.underlying3 h'
    exact ⟨k, e, trivial⟩) h
  subst hn
  exact ⟨ao, cap, l, e, h1⟩
theorem tubes_trod2 (h : DataW.trod enc Try.prog w base spare held fuel 80 cs = some x) : ∃ (ao : Option Addr) (cap : Nat) (l : List Tube), cs = [.slice ao l.length cap] ∧ SlAt w (.slice ao l.length cap) l.length (l.flatMap Tube.cells) := by
  obtain ⟨ao, n, cap, l, e, hn, h1, h2⟩ := slice_trod Tube.cells (c := 16) (fun _ => rfl) (fun _ => True) Try.underlying80 (by kernel_rfl) (fun m cs' x' h' => by
    obtain ⟨a, e, -⟩ := tube_trod h'
    exact ⟨a, e, trivial⟩) h
  subst hn
  exact ⟨ao, cap, l, e, h1⟩
end
namespace abortPhasesRow
open Go.ChangeShapes Go.WideShapes Go.ChangeAt Go.RowKit
theorem own : ownKnob Try.prog.godebug = none := by kernel_rfl
theorem lifted (os : Os) (started : os.Started) (H : Type) (enc : TypeId × Value → H) :
    ReturnsInHanded {} Try.checked os 8 .any (Rows.abortPhasesSpec.pre6 enc Try.prog Try.f8 Rows.abortPhasesRow.domain false) (Rows.abortPhasesSpec.post enc Try.prog Try.f8 false true false false) := by
  refine returnsInHanded_of_change (C := Try.checked) own started (by kernel_rfl) Try.func8
    (ChangeSpec.witness6 (enc := enc) (C := Try.checked) false ⟨#[], #[.slice none 0 0, .slice none 0 0], []⟩ 8 (by as_aux_lemma => kernel_rfl) (by as_aux_lemma => kernel_rfl) (by as_aux_lemma => kernel_rfl) (by as_aux_lemma => kernel_rfl)) ?_
  intro W base args ds gs before hval0 hW _ _
  have hval : ∀ (j : Nat) t v, Try.f8.params[j]? = some t → args[j]? = some v → Value.okWide Try.prog W .any base t v := hval0
  have hW' := hW
  obtain ⟨p, q, hA0, hV, rfl, hfz, hnd⟩ := hW
  have hA : DataW.TrodAll enc Try.prog W 0 (fun _ => true) true Try.f8.params.toList args.toList ds p := hA0
  rw [Try.params8] at hA hval
  obtain ⟨v0, vs0, d0, ds0, p0, q0, hargs, rfl, rfl, h0, r0⟩ := trodAll_cons hA
  obtain ⟨v1, vs1, d1, ds1, p1, q1, rfl, rfl, rfl, h1, r1⟩ := trodAll_cons r0
  obtain ⟨rfl, rfl, rfl⟩ := trodAll_nil r1
  obtain rfl : args = #[v0, v1] := by cases args; simp_all
  obtain ⟨rfl, rfl⟩ := trodVars_none hV
  obtain ⟨ao0, n0, cap0, rfl⟩ := okWide_slice Try.underlying41 (hval 0 41 v0 rfl rfl)
  obtain ⟨ao1, n1, cap1, rfl⟩ := okWide_slice Try.underlying80 (hval 1 80 v1 rfl rfl)
  obtain ⟨_, h0⟩ := h0
  obtain ⟨_, h1⟩ := h1
  obtain ⟨aoP, capP, P, eP, hP⟩ := ints_trod h0
  obtain ⟨aoT, capT, T, eT, hT⟩ := tubes_trod2 h1
  rw [← (by simpa [Value.cells] using eP : Value.slice ao0 n0 cap0 = .slice aoP P.length capP)] at hP
  rw [← (by simpa [Value.cells] using eT : Value.slice ao1 n1 cap1 = .slice aoT T.length capT)] at hT
  refine (phases_walk P T _ _ W hP hT).mono fun e W' ⟨he, hg⟩ => ?_
  subst he
  exact ⟨_, rfl, law_post (by kernel_rfl) (by kernel_rfl) rfl rfl Try.underlying4 hW' rfl hg⟩
theorem proved : Rows.AbortPhasesSaid :=
  OpenClaim.holds_of_wide 8 Try.f8 rfl rfl rfl rfl rfl rfl rfl ⟨rfl, rfl, rfl, rfl, rfl⟩ rfl rfl rfl rfl rfl (by as_aux_lemma => kernel_rfl) Try.func8 (by as_aux_lemma => kernel_rfl)
    (of_decide_eq_true (by as_aux_lemma => kernel_rfl)) (by unfold Func.isWrapper; first | (rw [if_pos (by decide +kernel)]; kernel_rfl) | (rw [if_neg (by decide +kernel)]; exact ⟨rfl, rfl⟩))
    (fun os started H enc _ => lifted os started H enc)
end abortPhasesRow
end Go.Proofs.Ytdanaclplmacgaa
