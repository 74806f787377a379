/-
  PostCauses: for every list of sets (of at most 70) and number of sensors (at most 8, or more than 12), the causes, or the error, of post are those of ullageref13; the sets stay. No condition.
-/
import Derived.Test.YtgjikdhidakloaaCausePost
import Derived.Test.YtgjikdhidakloaaCopy
import Derived.Test.YtgjikdhidakloaaOpenApi
import Derived.Test.YtgjikdhidakloaaRows
namespace Go.Proofs.Ytgjikdhidakloaa
open Go.RowKit
set_option maxRecDepth 100000
set_option maxHeartbeats 16000000
theorem causes_walk (P : List Int) (n : Int) (v : Value) (w : World) (hP : SlAt w v P.length (P.flatMap intC)) : Calls Try.prog 6 #[v, .int .i64 n] w fun e w' => e = .returned (.bool true) ∧ Grew w w' := by
  have HP := Lib.hid hP
  have H2 := Lib.hid (fun (hn : n ≤ 8 ∨ 12 < n) w' (g : Grew w w') => r13Causes_any P n hn v w' (hP.grew g))
  have H1 := Lib.hid (fun (hn : n ≤ 8 ∨ 12 < n) V w' (h : SlAt w' V P.length (P.flatMap intC)) => postCauses_any P n hn V w' h)
  obtain ⟨ao, cap, rfl, hm⟩ := sl_form hP
  clear hP
  by_cases l1 : 70 < P.length
  · have l1' : (70 : Int) < P.length := by omega
    go_enter Try.func6, Try.ntmps6
    go_wp2
    go_ret
    exact ⟨rfl, (by repeat (first | with_reducible exact Grew.refl _ | with_reducible apply Grew.alloc | with_reducible apply Grew.later | with_reducible apply Grew.drew | with_reducible apply Grew.store | with_reducible assumption))⟩
  have l1' : ¬ ((70 : Int) < P.length) := by omega
  have hone : ∀ u ∈ P.flatMap intC, u.oneCell' = true := by
    intro u hu
    obtain ⟨x, -, hx⟩ := List.mem_flatMap.1 hu
    simp [intC] at hx
    subst hx
    rfl
  have hlen : (P.flatMap intC).length = P.length * 1 := by rw [intC_len, Nat.mul_one]
  have hby : P.length * 8 ≤ 140737488355328 := by omega
  have h0 : 0 < P.length ∨ P.length = 0 := by omega
  generalize causesR P n = r1 at *
  generalize causesCode P n = c1 at *
  clear l1 h0
  by_cases l8 : 8 < n
  · by_cases l12 : n ≤ 12
    · go_enter Try.func6, Try.ntmps6
      go_wp2
      go_ret
      exact ⟨rfl, (by repeat (first | with_reducible exact Grew.refl _ | with_reducible apply Grew.alloc | with_reducible apply Grew.later | with_reducible apply Grew.drew | with_reducible apply Grew.store | with_reducible assumption))⟩
    · have K1 := Lib.hid (H1.out (.inr (by omega)))
      have K2 := Lib.hid (H2.out (.inr (by omega)))
      clear H1 H2
      go_enter Try.func6, Try.ntmps6
      go_wp2_with (first
        | (at_builtin; refine wpList_copy w rfl _ _ 22 rfl 3 1 8 (.int .i64 0) Try.underlying22 infoInt rfl (by omega) rfl _ _ _ HP.out rfl hlen hone hby ?_; intro ao1 cap1 y hown)
        | (go_at_call 25; (with_reducible refine (K1.out _ _ (hown.grew (by repeat (first | with_reducible exact Grew.refl _ | with_reducible apply Grew.alloc | with_reducible apply Grew.later | with_reducible apply Grew.drew | with_reducible apply Grew.store | with_reducible assumption)))).mono ?_); rintro e w1 ⟨va, rfl, sa, ga⟩; obtain ⟨u1, rfl⟩ := later_of ga; clear ga)
        | (go_at_call 26; (with_reducible refine (K2.out _ (by repeat (first | with_reducible exact Grew.refl _ | with_reducible apply Grew.alloc | with_reducible apply Grew.later | with_reducible apply Grew.drew | with_reducible apply Grew.store | with_reducible assumption))).mono ?_); rintro e w2 ⟨vb, rfl, sb, gb⟩; obtain ⟨u2, rfl⟩ := later_of gb; clear gb)
        | (go_at_call 27; (with_reducible refine call_later (sameInts13_any _ va vb _ (sa.grew (by repeat (first | with_reducible exact Grew.refl _ | with_reducible apply Grew.alloc | with_reducible apply Grew.later | with_reducible apply Grew.drew | with_reducible apply Grew.store | with_reducible assumption))) (sb.grew (by repeat (first | with_reducible exact Grew.refl _ | with_reducible apply Grew.alloc | with_reducible apply Grew.later | with_reducible apply Grew.drew | with_reducible apply Grew.store | with_reducible assumption)))) ?_); intro u5)
        | (go_at_call 27; (with_reducible refine call_later (sameInts13_any _ _ _ _ (hown.grew (by repeat (first | with_reducible exact Grew.refl _ | with_reducible apply Grew.alloc | with_reducible apply Grew.later | with_reducible apply Grew.drew | with_reducible apply Grew.store | with_reducible assumption))) (HP.out.grew (by repeat (first | with_reducible exact Grew.refl _ | with_reducible apply Grew.alloc | with_reducible apply Grew.later | with_reducible apply Grew.drew | with_reducible apply Grew.store | with_reducible assumption)))) ?_); intro u7))
      all_goals go_ret
      all_goals exact ⟨rfl, (by repeat (first | with_reducible exact Grew.refl _ | with_reducible apply Grew.alloc | with_reducible apply Grew.later | with_reducible apply Grew.drew | with_reducible apply Grew.store | with_reducible assumption))⟩
  · have K1 := Lib.hid (H1.out (.inl (by omega)))
    have K2 := Lib.hid (H2.out (.inl (by omega)))
    clear H1 H2
    go_enter Try.func6, Try.ntmps6
    go_wp2_with (first
      | (at_builtin; refine wpList_copy w rfl _ _ 22 rfl 3 1 8 (.int .i64 0) Try.underlying22 infoInt rfl (by omega) rfl _ _ _ HP.out rfl hlen hone hby ?_; intro ao1 cap1 y hown)
      | (go_at_call 25; (with_reducible refine (K1.out _ _ (hown.grew (by repeat (first | with_reducible exact Grew.refl _ | with_reducible apply Grew.alloc | with_reducible apply Grew.later | with_reducible apply Grew.drew | with_reducible apply Grew.store | with_reducible assumption)))).mono ?_); rintro e w1 ⟨va, rfl, sa, ga⟩; obtain ⟨u1, rfl⟩ := later_of ga; clear ga)
      | (go_at_call 26; (with_reducible refine (K2.out _ (by repeat (first | with_reducible exact Grew.refl _ | with_reducible apply Grew.alloc | with_reducible apply Grew.later | with_reducible apply Grew.drew | with_reducible apply Grew.store | with_reducible assumption))).mono ?_); rintro e w2 ⟨vb, rfl, sb, gb⟩; obtain ⟨u2, rfl⟩ := later_of gb; clear gb)
      | (go_at_call 27; (with_reducible refine call_later (sameInts13_any _ va vb _ (sa.grew (by repeat (first | with_reducible exact Grew.refl _ | with_reducible apply Grew.alloc | with_reducible apply Grew.later | with_reducible apply Grew.drew | with_reducible apply Grew.store | with_reducible assumption))) (sb.grew (by repeat (first | with_reducible exact Grew.refl _ | with_reducible apply Grew.alloc | with_reducible apply Grew.later | with_reducible apply Grew.drew | with_reducible apply Grew.store | with_reducible assumption)))) ?_); intro u5)
      | (go_at_call 27; (with_reducible refine call_later (sameInts13_any _ _ _ _ (hown.grew (by repeat (first | with_reducible exact Grew.refl _ | with_reducible apply Grew.alloc | with_reducible apply Grew.later | with_reducible apply Grew.drew | with_reducible apply Grew.store | with_reducible assumption))) (HP.out.grew (by repeat (first | with_reducible exact Grew.refl _ | with_reducible apply Grew.alloc | with_reducible apply Grew.later | with_reducible apply Grew.drew | with_reducible apply Grew.store | with_reducible assumption)))) ?_); intro u7))
    all_goals go_ret
    all_goals exact ⟨rfl, (by repeat (first | with_reducible exact Grew.refl _ | with_reducible apply Grew.alloc | with_reducible apply Grew.later | with_reducible apply Grew.drew | with_reducible apply Grew.store | with_reducible assumption))⟩
section
variable {H : Type} {enc : TypeId × Value → H} {w : World} {base : Nat} {spare : Nat → Bool} {held : Bool} {fuel : Nat} {cs : List Value} {x : DataW H × List MemPlace}
theorem ints_trod13 (h : DataW.trod enc Try.prog w base spare held fuel 22 cs = some x) : ∃ (ao : Option Addr) (cap : Nat) (l : List Int), cs = [.slice ao l.length cap] ∧ SlAt w (.slice ao l.length cap) l.length (l.flatMap intC) := by
  obtain ⟨ao, n, cap, l, e, hn, h1, h2⟩ := slice_trod intC (c := 1) (fun _ => rfl) (fun _ => True) Try.underlying22 (by kernel_rfl) (fun m cs' x' h' => by
    obtain ⟨k, e, -⟩ := DataW.trod_int Try.underlying3 h'
    exact ⟨k, e, trivial⟩) h
  subst hn
  exact ⟨ao, cap, l, e, h1⟩
end
namespace postCausesRow
open Go.ChangeShapes Go.WideShapes Go.ChangeAt Go.RowKit
theorem own : ownKnob Try.prog.godebug = none := by kernel_rfl
theorem lifted (os : Os) (started : os.Started) (H : Type) (enc : TypeId × Value → H) :
    ReturnsInHanded {} Try.checked os 6 .any (Rows.postCausesSpec.pre6 enc Try.prog Try.f6 Rows.postCausesRow.domain false) (Rows.postCausesSpec.post enc Try.prog Try.f6 false true false false) := by
  refine returnsInHanded_of_change (C := Try.checked) own started (by kernel_rfl) Try.func6
    (ChangeSpec.witness6 (enc := enc) (C := Try.checked) false ⟨#[], #[.slice none 0 0, .int .i64 0], []⟩ 8 (by as_aux_lemma => kernel_rfl) (by as_aux_lemma => kernel_rfl) (by as_aux_lemma => kernel_rfl) (by as_aux_lemma => kernel_rfl)) ?_
  intro W base args ds gs before hval0 hW _ _
  have hval : ∀ (j : Nat) t v, Try.f6.params[j]? = some t → args[j]? = some v → Value.okWide Try.prog W .any base t v := hval0
  have hW' := hW
  obtain ⟨p, q, hA0, hV, rfl, hfz, hnd⟩ := hW
  have hA : DataW.TrodAll enc Try.prog W 0 (fun _ => true) true Try.f6.params.toList args.toList ds p := hA0
  rw [Try.params6] at hA hval
  obtain ⟨v0, vs0, d0, ds0, p0, q0, hargs, rfl, rfl, h0, r0⟩ := trodAll_cons hA
  obtain ⟨v1, vs1, d1, ds1, p1, q1, rfl, rfl, rfl, h1, r1⟩ := trodAll_cons r0
  obtain ⟨rfl, rfl, rfl⟩ := trodAll_nil r1
  obtain rfl : args = #[v0, v1] := by cases args; simp_all
  obtain ⟨rfl, rfl⟩ := trodVars_none hV
  obtain ⟨a1, rfl, -, -⟩ := open_num Try.underlying3 (hval 1 3 v1 rfl rfl) h1
  obtain ⟨ao0, n0, cap0, rfl⟩ := okWide_slice Try.underlying22 (hval 0 22 v0 rfl rfl)
  obtain ⟨_, h0⟩ := h0
  obtain ⟨aoP, capP, P, eP, hP⟩ := ints_trod13 h0
  rw [← (by simpa [Value.cells] using eP : Value.slice ao0 n0 cap0 = .slice aoP P.length capP)] at hP
  refine (causes_walk P a1 _ W hP).mono fun e W' ⟨he, hg⟩ => ?_
  subst he
  exact ⟨_, rfl, law_post (by kernel_rfl) (by kernel_rfl) rfl rfl Try.underlying4 hW' rfl hg⟩
theorem proved : Rows.PostCausesSaid :=
  OpenClaim.holds_of_wide 6 Try.f6 rfl rfl rfl rfl rfl rfl rfl ⟨rfl, rfl, rfl, rfl, rfl⟩ rfl rfl rfl rfl rfl (by as_aux_lemma => kernel_rfl) Try.func6 (by as_aux_lemma => kernel_rfl)
    (of_decide_eq_true (by as_aux_lemma => kernel_rfl)) (by unfold Func.isWrapper; first | (rw [if_pos (by decide +kernel)]; kernel_rfl) | (rw [if_neg (by decide +kernel)]; exact ⟨rfl, rfl⟩))
    (fun os started H enc _ => lifted os started H enc)
end postCausesRow
end Go.Proofs.Ytgjikdhidakloaa
