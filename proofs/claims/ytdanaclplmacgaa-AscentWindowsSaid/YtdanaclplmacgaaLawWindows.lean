/-
  AscentWindows: for every window and times, ascent.Slots and ullageref04.Slots hand back the same slots or the same error, and both say alike whether a window contains a time. No condition.
-/
import Derived.Test.YtdanaclplmacgaaSame04
import Derived.Test.YtdanaclplmacgaaOpen
import Derived.Test.YtdanaclplmacgaaRows
namespace Go.Proofs.Ytdanaclplmacgaa
open Go.RowKit
set_option maxRecDepth 100000

theorem slots_any (P F L a z : Int) (w : World) :
    Calls Try.prog 14 #[.agg #[.int .i64 P, .int .i64 F, .int .i64 L], .int .i64 a, .int .i64 z] w (RetSl (slotsCode P F L a z) (slotsList P F L a z) w) := by
  cases h : slotsArg P F L a z with
  | false =>
    rw [show slotsCode P F L a z = 2 by simp [slotsCode, h], show slotsList P F L a z = [] by simp [slotsList, slotsCode, h]]
    exact slots_bad P F L a z w h
  | true =>
    have h' := h
    simp only [slotsArg, Bool.and_eq_true, decide_eq_true_eq] at h'
    obtain ⟨⟨⟨h1, h2⟩, h3⟩, h4⟩ := h'
    by_cases h5 : L = P ∧ a < z
    · have hf : slotsFull P F L a z = [(a, z)] := by unfold slotsFull; rw [if_pos h5]
      rw [show slotsCode P F L a z = 0 by simp [slotsCode, h, hf], show slotsList P F L a z = [(a, z)] by simp [slotsList, slotsCode, h, hf]]
      exact slots_full P F L a z w h1 h2 h3 h5.1 h5.2
    · rw [show slotsCode P F L a z = allCode P F L a z by simp [slotsCode, h, slotsFull, h5, allCode], show slotsList P F L a z = allList P F L a z by by_cases hl : (slotsAll P F L a z).length ≤ 4096 <;> simp [slotsList, slotsCode, h, slotsFull, h5, allList, hl]]
      exact slots_run P F L a z w h1 h2 h3 h4 h5
theorem refSlots_any (P F L a z : Int) (w : World) :
    Calls Try.prog 15 #[.agg #[.int .i64 P, .int .i64 F, .int .i64 L], .int .i64 a, .int .i64 z] w (RetSl (slotsCode P F L a z) (slotsList P F L a z) w) := by
  cases h : slotsArg P F L a z with
  | false =>
    rw [show slotsCode P F L a z = 2 by simp [slotsCode, h], show slotsList P F L a z = [] by simp [slotsList, slotsCode, h]]
    exact refSlots_bad P F L a z w h
  | true =>
    have h' := h
    simp only [slotsArg, Bool.and_eq_true, decide_eq_true_eq] at h'
    obtain ⟨⟨⟨h1, h2⟩, h3⟩, h4⟩ := h'
    rw [show slotsCode P F L a z = fullCode P F L a z by simp [slotsCode, h, fullCode], show slotsList P F L a z = fullList P F L a z by by_cases hl : (slotsFull P F L a z).length ≤ 4096 <;> simp [slotsList, slotsCode, h, fullList, hl]]
    exact refSlots_run P F L a z w h1 h2 h3 h4

theorem windows_walk (P F L a z t : Int) (w : World) :
    Calls Try.prog 3 #[.agg #[.int .i64 P, .int .i64 F, .int .i64 L], .int .i64 a, .int .i64 z, .int .i64 t] w fun e w' => e = .returned (.bool true) ∧ Grew w w' := by
  go_enter Try.func3, Try.ntmps3
  go_wp2_with fail
  refine (slots_any _ _ _ _ _ _).mono ?_
  rintro e w1 ⟨v1, rfl, hs1, hg1⟩
  obtain ⟨u1, rfl⟩ := later_of hg1
  clear hg1
  have Hs1 := Lib.hid hs1
  clear hs1
  go_wp2_with fail
  refine (refSlots_any _ _ _ _ _ _).mono ?_
  rintro e w1 ⟨v2, rfl, hs2, hg2⟩
  obtain ⟨u2, rfl⟩ := later_of hg2
  clear hg2
  have Hs2 := Lib.hid hs2
  clear hs2
  go_wp2_with (first | (go_at_call 16; (with_reducible refine call_later (contains_any _ _ _ _ _) ?_); intro u) | (go_at_call 17; (with_reducible refine call_later (refContains_any _ _ _ _ _) ?_); intro u) | (go_at_call 18; (with_reducible refine call_later (sameSlots_same (slotsList P F L a z) v1 v2 _ (Hs1.out.grew (by repeat (first | exact Grew.refl _ | apply Grew.alloc | apply Grew.later | apply Grew.drew))) (Hs2.out.grew (by repeat (first | exact Grew.refl _ | apply Grew.alloc | apply Grew.later | apply Grew.drew)))) ?_); intro u) | (refine wp_region_later (by kernel_rfl) (by kernel_rfl) ?_; (repeat (go_big_quiet_step ((first | (go_at_call 16; (with_reducible exact call_quiet (contains_any _ _ _ _ _))) | (go_at_call 17; (with_reducible exact call_quiet (refContains_any _ _ _ _ _))) | (go_at_call 18; (with_reducible exact call_quiet (sameSlots_same (slotsList P F L a z) v1 v2 _ (Hs1.out.grew (by repeat (first | exact Grew.refl _ | apply Grew.alloc | apply Grew.later | apply Grew.drew))) (Hs2.out.grew (by repeat (first | exact Grew.refl _ | apply Grew.alloc | apply Grew.later | apply Grew.drew)))))))))); refine wpQuiet_nil ?_; rintro _ ⟨u, rfl⟩))
  all_goals go_ret
  all_goals exact ⟨rfl, (by repeat (first | exact Grew.refl _ | apply Grew.alloc | apply Grew.later | apply Grew.drew))⟩

namespace lawWindows
open Go.ChangeShapes Go.WideShapes Go.ChangeAt Go.RowKit
theorem own : ownKnob Try.prog.godebug = none := by kernel_rfl
theorem lifted (os : Os) (started : os.Started) (H : Type) (enc : TypeId × Value → H) :
    ReturnsInHanded {} Try.checked os 3 .any (Rows.ascentWindowsSpec.pre6 enc Try.prog Try.f3 Rows.ascentWindowsRow.domain false) (Rows.ascentWindowsSpec.post enc Try.prog Try.f3 false true false false) := by
  refine returnsInHanded_of_change (C := Try.checked) own started (by kernel_rfl) Try.func3
    (ChangeSpec.witness6 (enc := enc) (C := Try.checked) false ⟨#[], #[.agg #[.int .i64 0, .int .i64 0, .int .i64 0], .int .i64 0, .int .i64 0, .int .i64 0], []⟩ 8 (by kernel_rfl) (by kernel_rfl) (by kernel_rfl) (by kernel_rfl)) ?_
  intro W base args ds gs before hval0 hW _ _
  have hval : ∀ (j : Nat) t v, Try.f3.params[j]? = some t → args[j]? = some v → Value.okWide Try.prog W .any base t v := hval0
  have hW' := hW
  obtain ⟨p, q, hA0, hV, rfl, hfz, hnd⟩ := hW
  have hA : DataW.TrodAll enc Try.prog W 0 (fun _ => true) true Try.f3.params.toList args.toList ds p := hA0
  rw [Try.params3] at hA hval
  obtain ⟨v0, vs0, d0, ds0, p0, q0, hargs, rfl, rfl, h0, r0⟩ := trodAll_cons hA
  obtain ⟨v1, vs1, d1, ds1, p1, q1, rfl, rfl, rfl, h1, r1⟩ := trodAll_cons r0
  obtain ⟨v2, vs2, d2, ds2, p2, q2, rfl, rfl, rfl, h2, r2⟩ := trodAll_cons r1
  obtain ⟨v3, vs3, d3, ds3, p3, q3, rfl, rfl, rfl, h3, r3⟩ := trodAll_cons r2
  obtain ⟨rfl, rfl, rfl⟩ := trodAll_nil r3
  obtain rfl : args = #[v0, v1, v2, v3] := by cases args; simp_all
  obtain ⟨rfl, rfl⟩ := trodVars_none hV
  obtain ⟨ns0, rfl, hl0, hb0⟩ := open_flat 3 (by kernel_rfl) Try.underlying23 (hval 0 23 v0 rfl rfl) h0
  obtain ⟨a1, rfl, -, -⟩ := open_num Try.underlying3 (hval 1 3 v1 rfl rfl) h1
  obtain ⟨a2, rfl, -, -⟩ := open_num Try.underlying3 (hval 2 3 v2 rfl rfl) h2
  obtain ⟨a3, rfl, -, -⟩ := open_num Try.underlying3 (hval 3 3 v3 rfl rfl) h3
  obtain ⟨P, F, L, rfl⟩ := list3 hl0
  refine (windows_walk P F L a1 a2 a3 W).mono fun e W' ⟨he, hg⟩ => ?_
  subst he
  exact ⟨_, rfl, law_post (by kernel_rfl) (by kernel_rfl) rfl rfl Try.underlying4 hW' rfl hg⟩
theorem proved : Rows.AscentWindowsSaid :=
  OpenClaim.holds_of_wide 3 Try.f3 rfl rfl rfl rfl rfl rfl rfl ⟨rfl, rfl, rfl, rfl, rfl⟩ rfl rfl rfl rfl rfl (by kernel_rfl) Try.func3 (by kernel_rfl)
    (of_decide_eq_true (by kernel_rfl)) (by unfold Func.isWrapper; first | (rw [if_pos (by decide +kernel)]; kernel_rfl) | (rw [if_neg (by decide +kernel)]; exact ⟨rfl, rfl⟩))
    (fun os started H enc _ => lifted os started H enc)
end lawWindows
end Go.Proofs.Ytdanaclplmacgaa
