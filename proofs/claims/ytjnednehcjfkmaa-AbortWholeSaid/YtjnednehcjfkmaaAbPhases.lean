/-
  Contracts: abort's Phases.
-/
import Derived.Test.YtjnednehcjfkmaaRuns
import Derived.Test.YtjnednehcjfkmaaRefPhases
import Derived.Maps.AppendAt
namespace Go.Proofs.Ytjnednehcjfkmaa
open Go.RowKit Go.Shelf
set_option maxRecDepth 100000
set_option maxHeartbeats 8000000
attribute [local go_sem] Oper.semAt_some
theorem pick_ok (w0 : World) : PredOk 46 #[] pickB w0 := by
  intro w x _
  go_enter Try.func46, Try.ntmps46
  go_wp2
  all_goals go_ret
  all_goals exact ⟨ret_bool (by (first | (simp [pickB, *]; done) | (simp [pickB, *] <;> omega) | (simp [pickB, *]; omega))), (by repeat (first | with_reducible exact Grew.refl _ | with_reducible apply Grew.alloc | with_reducible apply Grew.later | with_reducible apply Grew.drew | with_reducible apply Grew.store | with_reducible assumption))⟩
theorem every_pick (P : List Int) (v : Value) (w : World) (h : SlAt w v P.length (P.flatMap intC)) : Calls Try.prog 45 #[v, .func (.func 46) #[] #[]] w fun e w' => e = .returned (.bool (P.all pickB)) ∧ Grew w w' :=
  everyInt_any pickB 46 #[] (enters_of Try.func46 (by kernel_rfl) rfl) P v w h (pick_ok w)
theorem abPhases_bad (P : List Int) (T : List Tube) (v1 v2 : Value) (w : World) (hP : SlAt w v1 P.length (P.flatMap intC)) (hT : SlAt w v2 T.length (T.flatMap Tube.cells)) (hc : phasesCode P T ≠ 0) : Calls Try.prog 20 #[v1, v2] w (RetPh (phasesCode P T) (phasesL P T) w) := by
  have HF := Lib.hid (fun w' (g : Grew w w') => abFlown_any T _ w' (hT.grew g))
  have HV := Lib.hid (fun w' (g : Grew w w') => every_pick P _ w' (hP.grew g))
  have hm1 := hP.len_le
  have hm2 := hT.len_le
  unfold maxLen at hm1 hm2
  obtain ⟨ao1, cap1, rfl, -, -⟩ := hP
  obtain ⟨ao2, cap2, rfl, -, -⟩ := hT
  by_cases l1 : 4096 < P.length
  · have HR := Lib.hid (ph_long (P := P) (T := T) (.inl l1))
    have l1' : decide ((4096 : Int) < P.length) = true := by simp; omega
    clear l1 hc
    go_enter Try.func20, Try.ntmps20
    go_wp2
    go_ret2
    exact RetPh.nil HR.out (by decide) (by repeat (first | with_reducible exact Grew.refl _ | with_reducible apply Grew.alloc | with_reducible apply Grew.later | with_reducible apply Grew.drew | with_reducible apply Grew.store | with_reducible assumption))
  have l1' : decide ((4096 : Int) < P.length) = false := by simp; omega
  by_cases l2 : 4096 < T.length
  · have HR := Lib.hid (ph_long (P := P) (T := T) (.inr l2))
    have l2' : decide ((4096 : Int) < T.length) = true := by simp; omega
    clear l2 hc
    go_enter Try.func20, Try.ntmps20
    go_wp2
    go_ret2
    exact RetPh.nil HR.out (by decide) (by repeat (first | with_reducible exact Grew.refl _ | with_reducible apply Grew.alloc | with_reducible apply Grew.later | with_reducible apply Grew.drew | with_reducible apply Grew.store | with_reducible assumption))
  have l2' : decide ((4096 : Int) < T.length) = false := by simp; omega
  cases hf : flownB T
  · have HR := Lib.hid (ph_arg (P := P) (T := T) (by omega) (by omega) (by rw [hf]; simp))
    clear hc
    go_enter Try.func20, Try.ntmps20
    go_wp2_with (first | (go_at_call 44; (with_reducible refine call_later (is_bool hf (HF.out _ (by repeat (first | with_reducible exact Grew.refl _ | with_reducible apply Grew.alloc | with_reducible apply Grew.later | with_reducible apply Grew.drew | with_reducible apply Grew.store | with_reducible assumption)))) ?_); intro u) | ((with_reducible refine wp_region_later ?_ ?_ ?_); (· kernel_rfl); (· kernel_rfl); (repeat (go_big_quiet_step ((first | (go_at_call 44; (with_reducible exact call_quiet (is_bool hf (HF.out _ (by repeat (first | with_reducible exact Grew.refl _ | with_reducible apply Grew.alloc | with_reducible apply Grew.later | with_reducible apply Grew.drew | with_reducible apply Grew.store | with_reducible assumption)))))))))); refine wpQuiet_nil ?_; rintro _ ⟨u, rfl⟩))
    go_ret2
    exact RetPh.nil HR.out (by decide) (by repeat (first | with_reducible exact Grew.refl _ | with_reducible apply Grew.alloc | with_reducible apply Grew.later | with_reducible apply Grew.drew | with_reducible apply Grew.store | with_reducible assumption))
  by_cases hl : P.length = T.length
  rotate_left
  · have HR := Lib.hid (ph_arg (P := P) (T := T) (by omega) (by omega) (by simp [hl]))
    have hl' : ((P.length : Int) != T.length) = true := by simp; omega
    clear hl hc
    go_enter Try.func20, Try.ntmps20
    go_wp2_with (first | (go_at_call 44; (with_reducible refine call_later (is_bool hf (HF.out _ (by repeat (first | with_reducible exact Grew.refl _ | with_reducible apply Grew.alloc | with_reducible apply Grew.later | with_reducible apply Grew.drew | with_reducible apply Grew.store | with_reducible assumption)))) ?_); intro u) | ((with_reducible refine wp_region_later ?_ ?_ ?_); (· kernel_rfl); (· kernel_rfl); (repeat (go_big_quiet_step ((first | (go_at_call 44; (with_reducible exact call_quiet (is_bool hf (HF.out _ (by repeat (first | with_reducible exact Grew.refl _ | with_reducible apply Grew.alloc | with_reducible apply Grew.later | with_reducible apply Grew.drew | with_reducible apply Grew.store | with_reducible assumption)))))))))); refine wpQuiet_nil ?_; rintro _ ⟨u, rfl⟩))
    go_ret2
    exact RetPh.nil HR.out (by decide) (by repeat (first | with_reducible exact Grew.refl _ | with_reducible apply Grew.alloc | with_reducible apply Grew.later | with_reducible apply Grew.drew | with_reducible apply Grew.store | with_reducible assumption))
  have hl' : ((P.length : Int) != T.length) = false := by simp [hl]
  cases ha : P.all pickB
  · have HR := Lib.hid (ph_arg (P := P) (T := T) (by omega) (by omega) (by rw [ha]; simp))
    clear hl hc
    go_enter Try.func20, Try.ntmps20
    go_wp2_with (first | (go_at_call 44; (with_reducible refine call_later (is_bool hf (HF.out _ (by repeat (first | with_reducible exact Grew.refl _ | with_reducible apply Grew.alloc | with_reducible apply Grew.later | with_reducible apply Grew.drew | with_reducible apply Grew.store | with_reducible assumption)))) ?_); intro u) | (go_at_call 45; (with_reducible refine call_later (is_bool ha (HV.out _ (by repeat (first | with_reducible exact Grew.refl _ | with_reducible apply Grew.alloc | with_reducible apply Grew.later | with_reducible apply Grew.drew | with_reducible apply Grew.store | with_reducible assumption)))) ?_); intro u) | ((with_reducible refine wp_region_later ?_ ?_ ?_); (· kernel_rfl); (· kernel_rfl); (repeat (go_big_quiet_step ((first | (go_at_call 44; (with_reducible exact call_quiet (is_bool hf (HF.out _ (by repeat (first | with_reducible exact Grew.refl _ | with_reducible apply Grew.alloc | with_reducible apply Grew.later | with_reducible apply Grew.drew | with_reducible apply Grew.store | with_reducible assumption)))))) | (go_at_call 45; (with_reducible exact call_quiet (is_bool ha (HV.out _ (by repeat (first | with_reducible exact Grew.refl _ | with_reducible apply Grew.alloc | with_reducible apply Grew.later | with_reducible apply Grew.drew | with_reducible apply Grew.store | with_reducible assumption)))))))))); refine wpQuiet_nil ?_; rintro _ ⟨u, rfl⟩))
    go_ret2
    exact RetPh.nil HR.out (by decide) (by repeat (first | with_reducible exact Grew.refl _ | with_reducible apply Grew.alloc | with_reducible apply Grew.later | with_reducible apply Grew.drew | with_reducible apply Grew.store | with_reducible assumption))
  · exact absurd (ph_ok (by omega) (by omega) ⟨hf, hl, ha⟩) hc
end Go.Proofs.Ytjnednehcjfkmaa
