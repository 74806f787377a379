/-
  AbortClears: for every motion, number and number of pieces (at most 30, or out of its range), abort.Clear and abort.Separates hand back what ullageref11.Clear and ullageref11.Separates do. No condition.
-/
import Derived.Test.YtdanaclplmacgaaAbSep
import Derived.Test.YtdanaclplmacgaaRefSep
import Derived.Test.YtdanaclplmacgaaOpen
import Derived.Test.YtdanaclplmacgaaRows
namespace Go.Proofs.Ytdanaclplmacgaa
open Go.RowKit
set_option maxRecDepth 100000
set_option maxHeartbeats 16000000
theorem list19 {l : List Int} (h : l.length = 19) : ∃ k0 k1 k2 k3 k4 k5 k6 k7 k8 k9 k10 k11 k12 k13 k14 k15 k16 k17 k18, l = [k0, k1, k2, k3, k4, k5, k6, k7, k8, k9, k10, k11, k12, k13, k14, k15, k16, k17, k18] := by
  match l, h with
  | [k0, k1, k2, k3, k4, k5, k6, k7, k8, k9, k10, k11, k12, k13, k14, k15, k16, k17, k18], _ => exact ⟨k0, k1, k2, k3, k4, k5, k6, k7, k8, k9, k10, k11, k12, k13, k14, k15, k16, k17, k18, rfl⟩
theorem clears_walk (m : Mo) (keep : Int) [hM : Mo64 m] (ht : I64 m.t) (w : World) : Calls Try.prog 13 #[.agg #[.int .i64 m.d.x.lo, .int .i64 m.d.x.hi, .int .i64 m.d.y.lo, .int .i64 m.d.y.hi, .int .i64 m.d.z.lo, .int .i64 m.d.z.hi, .int .i64 m.w.x.lo, .int .i64 m.w.x.hi, .int .i64 m.w.y.lo, .int .i64 m.w.y.hi, .int .i64 m.w.z.lo, .int .i64 m.w.z.hi, .int .i64 m.a.x.lo, .int .i64 m.a.x.hi, .int .i64 m.a.y.lo, .int .i64 m.a.y.hi, .int .i64 m.a.z.lo, .int .i64 m.a.z.hi, .int .i64 m.t], .int .i64 keep, .int .i64 m.n] w fun e w' => e = .returned (.bool true) ∧ Grew w w' := by
  have H1 := Lib.hid (fun w => (show Calls Try.prog 62 #[.agg #[.int .i64 m.d.x.lo, .int .i64 m.d.x.hi, .int .i64 m.d.y.lo, .int .i64 m.d.y.hi, .int .i64 m.d.z.lo, .int .i64 m.d.z.hi], .agg #[.int .i64 m.w.x.lo, .int .i64 m.w.x.hi, .int .i64 m.w.y.lo, .int .i64 m.w.y.hi, .int .i64 m.w.z.lo, .int .i64 m.w.z.hi], .agg #[.int .i64 m.a.x.lo, .int .i64 m.a.x.hi, .int .i64 m.a.y.lo, .int .i64 m.a.y.hi, .int .i64 m.a.z.lo, .int .i64 m.a.z.hi], .int .i64 m.t, .int .i64 m.n] w fun e w' => e = .returned (.tuple #[.int .i64 (clearR m).1, .int .i64 (clearR m).2]) ∧ Grew w w' from abClearP_any m ht w))
  have H2 := Lib.hid (fun w => (show Calls Try.prog 63 #[.agg #[.int .i64 m.d.x.lo, .int .i64 m.d.x.hi, .int .i64 m.d.y.lo, .int .i64 m.d.y.hi, .int .i64 m.d.z.lo, .int .i64 m.d.z.hi], .agg #[.int .i64 m.w.x.lo, .int .i64 m.w.x.hi, .int .i64 m.w.y.lo, .int .i64 m.w.y.hi, .int .i64 m.w.z.lo, .int .i64 m.w.z.hi], .agg #[.int .i64 m.a.x.lo, .int .i64 m.a.x.hi, .int .i64 m.a.y.lo, .int .i64 m.a.y.hi, .int .i64 m.a.z.lo, .int .i64 m.a.z.hi], .int .i64 m.t, .int .i64 m.n] w fun e w' => e = .returned (.tuple #[.int .i64 (clearR m).1, .int .i64 (clearR m).2]) ∧ Grew w w' from rClear_any m ht w))
  have H3 := Lib.hid (fun w => (show Calls Try.prog 64 #[.agg #[.int .i64 m.d.x.lo, .int .i64 m.d.x.hi, .int .i64 m.d.y.lo, .int .i64 m.d.y.hi, .int .i64 m.d.z.lo, .int .i64 m.d.z.hi], .agg #[.int .i64 m.w.x.lo, .int .i64 m.w.x.hi, .int .i64 m.w.y.lo, .int .i64 m.w.y.hi, .int .i64 m.w.z.lo, .int .i64 m.w.z.hi], .agg #[.int .i64 m.a.x.lo, .int .i64 m.a.x.hi, .int .i64 m.a.y.lo, .int .i64 m.a.y.hi, .int .i64 m.a.z.lo, .int .i64 m.a.z.hi], .int .i64 m.t, .int .i64 keep, .int .i64 m.n] w fun e w' => e = .returned (.tuple #[.int .i64 (sepR m keep).1, .int .i64 (sepR m keep).2]) ∧ Grew w w' from abSep_any m keep ht w))
  have H4 := Lib.hid (fun w => (show Calls Try.prog 65 #[.agg #[.int .i64 m.d.x.lo, .int .i64 m.d.x.hi, .int .i64 m.d.y.lo, .int .i64 m.d.y.hi, .int .i64 m.d.z.lo, .int .i64 m.d.z.hi], .agg #[.int .i64 m.w.x.lo, .int .i64 m.w.x.hi, .int .i64 m.w.y.lo, .int .i64 m.w.y.hi, .int .i64 m.w.z.lo, .int .i64 m.w.z.hi], .agg #[.int .i64 m.a.x.lo, .int .i64 m.a.x.hi, .int .i64 m.a.y.lo, .int .i64 m.a.y.hi, .int .i64 m.a.z.lo, .int .i64 m.a.z.hi], .int .i64 m.t, .int .i64 keep, .int .i64 m.n] w fun e w' => e = .returned (.tuple #[.int .i64 (sepR m keep).1, .int .i64 (sepR m keep).2]) ∧ Grew w w' from rSep_any m keep ht w))
  go_enter Try.func13, Try.ntmps13
  go_wp2_with (first | (go_at_call 62; (with_reducible refine call_later (H1.out _) ?_); intro u1) | (go_at_call 63; (with_reducible refine call_later (H2.out _) ?_); intro u2) | (go_at_call 64; (with_reducible refine call_later (H3.out _) ?_); intro u3) | (go_at_call 65; (with_reducible refine call_later (H4.out _) ?_); intro u4))
  all_goals go_ret
  all_goals exact ⟨rfl, (by repeat (first | with_reducible exact Grew.refl _ | with_reducible apply Grew.alloc | with_reducible apply Grew.later | with_reducible apply Grew.drew | with_reducible apply Grew.store | with_reducible assumption))⟩
namespace abortClearsRow
open Go.ChangeShapes Go.WideShapes Go.ChangeAt Go.RowKit
theorem own : ownKnob Try.prog.godebug = none := by kernel_rfl
theorem lifted (os : Os) (started : os.Started) (H : Type) (enc : TypeId × Value → H) :
    ReturnsInHanded {} Try.checked os 13 .any (Rows.abortClearsSpec.pre6 enc Try.prog Try.f13 Rows.abortClearsRow.domain false) (Rows.abortClearsSpec.post enc Try.prog Try.f13 false true false false) := by
  refine returnsInHanded_of_change (C := Try.checked) own started (by kernel_rfl) Try.func13
    (ChangeSpec.witness6 (enc := enc) (C := Try.checked) false ⟨#[], #[.agg #[.int .i64 0, .int .i64 0, .int .i64 0, .int .i64 0, .int .i64 0, .int .i64 0, .int .i64 0, .int .i64 0, .int .i64 0, .int .i64 0, .int .i64 0, .int .i64 0, .int .i64 0, .int .i64 0, .int .i64 0, .int .i64 0, .int .i64 0, .int .i64 0, .int .i64 0], .int .i64 0, .int .i64 0], []⟩ 8 (by as_aux_lemma => kernel_rfl) (by as_aux_lemma => kernel_rfl) (by as_aux_lemma => kernel_rfl) (by as_aux_lemma => kernel_rfl)) ?_
  intro W base args ds gs before hval0 hW _ _
  have hval : ∀ (j : Nat) t v, Try.f13.params[j]? = some t → args[j]? = some v → Value.okWide Try.prog W .any base t v := hval0
  have hW' := hW
  obtain ⟨p, q, hA0, hV, rfl, hfz, hnd⟩ := hW
  have hA : DataW.TrodAll enc Try.prog W 0 (fun _ => true) true Try.f13.params.toList args.toList ds p := hA0
  rw [Try.params13] at hA hval
  obtain ⟨v0, vs0, d0, ds0, p0, q0, hargs, rfl, rfl, h0, r0⟩ := trodAll_cons hA
  obtain ⟨v1, vs1, d1, ds1, p1, q1, rfl, rfl, rfl, h1, r1⟩ := trodAll_cons r0
  obtain ⟨v2, vs2, d2, ds2, p2, q2, rfl, rfl, rfl, h2, r2⟩ := trodAll_cons r1
  obtain ⟨rfl, rfl, rfl⟩ := trodAll_nil r2
  obtain rfl : args = #[v0, v1, v2] := by cases args; simp_all
  obtain ⟨rfl, rfl⟩ := trodVars_none hV
  obtain ⟨ns0, rfl, hl0, hb0⟩ := open_flat 19 (by kernel_rfl) Try.underlying112 (hval 0 112 v0 rfl rfl) h0
  obtain ⟨a1, rfl, -, -⟩ := open_num Try.underlying52 (hval 1 52 v1 rfl rfl) h1
  obtain ⟨a2, rfl, -, -⟩ := open_num Try.underlying3 (hval 2 3 v2 rfl rfl) h2
  obtain ⟨k0, k1, k2, k3, k4, k5, k6, k7, k8, k9, k10, k11, k12, k13, k14, k15, k16, k17, k18, rfl⟩ := list19 hl0
  have hM : Mo64 ⟨⟨⟨k0, k1⟩, ⟨k2, k3⟩, ⟨k4, k5⟩⟩, ⟨⟨k6, k7⟩, ⟨k8, k9⟩, ⟨k10, k11⟩⟩, ⟨⟨k12, k13⟩, ⟨k14, k15⟩, ⟨k16, k17⟩⟩, k18, a2⟩ := ⟨⟨⟨hb0 k0 (by simp), hb0 k1 (by simp)⟩, ⟨hb0 k2 (by simp), hb0 k3 (by simp)⟩, ⟨hb0 k4 (by simp), hb0 k5 (by simp)⟩⟩, ⟨⟨hb0 k6 (by simp), hb0 k7 (by simp)⟩, ⟨hb0 k8 (by simp), hb0 k9 (by simp)⟩, ⟨hb0 k10 (by simp), hb0 k11 (by simp)⟩⟩, ⟨⟨hb0 k12 (by simp), hb0 k13 (by simp)⟩, ⟨hb0 k14 (by simp), hb0 k15 (by simp)⟩, ⟨hb0 k16 (by simp), hb0 k17 (by simp)⟩⟩⟩
  refine (clears_walk ⟨⟨⟨k0, k1⟩, ⟨k2, k3⟩, ⟨k4, k5⟩⟩, ⟨⟨k6, k7⟩, ⟨k8, k9⟩, ⟨k10, k11⟩⟩, ⟨⟨k12, k13⟩, ⟨k14, k15⟩, ⟨k16, k17⟩⟩, k18, a2⟩ a1 (hb0 k18 (by simp)) W).mono fun e W' ⟨he, hg⟩ => ?_
  subst he
  exact ⟨_, rfl, law_post (by kernel_rfl) (by kernel_rfl) rfl rfl Try.underlying4 hW' rfl hg⟩
theorem proved : Rows.AbortClearsSaid :=
  OpenClaim.holds_of_wide 13 Try.f13 rfl rfl rfl rfl rfl rfl rfl ⟨rfl, rfl, rfl, rfl, rfl⟩ rfl rfl rfl rfl rfl (by as_aux_lemma => kernel_rfl) Try.func13 (by as_aux_lemma => kernel_rfl)
    (of_decide_eq_true (by as_aux_lemma => kernel_rfl)) (by unfold Func.isWrapper; first | (rw [if_pos (by decide +kernel)]; kernel_rfl) | (rw [if_neg (by decide +kernel)]; exact ⟨rfl, rfl⟩))
    (fun os started H enc _ => lifted os started H enc)
end abortClearsRow
end Go.Proofs.Ytdanaclplmacgaa
