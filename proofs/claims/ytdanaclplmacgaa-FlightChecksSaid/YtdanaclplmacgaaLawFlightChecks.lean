/-
  FlightChecks: for every planet, arc and state, the validity that flight finds, and the number of steps of the arc, or the error, are ullageref03's. No condition.
-/
import Derived.Test.YtdanaclplmacgaaFlightRefOk
import Derived.Test.YtdanaclplmacgaaOpenApi
import Derived.Test.YtdanaclplmacgaaRows
namespace Go.Proofs.Ytdanaclplmacgaa
open Go.RowKit
set_option maxRecDepth 100000
set_option maxHeartbeats 1000000

def Arc.longB (a : Arc) : Bool := decide (70 < a.drag.n)
theorem l3Long_any (l : List Arc) (v : Value) (w : World) (h : SlAt w v l.length (l.flatMap Arc.cells)) : Calls Try.prog 31 #[v] w fun e w' => e = .returned (.bool (l.any Arc.longB)) ∧ Grew w w' := by
  obtain ⟨ao, cap, rfl, hm, hc⟩ := h
  unfold maxLen at hm
  have Hc := Lib.hid (SlAt.elem (f := Arc.cells) (c := 15) (fun _ => rfl) (by omega) hc)
  clear hc
  go_enter Try.func31, Try.ntmps31
  go_wp2
  go_loopw [6] (fun t wr => ∃ k : Nat, t = .int .i64 k ∧ k ≤ l.length ∧ ((l.take k).all fun a => !a.longB) = true ∧ Grew w wr) (fun t _ => l.length - (intOf t).toNat)
  case atStart => exact ⟨0, rfl, by omega, rfl, Grew.refl _⟩
  case round =>
    obtain ⟨k, rfl, hk, hall, hg⟩ := hrel
    obtain ⟨x, rfl⟩ := later_of hg
    clear hg
    have Hall := Lib.hid hall
    clear hall
    have Hany := Lib.hid (List.not_any_eq_all_not (l := l) (p := Arc.longB))
    by_cases hlt : k < l.length
    · obtain ⟨b1, o1, rfl, i1, hd1, hd2⟩ := Hc.out k hlt
      have hd3 := hd2 12 _ rfl
      clear hd1 hd2
      have i1 : BlockIn w b1 := ⟨i1⟩
      by_cases h : 70 < l[k].drag.n
      · go_wp2
        go_ret
        exact ⟨ret_bool (by rw [List.any_eq_true.2 ⟨l[k], List.getElem_mem hlt, by simp [Arc.longB, h]⟩]), (by repeat (first | exact Grew.refl _ | apply Grew.alloc | apply Grew.later | apply Grew.drew))⟩
      · go_wp2
        go_roundw
        case rel => exact ⟨k + 1, by go_num, by omega, all_take_succ _ _ _ hlt Hall.out (by simp [Arc.longB]; omega), (by repeat (first | exact Grew.refl _ | apply Grew.alloc | apply Grew.later | apply Grew.drew))⟩
        case measure => simp [intOf]; omega
    · go_wp2
      go_ret
      exact ⟨ret_bool (by
        have h1 := all_true _ _ _ (by omega) Hall.out
        have h2 := Hany.out
        rw [h1] at h2
        simpa using h2.symm), x.grew⟩
theorem l3Long_one (a : Arc) (v : Value) (w : World) (h : SlAt w v 1 [.int .i64 a.time, .int .i64 a.step, .int .i64 a.thrust.lo, .int .i64 a.thrust.hi, .int .i64 a.flow.lo, .int .i64 a.flow.hi, .int .i64 a.dir.x.lo, .int .i64 a.dir.x.hi, .int .i64 a.dir.y.lo, .int .i64 a.dir.y.hi, .int .i64 a.dir.z.lo, .int .i64 a.dir.z.hi, .slice a.drag.ao a.drag.n a.drag.cap, .int .i64 a.drop.lo, .int .i64 a.drop.hi]) : Calls Try.prog 31 #[v] w fun e w' => e = .returned (.bool a.longB) ∧ Grew w w' := by
  have := l3Long_any [a] v w h
  simpa using this
theorem checks_walk (p : Planet) (a : Arc) (l : List Pt) (s : State) (w : World) (hd : DragAt w a l) (ht : a.time ≤ 9223372036854775807) (hs : a.step ≤ 9223372036854775807) :
    Calls Try.prog 7 #[.agg #[.int .i64 p.mu.lo, .int .i64 p.mu.hi, .int .i64 p.radius.lo, .int .i64 p.radius.hi, .int .i64 p.oblate.lo, .int .i64 p.oblate.hi, .int .i64 p.spin.lo, .int .i64 p.spin.hi, .int .i64 p.pull.x.lo, .int .i64 p.pull.x.hi, .int .i64 p.pull.y.lo, .int .i64 p.pull.y.hi, .int .i64 p.pull.z.lo, .int .i64 p.pull.z.hi], .agg #[.int .i64 a.time, .int .i64 a.step, .int .i64 a.thrust.lo, .int .i64 a.thrust.hi, .int .i64 a.flow.lo, .int .i64 a.flow.hi, .int .i64 a.dir.x.lo, .int .i64 a.dir.x.hi, .int .i64 a.dir.y.lo, .int .i64 a.dir.y.hi, .int .i64 a.dir.z.lo, .int .i64 a.dir.z.hi, .slice a.drag.ao a.drag.n a.drag.cap, .int .i64 a.drop.lo, .int .i64 a.drop.hi], .agg #[.int .i64 s.t, .int .i64 s.p.x.lo, .int .i64 s.p.x.hi, .int .i64 s.p.y.lo, .int .i64 s.p.y.hi, .int .i64 s.p.z.lo, .int .i64 s.p.z.hi, .int .i64 s.v.x.lo, .int .i64 s.v.x.hi, .int .i64 s.v.y.lo, .int .i64 s.v.y.hi, .int .i64 s.v.z.lo, .int .i64 s.v.z.hi, .int .i64 s.m.lo, .int .i64 s.m.hi]] w fun e w' => e = .returned (.bool true) ∧ Grew w w' := by
  have Hd := Lib.hid hd
  clear hd
  cases hl : a.longB
  all_goals
    go_enter Try.func7, Try.ntmps7
    go_wp2_with (first | (go_at_call 31; (with_reducible refine call_later (l3Long_one a _ _ (SlAt.fresh _ _ _ _ (by simp [maxLen]))) ?_); intro u) | (go_at_call 32; (with_reducible refine call_later (flSteps_any a l _ (Hd.out.grew (by repeat (first | exact Grew.refl _ | apply Grew.alloc | apply Grew.later | apply Grew.drew))) ht hs) ?_); intro u) | (go_at_call 33; (with_reducible refine call_later (r3Steps_any a l _ (Hd.out.grew (by repeat (first | exact Grew.refl _ | apply Grew.alloc | apply Grew.later | apply Grew.drew))) ht hs) ?_); intro u) | (go_at_call 34; (with_reducible refine call_later (flPlanet_any _ _) ?_); intro u) | (go_at_call 35; (with_reducible refine call_later (r3Planet_any _ _) ?_); intro u) | (go_at_call 36; (with_reducible refine call_later (flState_any _ _) ?_); intro u) | (go_at_call 37; (with_reducible refine call_later (r3State_any _ _) ?_); intro u) | (go_at_call 38; (with_reducible refine call_later (flArc_any a l _ (Hd.out.grew (by repeat (first | exact Grew.refl _ | apply Grew.alloc | apply Grew.later | apply Grew.drew)))) ?_); intro u) | (go_at_call 39; (with_reducible refine call_later (r3Arc_any a l _ (Hd.out.grew (by repeat (first | exact Grew.refl _ | apply Grew.alloc | apply Grew.later | apply Grew.drew)))) ?_); intro u) | ((with_reducible refine wp_region_later ?_ ?_ ?_); (· kernel_rfl); (· kernel_rfl); (repeat (go_big_quiet_step ((first | (go_at_call 31; (with_reducible exact call_quiet (l3Long_one a _ _ (SlAt.fresh _ _ _ _ (by simp [maxLen]))))) | (go_at_call 32; (with_reducible exact call_quiet (flSteps_any a l _ (Hd.out.grew (by repeat (first | exact Grew.refl _ | apply Grew.alloc | apply Grew.later | apply Grew.drew))) ht hs))) | (go_at_call 33; (with_reducible exact call_quiet (r3Steps_any a l _ (Hd.out.grew (by repeat (first | exact Grew.refl _ | apply Grew.alloc | apply Grew.later | apply Grew.drew))) ht hs))) | (go_at_call 34; (with_reducible exact call_quiet (flPlanet_any _ _))) | (go_at_call 35; (with_reducible exact call_quiet (r3Planet_any _ _))) | (go_at_call 36; (with_reducible exact call_quiet (flState_any _ _))) | (go_at_call 37; (with_reducible exact call_quiet (r3State_any _ _))) | (go_at_call 38; (with_reducible exact call_quiet (flArc_any a l _ (Hd.out.grew (by repeat (first | exact Grew.refl _ | apply Grew.alloc | apply Grew.later | apply Grew.drew)))))) | (go_at_call 39; (with_reducible exact call_quiet (r3Arc_any a l _ (Hd.out.grew (by repeat (first | exact Grew.refl _ | apply Grew.alloc | apply Grew.later | apply Grew.drew)))))))))); refine wpQuiet_nil ?_; rintro _ ⟨u, rfl⟩))
    go_ret
    exact ⟨rfl, (by repeat (first | exact Grew.refl _ | apply Grew.alloc | apply Grew.later | apply Grew.drew))⟩

namespace flightChecksRow
open Go.ChangeShapes Go.WideShapes Go.ChangeAt Go.RowKit
theorem own : ownKnob Try.prog.godebug = none := by kernel_rfl
theorem lifted (os : Os) (started : os.Started) (H : Type) (enc : TypeId × Value → H) :
    ReturnsInHanded {} Try.checked os 7 .any (Rows.flightChecksSpec.pre6 enc Try.prog Try.f7 Rows.flightChecksRow.domain false) (Rows.flightChecksSpec.post enc Try.prog Try.f7 false true false false) := by
  refine returnsInHanded_of_change (C := Try.checked) own started (by kernel_rfl) Try.func7
    (ChangeSpec.witness6 (enc := enc) (C := Try.checked) false ⟨#[], #[.agg #[.int .i64 0, .int .i64 0, .int .i64 0, .int .i64 0, .int .i64 0, .int .i64 0, .int .i64 0, .int .i64 0, .int .i64 0, .int .i64 0, .int .i64 0, .int .i64 0, .int .i64 0, .int .i64 0], .agg #[.int .i64 0, .int .i64 0, .int .i64 0, .int .i64 0, .int .i64 0, .int .i64 0, .int .i64 0, .int .i64 0, .int .i64 0, .int .i64 0, .int .i64 0, .int .i64 0, .slice none 0 0, .int .i64 0, .int .i64 0], .agg #[.int .i64 0, .int .i64 0, .int .i64 0, .int .i64 0, .int .i64 0, .int .i64 0, .int .i64 0, .int .i64 0, .int .i64 0, .int .i64 0, .int .i64 0, .int .i64 0, .int .i64 0, .int .i64 0, .int .i64 0]], []⟩ 8 (by kernel_rfl) (by kernel_rfl) (by kernel_rfl) (by kernel_rfl)) ?_
  intro W base args ds gs before hval0 hW _ _
  have hval : ∀ (j : Nat) t v, Try.f7.params[j]? = some t → args[j]? = some v → Value.okWide Try.prog W .any base t v := hval0
  have hW' := hW
  obtain ⟨p, q, hA0, hV, rfl, hfz, hnd⟩ := hW
  have hA : DataW.TrodAll enc Try.prog W 0 (fun _ => true) true Try.f7.params.toList args.toList ds p := hA0
  rw [Try.params7] at hA hval
  obtain ⟨v0, vs0, d0, ds0, p0, q0, hargs, rfl, rfl, h0, r0⟩ := trodAll_cons hA
  obtain ⟨v1, vs1, d1, ds1, p1, q1, rfl, rfl, rfl, h1, r1⟩ := trodAll_cons r0
  obtain ⟨v2, vs2, d2, ds2, p2, q2, rfl, rfl, rfl, h2, r2⟩ := trodAll_cons r1
  obtain ⟨rfl, rfl, rfl⟩ := trodAll_nil r2
  obtain rfl : args = #[v0, v1, v2] := by cases args; simp_all
  obtain ⟨rfl, rfl⟩ := trodVars_none hV
  obtain ⟨cs0, rfl, -⟩ := okWide_struct Try.underlying67 (hval 0 67 v0 rfl rfl)
  obtain ⟨cs1, rfl, -⟩ := okWide_struct Try.underlying62 (hval 1 62 v1 rfl rfl)
  obtain ⟨cs2, rfl, -⟩ := okWide_struct Try.underlying69 (hval 2 69 v2 rfl rfl)
  obtain ⟨_, h0⟩ := h0
  obtain ⟨_, h1⟩ := h1
  obtain ⟨_, h2⟩ := h2
  obtain ⟨a0, e0, -⟩ := planet_trod h0
  obtain ⟨a1, l1, e1, hd, i1, i2, -⟩ := arc_trod h1
  obtain ⟨a2, e2, -⟩ := state_trod h2
  obtain rfl : cs0 = a0.cells.toArray := Array.ext' (by simpa [Value.cells] using e0)
  obtain rfl : cs1 = a1.cells.toArray := Array.ext' (by simpa [Value.cells] using e1)
  obtain rfl : cs2 = a2.cells.toArray := Array.ext' (by simpa [Value.cells] using e2)
  refine (checks_walk a0 a1 l1 a2 W hd i1.2 i2.2).mono fun e W' ⟨he, hg⟩ => ?_
  subst he
  exact ⟨_, rfl, law_post (by kernel_rfl) (by kernel_rfl) rfl rfl Try.underlying4 hW' rfl hg⟩
theorem proved : Rows.FlightChecksSaid :=
  OpenClaim.holds_of_wide 7 Try.f7 rfl rfl rfl rfl rfl rfl rfl ⟨rfl, rfl, rfl, rfl, rfl⟩ rfl rfl rfl rfl rfl (by kernel_rfl) Try.func7 (by kernel_rfl)
    (of_decide_eq_true (by kernel_rfl)) (by unfold Func.isWrapper; first | (rw [if_pos (by decide +kernel)]; kernel_rfl) | (rw [if_neg (by decide +kernel)]; exact ⟨rfl, rfl⟩))
    (fun os started H enc _ => lifted os started H enc)
end flightChecksRow
end Go.Proofs.Ytdanaclplmacgaa
