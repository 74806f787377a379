/-
  FlightAsks: for every planet, tube, table of at most 70 points and state, the heights, speeds, climbs and pressures that flight finds, and whether the state is within the tube's boxes, are ullageref03's. No condition.
-/
import Derived.Test.YtnedbhdokljpcaaGreatPressAny
import Derived.Test.YtnedbhdokljpcaaGreatLook
import Derived.Test.YtnedbhdokljpcaaGreatClimb
import Derived.Test.YtnedbhdokljpcaaGreatInside
import Derived.Test.YtnedbhdokljpcaaGreatRefInside
import Derived.Test.YtnedbhdokljpcaaGreatOpenAll
import Derived.Test.YtnedbhdokljpcaaGreatRows
namespace Go.Proofs.YtnedbhdokljpcaaGreat
open Go.RowKit Go.ChangeShapes Go.WideShapes Go.ChangeAt Go.Deep
set_option maxRecDepth 100000
set_option maxHeartbeats 16000000
theorem b64_of {b : Bx} (h1 : I64 b.x.lo) (h2 : I64 b.x.hi) (h3 : I64 b.y.lo) (h4 : I64 b.y.hi) (h5 : I64 b.z.lo) (h6 : I64 b.z.hi) : B64 b := ⟨⟨h1, h2⟩, ⟨h3, h4⟩, ⟨h5, h6⟩⟩
theorem rLook_ok2 : LookOk 122 := fun l x _ ao cap w hs => rLook_any l x ao cap w hs
theorem asks_walk (p : Planet) (t : Tube) (l : List Pt) (s : State) [hp : Pl64 p] [hb : B64 t.p] [hv : B64 t.v] (ao : Option Addr) (cap : Nat) (w : World) (hs : SlAt w (.slice ao l.length cap) l.length (l.flatMap Pt.cells)) :
    Calls Tryz.prog 3 #[.agg #[.int .i64 p.mu.lo, .int .i64 p.mu.hi, .int .i64 p.radius.lo, .int .i64 p.radius.hi, .int .i64 p.oblate.lo, .int .i64 p.oblate.hi, .int .i64 p.spin.lo, .int .i64 p.spin.hi, .int .i64 p.pull.x.lo, .int .i64 p.pull.x.hi, .int .i64 p.pull.y.lo, .int .i64 p.pull.y.hi, .int .i64 p.pull.z.lo, .int .i64 p.pull.z.hi], .agg #[.int .i64 t.a, .int .i64 t.z, .int .i64 t.p.x.lo, .int .i64 t.p.x.hi, .int .i64 t.p.y.lo, .int .i64 t.p.y.hi, .int .i64 t.p.z.lo, .int .i64 t.p.z.hi, .int .i64 t.v.x.lo, .int .i64 t.v.x.hi, .int .i64 t.v.y.lo, .int .i64 t.v.y.hi, .int .i64 t.v.z.lo, .int .i64 t.v.z.hi, .int .i64 t.m.lo, .int .i64 t.m.hi], .slice ao l.length cap, .agg #[.int .i64 s.t, .int .i64 s.p.x.lo, .int .i64 s.p.x.hi, .int .i64 s.p.y.lo, .int .i64 s.p.y.hi, .int .i64 s.p.z.lo, .int .i64 s.p.z.hi, .int .i64 s.v.x.lo, .int .i64 s.v.x.hi, .int .i64 s.v.y.lo, .int .i64 s.v.y.hi, .int .i64 s.v.z.lo, .int .i64 s.v.z.hi, .int .i64 s.m.lo, .int .i64 s.m.hi]] w fun e w' => e = .returned (.bool true) ∧ Grew w w' := by
  have hm := hs.len_le
  unfold maxLen at hm
  have H1 := Lib.hid (fun w' => flHeight_any p t.p w')
  have H2 := Lib.hid (fun w' => r3Height_any p t.p w')
  have H3 := Lib.hid (fun w' => flSpeed_any t.v w')
  have H4 := Lib.hid (fun w' => r3Speed_any t.v w')
  have H5 := Lib.hid (fun w' => flClimb_any t.p t.v w')
  have H6 := Lib.hid (fun w' => r3Climb_any t.p t.v w')
  have H7 := Lib.hid (fun w' (g : Grew w w') => flPress_any look_any p l t ao cap w' (hs.grew g))
  have H8 := Lib.hid (fun w' (g : Grew w w') => r3Press_any rLook_ok2 p l t ao cap w' (hs.grew g))
  have H9 := Lib.hid (fun w' => flInside_any s t.p t.v w')
  have H0 := Lib.hid (fun w' => r3Inside_any s t.p t.v w')
  clear hs
  generalize heightR p t.p = R1 at *
  generalize normR t.v.list = R2 at *
  generalize climbR t.p t.v = R3 at *
  generalize pressR p l t = R4 at *
  generalize sureR s t.p t.v = b1 at *
  generalize mayR s t.p t.v = b2 at *
  by_cases hl : 70 < l.length
  · have hl' : (70 : Int) < l.length := by omega
    go_enter Tryz.func3, Tryz.ntmps3
    go_wp2
    go_ret
    exact ⟨rfl, (by repeat (first | with_reducible exact Grew.refl _ | with_reducible apply Grew.alloc | with_reducible apply Grew.later | with_reducible apply Grew.drew | with_reducible apply Grew.store | with_reducible assumption))⟩
  have hl' : ¬ ((70 : Int) < l.length) := by omega
  clear hl
  go_enter Tryz.func3, Tryz.ntmps3
  go_wp2_with (first | (go_at_call 8; (with_reducible refine call_later (H1.out _) ?_); intro u) | (go_at_call 9; (with_reducible refine call_later (H2.out _) ?_); intro u) | (go_at_call 10; (with_reducible refine call_later (H3.out _) ?_); intro u) | (go_at_call 11; (with_reducible refine call_later (H4.out _) ?_); intro u) | (go_at_call 12; (with_reducible refine call_later (H5.out _) ?_); intro u) | (go_at_call 13; (with_reducible refine call_later (H6.out _) ?_); intro u) | (go_at_call 14; (with_reducible refine call_later (H7.out _ (by repeat (first | with_reducible exact Grew.refl _ | with_reducible apply Grew.alloc | with_reducible apply Grew.later | with_reducible apply Grew.drew | with_reducible apply Grew.store | with_reducible assumption))) ?_); intro u) | (go_at_call 15; (with_reducible refine call_later (H8.out _ (by repeat (first | with_reducible exact Grew.refl _ | with_reducible apply Grew.alloc | with_reducible apply Grew.later | with_reducible apply Grew.drew | with_reducible apply Grew.store | with_reducible assumption))) ?_); intro u) | (go_at_call 16; (with_reducible refine call_later (H9.out _) ?_); intro u) | (go_at_call 17; (with_reducible refine call_later (H0.out _) ?_); intro u) | ((with_reducible refine wp_region_later ?_ ?_ ?_); (· kernel_rfl); (· kernel_rfl); (try simp only [List.append_eq, List.cons_append, List.nil_append]); (repeat (go_big_quiet_step ((first | (go_at_call 8; (with_reducible exact call_quiet (H1.out _))) | (go_at_call 9; (with_reducible exact call_quiet (H2.out _))) | (go_at_call 10; (with_reducible exact call_quiet (H3.out _))) | (go_at_call 11; (with_reducible exact call_quiet (H4.out _))) | (go_at_call 12; (with_reducible exact call_quiet (H5.out _))) | (go_at_call 13; (with_reducible exact call_quiet (H6.out _))) | (go_at_call 14; (with_reducible exact call_quiet (H7.out _ (by repeat (first | with_reducible exact Grew.refl _ | with_reducible apply Grew.alloc | with_reducible apply Grew.later | with_reducible apply Grew.drew | with_reducible apply Grew.store | with_reducible assumption))))) | (go_at_call 15; (with_reducible exact call_quiet (H8.out _ (by repeat (first | with_reducible exact Grew.refl _ | with_reducible apply Grew.alloc | with_reducible apply Grew.later | with_reducible apply Grew.drew | with_reducible apply Grew.store | with_reducible assumption))))) | (go_at_call 16; (with_reducible exact call_quiet (H9.out _))) | (go_at_call 17; (with_reducible exact call_quiet (H0.out _))))))); refine wpQuiet_nil ?_; rintro _ ⟨u, rfl⟩))
  all_goals go_ret
  all_goals exact ⟨rfl, (by repeat (first | with_reducible exact Grew.refl _ | with_reducible apply Grew.alloc | with_reducible apply Grew.later | with_reducible apply Grew.drew | with_reducible apply Grew.store | with_reducible assumption))⟩
namespace flightAsksRow
open Go.ChangeShapes Go.WideShapes Go.ChangeAt Go.RowKit
theorem own : ownKnob Tryz.prog.godebug = none := by kernel_rfl
theorem lifted (os : Os) (started : os.Started) (H : Type) (enc : TypeId × Value → H) :
    ReturnsInHanded {} Tryz.checked os 3 .any (Rows.flightAsksSpec.pre6 enc Tryz.prog Tryz.f3 Rows.flightAsksRow.domain false) (Rows.flightAsksSpec.post enc Tryz.prog Tryz.f3 false true false false) := by
  refine returnsInHanded_of_change (C := Tryz.checked) own started (by kernel_rfl) Tryz.func3
    (ChangeSpec.witness6 (enc := enc) (C := Tryz.checked) false ⟨#[], #[.agg #[.int .i64 0, .int .i64 0, .int .i64 0, .int .i64 0, .int .i64 0, .int .i64 0, .int .i64 0, .int .i64 0, .int .i64 0, .int .i64 0, .int .i64 0, .int .i64 0, .int .i64 0, .int .i64 0], .agg #[.int .i64 0, .int .i64 0, .int .i64 0, .int .i64 0, .int .i64 0, .int .i64 0, .int .i64 0, .int .i64 0, .int .i64 0, .int .i64 0, .int .i64 0, .int .i64 0, .int .i64 0, .int .i64 0, .int .i64 0, .int .i64 0], .slice none 0 0, .agg #[.int .i64 0, .int .i64 0, .int .i64 0, .int .i64 0, .int .i64 0, .int .i64 0, .int .i64 0, .int .i64 0, .int .i64 0, .int .i64 0, .int .i64 0, .int .i64 0, .int .i64 0, .int .i64 0, .int .i64 0]], []⟩ 8 (by as_aux_lemma => kernel_rfl) (by as_aux_lemma => kernel_rfl) (by as_aux_lemma => kernel_rfl) (by as_aux_lemma => kernel_rfl)) ?_
  intro W base args ds gs before hval0 hW _ _
  have hval : ∀ (j : Nat) t v, Tryz.f3.params[j]? = some t → args[j]? = some v → Value.okWide Tryz.prog W .any base t v := hval0
  have hW' := hW
  obtain ⟨p, q, hA0, hV, rfl, hfz, hnd⟩ := hW
  have hA : DataW.TrodAll enc Tryz.prog W 0 (fun _ => true) true Tryz.f3.params.toList args.toList ds p := hA0
  rw [Tryz.params3] at hA hval
  obtain ⟨v0, vs0, d0, ds0, p0, q0, hargs, rfl, rfl, h0, r0⟩ := trodAll_cons hA
  obtain ⟨v1, vs1, d1, ds1, p1, q1, rfl, rfl, rfl, h1, r1⟩ := trodAll_cons r0
  obtain ⟨v2, vs2, d2, ds2, p2, q2, rfl, rfl, rfl, h2, r2⟩ := trodAll_cons r1
  obtain ⟨v3, vs3, d3, ds3, p3, q3, rfl, rfl, rfl, h3, r3⟩ := trodAll_cons r2
  obtain ⟨rfl, rfl, rfl⟩ := trodAll_nil r3
  obtain rfl : args = #[v0, v1, v2, v3] := by cases args; simp_all
  obtain ⟨rfl, rfl⟩ := trodVars_none hV
  obtain ⟨cs0, rfl, -⟩ := okWide_struct Tryz.underlying28 (hval 0 28 v0 rfl rfl)
  obtain ⟨cs1, rfl, -⟩ := okWide_struct Tryz.underlying30 (hval 1 30 v1 rfl rfl)
  obtain ⟨ao2, n2, cap2, rfl⟩ := okWide_slice Tryz.underlying31 (hval 2 31 v2 rfl rfl)
  obtain ⟨cs3, rfl, -⟩ := okWide_struct Tryz.underlying33 (hval 3 33 v3 rfl rfl)
  obtain ⟨_, h0⟩ := h0
  obtain ⟨_, h1⟩ := h1
  obtain ⟨_, h2⟩ := h2
  obtain ⟨_, h3⟩ := h3
  obtain ⟨a0, e0, j1, j2, j3, j4, j5, j6, j7, j8, j9, j10, j11, j12, j13, j14⟩ := planet_trod h0
  obtain ⟨a1, e1, i1, i2, i3, i4, i5, i6, i7, i8, i9, i10, i11, i12, i13, i14, i15, i16⟩ := tube_trod h1
  obtain ⟨ao, m, cap, l, e2, hl⟩ := points_trod h2
  obtain ⟨a3, e3, s1, s2, s3, s4, s5, s6, s7, s8, s9, s10, s11, s12, s13, s14, s15⟩ := state_trod h3
  obtain rfl : cs0 = a0.cells.toArray := Array.ext' (by simpa [Value.cells] using e0)
  obtain rfl : cs1 = a1.cells.toArray := Array.ext' (by simpa [Value.cells] using e1)
  obtain rfl : cs3 = a3.cells.toArray := Array.ext' (by simpa [Value.cells] using e3)
  obtain rfl : m = l.length := by
    obtain ⟨_, _, e, -⟩ := hl
    cases e
    rfl
  obtain ⟨rfl, rfl, rfl⟩ : ao2 = ao ∧ n2 = l.length ∧ cap2 = cap := by simpa [Value.cells] using e2
  have hP : Pl64 a0 := ⟨⟨j1, j2⟩, ⟨j3, j4⟩, ⟨j5, j6⟩, ⟨j7, j8⟩, b64_of j9 j10 j11 j12 j13 j14⟩
  have hT1 : B64 a1.p := b64_of i3 i4 i5 i6 i7 i8
  have hT2 : B64 a1.v := b64_of i9 i10 i11 i12 i13 i14
  refine (asks_walk a0 a1 l a3 ao2 cap2 W hl).mono fun e W' ⟨he, hg⟩ => ?_
  subst he
  exact ⟨_, rfl, law_post (by kernel_rfl) (by kernel_rfl) rfl rfl Tryz.underlying4 hW' rfl hg⟩
theorem proved : Rows.FlightAsksSaid :=
  OpenClaim.holds_of_wide 3 Tryz.f3 rfl rfl rfl rfl rfl rfl rfl ⟨rfl, rfl, rfl, rfl, rfl⟩ rfl rfl rfl rfl rfl (by as_aux_lemma => kernel_rfl) Tryz.func3 (by as_aux_lemma => kernel_rfl)
    (of_decide_eq_true (by as_aux_lemma => kernel_rfl)) (by unfold Func.isWrapper; first | (rw [if_pos (by decide +kernel)]; kernel_rfl) | (rw [if_neg (by decide +kernel)]; exact ⟨rfl, rfl⟩))
    (fun os started H enc _ => lifted os started H enc)
end flightAsksRow
end Go.Proofs.YtnedbhdokljpcaaGreat
