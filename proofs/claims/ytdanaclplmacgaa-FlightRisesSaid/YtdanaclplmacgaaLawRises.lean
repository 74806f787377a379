/-
  FlightRises: for every planet, list of at most 40 tubes, height and two states, flight.Rises and flight.Joint hand back what ullageref03.Rises and ullageref03.Joint do. No condition.
-/
import Derived.Test.YtdanaclplmacgaaRises
import Derived.Test.YtdanaclplmacgaaRefRises
import Derived.Test.YtdanaclplmacgaaRefJointW
import Derived.Test.YtdanaclplmacgaaJointW
import Derived.Test.YtdanaclplmacgaaOpenApi
import Derived.Test.YtdanaclplmacgaaEqBox
import Derived.Test.YtdanaclplmacgaaRows
namespace Go.Proofs.Ytdanaclplmacgaa
open Go.RowKit
set_option maxRecDepth 100000
set_option maxHeartbeats 16000000
theorem b64_of {b : Bx} (h1 : I64 b.x.lo) (h2 : I64 b.x.hi) (h3 : I64 b.y.lo) (h4 : I64 b.y.hi) (h5 : I64 b.z.lo) (h6 : I64 b.z.hi) : B64 b := ⟨⟨h1, h2⟩, ⟨h3, h4⟩, ⟨h5, h6⟩⟩
theorem tubes_trod {H : Type} {enc : TypeId × Value → H} {w : World} {base : Nat} {spare : Nat → Bool} {held : Bool} {fuel : Nat} {cs : List Value} {x : DataW H × List MemPlace} (h : DataW.trod enc Try.prog w base spare held fuel 80 cs = some x) :
    ∃ (ao : Option Addr) (cap : Nat) (l : List Tube), cs = [.slice ao l.length cap] ∧ SlAt w (.slice ao l.length cap) l.length (l.flatMap Tube.cells) ∧ ∀ t ∈ l, Tb64 t := by
  obtain ⟨ao, n, cap, l, e, hn, h1, h2⟩ := slice_trod Tube.cells (c := 16) (fun _ => rfl) Tb64 Try.underlying80 (by kernel_rfl) (fun m cs' x' h' => by
    obtain ⟨a, e, i1, i2, i3, i4, i5, i6, i7, i8, i9, i10, i11, i12, i13, i14, i15, i16⟩ := tube_trod h'
    exact ⟨a, e, ⟨i1, i2, b64_of i3 i4 i5 i6 i7 i8, b64_of i9 i10 i11 i12 i13 i14, ⟨i15, i16⟩⟩⟩) h
  subst hn
  exact ⟨ao, cap, l, e, h1, h2⟩
theorem flJoint_ret (a b : State) [ha : St64 a] [hb : St64 b] (w : World) : Calls Try.prog 60 #[.agg #[.int .i64 a.t, .int .i64 a.p.x.lo, .int .i64 a.p.x.hi, .int .i64 a.p.y.lo, .int .i64 a.p.y.hi, .int .i64 a.p.z.lo, .int .i64 a.p.z.hi, .int .i64 a.v.x.lo, .int .i64 a.v.x.hi, .int .i64 a.v.y.lo, .int .i64 a.v.y.hi, .int .i64 a.v.z.lo, .int .i64 a.v.z.hi, .int .i64 a.m.lo, .int .i64 a.m.hi], .agg #[.int .i64 b.t, .int .i64 b.p.x.lo, .int .i64 b.p.x.hi, .int .i64 b.p.y.lo, .int .i64 b.p.y.hi, .int .i64 b.p.z.lo, .int .i64 b.p.z.hi, .int .i64 b.v.x.lo, .int .i64 b.v.x.hi, .int .i64 b.v.y.lo, .int .i64 b.v.y.hi, .int .i64 b.v.z.lo, .int .i64 b.v.z.hi, .int .i64 b.m.lo, .int .i64 b.m.hi]] w fun e w' => e = .returned (.tuple #[.agg #[.int .i64 ((jointR a b).s).t, .int .i64 ((jointR a b).s).p.x.lo, .int .i64 ((jointR a b).s).p.x.hi, .int .i64 ((jointR a b).s).p.y.lo, .int .i64 ((jointR a b).s).p.y.hi, .int .i64 ((jointR a b).s).p.z.lo, .int .i64 ((jointR a b).s).p.z.hi, .int .i64 ((jointR a b).s).v.x.lo, .int .i64 ((jointR a b).s).v.x.hi, .int .i64 ((jointR a b).s).v.y.lo, .int .i64 ((jointR a b).s).v.y.hi, .int .i64 ((jointR a b).s).v.z.lo, .int .i64 ((jointR a b).s).v.z.hi, .int .i64 ((jointR a b).s).m.lo, .int .i64 ((jointR a b).s).m.hi], .int .i64 (jointR a b).e]) ∧ Grew w w' := flJoint_any a b w
theorem r3Joint_ret (a b : State) (w : World) : Calls Try.prog 61 #[.agg #[.int .i64 a.t, .int .i64 a.p.x.lo, .int .i64 a.p.x.hi, .int .i64 a.p.y.lo, .int .i64 a.p.y.hi, .int .i64 a.p.z.lo, .int .i64 a.p.z.hi, .int .i64 a.v.x.lo, .int .i64 a.v.x.hi, .int .i64 a.v.y.lo, .int .i64 a.v.y.hi, .int .i64 a.v.z.lo, .int .i64 a.v.z.hi, .int .i64 a.m.lo, .int .i64 a.m.hi], .agg #[.int .i64 b.t, .int .i64 b.p.x.lo, .int .i64 b.p.x.hi, .int .i64 b.p.y.lo, .int .i64 b.p.y.hi, .int .i64 b.p.z.lo, .int .i64 b.p.z.hi, .int .i64 b.v.x.lo, .int .i64 b.v.x.hi, .int .i64 b.v.y.lo, .int .i64 b.v.y.hi, .int .i64 b.v.z.lo, .int .i64 b.v.z.hi, .int .i64 b.m.lo, .int .i64 b.m.hi]] w fun e w' => e = .returned (.tuple #[.agg #[.int .i64 ((jointR a b).s).t, .int .i64 ((jointR a b).s).p.x.lo, .int .i64 ((jointR a b).s).p.x.hi, .int .i64 ((jointR a b).s).p.y.lo, .int .i64 ((jointR a b).s).p.y.hi, .int .i64 ((jointR a b).s).p.z.lo, .int .i64 ((jointR a b).s).p.z.hi, .int .i64 ((jointR a b).s).v.x.lo, .int .i64 ((jointR a b).s).v.x.hi, .int .i64 ((jointR a b).s).v.y.lo, .int .i64 ((jointR a b).s).v.y.hi, .int .i64 ((jointR a b).s).v.z.lo, .int .i64 ((jointR a b).s).v.z.hi, .int .i64 ((jointR a b).s).m.lo, .int .i64 ((jointR a b).s).m.hi], .int .i64 (jointR a b).e]) ∧ Grew w w' := r3Joint_any a b w
theorem flRises_ret (p : Planet) (l : List Tube) (h : Int) [hp : Pl64 p] (hT : ∀ t ∈ l, Tb64 t) (ao : Option Addr) (cap : Nat) (w : World) (hs : SlAt w (.slice ao l.length cap) l.length (l.flatMap Tube.cells)) :
    Calls Try.prog 58 #[.agg #[.int .i64 p.mu.lo, .int .i64 p.mu.hi, .int .i64 p.radius.lo, .int .i64 p.radius.hi, .int .i64 p.oblate.lo, .int .i64 p.oblate.hi, .int .i64 p.spin.lo, .int .i64 p.spin.hi, .int .i64 p.pull.x.lo, .int .i64 p.pull.x.hi, .int .i64 p.pull.y.lo, .int .i64 p.pull.y.hi, .int .i64 p.pull.z.lo, .int .i64 p.pull.z.hi], .slice ao l.length cap, .int .i64 h] w fun e w' => e = .returned (.tuple #[.int .i64 (risesR p l h).may, .int .i64 (risesR p l h).sure, .int .i64 (risesR p l h).e]) ∧ Grew w w' := flRises_any p l h hT ao cap w hs
theorem r3Rises_ret (p : Planet) (l : List Tube) (h : Int) [hp : Pl64 p] (hT : ∀ t ∈ l, Tb64 t) (ao : Option Addr) (cap : Nat) (w : World) (hs : SlAt w (.slice ao l.length cap) l.length (l.flatMap Tube.cells)) :
    Calls Try.prog 59 #[.agg #[.int .i64 p.mu.lo, .int .i64 p.mu.hi, .int .i64 p.radius.lo, .int .i64 p.radius.hi, .int .i64 p.oblate.lo, .int .i64 p.oblate.hi, .int .i64 p.spin.lo, .int .i64 p.spin.hi, .int .i64 p.pull.x.lo, .int .i64 p.pull.x.hi, .int .i64 p.pull.y.lo, .int .i64 p.pull.y.hi, .int .i64 p.pull.z.lo, .int .i64 p.pull.z.hi], .slice ao l.length cap, .int .i64 h] w fun e w' => e = .returned (.tuple #[.int .i64 (risesR p l h).may, .int .i64 (risesR p l h).sure, .int .i64 (risesR p l h).e]) ∧ Grew w w' := r3Rises_any p l h hT ao cap w hs
theorem rises_walk (p : Planet) (l : List Tube) (h : Int) (a b : State) [hp : Pl64 p] [ha : St64 a] [hb : St64 b] (hT : ∀ t ∈ l, Tb64 t) (ao : Option Addr) (cap : Nat) (w : World) (hs : SlAt w (.slice ao l.length cap) l.length (l.flatMap Tube.cells)) :
    Calls Try.prog 12 #[.agg #[.int .i64 p.mu.lo, .int .i64 p.mu.hi, .int .i64 p.radius.lo, .int .i64 p.radius.hi, .int .i64 p.oblate.lo, .int .i64 p.oblate.hi, .int .i64 p.spin.lo, .int .i64 p.spin.hi, .int .i64 p.pull.x.lo, .int .i64 p.pull.x.hi, .int .i64 p.pull.y.lo, .int .i64 p.pull.y.hi, .int .i64 p.pull.z.lo, .int .i64 p.pull.z.hi], .slice ao l.length cap, .int .i64 h, .agg #[.int .i64 a.t, .int .i64 a.p.x.lo, .int .i64 a.p.x.hi, .int .i64 a.p.y.lo, .int .i64 a.p.y.hi, .int .i64 a.p.z.lo, .int .i64 a.p.z.hi, .int .i64 a.v.x.lo, .int .i64 a.v.x.hi, .int .i64 a.v.y.lo, .int .i64 a.v.y.hi, .int .i64 a.v.z.lo, .int .i64 a.v.z.hi, .int .i64 a.m.lo, .int .i64 a.m.hi], .agg #[.int .i64 b.t, .int .i64 b.p.x.lo, .int .i64 b.p.x.hi, .int .i64 b.p.y.lo, .int .i64 b.p.y.hi, .int .i64 b.p.z.lo, .int .i64 b.p.z.hi, .int .i64 b.v.x.lo, .int .i64 b.v.x.hi, .int .i64 b.v.y.lo, .int .i64 b.v.y.hi, .int .i64 b.v.z.lo, .int .i64 b.v.z.hi, .int .i64 b.m.lo, .int .i64 b.m.hi]] w fun e w' => e = .returned (.bool true) ∧ Grew w w' := by
  have hm := hs.len_le
  unfold maxLen at hm
  have Hs := Lib.hid hs
  have HT := Lib.hid hT
  clear hs hT
  by_cases hl : l.length ≤ 40
  · have hEq := eqBox
    go_enter Try.func12, Try.ntmps12
    go_wp2_with (first | (go_at_call 58; (with_reducible refine call_later (flRises_ret p l h HT.out ao cap _ (Hs.out.grew (by repeat (first | with_reducible exact Grew.refl _ | with_reducible apply Grew.alloc | with_reducible apply Grew.later | with_reducible apply Grew.drew | with_reducible apply Grew.store | with_reducible assumption)))) ?_); intro u) | (go_at_call 59; (with_reducible refine call_later (r3Rises_ret p l h HT.out ao cap _ (Hs.out.grew (by repeat (first | with_reducible exact Grew.refl _ | with_reducible apply Grew.alloc | with_reducible apply Grew.later | with_reducible apply Grew.drew | with_reducible apply Grew.store | with_reducible assumption)))) ?_); intro u) | (go_at_call 60; (with_reducible refine call_later (flJoint_ret a b _) ?_); intro u) | (go_at_call 61; (with_reducible refine call_later (r3Joint_ret a b _) ?_); intro u) | ((with_reducible refine wp_region_later ?_ ?_ ?_); (· kernel_rfl); (· kernel_rfl); (repeat (go_big_quiet_step ((first | (go_at_call 58; (with_reducible exact call_quiet (flRises_ret p l h HT.out ao cap _ (Hs.out.grew (by repeat (first | with_reducible exact Grew.refl _ | with_reducible apply Grew.alloc | with_reducible apply Grew.later | with_reducible apply Grew.drew | with_reducible apply Grew.store | with_reducible assumption)))))) | (go_at_call 59; (with_reducible exact call_quiet (r3Rises_ret p l h HT.out ao cap _ (Hs.out.grew (by repeat (first | with_reducible exact Grew.refl _ | with_reducible apply Grew.alloc | with_reducible apply Grew.later | with_reducible apply Grew.drew | with_reducible apply Grew.store | with_reducible assumption)))))) | (go_at_call 60; (with_reducible exact call_quiet (flJoint_ret a b _))) | (go_at_call 61; (with_reducible exact call_quiet (r3Joint_ret a b _))))))); refine wpQuiet_nil ?_; rintro _ ⟨u, rfl⟩))
    all_goals go_ret
    all_goals exact ⟨rfl, (by repeat (first | with_reducible exact Grew.refl _ | with_reducible apply Grew.alloc | with_reducible apply Grew.later | with_reducible apply Grew.drew | with_reducible apply Grew.store | with_reducible assumption))⟩
  · go_enter Try.func12, Try.ntmps12
    go_wp2
    go_ret
    exact ⟨rfl, (by repeat (first | with_reducible exact Grew.refl _ | with_reducible apply Grew.alloc | with_reducible apply Grew.later | with_reducible apply Grew.drew | with_reducible apply Grew.store | with_reducible assumption))⟩
namespace flightRisesRow
open Go.ChangeShapes Go.WideShapes Go.ChangeAt Go.RowKit
theorem own : ownKnob Try.prog.godebug = none := by kernel_rfl
theorem lifted (os : Os) (started : os.Started) (H : Type) (enc : TypeId × Value → H) :
    ReturnsInHanded {} Try.checked os 12 .any (Rows.flightRisesSpec.pre6 enc Try.prog Try.f12 Rows.flightRisesRow.domain false) (Rows.flightRisesSpec.post enc Try.prog Try.f12 false true false false) := by
  refine returnsInHanded_of_change (C := Try.checked) own started (by kernel_rfl) Try.func12
    (ChangeSpec.witness6 (enc := enc) (C := Try.checked) false ⟨#[], #[.agg #[.int .i64 0, .int .i64 0, .int .i64 0, .int .i64 0, .int .i64 0, .int .i64 0, .int .i64 0, .int .i64 0, .int .i64 0, .int .i64 0, .int .i64 0, .int .i64 0, .int .i64 0, .int .i64 0], .slice none 0 0, .int .i64 0, .agg #[.int .i64 0, .int .i64 0, .int .i64 0, .int .i64 0, .int .i64 0, .int .i64 0, .int .i64 0, .int .i64 0, .int .i64 0, .int .i64 0, .int .i64 0, .int .i64 0, .int .i64 0, .int .i64 0, .int .i64 0], .agg #[.int .i64 0, .int .i64 0, .int .i64 0, .int .i64 0, .int .i64 0, .int .i64 0, .int .i64 0, .int .i64 0, .int .i64 0, .int .i64 0, .int .i64 0, .int .i64 0, .int .i64 0, .int .i64 0, .int .i64 0]], []⟩ 8 (by as_aux_lemma => kernel_rfl) (by as_aux_lemma => kernel_rfl) (by as_aux_lemma => kernel_rfl) (by as_aux_lemma => kernel_rfl)) ?_
  intro W base args ds gs before hval0 hW _ _
  have hval : ∀ (j : Nat) t v, Try.f12.params[j]? = some t → args[j]? = some v → Value.okWide Try.prog W .any base t v := hval0
  have hW' := hW
  obtain ⟨p, q, hA0, hV, rfl, hfz, hnd⟩ := hW
  have hA : DataW.TrodAll enc Try.prog W 0 (fun _ => true) true Try.f12.params.toList args.toList ds p := hA0
  rw [Try.params12] at hA hval
  obtain ⟨v0, vs0, d0, ds0, p0, q0, hargs, rfl, rfl, h0, r0⟩ := trodAll_cons hA
  obtain ⟨v1, vs1, d1, ds1, p1, q1, rfl, rfl, rfl, h1, r1⟩ := trodAll_cons r0
  obtain ⟨v2, vs2, d2, ds2, p2, q2, rfl, rfl, rfl, h2, r2⟩ := trodAll_cons r1
  obtain ⟨v3, vs3, d3, ds3, p3, q3, rfl, rfl, rfl, h3, r3⟩ := trodAll_cons r2
  obtain ⟨v4, vs4, d4, ds4, p4, q4, rfl, rfl, rfl, h4, r4⟩ := trodAll_cons r3
  obtain ⟨rfl, rfl, rfl⟩ := trodAll_nil r4
  obtain rfl : args = #[v0, v1, v2, v3, v4] := by cases args; simp_all
  obtain ⟨rfl, rfl⟩ := trodVars_none hV
  obtain ⟨cs0, rfl, -⟩ := okWide_struct Try.underlying67 (hval 0 67 v0 rfl rfl)
  obtain ⟨cs3, rfl, -⟩ := okWide_struct Try.underlying69 (hval 3 69 v3 rfl rfl)
  obtain ⟨cs4, rfl, -⟩ := okWide_struct Try.underlying69 (hval 4 69 v4 rfl rfl)
  obtain ⟨a2, rfl, -, -⟩ := open_num Try.underlying52 (hval 2 52 v2 rfl rfl) h2
  obtain ⟨ao1, n1, cap1, rfl⟩ := okWide_slice Try.underlying80 (hval 1 80 v1 rfl rfl)
  obtain ⟨_, h0⟩ := h0
  obtain ⟨_, h1⟩ := h1
  obtain ⟨_, h3⟩ := h3
  obtain ⟨_, h4⟩ := h4
  obtain ⟨a0, e0, j1, j2, j3, j4, j5, j6, j7, j8, j9, j10, j11, j12, j13, j14⟩ := planet_trod h0
  obtain ⟨ao, cap, l, e1, hl, hT⟩ := tubes_trod h1
  obtain ⟨a3, e3, s1, s2, s3, s4, s5, s6, s7, s8, s9, s10, s11, s12, s13, s14, s15⟩ := state_trod h3
  obtain ⟨a4, e4, t1, t2, t3, t4, t5, t6, t7, t8, t9, t10, t11, t12, t13, t14, t15⟩ := state_trod h4
  obtain rfl : cs0 = a0.cells.toArray := Array.ext' (by simpa [Value.cells] using e0)
  obtain rfl : cs3 = a3.cells.toArray := Array.ext' (by simpa [Value.cells] using e3)
  obtain rfl : cs4 = a4.cells.toArray := Array.ext' (by simpa [Value.cells] using e4)
  obtain ⟨rfl, rfl, rfl⟩ : ao1 = ao ∧ n1 = l.length ∧ cap1 = cap := by simpa [Value.cells] using e1
  have hP : Pl64 a0 := ⟨⟨j1, j2⟩, ⟨j3, j4⟩, ⟨j5, j6⟩, ⟨j7, j8⟩, b64_of j9 j10 j11 j12 j13 j14⟩
  have hA3 : St64 a3 := ⟨s1, b64_of s2 s3 s4 s5 s6 s7, b64_of s8 s9 s10 s11 s12 s13, ⟨s14, s15⟩⟩
  have hA4 : St64 a4 := ⟨t1, b64_of t2 t3 t4 t5 t6 t7, b64_of t8 t9 t10 t11 t12 t13, ⟨t14, t15⟩⟩
  refine (rises_walk a0 l a2 a3 a4 hT ao1 cap1 W hl).mono fun e W' ⟨he, hg⟩ => ?_
  subst he
  exact ⟨_, rfl, law_post (by kernel_rfl) (by kernel_rfl) rfl rfl Try.underlying4 hW' rfl hg⟩
theorem proved : Rows.FlightRisesSaid :=
  OpenClaim.holds_of_wide 12 Try.f12 rfl rfl rfl rfl rfl rfl rfl ⟨rfl, rfl, rfl, rfl, rfl⟩ rfl rfl rfl rfl rfl (by as_aux_lemma => kernel_rfl) Try.func12 (by as_aux_lemma => kernel_rfl)
    (of_decide_eq_true (by as_aux_lemma => kernel_rfl)) (by unfold Func.isWrapper; first | (rw [if_pos (by decide +kernel)]; kernel_rfl) | (rw [if_neg (by decide +kernel)]; exact ⟨rfl, rfl⟩))
    (fun os started H enc _ => lifted os started H enc)
end flightRisesRow
end Go.Proofs.Ytdanaclplmacgaa
