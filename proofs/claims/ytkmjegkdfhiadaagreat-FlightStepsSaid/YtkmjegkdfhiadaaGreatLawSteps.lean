/-
  FlightSteps: for every planet, arc (a table of at most 70 points), length and state, the step that flight does, with its tube, or the error, is ullageref03's. No condition.
-/
import Derived.Test.YtkmjegkdfhiadaaGreatStepU
import Derived.Test.YtkmjegkdfhiadaaGreatLookAll
import Derived.Test.YtkmjegkdfhiadaaGreatOpenAll
import Derived.ChangeKeysEq
import Derived.Test.YtkmjegkdfhiadaaGreatRows
namespace Go.Proofs.YtkmjegkdfhiadaaGreat
open Go.RowKit Go.ChangeShapes Go.WideShapes Go.ChangeAt Go.Deep
set_option maxRecDepth 100000
set_option maxHeartbeats 16000000
theorem b64_of {b : Bx} (h1 : I64 b.x.lo) (h2 : I64 b.x.hi) (h3 : I64 b.y.lo) (h4 : I64 b.y.hi) (h5 : I64 b.z.lo) (h6 : I64 b.z.hi) : B64 b := ⟨⟨h1, h2⟩, ⟨h3, h4⟩, ⟨h5, h6⟩⟩
theorem rLook_ok2 : LookOk 149 := fun l x _ ao cap w hs => rLook_any l x ao cap w hs
def Arc.longB (a : Arc) : Bool := decide (70 < a.drag.n)
theorem l3Long_one (a : Arc) (v : Value) (w : World) (h : SlAt w v 1 [.int .i64 a.time, .int .i64 a.step, .int .i64 a.thrust.lo, .int .i64 a.thrust.hi, .int .i64 a.flow.lo, .int .i64 a.flow.hi, .int .i64 a.dir.x.lo, .int .i64 a.dir.x.hi, .int .i64 a.dir.y.lo, .int .i64 a.dir.y.hi, .int .i64 a.dir.z.lo, .int .i64 a.dir.z.hi, .slice a.drag.ao a.drag.n a.drag.cap, .int .i64 a.drop.lo, .int .i64 a.drop.hi]) : Calls Tryz.prog 11 #[v] w fun e w' => e = .returned (.bool a.longB) ∧ Grew w w' := by
  obtain ⟨ao, cap, rfl, hm, hc⟩ := h
  have Hc := Lib.hid (SlAt.elem (f := Arc.cells) (c := 15) (fun _ => rfl) (by omega) (l := [a]) hc)
  clear hc
  go_enter Tryz.func11, Tryz.ntmps11
  go_wp2
  go_loopw [6] (fun t wr => ∃ k : Nat, t = .int .i64 k ∧ k ≤ 1 ∧ (k = 1 → a.longB = false) ∧ Grew w wr) (fun t _ => 1 - (intOf t).toNat)
  case atStart => exact ⟨0, rfl, by omega, by omega, Grew.refl _⟩
  case round =>
    obtain ⟨k, rfl, hk, hall, hg⟩ := hrel
    obtain ⟨x, rfl⟩ := later_of hg
    clear hg
    by_cases hlt : k < 1
    · obtain rfl : k = 0 := by omega
      obtain ⟨b1, o1, rfl, i1, hd1, hd2⟩ := Hc.out 0 (by simp)
      have hd3 : w.cell? ⟨b1, o1 + 0 * 15 + 12, none⟩ = some (.slice a.drag.ao a.drag.n a.drag.cap) := hd2 12 _ rfl
      clear hd1 hd2 hall
      have i1 : BlockIn w b1 := ⟨i1⟩
      by_cases h : 70 < a.drag.n
      · go_wp2
        go_ret
        exact ⟨ret_bool (by simp [Arc.longB, h]), gw⟩
      · go_wp2
        go_roundw
        case rel => exact ⟨1, by go_num, by omega, fun _ => by simp [Arc.longB]; omega, gw⟩
        case measure => simp [intOf]
    · obtain rfl : k = 1 := by omega
      have hA := Lib.hid (hall rfl)
      clear hall
      go_wp2
      go_ret
      exact ⟨ret_bool hA.out.symm, x.grew⟩
theorem spanInfo : (Tryz.prog.info? 24).isSome = true := by kernel_rfl
theorem eqBox (x0 x1 x2 x3 x4 x5 : Int) (w : World) :
    (Op.equalIn 9999 26 (.agg #[.int .i64 x0, .int .i64 x1, .int .i64 x2, .int .i64 x3, .int .i64 x4, .int .i64 x5]) (.agg #[.int .i64 x0, .int .i64 x1, .int .i64 x2, .int .i64 x3, .int .i64 x4, .int .i64 x5])).run Tryz.prog w = .ok true w := by
  obtain ⟨i, hi⟩ := Option.isSome_iff_exists.1 spanInfo
  rw [run_equalIn_array w 9998 _ _ Tryz.underlying26 hi]
  have hC : Tryz.prog.cellsOf 24 = 2 := by kernel_rfl
  rw [hC]
  have hr : List.range 3 = [0, 1, 2] := rfl
  rw [hr]
  simp [go_sem, Op.eqItems]
theorem eqSt (s : State) (w : World) : (Op.equalIn 10000 28 (.agg #[.int .i64 s.t, .int .i64 s.p.x.lo, .int .i64 s.p.x.hi, .int .i64 s.p.y.lo, .int .i64 s.p.y.hi, .int .i64 s.p.z.lo, .int .i64 s.p.z.hi, .int .i64 s.v.x.lo, .int .i64 s.v.x.hi, .int .i64 s.v.y.lo, .int .i64 s.v.y.hi, .int .i64 s.v.z.lo, .int .i64 s.v.z.hi, .int .i64 s.m.lo, .int .i64 s.m.hi]) (.agg #[.int .i64 s.t, .int .i64 s.p.x.lo, .int .i64 s.p.x.hi, .int .i64 s.p.y.lo, .int .i64 s.p.y.hi, .int .i64 s.p.z.lo, .int .i64 s.p.z.hi, .int .i64 s.v.x.lo, .int .i64 s.v.x.hi, .int .i64 s.v.y.lo, .int .i64 s.v.y.hi, .int .i64 s.v.z.lo, .int .i64 s.v.z.hi, .int .i64 s.m.lo, .int .i64 s.m.hi])).run Tryz.prog w = .ok true w := by
  have h1 := eqBox
  simp [go_sem, h1]
theorem eqTb (s : Tube) (w : World) : (Op.equalIn 10000 51 (.agg #[.int .i64 s.a, .int .i64 s.z, .int .i64 s.p.x.lo, .int .i64 s.p.x.hi, .int .i64 s.p.y.lo, .int .i64 s.p.y.hi, .int .i64 s.p.z.lo, .int .i64 s.p.z.hi, .int .i64 s.v.x.lo, .int .i64 s.v.x.hi, .int .i64 s.v.y.lo, .int .i64 s.v.y.hi, .int .i64 s.v.z.lo, .int .i64 s.v.z.hi, .int .i64 s.m.lo, .int .i64 s.m.hi]) (.agg #[.int .i64 s.a, .int .i64 s.z, .int .i64 s.p.x.lo, .int .i64 s.p.x.hi, .int .i64 s.p.y.lo, .int .i64 s.p.y.hi, .int .i64 s.p.z.lo, .int .i64 s.p.z.hi, .int .i64 s.v.x.lo, .int .i64 s.v.x.hi, .int .i64 s.v.y.lo, .int .i64 s.v.y.hi, .int .i64 s.v.z.lo, .int .i64 s.v.z.hi, .int .i64 s.m.lo, .int .i64 s.m.hi])).run Tryz.prog w = .ok true w := by
  have h1 := eqBox
  simp [go_sem, h1]
instance newFor_setRowS (a w : World) (b : Nat) (cs : Array Value) [h : NewFor a w.heap.size] : NewFor a (w.setRow b cs).heap.size := ⟨by have := h.le; simpa [World.setRow] using this⟩
theorem steps_walk (p : Planet) (a : Arc) (h : Int) (l : List Pt) (s : State) [hp : Pl64 p] [hs : St64 s] [hh : S64 (⟨h, h⟩ : Sp)] [hat : S64 a.thrust] [haf : S64 a.flow] [had : B64 a.dir] (w : World) (hd : DragAt w a l) :
    Calls Tryz.prog 4 #[.agg #[.int .i64 p.mu.lo, .int .i64 p.mu.hi, .int .i64 p.radius.lo, .int .i64 p.radius.hi, .int .i64 p.oblate.lo, .int .i64 p.oblate.hi, .int .i64 p.spin.lo, .int .i64 p.spin.hi, .int .i64 p.pull.x.lo, .int .i64 p.pull.x.hi, .int .i64 p.pull.y.lo, .int .i64 p.pull.y.hi, .int .i64 p.pull.z.lo, .int .i64 p.pull.z.hi], .agg #[.int .i64 a.time, .int .i64 a.step, .int .i64 a.thrust.lo, .int .i64 a.thrust.hi, .int .i64 a.flow.lo, .int .i64 a.flow.hi, .int .i64 a.dir.x.lo, .int .i64 a.dir.x.hi, .int .i64 a.dir.y.lo, .int .i64 a.dir.y.hi, .int .i64 a.dir.z.lo, .int .i64 a.dir.z.hi, .slice a.drag.ao a.drag.n a.drag.cap, .int .i64 a.drop.lo, .int .i64 a.drop.hi, .int .i64 h], .agg #[.int .i64 s.t, .int .i64 s.p.x.lo, .int .i64 s.p.x.hi, .int .i64 s.p.y.lo, .int .i64 s.p.y.hi, .int .i64 s.p.z.lo, .int .i64 s.p.z.hi, .int .i64 s.v.x.lo, .int .i64 s.v.x.hi, .int .i64 s.v.y.lo, .int .i64 s.v.y.hi, .int .i64 s.v.z.lo, .int .i64 s.v.z.hi, .int .i64 s.m.lo, .int .i64 s.m.hi]] w fun e w' => e = .returned (.bool true) ∧ Grew w w' := by
  have H1 := Lib.hid (fun w' (g : Grew w w') => show Calls Tryz.prog 12 #[.agg #[.int .i64 p.mu.lo, .int .i64 p.mu.hi, .int .i64 p.radius.lo, .int .i64 p.radius.hi, .int .i64 p.oblate.lo, .int .i64 p.oblate.hi, .int .i64 p.spin.lo, .int .i64 p.spin.hi, .int .i64 p.pull.x.lo, .int .i64 p.pull.x.hi, .int .i64 p.pull.y.lo, .int .i64 p.pull.y.hi, .int .i64 p.pull.z.lo, .int .i64 p.pull.z.hi], .agg #[.int .i64 a.time, .int .i64 a.step, .int .i64 a.thrust.lo, .int .i64 a.thrust.hi, .int .i64 a.flow.lo, .int .i64 a.flow.hi, .int .i64 a.dir.x.lo, .int .i64 a.dir.x.hi, .int .i64 a.dir.y.lo, .int .i64 a.dir.y.hi, .int .i64 a.dir.z.lo, .int .i64 a.dir.z.hi, .slice a.drag.ao a.drag.n a.drag.cap, .int .i64 a.drop.lo, .int .i64 a.drop.hi], .agg #[.int .i64 s.t, .int .i64 s.p.x.lo, .int .i64 s.p.x.hi, .int .i64 s.p.y.lo, .int .i64 s.p.y.hi, .int .i64 s.p.z.lo, .int .i64 s.p.z.hi, .int .i64 s.v.x.lo, .int .i64 s.v.x.hi, .int .i64 s.v.y.lo, .int .i64 s.v.y.hi, .int .i64 s.v.z.lo, .int .i64 s.v.z.hi, .int .i64 s.m.lo, .int .i64 s.m.hi], .int .i64 h] w' (RetS3 (stepRR p a l s h) w') from flStepE_any look_any p a l s h w' (hd.grew g))
  have H2 := Lib.hid (fun w' (g : Grew w w') => show Calls Tryz.prog 13 #[.agg #[.int .i64 p.mu.lo, .int .i64 p.mu.hi, .int .i64 p.radius.lo, .int .i64 p.radius.hi, .int .i64 p.oblate.lo, .int .i64 p.oblate.hi, .int .i64 p.spin.lo, .int .i64 p.spin.hi, .int .i64 p.pull.x.lo, .int .i64 p.pull.x.hi, .int .i64 p.pull.y.lo, .int .i64 p.pull.y.hi, .int .i64 p.pull.z.lo, .int .i64 p.pull.z.hi], .agg #[.int .i64 a.time, .int .i64 a.step, .int .i64 a.thrust.lo, .int .i64 a.thrust.hi, .int .i64 a.flow.lo, .int .i64 a.flow.hi, .int .i64 a.dir.x.lo, .int .i64 a.dir.x.hi, .int .i64 a.dir.y.lo, .int .i64 a.dir.y.hi, .int .i64 a.dir.z.lo, .int .i64 a.dir.z.hi, .slice a.drag.ao a.drag.n a.drag.cap, .int .i64 a.drop.lo, .int .i64 a.drop.hi], .agg #[.int .i64 s.t, .int .i64 s.p.x.lo, .int .i64 s.p.x.hi, .int .i64 s.p.y.lo, .int .i64 s.p.y.hi, .int .i64 s.p.z.lo, .int .i64 s.p.z.hi, .int .i64 s.v.x.lo, .int .i64 s.v.x.hi, .int .i64 s.v.y.lo, .int .i64 s.v.y.hi, .int .i64 s.v.z.lo, .int .i64 s.v.z.hi, .int .i64 s.m.lo, .int .i64 s.m.hi], .int .i64 h] w' (RetS3 (stepRR p a l s h) w') from r3Step_any rLook_ok2 p a l s h w' (hd.grew g))
  clear hd
  have hEq := eqSt
  have hEq2 := eqTb
  cases hl : a.longB
  all_goals
    generalize stepRR p a l s h = R at *
    go_enter Tryz.func4, Tryz.ntmps4
    go_wp2_with (first | (go_at_call 11; (with_reducible refine call_later (l3Long_one a _ _ (SlAt.fresh _ _ _ _ (by simp [maxLen]))) ?_); intro u) | (go_at_call 12; refine (H1.out _ ?_).mono ?_; (· exact gwr); rintro en w2 ⟨rfl, hg⟩; obtain ⟨u1, rfl⟩ := later_of hg; clear hg; have : Apart u1.world.heap.size (u1.world.heap.size + 1) := ⟨by omega⟩; have : Apart (u1.world.heap.size + 1) u1.world.heap.size := ⟨by omega⟩) | (go_at_call 13; refine (H2.out _ ?_).mono ?_; (· exact gwr); rintro en w2 ⟨rfl, hg⟩; obtain ⟨u2, rfl⟩ := later_of hg; clear hg; have : Apart u2.world.heap.size (u2.world.heap.size + 1) := ⟨by omega⟩; have : Apart (u2.world.heap.size + 1) u2.world.heap.size := ⟨by omega⟩) | ((with_reducible refine wpList_load_rng ?_ ?_ ?_ ?_ ?_ ?_ ?_ ?_ ?_ ?_ ?_ ?_); rotate_left 6; (· rfl); (· rfl); (· rfl); (· infer_instance); (· infer_instance)) | ((with_reducible refine wpList_load_is ?_ ?_ ?_ ?_ ?_ ?_ ?_ ?_ ?_ ?_ ?_ ?_ ?_); rotate_left 6; (· rfl); (· rfl); (· rfl); (· infer_instance); (· infer_instance); (· rfl)) | ((with_reducible refine wpList_store_fresh ?_ ?_ ?_ ?_ ?_ ?_ ?_ ?_ ?_ ?_ ?_ ?_ ?_ ?_ ?_ ?_ ?_); rotate_left 5; (· rfl); (· rfl); (· rfl); (· rfl); (· rfl); (· infer_instance); (· infer_instance); (· infer_instance); (· infer_instance)) | ((with_reducible refine wpList_store_is ?_ ?_ ?_ ?_ ?_ ?_ ?_ ?_ ?_ ?_ ?_ ?_ ?_ ?_ ?_ ?_ ?_); rotate_left 7; (· rfl); (· rfl); (· rfl); (· rfl); (· rfl); (· infer_instance); (· infer_instance); (· infer_instance); (· infer_instance)))
    go_ret
    exact ⟨rfl, gwr⟩
section
variable {H : Type} {enc : TypeId × Value → H} {w : World} {base : Nat} {spare : Nat → Bool} {held : Bool}
theorem move_trod {fuel : Nat} {cs : List Value} {x : DataW H × List MemPlace} (h : DataW.trod enc Tryz.prog w base spare held fuel 48 cs = some x) :
    ∃ (a : Arc) (l0 : List Pt) (k : Int), cs = [.int .i64 a.time, .int .i64 a.step, .int .i64 a.thrust.lo, .int .i64 a.thrust.hi, .int .i64 a.flow.lo, .int .i64 a.flow.hi, .int .i64 a.dir.x.lo, .int .i64 a.dir.x.hi, .int .i64 a.dir.y.lo, .int .i64 a.dir.y.hi, .int .i64 a.dir.z.lo, .int .i64 a.dir.z.hi, .slice a.drag.ao a.drag.n a.drag.cap, .int .i64 a.drop.lo, .int .i64 a.drop.hi, .int .i64 k] ∧ DragAt w a l0 ∧ I64 a.thrust.lo ∧ I64 a.thrust.hi ∧ I64 a.flow.lo ∧ I64 a.flow.hi ∧ I64 a.dir.x.lo ∧ I64 a.dir.x.hi ∧ I64 a.dir.y.lo ∧ I64 a.dir.y.hi ∧ I64 a.dir.z.lo ∧ I64 a.dir.z.hi ∧ I64 k := by
  obtain ⟨xs, n, rfl, -, hl, hxl, hf⟩ := DataW.trod_struct Tryz.underlying48 h
  have hxl : xs.length = 2 := hxl
  have hC : Tryz.prog.cellsOf 48 = 16 := by kernel_rfl
  obtain ⟨c0, c1, c2, c3, c4, c5, c6, c7, c8, c9, c10, c11, c12, c13, c14, c15, rfl⟩ := vals16 (hl.trans hC)
  have f0 : DataW.trod enc Tryz.prog w base spare held n 46 (([c0, c1, c2, c3, c4, c5, c6, c7, c8, c9, c10, c11, c12, c13, c14, c15].drop 0).take (Tryz.prog.cellsOf 46)) = xs[0]? := hf 0 _ rfl
  rw [List.getElem?_eq_getElem (by omega)] at f0
  simp only [show Tryz.prog.cellsOf 46 = 15 by kernel_rfl] at f0
  have f1 : DataW.trod enc Tryz.prog w base spare held n 22 (([c0, c1, c2, c3, c4, c5, c6, c7, c8, c9, c10, c11, c12, c13, c14, c15].drop 15).take (Tryz.prog.cellsOf 22)) = xs[1]? := hf 1 _ rfl
  rw [List.getElem?_eq_getElem (by omega)] at f1
  simp only [show Tryz.prog.cellsOf 22 = 1 by kernel_rfl] at f1
  have s1 := (flat_trod Tryz.prog 12 22 1 _ _ _ (by kernel_rfl) f1).2
  obtain ⟨k, rfl, b⟩ := s1 0 c15 rfl
  obtain ⟨a1, l1, e1, hd, i1, i2, i3, i4, i5, i6, i7, i8, i9, i10, i11, i12, i13, i14⟩ := arc_trod f0
  have e2 : [c0, c1, c2, c3, c4, c5, c6, c7, c8, c9, c10, c11, c12, c13, c14] = a1.cells := e1
  refine ⟨a1, l1, k, ?_, hd, i3, i4, i5, i6, i7, i8, i9, i10, i11, i12, i64_of b⟩
  show [c0, c1, c2, c3, c4, c5, c6, c7, c8, c9, c10, c11, c12, c13, c14] ++ [Value.int .i64 k] = a1.cells ++ [.int .i64 k]
  rw [e2]
end
namespace flightStepsRow
open Go.ChangeShapes Go.WideShapes Go.ChangeAt Go.RowKit
theorem own : ownKnob Tryz.prog.godebug = none := by kernel_rfl
theorem lifted (os : Os) (started : os.Started) (H : Type) (enc : TypeId × Value → H) :
    ReturnsInHanded {} Tryz.checked os 4 .any (Rows.flightStepsSpec.pre6 enc Tryz.prog Tryz.f4 Rows.flightStepsRow.domain false) (Rows.flightStepsSpec.post enc Tryz.prog Tryz.f4 false true false false) := by
  refine returnsInHanded_of_change (C := Tryz.checked) own started (by kernel_rfl) Tryz.func4
    (ChangeSpec.witness6 (enc := enc) (C := Tryz.checked) false ⟨#[], #[.agg #[.int .i64 0, .int .i64 0, .int .i64 0, .int .i64 0, .int .i64 0, .int .i64 0, .int .i64 0, .int .i64 0, .int .i64 0, .int .i64 0, .int .i64 0, .int .i64 0, .int .i64 0, .int .i64 0], .agg #[.int .i64 0, .int .i64 0, .int .i64 0, .int .i64 0, .int .i64 0, .int .i64 0, .int .i64 0, .int .i64 0, .int .i64 0, .int .i64 0, .int .i64 0, .int .i64 0, .slice none 0 0, .int .i64 0, .int .i64 0, .int .i64 0], .agg #[.int .i64 0, .int .i64 0, .int .i64 0, .int .i64 0, .int .i64 0, .int .i64 0, .int .i64 0, .int .i64 0, .int .i64 0, .int .i64 0, .int .i64 0, .int .i64 0, .int .i64 0, .int .i64 0, .int .i64 0]], []⟩ 8 (by as_aux_lemma => kernel_rfl) (by as_aux_lemma => kernel_rfl) (by as_aux_lemma => kernel_rfl) (by as_aux_lemma => kernel_rfl)) ?_
  intro W base args ds gs before hval0 hW _ _
  have hval : ∀ (j : Nat) t v, Tryz.f4.params[j]? = some t → args[j]? = some v → Value.okWide Tryz.prog W .any base t v := hval0
  have hW' := hW
  obtain ⟨p, q, hA0, hV, rfl, hfz, hnd⟩ := hW
  have hA : DataW.TrodAll enc Tryz.prog W 0 (fun _ => true) true Tryz.f4.params.toList args.toList ds p := hA0
  rw [Tryz.params4] at hA hval
  obtain ⟨v0, vs0, d0, ds0, p0, q0, hargs, rfl, rfl, h0, r0⟩ := trodAll_cons hA
  obtain ⟨v1, vs1, d1, ds1, p1, q1, rfl, rfl, rfl, h1, r1⟩ := trodAll_cons r0
  obtain ⟨v2, vs2, d2, ds2, p2, q2, rfl, rfl, rfl, h2, r2⟩ := trodAll_cons r1
  obtain ⟨rfl, rfl, rfl⟩ := trodAll_nil r2
  obtain rfl : args = #[v0, v1, v2] := by cases args; simp_all
  obtain ⟨rfl, rfl⟩ := trodVars_none hV
  obtain ⟨cs0, rfl, -⟩ := okWide_struct Tryz.underlying43 (hval 0 43 v0 rfl rfl)
  obtain ⟨cs1, rfl, -⟩ := okWide_struct Tryz.underlying48 (hval 1 48 v1 rfl rfl)
  obtain ⟨cs2, rfl, -⟩ := okWide_struct Tryz.underlying28 (hval 2 28 v2 rfl rfl)
  obtain ⟨_, h0⟩ := h0
  obtain ⟨_, h1⟩ := h1
  obtain ⟨_, h2⟩ := h2
  obtain ⟨a0, e0, j1, j2, j3, j4, j5, j6, j7, j8, j9, j10, j11, j12, j13, j14⟩ := planet_trod h0
  obtain ⟨a1, l1, k1, e1, hd, i3, i4, i5, i6, i7, i8, i9, i10, i11, i12, i13⟩ := move_trod h1
  obtain ⟨a2, e2, s1, s2, s3, s4, s5, s6, s7, s8, s9, s10, s11, s12, s13, s14, s15⟩ := state_trod h2
  obtain rfl : cs0 = a0.cells.toArray := Array.ext' (by simpa [Value.cells] using e0)
  obtain rfl : cs1 = #[.int .i64 a1.time, .int .i64 a1.step, .int .i64 a1.thrust.lo, .int .i64 a1.thrust.hi, .int .i64 a1.flow.lo, .int .i64 a1.flow.hi, .int .i64 a1.dir.x.lo, .int .i64 a1.dir.x.hi, .int .i64 a1.dir.y.lo, .int .i64 a1.dir.y.hi, .int .i64 a1.dir.z.lo, .int .i64 a1.dir.z.hi, .slice a1.drag.ao a1.drag.n a1.drag.cap, .int .i64 a1.drop.lo, .int .i64 a1.drop.hi, .int .i64 k1] := Array.ext' (by simpa [Value.cells] using e1)
  obtain rfl : cs2 = a2.cells.toArray := Array.ext' (by simpa [Value.cells] using e2)
  have hP : Pl64 a0 := ⟨⟨j1, j2⟩, ⟨j3, j4⟩, ⟨j5, j6⟩, ⟨j7, j8⟩, b64_of j9 j10 j11 j12 j13 j14⟩
  have hA1 : S64 a1.thrust := ⟨i3, i4⟩
  have hA3 : S64 a1.flow := ⟨i5, i6⟩
  have hA2 : B64 a1.dir := b64_of i7 i8 i9 i10 i11 i12
  have hH : S64 (⟨k1, k1⟩ : Sp) := ⟨i13, i13⟩
  have hS : St64 a2 := ⟨s1, b64_of s2 s3 s4 s5 s6 s7, b64_of s8 s9 s10 s11 s12 s13, ⟨s14, s15⟩⟩
  refine (steps_walk a0 a1 k1 l1 a2 W hd).mono fun e W' ⟨he, hg⟩ => ?_
  subst he
  exact ⟨_, rfl, law_post (by kernel_rfl) (by kernel_rfl) rfl rfl Tryz.underlying4 hW' rfl hg⟩
theorem proved : Rows.FlightStepsSaid :=
  OpenClaim.holds_of_wide 4 Tryz.f4 rfl rfl rfl rfl rfl rfl rfl ⟨rfl, rfl, rfl, rfl, rfl⟩ rfl rfl rfl rfl rfl (by as_aux_lemma => kernel_rfl) Tryz.func4 (by as_aux_lemma => kernel_rfl)
    (of_decide_eq_true (by as_aux_lemma => kernel_rfl)) (by unfold Func.isWrapper; first | (rw [if_pos (by decide +kernel)]; kernel_rfl) | (rw [if_neg (by decide +kernel)]; exact ⟨rfl, rfl⟩))
    (fun os started H enc _ => lifted os started H enc)
end flightStepsRow
end Go.Proofs.YtkmjegkdfhiadaaGreat
