/-
  FlightForces: for every planet, arc (a table of at most 70 points) and state, the force that flight finds, or the error, is ullageref03's. No condition.
-/
import Derived.Test.YtnedbhdokljpcaaGreatForceE
import Derived.Test.YtnedbhdokljpcaaGreatForceR
import Derived.Test.YtnedbhdokljpcaaGreatLook
import Derived.Test.YtnedbhdokljpcaaGreatEqBox
import Derived.ChangeKeysEq
import Derived.Test.YtnedbhdokljpcaaGreatOpenAll
import Derived.Test.YtnedbhdokljpcaaGreatRows
namespace Go.Proofs.YtnedbhdokljpcaaGreat
open Go.RowKit Go.Shelf
set_option maxRecDepth 100000
set_option maxHeartbeats 16000000
theorem r3ForceE_any (HL : LookOk 122) (p : Planet) (x : Arc) (l : List Pt) (s : State) [hp : Pl64 p] [hs : St64 s] [hxt : S64 x.thrust] [hxd : B64 x.dir] (w : World) (hd : DragAt w x l) :
    Calls Tryz.prog 20 #[.agg p.cells.toArray, .agg x.cells.toArray, .agg #[.int .i64 s.t, .int .i64 s.p.x.lo, .int .i64 s.p.x.hi, .int .i64 s.p.y.lo, .int .i64 s.p.y.hi, .int .i64 s.p.z.lo, .int .i64 s.p.z.hi, .int .i64 s.v.x.lo, .int .i64 s.v.x.hi, .int .i64 s.v.y.lo, .int .i64 s.v.y.hi, .int .i64 s.v.z.lo, .int .i64 s.v.z.hi, .int .i64 s.m.lo, .int .i64 s.m.hi]] w (RetB (forceR p x l s) w) := by
  cases h1 : p.okB
  · have HR := Lib.hid (show (⟨zBx, 2⟩ : BRes) = forceR p x l s by unfold forceR forceOk; rw [h1]; rfl)
    have HP := Lib.hid (fun w' => show Calls Tryz.prog 40 #[.agg p.cells.toArray] w' _ from is_int (show codeB p.okB 2 = 2 by rw [h1]; rfl) (r3Planet_any p w'))
    clear h1 hd
    generalize forceR p x l s = R at *
    go_enter Tryz.func20, Tryz.ntmps20
    go_wp2_with (first | (go_at_call 40; (with_reducible refine call_later (HP.out _) ?_); intro u) | ((with_reducible refine wpList_load_is ?_ ?_ ?_ ?_ ?_ ?_ ?_ ?_ ?_ ?_ ?_ ?_ ?_); rotate_left 6; (· rfl); (· rfl); (· rfl); (· infer_instance); (· infer_instance); (· rfl)))
    refine bodyPost_ret (by (simp [results, Tryz.results20, go_sem] <;> rfl)) rfl ?_
    exact ⟨ret_box HR.out, (by repeat (first | with_reducible exact Grew.refl _ | with_reducible apply Grew.alloc | with_reducible apply Grew.later | with_reducible apply Grew.drew | with_reducible apply Grew.store | with_reducible assumption))⟩
  cases h2 : x.okB l
  · have HR := Lib.hid (show (⟨zBx, 2⟩ : BRes) = forceR p x l s by unfold forceR forceOk; rw [h1, h2]; rfl)
    have HP := Lib.hid (fun w' => show Calls Tryz.prog 40 #[.agg p.cells.toArray] w' _ from is_int (show codeB p.okB 2 = 0 by rw [h1]; rfl) (r3Planet_any p w'))
    have HA := Lib.hid (fun w' (g : Grew w w') => show Calls Tryz.prog 71 #[.agg #[.int .i64 x.time, .int .i64 x.step, .int .i64 x.thrust.lo, .int .i64 x.thrust.hi, .int .i64 x.flow.lo, .int .i64 x.flow.hi, .int .i64 x.dir.x.lo, .int .i64 x.dir.x.hi, .int .i64 x.dir.y.lo, .int .i64 x.dir.y.hi, .int .i64 x.dir.z.lo, .int .i64 x.dir.z.hi, .slice x.drag.ao x.drag.n x.drag.cap, .int .i64 x.drop.lo, .int .i64 x.drop.hi]] w' _ from is_int (show codeB (x.okB l) 2 = 2 by rw [h2]; rfl) (r3Arc_any x l w' (hd.grew g)))
    clear h1 h2 hd
    generalize forceR p x l s = R at *
    go_enter Tryz.func20, Tryz.ntmps20
    go_wp2_with (first | (go_at_call 40; (with_reducible refine call_later (HP.out _) ?_); intro u) | (go_at_call 71; (with_reducible refine call_later (HA.out _ ?_) ?_); (· exact (by repeat (first | with_reducible exact Grew.refl _ | with_reducible apply Grew.alloc | with_reducible apply Grew.later | with_reducible apply Grew.drew | with_reducible apply Grew.store | with_reducible assumption))); intro u) | ((with_reducible refine wpList_load_is ?_ ?_ ?_ ?_ ?_ ?_ ?_ ?_ ?_ ?_ ?_ ?_ ?_); rotate_left 6; (· rfl); (· rfl); (· rfl); (· infer_instance); (· infer_instance); (· rfl)))
    refine bodyPost_ret (by (simp [results, Tryz.results20, go_sem] <;> rfl)) rfl ?_
    exact ⟨ret_box HR.out, (by repeat (first | with_reducible exact Grew.refl _ | with_reducible apply Grew.alloc | with_reducible apply Grew.later | with_reducible apply Grew.drew | with_reducible apply Grew.store | with_reducible assumption))⟩
  cases h3 : s.okB
  · have HR := Lib.hid (show (⟨zBx, 2⟩ : BRes) = forceR p x l s by unfold forceR forceOk; rw [h1, h2, h3]; rfl)
    have HP := Lib.hid (fun w' => show Calls Tryz.prog 40 #[.agg p.cells.toArray] w' _ from is_int (show codeB p.okB 2 = 0 by rw [h1]; rfl) (r3Planet_any p w'))
    have HA := Lib.hid (fun w' (g : Grew w w') => show Calls Tryz.prog 71 #[.agg #[.int .i64 x.time, .int .i64 x.step, .int .i64 x.thrust.lo, .int .i64 x.thrust.hi, .int .i64 x.flow.lo, .int .i64 x.flow.hi, .int .i64 x.dir.x.lo, .int .i64 x.dir.x.hi, .int .i64 x.dir.y.lo, .int .i64 x.dir.y.hi, .int .i64 x.dir.z.lo, .int .i64 x.dir.z.hi, .slice x.drag.ao x.drag.n x.drag.cap, .int .i64 x.drop.lo, .int .i64 x.drop.hi]] w' _ from is_int (show codeB (x.okB l) 2 = 0 by rw [h2]; rfl) (r3Arc_any x l w' (hd.grew g)))
    have HS := Lib.hid (fun w' => is_int (show codeB s.okB 2 = 2 by rw [h3]; rfl) (r3State_any s w'))
    clear h1 h2 h3 hd
    generalize forceR p x l s = R at *
    go_enter Tryz.func20, Tryz.ntmps20
    go_wp2_with (first | (go_at_call 40; (with_reducible refine call_later (HP.out _) ?_); intro u) | (go_at_call 71; (with_reducible refine call_later (HA.out _ ?_) ?_); (· exact (by repeat (first | with_reducible exact Grew.refl _ | with_reducible apply Grew.alloc | with_reducible apply Grew.later | with_reducible apply Grew.drew | with_reducible apply Grew.store | with_reducible assumption))); intro u) | (go_at_call 66; (with_reducible refine call_later (HS.out _) ?_); intro u) | ((with_reducible refine wpList_load_is ?_ ?_ ?_ ?_ ?_ ?_ ?_ ?_ ?_ ?_ ?_ ?_ ?_); rotate_left 6; (· rfl); (· rfl); (· rfl); (· infer_instance); (· infer_instance); (· rfl)))
    refine bodyPost_ret (by (simp [results, Tryz.results20, go_sem] <;> rfl)) rfl ?_
    exact ⟨ret_box HR.out, (by repeat (first | with_reducible exact Grew.refl _ | with_reducible apply Grew.alloc | with_reducible apply Grew.later | with_reducible apply Grew.drew | with_reducible apply Grew.store | with_reducible assumption))⟩
  have HP := Lib.hid (fun w' => show Calls Tryz.prog 40 #[.agg p.cells.toArray] w' _ from is_int (show codeB p.okB 2 = 0 by rw [h1]; rfl) (r3Planet_any p w'))
  have HA := Lib.hid (fun w' (g : Grew w w') => show Calls Tryz.prog 71 #[.agg #[.int .i64 x.time, .int .i64 x.step, .int .i64 x.thrust.lo, .int .i64 x.thrust.hi, .int .i64 x.flow.lo, .int .i64 x.flow.hi, .int .i64 x.dir.x.lo, .int .i64 x.dir.x.hi, .int .i64 x.dir.y.lo, .int .i64 x.dir.y.hi, .int .i64 x.dir.z.lo, .int .i64 x.dir.z.hi, .slice x.drag.ao x.drag.n x.drag.cap, .int .i64 x.drop.lo, .int .i64 x.drop.hi]] w' _ from is_int (show codeB (x.okB l) 2 = 0 by rw [h2]; rfl) (r3Arc_any x l w' (hd.grew g)))
  have HS := Lib.hid (fun w' => is_int (show codeB s.okB 2 = 0 by rw [h3]; rfl) (r3State_any s w'))
  have HR := Lib.hid (force_both h1 h2 h3).2
  have hdn := drag_n hd
  have hd' : SlAt w (.slice x.drag.ao l.length x.drag.cap) l.length (l.flatMap Pt.cells) := by have h := hd; unfold DragAt at h; rw [hdn] at h; exact h
  have HF := Lib.hid (fun (c : Nat) (w' : World) (g : Grew w w') (hn : NewFor w c) hc hf => show Calls Tryz.prog 72 #[.pointer (some ⟨c, 0, none⟩), .agg p.cells.toArray, .agg x.cells.toArray, .agg #[.int .i64 s.p.x.lo, .int .i64 s.p.x.hi, .int .i64 s.p.y.lo, .int .i64 s.p.y.hi, .int .i64 s.p.z.lo, .int .i64 s.p.z.hi], .agg #[.int .i64 s.v.x.lo, .int .i64 s.v.x.hi, .int .i64 s.v.y.lo, .int .i64 s.v.y.hi, .int .i64 s.v.z.lo, .int .i64 s.v.z.hi], .agg #[.int .i64 s.m.lo, .int .i64 s.m.hi]] w' (RetC c (.agg #[.int .i64 ((forceG p x l s.p s.v s.m 0).b).x.lo, .int .i64 ((forceG p x l s.p s.v s.m 0).b).x.hi, .int .i64 ((forceG p x l s.p s.v s.m 0).b).y.lo, .int .i64 ((forceG p x l s.p s.v s.m 0).b).y.hi, .int .i64 ((forceG p x l s.p s.v s.m 0).b).z.lo, .int .i64 ((forceG p x l s.p s.v s.m 0).b).z.hi]) (forceG p x l s.p s.v s.m 0).e w') from r3Force_any HL p x l s.p s.v s.m c 0 w' hc hf hdn (fun wx b => hd'.grew (Grew.but g hn b)))
  clear h1 h2 h3 hd hd' hdn HL
  generalize forceR p x l s = R at *
  generalize forceG p x l s.p s.v s.m 0 = Fr at *
  by_cases he : Fr.e = 0
  all_goals
    first | have he' : (Fr.e != 0) = false := by simp [he] | have he' : (Fr.e != 0) = true := by simp [he]
    have HE := Lib.hid (show R = if Fr.e = 0 then Fr else ⟨zBx, Fr.e⟩ from HR.out)
    have HC := Lib.hid he
    clear he HR
    go_enter Tryz.func20, Tryz.ntmps20
    go_wp2_with (first | (go_at_call 40; (with_reducible refine call_later (HP.out _) ?_); intro u) | (go_at_call 71; (with_reducible refine call_later (HA.out _ ?_) ?_); (· exact (by repeat (first | with_reducible exact Grew.refl _ | with_reducible apply Grew.alloc | with_reducible apply Grew.later | with_reducible apply Grew.drew | with_reducible apply Grew.store | with_reducible assumption))); intro u) | (go_at_call 66; (with_reducible refine call_later (HS.out _) ?_); intro u) | (go_at_call 72; (with_reducible refine call_calc (HF.out _ _ ?_ ?_ ?_ ?_) ?_); (· exact (by repeat (first | with_reducible exact Grew.refl _ | with_reducible apply Grew.alloc | with_reducible apply Grew.later | with_reducible apply Grew.drew | with_reducible apply Grew.store | with_reducible assumption))); (· infer_instance); (· go_simp); (· go_simp); intro u9) | ((with_reducible refine wpList_load_is ?_ ?_ ?_ ?_ ?_ ?_ ?_ ?_ ?_ ?_ ?_ ?_ ?_); rotate_left 6; (· rfl); (· rfl); (· rfl); (· infer_instance); (· infer_instance); (· rfl)))
    try go_region
    all_goals go_wp2
    all_goals
      refine bodyPost_ret (by (simp [results, Tryz.results20, go_sem] <;> rfl)) rfl ?_
      first
        | exact ⟨ret_box (by have h := HE.out; rw [if_pos HC.out] at h; rw [h]; have h2 := HC.out; cases Fr; simp only at h2; subst h2; rfl), (by repeat (first | with_reducible exact Grew.refl _ | with_reducible apply Grew.alloc | with_reducible apply Grew.later | with_reducible apply Grew.drew | with_reducible apply Grew.store | with_reducible assumption))⟩
        | exact ⟨ret_box (by have h := HE.out; rw [if_neg HC.out] at h; rw [h]; rfl), (by repeat (first | with_reducible exact Grew.refl _ | with_reducible apply Grew.alloc | with_reducible apply Grew.later | with_reducible apply Grew.drew | with_reducible apply Grew.store | with_reducible assumption))⟩
end Go.Proofs.YtnedbhdokljpcaaGreat
namespace Go.Proofs.YtnedbhdokljpcaaGreat
open Go.RowKit Go.ChangeShapes Go.WideShapes Go.ChangeAt Go.Deep
set_option maxRecDepth 100000
set_option maxHeartbeats 16000000
theorem b64_of {b : Bx} (h1 : I64 b.x.lo) (h2 : I64 b.x.hi) (h3 : I64 b.y.lo) (h4 : I64 b.y.hi) (h5 : I64 b.z.lo) (h6 : I64 b.z.hi) : B64 b := ⟨⟨h1, h2⟩, ⟨h3, h4⟩, ⟨h5, h6⟩⟩
theorem rLook_ok2 : LookOk 122 := fun l x _ ao cap w hs => rLook_any l x ao cap w hs
def Arc.longB (a : Arc) : Bool := decide (70 < a.drag.n)
theorem l3Long_any (l : List Arc) (v : Value) (w : World) (h : SlAt w v l.length (l.flatMap Arc.cells)) : Calls Tryz.prog 18 #[v] w fun e w' => e = .returned (.bool (l.any Arc.longB)) ∧ Grew w w' := by
  obtain ⟨ao, cap, rfl, hm, hc⟩ := h
  unfold maxLen at hm
  have Hc := Lib.hid (SlAt.elem (f := Arc.cells) (c := 15) (fun _ => rfl) (by omega) hc)
  clear hc
  go_enter Tryz.func18, Tryz.ntmps18
  go_wp2
  go_loopw [6] (fun t wr => ∃ k : Nat, t = .int .i64 k ∧ k ≤ l.length ∧ ((l.take k).all fun a => !a.longB) = true ∧ Grew w wr) (fun t _ => l.length - (intOf t).toNat)
  case atStart => exact ⟨0, rfl, by omega, rfl, Grew.refl _⟩
  case round =>
    obtain ⟨k, rfl, hk, hall, hg⟩ := hrel
    obtain ⟨x, rfl⟩ := later_of hg
    clear hg
    have Hall := Lib.hid hall
    clear hall
    have Hany := Lib.hid (List.not_any_eq_all_not (l := l) (p := Arc.longB))
    by_cases hlt : k < l.length
    · obtain ⟨b1, o1, rfl, i1, hd1, hd2⟩ := Hc.out k hlt
      have hd3 := hd2 12 _ rfl
      clear hd1 hd2
      have i1 : BlockIn w b1 := ⟨i1⟩
      by_cases h : 70 < l[k].drag.n
      · go_wp2
        go_ret
        exact ⟨ret_bool (by rw [List.any_eq_true.2 ⟨l[k], List.getElem_mem hlt, by simp [Arc.longB, h]⟩]), (by repeat (first | with_reducible exact Grew.refl _ | with_reducible apply Grew.alloc | with_reducible apply Grew.later | with_reducible apply Grew.drew | with_reducible apply Grew.store | with_reducible assumption))⟩
      · go_wp2
        go_roundw
        case rel => exact ⟨k + 1, by go_num, by omega, all_take_succ _ _ _ hlt Hall.out (by simp [Arc.longB]; omega), (by repeat (first | with_reducible exact Grew.refl _ | with_reducible apply Grew.alloc | with_reducible apply Grew.later | with_reducible apply Grew.drew | with_reducible apply Grew.store | with_reducible assumption))⟩
        case measure => simp [intOf]; omega
    · go_wp2
      go_ret
      exact ⟨ret_bool (by
        have h1 := all_true _ _ _ (by omega) Hall.out
        have h2 := Hany.out
        rw [h1] at h2
        simpa using h2.symm), x.grew⟩
theorem l3Long_one (a : Arc) (v : Value) (w : World) (h : SlAt w v 1 [.int .i64 a.time, .int .i64 a.step, .int .i64 a.thrust.lo, .int .i64 a.thrust.hi, .int .i64 a.flow.lo, .int .i64 a.flow.hi, .int .i64 a.dir.x.lo, .int .i64 a.dir.x.hi, .int .i64 a.dir.y.lo, .int .i64 a.dir.y.hi, .int .i64 a.dir.z.lo, .int .i64 a.dir.z.hi, .slice a.drag.ao a.drag.n a.drag.cap, .int .i64 a.drop.lo, .int .i64 a.drop.hi]) : Calls Tryz.prog 18 #[v] w fun e w' => e = .returned (.bool a.longB) ∧ Grew w w' := by
  have := l3Long_any [a] v w h
  simpa using this
theorem eqBoxTop (x0 x1 x2 x3 x4 x5 : Int) (w : World) :
    (Op.equalIn 10000 26 (.agg #[.int .i64 x0, .int .i64 x1, .int .i64 x2, .int .i64 x3, .int .i64 x4, .int .i64 x5]) (.agg #[.int .i64 x0, .int .i64 x1, .int .i64 x2, .int .i64 x3, .int .i64 x4, .int .i64 x5])).run Tryz.prog w = .ok true w := by
  obtain ⟨i, hi⟩ := Option.isSome_iff_exists.1 spanInfo
  rw [run_equalIn_array w 9999 _ _ Tryz.underlying26 hi]
  have hC : Tryz.prog.cellsOf 24 = 2 := by kernel_rfl
  rw [hC]
  have hr : List.range 3 = [0, 1, 2] := rfl
  rw [hr]
  simp [go_sem, Op.eqItems]
theorem forces_walk (p : Planet) (a : Arc) (l : List Pt) (s : State) [hp : Pl64 p] [hs : St64 s] [hat : S64 a.thrust] [had : B64 a.dir] (w : World) (hd : DragAt w a l) :
    Calls Tryz.prog 4 #[.agg #[.int .i64 p.mu.lo, .int .i64 p.mu.hi, .int .i64 p.radius.lo, .int .i64 p.radius.hi, .int .i64 p.oblate.lo, .int .i64 p.oblate.hi, .int .i64 p.spin.lo, .int .i64 p.spin.hi, .int .i64 p.pull.x.lo, .int .i64 p.pull.x.hi, .int .i64 p.pull.y.lo, .int .i64 p.pull.y.hi, .int .i64 p.pull.z.lo, .int .i64 p.pull.z.hi], .agg #[.int .i64 a.time, .int .i64 a.step, .int .i64 a.thrust.lo, .int .i64 a.thrust.hi, .int .i64 a.flow.lo, .int .i64 a.flow.hi, .int .i64 a.dir.x.lo, .int .i64 a.dir.x.hi, .int .i64 a.dir.y.lo, .int .i64 a.dir.y.hi, .int .i64 a.dir.z.lo, .int .i64 a.dir.z.hi, .slice a.drag.ao a.drag.n a.drag.cap, .int .i64 a.drop.lo, .int .i64 a.drop.hi], .agg #[.int .i64 s.t, .int .i64 s.p.x.lo, .int .i64 s.p.x.hi, .int .i64 s.p.y.lo, .int .i64 s.p.y.hi, .int .i64 s.p.z.lo, .int .i64 s.p.z.hi, .int .i64 s.v.x.lo, .int .i64 s.v.x.hi, .int .i64 s.v.y.lo, .int .i64 s.v.y.hi, .int .i64 s.v.z.lo, .int .i64 s.v.z.hi, .int .i64 s.m.lo, .int .i64 s.m.hi]] w fun e w' => e = .returned (.bool true) ∧ Grew w w' := by
  have H1 := Lib.hid (fun w' (g : Grew w w') => show Calls Tryz.prog 19 #[.agg #[.int .i64 p.mu.lo, .int .i64 p.mu.hi, .int .i64 p.radius.lo, .int .i64 p.radius.hi, .int .i64 p.oblate.lo, .int .i64 p.oblate.hi, .int .i64 p.spin.lo, .int .i64 p.spin.hi, .int .i64 p.pull.x.lo, .int .i64 p.pull.x.hi, .int .i64 p.pull.y.lo, .int .i64 p.pull.y.hi, .int .i64 p.pull.z.lo, .int .i64 p.pull.z.hi], .agg #[.int .i64 a.time, .int .i64 a.step, .int .i64 a.thrust.lo, .int .i64 a.thrust.hi, .int .i64 a.flow.lo, .int .i64 a.flow.hi, .int .i64 a.dir.x.lo, .int .i64 a.dir.x.hi, .int .i64 a.dir.y.lo, .int .i64 a.dir.y.hi, .int .i64 a.dir.z.lo, .int .i64 a.dir.z.hi, .slice a.drag.ao a.drag.n a.drag.cap, .int .i64 a.drop.lo, .int .i64 a.drop.hi], .agg #[.int .i64 s.t, .int .i64 s.p.x.lo, .int .i64 s.p.x.hi, .int .i64 s.p.y.lo, .int .i64 s.p.y.hi, .int .i64 s.p.z.lo, .int .i64 s.p.z.hi, .int .i64 s.v.x.lo, .int .i64 s.v.x.hi, .int .i64 s.v.y.lo, .int .i64 s.v.y.hi, .int .i64 s.v.z.lo, .int .i64 s.v.z.hi, .int .i64 s.m.lo, .int .i64 s.m.hi]] w' (fun e w'' => e = .returned (.tuple #[.agg #[.int .i64 ((forceR p a l s).b).x.lo, .int .i64 ((forceR p a l s).b).x.hi, .int .i64 ((forceR p a l s).b).y.lo, .int .i64 ((forceR p a l s).b).y.hi, .int .i64 ((forceR p a l s).b).z.lo, .int .i64 ((forceR p a l s).b).z.hi], .int .i64 (forceR p a l s).e]) ∧ Grew w' w'') from flForceE_any look_any p a l s w' (hd.grew g))
  have H2 := Lib.hid (fun w' (g : Grew w w') => show Calls Tryz.prog 20 #[.agg #[.int .i64 p.mu.lo, .int .i64 p.mu.hi, .int .i64 p.radius.lo, .int .i64 p.radius.hi, .int .i64 p.oblate.lo, .int .i64 p.oblate.hi, .int .i64 p.spin.lo, .int .i64 p.spin.hi, .int .i64 p.pull.x.lo, .int .i64 p.pull.x.hi, .int .i64 p.pull.y.lo, .int .i64 p.pull.y.hi, .int .i64 p.pull.z.lo, .int .i64 p.pull.z.hi], .agg #[.int .i64 a.time, .int .i64 a.step, .int .i64 a.thrust.lo, .int .i64 a.thrust.hi, .int .i64 a.flow.lo, .int .i64 a.flow.hi, .int .i64 a.dir.x.lo, .int .i64 a.dir.x.hi, .int .i64 a.dir.y.lo, .int .i64 a.dir.y.hi, .int .i64 a.dir.z.lo, .int .i64 a.dir.z.hi, .slice a.drag.ao a.drag.n a.drag.cap, .int .i64 a.drop.lo, .int .i64 a.drop.hi], .agg #[.int .i64 s.t, .int .i64 s.p.x.lo, .int .i64 s.p.x.hi, .int .i64 s.p.y.lo, .int .i64 s.p.y.hi, .int .i64 s.p.z.lo, .int .i64 s.p.z.hi, .int .i64 s.v.x.lo, .int .i64 s.v.x.hi, .int .i64 s.v.y.lo, .int .i64 s.v.y.hi, .int .i64 s.v.z.lo, .int .i64 s.v.z.hi, .int .i64 s.m.lo, .int .i64 s.m.hi]] w' (fun e w'' => e = .returned (.tuple #[.agg #[.int .i64 ((forceR p a l s).b).x.lo, .int .i64 ((forceR p a l s).b).x.hi, .int .i64 ((forceR p a l s).b).y.lo, .int .i64 ((forceR p a l s).b).y.hi, .int .i64 ((forceR p a l s).b).z.lo, .int .i64 ((forceR p a l s).b).z.hi], .int .i64 (forceR p a l s).e]) ∧ Grew w' w'') from r3ForceE_any rLook_ok2 p a l s w' (hd.grew g))
  clear hd
  have hEq := eqBoxTop
  cases hl : a.longB
  all_goals
    generalize forceR p a l s = R at *
    go_enter Tryz.func4, Tryz.ntmps4
    go_wp2_with (first | (go_at_call 18; (with_reducible refine call_later (l3Long_one a _ _ (SlAt.fresh _ _ _ _ (by simp [maxLen]))) ?_); intro u) | (go_at_call 19; (with_reducible refine call_later (H1.out _ (by repeat (first | with_reducible exact Grew.refl _ | with_reducible apply Grew.alloc | with_reducible apply Grew.later | with_reducible apply Grew.drew | with_reducible apply Grew.store | with_reducible assumption))) ?_); intro u) | (go_at_call 20; (with_reducible refine call_later (H2.out _ (by repeat (first | with_reducible exact Grew.refl _ | with_reducible apply Grew.alloc | with_reducible apply Grew.later | with_reducible apply Grew.drew | with_reducible apply Grew.store | with_reducible assumption))) ?_); intro u) | ((with_reducible refine wp_region_later ?_ ?_ ?_); (· kernel_rfl); (· kernel_rfl); (try simp only [List.append_eq, List.cons_append, List.nil_append]); (repeat (go_big_quiet_step ((first | (go_at_call 18; (with_reducible exact call_quiet (l3Long_one a _ _ (SlAt.fresh _ _ _ _ (by simp [maxLen]))))) | (go_at_call 19; (with_reducible exact call_quiet (H1.out _ (by repeat (first | with_reducible exact Grew.refl _ | with_reducible apply Grew.alloc | with_reducible apply Grew.later | with_reducible apply Grew.drew | with_reducible apply Grew.store | with_reducible assumption))))) | (go_at_call 20; (with_reducible exact call_quiet (H2.out _ (by repeat (first | with_reducible exact Grew.refl _ | with_reducible apply Grew.alloc | with_reducible apply Grew.later | with_reducible apply Grew.drew | with_reducible apply Grew.store | with_reducible assumption))))))))); refine wpQuiet_nil ?_; rintro _ ⟨u, rfl⟩))
    go_ret
    exact ⟨rfl, (by repeat (first | with_reducible exact Grew.refl _ | with_reducible apply Grew.alloc | with_reducible apply Grew.later | with_reducible apply Grew.drew | with_reducible apply Grew.store | with_reducible assumption))⟩
namespace flightForcesRow
open Go.ChangeShapes Go.WideShapes Go.ChangeAt Go.RowKit
theorem own : ownKnob Tryz.prog.godebug = none := by kernel_rfl
theorem lifted (os : Os) (started : os.Started) (H : Type) (enc : TypeId × Value → H) :
    ReturnsInHanded {} Tryz.checked os 4 .any (Rows.flightForcesSpec.pre6 enc Tryz.prog Tryz.f4 Rows.flightForcesRow.domain false) (Rows.flightForcesSpec.post enc Tryz.prog Tryz.f4 false true false false) := by
  refine returnsInHanded_of_change (C := Tryz.checked) own started (by kernel_rfl) Tryz.func4
    (ChangeSpec.witness6 (enc := enc) (C := Tryz.checked) false ⟨#[], #[.agg #[.int .i64 0, .int .i64 0, .int .i64 0, .int .i64 0, .int .i64 0, .int .i64 0, .int .i64 0, .int .i64 0, .int .i64 0, .int .i64 0, .int .i64 0, .int .i64 0, .int .i64 0, .int .i64 0], .agg #[.int .i64 0, .int .i64 0, .int .i64 0, .int .i64 0, .int .i64 0, .int .i64 0, .int .i64 0, .int .i64 0, .int .i64 0, .int .i64 0, .int .i64 0, .int .i64 0, .slice none 0 0, .int .i64 0, .int .i64 0], .agg #[.int .i64 0, .int .i64 0, .int .i64 0, .int .i64 0, .int .i64 0, .int .i64 0, .int .i64 0, .int .i64 0, .int .i64 0, .int .i64 0, .int .i64 0, .int .i64 0, .int .i64 0, .int .i64 0, .int .i64 0]], []⟩ 8 (by as_aux_lemma => kernel_rfl) (by as_aux_lemma => kernel_rfl) (by as_aux_lemma => kernel_rfl) (by as_aux_lemma => kernel_rfl)) ?_
  intro W base args ds gs before hval0 hW _ _
  have hval : ∀ (j : Nat) t v, Tryz.f4.params[j]? = some t → args[j]? = some v → Value.okWide Tryz.prog W .any base t v := hval0
  have hW' := hW
  obtain ⟨p, q, hA0, hV, rfl, hfz, hnd⟩ := hW
  have hA : DataW.TrodAll enc Tryz.prog W 0 (fun _ => true) true Tryz.f4.params.toList args.toList ds p := hA0
  rw [Tryz.params4] at hA hval
  obtain ⟨v0, vs0, d0, ds0, p0, q0, hargs, rfl, rfl, h0, r0⟩ := trodAll_cons hA
  obtain ⟨v1, vs1, d1, ds1, p1, q1, rfl, rfl, rfl, h1, r1⟩ := trodAll_cons r0
  obtain ⟨v2, vs2, d2, ds2, p2, q2, rfl, rfl, rfl, h2, r2⟩ := trodAll_cons r1
  obtain ⟨rfl, rfl, rfl⟩ := trodAll_nil r2
  obtain rfl : args = #[v0, v1, v2] := by cases args; simp_all
  obtain ⟨rfl, rfl⟩ := trodVars_none hV
  obtain ⟨cs0, rfl, -⟩ := okWide_struct Tryz.underlying28 (hval 0 28 v0 rfl rfl)
  obtain ⟨cs1, rfl, -⟩ := okWide_struct Tryz.underlying49 (hval 1 49 v1 rfl rfl)
  obtain ⟨cs2, rfl, -⟩ := okWide_struct Tryz.underlying33 (hval 2 33 v2 rfl rfl)
  obtain ⟨_, h0⟩ := h0
  obtain ⟨_, h1⟩ := h1
  obtain ⟨_, h2⟩ := h2
  obtain ⟨a0, e0, j1, j2, j3, j4, j5, j6, j7, j8, j9, j10, j11, j12, j13, j14⟩ := planet_trod h0
  obtain ⟨a1, l1, e1, hd, i1, i2, i3, i4, i5, i6, i7, i8, i9, i10, i11, i12, i13, i14⟩ := arc_trod h1
  obtain ⟨a2, e2, s1, s2, s3, s4, s5, s6, s7, s8, s9, s10, s11, s12, s13, s14, s15⟩ := state_trod h2
  obtain rfl : cs0 = a0.cells.toArray := Array.ext' (by simpa [Value.cells] using e0)
  obtain rfl : cs1 = a1.cells.toArray := Array.ext' (by simpa [Value.cells] using e1)
  obtain rfl : cs2 = a2.cells.toArray := Array.ext' (by simpa [Value.cells] using e2)
  have hP : Pl64 a0 := ⟨⟨j1, j2⟩, ⟨j3, j4⟩, ⟨j5, j6⟩, ⟨j7, j8⟩, b64_of j9 j10 j11 j12 j13 j14⟩
  have hA1 : S64 a1.thrust := ⟨i3, i4⟩
  have hA2 : B64 a1.dir := b64_of i7 i8 i9 i10 i11 i12
  have hS : St64 a2 := ⟨s1, b64_of s2 s3 s4 s5 s6 s7, b64_of s8 s9 s10 s11 s12 s13, ⟨s14, s15⟩⟩
  refine (forces_walk a0 a1 l1 a2 W hd).mono fun e W' ⟨he, hg⟩ => ?_
  subst he
  exact ⟨_, rfl, law_post (by kernel_rfl) (by kernel_rfl) rfl rfl Tryz.underlying4 hW' rfl hg⟩
theorem proved : Rows.FlightForcesSaid :=
  OpenClaim.holds_of_wide 4 Tryz.f4 rfl rfl rfl rfl rfl rfl rfl ⟨rfl, rfl, rfl, rfl, rfl⟩ rfl rfl rfl rfl rfl (by as_aux_lemma => kernel_rfl) Tryz.func4 (by as_aux_lemma => kernel_rfl)
    (of_decide_eq_true (by as_aux_lemma => kernel_rfl)) (by unfold Func.isWrapper; first | (rw [if_pos (by decide +kernel)]; kernel_rfl) | (rw [if_neg (by decide +kernel)]; exact ⟨rfl, rfl⟩))
    (fun os started H enc _ => lifted os started H enc)
end flightForcesRow
end Go.Proofs.YtnedbhdokljpcaaGreat
