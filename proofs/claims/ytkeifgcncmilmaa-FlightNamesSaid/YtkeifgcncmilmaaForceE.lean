/-
  Contracts of flight.Force, ullageref03.Force.
-/
import Derived.Test.YtkeifgcncmilmaaForceD
import Derived.Test.YtkeifgcncmilmaaForceN

import Derived.Test.YtkeifgcncmilmaaJoint
namespace Go.Proofs.Ytkeifgcncmilmaa
open Go.RowKit Go.Shelf
set_option maxRecDepth 100000
set_option maxHeartbeats 16000000
def zBx : Bx := ⟨⟨0, 0⟩, ⟨0, 0⟩, ⟨0, 0⟩⟩
/-- The force at a valid state, or the error. -/
def cleanB (r : BRes) : BRes := if r.e = 0 then r else ⟨zBx, r.e⟩
def forceOk (p : Planet) (x : Arc) (l : List Pt) (s : State) : Bool := p.okB && (x.okB l && s.okB)
def forceR (p : Planet) (x : Arc) (l : List Pt) (s : State) : BRes := if forceOk p x l s then cleanB (forceF p x l s.p s.v s.m 0) else ⟨zBx, 2⟩
theorem cleanB_alike {r r' : BRes} (h : Alike r r') : cleanB r = cleanB r' := by
  rcases alike_cases h with rfl | ⟨h1, h2, h3⟩
  · rfl
  · unfold cleanB
    rw [if_neg h1, if_neg h2, h3]
theorem arc_dir {x : Arc} {l : List Pt} (h : x.okB l = true) : x.dir.Ok := by
  unfold Arc.okB dirB at h
  simp only [Bool.and_eq_true] at h
  have k : ∀ a b : Sp, a.inB b = true → a.okB = true := fun a b h => by
    unfold Sp.inB at h
    simp only [Bool.and_eq_true] at h
    exact h.1.1.1
  exact ⟨k _ _ h.1.1.1.1.1.1, k _ _ h.1.1.1.1.1.2, k _ _ h.1.1.1.1.2⟩
theorem planet_pull {p : Planet} (h : p.okB = true) : p.pull.Ok := by
  unfold Planet.okB at h
  simp only [Bool.and_eq_true] at h
  exact Bx.ok_of h.1.1.1
theorem force_both {p : Planet} {x : Arc} {l : List Pt} {s : State} (h1 : p.okB = true) (h2 : x.okB l = true) (h3 : s.okB = true) : forceR p x l s = cleanB (forceF p x l s.p s.v s.m 0) ∧ forceR p x l s = cleanB (forceG p x l s.p s.v s.m 0) := by
  have h : forceR p x l s = cleanB (forceF p x l s.p s.v s.m 0) := by unfold forceR forceOk; rw [h1, h2, h3]; rfl
  exact ⟨h, h.trans (cleanB_alike (force_alike p x l s.p s.v s.m 0 (planet_pull h1) (arc_dir h2) (Bx.ok_of (state_parts h3).2.1)))⟩
theorem Grew.but {w wc wx : World} {c : Nat} (g : Grew w wc) (hn : NewFor w c) (b : But c wc wx) : Grew w wx :=
  ⟨b.os.trans g.os, b.tape.trans g.tape, b.output.trans g.output, Nat.le_trans (Grew.size g) b.size, fun k hk => (b.block k (Nat.lt_of_lt_of_le hk (Grew.size g)) (by have := hn.le; omega)).trans (g.block k hk)⟩
theorem ret_box {x0 x1 y0 y1 z0 z1 e : Int} {r : BRes} (h : (⟨⟨⟨x0, x1⟩, ⟨y0, y1⟩, ⟨z0, z1⟩⟩, e⟩ : BRes) = r) :
    Ending.returned (.tuple #[.agg #[.int .i64 x0, .int .i64 x1, .int .i64 y0, .int .i64 y1, .int .i64 z0, .int .i64 z1], .int .i64 e]) = .returned (.tuple #[.agg #[.int .i64 r.b.x.lo, .int .i64 r.b.x.hi, .int .i64 r.b.y.lo, .int .i64 r.b.y.hi, .int .i64 r.b.z.lo, .int .i64 r.b.z.hi], .int .i64 r.e]) := by subst h; rfl
def RetB (r : BRes) (w : World) (e : Ending) (w' : World) : Prop := e = .returned (.tuple #[.agg #[.int .i64 r.b.x.lo, .int .i64 r.b.x.hi, .int .i64 r.b.y.lo, .int .i64 r.b.y.hi, .int .i64 r.b.z.lo, .int .i64 r.b.z.hi], .int .i64 r.e]) ∧ Grew w w'
theorem built_model (pP : Planet) (x : Arc) : Try.prog.built 115 [(0, .agg pP.cells.toArray), (1, .agg x.cells.toArray)] = some (modelCells pP x).toArray := by kernel_rfl
theorem pure_build {o : Oper} {a : Act} {w : World} (t : TypeId) (parts : Array (Nat × Operand)) (l : List (Nat × Value)) (cs : Array Value) (ho : o.op = .build t parts) (hl : (parts.map fun p => (p.1, a.eval p.2)).toList = l) (hb : Try.prog.built t l = some cs) : opPure Try.prog o a w (.agg cs) := by
  have h := run_build (P := Try.prog) w t (parts.map fun p => (p.1, a.eval p.2)) cs (by rw [hl]; exact hb)
  unfold opPure execOp
  rw [ho]
  simp
  rw [h]
  simp
theorem flOf_any (p v : Bx) (w : World) : Calls Try.prog 52 #[.agg #[.int .i64 p.x.lo, .int .i64 p.x.hi, .int .i64 p.y.lo, .int .i64 p.y.hi, .int .i64 p.z.lo, .int .i64 p.z.hi], .agg #[.int .i64 v.x.lo, .int .i64 v.x.hi, .int .i64 v.y.lo, .int .i64 v.y.hi, .int .i64 v.z.lo, .int .i64 v.z.hi]] w fun e w' => e = .returned (.agg #[.int .i64 p.x.lo, .int .i64 p.x.hi, .int .i64 p.y.lo, .int .i64 p.y.hi, .int .i64 p.z.lo, .int .i64 p.z.hi, .int .i64 v.x.lo, .int .i64 v.x.hi, .int .i64 v.y.lo, .int .i64 v.y.hi, .int .i64 v.z.lo, .int .i64 v.z.hi]) ∧ Grew w w' := by
  go_enter Try.func52, Try.ntmps52
  go_wp2
  refine bodyPost_ret (by (simp [results, Try.results52, go_sem] <;> rfl)) rfl ?_
  exact ⟨rfl, gw⟩
theorem flForceE_any (HL : LookOk 126) (p : Planet) (x : Arc) (l : List Pt) (s : State) [hp : Pl64 p] [hs : St64 s] [hxt : S64 x.thrust] [hxd : B64 x.dir] (w : World) (hd : DragAt w x l) :
    Calls Try.prog 20 #[.agg p.cells.toArray, .agg x.cells.toArray, .agg #[.int .i64 s.t, .int .i64 s.p.x.lo, .int .i64 s.p.x.hi, .int .i64 s.p.y.lo, .int .i64 s.p.y.hi, .int .i64 s.p.z.lo, .int .i64 s.p.z.hi, .int .i64 s.v.x.lo, .int .i64 s.v.x.hi, .int .i64 s.v.y.lo, .int .i64 s.v.y.hi, .int .i64 s.v.z.lo, .int .i64 s.v.z.hi, .int .i64 s.m.lo, .int .i64 s.m.hi]] w (RetB (forceR p x l s) w) := by
  cases h1 : p.okB
  · have HR := Lib.hid (show (⟨zBx, 2⟩ : BRes) = forceR p x l s by unfold forceR forceOk; rw [h1]; rfl)
    have HP := Lib.hid (fun w' => show Calls Try.prog 48 #[.agg p.cells.toArray] w' _ from is_int (show codeB p.okB 2 = 2 by rw [h1]; rfl) (flPlanet_any p w'))
    clear h1 hd
    generalize forceR p x l s = R at *
    go_enter Try.func20, Try.ntmps20
    go_wp2_with (first | (go_at_call 48; (with_reducible refine call_later (HP.out _) ?_); intro u) | ((with_reducible refine wpList_load_is ?_ ?_ ?_ ?_ ?_ ?_ ?_ ?_ ?_ ?_ ?_ ?_ ?_); rotate_left 6; (· rfl); (· rfl); (· rfl); (· infer_instance); (· infer_instance); (· rfl)))
    refine bodyPost_ret (by (simp [results, Try.results20, go_sem] <;> rfl)) rfl ?_
    exact ⟨ret_box HR.out, gw⟩
  cases h2 : x.okB l
  · have HR := Lib.hid (show (⟨zBx, 2⟩ : BRes) = forceR p x l s by unfold forceR forceOk; rw [h1, h2]; rfl)
    have HP := Lib.hid (fun w' => show Calls Try.prog 48 #[.agg p.cells.toArray] w' _ from is_int (show codeB p.okB 2 = 0 by rw [h1]; rfl) (flPlanet_any p w'))
    have HA := Lib.hid (fun w' (g : Grew w w') => show Calls Try.prog 49 #[.agg #[.int .i64 x.time, .int .i64 x.step, .int .i64 x.thrust.lo, .int .i64 x.thrust.hi, .int .i64 x.flow.lo, .int .i64 x.flow.hi, .int .i64 x.dir.x.lo, .int .i64 x.dir.x.hi, .int .i64 x.dir.y.lo, .int .i64 x.dir.y.hi, .int .i64 x.dir.z.lo, .int .i64 x.dir.z.hi, .slice x.drag.ao x.drag.n x.drag.cap, .int .i64 x.drop.lo, .int .i64 x.drop.hi]] w' _ from is_int (show codeB (x.okB l) 2 = 2 by rw [h2]; rfl) (flArc_any x l w' (hd.grew g)))
    clear h1 h2 hd
    generalize forceR p x l s = R at *
    go_enter Try.func20, Try.ntmps20
    go_wp2_with (first | (go_at_call 48; (with_reducible refine call_later (HP.out _) ?_); intro u) | (go_at_call 49; (with_reducible refine call_later (HA.out _ ?_) ?_); (· exact gw); intro u) | ((with_reducible refine wpList_load_is ?_ ?_ ?_ ?_ ?_ ?_ ?_ ?_ ?_ ?_ ?_ ?_ ?_); rotate_left 6; (· rfl); (· rfl); (· rfl); (· infer_instance); (· infer_instance); (· rfl)))
    refine bodyPost_ret (by (simp [results, Try.results20, go_sem] <;> rfl)) rfl ?_
    exact ⟨ret_box HR.out, gw⟩
  cases h3 : s.okB
  · have HR := Lib.hid (show (⟨zBx, 2⟩ : BRes) = forceR p x l s by unfold forceR forceOk; rw [h1, h2, h3]; rfl)
    have HP := Lib.hid (fun w' => show Calls Try.prog 48 #[.agg p.cells.toArray] w' _ from is_int (show codeB p.okB 2 = 0 by rw [h1]; rfl) (flPlanet_any p w'))
    have HA := Lib.hid (fun w' (g : Grew w w') => show Calls Try.prog 49 #[.agg #[.int .i64 x.time, .int .i64 x.step, .int .i64 x.thrust.lo, .int .i64 x.thrust.hi, .int .i64 x.flow.lo, .int .i64 x.flow.hi, .int .i64 x.dir.x.lo, .int .i64 x.dir.x.hi, .int .i64 x.dir.y.lo, .int .i64 x.dir.y.hi, .int .i64 x.dir.z.lo, .int .i64 x.dir.z.hi, .slice x.drag.ao x.drag.n x.drag.cap, .int .i64 x.drop.lo, .int .i64 x.drop.hi]] w' _ from is_int (show codeB (x.okB l) 2 = 0 by rw [h2]; rfl) (flArc_any x l w' (hd.grew g)))
    have HS := Lib.hid (fun w' => is_int (show codeB s.okB 2 = 2 by rw [h3]; rfl) (flState_any s w'))
    clear h1 h2 h3 hd
    generalize forceR p x l s = R at *
    go_enter Try.func20, Try.ntmps20
    go_wp2_with (first | (go_at_call 48; (with_reducible refine call_later (HP.out _) ?_); intro u) | (go_at_call 49; (with_reducible refine call_later (HA.out _ ?_) ?_); (· exact gw); intro u) | (go_at_call 50; (with_reducible refine call_later (HS.out _) ?_); intro u) | ((with_reducible refine wpList_load_is ?_ ?_ ?_ ?_ ?_ ?_ ?_ ?_ ?_ ?_ ?_ ?_ ?_); rotate_left 6; (· rfl); (· rfl); (· rfl); (· infer_instance); (· infer_instance); (· rfl)))
    refine bodyPost_ret (by (simp [results, Try.results20, go_sem] <;> rfl)) rfl ?_
    exact ⟨ret_box HR.out, gw⟩
  have HP := Lib.hid (fun w' => show Calls Try.prog 48 #[.agg p.cells.toArray] w' _ from is_int (show codeB p.okB 2 = 0 by rw [h1]; rfl) (flPlanet_any p w'))
  have HA := Lib.hid (fun w' (g : Grew w w') => show Calls Try.prog 49 #[.agg #[.int .i64 x.time, .int .i64 x.step, .int .i64 x.thrust.lo, .int .i64 x.thrust.hi, .int .i64 x.flow.lo, .int .i64 x.flow.hi, .int .i64 x.dir.x.lo, .int .i64 x.dir.x.hi, .int .i64 x.dir.y.lo, .int .i64 x.dir.y.hi, .int .i64 x.dir.z.lo, .int .i64 x.dir.z.hi, .slice x.drag.ao x.drag.n x.drag.cap, .int .i64 x.drop.lo, .int .i64 x.drop.hi]] w' _ from is_int (show codeB (x.okB l) 2 = 0 by rw [h2]; rfl) (flArc_any x l w' (hd.grew g)))
  have HS := Lib.hid (fun w' => is_int (show codeB s.okB 2 = 0 by rw [h3]; rfl) (flState_any s w'))
  have HR := Lib.hid (force_both h1 h2 h3).1
  have hdn := drag_n hd
  have hd' : SlAt w (.slice x.drag.ao l.length x.drag.cap) l.length (l.flatMap Pt.cells) := by have h := hd; unfold DragAt at h; rw [hdn] at h; exact h
  have HF := Lib.hid (fun (c : Nat) (w' : World) (g : Grew w w') (hn : NewFor w c) hc hf => show Calls Try.prog 51 #[.agg (modelCells p x).toArray, .pointer (some ⟨c, 0, none⟩), .agg #[.int .i64 s.p.x.lo, .int .i64 s.p.x.hi, .int .i64 s.p.y.lo, .int .i64 s.p.y.hi, .int .i64 s.p.z.lo, .int .i64 s.p.z.hi, .int .i64 s.v.x.lo, .int .i64 s.v.x.hi, .int .i64 s.v.y.lo, .int .i64 s.v.y.hi, .int .i64 s.v.z.lo, .int .i64 s.v.z.hi], .agg #[.int .i64 s.m.lo, .int .i64 s.m.hi]] w' (RetC c (.agg #[.int .i64 ((forceF p x l s.p s.v s.m 0).b).x.lo, .int .i64 ((forceF p x l s.p s.v s.m 0).b).x.hi, .int .i64 ((forceF p x l s.p s.v s.m 0).b).y.lo, .int .i64 ((forceF p x l s.p s.v s.m 0).b).y.hi, .int .i64 ((forceF p x l s.p s.v s.m 0).b).z.lo, .int .i64 ((forceF p x l s.p s.v s.m 0).b).z.hi]) (forceF p x l s.p s.v s.m 0).e w') from flForce_any HL p x l s.p s.v s.m c 0 w' hc hf hdn (fun wx b => hd'.grew (Grew.but g hn b)))
  clear h1 h2 h3 hd hd' hdn HL
  generalize forceR p x l s = R at *
  generalize forceF p x l s.p s.v s.m 0 = Fr at *
  by_cases he : Fr.e = 0
  all_goals
    first | have he' : (Fr.e != 0) = false := by simp [he] | have he' : (Fr.e != 0) = true := by simp [he]
    have HE := Lib.hid (show R = if Fr.e = 0 then Fr else ⟨zBx, Fr.e⟩ from HR.out)
    have HC := Lib.hid he
    clear he HR
    go_enter Try.func20, Try.ntmps20
    go_wp2_with (first | (go_at_call 48; (with_reducible refine call_later (HP.out _) ?_); intro u) | (go_at_call 49; (with_reducible refine call_later (HA.out _ ?_) ?_); (· exact gw); intro u) | (go_at_call 50; (with_reducible refine call_later (HS.out _) ?_); intro u) | ((with_reducible refine wpList_load_is ?_ ?_ ?_ ?_ ?_ ?_ ?_ ?_ ?_ ?_ ?_ ?_ ?_); rotate_left 6; (· rfl); (· rfl); (· rfl); (· infer_instance); (· infer_instance); (· rfl)))
    have nwc : NewFor w u.world.heap.size := inferInstance
    refine wp_region_calc (u.world.heap.size) [0, 0, Fr.e] 13 [12] [8, 11] [] (fun W0 => [(12, BoxR W0 [.int .i64 0, .int .i64 0, .int .i64 0, .int .i64 0, .int .i64 0, .int .i64 0])]) [.agg #[.int .i64 s.p.x.lo, .int .i64 s.p.x.hi, .int .i64 s.p.y.lo, .int .i64 s.p.y.hi, .int .i64 s.p.z.lo, .int .i64 s.p.z.hi, .int .i64 s.v.x.lo, .int .i64 s.v.x.hi, .int .i64 s.v.y.lo, .int .i64 s.v.y.hi, .int .i64 s.v.z.lo, .int .i64 s.v.z.hi], .agg #[.int .i64 Fr.b.x.lo, .int .i64 Fr.b.x.hi, .int .i64 Fr.b.y.lo, .int .i64 Fr.b.y.hi, .int .i64 Fr.b.z.lo, .int .i64 Fr.b.z.hi]] [13] (by rfl) (by go_simp) (by go_simp) (by intro W0 hW0 x hx; simp only [List.mem_cons, List.not_mem_nil, or_false] at hx; rcases hx with rfl <;> first | exact goodc_box _ _ hW0 _) (by kernel_rfl) (by kernel_rfl) (by kernel_rfl) ?_
    intro pz hd0
    apply Exists.intro
    apply And.intro
    apply lexc_pure hd0 (by kernel_rfl)
    · intro uz xc; exact pure_load_is (b := w.heap.size) _ _ rfl (by go_simp)
    apply lexc_pure hd0 (by kernel_rfl)
    · intro uz xc; exact pure_load_is (b := w.heap.size + 1) _ _ rfl (by go_simp)
    apply lexc_pure hd0 (by kernel_rfl)
    · intro uz xc; exact pure_build _ _ _ _ rfl (by go_simp) (built_model p x)
    iterate 5 (apply lexc_pure hd0 (by kernel_rfl); (· intro uz xc; unfold opPure; go_simp; rfl))
    apply lexc_call hd0 0 (by kernel_rfl) (by rfl) (by decide)
    · intro uz hfz hF; clear hF; unfold opCall; go_simp; exact retc_of (flOf_any s.p s.v _) (by go_simp)
    iterate 2 (apply lexc_pure hd0 (by kernel_rfl); (· intro uz xc; unfold opPure; go_simp; rfl))
    apply lexc_call hd0 1 (by kernel_rfl) (by rfl) (by decide)
    · intro uz hfz hF; clear hF; unfold opCall; go_simp; exact HF.out _ _ gw nwc (by go_simp) hfz
    apply lexc_make hd0 (by kernel_rfl)
    · intro uz xc hF; clear hF; unfold opMake; go_simp; refine (show Made (BoxR _ [.int .i64 0, .int .i64 0, .int .i64 0, .int .i64 0, .int .i64 0, .int .i64 0]) _ _ _ from ?_); exact madec_box _ _ _ _
    apply lexc_end
    rotate_left
    · rfl
    intro uz hR hD hfz
    obtain ⟨q12, e12, hB12, kB12, nB12⟩ := (show BoxR _ [.int .i64 0, .int .i64 0, .int .i64 0, .int .i64 0, .int .i64 0, .int .i64 0] (pz 12) _ from hR 12 (by decide))
    clear hR hD
    rw [e12]
    clear e12
    have oB12 := apart_oldL nB12
    have oC12 := apart_oldR nB12
    have hB12 := boxAt_cw hB12 hd0 nB12
    have kB12 := blockIn_cw kB12
    have hB12_0 := (hB12 0 _ rfl).1
    have hB12f0 := (hB12 0 _ rfl).2
    have hB12i0 : HasCell (uz.world) (q12) 0 := ⟨_, hB12_0⟩
    have hB12_1 := (hB12 1 _ rfl).1
    have hB12f1 := (hB12 1 _ rfl).2
    have hB12i1 : HasCell (uz.world) (q12) 1 := ⟨_, hB12_1⟩
    have hB12_2 := (hB12 2 _ rfl).1
    have hB12f2 := (hB12 2 _ rfl).2
    have hB12i2 : HasCell (uz.world) (q12) 2 := ⟨_, hB12_2⟩
    have hB12_3 := (hB12 3 _ rfl).1
    have hB12f3 := (hB12 3 _ rfl).2
    have hB12i3 : HasCell (uz.world) (q12) 3 := ⟨_, hB12_3⟩
    have hB12_4 := (hB12 4 _ rfl).1
    have hB12f4 := (hB12 4 _ rfl).2
    have hB12i4 : HasCell (uz.world) (q12) 4 := ⟨_, hB12_4⟩
    have hB12_5 := (hB12 5 _ rfl).1
    have hB12f5 := (hB12 5 _ rfl).2
    have hB12i5 : HasCell (uz.world) (q12) 5 := ⟨_, hB12_5⟩
    have hB12b : BlockIn (uz.world) (q12) := BlockIn.of_cell hB12_0
    clear hB12
    refine tail_store (by rfl) ?_; unfold opStore; go_simp
    refine tail_end ?_
    have nw12 : NewFor w q12 := ⟨Nat.le_trans nwc.le (by have := nB12.le; simp at this; omega)⟩
    go_wp2
    try go_region
    all_goals go_wp2
    all_goals
      refine bodyPost_ret (by (simp [results, Try.results20, go_sem] <;> rfl)) rfl ?_
      first
        | exact ⟨ret_box (by have h := HE.out; rw [if_pos HC.out] at h; rw [h]; have h2 := HC.out; cases Fr; simp only at h2; subst h2; rfl), gw⟩
        | exact ⟨ret_box (by have h := HE.out; rw [if_neg HC.out] at h; rw [h]; rfl), gw⟩
end Go.Proofs.Ytkeifgcncmilmaa
