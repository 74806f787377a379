/-
  Contract: ascent.CheckTask.
-/
import Derived.Test.YtffbipcdlnfihaaAscC
import Derived.Test.YtffbipcdlnfihaaRegTail
import Derived.Deep.DeepCutAuto
namespace Go.Proofs.Ytffbipcdlnfihaa
open Go.RowKit
set_option maxRecDepth 100000
set_option maxHeartbeats 8000000
set_option linter.unusedSimpArgs false
instance : StructTy 44 14 := ⟨⟨_, Try.underlying44, rfl⟩, by kernel_rfl⟩
instance : StructTy 50 52 := ⟨⟨_, Try.underlying50, rfl⟩, by kernel_rfl⟩
/-- A part of a struct is read under a guard that is met. -/
theorem wLgR {ops : Array Oper} {rest : List Oper} {o : Oper} {a : Act} {w : World} {Q : Exit → Act → World → Prop} {ty : TypeId} {x : Operand} {b p n : Nat} {cs : List Value} (k : wpList Try.prog ops Q rest (a.put o.dst (.agg cs.toArray)) w) (hw : Region.wanted o (yielded ops a.tmps) = true := by with_unfolding_all rfl) (ho : o.op = .load ty x := by with_unfolding_all rfl) (hx : a.eval x = .pointer (some ⟨b, p, none⟩) := by with_unfolding_all rfl) (hs : StructTy ty n := by infer_instance) (hr : RangeIs w b p n cs := by infer_instance) : wpList Try.prog ops Q (o :: rest) a w := by
  unfold wpList
  rw [if_pos hw]
  refine .inl ?_
  obtain ⟨⟨d, hd1, hd2⟩, hz⟩ := hs
  exact wp_load_mid ty x ho b p hx cs d hr.is hd1 (by cases d <;> first | rfl | cases hd2) (by rw [hz, hr.len]) k
/-- A task. -/
structure TaskV where
  pl : Planet
  st : State
  east : Bx
  up : Bx
  parts : Sl
  dens : Sl
  axial : Int
  bend : Int
  h : Sp
  s : Sp
  c : Sp
  gap : Int
def TaskV.cells (t : TaskV) : List Value := .int .i64 t.pl.mu.lo :: .int .i64 t.pl.mu.hi :: .int .i64 t.pl.radius.lo :: .int .i64 t.pl.radius.hi :: .int .i64 t.pl.oblate.lo :: .int .i64 t.pl.oblate.hi :: .int .i64 t.pl.spin.lo :: .int .i64 t.pl.spin.hi :: .int .i64 t.pl.pull.x.lo :: .int .i64 t.pl.pull.x.hi :: .int .i64 t.pl.pull.y.lo :: .int .i64 t.pl.pull.y.hi :: .int .i64 t.pl.pull.z.lo :: .int .i64 t.pl.pull.z.hi :: .int .i64 t.st.t :: .int .i64 t.st.p.x.lo :: .int .i64 t.st.p.x.hi :: .int .i64 t.st.p.y.lo :: .int .i64 t.st.p.y.hi :: .int .i64 t.st.p.z.lo :: .int .i64 t.st.p.z.hi :: .int .i64 t.st.v.x.lo :: .int .i64 t.st.v.x.hi :: .int .i64 t.st.v.y.lo :: .int .i64 t.st.v.y.hi :: .int .i64 t.st.v.z.lo :: .int .i64 t.st.v.z.hi :: .int .i64 t.st.m.lo :: .int .i64 t.st.m.hi :: .int .i64 t.east.x.lo :: .int .i64 t.east.x.hi :: .int .i64 t.east.y.lo :: .int .i64 t.east.y.hi :: .int .i64 t.east.z.lo :: .int .i64 t.east.z.hi :: .int .i64 t.up.x.lo :: .int .i64 t.up.x.hi :: .int .i64 t.up.y.lo :: .int .i64 t.up.y.hi :: .int .i64 t.up.z.lo :: .int .i64 t.up.z.hi :: .slice t.parts.ao t.parts.n t.parts.cap :: .slice t.dens.ao t.dens.n t.dens.cap :: .int .i64 t.axial :: .int .i64 t.bend :: .int .i64 t.h.lo :: .int .i64 t.h.hi :: .int .i64 t.s.lo :: .int .i64 t.s.hi :: .int .i64 t.c.lo :: .int .i64 t.c.hi :: [.int .i64 t.gap]
def unitS : Sp := ⟨-4294967296, 4294967296⟩
/-- Is a task valid? -/
def taskB (t : TaskV) (ps : List PartV) (pts : List Pt) : Bool :=
  (((t.pl.okB && t.st.okB && !((t.parts.n : Int) == 0) && !decide ((8 : Int) < t.parts.n)) && (t.east.x.inB unitS && t.east.y.inB unitS && t.east.z.inB unitS && t.up.x.inB unitS && t.up.y.inB unitS && t.up.z.inB unitS)) &&
  (ps.all PartV.okB && ((t.dens.n : Int) == 0 || tableB pts) && !decide (t.axial < 0) && !decide (t.bend < 0) && !decide (t.gap < 0))) && (t.h.okB && t.s.okB && t.c.okB)
theorem code_t {b : Bool} (h : b = true) : codeB b 2 = 0 := by rw [h]; rfl
theorem code_f {b : Bool} (h : b = false) : codeB b 2 = 2 := by rw [h]; rfl
theorem slAt_mid {w : World} {b o cap : Nat} {l : List Sp} (h : RangeIs w b o 6 (l.flatMap spC)) : SlAt w (.slice (some ⟨b, o, none⟩) 3 cap) 3 (l.flatMap spC) := ⟨_, _, rfl, by simp [maxLen], fun i x hx => ⟨b, o, rfl, h.is i x hx⟩⟩
theorem checkTask_any (t : TaskV) (ps : List PartV) (pts : List Pt) (w : World) (hp : PartsAt w (.slice t.parts.ao t.parts.n t.parts.cap) ps) (hd : SlAt w (.slice t.dens.ao t.dens.n t.dens.cap) pts.length (pts.flatMap Pt.cells)) : Calls Try.prog 32 #[.agg t.cells.toArray] w fun e w' => e = .returned (.int .i64 (codeB (taskB t ps pts) 2)) ∧ Grew w w' := by
  have HP := Lib.hid (fun w => show Calls Try.prog 37 #[.agg [.int .i64 t.pl.mu.lo, .int .i64 t.pl.mu.hi, .int .i64 t.pl.radius.lo, .int .i64 t.pl.radius.hi, .int .i64 t.pl.oblate.lo, .int .i64 t.pl.oblate.hi, .int .i64 t.pl.spin.lo, .int .i64 t.pl.spin.hi, .int .i64 t.pl.pull.x.lo, .int .i64 t.pl.pull.x.hi, .int .i64 t.pl.pull.y.lo, .int .i64 t.pl.pull.y.hi, .int .i64 t.pl.pull.z.lo, .int .i64 t.pl.pull.z.hi].toArray] w fun e w' => e = .returned (.int .i64 (codeB t.pl.okB 2)) ∧ Grew w w' from flPlanet_any t.pl w)
  have HS := Lib.hid (fun w => show Calls Try.prog 38 #[.agg [.int .i64 t.st.t, .int .i64 t.st.p.x.lo, .int .i64 t.st.p.x.hi, .int .i64 t.st.p.y.lo, .int .i64 t.st.p.y.hi, .int .i64 t.st.p.z.lo, .int .i64 t.st.p.z.hi, .int .i64 t.st.v.x.lo, .int .i64 t.st.v.x.hi, .int .i64 t.st.v.y.lo, .int .i64 t.st.v.y.hi, .int .i64 t.st.v.z.lo, .int .i64 t.st.v.z.hi, .int .i64 t.st.m.lo, .int .i64 t.st.m.hi].toArray] w fun e w' => e = .returned (.int .i64 (codeB t.st.okB 2)) ∧ Grew w w' from flState_any t.st w)
  have HE1 := Lib.hid (fun w => show Calls Try.prog 40 #[.agg #[.int .i64 t.east.x.lo, .int .i64 t.east.x.hi], .agg #[.int .i64 (-4294967296), .int .i64 4294967296]] w fun e w' => e = .returned (.bool (t.east.x.inB unitS)) ∧ Grew w w' from spWithin_any t.east.x unitS w)
  have HE2 := Lib.hid (fun w => show Calls Try.prog 40 #[.agg #[.int .i64 t.east.y.lo, .int .i64 t.east.y.hi], .agg #[.int .i64 (-4294967296), .int .i64 4294967296]] w fun e w' => e = .returned (.bool (t.east.y.inB unitS)) ∧ Grew w w' from spWithin_any t.east.y unitS w)
  have HE3 := Lib.hid (fun w => show Calls Try.prog 40 #[.agg #[.int .i64 t.east.z.lo, .int .i64 t.east.z.hi], .agg #[.int .i64 (-4294967296), .int .i64 4294967296]] w fun e w' => e = .returned (.bool (t.east.z.inB unitS)) ∧ Grew w w' from spWithin_any t.east.z unitS w)
  have HE4 := Lib.hid (fun w => show Calls Try.prog 40 #[.agg #[.int .i64 t.up.x.lo, .int .i64 t.up.x.hi], .agg #[.int .i64 (-4294967296), .int .i64 4294967296]] w fun e w' => e = .returned (.bool (t.up.x.inB unitS)) ∧ Grew w w' from spWithin_any t.up.x unitS w)
  have HE5 := Lib.hid (fun w => show Calls Try.prog 40 #[.agg #[.int .i64 t.up.y.lo, .int .i64 t.up.y.hi], .agg #[.int .i64 (-4294967296), .int .i64 4294967296]] w fun e w' => e = .returned (.bool (t.up.y.inB unitS)) ∧ Grew w w' from spWithin_any t.up.y unitS w)
  have HE6 := Lib.hid (fun w => show Calls Try.prog 40 #[.agg #[.int .i64 t.up.z.lo, .int .i64 t.up.z.hi], .agg #[.int .i64 (-4294967296), .int .i64 4294967296]] w fun e w' => e = .returned (.bool (t.up.z.inB unitS)) ∧ Grew w w' from spWithin_any t.up.z unitS w)
  have HC := Lib.hid (fun w' (g : Grew w w') => containsPart_any ps _ w' (hp.grew g))
  have HT := Lib.hid (fun w' (g : Grew w w') => spTable_any pts _ w' (hd.grew g))
  have H1 := Lib.hid (fun w => spCheck_any t.h w)
  have H2 := Lib.hid (fun w => spCheck_any t.s w)
  have H3 := Lib.hid (fun w => spCheck_any t.c w)
  obtain ⟨R, hR⟩ : ∃ R, R = codeB (taskB t ps pts) 2 := ⟨_, rfl⟩
  rw [← hR]
  unfold taskB at hR
  have HR := Lib.hid hR
  clear hp hd hR
  generalize t.pl.okB = a1 at *
  generalize t.st.okB = a2 at *
  generalize t.east.x.inB _ = e1 at *
  generalize t.east.y.inB _ = e2 at *
  generalize t.east.z.inB _ = e3 at *
  generalize t.up.x.inB _ = e4 at *
  generalize t.up.y.inB _ = e5 at *
  generalize t.up.z.inB _ = e6 at *
  generalize ps.all PartV.okB = b1 at *
  generalize tableB pts = b2 at *
  generalize t.h.okB = f1 at *
  generalize t.s.okB = f2 at *
  generalize t.c.okB = f3 at *
  obtain ⟨a3, ha3⟩ : ∃ b, b = !((t.parts.n : Int) == 0) := ⟨_, rfl⟩
  obtain ⟨a4, ha4⟩ : ∃ b, b = !decide ((8 : Int) < t.parts.n) := ⟨_, rfl⟩
  rw [← ha3, ← ha4] at HR
  replace ha3 : ((t.parts.n : Int) == 0) = !a3 := by rw [ha3, Bool.not_not]
  replace ha4 : decide ((8 : Int) < t.parts.n) = !a4 := by rw [ha4, Bool.not_not]
  have row : t.cells = .int .i64 t.pl.mu.lo :: .int .i64 t.pl.mu.hi :: .int .i64 t.pl.radius.lo :: .int .i64 t.pl.radius.hi :: .int .i64 t.pl.oblate.lo :: .int .i64 t.pl.oblate.hi :: .int .i64 t.pl.spin.lo :: .int .i64 t.pl.spin.hi :: .int .i64 t.pl.pull.x.lo :: .int .i64 t.pl.pull.x.hi :: .int .i64 t.pl.pull.y.lo :: .int .i64 t.pl.pull.y.hi :: .int .i64 t.pl.pull.z.lo :: .int .i64 t.pl.pull.z.hi :: .int .i64 t.st.t :: .int .i64 t.st.p.x.lo :: .int .i64 t.st.p.x.hi :: .int .i64 t.st.p.y.lo :: .int .i64 t.st.p.y.hi :: .int .i64 t.st.p.z.lo :: .int .i64 t.st.p.z.hi :: .int .i64 t.st.v.x.lo :: .int .i64 t.st.v.x.hi :: .int .i64 t.st.v.y.lo :: .int .i64 t.st.v.y.hi :: .int .i64 t.st.v.z.lo :: .int .i64 t.st.v.z.hi :: .int .i64 t.st.m.lo :: .int .i64 t.st.m.hi :: .int .i64 t.east.x.lo :: .int .i64 t.east.x.hi :: .int .i64 t.east.y.lo :: .int .i64 t.east.y.hi :: .int .i64 t.east.z.lo :: .int .i64 t.east.z.hi :: .int .i64 t.up.x.lo :: .int .i64 t.up.x.hi :: .int .i64 t.up.y.lo :: .int .i64 t.up.y.hi :: .int .i64 t.up.z.lo :: .int .i64 t.up.z.hi :: .slice t.parts.ao t.parts.n t.parts.cap :: .slice t.dens.ao t.dens.n t.dens.cap :: .int .i64 t.axial :: .int .i64 t.bend :: .int .i64 t.h.lo :: .int .i64 t.h.hi :: .int .i64 t.s.lo :: .int .i64 t.s.hi :: .int .i64 t.c.lo :: .int .i64 t.c.hi :: [.int .i64 t.gap] := rfl
  go_enter Try.func32, Try.ntmps32
  rcases chain4 a1 a2 a3 a4 with h | ⟨h, k⟩ | ⟨h, k, m⟩ | ⟨h, k, m, o⟩ | ⟨h, k, m, o⟩
  · rw [h] at HP HR
    go_wp2_with (first | (go_at_call 37; (with_reducible refine call_later (is_int rfl (HP.out _)) ?_); intro u1) | (go_at_call 38; (with_reducible refine call_later (is_int rfl (HS.out _)) ?_); intro u2) | (with_reducible refine wLr ?_) | (with_reducible refine wLi ?_) | (with_reducible refine wLgR ?_))
    go_ret
    exact ⟨ret_int HR.out.symm, gw⟩
  · rw [h] at HP HR
    rw [k] at HS HR
    go_wp2_with (first | (go_at_call 37; (with_reducible refine call_later (is_int rfl (HP.out _)) ?_); intro u1) | (go_at_call 38; (with_reducible refine call_later (is_int rfl (HS.out _)) ?_); intro u2) | (with_reducible refine wLr ?_) | (with_reducible refine wLi ?_) | (with_reducible refine wLgR ?_))
    go_ret
    exact ⟨ret_int HR.out.symm, gw⟩
  · rw [h] at HP HR
    rw [k] at HS HR
    rw [m] at ha3 HR
    rw [Bool.not_false] at ha3
    go_wp2_with (first | (go_at_call 37; (with_reducible refine call_later (is_int rfl (HP.out _)) ?_); intro u1) | (go_at_call 38; (with_reducible refine call_later (is_int rfl (HS.out _)) ?_); intro u2) | (with_reducible refine wLr ?_) | (with_reducible refine wLi ?_) | (with_reducible refine wLgR ?_))
    go_ret
    exact ⟨ret_int HR.out.symm, gw⟩
  · rw [h] at HP HR
    rw [k] at HS HR
    rw [m] at ha3 HR
    rw [Bool.not_true] at ha3
    rw [o] at ha4 HR
    rw [Bool.not_false] at ha4
    go_wp2_with (first | (go_at_call 37; (with_reducible refine call_later (is_int rfl (HP.out _)) ?_); intro u1) | (go_at_call 38; (with_reducible refine call_later (is_int rfl (HS.out _)) ?_); intro u2) | (with_reducible refine wLr ?_) | (with_reducible refine wLi ?_) | (with_reducible refine wLgR ?_))
    go_ret
    exact ⟨ret_int HR.out.symm, gw⟩
  rw [h] at HP HR
  rw [k] at HS HR
  rw [m] at ha3 HR
  rw [Bool.not_true] at ha3
  rw [o] at ha4 HR
  rw [Bool.not_true] at ha4
  clear h k m o
  go_upto_region 3 with (first | (go_at_call 37; (with_reducible refine call_later (is_int rfl (HP.out _)) ?_); intro u1) | (go_at_call 38; (with_reducible refine call_later (is_int rfl (HS.out _)) ?_); intro u2) | (with_reducible refine wLr ?_) | (with_reducible refine wLi ?_) | (with_reducible refine wLgR ?_))
  clear HP HS ha3 ha4
  refine wp_to_later (z := w) gw ?_
  intro W hW
  have rT : RowIs W.world w.heap.size 50 (.int .i64 t.pl.mu.lo :: .int .i64 t.pl.mu.hi :: .int .i64 t.pl.radius.lo :: .int .i64 t.pl.radius.hi :: .int .i64 t.pl.oblate.lo :: .int .i64 t.pl.oblate.hi :: .int .i64 t.pl.spin.lo :: .int .i64 t.pl.spin.hi :: .int .i64 t.pl.pull.x.lo :: .int .i64 t.pl.pull.x.hi :: .int .i64 t.pl.pull.y.lo :: .int .i64 t.pl.pull.y.hi :: .int .i64 t.pl.pull.z.lo :: .int .i64 t.pl.pull.z.hi :: .int .i64 t.st.t :: .int .i64 t.st.p.x.lo :: .int .i64 t.st.p.x.hi :: .int .i64 t.st.p.y.lo :: .int .i64 t.st.p.y.hi :: .int .i64 t.st.p.z.lo :: .int .i64 t.st.p.z.hi :: .int .i64 t.st.v.x.lo :: .int .i64 t.st.v.x.hi :: .int .i64 t.st.v.y.lo :: .int .i64 t.st.v.y.hi :: .int .i64 t.st.v.z.lo :: .int .i64 t.st.v.z.hi :: .int .i64 t.st.m.lo :: .int .i64 t.st.m.hi :: .int .i64 t.east.x.lo :: .int .i64 t.east.x.hi :: .int .i64 t.east.y.lo :: .int .i64 t.east.y.hi :: .int .i64 t.east.z.lo :: .int .i64 t.east.z.hi :: .int .i64 t.up.x.lo :: .int .i64 t.up.x.hi :: .int .i64 t.up.y.lo :: .int .i64 t.up.y.hi :: .int .i64 t.up.z.lo :: .int .i64 t.up.z.hi :: .slice t.parts.ao t.parts.n t.parts.cap :: .slice t.dens.ao t.dens.n t.dens.cap :: .int .i64 t.axial :: .int .i64 t.bend :: .int .i64 t.h.lo :: .int .i64 t.h.hi :: .int .i64 t.s.lo :: .int .i64 t.s.hi :: .int .i64 t.c.lo :: .int .i64 t.c.hi :: [.int .i64 t.gap]) := by
    rw [hW]
    infer_instance
  clear hW row
  have iT := rT.blockIn
  have rE : RangeIs W.world w.heap.size 29 6 ([t.east.x, t.east.y, t.east.z].flatMap spC) := (inferInstance : RangeIs W.world w.heap.size 29 6 [.int .i64 t.east.x.lo, .int .i64 t.east.x.hi, .int .i64 t.east.y.lo, .int .i64 t.east.y.hi, .int .i64 t.east.z.lo, .int .i64 t.east.z.hi])
  have rU : RangeIs W.world w.heap.size 35 6 ([t.up.x, t.up.y, t.up.z].flatMap spC) := (inferInstance : RangeIs W.world w.heap.size 35 6 [.int .i64 t.up.x.lo, .int .i64 t.up.x.hi, .int .i64 t.up.y.lo, .int .i64 t.up.y.hi, .int .i64 t.up.z.lo, .int .i64 t.up.z.hi])
  refine wp_region_tail (fun _ => True) [] rfl ?_
  refine wpTail_take 0 [] (v := .pointer (some ⟨w.heap.size, 29, none⟩)) rfl (by kernel_rfl) (by kernel_rfl) (by kernel_rfl) (by kernel_rfl) (fun _ _ _ h => h) (by rfl) trivial (fun w' _ => by go_simp) ?_
  try simp only [List.getElem_toArray, List.getElem_cons_succ, List.getElem_cons_zero, Act.put, List.setIfInBounds_toArray, List.set_cons_zero, List.set_cons_succ]
  refine wpTail_take 1 [] (v := .slice (some ⟨w.heap.size, 29, none⟩) 3 3) rfl (by kernel_rfl) (by kernel_rfl) (by kernel_rfl) (by kernel_rfl) (fun _ _ _ h => h) (by rfl) trivial (fun w' _ => by go_simp) ?_
  try simp only [List.getElem_toArray, List.getElem_cons_succ, List.getElem_cons_zero, Act.put, List.setIfInBounds_toArray, List.set_cons_zero, List.set_cons_succ]
  refine wpTail_take 2 [] (v := .pointer (some ⟨w.heap.size, 35, none⟩)) rfl (by kernel_rfl) (by kernel_rfl) (by kernel_rfl) (by kernel_rfl) (fun _ _ _ h => h) (by rfl) trivial (fun w' _ => by go_simp) ?_
  try simp only [List.getElem_toArray, List.getElem_cons_succ, List.getElem_cons_zero, Act.put, List.setIfInBounds_toArray, List.set_cons_zero, List.set_cons_succ]
  refine wpTail_take 3 [] (v := .slice (some ⟨w.heap.size, 35, none⟩) 3 3) rfl (by kernel_rfl) (by kernel_rfl) (by kernel_rfl) (by kernel_rfl) (fun _ _ _ h => h) (by rfl) trivial (fun w' _ => by go_simp) ?_
  try simp only [List.getElem_toArray, List.getElem_cons_succ, List.getElem_cons_zero, Act.put, List.setIfInBounds_toArray, List.set_cons_zero, List.set_cons_succ]
  refine wpTail_take 7 [] (v := .int .i64 0) rfl (by kernel_rfl) (by kernel_rfl) (by kernel_rfl) (by kernel_rfl) (fun _ _ _ h => h) (by rfl) trivial (fun w' _ => by go_simp) ?_
  try simp only [List.getElem_toArray, List.getElem_cons_succ, List.getElem_cons_zero, Act.put, List.setIfInBounds_toArray, List.set_cons_zero, List.set_cons_succ]
  refine wpTail_one 4 (by kernel_rfl) rfl fun K hK => ?_
  go_simp
  refine hK.out _ _ (fun _ => trivial) ?_
  clear hK K
  try simp only [List.getElem_toArray, List.getElem_cons_succ, List.getElem_cons_zero, Act.put, List.setIfInBounds_toArray, List.set_cons_zero, List.set_cons_succ]
  refine wpTail_one 5 (by kernel_rfl) rfl fun K hK => ?_
  go_simp
  refine (concat_any [t.east.x, t.east.y, t.east.z] [t.up.x, t.up.y, t.up.z] rfl rfl _ _ 3 3 W.world.heap.size _ ((slAt_mid rE).grew gw) ((slAt_mid rU).grew gw) inferInstance (by go_simp) (by go_simp)).mono ?_
  rintro e w' ⟨ao, cap, rfl, hsl, hg⟩
  obtain ⟨z, rfl⟩ := later_of hg
  clear hg
  refine hK.out _ _ (fun _ => trivial) ?_
  clear hK K
  try simp only [List.getElem_toArray, List.getElem_cons_succ, List.getElem_cons_zero, Act.put, List.setIfInBounds_toArray, List.set_cons_zero, List.set_cons_succ]
  refine wpTail_one 6 (by kernel_rfl) rfl fun K hK => ?_
  go_simp
  refine hK.out _ _ (fun _ => trivial) ?_
  clear hK K
  try simp only [List.getElem_toArray, List.getElem_cons_succ, List.getElem_cons_zero, Act.put, List.setIfInBounds_toArray, List.set_cons_zero, List.set_cons_succ]
  refine ⟨by kernel_rfl, ?_⟩
  obtain ⟨b, o, rfl, rg⟩ : ∃ b o, ao = some ⟨b, o, none⟩ ∧ RangeIs z.world b o 12 [.int .i64 t.east.x.lo, .int .i64 t.east.x.hi, .int .i64 t.east.y.lo, .int .i64 t.east.y.hi, .int .i64 t.east.z.lo, .int .i64 t.east.z.hi, .int .i64 t.up.x.lo, .int .i64 t.up.x.hi, .int .i64 t.up.y.lo, .int .i64 t.up.y.hi, .int .i64 t.up.z.lo, .int .i64 t.up.z.hi] := by
    obtain ⟨ao', cap', e, -, hc⟩ := hsl
    cases e
    obtain ⟨b, o, e1, -⟩ := hc 0 _ rfl
    refine ⟨b, o, e1, ⟨fun j v hv => ?_, rfl⟩⟩
    obtain ⟨b', o', e2, e3⟩ := hc j v hv
    rw [e1] at e2
    cases e2
    exact e3
  clear hsl
  have ib : BlockIn z.world b := ⟨World.block_lt_of_cell? z.world _ (rg.is 0 _ rfl)⟩
  have rg1 : RangeIs z.world b o 2 [.int .i64 t.east.x.lo, .int .i64 t.east.x.hi] := ⟨fun j v hv => by
    have h2 : j < 2 := (List.getElem?_eq_some_iff.1 hv).1
    have := rg.is (0 + j) v (by match j, h2 with
      | 0, _ => exact hv
      | 1, _ => exact hv)
    rwa [Nat.zero_add] at this, rfl⟩
  have rg2 : RangeIs z.world b (o + 2) 2 [.int .i64 t.east.y.lo, .int .i64 t.east.y.hi] := ⟨fun j v hv => by
    have h2 : j < 2 := (List.getElem?_eq_some_iff.1 hv).1
    have := rg.is (2 + j) v (by match j, h2 with
      | 0, _ => exact hv
      | 1, _ => exact hv)
    rwa [← Nat.add_assoc] at this, rfl⟩
  have rg3 : RangeIs z.world b (o + 4) 2 [.int .i64 t.east.z.lo, .int .i64 t.east.z.hi] := ⟨fun j v hv => by
    have h2 : j < 2 := (List.getElem?_eq_some_iff.1 hv).1
    have := rg.is (4 + j) v (by match j, h2 with
      | 0, _ => exact hv
      | 1, _ => exact hv)
    rwa [← Nat.add_assoc] at this, rfl⟩
  have rg4 : RangeIs z.world b (o + 6) 2 [.int .i64 t.up.x.lo, .int .i64 t.up.x.hi] := ⟨fun j v hv => by
    have h2 : j < 2 := (List.getElem?_eq_some_iff.1 hv).1
    have := rg.is (6 + j) v (by match j, h2 with
      | 0, _ => exact hv
      | 1, _ => exact hv)
    rwa [← Nat.add_assoc] at this, rfl⟩
  have rg5 : RangeIs z.world b (o + 8) 2 [.int .i64 t.up.y.lo, .int .i64 t.up.y.hi] := ⟨fun j v hv => by
    have h2 : j < 2 := (List.getElem?_eq_some_iff.1 hv).1
    have := rg.is (8 + j) v (by match j, h2 with
      | 0, _ => exact hv
      | 1, _ => exact hv)
    rwa [← Nat.add_assoc] at this, rfl⟩
  have rg6 : RangeIs z.world b (o + 10) 2 [.int .i64 t.up.z.lo, .int .i64 t.up.z.hi] := ⟨fun j v hv => by
    have h2 : j < 2 := (List.getElem?_eq_some_iff.1 hv).1
    have := rg.is (10 + j) v (by match j, h2 with
      | 0, _ => exact hv
      | 1, _ => exact hv)
    rwa [← Nat.add_assoc] at this, rfl⟩
  clear rg
  go_wp2
  refine wp_loop_rounds 7 ?_
  rw [rounds_succ]
  cases h1 : e1
  all_goals
    rw [h1] at HE1 HR
    go_wp2_with (first | (go_at_call 41; (with_reducible refine call_later (ascUnits_any _) ?_); intro u) | (go_at_call 40; (with_reducible refine call_later (HE1.out _) ?_); intro u) | (with_reducible refine wLr ?_) | (with_reducible refine wLi ?_) | ((with_reducible refine wp_region_later ?_ ?_ ?_); (· kernel_rfl); (· kernel_rfl); (try simp only [List.append_eq, List.cons_append, List.nil_append]); (repeat (go_big_quiet_step ((first | (go_at_call 41; (with_reducible exact call_quiet (ascUnits_any _))) | (go_at_call 40; (with_reducible exact call_quiet (HE1.out _))))))); refine wpQuiet_nil ?_; rintro _ ⟨u, rfl⟩))
  · go_ret
    exact ⟨ret_int HR.out.symm, W.grew.trans gwr⟩
  clear h1 HE1
  rw [rounds_succ]
  cases h2 : e2
  all_goals
    rw [h2] at HE2 HR
    go_wp2_with (first | (go_at_call 41; (with_reducible refine call_later (ascUnits_any _) ?_); intro u) | (go_at_call 40; (with_reducible refine call_later (HE2.out _) ?_); intro u) | (with_reducible refine wLr ?_) | (with_reducible refine wLi ?_) | ((with_reducible refine wp_region_later ?_ ?_ ?_); (· kernel_rfl); (· kernel_rfl); (try simp only [List.append_eq, List.cons_append, List.nil_append]); (repeat (go_big_quiet_step ((first | (go_at_call 41; (with_reducible exact call_quiet (ascUnits_any _))) | (go_at_call 40; (with_reducible exact call_quiet (HE2.out _))))))); refine wpQuiet_nil ?_; rintro _ ⟨u, rfl⟩))
  · go_ret
    exact ⟨ret_int HR.out.symm, W.grew.trans gwr⟩
  clear h2 HE2
  rw [rounds_succ]
  cases h3 : e3
  all_goals
    rw [h3] at HE3 HR
    go_wp2_with (first | (go_at_call 41; (with_reducible refine call_later (ascUnits_any _) ?_); intro u) | (go_at_call 40; (with_reducible refine call_later (HE3.out _) ?_); intro u) | (with_reducible refine wLr ?_) | (with_reducible refine wLi ?_) | ((with_reducible refine wp_region_later ?_ ?_ ?_); (· kernel_rfl); (· kernel_rfl); (try simp only [List.append_eq, List.cons_append, List.nil_append]); (repeat (go_big_quiet_step ((first | (go_at_call 41; (with_reducible exact call_quiet (ascUnits_any _))) | (go_at_call 40; (with_reducible exact call_quiet (HE3.out _))))))); refine wpQuiet_nil ?_; rintro _ ⟨u, rfl⟩))
  · go_ret
    exact ⟨ret_int HR.out.symm, W.grew.trans gwr⟩
  clear h3 HE3
  rw [rounds_succ]
  cases h4 : e4
  all_goals
    rw [h4] at HE4 HR
    go_wp2_with (first | (go_at_call 41; (with_reducible refine call_later (ascUnits_any _) ?_); intro u) | (go_at_call 40; (with_reducible refine call_later (HE4.out _) ?_); intro u) | (with_reducible refine wLr ?_) | (with_reducible refine wLi ?_) | ((with_reducible refine wp_region_later ?_ ?_ ?_); (· kernel_rfl); (· kernel_rfl); (try simp only [List.append_eq, List.cons_append, List.nil_append]); (repeat (go_big_quiet_step ((first | (go_at_call 41; (with_reducible exact call_quiet (ascUnits_any _))) | (go_at_call 40; (with_reducible exact call_quiet (HE4.out _))))))); refine wpQuiet_nil ?_; rintro _ ⟨u, rfl⟩))
  · go_ret
    exact ⟨ret_int HR.out.symm, W.grew.trans gwr⟩
  clear h4 HE4
  rw [rounds_succ]
  cases h5 : e5
  all_goals
    rw [h5] at HE5 HR
    go_wp2_with (first | (go_at_call 41; (with_reducible refine call_later (ascUnits_any _) ?_); intro u) | (go_at_call 40; (with_reducible refine call_later (HE5.out _) ?_); intro u) | (with_reducible refine wLr ?_) | (with_reducible refine wLi ?_) | ((with_reducible refine wp_region_later ?_ ?_ ?_); (· kernel_rfl); (· kernel_rfl); (try simp only [List.append_eq, List.cons_append, List.nil_append]); (repeat (go_big_quiet_step ((first | (go_at_call 41; (with_reducible exact call_quiet (ascUnits_any _))) | (go_at_call 40; (with_reducible exact call_quiet (HE5.out _))))))); refine wpQuiet_nil ?_; rintro _ ⟨u, rfl⟩))
  · go_ret
    exact ⟨ret_int HR.out.symm, W.grew.trans gwr⟩
  clear h5 HE5
  rw [rounds_succ]
  cases h6 : e6
  all_goals
    rw [h6] at HE6 HR
    go_wp2_with (first | (go_at_call 41; (with_reducible refine call_later (ascUnits_any _) ?_); intro u) | (go_at_call 40; (with_reducible refine call_later (HE6.out _) ?_); intro u) | (with_reducible refine wLr ?_) | (with_reducible refine wLi ?_) | ((with_reducible refine wp_region_later ?_ ?_ ?_); (· kernel_rfl); (· kernel_rfl); (try simp only [List.append_eq, List.cons_append, List.nil_append]); (repeat (go_big_quiet_step ((first | (go_at_call 41; (with_reducible exact call_quiet (ascUnits_any _))) | (go_at_call 40; (with_reducible exact call_quiet (HE6.out _))))))); refine wpQuiet_nil ?_; rintro _ ⟨u, rfl⟩))
  · go_ret
    exact ⟨ret_int HR.out.symm, W.grew.trans gwr⟩
  clear h6 HE6
  rw [rounds_succ]
  go_upto_region 10 with fail
  refine wp_to_later (z := w) (W.grew.trans gwr) ?_
  intro Z hZ
  have rT : RowIs Z.world w.heap.size 50 (.int .i64 t.pl.mu.lo :: .int .i64 t.pl.mu.hi :: .int .i64 t.pl.radius.lo :: .int .i64 t.pl.radius.hi :: .int .i64 t.pl.oblate.lo :: .int .i64 t.pl.oblate.hi :: .int .i64 t.pl.spin.lo :: .int .i64 t.pl.spin.hi :: .int .i64 t.pl.pull.x.lo :: .int .i64 t.pl.pull.x.hi :: .int .i64 t.pl.pull.y.lo :: .int .i64 t.pl.pull.y.hi :: .int .i64 t.pl.pull.z.lo :: .int .i64 t.pl.pull.z.hi :: .int .i64 t.st.t :: .int .i64 t.st.p.x.lo :: .int .i64 t.st.p.x.hi :: .int .i64 t.st.p.y.lo :: .int .i64 t.st.p.y.hi :: .int .i64 t.st.p.z.lo :: .int .i64 t.st.p.z.hi :: .int .i64 t.st.v.x.lo :: .int .i64 t.st.v.x.hi :: .int .i64 t.st.v.y.lo :: .int .i64 t.st.v.y.hi :: .int .i64 t.st.v.z.lo :: .int .i64 t.st.v.z.hi :: .int .i64 t.st.m.lo :: .int .i64 t.st.m.hi :: .int .i64 t.east.x.lo :: .int .i64 t.east.x.hi :: .int .i64 t.east.y.lo :: .int .i64 t.east.y.hi :: .int .i64 t.east.z.lo :: .int .i64 t.east.z.hi :: .int .i64 t.up.x.lo :: .int .i64 t.up.x.hi :: .int .i64 t.up.y.lo :: .int .i64 t.up.y.hi :: .int .i64 t.up.z.lo :: .int .i64 t.up.z.hi :: .slice t.parts.ao t.parts.n t.parts.cap :: .slice t.dens.ao t.dens.n t.dens.cap :: .int .i64 t.axial :: .int .i64 t.bend :: .int .i64 t.h.lo :: .int .i64 t.h.hi :: .int .i64 t.s.lo :: .int .i64 t.s.hi :: .int .i64 t.c.lo :: .int .i64 t.c.hi :: [.int .i64 t.gap]) := by
    rw [hZ]
    infer_instance
  have iT := rT.blockIn
  clear hZ rE rU rg1 rg2 rg3 rg4 rg5 rg6 ib
  obtain ⟨c2, hc2⟩ : ∃ b, b = !decide (t.axial < 0) := ⟨_, rfl⟩
  obtain ⟨c3, hc3⟩ : ∃ b, b = !decide (t.bend < 0) := ⟨_, rfl⟩
  obtain ⟨c4, hc4⟩ : ∃ b, b = !decide (t.gap < 0) := ⟨_, rfl⟩
  rw [← hc2, ← hc3, ← hc4] at HR
  replace hc2 : decide (t.axial < 0) = !c2 := by rw [hc2, Bool.not_not]
  replace hc3 : decide (t.bend < 0) = !c3 := by rw [hc3, Bool.not_not]
  replace hc4 : decide (t.gap < 0) = !c4 := by rw [hc4, Bool.not_not]
  obtain ⟨c1, hc1⟩ : ∃ b, b = ((t.dens.n : Int) == 0) := ⟨_, rfl⟩
  rw [← hc1] at HR
  replace hc1 := hc1.symm
  cases c1
  · cases b2
    · cases b1
      all_goals
        go_wp2_with (first | (go_at_call 44; (with_reducible refine call_later (is_int rfl (HT.out _ ?_)) ?_); (· exact (Z.grew.trans gwr)); intro u1) | (go_at_call 45; (with_reducible refine call_later (HC.out _ ?_) ?_); (· exact (Z.grew.trans gwr)); intro u2) | (with_reducible refine wLr ?_) | (with_reducible refine wLi ?_) | (with_reducible refine wLgR ?_))
        go_ret
        exact ⟨ret_int HR.out.symm, Z.grew.trans gwr⟩
    ·
      rcases chain4 b1 c2 c3 c4 with h | ⟨h, k⟩ | ⟨h, k, m⟩ | ⟨h, k, m, o⟩ | ⟨h, k, m, o⟩
      all_goals
        rw [h] at HC HR
        (try rw [k] at hc2 HR)
        (try rw [m] at hc3 HR)
        (try rw [o] at hc4 HR)
        (try rw [Bool.not_false] at hc2)
        (try rw [Bool.not_false] at hc3)
        (try rw [Bool.not_false] at hc4)
        (try rw [Bool.not_true] at hc2)
        (try rw [Bool.not_true] at hc3)
        (try rw [Bool.not_true] at hc4)
        go_wp2_with (first | (go_at_call 44; (with_reducible refine call_later (is_int rfl (HT.out _ ?_)) ?_); (· exact (Z.grew.trans gwr)); intro u1) | (go_at_call 45; (with_reducible refine call_later (HC.out _ ?_) ?_); (· exact (Z.grew.trans gwr)); intro u2) | (with_reducible refine wLr ?_) | (with_reducible refine wLi ?_) | (with_reducible refine wLgR ?_))
      iterate 4
        · go_ret
          exact ⟨ret_int HR.out.symm, Z.grew.trans gwr⟩
      clear h k m o hc2 hc3 hc4 HC
      refine wp_loop_rounds 4 ?_
      rw [rounds_succ]
      cases f1
      all_goals
        go_wp2_with (first | (go_at_call 46; (with_reducible refine call_later (is_int rfl (H1.out _)) ?_); intro u3) | (with_reducible refine wLr ?_) | (with_reducible refine wLi ?_))
      · go_ret
        exact ⟨ret_int HR.out.symm, Z.grew.trans gwr⟩
      clear H1
      rw [rounds_succ]
      cases f2
      all_goals
        go_wp2_with (first | (go_at_call 46; (with_reducible refine call_later (is_int rfl (H2.out _)) ?_); intro u3) | (with_reducible refine wLr ?_) | (with_reducible refine wLi ?_))
      · go_ret
        exact ⟨ret_int HR.out.symm, Z.grew.trans gwr⟩
      clear H2
      rw [rounds_succ]
      cases f3
      all_goals
        go_wp2_with (first | (go_at_call 46; (with_reducible refine call_later (is_int rfl (H3.out _)) ?_); intro u3) | (with_reducible refine wLr ?_) | (with_reducible refine wLi ?_))
      · go_ret
        exact ⟨ret_int HR.out.symm, Z.grew.trans gwr⟩
      clear H3
      rw [rounds_succ]
      go_wp2
      go_ret
      exact ⟨ret_int HR.out.symm, Z.grew.trans gwr⟩
  ·
    rcases chain4 b1 c2 c3 c4 with h | ⟨h, k⟩ | ⟨h, k, m⟩ | ⟨h, k, m, o⟩ | ⟨h, k, m, o⟩
    all_goals
      rw [h] at HC HR
      (try rw [k] at hc2 HR)
      (try rw [m] at hc3 HR)
      (try rw [o] at hc4 HR)
      (try rw [Bool.not_false] at hc2)
      (try rw [Bool.not_false] at hc3)
      (try rw [Bool.not_false] at hc4)
      (try rw [Bool.not_true] at hc2)
      (try rw [Bool.not_true] at hc3)
      (try rw [Bool.not_true] at hc4)
      go_wp2_with (first | (go_at_call 44; (with_reducible refine call_later (is_int rfl (HT.out _ ?_)) ?_); (· exact (Z.grew.trans gwr)); intro u1) | (go_at_call 45; (with_reducible refine call_later (HC.out _ ?_) ?_); (· exact (Z.grew.trans gwr)); intro u2) | (with_reducible refine wLr ?_) | (with_reducible refine wLi ?_) | (with_reducible refine wLgR ?_))
    iterate 4
      · go_ret
        exact ⟨ret_int HR.out.symm, Z.grew.trans gwr⟩
    clear h k m o hc2 hc3 hc4 HC
    refine wp_loop_rounds 4 ?_
    rw [rounds_succ]
    cases f1
    all_goals
      go_wp2_with (first | (go_at_call 46; (with_reducible refine call_later (is_int rfl (H1.out _)) ?_); intro u3) | (with_reducible refine wLr ?_) | (with_reducible refine wLi ?_))
    · go_ret
      exact ⟨ret_int HR.out.symm, Z.grew.trans gwr⟩
    clear H1
    rw [rounds_succ]
    cases f2
    all_goals
      go_wp2_with (first | (go_at_call 46; (with_reducible refine call_later (is_int rfl (H2.out _)) ?_); intro u3) | (with_reducible refine wLr ?_) | (with_reducible refine wLi ?_))
    · go_ret
      exact ⟨ret_int HR.out.symm, Z.grew.trans gwr⟩
    clear H2
    rw [rounds_succ]
    cases f3
    all_goals
      go_wp2_with (first | (go_at_call 46; (with_reducible refine call_later (is_int rfl (H3.out _)) ?_); intro u3) | (with_reducible refine wLr ?_) | (with_reducible refine wLi ?_))
    · go_ret
      exact ⟨ret_int HR.out.symm, Z.grew.trans gwr⟩
    clear H3
    rw [rounds_succ]
    go_wp2
    go_ret
    exact ⟨ret_int HR.out.symm, Z.grew.trans gwr⟩
end Go.Proofs.Ytffbipcdlnfihaa
