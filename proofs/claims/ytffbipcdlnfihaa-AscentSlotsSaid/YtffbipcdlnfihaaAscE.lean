/-
  Contracts: ascent.whole, Whole.
-/
import Derived.Test.YtffbipcdlnfihaaAscD
import Derived.Test.YtffbipcdlnfihaaRow
namespace Go.Proofs.Ytffbipcdlnfihaa
open Go.RowKit Go.Shelf
set_option maxRecDepth 100000
set_option maxHeartbeats 8000000
set_option linter.unusedSimpArgs false
instance : StructTy 91 4 := ⟨⟨_, Try.underlying91, rfl⟩, by kernel_rfl⟩
/-- The ranges of a part. -/
structure KnobV where
  p : Sp
  q : Sp
def KnobV.cells (x : KnobV) : List Value := [.int .i64 x.p.lo, .int .i64 x.p.hi, .int .i64 x.q.lo, .int .i64 x.q.hi]
def PartV.knob (x : PartV) : KnobV := ⟨x.p, x.q⟩
theorem infoKnob : (Try.prog.info? 91).map (fun i => (i.zero, i.size, i.bytes)) = some (some (.agg #[.int .i64 0, .int .i64 0, .int .i64 0, .int .i64 0]), 4, 32) := by kernel_rfl
theorem knobC_snoc (l : List KnobV) (y : KnobV) : l.flatMap KnobV.cells ++ y.cells = (l ++ [y]).flatMap KnobV.cells := by simp
theorem knob_one (y : KnobV) : ∀ u ∈ y.cells, u.oneCell' = true := fun u hu => by
  simp only [KnobV.cells, List.mem_cons, List.not_mem_nil, or_false] at hu
  rcases hu with rfl | rfl | rfl | rfl <;> rfl
/-- A knob is appended to a row of one's own. -/
theorem wpList_app_knob {ops : Array Oper} {rest : List Oper} {o : Oper} {a : Act} {Q : Exit → Act → World → Prop} (a0 w : World) (g0 : Grew a0 w) {m : Nat} [hm : SizeAt w m] (hgd : o.guard = none) (s x : Operand)
    (ho : o.op = .call { callee := .builtin .append, args := #[s, x], argTypes := #[52, 52] }) (v : Value) (l : List KnobV) (hown : w.ownsRow a0.heap.size 91 4 v l.length (l.flatMap KnobV.cells)) (hs : a.eval s = v) (y : KnobV) (ty : TypeId)
    (hx : a.eval x = .slice (some ⟨m, 0, none⟩) 1 1) (hn : l.length ≤ 1099511627)
    (h : ∀ v' (u : Later a0), u.world.ownsRow a0.heap.size 91 4 v' (l ++ [y]).length ((l ++ [y]).flatMap KnobV.cells) → wpList Try.prog ops Q rest (a.put o.dst v') u.world) :
    wpList Try.prog ops Q (o :: rest) a (w.alloc (.cells y.cells.toArray ty)) := by
  obtain rfl := hm.eq
  obtain ⟨i0, hi, hz0, hzz1, hzz2⟩ := info_parts infoKnob
  refine wpList_append_own _ hgd s x 52 ho a0.heap.size 91 i0 _ 4 32 Try.underlying52 hi hz0 hzz1 hzz2 rfl (by decide) v _ _ hs (hown.alloc _) ⟨w.heap.size, 0, none⟩ 1 1 y.cells hx rfl (by simpa using cells_new w y.cells ty) (knob_one y) (by simp [maxLen]; omega) (by omega) (by have := g0.size; simp; omega) ?_
  intro v' w1 hown' hgrow _
  obtain ⟨u, rfl⟩ := later_of (Grew.append (g0.alloc (.cells y.cells.toArray ty)) (hown.alloc (.cells y.cells.toArray ty)) (Nat.le_refl _) hgrow)
  refine h v' u ?_
  rw [← knobC_snoc, List.length_append]
  exact hown'
/-- Knobs of one's own. -/
def RetKn (L : List KnobV) (w : World) (e : Ending) (w' : World) : Prop := ∃ (ao : Option Addr) (cap : Nat), e = .returned (.slice ao L.length cap) ∧ SlAt w' (.slice ao L.length cap) L.length (L.flatMap KnobV.cells) ∧ Grew w w'
theorem whole_any (t : TaskV) (ps : List PartV) (w : World) (hp : PartsAt w (.slice t.parts.ao t.parts.n t.parts.cap) ps) (h8 : ps.length ≤ 1000) : Calls Try.prog 33 #[.agg t.cells.toArray] w (RetKn (ps.map PartV.knob) w) := by
  obtain ⟨⟨ao, cap, e1, hm, hc⟩, -⟩ := hp
  have HE := Lib.hid (SlAt.elem (f := PartV.cells) (c := 19) (fun _ => rfl) (by omega) hc)
  clear hc
  have c41 : t.cells[41]? = some (.slice t.parts.ao t.parts.n t.parts.cap) := rfl
  rw [e1] at c41
  clear e1
  unfold maxLen at hm
  go_enter Try.func33, Try.ntmps33
  go_wp2
  refine wp_to_later (z := w) gw ?_
  intro y hy
  clear hy
  go_loopw [3, 9] (fun q j wr => ∃ (k : Nat) (v : Value), j = .int .i64 k ∧ v = q ∧ k ≤ ps.length ∧ wr.ownsRow y.world.heap.size 91 4 v ((ps.take k).map PartV.knob).length (((ps.take k).map PartV.knob).flatMap KnobV.cells) ∧ Grew y.world wr) (fun _ j _ => ps.length - (intOf j).toNat)
  case atStart => exact ⟨0, _, rfl, rfl, by omega, World.ownsRow_nil _ _ _ _, gw⟩
  case round =>
    obtain ⟨k, v, rfl, rfl, hk, hown, hg⟩ := hrel
    obtain ⟨z, rfl⟩ := later_of hg
    clear hg
    by_cases hlt : k < ps.length
    · obtain ⟨b1, o1, e1, i1, hd1, hd2⟩ := HE.out k hlt
      cases e1
      have j1 : BlockIn w b1 := ⟨i1⟩
      have hS : (ps.take (k + 1)).map PartV.knob = (ps.take k).map PartV.knob ++ [ps[k].knob] := by rw [List.take_succ_eq_append_getElem hlt, List.map_append]; rfl
      have hl : ((ps.take k).map PartV.knob).length = k := by simp; omega
      have rg : RangeIs w b1 (o1 + k * 19) 19 [.int .i64 ps[k].a.time, .int .i64 ps[k].a.step, .int .i64 ps[k].a.thrust.lo, .int .i64 ps[k].a.thrust.hi, .int .i64 ps[k].a.flow.lo, .int .i64 ps[k].a.flow.hi, .int .i64 ps[k].a.dir.x.lo, .int .i64 ps[k].a.dir.x.hi, .int .i64 ps[k].a.dir.y.lo, .int .i64 ps[k].a.dir.y.hi, .int .i64 ps[k].a.dir.z.lo, .int .i64 ps[k].a.dir.z.hi, .slice ps[k].a.drag.ao ps[k].a.drag.n ps[k].a.drag.cap, .int .i64 ps[k].a.drop.lo, .int .i64 ps[k].a.drop.hi, .int .i64 ps[k].p.lo, .int .i64 ps[k].p.hi, .int .i64 ps[k].q.lo, .int .i64 ps[k].q.hi] := ⟨fun j v hv => hd2 j v hv, rfl⟩
      clear hd1 hd2
      have HK := Lib.hid (show ps[k].knob = ⟨ps[k].p, ps[k].q⟩ from rfl)
      generalize ps[k] = x at *
      generalize (ps.take k).map PartV.knob = L at *
      have HS := Lib.hid hS
      clear hS
      go_wp2_with (first | (with_reducible refine wLr ?_) | (with_reducible refine wLi ?_) | (with_reducible refine wSf ?_) | (at_builtin; go_loud (refine wpList_app_knob y.world _ gw rfl _ _ rfl _ L (owns_grew hown gw) rfl ⟨x.p, x.q⟩ _ rfl (by omega) ?_; intro v' y1 hown')))
      go_roundw
      case rel => exact ⟨k + 1, v', by go_num, rfl, by omega, by rw [HS.out, HK.out]; exact hown', gw⟩
      case measure => simp [intOf]; omega
    · obtain rfl : k = ps.length := by omega
      rw [List.take_length] at hown
      have hs := SlAt.of_owns hown
      have Hs := Lib.hid hs
      obtain ⟨ao2, cap2, rfl⟩ := owns_form hown
      clear hs hown
      go_wp2
      go_ret
      exact ⟨ao2, cap2, rfl, Hs.out, gw⟩
/-- Knobs, and an error. -/
def RetKnE (L : List KnobV) (c : Int) (w : World) (e : Ending) (w' : World) : Prop := ∃ (ao : Option Addr) (cap : Nat), e = .returned (.tuple #[.slice ao L.length cap, .int .i64 c]) ∧ SlAt w' (.slice ao L.length cap) L.length (L.flatMap KnobV.cells) ∧ Grew w w'
def wholeL (t : TaskV) (ps : List PartV) (pts : List Pt) : List KnobV := if taskB t ps pts then ps.map PartV.knob else []
theorem task_n {t : TaskV} {ps : List PartV} {w : World} (hp : PartsAt w (.slice t.parts.ao t.parts.n t.parts.cap) ps) : t.parts.n = ps.length := by
  obtain ⟨⟨ao, cap, e, -⟩, -⟩ := hp
  simp at e
  exact e.2.1
theorem task_8 {t : TaskV} {ps : List PartV} {pts : List Pt} (h : taskB t ps pts = true) : 0 < t.parts.n ∧ t.parts.n ≤ 8 := by
  unfold taskB at h
  simp only [Bool.and_eq_true, Bool.not_eq_true', decide_eq_false_iff_not, beq_eq_false_iff_ne] at h
  omega
theorem ascWhole_any (t : TaskV) (ps : List PartV) (pts : List Pt) (w : World) (hp : PartsAt w (.slice t.parts.ao t.parts.n t.parts.cap) ps) (hd : SlAt w (.slice t.dens.ao t.dens.n t.dens.cap) pts.length (pts.flatMap Pt.cells)) : Calls Try.prog 16 #[.agg t.cells.toArray] w (RetKnE (wholeL t ps pts) (codeB (taskB t ps pts) 2) w) := by
  have HC := Lib.hid (fun w' (g : Grew w w') => checkTask_any t ps pts w' (hp.grew g) (hd.grew g))
  have HW := Lib.hid (fun w' (g : Grew w w') h => whole_any t ps w' (hp.grew g) h)
  have hn := task_n hp
  have h8 := task_8 (t := t) (ps := ps) (pts := pts)
  unfold wholeL
  clear hp hd
  generalize taskB t ps pts = b at *
  go_enter Try.func16, Try.ntmps16
  cases b
  · go_wp2_with (first | (go_at_call 32; (with_reducible refine call_later (is_int rfl (HC.out _ gw)) ?_); intro u) | (with_reducible refine wLi ?_))
    refine bodyPost_ret (by (simp [results, Try.results16, go_sem] <;> rfl)) rfl ?_
    exact ⟨none, 0, rfl, ⟨_, _, rfl, by simp [maxLen], fun i x hx => by cases hx⟩, gw⟩
  · have h9 := (h8 rfl).2
    rw [hn] at h9
    go_wp2_with (first | (go_at_call 32; (with_reducible refine call_later (is_int rfl (HC.out _ gw)) ?_); intro u) | (with_reducible refine wLi ?_) | (go_at_call 33; (with_reducible refine (HW.out _ ?_ ?_).mono ?_); (· exact gw); (· omega); (rintro e w2 ⟨ao, cap, rfl, hs, hg⟩; obtain ⟨u2, rfl⟩ := later_of hg; clear hg)))
    refine bodyPost_ret (by (simp [results, Try.results16, go_sem] <;> rfl)) rfl ?_
    exact ⟨ao, cap, by simp [codeB], by simpa using hs, gw⟩
end Go.Proofs.Ytffbipcdlnfihaa
