/-
  Contract: the force at a box (ullageref03).
-/
import Derived.Test.YtnedbhdokljpcaaGreatForceRB
namespace Go.Proofs.YtnedbhdokljpcaaGreat
open Go.RowKit Go.Shelf
set_option maxRecDepth 100000
set_option maxHeartbeats 32000000
theorem r3Force_any (HL : LookOk 122) (pP : Planet) (x : Arc) (l : List Pt) (q v : Bx) (m : Sp) [hp : Pl64 pP] [hq : B64 q] [hv : B64 v] [hm : S64 m] [hxt : S64 x.thrust] [hxd : B64 x.dir] (c : Nat) (e : Int) (w : World) (hc : w.cell? ⟨c, 0, none⟩ = some (.int .i64 e)) (hf : w.frozen? ⟨c, 0, none⟩ = false)
    (hdn : x.drag.n = l.length) (HS : ∀ wx, But c w wx → SlAt wx (.slice x.drag.ao l.length x.drag.cap) l.length (l.flatMap Pt.cells)) :
    Calls Tryz.prog 72 #[.pointer (some ⟨c, 0, none⟩), .agg pP.cells.toArray, .agg x.cells.toArray, .agg #[.int .i64 q.x.lo, .int .i64 q.x.hi, .int .i64 q.y.lo, .int .i64 q.y.hi, .int .i64 q.z.lo, .int .i64 q.z.hi], .agg #[.int .i64 v.x.lo, .int .i64 v.x.hi, .int .i64 v.y.lo, .int .i64 v.y.hi, .int .i64 v.z.lo, .int .i64 v.z.hi], .agg #[.int .i64 m.lo, .int .i64 m.hi]] w (RetC c (.agg #[.int .i64 ((forceG pP x l q v m e).b).x.lo, .int .i64 ((forceG pP x l q v m e).b).x.hi, .int .i64 ((forceG pP x l q v m e).b).y.lo, .int .i64 ((forceG pP x l q v m e).b).y.hi, .int .i64 ((forceG pP x l q v m e).b).z.lo, .int .i64 ((forceG pP x l q v m e).b).z.hi]) (forceG pP x l q v m e).e w) := by
  have ib : BlockIn w c := BlockIn.of_cell hc
  have hci : HasCell w c 0 := ⟨_, hc⟩
  have Hb := Lib.hid (But.refl hc)
  have Hc := Lib.hid hc
  have hlt := ib.lt
  have hlen := (HS w (But.refl hc)).len_le
  unfold maxLen at hlen
  have sN : S64 (frN pP l q e).s := by
    unfold frN
    split
    · exact s64_do _ _
    · exact ⟨by unfold I64 z0; simp, by unfold I64 z0; simp⟩
  have HZ := Lib.hid (fun w' => r3Point0_any pP.mu w')
  have HNT := Lib.hid (fun (h : (!zeroB pP.mu || !l.isEmpty) = true) (w : World) hc hf => show Calls Tryz.prog 42 #[.pointer (some ⟨c, 0, none⟩), .agg #[.int .i64 q.x.lo, .int .i64 q.x.hi, .int .i64 q.y.lo, .int .i64 q.y.hi, .int .i64 q.z.lo, .int .i64 q.z.hi]] w (RetC c (.agg #[.int .i64 ((frN pP l q e).s).lo, .int .i64 ((frN pP l q e).s).hi]) (frN pP l q e).e w) from by
    rw [show frN pP l q e = doR e (normR q.list) by unfold frN; rw [if_pos h]]
    exact rcNorm_any c e q w hc hf)
  have HNF := Lib.hid (fun (h : (!zeroB pP.mu || !l.isEmpty) = false) => show frN pP l q e = ⟨z0, e⟩ by unfold frN; rw [h]; rfl)
  have HLE := Lib.hid (show l.isEmpty = decide (l.length = 0) by cases l <;> simp)
  have HHS := Lib.hid HS
  have HK := Lib.hid (r3B HL pP x l q v m c e w hc hdn HS (frN pP l q e))
  have HFG := Lib.hid (show forceG pP x l q v m e = dragG pP l v m (frN pP l q e).s (thrustG x m (spinR pP.spin q v (if zeroB pP.mu then ⟨pP.pull, (frN pP l q e).e⟩ else pullG pP q (frN pP l q e).s (frN pP l q e).e))) from rfl)
  rw [HFG.out]
  clear HFG HS
  have hdl := Lib.hid hdn
  clear hdn
  generalize hOD : dragG pP l v m (frN pP l q e).s (thrustG x m (spinR pP.spin q v (if zeroB pP.mu then ⟨pP.pull, (frN pP l q e).e⟩ else pullG pP q (frN pP l q e).s (frN pP l q e).e))) = OD at *
  clear hOD
  generalize hNR : frN pP l q e = NR at *
  clear hNR
  generalize zeroB pP.mu = zm at *
  have : Apart c w.heap.size := ⟨by omega⟩
  have : Apart (w.heap.size) (c) := ⟨by omega⟩
  have : Apart (w.heap.size + 1) (c) := ⟨by omega⟩
  have : Apart (w.heap.size + 1 + 1) (c) := ⟨by omega⟩
  have : Apart (w.heap.size + 1 + 1 + 1) (c) := ⟨by omega⟩
  have : Apart (w.heap.size + 1 + 1 + 1 + 1) (c) := ⟨by omega⟩
  have : Apart (w.heap.size + 1 + 1 + 1 + 1 + 1) (c) := ⟨by omega⟩
  have : Apart (w.heap.size + 1 + 1 + 1 + 1 + 1 + 1) (c) := ⟨by omega⟩
  have : Apart (w.heap.size + 1 + 1 + 1 + 1 + 1 + 1 + 1) (c) := ⟨by omega⟩
  have : Apart (w.heap.size) (w.heap.size + 1 + 1 + 1 + 1 + 1 + 1) := ⟨by omega⟩
  have : Apart (w.heap.size + 1) (w.heap.size + 1 + 1 + 1 + 1 + 1 + 1) := ⟨by omega⟩
  have : Apart (w.heap.size + 1 + 1) (w.heap.size + 1 + 1 + 1 + 1 + 1 + 1) := ⟨by omega⟩
  have : Apart (w.heap.size + 1 + 1 + 1) (w.heap.size + 1 + 1 + 1 + 1 + 1 + 1) := ⟨by omega⟩
  have : Apart (w.heap.size + 1 + 1 + 1 + 1) (w.heap.size + 1 + 1 + 1 + 1 + 1 + 1) := ⟨by omega⟩
  have : Apart (w.heap.size + 1 + 1 + 1 + 1 + 1) (w.heap.size + 1 + 1 + 1 + 1 + 1 + 1) := ⟨by omega⟩
  have : Apart (w.heap.size + 1 + 1 + 1 + 1 + 1 + 1 + 1) (w.heap.size + 1 + 1 + 1 + 1 + 1 + 1) := ⟨by omega⟩
  have : Apart (c) (w.heap.size + 1 + 1 + 1 + 1 + 1 + 1) := ⟨by omega⟩
  have : Apart (w.heap.size) (w.heap.size + 1 + 1 + 1 + 1 + 1 + 1 + 1) := ⟨by omega⟩
  have : Apart (w.heap.size + 1) (w.heap.size + 1 + 1 + 1 + 1 + 1 + 1 + 1) := ⟨by omega⟩
  have : Apart (w.heap.size + 1 + 1) (w.heap.size + 1 + 1 + 1 + 1 + 1 + 1 + 1) := ⟨by omega⟩
  have : Apart (w.heap.size + 1 + 1 + 1) (w.heap.size + 1 + 1 + 1 + 1 + 1 + 1 + 1) := ⟨by omega⟩
  have : Apart (w.heap.size + 1 + 1 + 1 + 1) (w.heap.size + 1 + 1 + 1 + 1 + 1 + 1 + 1) := ⟨by omega⟩
  have : Apart (w.heap.size + 1 + 1 + 1 + 1 + 1) (w.heap.size + 1 + 1 + 1 + 1 + 1 + 1 + 1) := ⟨by omega⟩
  have : Apart (w.heap.size + 1 + 1 + 1 + 1 + 1 + 1) (w.heap.size + 1 + 1 + 1 + 1 + 1 + 1 + 1) := ⟨by omega⟩
  have : Apart (c) (w.heap.size + 1 + 1 + 1 + 1 + 1 + 1 + 1) := ⟨by omega⟩
  go_enter Tryz.func72, Tryz.ntmps72
  go_upto_region 3 with fail
  go_cut [39] (fun s39 wx => s39 = .bool (!zm || !l.isEmpty) ∧ FrG c w pP x q v m (e) (z0) (pP.pull) wx)
  case first =>
    cases zm
    · go_wp2_with (go_at_call 135; (with_reducible refine call_later (HZ.out _) ?_); intro u1)
      go_meet
      case rel => exact ⟨rfl, (by repeat (first | with_reducible exact Hb.out | with_reducible apply But.alloc | with_reducible apply But.later | with_reducible apply But.drew | with_reducible apply But.put | with_reducible apply But.store)), by go_simp, by go_simp, inferInstance, inferInstance, inferInstance, inferInstance, inferInstance, inferInstance, inferInstance, inferInstance⟩
    · go_wp2_with (go_at_call 135; (with_reducible refine call_later (HZ.out _) ?_); intro u1)
      go_meet
      case rel => exact ⟨by rw [hdl.out]; cases l <;> simp, (by repeat (first | with_reducible exact Hb.out | with_reducible apply But.alloc | with_reducible apply But.later | with_reducible apply But.drew | with_reducible apply But.put | with_reducible apply But.store)), by go_simp, by go_simp, inferInstance, inferInstance, inferInstance, inferInstance, inferInstance, inferInstance, inferInstance, inferInstance⟩
  case rest =>
  obtain ⟨rfl, hF⟩ := hcut
  clear Hb
  obtain ⟨hb, h2, h3, m1, m2, m3, m4, m5, m6, m7, m8⟩ := hF
  have Hb := Lib.hid hb
  have nwc : NewFor w wc.heap.size := ⟨hb.size⟩
  have ibw : BlockIn wc c := BlockIn.of_cell h2
  have hcw : HasCell wc c 0 := ⟨_, h2⟩
  have i1 := m1.blockIn
  have i2 := m2.blockIn
  have i3 := m3.blockIn
  have i4 := m4.blockIn
  have i5 := m5.blockIn
  have i6 := m6.blockIn
  have i7 := m7.blockIn
  have i8 := m8.blockIn
  clear hb
  go_upto_if 39 with fail
  go_cut [] (fun wx => FrG c w pP x q v m (NR.e) (NR.s) (pP.pull) wx)
  case first =>
    cases hb : (!zm || !l.isEmpty)
    · have hN := HNF.out hb
      have hNe : NR.e = e := by rw [hN]
      go_wp2
      go_meet
      case rel => exact ⟨(by repeat (first | with_reducible exact Hb.out | with_reducible apply But.alloc | with_reducible apply But.later | with_reducible apply But.drew | with_reducible apply But.put | with_reducible apply But.store)), by rw [hNe]; go_simp, by go_simp, inferInstance, inferInstance, inferInstance, inferInstance, inferInstance, inferInstance, inferInstance, rowIs_cast m8 (by rw [hN])⟩
    · go_wp2_with (go_at_call 42; (with_reducible refine call_calc (HNT.out hb _ ?_ ?_) ?_); (· go_simp); (· go_simp); intro u1)
      go_meet
      case rel => exact ⟨(by repeat (first | with_reducible exact Hb.out | with_reducible apply But.alloc | with_reducible apply But.later | with_reducible apply But.drew | with_reducible apply But.put | with_reducible apply But.store)), by go_simp, by go_simp, inferInstance, inferInstance, inferInstance, inferInstance, inferInstance, inferInstance, inferInstance, rowIs_cast inferInstance rfl⟩
  case rest =>
  go_step
  exact HK.out _ _ _ _ _ _ _ _ _ _ _ _ _ _ _ _ _ _ _ _ _ _ _ _ _ _ _ _ _ _ _ _ _ _ _ _ _ _ _ _ _ _ _ _ _ _ _ _ _ _ _ _ _ _ _ _ _ _ _ _ _ _ _ _ _ _ _ _ _ _ _ _ _ _ _ _ _ _ _ _ _ _ _ _ _ _ _ _ _ _ _ _ _ _ _ _ _ _ _ _ _ _ _ _ _ _ _ _ _ _ _ _ _ _ _ _ _ _ _ _ _ _ _ _ _ _ _ _ _ _ _ _ _ _ _ _ _ _ _ _ _ _ _ _ _ _ _ _ _ _ _ _ _ _ _ _ _ _ _ _ _ _ _ _ _ _ _ _ _ _ _ _ _ _ _ _ _ _ _ _ _ _ _ _ _ _ _ _ _ _ _ _ _ _ _ wc hcut
end Go.Proofs.YtnedbhdokljpcaaGreat
