/-
  Contracts: ascent.cost, Cost.
-/
import Derived.Test.YtffbipcdlnfihaaAscF
import Derived.Test.YtffbipcdlnfihaaSpanAdd
import Derived.Test.YtffbipcdlnfihaaSpanMul2
namespace Go.Proofs.Ytffbipcdlnfihaa
open Go.RowKit Go.Shelf
set_option maxRecDepth 100000
set_option maxHeartbeats 8000000
set_option linter.unusedSimpArgs false
/-- What a part costs. -/
def flowR (z : PartV × KnobV) : Res := mulR z.1.a.flow z.2.q
def priceR (z : PartV × KnobV) : Res := if (flowR z).e = 0 then mulR (flowR z).s ⟨z.1.a.time, z.1.a.time⟩ else errR (flowR z).e
def costAdd (s : Sp) (z : PartV × KnobV) : Res := if (priceR z).e = 0 then addR s (priceR z).s else errR (priceR z).e
def costGo : Sp → List (PartV × KnobV) → Res
  | s, [] => ⟨s, 0⟩
  | s, z :: l => if (costAdd s z).e = 0 then costGo (costAdd s z).s l else errR (costAdd s z).e
def costR (ps : List PartV) (ks : List KnobV) : Res := costGo z0 (ps.zip ks)
structure Pa64 (x : PartV) : Prop where
  time : S64 (⟨x.a.time, x.a.time⟩ : Sp)
  thrust : S64 x.a.thrust
  flow : S64 x.a.flow
structure Ka64 (k : KnobV) : Prop where
  p : S64 k.p
  q : S64 k.q
section
variable {s : Sp} {z : PartV × KnobV} {L : List (PartV × KnobV)}
theorem costGo_1 (h : (mulR z.1.a.flow z.2.q).e ≠ 0) : costGo s (z :: L) = errR (mulR z.1.a.flow z.2.q).e := by
  have e1 : priceR z = errR (mulR z.1.a.flow z.2.q).e := if_neg h
  have e2 : costAdd s z = errR (mulR z.1.a.flow z.2.q).e := by unfold costAdd; rw [e1]; exact if_neg h
  rw [costGo, e2]
  exact if_neg h
theorem costGo_2 (h : (mulR z.1.a.flow z.2.q).e = 0) (k : (mulR (mulR z.1.a.flow z.2.q).s ⟨z.1.a.time, z.1.a.time⟩).e ≠ 0) : costGo s (z :: L) = errR (mulR (mulR z.1.a.flow z.2.q).s ⟨z.1.a.time, z.1.a.time⟩).e := by
  have e1 : priceR z = mulR (mulR z.1.a.flow z.2.q).s ⟨z.1.a.time, z.1.a.time⟩ := if_pos h
  have e2 : costAdd s z = errR (mulR (mulR z.1.a.flow z.2.q).s ⟨z.1.a.time, z.1.a.time⟩).e := by unfold costAdd; rw [e1]; exact if_neg k
  rw [costGo, e2]
  exact if_neg k
theorem costGo_3 (h : (mulR z.1.a.flow z.2.q).e = 0) (k : (mulR (mulR z.1.a.flow z.2.q).s ⟨z.1.a.time, z.1.a.time⟩).e = 0) (m : (addR s (mulR (mulR z.1.a.flow z.2.q).s ⟨z.1.a.time, z.1.a.time⟩).s).e ≠ 0) : costGo s (z :: L) = errR (addR s (mulR (mulR z.1.a.flow z.2.q).s ⟨z.1.a.time, z.1.a.time⟩).s).e := by
  have e1 : priceR z = mulR (mulR z.1.a.flow z.2.q).s ⟨z.1.a.time, z.1.a.time⟩ := if_pos h
  have e2 : costAdd s z = addR s (mulR (mulR z.1.a.flow z.2.q).s ⟨z.1.a.time, z.1.a.time⟩).s := by unfold costAdd; rw [e1, if_pos k]
  rw [costGo, e2, if_neg m]
theorem costGo_4 (h : (mulR z.1.a.flow z.2.q).e = 0) (k : (mulR (mulR z.1.a.flow z.2.q).s ⟨z.1.a.time, z.1.a.time⟩).e = 0) (m : (addR s (mulR (mulR z.1.a.flow z.2.q).s ⟨z.1.a.time, z.1.a.time⟩).s).e = 0) : costGo s (z :: L) = costGo (addR s (mulR (mulR z.1.a.flow z.2.q).s ⟨z.1.a.time, z.1.a.time⟩).s).s L := by
  have e1 : priceR z = mulR (mulR z.1.a.flow z.2.q).s ⟨z.1.a.time, z.1.a.time⟩ := if_pos h
  have e2 : costAdd s z = addR s (mulR (mulR z.1.a.flow z.2.q).s ⟨z.1.a.time, z.1.a.time⟩).s := by unfold costAdd; rw [e1, if_pos k]
  rw [costGo, e2, if_pos m]
end
theorem wp_rawG {P : Program} {c : Code} {Q : Exit → Act → World → Prop} {a : Act} {w : World} (k : ∀ Y, Y = w → c.wp P Q a Y) : c.wp P Q a w := k w rfl
theorem cost_any (t : TaskV) (ps : List PartV) (ks : List KnobV) (w : World) (hp : PartsAt w (.slice t.parts.ao t.parts.n t.parts.cap) ps) (ao : Option Addr) (cap : Nat) (hk : SlAt w (.slice ao ks.length cap) ks.length (ks.flatMap KnobV.cells)) (hl : ks.length = ps.length) (h8 : ps.length ≤ 1000) (hP : ∀ x ∈ ps, Pa64 x) (hK : ∀ k ∈ ks, Ka64 k) : Calls Try.prog 35 #[.agg t.cells.toArray, .slice ao ks.length cap] w fun e w' => e = .returned (.tuple #[.agg #[.int .i64 (costR ps ks).s.lo, .int .i64 (costR ps ks).s.hi], .int .i64 (costR ps ks).e]) ∧ Grew w w' := by
  obtain ⟨⟨ao1, cap1, e1, hm, hc⟩, -⟩ := hp
  obtain ⟨ao2, cap2, e2, hm2, hc2⟩ := hk
  cases e2
  have HE := Lib.hid (SlAt.elem (f := PartV.cells) (c := 19) (fun _ => rfl) (by omega) hc)
  have HK := Lib.hid (SlAt.elem (f := KnobV.cells) (c := 4) (fun _ => rfl) (by omega) hc2)
  have hP := Lib.hid hP
  have hK := Lib.hid hK
  clear hc hc2
  have c41 : t.cells[41]? = some (.slice t.parts.ao t.parts.n t.parts.cap) := rfl
  rw [e1] at c41
  clear e1
  unfold maxLen at hm hm2
  rw [hl] at hm2
  obtain ⟨R, hR⟩ : ∃ R, R = costR ps ks := ⟨_, rfl⟩
  rw [← hR]
  have HR := Lib.hid hR
  clear hR
  go_enter Try.func35, Try.ntmps35
  rw [hl]
  go_upto_region 3 with (first | (with_reducible refine wLr ?_) | (with_reducible refine wLi ?_) | (with_reducible refine wSf ?_))
  refine wp_rawG fun Y hY => ?_
  have g0 : Grew w Y := by rw [hY]; exact gw
  have rT0 : RowIs Y w.heap.size 50 t.cells := by rw [hY]; infer_instance
  have rS0 : RowIs Y (w.heap.size + 1 + 1) 40 [.int .i64 0, .int .i64 0] := by rw [hY]; infer_instance
  have rR0 : RowIs Y (w.heap.size + 1) 40 [.int .i64 0, .int .i64 0] := by rw [hY]; infer_instance
  clear hY
  obtain ⟨y, rfl⟩ := later_of g0
  clear g0
  go_loopw [14] (fun j wr => ∃ (k : Nat) (s : Sp), j = .int .i64 k ∧ k ≤ ps.length ∧ Hid (R = costGo s ((ps.zip ks).drop k)) ∧ Hid (S64 s) ∧ Grew w wr ∧ RowIs wr w.heap.size 50 t.cells ∧ RowIs wr (w.heap.size + 1 + 1) 40 [.int .i64 s.lo, .int .i64 s.hi] ∧ RowIs wr (w.heap.size + 1) 40 [.int .i64 0, .int .i64 0]) (fun j _ => ps.length - (intOf j).toNat)
  case atStart => exact ⟨0, z0, rfl, by omega, HR, Lib.hid ⟨by unfold I64; decide, by unfold I64; decide⟩, gw, rT0, rS0, rR0⟩
  case round =>
    clear rT0 rS0 rR0
    obtain ⟨k, s, rfl, hk, Hs, H64, hg, rT, rS, rR⟩ := hrel
    obtain ⟨z, rfl⟩ := later_of hg
    clear hg
    have iT := rT.blockIn
    have iS := rS.blockIn
    have iR := rR.blockIn
    by_cases hlt : k < ps.length
    · obtain ⟨b1, o1, e1, i1, -, hd2⟩ := HE.out k hlt
      cases e1
      have j1 : BlockIn w b1 := ⟨i1⟩
      obtain ⟨b2, o2, e2, i2, -, hd4⟩ := HK.out k (by omega)
      cases e2
      have j2 : BlockIn w b2 := ⟨i2⟩
      have hz : k < (ps.zip ks).length := by simp; omega
      have Hd : (ps.zip ks).drop k = (ps[k], ks[k]) :: (ps.zip ks).drop (k + 1) := by rw [List.drop_eq_getElem_cons hz, List.getElem_zip]
      have ra : RangeIs w b1 (o1 + k * 19) 15 [.int .i64 ps[k].a.time, .int .i64 ps[k].a.step, .int .i64 ps[k].a.thrust.lo, .int .i64 ps[k].a.thrust.hi, .int .i64 ps[k].a.flow.lo, .int .i64 ps[k].a.flow.hi, .int .i64 ps[k].a.dir.x.lo, .int .i64 ps[k].a.dir.x.hi, .int .i64 ps[k].a.dir.y.lo, .int .i64 ps[k].a.dir.y.hi, .int .i64 ps[k].a.dir.z.lo, .int .i64 ps[k].a.dir.z.hi, .slice ps[k].a.drag.ao ps[k].a.drag.n ps[k].a.drag.cap, .int .i64 ps[k].a.drop.lo, .int .i64 ps[k].a.drop.hi] := ⟨fun j v hv => hd2 j v (by match j, hv with | 0, hv => exact hv | 1, hv => exact hv | 2, hv => exact hv | 3, hv => exact hv | 4, hv => exact hv | 5, hv => exact hv | 6, hv => exact hv | 7, hv => exact hv | 8, hv => exact hv | 9, hv => exact hv | 10, hv => exact hv | 11, hv => exact hv | 12, hv => exact hv | 13, hv => exact hv | 14, hv => exact hv), rfl⟩
      have rk : RangeIs w b2 (o2 + k * 4) 4 [.int .i64 ks[k].p.lo, .int .i64 ks[k].p.hi, .int .i64 ks[k].q.lo, .int .i64 ks[k].q.hi] := ⟨fun j v hv => hd4 j v hv, rfl⟩
      have p64 := hP.out ps[k] (List.getElem_mem _)
      have k64 := hK.out ks[k] (List.getElem_mem _)
      rw [Hd] at Hs
      clear hd2 hd4 Hd hz
      obtain ⟨L, hL⟩ : ∃ L, L = (ps.zip ks).drop (k + 1) := ⟨_, rfl⟩
      rw [← hL] at Hs
      have HL := Lib.hid hL
      clear hL
      generalize ps[k] = x at *
      generalize ks[k]'(by omega) = c at *
      have i64a := H64.out
      have i64b := p64.time
      have i64c := p64.flow
      have i64d := k64.q
      have C1 := Lib.hid (fun h => Hs.out.trans (costGo_1 (s := s) (z := (x, c)) (L := L) h))
      have C2 := Lib.hid (fun h k => Hs.out.trans (costGo_2 (s := s) (z := (x, c)) (L := L) h k))
      have C3 := Lib.hid (fun h k m => Hs.out.trans (costGo_3 (s := s) (z := (x, c)) (L := L) h k m))
      have C4 := Lib.hid (fun h k m => Hs.out.trans (costGo_4 (s := s) (z := (x, c)) (L := L) h k m))
      have HM := Lib.hid (fun w => spMul_any x.a.flow c.q w)
      have HN := Lib.hid (fun w => spMul_any (mulR x.a.flow c.q).s ⟨x.a.time, x.a.time⟩ w)
      have HA := Lib.hid (fun w => spAdd_any s (mulR (mulR x.a.flow c.q).s ⟨x.a.time, x.a.time⟩).s w)
      have A64 := Lib.hid (show S64 (addR s (mulR (mulR x.a.flow c.q).s ⟨x.a.time, x.a.time⟩).s).s from inferInstance)
      simp only at C1 C2 C3 C4
      clear Hs H64 p64 k64 i64a i64b i64c i64d
      generalize addR s (mulR (mulR x.a.flow c.q).s ⟨x.a.time, x.a.time⟩).s = A at *
      generalize mulR (mulR x.a.flow c.q).s ⟨x.a.time, x.a.time⟩ = N at *
      generalize mulR x.a.flow c.q = M at *
      by_cases f1 : M.e = 0
      · have t1 : (M.e == 0) = true := by simp [f1]
        by_cases f2 : N.e = 0
        · have t2 : (N.e == 0) = true := by simp [f2]
          by_cases f3 : A.e = 0
          · have t3 : (A.e != 0) = false := by simp [f3]
            have HR2 := Lib.hid (C4.out f1 f2 f3)
            clear C1 C2 C3 C4 f1 f2 f3
            go_wp2_with (first | (go_at_call 47; (with_reducible refine call_later (HM.out _) ?_); intro u1) | (go_at_call 47; (with_reducible refine call_later (HN.out _) ?_); intro u2) | (go_at_call 48; (with_reducible refine call_later (HA.out _) ?_); intro u3) | (with_reducible refine wLr ?_) | (with_reducible refine wLi ?_) | (with_reducible refine wSf ?_))
            go_roundw
            case rel => exact ⟨k + 1, A.s, by go_num, by omega, by rw [← HL.out]; exact HR2, A64, gwr, inferInstance, row_asA inferInstance rfl, inferInstance⟩
            case measure => simp [intOf]; omega
          · have t3 : (A.e != 0) = true := by simp [f3]
            have HR2 := C3.out f1 f2 f3
            subst HR2
            clear C1 C2 C3 C4 f1 f2 f3
            go_wp2_with (first | (go_at_call 47; (with_reducible refine call_later (HM.out _) ?_); intro u1) | (go_at_call 47; (with_reducible refine call_later (HN.out _) ?_); intro u2) | (go_at_call 48; (with_reducible refine call_later (HA.out _) ?_); intro u3) | (with_reducible refine wLr ?_) | (with_reducible refine wLi ?_) | (with_reducible refine wSf ?_))
            refine bodyPost_ret (by (simp [results, Try.results35, go_sem] <;> rfl)) rfl ?_
            exact ⟨rfl, gwr⟩
        · have t2 : (N.e == 0) = false := by simp [f2]
          have t3 : (N.e != 0) = true := by simp [f2]
          have HR2 := C2.out f1 f2
          subst HR2
          clear C1 C2 C3 C4 f1 f2
          go_wp2_with (first | (go_at_call 47; (with_reducible refine call_later (HM.out _) ?_); intro u1) | (go_at_call 47; (with_reducible refine call_later (HN.out _) ?_); intro u2) | (with_reducible refine wLr ?_) | (with_reducible refine wLi ?_) | (with_reducible refine wSf ?_))
          refine bodyPost_ret (by (simp [results, Try.results35, go_sem] <;> rfl)) rfl ?_
          exact ⟨rfl, gwr⟩
      · have t1 : (M.e == 0) = false := by simp [f1]
        have t3 : (M.e != 0) = true := by simp [f1]
        have HR2 := C1.out f1
        subst HR2
        clear C1 C2 C3 C4 f1
        go_wp2_with (first | (go_at_call 47; (with_reducible refine call_later (HM.out _) ?_); intro u1) | (with_reducible refine wLr ?_) | (with_reducible refine wLi ?_) | (with_reducible refine wSf ?_))
        refine bodyPost_ret (by (simp [results, Try.results35, go_sem] <;> rfl)) rfl ?_
        exact ⟨rfl, gwr⟩
    · obtain rfl : k = ps.length := by omega
      rw [List.drop_of_length_le (by rw [List.length_zip]; omega)] at Hs
      have HR2 := Hs.out
      subst HR2
      go_wp2_with (first | (with_reducible refine wLr ?_) | (with_reducible refine wLi ?_) | (with_reducible refine wSf ?_))
      refine bodyPost_ret (by (simp [results, Try.results35, go_sem] <;> rfl)) rfl ?_
      exact ⟨rfl, gwr⟩
/-- A cell's cost, or the error. -/
def costRR (t : TaskV) (ps : List PartV) (pts : List Pt) (ks : List KnobV) : Res := if taskB t ps pts && cellB ps ks then costR ps ks else errR 2
theorem cellB_len {ps : List PartV} {ks : List KnobV} (h : cellB ps ks = true) : ks.length = ps.length := by
  unfold cellB at h
  simp only [Bool.and_eq_true, Bool.not_eq_true', bne_eq_false_iff_eq] at h
  omega
theorem ascCost_any (t : TaskV) (ps : List PartV) (pts : List Pt) (ks : List KnobV) (w : World) (hp : PartsAt w (.slice t.parts.ao t.parts.n t.parts.cap) ps) (hd : SlAt w (.slice t.dens.ao t.dens.n t.dens.cap) pts.length (pts.flatMap Pt.cells)) (ao : Option Addr) (cap : Nat) (hk : SlAt w (.slice ao ks.length cap) ks.length (ks.flatMap KnobV.cells)) (hP : ∀ x ∈ ps, Pa64 x) (hK : ∀ k ∈ ks, Ka64 k) : Calls Try.prog 17 #[.agg t.cells.toArray, .slice ao ks.length cap] w fun e w' => e = .returned (.tuple #[.agg #[.int .i64 (costRR t ps pts ks).s.lo, .int .i64 (costRR t ps pts ks).s.hi], .int .i64 (costRR t ps pts ks).e]) ∧ Grew w w' := by
  have HC := Lib.hid (fun w' (g : Grew w w') => ascCheck_any t ps pts ks w' (hp.grew g) (hd.grew g) ao cap (hk.grew g))
  have HW := Lib.hid (fun w' (g : Grew w w') hl h8 => cost_any t ps ks w' (hp.grew g) ao cap (hk.grew g) hl h8 hP hK)
  have hn := task_n hp
  have h8 := task_8 (t := t) (ps := ps) (pts := pts)
  have hl := cellB_len (ps := ps) (ks := ks)
  unfold costRR
  clear hp hd hk hP hK
  generalize costR ps ks = R at *
  generalize cellB ps ks = c at *
  generalize taskB t ps pts = b at *
  have bad : (b && c) = false → Calls Try.prog 17 #[.agg t.cells.toArray, .slice ao ks.length cap] w fun e w' => e = .returned (.tuple #[.agg #[.int .i64 ((if (b && c) = true then R else errR 2)).s.lo, .int .i64 ((if (b && c) = true then R else errR 2)).s.hi], .int .i64 ((if (b && c) = true then R else errR 2)).e]) ∧ Grew w w' := by
    intro h
    rw [h] at HC ⊢
    rw [show (if false = true then R else errR 2) = errR 2 from rfl]
    go_enter Try.func17, Try.ntmps17
    go_wp2_with (first | (go_at_call 34; (with_reducible refine call_later (is_int rfl (HC.out _ gw)) ?_); intro u) | (with_reducible refine wLi ?_))
    refine bodyPost_ret (by (simp [results, Try.results17, go_sem] <;> rfl)) rfl ?_
    exact ⟨rfl, gw⟩
  cases b
  · exact bad rfl
  cases c
  · exact bad rfl
  · have h9 := (h8 rfl).2
    rw [hn] at h9
    have HW2 := Lib.hid (fun w' g => HW.out w' g (hl rfl) (by omega))
    clear HW hl hn h9 h8
    rw [show (if (true && true) = true then R else errR 2) = R from rfl]
    rw [show (true && true) = true from rfl] at HC
    go_enter Try.func17, Try.ntmps17
    go_wp2_with (first | (go_at_call 34; (with_reducible refine call_later (is_int rfl (HC.out _ gw)) ?_); intro u) | (go_at_call 35; (with_reducible refine call_later (HW2.out _ gw) ?_); intro u) | (with_reducible refine wLi ?_))
    refine bodyPost_ret (by (simp [results, Try.results17, go_sem] <;> rfl)) rfl ?_
    exact ⟨rfl, gw⟩
end Go.Proofs.Ytffbipcdlnfihaa
