/-
  Contracts: ascent.check.
-/
import Derived.Test.YtffbipcdlnfihaaAscE
namespace Go.Proofs.Ytffbipcdlnfihaa
open Go.RowKit Go.Shelf
set_option maxRecDepth 100000
set_option maxHeartbeats 8000000
set_option linter.unusedSimpArgs false
def inC (z : PartV × KnobV) : Bool := z.2.p.inB z.1.p && z.2.q.inB z.1.q
/-- Is it a cell of a task? -/
def cellB (ps : List PartV) (ks : List KnobV) : Bool := !((ks.length : Int) != ps.length) && (ps.zip ks).all inC
theorem ascCheck_any (t : TaskV) (ps : List PartV) (pts : List Pt) (ks : List KnobV) (w : World) (hp : PartsAt w (.slice t.parts.ao t.parts.n t.parts.cap) ps) (hd : SlAt w (.slice t.dens.ao t.dens.n t.dens.cap) pts.length (pts.flatMap Pt.cells)) (ao : Option Addr) (cap : Nat) (hk : SlAt w (.slice ao ks.length cap) ks.length (ks.flatMap KnobV.cells)) : Calls Try.prog 34 #[.agg t.cells.toArray, .slice ao ks.length cap] w fun e w' => e = .returned (.int .i64 (codeB (taskB t ps pts && cellB ps ks) 2)) ∧ Grew w w' := by
  have HC := Lib.hid (fun w' (g : Grew w w') => checkTask_any t ps pts w' (hp.grew g) (hd.grew g))
  have hn := task_n hp
  have h8 := task_8 (t := t) (ps := ps) (pts := pts)
  obtain ⟨⟨ao1, cap1, e1, hm, hc⟩, -⟩ := hp
  obtain ⟨ao2, cap2, e2, hm2, hc2⟩ := hk
  cases e2
  have HE := Lib.hid (SlAt.elem (f := PartV.cells) (c := 19) (fun _ => rfl) (by omega) hc)
  have HK := Lib.hid (SlAt.elem (f := KnobV.cells) (c := 4) (fun _ => rfl) (by omega) hc2)
  clear hc hc2 hd
  have c41 : t.cells[41]? = some (.slice t.parts.ao t.parts.n t.parts.cap) := rfl
  rw [e1] at c41
  clear e1
  unfold maxLen at hm hm2
  obtain ⟨R, hR⟩ : ∃ R, R = codeB (taskB t ps pts && cellB ps ks) 2 := ⟨_, rfl⟩
  rw [← hR]
  have HR := Lib.hid hR
  clear hR
  unfold cellB at HR
  generalize taskB t ps pts = b at *
  cases b
  · go_enter Try.func34, Try.ntmps34
    go_wp2_with (first | (go_at_call 32; (with_reducible refine call_later (is_int rfl (HC.out _ gw)) ?_); intro u) | (with_reducible refine wLi ?_) | ((with_reducible refine wp_region_later ?_ ?_ ?_); (· kernel_rfl); (· kernel_rfl); (try simp only [List.append_eq, List.cons_append, List.nil_append]); (repeat (go_big_quiet_step ((first | (go_at_call 32; (with_reducible exact call_quiet (is_int rfl (HC.out _ gw)))))))); refine wpQuiet_nil ?_; rintro _ ⟨u, rfl⟩))
    go_ret
    exact ⟨ret_int HR.out.symm, gw⟩
  have h9 := h8 rfl
  rw [hn] at h9
  clear h8 hn
  obtain ⟨c, hc⟩ : ∃ c, c = ((ks.length : Int) != ps.length) := ⟨_, rfl⟩
  rw [← hc] at HR
  cases c
  · have hl : ks.length = ps.length := by
      have := hc.symm
      simp at this
      omega
    rw [hl] at hm2
    clear hc
    go_enter Try.func34, Try.ntmps34
    rw [hl]
    go_wp2_with (first | (go_at_call 32; (with_reducible refine call_later (is_int rfl (HC.out _ gw)) ?_); intro u1) | (with_reducible refine wLi ?_))
    refine wp_to_later (z := w) gw ?_
    intro y hy
    have rT : RowIs y.world w.heap.size 50 t.cells := by rw [hy]; infer_instance
    have iT := rT.blockIn
    clear hy
    go_loopw [22] (fun j wr => ∃ (k : Nat), j = .int .i64 k ∧ k ≤ ps.length ∧ Hid ((ps.zip ks).all inC = ((ps.zip ks).drop k).all inC) ∧ Grew y.world wr) (fun j _ => ps.length - (intOf j).toNat)
    case atStart => exact ⟨0, rfl, by omega, Lib.hid rfl, gw⟩
    case round =>
      obtain ⟨k, rfl, hk, Hs, hg⟩ := hrel
      obtain ⟨z, rfl⟩ := later_of hg
      clear hg
      by_cases hlt : k < ps.length
      · obtain ⟨b1, o1, e1, i1, -, hd2⟩ := HE.out k hlt
        cases e1
        have j1 : BlockIn w b1 := ⟨i1⟩
        obtain ⟨b2, o2, e2, i2, -, hd4⟩ := HK.out k (by omega)
        cases e2
        have j2 : BlockIn w b2 := ⟨i2⟩
        have hz : k < (ps.zip ks).length := by simp; omega
        have Hd : ((ps.zip ks).drop k).all inC = (inC (ps[k], ks[k]) && ((ps.zip ks).drop (k + 1)).all inC) := by rw [List.drop_eq_getElem_cons hz, List.all_cons, List.getElem_zip]
        have f15 : w.cell? ⟨b1, o1 + k * 19 + 15, none⟩ = some (.int .i64 ps[k].p.lo) := hd2 15 _ rfl
        have f16 : w.cell? ⟨b1, o1 + k * 19 + 15 + 1, none⟩ = some (.int .i64 ps[k].p.hi) := hd2 16 _ rfl
        have f17 : w.cell? ⟨b1, o1 + k * 19 + 17, none⟩ = some (.int .i64 ps[k].q.lo) := hd2 17 _ rfl
        have f18 : w.cell? ⟨b1, o1 + k * 19 + 17 + 1, none⟩ = some (.int .i64 ps[k].q.hi) := hd2 18 _ rfl
        have rk : RangeIs w b2 (o2 + k * 4) 4 [.int .i64 ks[k].p.lo, .int .i64 ks[k].p.hi, .int .i64 ks[k].q.lo, .int .i64 ks[k].q.hi] := ⟨fun j v hv => hd4 j v hv, rfl⟩
        clear hd2 hd4
        generalize ps[k] = x at *
        generalize ks[k]'(by omega) = c at *
        have HP := Lib.hid (fun w => spWithin_any c.p x.p w)
        have HQ := Lib.hid (fun w => spWithin_any c.q x.q w)
        have HI : inC (x, c) = (c.p.inB x.p && c.q.inB x.q) := rfl
        rw [HI] at Hd
        have Hs := Lib.hid (Hs.out.trans Hd)
        clear HI Hd hz
        obtain ⟨rest, hrest⟩ : ∃ rest, ((ps.zip ks).drop (k + 1)).all inC = rest := ⟨_, rfl⟩
        rw [hrest] at Hs
        have Hrest := Lib.hid hrest
        clear hrest
        rcases chain2 (c.p.inB x.p) (c.q.inB x.q) with h | ⟨h, m⟩ | ⟨h, m⟩
        · rw [h] at HP Hs
          rw [Hs.out] at HR
          clear Hs
          go_wp2_with (first | (go_at_call 40; (with_reducible refine call_later (HP.out _) ?_); intro u) | (go_at_call 40; (with_reducible refine call_later (HQ.out _) ?_); intro u) | (with_reducible refine wLr ?_) | (with_reducible refine wLi ?_) | (with_reducible refine wSf ?_) | (with_reducible refine wLgR ?_) | ((with_reducible refine wp_region_later ?_ ?_ ?_); (· kernel_rfl); (· kernel_rfl); (try simp only [List.append_eq, List.cons_append, List.nil_append]); (repeat (go_big_quiet_step ((first | (go_at_call 40; (with_reducible exact call_quiet (HP.out _))) | (go_at_call 40; (with_reducible exact call_quiet (HQ.out _))))))); refine wpQuiet_nil ?_; rintro _ ⟨u, rfl⟩))
          go_ret
          exact ⟨ret_int HR.out.symm, gw⟩
        · rw [h] at HP Hs
          rw [m] at HQ Hs
          rw [Hs.out] at HR
          clear Hs
          go_wp2_with (first | (go_at_call 40; (with_reducible refine call_later (HP.out _) ?_); intro u) | (go_at_call 40; (with_reducible refine call_later (HQ.out _) ?_); intro u) | (with_reducible refine wLr ?_) | (with_reducible refine wLi ?_) | (with_reducible refine wSf ?_) | (with_reducible refine wLgR ?_) | ((with_reducible refine wp_region_later ?_ ?_ ?_); (· kernel_rfl); (· kernel_rfl); (try simp only [List.append_eq, List.cons_append, List.nil_append]); (repeat (go_big_quiet_step ((first | (go_at_call 40; (with_reducible exact call_quiet (HP.out _))) | (go_at_call 40; (with_reducible exact call_quiet (HQ.out _))))))); refine wpQuiet_nil ?_; rintro _ ⟨u, rfl⟩))
          go_ret
          exact ⟨ret_int HR.out.symm, gw⟩
        · rw [h] at HP Hs
          rw [m] at HQ Hs
          go_wp2_with (first | (go_at_call 40; (with_reducible refine call_later (HP.out _) ?_); intro u) | (go_at_call 40; (with_reducible refine call_later (HQ.out _) ?_); intro u) | (with_reducible refine wLr ?_) | (with_reducible refine wLi ?_) | (with_reducible refine wSf ?_) | (with_reducible refine wLgR ?_) | ((with_reducible refine wp_region_later ?_ ?_ ?_); (· kernel_rfl); (· kernel_rfl); (try simp only [List.append_eq, List.cons_append, List.nil_append]); (repeat (go_big_quiet_step ((first | (go_at_call 40; (with_reducible exact call_quiet (HP.out _))) | (go_at_call 40; (with_reducible exact call_quiet (HQ.out _))))))); refine wpQuiet_nil ?_; rintro _ ⟨u, rfl⟩))
          go_roundw
          case rel => exact ⟨k + 1, by go_num, by omega, Lib.hid (Hs.out.trans Hrest.out.symm), gw⟩
          case measure => simp [intOf]; omega
      · obtain rfl : k = ps.length := by omega
        rw [List.drop_of_length_le (by rw [List.length_zip]; omega)] at Hs
        rw [Hs.out] at HR
        go_wp2
        go_ret
        exact ⟨ret_int HR.out.symm, gw⟩
  · replace hc := hc.symm
    go_enter Try.func34, Try.ntmps34
    go_wp2_with (first | (go_at_call 32; (with_reducible refine call_later (is_int rfl (HC.out _ gw)) ?_); intro u) | (with_reducible refine wLi ?_) | ((with_reducible refine wp_region_later ?_ ?_ ?_); (· kernel_rfl); (· kernel_rfl); (try simp only [List.append_eq, List.cons_append, List.nil_append]); (repeat (go_big_quiet_step ((first | (go_at_call 32; (with_reducible exact call_quiet (is_int rfl (HC.out _ gw)))))))); refine wpQuiet_nil ?_; rintro _ ⟨u, rfl⟩))
    go_ret
    exact ⟨ret_int HR.out.symm, gw⟩
end Go.Proofs.Ytffbipcdlnfihaa
