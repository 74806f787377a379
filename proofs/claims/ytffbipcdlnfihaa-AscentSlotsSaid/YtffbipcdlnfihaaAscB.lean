/-
  Contracts: slices.IndexFunc, slices.ContainsFunc at the parts of an ascent's task.
-/
import Derived.Test.YtffbipcdlnfihaaAscA
import Derived.Test.YtffbipcdlnfihaaEvers
namespace Go.Proofs.Ytffbipcdlnfihaa
open Go.RowKit
set_option maxRecDepth 100000
set_option maxHeartbeats 8000000
set_option linter.unusedSimpArgs false
/-- A part of a task: its arc, the points of the arc's table, its ranges. -/
structure PartV where
  a : Arc
  l : List Pt
  p : Sp
  q : Sp
def PartV.cells (x : PartV) : List Value := [.int .i64 x.a.time, .int .i64 x.a.step, .int .i64 x.a.thrust.lo, .int .i64 x.a.thrust.hi, .int .i64 x.a.flow.lo, .int .i64 x.a.flow.hi, .int .i64 x.a.dir.x.lo, .int .i64 x.a.dir.x.hi, .int .i64 x.a.dir.y.lo, .int .i64 x.a.dir.y.hi, .int .i64 x.a.dir.z.lo, .int .i64 x.a.dir.z.hi, .slice x.a.drag.ao x.a.drag.n x.a.drag.cap, .int .i64 x.a.drop.lo, .int .i64 x.a.drop.hi, .int .i64 x.p.lo, .int .i64 x.p.hi, .int .i64 x.q.lo, .int .i64 x.q.hi]
def PartV.okB (x : PartV) : Bool := partialB x.a x.l x.p x.q
def PartsAt (w : World) (v : Value) (ps : List PartV) : Prop := SlAt w v ps.length (ps.flatMap PartV.cells) ∧ ∀ x ∈ ps, DragAt w x.a x.l
theorem PartsAt.grew {w w' : World} {v : Value} {ps : List PartV} (h : PartsAt w v ps) (g : Grew w w') : PartsAt w' v ps := ⟨h.1.grew g, fun x hx => (h.2 x hx).grew g⟩
theorem idxPart_any (ps : List PartV) (v : Value) (w : World) (h : PartsAt w v ps) :
    Calls Try.prog 59 #[v, .func (.func 42) #[] #[]] w fun e w' => e = .returned (.int .i64 (idxGo (fun x : PartV => !x.okB) 0 ps)) ∧ Grew w w' := by
  obtain ⟨⟨ao, cap, rfl, hm, hc⟩, hD⟩ := h
  unfold maxLen at hm
  have HE := Lib.hid (SlAt.elem (f := PartV.cells) (c := 19) (fun _ => rfl) (by omega) hc)
  have HD := Lib.hid hD
  clear hc hD
  go_enter Try.func59, Try.ntmps59
  go_wp2
  go_loopw [8] (fun t wr => ∃ k : Nat, t = .int .i64 k ∧ k ≤ ps.length ∧ Hid (idxGo (fun x : PartV => !x.okB) 0 ps = idxGo (fun x : PartV => !x.okB) k (ps.drop k)) ∧ Grew w wr) (fun t _ => ps.length - (intOf t).toNat)
  case atStart => exact ⟨0, rfl, by omega, Lib.hid rfl, gw⟩
  case round =>
    obtain ⟨k, rfl, hk, Hs, hg⟩ := hrel
    obtain ⟨x, rfl⟩ := later_of hg
    clear hg
    by_cases hlt : k < ps.length
    · obtain ⟨b1, o1, rfl, i1, hd1, hd2⟩ := HE.out k hlt
      have rg : RangeIs w b1 (o1 + k * 19) 19 ps[k].cells := ⟨fun j v hv => hd2 j v hv, rfl⟩
      have i1 : BlockIn w b1 := ⟨i1⟩
      clear hd1 hd2
      have Hd := Lib.hid (idxGo_drop (fun x : PartV => !x.okB) ps k hlt)
      have hD := HD.out _ (List.getElem_mem hlt)
      generalize ps[k] = y at *
      have HC := Lib.hid (fun w (g : Grew _ w) => show Calls Try.prog 42 #[.agg y.cells.toArray] w fun e w' => e = .returned (.bool (!y.okB)) ∧ Grew w w' from checkOdd_any y.a y.l y.p y.q w (hD.grew g))
      cases hy : y.okB
      · rw [hy] at HC
        have Hn := Lib.hid (Hs.out.trans (Hd.out.trans (if_pos (by simp [hy]))))
        clear hy
        go_wp2_with (first | (go_at_call 42; (with_reducible refine call_later (HC.out _ gw) ?_); intro u) | (with_reducible refine wLr ?_))
        go_ret
        exact ⟨ret_int Hn.out.symm, gw⟩
      · rw [hy] at HC
        have Hn := Lib.hid (Hs.out.trans (Hd.out.trans (if_neg (by simp [hy]))))
        clear hy
        go_wp2_with (first | (go_at_call 42; (with_reducible refine call_later (HC.out _ gw) ?_); intro u) | (with_reducible refine wLr ?_))
        go_roundw
        case rel => exact ⟨k + 1, by go_num, by omega, Hn, gw⟩
        case measure => simp [intOf]; omega
    · have Hn := Lib.hid (Hs.out.trans (idxGo_end (fun x : PartV => !x.okB) ps k (by omega)))
      go_wp2
      go_ret
      exact ⟨ret_int Hn.out.symm, gw⟩
theorem containsPart_any (ps : List PartV) (v : Value) (w : World) (h : PartsAt w v ps) :
    Calls Try.prog 45 #[v, .func (.func 42) #[] #[]] w fun e w' => e = .returned (.bool (!ps.all PartV.okB)) ∧ Grew w w' := by
  have hb := idxGo_any (fun x : PartV => !x.okB) ps 0
  have hI := idxPart_any ps v w h
  have hall : (!ps.all PartV.okB) = ps.any (fun x => !x.okB) := by rw [all_not_any, Bool.not_not]
  obtain ⟨⟨ao, cap, rfl, -, -⟩, -⟩ := h
  rw [hall]
  generalize idxGo (fun x : PartV => !x.okB) 0 ps = z at *
  have H1 := Lib.hid hb.1
  have HI := Lib.hid hI
  clear hb hI hall
  go_enter Try.func45, Try.ntmps45
  go_wp2_with (first | (go_at_call 59; refine call_later HI.out ?_; intro u))
  go_ret
  exact ⟨ret_bool H1.out, gw⟩
end Go.Proofs.Ytffbipcdlnfihaa
