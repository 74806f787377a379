/-
  Contracts: ullagelaw04.point, ascent.units, ascent.partial.
-/
import Derived.Test.YtffbipcdlnfihaaFlightOks
import Derived.Test.YtffbipcdlnfihaaRowMid
import Derived.Test.YtffbipcdlnfihaaRow
import Derived.Deep.DeepCutAuto
namespace Go.Proofs.Ytffbipcdlnfihaa
open Go.RowKit
set_option maxRecDepth 100000
set_option maxHeartbeats 8000000
set_option linter.unusedSimpArgs false
theorem l4Point_any (n : Int) (w : World) : Calls Try.prog 31 #[.int .i64 n] w fun e w' => e = .returned (.agg #[.int .i64 n, .int .i64 n]) ∧ Grew w w' := by
  go_enter Try.func31, Try.ntmps31
  go_wp2
  refine bodyPost_ret (by (simp [results, Try.results31, go_sem] <;> rfl)) rfl ?_
  exact ⟨rfl, gw⟩
theorem ascUnits_any (w : World) : Calls Try.prog 41 #[] w fun e w' => e = .returned (.agg #[.int .i64 (-4294967296), .int .i64 4294967296]) ∧ Grew w w' := by
  go_enter Try.func41, Try.ntmps41
  go_wp2
  refine bodyPost_ret (by (simp [results, Try.results41, go_sem] <;> rfl)) rfl ?_
  exact ⟨rfl, gw⟩
theorem row_asA {W : World} {b : Nat} {t : TypeId} {l l' : List Value} (h : RowIs W b t l) (e : l = l') : RowIs W b t l' := e ▸ h
def zeroB : Bx := ⟨⟨0, 0⟩, ⟨0, 0⟩, ⟨0, 0⟩⟩
/-- Is a part valid? -/
def partialB (a : Arc) (l : List Pt) (p q : Sp) : Bool := (p.inB ⟨-4294967296, 4294967296⟩ && q.inB ⟨0, 4294967296⟩) && ({ a with dir := zeroB } : Arc).okB l
instance : StructTy 72 15 := ⟨⟨_, Try.underlying72, rfl⟩, by kernel_rfl⟩
instance : StructTy 74 19 := ⟨⟨_, Try.underlying74, rfl⟩, by kernel_rfl⟩
/-- A whole struct is read under a guard that is met. -/
theorem wLgA {ops : Array Oper} {rest : List Oper} {o : Oper} {a : Act} {w : World} {Q : Exit → Act → World → Prop} {ty : TypeId} {x : Operand} {b n : Nat} {t : TypeId} {l : List Value} (k : wpList Try.prog ops Q rest (a.put o.dst (.agg l.toArray)) w) (hw : Region.wanted o (yielded ops a.tmps) = true := by with_unfolding_all rfl) (ho : o.op = .load ty x := by with_unfolding_all rfl) (hx : a.eval x = .pointer (some ⟨b, 0, none⟩) := by with_unfolding_all rfl) (hs : StructTy ty n := by infer_instance) (hr : RowIs w b t l := by infer_instance) (hl : l.length = n := by with_unfolding_all rfl) : wpList Try.prog ops Q (o :: rest) a w := by
  unfold wpList
  rw [if_pos hw]
  refine .inl ?_
  obtain ⟨⟨d, hd1, hd2⟩, hz⟩ := hs
  have hc : w.rangeAt b 0 l := fun i v hv => by rw [Nat.zero_add, cell_rowIs, hv]
  exact wp_load_mid ty x ho b 0 hx l d hc hd1 (by cases d <;> first | rfl | cases hd2) (by rw [hz, ← hl]) k
theorem partial_any (a : Arc) (l : List Pt) (p q : Sp) (w : World) (hd : DragAt w a l) : Calls Try.prog 43 #[.agg #[.int .i64 a.time, .int .i64 a.step, .int .i64 a.thrust.lo, .int .i64 a.thrust.hi, .int .i64 a.flow.lo, .int .i64 a.flow.hi, .int .i64 a.dir.x.lo, .int .i64 a.dir.x.hi, .int .i64 a.dir.y.lo, .int .i64 a.dir.y.hi, .int .i64 a.dir.z.lo, .int .i64 a.dir.z.hi, .slice a.drag.ao a.drag.n a.drag.cap, .int .i64 a.drop.lo, .int .i64 a.drop.hi, .int .i64 p.lo, .int .i64 p.hi, .int .i64 q.lo, .int .i64 q.hi]] w fun e w' => e = .returned (.bool (partialB a l p q)) ∧ Grew w w' := by
  obtain ⟨a', ha'⟩ : ∃ a' : Arc, a' = { a with dir := zeroB } := ⟨_, rfl⟩
  have HA := Lib.hid (fun w' (g : Grew w w') => show Calls Try.prog 57 #[.agg #[.int .i64 a.time, .int .i64 a.step, .int .i64 a.thrust.lo, .int .i64 a.thrust.hi, .int .i64 a.flow.lo, .int .i64 a.flow.hi, .int .i64 0, .int .i64 0, .int .i64 0, .int .i64 0, .int .i64 0, .int .i64 0, .slice a.drag.ao a.drag.n a.drag.cap, .int .i64 a.drop.lo, .int .i64 a.drop.hi]] w' (fun e w'' => e = .returned (.int .i64 (codeB (a'.okB l) 2)) ∧ Grew w' w'') from by
    rw [ha']
    exact flArc_any ({ a with dir := zeroB } : Arc) l w' (hd.grew g))
  have H1 := Lib.hid (fun w' => spWithin_any p ⟨-4294967296, 4294967296⟩ w')
  have H2 := Lib.hid (fun w' => spWithin_any q ⟨0, 4294967296⟩ w')
  have HR := Lib.hid (show partialB a l p q = ((p.inB ⟨-4294967296, 4294967296⟩ && q.inB ⟨0, 4294967296⟩) && a'.okB l) by rw [ha']; rfl)
  clear hd ha'
  generalize partialB a l p q = R at *
  generalize a'.okB l = ok at *
  go_enter Try.func43, Try.ntmps43
  go_upto_region 3 with (first | (with_reducible refine wLr ?_) | (with_reducible refine wLi ?_) | (with_reducible refine wSf ?_) | (with_reducible refine wSi ?_))
  refine wp_to_later (z := w) gw ?_
  intro W hW
  have rP : RowIs W.world w.heap.size 74 [.int .i64 a.time, .int .i64 a.step, .int .i64 a.thrust.lo, .int .i64 a.thrust.hi, .int .i64 a.flow.lo, .int .i64 a.flow.hi, .int .i64 a.dir.x.lo, .int .i64 a.dir.x.hi, .int .i64 a.dir.y.lo, .int .i64 a.dir.y.hi, .int .i64 a.dir.z.lo, .int .i64 a.dir.z.hi, .slice a.drag.ao a.drag.n a.drag.cap, .int .i64 a.drop.lo, .int .i64 a.drop.hi, .int .i64 p.lo, .int .i64 p.hi, .int .i64 q.lo, .int .i64 q.hi] := by rw [hW]; infer_instance
  have rA : RowIs W.world (w.heap.size + 1) 72 [.int .i64 a.time, .int .i64 a.step, .int .i64 a.thrust.lo, .int .i64 a.thrust.hi, .int .i64 a.flow.lo, .int .i64 a.flow.hi, .int .i64 0, .int .i64 0, .int .i64 0, .int .i64 0, .int .i64 0, .int .i64 0, .slice a.drag.ao a.drag.n a.drag.cap, .int .i64 a.drop.lo, .int .i64 a.drop.hi] := by
    rw [hW]
    exact row_asA inferInstance rfl
  clear hW
  have iP := rP.blockIn
  have iA := rA.blockIn
  rcases chain3 (p.inB ⟨-4294967296, 4294967296⟩) (q.inB ⟨0, 4294967296⟩) ok with h | ⟨h, k⟩ | ⟨h, k, m⟩ | ⟨h, k, m⟩
  all_goals
    (try rw [h] at H1 HR)
    (try rw [k] at H2 HR)
    (try rw [m] at HA HR)
    go_wp2_with (first | (go_at_call 41; (with_reducible refine call_later (ascUnits_any _) ?_); intro u) | (go_at_call 40; (with_reducible refine call_later (H1.out _) ?_); intro u) | (go_at_call 40; (with_reducible refine call_later (H2.out _) ?_); intro u) | (go_at_call 57; (with_reducible refine call_later (HA.out _ (W.grew.trans gwr)) ?_); intro u) | (with_reducible refine wLr ?_) | (with_reducible refine wLi ?_) | ((with_reducible refine wp_region_later ?_ ?_ ?_); (· kernel_rfl); (· kernel_rfl); (try simp only [List.append_eq, List.cons_append, List.nil_append]); (repeat (go_big_quiet_step ((first | (go_at_call 41; (with_reducible exact call_quiet (ascUnits_any _))) | (go_at_call 40; (with_reducible exact call_quiet (H1.out _))) | (go_at_call 40; (with_reducible exact call_quiet (H2.out _))) | (go_at_call 57; (with_reducible exact call_quiet (HA.out _ (W.grew.trans gwr)))))))); refine wpQuiet_nil ?_; rintro _ ⟨u, rfl⟩))
    go_ret
    exact ⟨by rw [HR.out]; rfl, W.grew.trans gwr⟩
theorem checkOdd_any (a : Arc) (l : List Pt) (p q : Sp) (w : World) (hd : DragAt w a l) : Calls Try.prog 42 #[.agg [.int .i64 a.time, .int .i64 a.step, .int .i64 a.thrust.lo, .int .i64 a.thrust.hi, .int .i64 a.flow.lo, .int .i64 a.flow.hi, .int .i64 a.dir.x.lo, .int .i64 a.dir.x.hi, .int .i64 a.dir.y.lo, .int .i64 a.dir.y.hi, .int .i64 a.dir.z.lo, .int .i64 a.dir.z.hi, .slice a.drag.ao a.drag.n a.drag.cap, .int .i64 a.drop.lo, .int .i64 a.drop.hi, .int .i64 p.lo, .int .i64 p.hi, .int .i64 q.lo, .int .i64 q.hi].toArray] w fun e w' => e = .returned (.bool (!partialB a l p q)) ∧ Grew w w' := by
  have H := Lib.hid (fun w' (g : Grew w w') => show Calls Try.prog 43 #[.agg [.int .i64 a.time, .int .i64 a.step, .int .i64 a.thrust.lo, .int .i64 a.thrust.hi, .int .i64 a.flow.lo, .int .i64 a.flow.hi, .int .i64 a.dir.x.lo, .int .i64 a.dir.x.hi, .int .i64 a.dir.y.lo, .int .i64 a.dir.y.hi, .int .i64 a.dir.z.lo, .int .i64 a.dir.z.hi, .slice a.drag.ao a.drag.n a.drag.cap, .int .i64 a.drop.lo, .int .i64 a.drop.hi, .int .i64 p.lo, .int .i64 p.hi, .int .i64 q.lo, .int .i64 q.hi].toArray] w' (fun e w'' => e = .returned (.bool (partialB a l p q)) ∧ Grew w' w'') from partial_any a l p q w' (hd.grew g))
  clear hd
  generalize partialB a l p q = R at *
  go_enter Try.func42, Try.ntmps42
  go_wp2_with (first | (go_at_call 43; (with_reducible refine call_later (H.out _ gw) ?_); intro u) | (with_reducible refine wLi ?_))
  go_ret
  exact ⟨rfl, gw⟩
end Go.Proofs.Ytffbipcdlnfihaa
