/-
  Contracts: flight.calc's mul, div, square; a planet's numbers.
-/
import Derived.Test.YtkeifgcncmilmaaGreatFlightCalcS
import Derived.Test.YtkeifgcncmilmaaGreatSpanDivsS
namespace Go.Proofs.YtkeifgcncmilmaaGreat
open Go.RowKit Go.Shelf
set_option maxRecDepth 100000
set_option maxHeartbeats 8000000
theorem bin_div : BinOk 157 divR := fun w a b _ _ => spDiv_any a b w
theorem cDiv_any (c : Nat) (e : Int) (a b : Sp) [ha : S64 a] [hb : S64 b] (w : World) (hc : w.cell? ⟨c, 0, none⟩ = some (.int .i64 e)) (hf : w.frozen? ⟨c, 0, none⟩ = false) :
    Calls Tryz.prog 122 #[.pointer (some ⟨c, 0, none⟩), .agg #[.int .i64 a.lo, .int .i64 a.hi], .agg #[.int .i64 b.lo, .int .i64 b.hi]] w (RetC c (.agg #[.int .i64 ((doR e (divR a b)).s).lo, .int .i64 ((doR e (divR a b)).s).hi]) (doR e (divR a b)).e w) := by
  have ib : BlockIn w c := BlockIn.of_cell hc
  have hci : HasCell w c 0 := ⟨_, hc⟩
  have Hb := Lib.hid (But.refl hc)
  have Hc := Lib.hid hc
  go_enter Tryz.func122, Tryz.ntmps122
  go_wp2_with (go_at_call 143; refine call_calc (cDo_any 157 divR (enters_of Tryz.func157 (by kernel_rfl) rfl) bin_div c e a b _ (by go_simp) (by go_simp)) ?_; intro u)
  refine bodyPost_ret (by (simp [results, Tryz.results122, go_sem] <;> rfl)) rfl ?_
  exact ⟨rfl, But.out (by repeat (first | with_reducible exact Hb.out | with_reducible apply But.alloc | with_reducible apply But.later | with_reducible apply But.drew | with_reducible apply But.put | with_reducible apply But.store)) Hc.out (by go_simp)⟩
theorem bin_mul : BinOk 159 mulR := fun w a b _ _ => spMul_any a b w
theorem cMul_any (c : Nat) (e : Int) (a b : Sp) [ha : S64 a] [hb : S64 b] (w : World) (hc : w.cell? ⟨c, 0, none⟩ = some (.int .i64 e)) (hf : w.frozen? ⟨c, 0, none⟩ = false) :
    Calls Tryz.prog 118 #[.pointer (some ⟨c, 0, none⟩), .agg #[.int .i64 a.lo, .int .i64 a.hi], .agg #[.int .i64 b.lo, .int .i64 b.hi]] w (RetC c (.agg #[.int .i64 ((doR e (mulR a b)).s).lo, .int .i64 ((doR e (mulR a b)).s).hi]) (doR e (mulR a b)).e w) := by
  have ib : BlockIn w c := BlockIn.of_cell hc
  have hci : HasCell w c 0 := ⟨_, hc⟩
  have Hb := Lib.hid (But.refl hc)
  have Hc := Lib.hid hc
  go_enter Tryz.func118, Tryz.ntmps118
  go_wp2_with (go_at_call 143; refine call_calc (cDo_any 159 mulR (enters_of Tryz.func159 (by kernel_rfl) rfl) bin_mul c e a b _ (by go_simp) (by go_simp)) ?_; intro u)
  refine bodyPost_ret (by (simp [results, Tryz.results118, go_sem] <;> rfl)) rfl ?_
  exact ⟨rfl, But.out (by repeat (first | with_reducible exact Hb.out | with_reducible apply But.alloc | with_reducible apply But.later | with_reducible apply But.drew | with_reducible apply But.put | with_reducible apply But.store)) Hc.out (by go_simp)⟩
theorem cSquare_any (c : Nat) (e : Int) (a : Sp) [ha : S64 a] (w : World) (hc : w.cell? ⟨c, 0, none⟩ = some (.int .i64 e)) (hf : w.frozen? ⟨c, 0, none⟩ = false) :
    Calls Tryz.prog 173 #[.pointer (some ⟨c, 0, none⟩), .agg #[.int .i64 a.lo, .int .i64 a.hi]] w (RetC c (.agg #[.int .i64 ((doR e (squareR a)).s).lo, .int .i64 ((doR e (squareR a)).s).hi]) (doR e (squareR a)).e w) := by
  have ib : BlockIn w c := BlockIn.of_cell hc
  have hci : HasCell w c 0 := ⟨_, hc⟩
  have Hb := Lib.hid (But.refl hc)
  have Hc := Lib.hid hc
  go_enter Tryz.func173, Tryz.ntmps173
  go_wp2_with (first | (go_at_call 151; (with_reducible refine call_later (spSquare_any a _) ?_); intro u) | (go_at_call 144; refine call_calc (cKeep_any c e (squareR a) _ (by go_simp) (by go_simp)) ?_; intro u))
  refine bodyPost_ret (by (simp [results, Tryz.results173, go_sem] <;> rfl)) rfl ?_
  exact ⟨rfl, But.out (by repeat (first | with_reducible exact Hb.out | with_reducible apply But.alloc | with_reducible apply But.later | with_reducible apply But.drew | with_reducible apply But.put | with_reducible apply But.store)) Hc.out (by go_simp)⟩
/-- A call that leaves the calculation as it is. -/
theorem retc_of {P : Program} {f : FuncId} {args : Array Value} {w : World} {c : Nat} {e : Int} {v : Value} (h : Calls P f args w fun en w' => en = .returned v ∧ Grew w w') (hc : w.cell? ⟨c, 0, none⟩ = some (.int .i64 e)) : Calls P f args w (RetC c v e w) :=
  h.mono fun _ w' ⟨he, g⟩ => ⟨he, ⟨w', g⟩, (setCell_same (g.cell hc)).symm⟩
class Pl64 (p : Planet) : Prop where
  mu : S64 p.mu
  radius : S64 p.radius
  oblate : S64 p.oblate
  spin : S64 p.spin
  pull : B64 p.pull
instance pl64_mu (p : Planet) [h : Pl64 p] : S64 p.mu := h.mu
instance pl64_radius (p : Planet) [h : Pl64 p] : S64 p.radius := h.radius
instance pl64_oblate (p : Planet) [h : Pl64 p] : S64 p.oblate := h.oblate
instance pl64_spin (p : Planet) [h : Pl64 p] : S64 p.spin := h.spin
instance pl64_pull (p : Planet) [h : Pl64 p] : B64 p.pull := h.pull
end Go.Proofs.YtkeifgcncmilmaaGreat
