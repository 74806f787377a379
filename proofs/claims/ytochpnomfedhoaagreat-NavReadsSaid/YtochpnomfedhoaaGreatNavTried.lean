/-
  Contract of nav.tried: what is done may end with an error.
-/
import Derived.Test.YtochpnomfedhoaaGreatBase
import Derived.Test.YtochpnomfedhoaaGreatProg
import Derived.Defers
import Derived.Recover
import Derived.ProofKit
namespace Go.Proofs.YtochpnomfedhoaaGreat
open Go.RowKit
set_option maxRecDepth 100000
set_option maxHeartbeats 4000000
theorem catch_idle (p : Addr) (w : World) : CallsD Tryz.prog 70 #[.pointer (some p)] .returning w fun e u' w' => e = .returned (.tuple #[]) ∧ u' = .returning ∧ w' = w := by
  refine callsD_of_wpS Tryz.func70 rfl fun c₀ cs hu => ?_
  apply wpS_seq
  apply wpS_region
  simp [wpOpsS, go_sem, recoverD, hu, Tryz.ntmps70, Exit.thenS]
  refine wpS_of_wp ?_
  go_wp2
  cases c₀
  simp_all [bodyPostS, results, Tryz.results70]
theorem is_stop (v : Value) (xT : TypeId) (w : World) : (Instr.typeAssert (.iface 104 v) xT 104 true).run Tryz.prog w = .ok (.tuple #[v, .bool true]) w := by kernel_rfl
theorem catch_stop (b : Nat) (c x : Int) (w : World) (hc : w.cell? ⟨b, 0, none⟩ = some (.int .i64 x)) (hf : w.frozen? ⟨b, 0, none⟩ = false) : CallsD Tryz.prog 70 #[.pointer (some ⟨b, 0, none⟩)] (.panicking [{ v := .iface 104 (.agg #[.int .i64 c]), recovered := false }]) w fun e u' w' =>
    e = .returned (.tuple #[]) ∧ u' = .panicking [{ v := .iface 104 (.agg #[.int .i64 c]), recovered := true }] ∧ w' = (w.alloc (.cells #[.int .i64 c] 104)).setCell ⟨b, 0, none⟩ (.int .i64 c) := by
  have hst := is_stop
  have ib : BlockIn w b := BlockIn.of_cell hc
  refine callsD_of_wpS Tryz.func70 rfl fun c₀ cs hu => ?_
  apply wpS_seq
  apply wpS_region
  simp [wpOpsS, go_sem, recoverD, hu, Tryz.ntmps70, Exit.thenS]
  refine wpS_of_wp ?_
  go_wp2
  exact ⟨rfl, _, rfl, .tuple #[], results_none rfl _ _ _, rfl, rfl, rfl⟩
/-- A cut ends with its error. -/
abbrev StopEnd (c : Int) : Ending := .panicked [{ v := .iface 104 (.agg #[.int .i64 c]), recovered := false }]
/-- The world behind a trial, out of that behind what was tried. -/
def triedW (b : Nat) (o : Option Int) (w' : World) : World :=
  match o with
  | none => w'.setCell ⟨b, 0, none⟩ (.int .i64 0)
  | some c => (w'.alloc (.cells #[.int .i64 c] 104)).setCell ⟨b, 0, none⟩ (.int .i64 c)
/-- What is tried ends in one of two ways. -/
def Ends (w0 : World) (Q : Option Int → World → Prop) (e : Ending) (w' : World) : Prop :=
  ((e = .returned (.tuple #[]) ∧ Q none w') ∨ ∃ c, e = StopEnd c ∧ Q (some c) w') ∧ w'.cell? ⟨w0.heap.size, 0, none⟩ = some (.int .i64 0) ∧ w'.frozen? ⟨w0.heap.size, 0, none⟩ = false
end Go.Proofs.YtochpnomfedhoaaGreat
