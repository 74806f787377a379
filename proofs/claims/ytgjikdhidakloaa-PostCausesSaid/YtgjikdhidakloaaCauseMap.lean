/-
  The map of sets that post.Causes has seen: laws at its look-up and its store.
-/
import Derived.Test.YtgjikdhidakloaaCauseLow
import Derived.Maps.Views
import Derived.Maps.OwnOps
import Derived.Maps.OwnSet
import Derived.DeepKeys5
import Derived.RegionTactic
namespace Go.Proofs.Ytgjikdhidakloaa
open Go.RowKit
open Go.Maps (Keyed IsMap)
set_option maxRecDepth 100000
set_option maxHeartbeats 2000000
theorem sn_law : Keyed Try.prog 97 := Maps.int_keyed Try.underlying97
theorem sn_zero (w : World) : (zeroValue 4).run Try.prog w = .ok (.bool false) w := by kernel_rfl
theorem sn_wf (a : Nat) (h : a < 256) : (Lit.int .i64 a).wf = true := WalkArith.wf_i64 (by omega)
theorem sn_key (a : Nat) (h : a < 256) : keyOf Try.prog 97 (.int .i64 a) = some (.int .i64 a) := Maps.keyOf_int_mk Try.underlying97 (sn_wf a h)
def SeenAt (w : World) (b n : Nat) (S : List Nat) : Prop :=
  ∃ D : DataW Unit, w.ownsMap Try.prog 97 (plainElem Try.prog 4) b n D ∧ IsMap D ∧ ∀ a : Nat, a < 256 → D.atKey (.int .i64 a) (.lit (.bool false)) = .lit (.bool (decide (a ∈ S)))
theorem SeenAt.made (w : World) : SeenAt (w.alloc (.map #[] 0)) w.heap.size 0 [] :=
  ⟨_, World.ownsMap_made _ _ _ _, Maps.isMap_empty, fun _ _ => by simp; rfl⟩
theorem SeenAt.kept {w w' : World} {b n : Nat} {S : List Nat} {row : Option Nat} (h : SeenAt w b n S) (g : w.grownBy w' row) (hne : some b ≠ row) : SeenAt w' b n S := by
  obtain ⟨D, h1, h2, h3⟩ := h
  exact ⟨D, h1.kept g hne, h2, h3⟩
theorem SeenAt.lt {w : World} {b n : Nat} {S : List Nat} (h : SeenAt w b n S) : b < w.heap.size := by
  obtain ⟨D, h1, -⟩ := h
  exact h1.lt
theorem SeenAt.grew {w w' : World} {b n : Nat} {S : List Nat} (h : SeenAt w b n S) (g : Grew w w') : SeenAt w' b n S := by
  have hl := h.lt
  obtain ⟨D, ⟨es, clock, hb, r⟩, h2, h3⟩ := h
  exact ⟨D, ⟨es, clock, by rw [Below.block g b hl, hb], r⟩, h2, h3⟩
theorem SeenAt.setCell {w : World} {b n : Nat} {S : List Nat} (h : SeenAt w b n S) (c j : Nat) (x : Value) (hne : b ≠ c) : SeenAt (w.setCell ⟨c, j, none⟩ x) b n S := by
  obtain ⟨D, ⟨es, clock, hb, r⟩, h2, h3⟩ := h
  exact ⟨D, ⟨es, clock, by rw [Below.heap_setCell _ _ _ _ hne, hb], r⟩, h2, h3⟩
theorem SeenAt.none {w : World} {b n : Nat} {S : List Nat} (h : SeenAt w b n S) (i : Nat) : w.cell? ⟨b, i, none⟩ = none := by
  obtain ⟨D, ⟨es, clock, hb, r⟩, h2, h3⟩ := h
  simp [World.cell?, hb]
theorem plain_bool {v : Value} {ps : List MemPlace} {x : Bool} (h : plainElem (H := Unit) Try.prog 4 v = some (.lit (.bool x), ps)) : v = .bool x := by
  unfold plainElem at h
  rw [Try.underlying4] at h
  cases v <;> simp at h
  rw [h.1]
theorem lookup_seen {w : World} {b n : Nat} {S : List Nat} (h : SeenAt w b n S) (a : Nat) (ha : a < 256) :
    (Instr.lookup 94 (.map (some b)) (.int .i64 a) false).run Try.prog w = .ok (.bool (decide (a ∈ S))) w := by
  obtain ⟨D, h1, h2, h3⟩ := h
  obtain ⟨v, ps, hrun, hat⟩ := h1.lookup sn_law Try.underlying94 (sn_zero w) (plainElem_bool Try.underlying4 false) (sn_key a ha)
  rw [h3 a ha] at hat
  rw [hrun, plain_bool hat]
theorem update_seen {w : World} {b n : Nat} {S : List Nat} (h : SeenAt w b n S) (hn : n < 1099511627776) (a : Nat) (ha : a < 256) :
    ∃ w', (Instr.mapUpdate 94 (.map (some b)) (.int .i64 a) (.bool true)).run Try.prog w = .ok () w' ∧ SeenAt w' b (n + 1) (a :: S) ∧ w.grownBy w' (some b) := by
  obtain ⟨D, h1, h2, h3⟩ := h
  obtain ⟨w', hrun, r1, r2⟩ := h1.update sn_law Try.underlying94 (by unfold maxLen; omega) (sn_key a ha) (plainElem_bool Try.underlying4 true)
  refine ⟨w', hrun, ⟨_, r1, h2.put _ _, ?_⟩, r2⟩
  intro x hx
  by_cases e : x = a
  · subst e
    rw [Maps.atKey_put_same h2 (sn_law.key (sn_key x ha))]
    simp
  · rw [Maps.atKey_put_other (fun h => e (by simp at h; omega)), h3 x hx]
    simp [e]
/-- The look-up, at the operation. -/
theorem wpList_lookup_seen {w : World} {ops : Array Oper} {rest : List Oper} {o : Oper} {a : Act} {Q : Exit → Act → World → Prop} {b n : Nat} {S : List Nat} (h : SeenAt w b n S)
    (hg : o.guard = none) (m x : Operand) (hop : o.op = Op.lookup 94 m x false) (hm : a.eval m = .map (some b)) (i : Nat) (hx : a.eval x = .int .i64 i)
    (hi : i < 256) (hK : wpList Try.prog ops Q rest (a.put o.dst (.bool (decide (i ∈ S)))) w) : wpList Try.prog ops Q (o :: rest) a w := by
  refine wpList_plain hg fun K' hK' => ?_
  have hrun := lookup_seen h i hi
  unfold Oper.wp
  simp only [execOp, hop, hm, hx, Sem.run_bind, Sem.run_pure, Result.andThen_ok, hrun]
  exact hK' _ _ hK
/-- The store, at the operation. -/
theorem wpList_update_seen {w : World} {ops : Array Oper} {rest : List Oper} {o : Oper} {a : Act} {Q : Exit → Act → World → Prop} {b n : Nat} {S : List Nat} (h : SeenAt w b n S) (hn : n < 1099511627776)
    (hg : o.guard = none) (m x v : Operand) (hop : o.op = Op.mapUpdate 94 m x v) (hm : a.eval m = .map (some b)) (i : Nat) (hx : a.eval x = .int .i64 i) (hv : a.eval v = .bool true)
    (hi : i < 256) (hK : ∀ w', SeenAt w' b (n + 1) (i :: S) → w.grownBy w' (some b) → wpList Try.prog ops Q rest (a.put o.dst undef) w') : wpList Try.prog ops Q (o :: rest) a w := by
  refine wpList_plain hg fun K' hK' => ?_
  obtain ⟨w', hrun, r1, r2⟩ := update_seen h hn i hi
  unfold Oper.wp
  simp [execOp, hop, hm, hx, hv, hrun, Result.andThen]
  exact hK' _ _ (hK w' r1 r2)
end Go.Proofs.Ytgjikdhidakloaa
