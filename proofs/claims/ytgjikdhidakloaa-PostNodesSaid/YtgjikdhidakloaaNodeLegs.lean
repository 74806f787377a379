/-
  The steps of a flight (legs): plain law; laws at their appends.
-/
import Derived.Test.YtgjikdhidakloaaNodeRef
import Derived.Test.YtgjikdhidakloaaInts
import Derived.Deep.AppendLies
namespace Go.Proofs.Ytgjikdhidakloaa
open Go.RowKit
set_option maxRecDepth 100000
set_option maxHeartbeats 16000000
/-- A step of a flight: its arc, its length, and whether it is the arc's last one. -/
abbrev Leg := (Arc × List Pt) × Int × Bool
def legC (g : Leg) : List Value := [.int .i64 g.1.1.time, .int .i64 g.1.1.step, .int .i64 g.1.1.thrust.lo, .int .i64 g.1.1.thrust.hi, .int .i64 g.1.1.flow.lo, .int .i64 g.1.1.flow.hi, .int .i64 g.1.1.dir.x.lo, .int .i64 g.1.1.dir.x.hi, .int .i64 g.1.1.dir.y.lo, .int .i64 g.1.1.dir.y.hi, .int .i64 g.1.1.dir.z.lo, .int .i64 g.1.1.dir.z.hi, .slice g.1.1.drag.ao g.1.1.drag.n g.1.1.drag.cap, .int .i64 g.1.1.drop.lo, .int .i64 g.1.1.drop.hi, .int .i64 g.2.1, .bool g.2.2]
theorem legC_len (g : Leg) : (legC g).length = 17 := rfl
/-- Of an arc of m + 1 steps the one with number i. -/
def legAt (x : Arc × List Pt) (m i : Nat) : Leg := (x, if i = m then x.1.time - x.1.step * m else x.1.step, decide (i = m))
def stepsM (x : Arc × List Pt) : Nat := (stepsNum x.1 x.2).toNat - 1
def legsTo (x : Arc × List Pt) (i : Nat) : List Leg := (List.range i).map (legAt x (stepsM x))
def legsOf (x : Arc × List Pt) : List Leg := legsTo x (stepsNum x.1 x.2).toNat
def legsL (L : Arcs) : List Leg := L.flatMap legsOf
theorem legsTo_succ (x : Arc × List Pt) (i : Nat) : legsTo x (i + 1) = legsTo x i ++ [legAt x (stepsM x) i] := by
  unfold legsTo
  rw [List.range_succ, List.map_append]
  rfl
theorem legsTo_len (x : Arc × List Pt) (i : Nat) : (legsTo x i).length = i := by unfold legsTo; simp
theorem legsL_take (L : Arcs) (k : Nat) (h : k < L.length) : legsL (L.take (k + 1)) = legsL (L.take k) ++ legsOf L[k] := by
  unfold legsL
  rw [List.take_succ_eq_append_getElem h, List.flatMap_append]
  simp
theorem legsL_len (L : Arcs) : ((legsL L).length : Int) = sumZ L := by
  induction L with
  | nil => rfl
  | cons x r ih =>
    have h1 := (stepsNum_bd x.1 x.2).1
    have e : legsL (x :: r) = legsOf x ++ legsL r := by unfold legsL; rw [List.flatMap_cons]
    rw [e, List.length_append]
    unfold legsOf sumZ
    rw [legsTo_len]
    omega
/-- Of valid flights. -/
theorem fit_all : ∀ (L : Arcs) (s : Int), fitB 4096 s L = true → (∀ x ∈ L, stepsCode x.1 x.2 = 0) ∧ s + sumZ L ≤ 4096 ∨ L = []
  | [], _, _ => .inr rfl
  | x :: r, s, h => by
    rw [fitB, Bool.and_eq_true, Bool.and_eq_true] at h
    obtain ⟨⟨h1, h2⟩, h3⟩ := h
    have h1 := of_decide_eq_true h1
    have h2 := of_decide_eq_true h2
    left
    rcases fit_all r _ h3 with ⟨h4, h5⟩ | h4
    · refine ⟨fun y hy => ?_, by simp only [sumZ]; omega⟩
      rcases List.mem_cons.1 hy with rfl | hy
      · exact h1
      · exact h4 y hy
    · subst h4
      exact ⟨fun y hy => by simp at hy; subst hy; exact h1, by simp only [sumZ]; omega⟩
theorem arcs_fit {L : Arcs} (h : arcsCode L = 0) : (∀ k (hk : k < L.length), stepsCode L[k].1 L[k].2 = 0) ∧ sumZ L ≤ 4096 := by
  unfold arcsCode at h
  split at h
  · cases h
  · split at h
    · rename_i h1
      rw [Bool.and_eq_true] at h1
      rcases fit_all L 0 h1.2 with ⟨h2, h3⟩ | h2
      · exact ⟨fun k hk => h2 _ (List.getElem_mem hk), by omega⟩
      · subst h2
        exact ⟨fun k hk => by simp at hk, by simp [sumZ]⟩
    · cases h
/-- The numbers of an arc's steps: m whole ones fit, and one more does not. -/
theorem steps_fit {x : Arc × List Pt} (h : stepsCode x.1 x.2 = 0) : stepsNum x.1 x.2 = (stepsM x : Int) + 1 ∧ 1 ≤ x.1.step ∧ 1 ≤ x.1.time ∧ x.1.step * (stepsM x : Int) ≤ x.1.time - 1 ∧ x.1.time ≤ x.1.step * (stepsM x : Int) + x.1.step ∧ 0 ≤ x.1.step * (stepsM x : Int) ∧ stepsM x < 4096 := by
  have hb := stepsNum_bd x.1 x.2
  have hok : x.1.okB x.2 = true := by
    unfold stepsCode at h
    split at h
    · assumption
    · cases h
  obtain ⟨ht, hs⟩ := arc_pos hok
  have hz : stepsNum x.1 x.2 = (x.1.time - 1) / x.1.step + 1 := by
    unfold stepsNum
    rw [if_pos h]
    rfl
  have hq : 0 ≤ (x.1.time - 1) / x.1.step := Int.ediv_nonneg (by omega) (by omega)
  have hm : (stepsM x : Int) = (x.1.time - 1) / x.1.step := by unfold stepsM; rw [hz]; omega
  have h1 := Int.mul_ediv_add_emod (x.1.time - 1) x.1.step
  have h2 := Int.emod_nonneg (x.1.time - 1) (show x.1.step ≠ 0 by omega)
  have h3 := Int.emod_lt_of_pos (x.1.time - 1) (show 0 < x.1.step by omega)
  have h4 : 0 ≤ x.1.step * (stepsM x : Int) := Int.mul_nonneg (by omega) (by omega)
  refine ⟨by rw [hz, hm], hs, ht, ?_, ?_, h4, by omega⟩
  · rw [hm]; omega
  · rw [hm]; omega
theorem info_pleg : (Try.prog.info? 113).map (fun i => (i.zero, i.size, i.bytes)) = some (some (.agg #[.int .i64 0, .int .i64 0, .int .i64 0, .int .i64 0, .int .i64 0, .int .i64 0, .int .i64 0, .int .i64 0, .int .i64 0, .int .i64 0, .int .i64 0, .int .i64 0, .slice none 0 0, .int .i64 0, .int .i64 0, .int .i64 0, .bool false]), 17, 152) := by kernel_rfl
theorem wpList_app_pleg {ops : Array Oper} {rest : List Oper} {o : Oper} {a : Act} {Q : Exit → Act → World → Prop} (a0 w : World) (g0 : Grew a0 w) {m : Nat} [hm : SizeAt w m] (hgd : o.guard = none) (s x : Operand)
    (ho : o.op = .call { callee := .builtin .append, args := #[s, x], argTypes := #[75, 75] }) (v : Value) (l : List Leg) (hown : w.ownsRow a0.heap.size 113 17 v l.length (l.flatMap legC)) (hs : a.eval s = v) (p : Leg) (ty : TypeId)
    (hx : a.eval x = .slice (some ⟨m, 0, none⟩) 1 1) (hn : l.length ≤ 268435456)
    (h : ∀ v' (y : Later a0), y.world.ownsRow a0.heap.size 113 17 v' (l ++ [p]).length ((l ++ [p]).flatMap legC) → wpList Try.prog ops Q rest (a.put o.dst v') y.world) :
    wpList Try.prog ops Q (o :: rest) a (w.alloc (.cells (legC p).toArray ty)) := by
  obtain rfl := hm.eq
  obtain ⟨i0, hi, hz0, hzz1, hzz2⟩ := info_parts info_pleg
  refine wpList_append_own _ hgd s x 75 ho a0.heap.size 113 i0 _ 17 152 Try.underlying75 hi hz0 hzz1 hzz2 rfl (by decide) v _ _ hs (hown.alloc _) ⟨w.heap.size, 0, none⟩ 1 1 (legC p) hx rfl (cells_new w (legC p) ty) (by simp [legC, Value.oneCell']) (by simp [maxLen]; omega) (by omega) (by have := g0.size; simp; omega) ?_
  intro v' w1 hown' hgrow _
  obtain ⟨y, rfl⟩ := later_of (Grew.append (g0.alloc (.cells (legC p).toArray ty)) (hown.alloc (.cells (legC p).toArray ty)) (Nat.le_refl _) hgrow)
  refine h v' y ?_
  rw [List.length_append, List.flatMap_append]
  simpa using hown'
theorem wpList_app3_pleg {ops : Array Oper} {rest : List Oper} {o : Oper} {a : Act} {Q : Exit → Act → World → Prop} (w : World) (base : Nat) (hbase : base ≤ w.heap.size) {m : Nat} [hm : SizeAt w m] (hgd : o.guard = none) (s x : Operand)
    (ho : o.op = .call { callee := .builtin .append, args := #[s, x], argTypes := #[75, 75] }) (v : Value) (l : List Leg) (hown : w.ownsRow base 113 17 v l.length (l.flatMap legC)) (hs : a.eval s = v) (p : Leg) (ty : TypeId)
    (hx : a.eval x = .slice (some ⟨m, 0, none⟩) 1 1) (hn : l.length ≤ 268435456)
    (h : ∀ g n cap w', w'.ownsRow base 113 17 (.slice (some ⟨g, 0, none⟩) n cap) (l ++ [p]).length ((l ++ [p]).flatMap legC) → (w.alloc (.cells (legC p).toArray ty)).grownBy w' v.ownBlock → (v.ownBlock = some g ∨ g = m + 1) → wpList Try.prog ops Q rest (a.put o.dst (.slice (some ⟨g, 0, none⟩) n cap)) w') :
    wpList Try.prog ops Q (o :: rest) a (w.alloc (.cells (legC p).toArray ty)) := by
  obtain rfl := hm.eq
  obtain ⟨i0, hi, hz0, hzz1, hzz2⟩ := info_parts info_pleg
  refine wpList_append_lies _ hgd s x 75 ho base 113 i0 _ 17 152 Try.underlying75 hi hz0 hzz1 hzz2 rfl (by decide) v _ _ hs (hown.alloc _) ⟨w.heap.size, 0, none⟩ 1 1 (legC p) hx rfl (cells_new w (legC p) ty) (by simp [legC, Value.oneCell']) (by decide) (by simp [maxLen]; omega) (by omega) (by simp; omega) (w.heap.size + 1) (by simp) ?_
  intro g cap w1 hown' hgrow hat _
  refine h g _ cap w1 ?_ hgrow hat
  rw [List.length_append, List.flatMap_append]
  simpa using hown'
theorem info_rleg : (Try.prog.info? 115).map (fun i => (i.zero, i.size, i.bytes)) = some (some (.agg #[.int .i64 0, .int .i64 0, .int .i64 0, .int .i64 0, .int .i64 0, .int .i64 0, .int .i64 0, .int .i64 0, .int .i64 0, .int .i64 0, .int .i64 0, .int .i64 0, .slice none 0 0, .int .i64 0, .int .i64 0, .int .i64 0, .bool false]), 17, 152) := by kernel_rfl
theorem wpList_app_rleg {ops : Array Oper} {rest : List Oper} {o : Oper} {a : Act} {Q : Exit → Act → World → Prop} (a0 w : World) (g0 : Grew a0 w) {m : Nat} [hm : SizeAt w m] (hgd : o.guard = none) (s x : Operand)
    (ho : o.op = .call { callee := .builtin .append, args := #[s, x], argTypes := #[78, 78] }) (v : Value) (l : List Leg) (hown : w.ownsRow a0.heap.size 115 17 v l.length (l.flatMap legC)) (hs : a.eval s = v) (p : Leg) (ty : TypeId)
    (hx : a.eval x = .slice (some ⟨m, 0, none⟩) 1 1) (hn : l.length ≤ 268435456)
    (h : ∀ v' (y : Later a0), y.world.ownsRow a0.heap.size 115 17 v' (l ++ [p]).length ((l ++ [p]).flatMap legC) → wpList Try.prog ops Q rest (a.put o.dst v') y.world) :
    wpList Try.prog ops Q (o :: rest) a (w.alloc (.cells (legC p).toArray ty)) := by
  obtain rfl := hm.eq
  obtain ⟨i0, hi, hz0, hzz1, hzz2⟩ := info_parts info_rleg
  refine wpList_append_own _ hgd s x 78 ho a0.heap.size 115 i0 _ 17 152 Try.underlying78 hi hz0 hzz1 hzz2 rfl (by decide) v _ _ hs (hown.alloc _) ⟨w.heap.size, 0, none⟩ 1 1 (legC p) hx rfl (cells_new w (legC p) ty) (by simp [legC, Value.oneCell']) (by simp [maxLen]; omega) (by omega) (by have := g0.size; simp; omega) ?_
  intro v' w1 hown' hgrow _
  obtain ⟨y, rfl⟩ := later_of (Grew.append (g0.alloc (.cells (legC p).toArray ty)) (hown.alloc (.cells (legC p).toArray ty)) (Nat.le_refl _) hgrow)
  refine h v' y ?_
  rw [List.length_append, List.flatMap_append]
  simpa using hown'
theorem wpList_app3_rleg {ops : Array Oper} {rest : List Oper} {o : Oper} {a : Act} {Q : Exit → Act → World → Prop} (w : World) (base : Nat) (hbase : base ≤ w.heap.size) {m : Nat} [hm : SizeAt w m] (hgd : o.guard = none) (s x : Operand)
    (ho : o.op = .call { callee := .builtin .append, args := #[s, x], argTypes := #[78, 78] }) (v : Value) (l : List Leg) (hown : w.ownsRow base 115 17 v l.length (l.flatMap legC)) (hs : a.eval s = v) (p : Leg) (ty : TypeId)
    (hx : a.eval x = .slice (some ⟨m, 0, none⟩) 1 1) (hn : l.length ≤ 268435456)
    (h : ∀ g n cap w', w'.ownsRow base 115 17 (.slice (some ⟨g, 0, none⟩) n cap) (l ++ [p]).length ((l ++ [p]).flatMap legC) → (w.alloc (.cells (legC p).toArray ty)).grownBy w' v.ownBlock → (v.ownBlock = some g ∨ g = m + 1) → wpList Try.prog ops Q rest (a.put o.dst (.slice (some ⟨g, 0, none⟩) n cap)) w') :
    wpList Try.prog ops Q (o :: rest) a (w.alloc (.cells (legC p).toArray ty)) := by
  obtain rfl := hm.eq
  obtain ⟨i0, hi, hz0, hzz1, hzz2⟩ := info_parts info_rleg
  refine wpList_append_lies _ hgd s x 78 ho base 115 i0 _ 17 152 Try.underlying78 hi hz0 hzz1 hzz2 rfl (by decide) v _ _ hs (hown.alloc _) ⟨w.heap.size, 0, none⟩ 1 1 (legC p) hx rfl (cells_new w (legC p) ty) (by simp [legC, Value.oneCell']) (by decide) (by simp [maxLen]; omega) (by omega) (by simp; omega) (w.heap.size + 1) (by simp) ?_
  intro g cap w1 hown' hgrow hat _
  refine h g _ cap w1 ?_ hgrow hat
  rw [List.length_append, List.flatMap_append]
  simpa using hown'
end Go.Proofs.Ytgjikdhidakloaa
