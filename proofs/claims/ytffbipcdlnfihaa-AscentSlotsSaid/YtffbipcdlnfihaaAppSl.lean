/-
  A slice that is read is appended to a row of one's own (append(row, l...)).
-/
import Derived.Test.YtffbipcdlnfihaaCore
import Derived.Maps.AppendAt
import Derived.Laws.OwnMore
import Derived.RegionTactic
namespace Go.Proofs.Ytffbipcdlnfihaa
open Go.RowKit
set_option maxRecDepth 100000
theorem run_app_sl {P : Program} (w : World) (base : Nat) (t ty e : TypeId) (z : Value) (size bytes : Nat) (ht : P.underlying t = some (.slice e)) (hinfo : (P.info? e).map (fun i => (i.zero, i.size, i.bytes)) = some (some z, size, bytes))
    (hzs : z.cells.size = size) (hsz : 0 < size) (v : Value) (n : Nat) (xs : List Value) (hown : w.ownsRow base e size v n xs) (V : Value) (m : Nat) (ys : List Value) (hV : SlAt w V m ys) (hl : ys.length = m * size) (h1 : ∀ u ∈ ys, u.oneCell' = true)
    (h63 : n + m ≤ maxLen) (hbytes : (n + m) * bytes ≤ 140737488355328) (hbase : base ≤ w.heap.size) :
    ∃ ao cap w', (Builtin.append_ #[t, t] ty #[v, V]).run P w = .ok (.slice ao (n + m) cap) w' ∧ w'.ownsRow base e size (.slice ao (n + m) cap) (n + m) (xs ++ ys) ∧ w.grownBy w' v.ownBlock := by
  obtain ⟨i, hi, hz, hsize, hby⟩ := info_parts hinfo
  obtain ⟨ao, cap, rfl, hm, hc⟩ := hV
  by_cases h0 : m = 0
  · subst h0
    have : ys = [] := List.eq_nil_of_length_eq_zero (by simpa using hl)
    subst this
    rw [List.append_nil, Nat.add_zero]
    rcases hown.2 with ⟨rfl, rfl⟩ | ⟨g, c2, cur, rfl, hg, hh, hn, r⟩
    · refine ⟨none, 0, w, ?_, hown, ⟨rfl, rfl, rfl, Nat.le_refl _, fun _ _ _ => rfl⟩⟩
      cases ao <;> simp [Builtin.append_, run_underlying ht, sizeOf, typeInfo, hi, Builtin.lenOf, Builtin.firstCells, loadCells, loadCellsFrom]
    · refine ⟨_, _, w, ?_, hown, ⟨rfl, rfl, rfl, Nat.le_refl _, fun _ _ _ => rfl⟩⟩
      cases ao <;> simp [Builtin.append_, run_underlying ht, sizeOf, typeInfo, hi, Builtin.lenOf, Builtin.firstCells, storeCells, loadCells, loadCellsFrom, hn]
  · have hx0 : 0 < ys.length := by
      rw [hl]
      exact Nat.mul_pos (by omega) hsz
    obtain ⟨b, off, rfl, -⟩ := hc 0 _ (List.getElem?_eq_getElem hx0)
    obtain ⟨v', w', hr, h2, h3, -, -⟩ := run_append_own_at (P := P) w base t ty e i z size bytes ht hi hz hsize hby hzs hsz v n xs hown ⟨b, off, none⟩ m cap ys hl (fun j u hu => by
      obtain ⟨b', off', e1, e2⟩ := hc j u hu
      cases e1
      rw [Addr.add_lit, e2]) h1 h63 hbytes hbase
    obtain ⟨ao2, cap2, rfl⟩ := owns_form h2
    exact ⟨ao2, cap2, w', hr, h2, h3⟩
/-- At a step of a region that draws its order. -/
theorem step_app_sl {P : Program} {ops : Array Oper} {o : Oper} {a : Act} {K : Act → World → Prop} {Q : Exit → Act → World → Prop} {E : Prop} (a0 w : World) (g0 : Grew a0 w) (hgd : o.guard = none) (s x : Operand) (t : TypeId)
    (ho : o.op = .call { callee := .builtin .append, args := #[s, x], argTypes := #[t, t] }) (e : TypeId) (size bytes : Nat) (z : Value) (ht : P.underlying t = some (.slice e))
    (hinfo : (P.info? e).map (fun i => (i.zero, i.size, i.bytes)) = some (some z, size, bytes)) (hzs : z.cells.size = size) (hsz : 0 < size) (v : Value) (n : Nat) (xs : List Value) (hown : w.ownsRow a0.heap.size e size v n xs) (hs : a.eval s = v)
    (V : Value) (m : Nat) (ys : List Value) (hV : SlAt w V m ys) (hx : a.eval x = V) (hl : ys.length = m * size) (h1 : ∀ u ∈ ys, u.oneCell' = true) (h63 : n + m ≤ maxLen) (hbytes : (n + m) * bytes ≤ 140737488355328)
    (h : ∀ ao cap (y : Later a0), y.world.ownsRow a0.heap.size e size (.slice ao (n + m) cap) (n + m) (xs ++ ys) → K (a.put o.dst (.slice ao (n + m) cap)) y.world) :
    if Region.wanted o (yielded ops a.tmps) = true then Oper.wp P o a w K Q else E := by
  have hw : Region.wanted o (yielded ops a.tmps) = true := by simp [Region.wanted, hgd]
  rw [if_pos hw]
  obtain ⟨ao, cap, w', hr, h2, h3⟩ := run_app_sl w a0.heap.size t o.type e z size bytes ht hinfo hzs hsz v n xs hown V m ys hV hl h1 h63 hbytes g0.size
  unfold Oper.wp execOp
  simp only [ho, resolve, invoke, builtin, Sem.run_bind, Sem.run_pure, Result.andThen_ok, List.map_toArray, List.map_cons, List.map_nil, hs, hx, hr]
  exact h ao cap ⟨w', Grew.append g0 hown (Nat.le_refl _) h3⟩ h2
/-- At the list of a plain region. -/
theorem wpList_app_sl {P : Program} {ops : Array Oper} {rest : List Oper} {o : Oper} {a : Act} {Q : Exit → Act → World → Prop} (a0 w : World) (g0 : Grew a0 w) (hgd : o.guard = none) (s x : Operand) (t : TypeId)
    (ho : o.op = .call { callee := .builtin .append, args := #[s, x], argTypes := #[t, t] }) (e : TypeId) (size bytes : Nat) (z : Value) (ht : P.underlying t = some (.slice e))
    (hinfo : (P.info? e).map (fun i => (i.zero, i.size, i.bytes)) = some (some z, size, bytes)) (hzs : z.cells.size = size) (hsz : 0 < size) (v : Value) (n : Nat) (xs : List Value) (hown : w.ownsRow a0.heap.size e size v n xs) (hs : a.eval s = v)
    (V : Value) (m : Nat) (ys : List Value) (hV : SlAt w V m ys) (hx : a.eval x = V) (hl : ys.length = m * size) (h1 : ∀ u ∈ ys, u.oneCell' = true) (h63 : n + m ≤ maxLen) (hbytes : (n + m) * bytes ≤ 140737488355328)
    (h : ∀ ao cap (y : Later a0), y.world.ownsRow a0.heap.size e size (.slice ao (n + m) cap) (n + m) (xs ++ ys) → wpList P ops Q rest (a.put o.dst (.slice ao (n + m) cap)) y.world) :
    wpList P ops Q (o :: rest) a w := by
  obtain ⟨ao, cap, w', hr, h2, h3⟩ := run_app_sl w a0.heap.size t o.type e z size bytes ht hinfo hzs hsz v n xs hown V m ys hV hl h1 h63 hbytes g0.size
  refine wpList_plain hgd fun K' hK' => ?_
  unfold Oper.wp execOp
  simp only [ho, resolve, invoke, builtin, Sem.run_bind, Sem.run_pure, Result.andThen_ok, List.map_toArray, List.map_cons, List.map_nil, hs, hx, hr]
  exact hK' _ _ (h ao cap ⟨w', Grew.append g0 hown (Nat.le_refl _) h3⟩ h2)
theorem SlAt.nil_at (w : World) (ao : Option Addr) (cap : Nat) : SlAt w (.slice ao 0 cap) 0 [] := ⟨_, _, rfl, by simp [maxLen], fun i x hx => by simp at hx⟩
/-- A new row, whatever its element type's row is called. -/
theorem owns_new {w : World} {m : Nat} [hm : SizeAt w m] (cs : Array Value) (e : TypeId) (size n base : Nat) (hb : base ≤ m) (hn : n ≤ maxLen) (hs : cs.size = n * size) : (w.alloc (.cells cs e)).ownsRow base e size (.slice (some ⟨m, 0, none⟩) n n) n cs.toList := by
  obtain rfl := hm.eq
  exact World.ownsRow_lit w cs n hb hn hs
/-- A part of a slice that is read. -/
theorem SlAt.part {w : World} {b off cap n : Nat} {xs : List Value} (h : SlAt w (.slice (some ⟨b, off, none⟩) n cap) n xs) (i m c : Nat) (hm : i + m ≤ n) : SlAt w (.slice (some ⟨b, off + i, none⟩) m c) m ((xs.drop i).take m) := by
  obtain ⟨ao, cap', e, hn, hc⟩ := h
  cases e
  refine ⟨_, _, rfl, by omega, fun j x hj => ⟨b, off + i, rfl, ?_⟩⟩
  rw [List.getElem?_take] at hj
  split at hj
  · rw [List.getElem?_drop] at hj
    obtain ⟨b', off', e1, e2⟩ := hc (i + j) x hj
    cases e1
    rw [Nat.add_assoc]
    exact e2
  · cases hj
end Go.Proofs.Ytffbipcdlnfihaa
