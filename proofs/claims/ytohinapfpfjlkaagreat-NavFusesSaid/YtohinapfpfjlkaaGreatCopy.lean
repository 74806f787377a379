/-
  A copy of a slice by append onto an empty one.
-/
import Derived.Test.YtohinapfpfjlkaaGreatCore
import Derived.Maps.AppendAt
import Derived.Laws.OwnMore
namespace Go.Proofs.YtohinapfpfjlkaaGreat
open Go.RowKit
set_option maxRecDepth 100000
theorem run_copy {P : Program} (w : World) (t ty e : TypeId) (i : TypeInfo) (z : Value) (size bytes : Nat) (ht : P.underlying t = some (.slice e)) (hi : P.info? e = some i) (hz : i.zero = some z)
    (hsize : i.size = size) (hby : i.bytes = bytes) (hzs : z.cells.size = size) (hsz : 0 < size) (V : Value) (n : Nat) (xs : List Value) (hV : SlAt w V n xs) (hl : xs.length = n * size) (h1 : ∀ u ∈ xs, u.oneCell' = true) (hbytes : n * bytes ≤ 140737488355328) :
    ∃ ao cap w', (Builtin.append_ #[t, t] ty #[.slice (some ⟨w.heap.size, 0, none⟩) 0 0, V]).run P (w.alloc (.cells #[] e)) = .ok (.slice ao n cap) w' ∧ SlAt w' (.slice ao n cap) n xs ∧ Grew w w' := by
  have hown : (w.alloc (.cells #[] e)).ownsRow w.heap.size e size (.slice (some ⟨w.heap.size, 0, none⟩) 0 0) 0 [] := World.ownsRow_lit w #[] 0 (Nat.le_refl _) (by simp [maxLen]) (by simp)
  obtain ⟨ao, cap, rfl, hm, hc⟩ := hV
  by_cases h0 : n = 0
  · subst h0
    have : xs = [] := List.eq_nil_of_length_eq_zero (by simpa using hl)
    subst this
    refine ⟨some ⟨w.heap.size, 0, none⟩, 0, w.alloc (.cells #[] e), ?_, ⟨_, _, rfl, by simp [maxLen], fun i x hx => by simp at hx⟩, (Grew.refl w).alloc _⟩
    cases ao <;> simp [Builtin.append_, run_underlying ht, sizeOf, typeInfo, hi, Builtin.lenOf, Builtin.firstCells, storeCells, loadCells, loadCellsFrom]
  · have hx0 : 0 < xs.length := by
      rw [hl]
      exact Nat.mul_pos (by omega) hsz
    obtain ⟨b, off, rfl, -⟩ := hc 0 _ (List.getElem?_eq_getElem hx0)
    obtain ⟨v', w', hr, h2, h3, -, -⟩ := run_append_own_at (P := P) (w.alloc (.cells #[] e)) w.heap.size t ty e i z size bytes ht hi hz hsize hby hzs hsz _ 0 [] hown ⟨b, off, none⟩ n cap xs hl (fun j u hu => by
      obtain ⟨b', off', e1, e2⟩ := hc j u hu
      cases e1
      rw [Addr.add_lit, World.cell?_alloc_lt _ _ _ (World.block_lt_of_cell? w _ e2), e2]) h1 (by rw [Nat.zero_add]; exact hm) (by rw [Nat.zero_add]; exact hbytes) (by simp)
    rw [Nat.zero_add] at h2
    obtain ⟨ao2, cap2, rfl⟩ := owns_form h2
    refine ⟨ao2, cap2, w', hr, SlAt.of_owns h2, ?_⟩
    exact ((Grew.refl w).alloc _).grown h3 (fun k hk => by simp [Value.ownBlock] at hk; omega)
theorem wpList_copy {P : Program} {ops : Array Oper} {rest : List Oper} {o : Oper} {a : Act} {Q : Exit → Act → World → Prop} (w : World) {m : Nat} [hm : SizeAt w m] (hgd : o.guard = none) (s x : Operand) (t : TypeId)
    (ho : o.op = .call { callee := .builtin .append, args := #[s, x], argTypes := #[t, t] }) (e : TypeId) (size bytes : Nat) (z : Value) (ht : P.underlying t = some (.slice e))
    (hinfo : (P.info? e).map (fun i => (i.zero, i.size, i.bytes)) = some (some z, size, bytes)) (hzs : z.cells.size = size) (hsz : 0 < size) (hs : a.eval s = .slice (some ⟨m, 0, none⟩) 0 0) (V : Value) (n : Nat) (xs : List Value)
    (hV : SlAt w V n xs) (hx : a.eval x = V) (hl : xs.length = n * size) (h1 : ∀ u ∈ xs, u.oneCell' = true) (hbytes : n * bytes ≤ 140737488355328)
    (h : ∀ ao cap (y : Later w), SlAt y.world (.slice ao n cap) n xs → wpList P ops Q rest (a.put o.dst (.slice ao n cap)) y.world) : wpList P ops Q (o :: rest) a (w.alloc (.cells #[] e)) := by
  obtain rfl := hm.eq
  obtain ⟨i, hi, hz, hsize, hby⟩ := info_parts hinfo
  obtain ⟨ao, cap, w', hr, h2, h3⟩ := run_copy w t o.type e i z size bytes ht hi hz hsize hby hzs hsz V n xs hV hl h1 hbytes
  refine wpList_plain hgd fun K' hK' => ?_
  unfold Oper.wp execOp
  simp only [ho, resolve, invoke, builtin, Sem.run_bind, Sem.run_pure, Result.andThen_ok, List.map_toArray, List.map_cons, List.map_nil, hs, hx, hr]
  exact hK' _ _ (h ao cap ⟨w', h3⟩ h2)
end Go.Proofs.YtohinapfpfjlkaaGreat
