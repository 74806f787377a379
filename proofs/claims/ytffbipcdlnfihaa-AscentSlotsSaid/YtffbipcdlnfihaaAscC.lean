/-
  Contracts: slices.Grow, slices.Concat at spans.
-/
import Derived.Test.YtffbipcdlnfihaaAscB
import Derived.Test.YtffbipcdlnfihaaRow
import Derived.Lib.AppendZeros
namespace Go.Proofs.Ytffbipcdlnfihaa
open Go.RowKit
set_option maxRecDepth 100000
set_option maxHeartbeats 8000000
set_option linter.unusedSimpArgs false
def spC (a : Sp) : List Value := [.int .i64 a.lo, .int .i64 a.hi]
theorem infoSp : (Try.prog.info? 40).map (fun i => (i.zero, i.size, i.bytes)) = some (some (.agg #[.int .i64 0, .int .i64 0]), 2, 16) := by kernel_rfl
/-- A row of one's own that holds no span yet. -/
def RetGr (w : World) (e : Ending) (w' : World) : Prop := ∃ v, e = .returned v ∧ w'.ownsRow w.heap.size 40 2 v 0 [] ∧ Grew w w'
theorem growSpan_any (w : World) : Calls Try.prog 55 #[.slice none 0 0, .int .i64 6] w (RetGr w) := by
  obtain ⟨i0, hi, hz0, hzz1, hzz2⟩ := info_parts infoSp
  have hge := grownCap_ge w 6 0 40
  have hmx := grownCap_le_maxLen w 6 0 40 (by simp [maxLen])
  have hA := Lib.run_append_nil_zeros w 82 3 82 40 i0 _ .i64 .i64 Try.underlying82 Try.underlying3 hi hz0 6 (by omega) (by rw [hzz1]; omega) (by omega) (by rw [hzz2]; omega)
  obtain ⟨cp, hcp⟩ : ∃ c, c = grownCap w 6 0 40 := ⟨_, rfl⟩
  rw [← hcp] at hge hmx hA
  have hown : (w.drew.alloc (.cells (Builtin.zeroCells (Value.agg #[.int .i64 0, .int .i64 0]).cells 6 ++ Builtin.zeroCells (Value.agg #[.int .i64 0, .int .i64 0]).cells (cp - 6)) 40)).ownsRow w.heap.size 40 2 (.slice (some ⟨w.heap.size, 0, none⟩) 0 cp) 0 [] := by
    refine ⟨rfl, .inr ⟨w.heap.size, cp, _, rfl, Nat.le_refl _, heap_alloc_last w.drew _, Nat.zero_le _, hmx, ?_, by simp⟩⟩
    rw [Array.size_append, size_zeroCells, size_zeroCells]
    show 6 * 2 + (cp - 6) * 2 = cp * 2
    omega
  have HO := Lib.hid hown
  have hc0 : (0 : Int) ≤ cp := by omega
  clear hown hcp hge hmx
  generalize (Builtin.zeroCells (Value.agg #[.int .i64 0, .int .i64 0]).cells 6 ++ Builtin.zeroCells (Value.agg #[.int .i64 0, .int .i64 0]).cells (cp - 6)) = zs at *
  go_enter Try.func55, Try.ntmps55
  go_wp2_with (at_builtin; refine Lib.wpList_append_run _ rfl _ _ _ _ rfl _ _ rfl rfl _ _ hA ?_)
  go_ret
  exact ⟨_, rfl, HO.out, gw⟩
theorem flat_two : ∀ (l : List Sp), (l.flatMap spC).length = l.length * 2
  | [] => rfl
  | x :: l => by
    rw [List.flatMap_cons, List.length_append, flat_two l, List.length_cons]
    show 2 + _ = _
    omega
/-- Spans are appended to a row of one's own. -/
theorem wpList_app_spans {ops : Array Oper} {rest : List Oper} {o : Oper} {a : Act} {Q : Exit → Act → World → Prop} (a0 w : World) (g0 : Grew a0 w) (hgd : o.guard = none) (s x : Operand)
    (ho : o.op = .call { callee := .builtin .append, args := #[s, x], argTypes := #[82, 82] }) (l0 : List Sp) (v : Value) (hs : a.eval s = v) (hown : w.ownsRow a0.heap.size 40 2 v l0.length (l0.flatMap spC)) (l : List Sp) (V : Value) (hV : SlAt w V l.length (l.flatMap spC)) (hl : 0 < l.length) (hx : a.eval x = V) (hn : l0.length + l.length ≤ 1000)
    (h : ∀ v' (u : Later a0), u.world.ownsRow a0.heap.size 40 2 v' (l0 ++ l).length ((l0 ++ l).flatMap spC) → wpList Try.prog ops Q rest (a.put o.dst v') u.world) : wpList Try.prog ops Q (o :: rest) a w := by
  obtain ⟨i0, hi, hz0, hzz1, hzz2⟩ := info_parts infoSp
  obtain ⟨ao, cap, rfl, hm, hc⟩ := hV
  cases l with
  | nil => exact absurd hl (by simp)
  | cons y l =>
    obtain ⟨b, off, rfl, -⟩ := hc 0 (.int .i64 y.lo) rfl
    refine wpList_plain hgd fun K hK => ?_
    refine wp_append_lies w s x 82 ho a0.heap.size 40 i0 _ 2 16 Try.underlying82 hi hz0 hzz1 hzz2 rfl (by decide) v l0.length _ hs hown ⟨b, off, none⟩ (y :: l).length cap ((y :: l).flatMap spC) hx (flat_two _) (fun j u hu => ?_) (fun u hu => ?_) (by simp) (by simp [maxLen] at hn ⊢; omega) (by omega) g0.size _ rfl ?_
    · obtain ⟨b', off', e1, e2⟩ := hc j u hu
      cases e1
      rw [Addr.add_lit]
      exact e2
    · obtain ⟨r, -, hr⟩ := List.mem_flatMap.1 hu
      simp only [spC, List.mem_cons, List.not_mem_nil, or_false] at hr
      rcases hr with rfl | rfl <;> rfl
    · intro g cap' w' h2 h3 h4 h5
      rw [← List.flatMap_append, ← List.length_append] at h2
      obtain ⟨u, rfl⟩ := later_of (Grew.append g0 hown (Nat.le_refl _) h3)
      rw [← List.length_append]
      exact hK _ _ (h _ u h2)
/-- Two rows of three spans, one behind the other. -/
theorem concat_any (l1 l2 : List Sp) (h1 : l1.length = 3) (h2 : l2.length = 3) (ao1 ao2 : Option Addr) (c1 c2 b : Nat) (w : World) (hs1 : SlAt w (.slice ao1 3 c1) 3 (l1.flatMap spC)) (hs2 : SlAt w (.slice ao2 3 c2) 3 (l2.flatMap spC))
    (hb : BlockIn w b) (hc1 : w.cell? ⟨b, 0, none⟩ = some (.slice ao1 3 c1)) (hc2 : w.cell? ⟨b, 1, none⟩ = some (.slice ao2 3 c2)) :
    Calls Try.prog 39 #[.slice (some ⟨b, 0, none⟩) 2 2] w (fun e w' => ∃ ao cap, e = .returned (.slice ao 6 cap) ∧ SlAt w' (.slice ao 6 cap) 6 ((l1 ++ l2).flatMap spC) ∧ Grew w w') := by
  have H1 := Lib.hid (show SlAt w (.slice ao1 3 c1) l1.length (l1.flatMap spC) by rw [h1]; exact hs1)
  have H2 := Lib.hid (show SlAt w (.slice ao2 3 c2) l2.length (l2.flatMap spC) by rw [h2]; exact hs2)
  have L1 := Lib.hid h1
  have L2 := Lib.hid h2
  clear hs1 hs2 h1 h2
  go_enter Try.func39, Try.ntmps39
  go_wp2
  refine wp_loop_rounds 3 ?_
  iterate 3 (rw [rounds_succ]; go_wp2_with (go_at_call 55; refine (growSpan_any _).mono ?_; rintro e w' ⟨v, rfl, hown, hg⟩; obtain ⟨z, rfl⟩ := later_of hg; clear hg))
  refine wp_loop_rounds 3 ?_
  rw [rounds_succ]
  go_wp2_with (at_builtin; go_loud (refine wpList_app_spans w _ gw rfl _ _ rfl [] v rfl hown l1 _ (H1.out.grew gw) (by rw [L1.out]; decide) rfl (by rw [L1.out]; decide) ?_; intro v1 u1 hown1))
  rw [rounds_succ]
  go_wp2_with (at_builtin; go_loud (refine wpList_app_spans w _ gw rfl _ _ rfl ([] ++ l1) v1 rfl hown1 l2 _ (H2.out.grew gw) (by rw [L2.out]; decide) rfl (by rw [List.nil_append, L1.out, L2.out]; decide) ?_; intro v2 u2 hown2))
  have hlen : ([] ++ l1 ++ l2).length = 6 := by rw [List.nil_append, List.length_append, L1.out, L2.out]
  rw [hlen, List.nil_append] at hown2
  obtain ⟨ao, cap, rfl⟩ := owns_form hown2
  have Ho := Lib.hid hown2
  clear hown hown1 hown2 hlen
  rw [rounds_succ]
  go_wp2
  go_ret
  exact ⟨ao, cap, rfl, SlAt.of_owns Ho.out, gw⟩
end Go.Proofs.Ytffbipcdlnfihaa
