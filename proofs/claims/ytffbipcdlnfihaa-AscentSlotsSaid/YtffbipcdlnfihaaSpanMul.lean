/-
  Contracts: span's hull, Scale, Mul.
-/
import Derived.Test.YtffbipcdlnfihaaSpanAdd
import Derived.Test.YtffbipcdlnfihaaCore
namespace Go.Proofs.Ytffbipcdlnfihaa
open Go.RowKit
set_option maxRecDepth 100000
set_option maxHeartbeats 1000000
def Big.cells (a : Big) : List Value := [.bool a.neg, .int .u64 a.hi, .int .u64 a.lo]
/-- The least, and the greatest, of some integers. -/
def leastB : Big → List Big → Big
  | x, [] => x
  | x, y :: r => leastB (if y.val < x.val then y else x) r
def mostB : Big → List Big → Big
  | x, [] => x
  | x, y :: r => mostB (if x.val < y.val then y else x) r
theorem leastB_snoc (x : Big) (l : List Big) (y : Big) : leastB x (l ++ [y]) = if y.val < (leastB x l).val then y else leastB x l := by
  induction l generalizing x with
  | nil => rfl
  | cons z l ih => exact ih _
theorem mostB_snoc (x : Big) (l : List Big) (y : Big) : mostB x (l ++ [y]) = if (mostB x l).val < y.val then y else mostB x l := by
  induction l generalizing x with
  | nil => rfl
  | cons z l ih => exact ih _
theorem leastB_ok (x : Big) (l : List Big) (hx : x.ok) (hl : ∀ y ∈ l, y.ok) : (leastB x l).ok := by
  induction l generalizing x with
  | nil => exact hx
  | cons z l ih =>
    refine ih _ ?_ (fun y hy => hl y (by simp [hy]))
    split
    · exact hl z (by simp)
    · exact hx
theorem mostB_ok (x : Big) (l : List Big) (hx : x.ok) (hl : ∀ y ∈ l, y.ok) : (mostB x l).ok := by
  induction l generalizing x with
  | nil => exact hx
  | cons z l ih =>
    refine ih _ ?_ (fun y hy => hl y (by simp [hy]))
    split
    · exact hl z (by simp)
    · exact hx
theorem hull_any (x : Big) (l : List Big) (hx : x.ok) (hl : ∀ y ∈ l, y.ok) (ao : Option Addr) (cap : Nat) (hcap : l.length + 1 ≤ cap) (w : World) (h : SlAt w (.slice ao (l.length + 1) cap) (l.length + 1) ((x :: l).flatMap Big.cells)) :
    Calls Try.prog 63 #[.slice ao (l.length + 1 : Nat) cap] w fun e w' => e = .returned (.tuple #[.agg #[.bool (leastB x l).neg, .int .u64 (leastB x l).hi, .int .u64 (leastB x l).lo], .agg #[.bool (mostB x l).neg, .int .u64 (mostB x l).hi, .int .u64 (mostB x l).lo]]) ∧ Grew w w' := by
  obtain ⟨ao', cap', e, hm, hc⟩ := h
  obtain ⟨rfl, -, rfl⟩ := by simpa using e
  clear e
  unfold maxLen at hm
  have Hc := Lib.hid (SlAt.elem (f := Big.cells) (c := 3) (l := x :: l) (fun _ => rfl) (by omega) hc)
  clear hc
  obtain ⟨b1, o1, rfl, i1, hd1, hd2⟩ := Hc.out 0 (by simp)
  have hc0 := hd1 _ rfl
  have hc1 := hd2 1 _ rfl
  have hc2 := hd2 2 _ rfl
  clear hd1 hd2
  have i1 : BlockIn w b1 := ⟨i1⟩
  simp only [List.getElem_cons_zero, Nat.zero_mul, Nat.add_zero] at hc0 hc1 hc2
  by_cases hne : cap = 1
  · subst hne
    have hl0 : l.length ≤ 0 := by omega
    go_enter Try.func63, Try.ntmps63
    go_wp2
    go_region
    go_wp2
    go_loopw [15] (fun t wr => ∃ k : Nat, t = .int .i64 k ∧ k ≤ l.length ∧ Grew w wr ∧ BoxAt wr w.heap.size (leastB x (l.take k)).cells ∧ BoxAt wr (w.heap.size + 1) (mostB x (l.take k)).cells) (fun t _ => l.length - (intOf t).toNat)
    case atStart =>
      refine ⟨0, rfl, by omega, gw, ?_, ?_⟩
      · show BoxAt _ _ x.cells
        exact boxAt_three (by go_simp) (by go_simp) (by go_simp) (by go_simp) (by go_simp) (by go_simp)
      · show BoxAt _ _ x.cells
        exact boxAt_three (by go_simp) (by go_simp) (by go_simp) (by go_simp) (by go_simp) (by go_simp)
    case round =>
      obtain ⟨k, rfl, hk, hg, hA, hB⟩ := hrel
      obtain ⟨z, rfl⟩ := later_of hg
      clear hg
      have hA_0 := (hA 0 _ rfl).1
      have hAf0 := (hA 0 _ rfl).2
      have hAi0 : HasCell (z.world) (w.heap.size) 0 := ⟨_, hA_0⟩
      have hA_1 := (hA 1 _ rfl).1
      have hAf1 := (hA 1 _ rfl).2
      have hAi1 : HasCell (z.world) (w.heap.size) 1 := ⟨_, hA_1⟩
      have hA_2 := (hA 2 _ rfl).1
      have hAf2 := (hA 2 _ rfl).2
      have hAi2 : HasCell (z.world) (w.heap.size) 2 := ⟨_, hA_2⟩
      have hAb : BlockIn (z.world) (w.heap.size) := BlockIn.of_cell hA_0
      clear hA
      have hB_0 := (hB 0 _ rfl).1
      have hBf0 := (hB 0 _ rfl).2
      have hBi0 : HasCell (z.world) (w.heap.size + 1) 0 := ⟨_, hB_0⟩
      have hB_1 := (hB 1 _ rfl).1
      have hBf1 := (hB 1 _ rfl).2
      have hBi1 : HasCell (z.world) (w.heap.size + 1) 1 := ⟨_, hB_1⟩
      have hB_2 := (hB 2 _ rfl).1
      have hBf2 := (hB 2 _ rfl).2
      have hBi2 : HasCell (z.world) (w.heap.size + 1) 2 := ⟨_, hB_2⟩
      have hBb : BlockIn (z.world) (w.heap.size + 1) := BlockIn.of_cell hB_0
      clear hB
      by_cases hlt : k < l.length
      · exact absurd hlt (by omega)
      · go_wp2
        go_region
        go_wp2
        refine bodyPost_ret (by (simp [results, Try.results63, go_sem] <;> rfl)) rfl ?_
        rw [show l.take k = l from List.take_of_length_le (by omega)]
        exact ⟨ret_big2 rfl rfl, gw⟩
  · skip
    go_enter Try.func63, Try.ntmps63
    go_wp2
    go_region
    go_wp2
    go_loopw [15] (fun t wr => ∃ k : Nat, t = .int .i64 k ∧ k ≤ l.length ∧ Grew w wr ∧ BoxAt wr w.heap.size (leastB x (l.take k)).cells ∧ BoxAt wr (w.heap.size + 1) (mostB x (l.take k)).cells) (fun t _ => l.length - (intOf t).toNat)
    case atStart =>
      refine ⟨0, rfl, by omega, gw, ?_, ?_⟩
      · show BoxAt _ _ x.cells
        exact boxAt_three (by go_simp) (by go_simp) (by go_simp) (by go_simp) (by go_simp) (by go_simp)
      · show BoxAt _ _ x.cells
        exact boxAt_three (by go_simp) (by go_simp) (by go_simp) (by go_simp) (by go_simp) (by go_simp)
    case round =>
      obtain ⟨k, rfl, hk, hg, hA, hB⟩ := hrel
      obtain ⟨z, rfl⟩ := later_of hg
      clear hg
      have HL := Lib.hid (leastB_ok x (l.take k) hx (fun y hy => hl y (List.mem_of_mem_take hy)))
      have HM := Lib.hid (mostB_ok x (l.take k) hx (fun y hy => hl y (List.mem_of_mem_take hy)))
      have hA_0 := (hA 0 _ rfl).1
      have hAf0 := (hA 0 _ rfl).2
      have hAi0 : HasCell (z.world) (w.heap.size) 0 := ⟨_, hA_0⟩
      have hA_1 := (hA 1 _ rfl).1
      have hAf1 := (hA 1 _ rfl).2
      have hAi1 : HasCell (z.world) (w.heap.size) 1 := ⟨_, hA_1⟩
      have hA_2 := (hA 2 _ rfl).1
      have hAf2 := (hA 2 _ rfl).2
      have hAi2 : HasCell (z.world) (w.heap.size) 2 := ⟨_, hA_2⟩
      have hAb : BlockIn (z.world) (w.heap.size) := BlockIn.of_cell hA_0
      clear hA
      have hB_0 := (hB 0 _ rfl).1
      have hBf0 := (hB 0 _ rfl).2
      have hBi0 : HasCell (z.world) (w.heap.size + 1) 0 := ⟨_, hB_0⟩
      have hB_1 := (hB 1 _ rfl).1
      have hBf1 := (hB 1 _ rfl).2
      have hBi1 : HasCell (z.world) (w.heap.size + 1) 1 := ⟨_, hB_1⟩
      have hB_2 := (hB 2 _ rfl).1
      have hBf2 := (hB 2 _ rfl).2
      have hBi2 : HasCell (z.world) (w.heap.size + 1) 2 := ⟨_, hB_2⟩
      have hBb : BlockIn (z.world) (w.heap.size + 1) := BlockIn.of_cell hB_0
      clear hB
      by_cases hlt : k < l.length
      · obtain ⟨b2, o2, e2, -, hd1, hd2⟩ := Hc.out (k + 1) (by simp; omega)
        cases e2
        have he0 := hd1 _ rfl
        have he1 := hd2 1 _ rfl
        have he2 := hd2 2 _ rfl
        clear hd1 hd2
        have hy := hl l[k] (List.getElem_mem hlt)
        have Hy := Lib.hid hy
        clear hy
        simp only [List.getElem_cons_succ, show o1 + (k + 1) * 3 = o1 + 3 + k * 3 by omega] at he0 he1 he2
        have HA2 := Lib.hid (leastB_snoc x (l.take k) l[k])
        have HB2 := Lib.hid (mostB_snoc x (l.take k) l[k])
        rw [← List.take_succ_eq_append_getElem hlt] at HA2 HB2
        generalize leastB x (l.take k) = A at *
        generalize mostB x (l.take k) = B at *
        generalize l[k] = y at *
        clear hne hcap
        go_wp2_with (first | (go_at_call 74; (with_reducible refine call_later (big_less_any _ _ (by first | exact Hy.out | exact HL.out | exact HM.out) (by first | exact Hy.out | exact HL.out | exact HM.out) _) ?_); intro u) | ((with_reducible refine wp_region_later ?_ ?_ ?_); (· kernel_rfl); (· kernel_rfl); (try simp only [List.append_eq, List.cons_append, List.nil_append]); (repeat (go_big_quiet_step ((first | (go_at_call 74; (with_reducible exact call_quiet (big_less_any _ _ (by first | exact Hy.out | exact HL.out | exact HM.out) (by first | exact Hy.out | exact HL.out | exact HM.out) _))))))); refine wpQuiet_nil ?_; rintro _ ⟨u, rfl⟩))
        all_goals
          go_roundw
          case rel =>
            refine ⟨k + 1, by go_num, by omega, gw, ?_, ?_⟩
            · first | rw [HA2.out, if_pos (by omega)] | rw [HA2.out, if_neg (by omega)]
              exact boxAt_three (by go_simp) (by go_simp) (by go_simp) (by go_simp) (by go_simp) (by go_simp)
            · first | rw [HB2.out, if_pos (by omega)] | rw [HB2.out, if_neg (by omega)]
              exact boxAt_three (by go_simp) (by go_simp) (by go_simp) (by go_simp) (by go_simp) (by go_simp)
          case measure => simp [intOf]; omega
      · go_wp2
        go_region
        go_wp2
        refine bodyPost_ret (by (simp [results, Try.results63, go_sem] <;> rfl)) rfl ?_
        rw [show l.take k = l from List.take_of_length_le (by omega)]
        exact ⟨ret_big2 rfl rfl, gw⟩
end Go.Proofs.Ytffbipcdlnfihaa
