/-
  AbortKeeps: for every motion, number of pieces, time, picks and number: at no time is something closer than Clear returns; with twice as many pieces it returns no less; what is kept is at least what was asked for. No condition.
-/
import Derived.Test.YtjnednehcjfkmaaKeepLaw
import Derived.Test.YtjnednehcjfkmaaKeepWalk
import Derived.Test.YtjnednehcjfkmaaSpanSum
import Derived.Test.YtjnednehcjfkmaaFewAlive
import Derived.Test.YtjnednehcjfkmaaOpenApi
import Derived.Test.YtjnednehcjfkmaaRows
namespace Go.Proofs.Ytjnednehcjfkmaa
open Go.RowKit
set_option maxRecDepth 100000
set_option maxHeartbeats 32000000
/-- A point as a span. -/
abbrev ptS (x : Int) : Sp := ⟨x, x⟩
theorem s64_pt {a : Sp} [h : S64 a] {x : Int} (h1 : a.lo ≤ x) (h2 : x ≤ a.hi) : S64 (ptS x) := by
  have l1 := h.lo.1
  have l2 := h.hi.2
  exact ⟨⟨by simp only; omega, by simp only; omega⟩, ⟨by simp only; omega, by simp only; omega⟩⟩
/-- Each of so many sums is within that of the whole spans. -/
def KeepRow (m : Mo) (t : Int) (l : List Sx) : Prop := ∀ j, j < l.length → ∀ u, Wi (ptS t) u → (alongR (m.d.at j) (m.w.at j) (m.a.at j) u).e = 0 → Wi (l[j]?.getD default).1 (alongR (m.d.at j) (m.w.at j) (m.a.at j) u).s
theorem keepRow_snoc {m : Mo} {t : Int} {l : List Sx} {x : Sx} (h : KeepRow m t l) (hx : ∀ u, Wi (ptS t) u → (alongR (m.d.at l.length) (m.w.at l.length) (m.a.at l.length) u).e = 0 → Wi x.1 (alongR (m.d.at l.length) (m.w.at l.length) (m.a.at l.length) u).s) : KeepRow m t (l ++ [x]) := by
  intro j hj u hu he
  by_cases c : j < l.length
  · rw [List.getElem?_append_left c]
    exact h j c u hu he
  · have e : j = l.length := by simp at hj; omega
    subst e
    simpa using hx u hu he
/-- The numbers of one component. -/
def kW (pw t : Int) : Res := mulR (ptS pw) (ptS t)
def kQ (t : Int) : Res := squareR (ptS t)
def kA (pa t : Int) : Res := mulR (ptS pa) (kQ t).s
def kH (pa t : Int) : Res := divR (kA pa t).s (wholeS 2)
def kS (pd pw pa t : Int) : Res := sumCR [ptS pd, (kW pw t).s, (kH pa t).s]
theorem s64_sum3 (x y z : Sp) : S64 (sumCR [x, y, z]).s := by
  unfold sumCR sumR
  simp only [foldR]
  (repeat' split) <;> first | exact s64_err _ | infer_instance
theorem keep_one {D W A : Sp} {pd pw pa t : Int} (hd : D.lo ≤ pd ∧ pd ≤ D.hi) (hw : W.lo ≤ pw ∧ pw ≤ W.hi) (ha : A.lo ≤ pa ∧ pa ≤ A.hi) (h1 : (kQ t).e = 0) (h2 : (kW pw t).e = 0) (h3 : (kA pa t).e = 0) (h4 : (kH pa t).e = 0) (h5 : (kS pd pw pa t).e = 0)
    (u : Sp) (hu : Wi (ptS t) u) (he : (alongR D W A u).e = 0) : Wi (kS pd pw pa t).s (alongR D W A u).s := by
  unfold kS kH kA kQ kW at *
  obtain ⟨e1, e2⟩ := sumC_zero h5
  rw [e1]
  exact sum_wi (d := ptS pd) (v := ptS pw) (a := ptS pa) (u := ptS t) (d' := D) (v' := W) (a' := A) (u' := u) ⟨hd.1, hd.2⟩ ⟨hw.1, hw.2⟩ ⟨ha.1, ha.2⟩ hu h1 h2 h3 h4 e2 he
theorem keep_all {m : Mo} {t : Int} {l : List Sx} (h : KeepRow m t l) (hl : l.length = 3) (u : Sp) (hu : Wi (ptS t) u) (h1 : (alongR m.d.x m.w.x m.a.x u).e = 0) (h2 : (alongR m.d.y m.w.y m.a.y u).e = 0) (h3 : (alongR m.d.z m.w.z m.a.z u).e = 0) :
    All2 Wi (valsS l) [(alongR m.d.x m.w.x m.a.x u).s, (alongR m.d.y m.w.y m.a.y u).s, (alongR m.d.z m.w.z m.a.z u).s] := by
  rcases l with _ | ⟨x, _ | ⟨y, _ | ⟨z, _ | ⟨_, _⟩⟩⟩⟩ <;> simp at hl
  have a0 : Wi x.1 (alongR m.d.x m.w.x m.a.x u).s := h 0 (by simp) u hu h1
  have a1 : Wi y.1 (alongR m.d.y m.w.y m.a.y u).s := h 1 (by simp) u hu h2
  have a2 : Wi z.1 (alongR m.d.z m.w.z m.a.z u).s := h 2 (by simp) u hu h3
  show All2 Wi [x.1, y.1, z.1] _
  exact .cons a0 (.cons a1 (.cons a2 .nil))
/-- What Separates says. -/
theorem sep_zero {m : Mo} {keep : Int} (h : (sepR m keep).2 = 0) : ((sepR m keep).1 = 1 ↔ keep ≤ (clearR m).1) ∧ ((sepR m keep).1 = -1 → (clearR m).1 < keep) := by
  unfold sepR at *
  split at h
  · rename_i h1
    rw [if_pos h1]
    split at h
    · rename_i h2
      rw [if_pos h2]
      split at h
      · rename_i h3
        rw [if_pos h3]
        by_cases c : keep ≤ (clearR m).1
        · simp [c]
        · simp only [c, if_false]
          split <;> simp <;> omega
      · rename_i h3
        exact absurd h h3
    · rename_i h2
      exact absurd h h2
  · exact absurd h (by decide)
theorem okB_at {a : Bx} (h : a.okB = true) (j : Nat) : (a.at j).okB = true := by
  unfold Bx.okB at h
  simp at h
  match j with
  | 0 => exact h.1.1
  | 1 => exact h.1.2
  | (n + 2) => exact h.2
instance s64_at' (b : Bx) [h : B64 b] (i : Nat) : S64 (b.at i) := by
  match i with
  | 0 => exact h.x
  | 1 => exact h.y
  | (n + 2) => exact h.z
/-- The cells of one component of a motion. -/
theorem mo_at {w : World} {b : Nat} {m : Mo} (h : BoxAt w b [.int .i64 m.d.x.lo, .int .i64 m.d.x.hi, .int .i64 m.d.y.lo, .int .i64 m.d.y.hi, .int .i64 m.d.z.lo, .int .i64 m.d.z.hi, .int .i64 m.w.x.lo, .int .i64 m.w.x.hi, .int .i64 m.w.y.lo, .int .i64 m.w.y.hi, .int .i64 m.w.z.lo, .int .i64 m.w.z.hi, .int .i64 m.a.x.lo, .int .i64 m.a.x.hi, .int .i64 m.a.y.lo, .int .i64 m.a.y.hi, .int .i64 m.a.z.lo, .int .i64 m.a.z.hi, .int .i64 m.t]) (j : Nat) (hj : j < 3) :
    (w.cell? ⟨b, j * 2, none⟩ = some (.int .i64 (m.d.at j).lo) ∧ w.cell? ⟨b, j * 2 + 1, none⟩ = some (.int .i64 (m.d.at j).hi)) ∧ (w.cell? ⟨b, 6 + j * 2, none⟩ = some (.int .i64 (m.w.at j).lo) ∧ w.cell? ⟨b, 6 + j * 2 + 1, none⟩ = some (.int .i64 (m.w.at j).hi)) ∧
    w.cell? ⟨b, 12 + j * 2, none⟩ = some (.int .i64 (m.a.at j).lo) ∧ w.cell? ⟨b, 12 + j * 2 + 1, none⟩ = some (.int .i64 (m.a.at j).hi) := by
  match j, hj with
  | 0, _ => exact ⟨⟨(h 0 _ rfl).1, (h 1 _ rfl).1⟩, ⟨(h 6 _ rfl).1, (h 7 _ rfl).1⟩, (h 12 _ rfl).1, (h 13 _ rfl).1⟩
  | 1, _ => exact ⟨⟨(h 2 _ rfl).1, (h 3 _ rfl).1⟩, ⟨(h 8 _ rfl).1, (h 9 _ rfl).1⟩, (h 14 _ rfl).1, (h 15 _ rfl).1⟩
  | 2, _ => exact ⟨⟨(h 4 _ rfl).1, (h 5 _ rfl).1⟩, ⟨(h 10 _ rfl).1, (h 11 _ rfl).1⟩, (h 16 _ rfl).1, (h 17 _ rfl).1⟩
theorem boxAt_sz {w : World} {m : Nat} [h : SizeAt w m] (l : List Value) (t : TypeId) : BoxAt (w.alloc (.cells l.toArray t)) m l := by
  obtain rfl := h.eq
  exact boxAt_new w l t
theorem u64_wrap (x : Int) : U64 (IntKind.u64.wrap x) := by
  rw [IntKind.wrap_u64]
  unfold U64
  omega
theorem five_cases (a b c d e : Int) : (a != 0) = true ∨ ((a != 0) = false ∧ (b != 0) = true) ∨ ((a != 0) = false ∧ (b != 0) = false ∧ (c != 0) = true) ∨ ((a != 0) = false ∧ (b != 0) = false ∧ (c != 0) = false ∧ (d != 0) = true) ∨
    ((a != 0) = false ∧ (b != 0) = false ∧ (c != 0) = false ∧ (d != 0) = false ∧ (e != 0) = true) ∨ ((a != 0) = false ∧ (b != 0) = false ∧ (c != 0) = false ∧ (d != 0) = false ∧ (e != 0) = false ∧ a = 0 ∧ b = 0 ∧ c = 0 ∧ d = 0 ∧ e = 0) := by
  by_cases h1 : a = 0 <;> by_cases h2 : b = 0 <;> by_cases h3 : c = 0 <;> by_cases h4 : d = 0 <;> by_cases h5 : e = 0 <;> simp [h1, h2, h3, h4, h5]
/-- A walk halts here. -/
structure Halt (p : Prop) : Prop where
  out : p
theorem spC_snoc (l : List Sx) (y : Sx) : l.flatMap Sx.cells ++ [.int .i64 y.1.lo, .int .i64 y.1.hi] = (l ++ [y]).flatMap Sx.cells := by simp [Sx.cells, Sp.cells]
/-- A span is appended to a row of one's own. -/
theorem wpList_app_sp {ops : Array Oper} {rest : List Oper} {o : Oper} {a : Act} {Q : Exit → Act → World → Prop} (a0 w : World) (g0 : Grew a0 w) {m : Nat} [hm : SizeAt w m] (hgd : o.guard = none) (s x : Operand)
    (ho : o.op = .call { callee := .builtin .append, args := #[s, x], argTypes := #[47, 47] }) (v : Value) (l : List Sx) (hown : w.ownsRow a0.heap.size 36 2 v l.length (l.flatMap Sx.cells)) (hs : a.eval s = v) (y : Sx) (ty : TypeId)
    (hx : a.eval x = .slice (some ⟨m, 0, none⟩) 1 1) (hn : l.length ≤ 1099511627776)
    (h : ∀ v' (u : Later a0), u.world.ownsRow a0.heap.size 36 2 v' (l ++ [y]).length ((l ++ [y]).flatMap Sx.cells) → wpList Try.prog ops Q rest (a.put o.dst v') u.world) :
    wpList Try.prog ops Q (o :: rest) a (w.alloc (.cells #[.int .i64 y.1.lo, .int .i64 y.1.hi] ty)) := by
  obtain rfl := hm.eq
  obtain ⟨i0, hi, hz0, hzz1, hzz2⟩ := info_parts infoSpan
  refine wpList_append_own _ hgd s x 47 ho a0.heap.size 36 i0 _ 2 16 Try.underlying47 hi hz0 hzz1 hzz2 rfl (by decide) v _ _ hs (hown.alloc _) ⟨w.heap.size, 0, none⟩ 1 1 [.int .i64 y.1.lo, .int .i64 y.1.hi] hx rfl (by simpa using cells_new w [.int .i64 y.1.lo, .int .i64 y.1.hi] ty) (by simp [Value.oneCell']) (by simp [maxLen]; omega) (by omega) (by have := g0.size; simp; omega) ?_
  intro v' w1 hown' hgrow _
  obtain ⟨u, rfl⟩ := later_of (Grew.append (g0.alloc (.cells #[.int .i64 y.1.lo, .int .i64 y.1.hi] ty)) (hown.alloc (.cells #[.int .i64 y.1.lo, .int .i64 y.1.hi] ty)) (Nat.le_refl _) hgrow)
  refine h v' u ?_
  rw [← spC_snoc, List.length_append]
  exact hown'
theorem keeps_walk (m : Mo) (pc at_ y0 y1 y2 keep : Int) [hM : Mo64 m] (ht : I64 m.t) (hpc : 0 ≤ pc ∧ pc ≤ 255) (hn : m.n = 1 + pc % 15) (hat : U64 at_) (w : World) : Calls Try.prog 4 #[.agg #[.int .i64 m.d.x.lo, .int .i64 m.d.x.hi, .int .i64 m.d.y.lo, .int .i64 m.d.y.hi, .int .i64 m.d.z.lo, .int .i64 m.d.z.hi, .int .i64 m.w.x.lo, .int .i64 m.w.x.hi, .int .i64 m.w.y.lo, .int .i64 m.w.y.hi, .int .i64 m.w.z.lo, .int .i64 m.w.z.hi, .int .i64 m.a.x.lo, .int .i64 m.a.x.hi, .int .i64 m.a.y.lo, .int .i64 m.a.y.hi, .int .i64 m.a.z.lo, .int .i64 m.a.z.hi, .int .i64 m.t], .int .u8 pc, .int .u64 at_, .agg #[.int .u64 y0, .int .u64 y1, .int .u64 y2], .int .i64 keep] w fun e w' => e = .returned (.bool true) ∧ Grew w w' := by
  have H1 := Lib.hid (fun w => (show Calls Try.prog 11 #[.agg #[.int .i64 m.d.x.lo, .int .i64 m.d.x.hi, .int .i64 m.d.y.lo, .int .i64 m.d.y.hi, .int .i64 m.d.z.lo, .int .i64 m.d.z.hi], .agg #[.int .i64 m.w.x.lo, .int .i64 m.w.x.hi, .int .i64 m.w.y.lo, .int .i64 m.w.y.hi, .int .i64 m.w.z.lo, .int .i64 m.w.z.hi], .agg #[.int .i64 m.a.x.lo, .int .i64 m.a.x.hi, .int .i64 m.a.y.lo, .int .i64 m.a.y.hi, .int .i64 m.a.z.lo, .int .i64 m.a.z.hi], .int .i64 m.t, .int .i64 m.n] w fun e w' => e = .returned (.tuple #[.int .i64 (clearR m).1, .int .i64 (clearR m).2]) ∧ Grew w w' from abClearP_any m ht w))
  obtain ⟨p0, p1⟩ := hpc
  have hx : IntKind.i64.wrap pc = pc := by rw [IntKind.wrap_i64]; omega
  have hr : pc.tmod 15 = pc % 15 := Int.tmod_eq_emod_of_nonneg p0
  have hn1 : 1 + pc % 15 = m.n := hn.symm
  have hn2 : 1 ≤ m.n ∧ m.n ≤ 15 := by omega
  by_cases hc : (clearR m).2 = 0
  rotate_left
  · have hc' : ((clearR m).2 != 0) = true := by simp [hc]
    clear hc hn
    generalize (clearR m).1 = c1 at *
    generalize (clearR m).2 = c2 at *
    generalize m.n = n at *
    generalize pc % 15 = r at *
    go_enter Try.func4, Try.ntmps4
    go_wp2_with (first | (go_at_call 6; (with_reducible refine call_later (alive11_any _) ?_); intro u0) | (go_at_call 11; (with_reducible refine call_later (H1.out _) ?_); intro u1))
    all_goals go_ret
    all_goals exact ⟨rfl, (by repeat (first | with_reducible exact Grew.refl _ | with_reducible apply Grew.alloc | with_reducible apply Grew.later | with_reducible apply Grew.drew | with_reducible apply Grew.store | with_reducible assumption))⟩
  have hok := (clear_zero hc).1
  have hfr := fair_ok hok ht
  obtain ⟨t0, t1, -, -⟩ := hfr
  have hS0 : S64 (⟨0, m.t⟩ : Sp) := ⟨⟨by simp only []; omega, by simp only []; omega⟩, ⟨by simp only []; omega, by simp only []; omega⟩⟩
  have hK0 : (⟨0, m.t⟩ : Sp).okB = true := by unfold Sp.okB numB; simp; omega
  obtain ⟨q1, q2⟩ := pickZ_in ⟨0, m.t⟩ at_ t0
  have HP := Lib.hid (fun w => pick11_any ⟨0, m.t⟩ at_ hK0 hat w)
  have HB := Lib.hid (fun l hr hl => clear_below (m := m) ht hc (t := pickZ ⟨0, m.t⟩ at_) q1 q2 (l := l) hr hl)
  generalize pickZ ⟨0, m.t⟩ at_ = tp at *
  have stp : S64 (ptS tp) := s64_pt (a := ⟨0, m.t⟩) q1 q2
  have hc' : ((clearR m).2 != 0) = false := by simp [hc]
  have Hd := Lib.hid (fun j => okB_at (a := m.d) (by unfold Mo.okB Mo.spansB at hok; simp at hok; exact hok.1.1.1) j)
  have Hw := Lib.hid (fun j => okB_at (a := m.w) (by unfold Mo.okB Mo.spansB at hok; simp at hok; exact hok.1.1.2) j)
  have Ha := Lib.hid (fun j => okB_at (a := m.a) (by unfold Mo.okB Mo.spansB at hok; simp at hok; exact hok.1.2) j)
  have HC := Lib.hid hc
  clear hc hok hn
  go_enter Try.func4, Try.ntmps4
  go_wp2_with (first | (go_at_call 6; (with_reducible refine call_later (alive11_any _) ?_); intro u0) | (go_at_call 11; (with_reducible refine call_later (H1.out _) ?_); intro u1) | (go_at_call 13; (with_reducible refine call_later (HP.out _) ?_); intro u2) | (go_at_call 12; (with_reducible refine call_later (point11_any _ _) ?_); intro u3))
  refine wp_to_later (z := w) (by repeat (first | with_reducible exact Grew.refl _ | with_reducible apply Grew.alloc | with_reducible apply Grew.later | with_reducible apply Grew.drew | with_reducible apply Grew.store | with_reducible assumption)) ?_
  intro V0 hV0
  have bX : BoxAt V0.world w.heap.size [.int .i64 m.d.x.lo, .int .i64 m.d.x.hi, .int .i64 m.d.y.lo, .int .i64 m.d.y.hi, .int .i64 m.d.z.lo, .int .i64 m.d.z.hi, .int .i64 m.w.x.lo, .int .i64 m.w.x.hi, .int .i64 m.w.y.lo, .int .i64 m.w.y.hi, .int .i64 m.w.z.lo, .int .i64 m.w.z.hi, .int .i64 m.a.x.lo, .int .i64 m.a.x.hi, .int .i64 m.a.y.lo, .int .i64 m.a.y.hi, .int .i64 m.a.z.lo, .int .i64 m.a.z.hi, .int .i64 m.t] := by rw [hV0]; exact (boxAt_new w [.int .i64 m.d.x.lo, .int .i64 m.d.x.hi, .int .i64 m.d.y.lo, .int .i64 m.d.y.hi, .int .i64 m.d.z.lo, .int .i64 m.d.z.hi, .int .i64 m.w.x.lo, .int .i64 m.w.x.hi, .int .i64 m.w.y.lo, .int .i64 m.w.y.hi, .int .i64 m.w.z.lo, .int .i64 m.w.z.hi, .int .i64 m.a.x.lo, .int .i64 m.a.x.hi, .int .i64 m.a.y.lo, .int .i64 m.a.y.hi, .int .i64 m.a.z.lo, .int .i64 m.a.z.hi, .int .i64 m.t] 40).grew (by simp) (by repeat (first | with_reducible exact Grew.refl _ | with_reducible apply Grew.alloc | with_reducible apply Grew.later | with_reducible apply Grew.drew | with_reducible apply Grew.store | with_reducible assumption))
  have bY : BoxAt V0.world (w.heap.size + 1) [.int .u64 y0, .int .u64 y1, .int .u64 y2] := by rw [hV0]; exact (boxAt_sz (w := w.alloc (.cells #[.int .i64 m.d.x.lo, .int .i64 m.d.x.hi, .int .i64 m.d.y.lo, .int .i64 m.d.y.hi, .int .i64 m.d.z.lo, .int .i64 m.d.z.hi, .int .i64 m.w.x.lo, .int .i64 m.w.x.hi, .int .i64 m.w.y.lo, .int .i64 m.w.y.hi, .int .i64 m.w.z.lo, .int .i64 m.w.z.hi, .int .i64 m.a.x.lo, .int .i64 m.a.x.hi, .int .i64 m.a.y.lo, .int .i64 m.a.y.hi, .int .i64 m.a.z.lo, .int .i64 m.a.z.hi, .int .i64 m.t] 40)) [.int .u64 y0, .int .u64 y1, .int .u64 y2] 42).grew (by simp) (by repeat (first | with_reducible exact Grew.refl _ | with_reducible apply Grew.alloc | with_reducible apply Grew.later | with_reducible apply Grew.drew | with_reducible apply Grew.store | with_reducible assumption))
  have bT : BoxAt V0.world u3.world.heap.size [.int .i64 tp, .int .i64 tp] := by rw [hV0]; exact boxAt_new _ _ _
  have hlt5 : w.heap.size < V0.world.heap.size := World.block_lt_of_cell? _ _ (bX 0 _ rfl).1
  have hlt8 : w.heap.size + 1 < V0.world.heap.size := World.block_lt_of_cell? _ _ (bY 0 _ rfl).1
  have hlt15 : u3.world.heap.size < V0.world.heap.size := World.block_lt_of_cell? _ _ (bT 0 _ rfl).1
  clear hV0
  generalize hb5 : w.heap.size = b5 at *
  generalize hb8 : b5 + 1 = b8 at *
  generalize hb15 : u3.world.heap.size = b15 at *
  clear hb8 hb15
  have ib5 : BlockIn V0.world b5 := ⟨hlt5⟩
  have ib8 : BlockIn V0.world b8 := ⟨hlt8⟩
  have ib15 : BlockIn V0.world b15 := ⟨hlt15⟩
  have HMo := Lib.hid (fun j hj => mo_at bX j hj)
  have HX := Lib.hid bX
  have bY_0 := (bY 0 _ rfl).1
  have bYf0 := (bY 0 _ rfl).2
  have bYi0 : HasCell (V0.world) (b8) 0 := ⟨_, bY_0⟩
  have bY_1 := (bY 1 _ rfl).1
  have bYf1 := (bY 1 _ rfl).2
  have bYi1 : HasCell (V0.world) (b8) 1 := ⟨_, bY_1⟩
  have bY_2 := (bY 2 _ rfl).1
  have bYf2 := (bY 2 _ rfl).2
  have bYi2 : HasCell (V0.world) (b8) 2 := ⟨_, bY_2⟩
  have bYb : BlockIn (V0.world) (b8) := BlockIn.of_cell bY_0
  clear bY
  have bT_0 := (bT 0 _ rfl).1
  have bTf0 := (bT 0 _ rfl).2
  have bTi0 : HasCell (V0.world) (b15) 0 := ⟨_, bT_0⟩
  have bT_1 := (bT 1 _ rfl).1
  have bTf1 := (bT 1 _ rfl).2
  have bTi1 : HasCell (V0.world) (b15) 1 := ⟨_, bT_1⟩
  have bTb : BlockIn (V0.world) (b15) := BlockIn.of_cell bT_0
  clear bT
  go_loopw [16, 68] (fun v t wr => ∃ (i : Nat) (l : List Sx) (v3 : Value), t = .int .i64 i ∧ v3 = v ∧ i ≤ 3 ∧ Hid (l.length = i) ∧ Hid (KeepRow m tp l) ∧ wr.ownsRow V0.world.heap.size 36 2 v3 l.length (l.flatMap Sx.cells) ∧ Grew V0.world wr) (fun _ t _ => 3 - (intOf t).toNat)
  case atStart => exact ⟨0, [], _, rfl, rfl, by omega, Lib.hid rfl, Lib.hid (fun j hj => by simp at hj), World.ownsRow_nil _ _ _ _, (by repeat (first | with_reducible exact Grew.refl _ | with_reducible apply Grew.alloc | with_reducible apply Grew.later | with_reducible apply Grew.drew | with_reducible apply Grew.store | with_reducible assumption))⟩
  case round =>
    obtain ⟨i, l, v3, rfl, rfl, hi, Hl, HK, hown, hg⟩ := hrel
    obtain ⟨z, rfl⟩ := later_of hg
    clear hg
    by_cases hlt : i < 3
    · obtain ⟨⟨d0, d1⟩, ⟨w0, w1⟩, a0, a1⟩ := HMo.out i hlt
      have oD := Hd.out i
      have oW := Hw.out i
      have oA := Ha.out i
      clear bX
      have Hsn := Lib.hid (fun (x : Sx) (hx : ∀ u, Wi (ptS tp) u → (alongR (m.d.at i) (m.w.at i) (m.a.at i) u).e = 0 → Wi x.1 (alongR (m.d.at i) (m.w.at i) (m.a.at i) u).s) => keepRow_snoc HK.out (x := x) (by rw [Hl.out]; exact hx))
      have sD : S64 (m.d.at i) := inferInstance
      have sW : S64 (m.w.at i) := inferInstance
      have sA : S64 (m.a.at i) := inferInstance
      generalize m.d.at i = D at *
      generalize m.w.at i = W at *
      generalize m.a.at i = A at *
      have H8 := Lib.hid (fun w => pick11_any D (IntKind.u64.wrap (y0 * ((i : Int) + 1))) oD (u64_wrap _) w)
      have H18 := Lib.hid (fun w => pick11_any W (IntKind.u64.wrap (y1 * ((i : Int) + 1))) oW (u64_wrap _) w)
      have H28 := Lib.hid (fun w => pick11_any A (IntKind.u64.wrap (y2 * ((i : Int) + 1))) oA (u64_wrap _) w)
      have rD := pickZ_in D (IntKind.u64.wrap (y0 * ((i : Int) + 1))) (ok_le oD)
      have rW := pickZ_in W (IntKind.u64.wrap (y1 * ((i : Int) + 1))) (ok_le oW)
      have rA := pickZ_in A (IntKind.u64.wrap (y2 * ((i : Int) + 1))) (ok_le oA)
      generalize pickZ D (IntKind.u64.wrap (y0 * ((i : Int) + 1))) = pd at *
      generalize pickZ W (IntKind.u64.wrap (y1 * ((i : Int) + 1))) = pw at *
      generalize pickZ A (IntKind.u64.wrap (y2 * ((i : Int) + 1))) = pa at *
      have spd : S64 (ptS pd) := s64_pt rD.1 rD.2
      have spw : S64 (ptS pw) := s64_pt rW.1 rW.2
      have spa : S64 (ptS pa) := s64_pt rA.1 rA.2
      have Hone := Lib.hid (fun h1 h2 h3 h4 h5 => keep_one (t := tp) rD rW rA h1 h2 h3 h4 h5)
      have H13 := Lib.hid (fun w => (show Calls Try.prog 14 #[.agg #[.int .i64 ((ptS tp)).lo, .int .i64 ((ptS tp)).hi]] w fun e w' => e = .returned (.tuple #[.agg #[.int .i64 (kQ tp).s.lo, .int .i64 (kQ tp).s.hi], .int .i64 (kQ tp).e]) ∧ Grew w w' from spSquare_any (ptS tp) w))
      have sQ : S64 (kQ tp).s := s64_square _
      have H14 := Lib.hid (fun w => (show Calls Try.prog 15 #[.agg #[.int .i64 ((ptS pw)).lo, .int .i64 ((ptS pw)).hi], .agg #[.int .i64 ((ptS tp)).lo, .int .i64 ((ptS tp)).hi]] w fun e w' => e = .returned (.tuple #[.agg #[.int .i64 (kW pw tp).s.lo, .int .i64 (kW pw tp).s.hi], .int .i64 (kW pw tp).e]) ∧ Grew w w' from spMul_any (ptS pw) (ptS tp) w))
      have H15 := Lib.hid (fun w => (show Calls Try.prog 15 #[.agg #[.int .i64 ((ptS pa)).lo, .int .i64 ((ptS pa)).hi], .agg #[.int .i64 ((kQ tp).s).lo, .int .i64 ((kQ tp).s).hi]] w fun e w' => e = .returned (.tuple #[.agg #[.int .i64 (kA pa tp).s.lo, .int .i64 (kA pa tp).s.hi], .int .i64 (kA pa tp).e]) ∧ Grew w w' from spMul_any (ptS pa) (kQ tp).s w))
      have sW2 : S64 (kW pw tp).s := s64_mul _ _
      have sA2 : S64 (kA pa tp).s := s64_mul _ _
      have w2 := wholeS_64 2 (by omega) (by omega)
      have H16 := Lib.hid (fun w => (show Calls Try.prog 16 #[.agg #[.int .i64 ((kA pa tp).s).lo, .int .i64 ((kA pa tp).s).hi], .agg #[.int .i64 8589934592, .int .i64 8589934592]] w fun e w' => e = .returned (.tuple #[.agg #[.int .i64 (kH pa tp).s.lo, .int .i64 (kH pa tp).s.hi], .int .i64 (kH pa tp).e]) ∧ Grew w w' from spDiv_any (kA pa tp).s (wholeS 2) w))
      have sH2 : S64 (kH pa tp).s := s64_div _ _
      have H17 := Lib.hid (fun ao w (hs : SlAt w (.slice ao 3 3) 3 [.int .i64 ((ptS pd)).lo, .int .i64 ((ptS pd)).hi, .int .i64 ((kW pw tp).s).lo, .int .i64 ((kW pw tp).s).hi, .int .i64 ((kH pa tp).s).lo, .int .i64 ((kH pa tp).s).hi]) => (show Calls Try.prog 17 #[.slice ao 3 3] w fun e w' => e = .returned (.tuple #[.agg #[.int .i64 (kS pd pw pa tp).s.lo, .int .i64 (kS pd pw pa tp).s.hi], .int .i64 (kS pd pw pa tp).e]) ∧ Grew w w' from spSum_any [⟨ptS pd, spd⟩, ⟨(kW pw tp).s, sW2⟩, ⟨(kH pa tp).s, sH2⟩] ao 3 w hs))
      have sS2 : S64 (kS pd pw pa tp).s := s64_sum3 _ _ _
      clear rD rW rA oD oW oA
      generalize kS pd pw pa tp = rS at *
      generalize kH pa tp = rH at *
      generalize kA pa tp = rA at *
      generalize kW pw tp = rW at *
      generalize kQ tp = rQ at *
      go_wp2
      refine wp_region_grown 33 [30, 31, 32] [8, 9, 18, 19, 28, 29] [] (fun W0 => [(30, BoxR W0 [.int .i64 0, .int .i64 0]), (31, BoxR W0 [.int .i64 0, .int .i64 0]), (32, BoxR W0 [.int .i64 0, .int .i64 0])]) [.int .i64 pd, .agg #[.int .i64 ((ptS pd)).lo, .int .i64 ((ptS pd)).hi], .int .i64 pw, .agg #[.int .i64 ((ptS pw)).lo, .int .i64 ((ptS pw)).hi], .int .i64 pa, .agg #[.int .i64 ((ptS pa)).lo, .int .i64 ((ptS pa)).hi]] [33, 34, 35] (by rfl) (by intro W0 x hx; simp only [List.mem_cons, List.not_mem_nil, or_false] at hx; rcases hx with rfl | rfl | rfl <;> first | exact good_box _ _ | exact good_box _ _ | exact good_box _ _) (by kernel_rfl) (by kernel_rfl) (by kernel_rfl) ?_
      intro p
      apply Exists.intro
      apply And.intro
      apply lexg_pure (by kernel_rfl)
      · intro u; unfold opPure; go_simp; rfl
      apply lexg_pure (by kernel_rfl)
      · intro u; unfold opPure; go_simp; rfl
      apply lexg_pure (by kernel_rfl)
      · intro u; unfold opPure; go_simp; rfl
      apply lexg_pure (by kernel_rfl)
      · intro u; unfold opPure; go_simp; rfl
      apply lexg_pure (by kernel_rfl)
      · intro u; unfold opPure; go_simp; rfl
      apply lexg_pure (by kernel_rfl)
      · intro u; unfold opPure; go_simp; rfl
      apply lexg_pure (by kernel_rfl)
      · intro u; unfold opPure; go_simp; rfl
      apply lexg_pure (by kernel_rfl)
      · intro u; unfold opPure; go_simp; rfl
      apply lexg_call 0 (by kernel_rfl) (by rfl) (by decide)
      · intro u hF; clear hF; unfold opCall; go_simp; exact H8.out _
      apply lexg_call 1 (by kernel_rfl) (by rfl) (by decide)
      · intro u hF; clear hF; unfold opCall; go_simp; exact point11_any _ _
      apply lexg_pure (by kernel_rfl)
      · intro u; unfold opPure; go_simp; rfl
      apply lexg_pure (by kernel_rfl)
      · intro u; unfold opPure; go_simp; rfl
      apply lexg_pure (by kernel_rfl)
      · intro u; unfold opPure; go_simp; rfl
      apply lexg_pure (by kernel_rfl)
      · intro u; unfold opPure; go_simp; rfl
      apply lexg_pure (by kernel_rfl)
      · intro u; unfold opPure; go_simp; rfl
      apply lexg_pure (by kernel_rfl)
      · intro u; unfold opPure; go_simp; rfl
      apply lexg_pure (by kernel_rfl)
      · intro u; unfold opPure; go_simp; rfl
      apply lexg_pure (by kernel_rfl)
      · intro u; unfold opPure; go_simp; rfl
      apply lexg_call 2 (by kernel_rfl) (by rfl) (by decide)
      · intro u hF; clear hF; unfold opCall; go_simp; exact H18.out _
      apply lexg_call 3 (by kernel_rfl) (by rfl) (by decide)
      · intro u hF; clear hF; unfold opCall; go_simp; exact point11_any _ _
      apply lexg_pure (by kernel_rfl)
      · intro u; unfold opPure; go_simp; rfl
      apply lexg_pure (by kernel_rfl)
      · intro u; unfold opPure; go_simp; rfl
      apply lexg_pure (by kernel_rfl)
      · intro u; unfold opPure; go_simp; rfl
      apply lexg_pure (by kernel_rfl)
      · intro u; unfold opPure; go_simp; rfl
      apply lexg_pure (by kernel_rfl)
      · intro u; unfold opPure; go_simp; rfl
      apply lexg_pure (by kernel_rfl)
      · intro u; unfold opPure; go_simp; rfl
      apply lexg_pure (by kernel_rfl)
      · intro u; unfold opPure; go_simp; rfl
      apply lexg_pure (by kernel_rfl)
      · intro u; unfold opPure; go_simp; rfl
      apply lexg_call 4 (by kernel_rfl) (by rfl) (by decide)
      · intro u hF; clear hF; unfold opCall; go_simp; exact H28.out _
      apply lexg_call 5 (by kernel_rfl) (by rfl) (by decide)
      · intro u hF; clear hF; unfold opCall; go_simp; exact point11_any _ _
      apply lexg_make (by kernel_rfl)
      · intro u hF; clear hF; unfold opMake; go_simp; exact made_box _ _ _ _
      apply lexg_make (by kernel_rfl)
      · intro u hF; clear hF; unfold opMake; go_simp; exact made_box _ _ _ _
      apply lexg_make (by kernel_rfl)
      · intro u hF; clear hF; unfold opMake; go_simp; exact made_box _ _ _ _
      apply lexg_end
      rotate_left
      · rfl
      intro u hR hD
      obtain ⟨q30, e30, hB30, kB30, nB30⟩ := (show BoxR _ [.int .i64 0, .int .i64 0] (p 30) u.world from hR 30 (by decide))
      obtain ⟨q31, e31, hB31, kB31, nB31⟩ := (show BoxR _ [.int .i64 0, .int .i64 0] (p 31) u.world from hR 31 (by decide))
      obtain ⟨q32, e32, hB32, kB32, nB32⟩ := (show BoxR _ [.int .i64 0, .int .i64 0] (p 32) u.world from hR 32 (by decide))
      have hd31 := hD 30 31 (by decide) (by decide) (by decide)
      rw [e30, e31] at hd31
      obtain ⟨ap30_31, ap31_30⟩ := apart_of_differ hd31
      clear hd31
      have hd32 := hD 30 32 (by decide) (by decide) (by decide)
      rw [e30, e32] at hd32
      obtain ⟨ap30_32, ap32_30⟩ := apart_of_differ hd32
      clear hd32
      have hd32 := hD 31 32 (by decide) (by decide) (by decide)
      rw [e31, e32] at hd32
      obtain ⟨ap31_32, ap32_31⟩ := apart_of_differ hd32
      clear hd32
      clear hR hD
      rw [e30]
      clear e30
      have oB30 := apart_oldL nB30
      have oC30 := apart_oldR nB30
      have nC30 : NewFor w q30 := ⟨Nat.le_trans (Grew.size (by repeat (first | with_reducible exact Grew.refl _ | with_reducible apply Grew.alloc | with_reducible apply Grew.later | with_reducible apply Grew.drew | with_reducible apply Grew.store | with_reducible assumption))) nB30.le⟩
      have hB30_0 := (hB30 0 _ rfl).1
      have hB30f0 := (hB30 0 _ rfl).2
      have hB30i0 : HasCell (u.world) (q30) 0 := ⟨_, hB30_0⟩
      have hB30_1 := (hB30 1 _ rfl).1
      have hB30f1 := (hB30 1 _ rfl).2
      have hB30i1 : HasCell (u.world) (q30) 1 := ⟨_, hB30_1⟩
      have hB30b : BlockIn (u.world) (q30) := BlockIn.of_cell hB30_0
      clear hB30
      rw [e31]
      clear e31
      have oB31 := apart_oldL nB31
      have oC31 := apart_oldR nB31
      have nC31 : NewFor w q31 := ⟨Nat.le_trans (Grew.size (by repeat (first | with_reducible exact Grew.refl _ | with_reducible apply Grew.alloc | with_reducible apply Grew.later | with_reducible apply Grew.drew | with_reducible apply Grew.store | with_reducible assumption))) nB31.le⟩
      have hB31_0 := (hB31 0 _ rfl).1
      have hB31f0 := (hB31 0 _ rfl).2
      have hB31i0 : HasCell (u.world) (q31) 0 := ⟨_, hB31_0⟩
      have hB31_1 := (hB31 1 _ rfl).1
      have hB31f1 := (hB31 1 _ rfl).2
      have hB31i1 : HasCell (u.world) (q31) 1 := ⟨_, hB31_1⟩
      have hB31b : BlockIn (u.world) (q31) := BlockIn.of_cell hB31_0
      clear hB31
      rw [e32]
      clear e32
      have oB32 := apart_oldL nB32
      have oC32 := apart_oldR nB32
      have nC32 : NewFor w q32 := ⟨Nat.le_trans (Grew.size (by repeat (first | with_reducible exact Grew.refl _ | with_reducible apply Grew.alloc | with_reducible apply Grew.later | with_reducible apply Grew.drew | with_reducible apply Grew.store | with_reducible assumption))) nB32.le⟩
      have hB32_0 := (hB32 0 _ rfl).1
      have hB32f0 := (hB32 0 _ rfl).2
      have hB32i0 : HasCell (u.world) (q32) 0 := ⟨_, hB32_0⟩
      have hB32_1 := (hB32 1 _ rfl).1
      have hB32f1 := (hB32 1 _ rfl).2
      have hB32i1 : HasCell (u.world) (q32) 1 := ⟨_, hB32_1⟩
      have hB32b : BlockIn (u.world) (q32) := BlockIn.of_cell hB32_0
      clear hB32
      refine tail_store (by rfl) ?_; unfold opStore; go_simp
      refine tail_store (by rfl) ?_; unfold opStore; go_simp
      refine tail_store (by rfl) ?_; unfold opStore; go_simp
      refine tail_end ?_
      have nZ30 : NewFor z.world q30 := ⟨nB30.le⟩
      have nZ31 : NewFor z.world q31 := ⟨nB31.le⟩
      have nZ32 : NewFor z.world q32 := ⟨nB32.le⟩
      have nV30 : NewFor V0.world q30 := ⟨Nat.le_trans (Grew.size (show Grew V0.world z.world from (by repeat (first | with_reducible exact Grew.refl _ | with_reducible apply Grew.alloc | with_reducible apply Grew.later | with_reducible apply Grew.drew | with_reducible apply Grew.store | with_reducible assumption)))) nB30.le⟩
      have nV31 : NewFor V0.world q31 := ⟨Nat.le_trans (Grew.size (show Grew V0.world z.world from (by repeat (first | with_reducible exact Grew.refl _ | with_reducible apply Grew.alloc | with_reducible apply Grew.later | with_reducible apply Grew.drew | with_reducible apply Grew.store | with_reducible assumption)))) nB31.le⟩
      have nV32 : NewFor V0.world q32 := ⟨Nat.le_trans (Grew.size (show Grew V0.world z.world from (by repeat (first | with_reducible exact Grew.refl _ | with_reducible apply Grew.alloc | with_reducible apply Grew.later | with_reducible apply Grew.drew | with_reducible apply Grew.store | with_reducible assumption)))) nB32.le⟩
      go_wp2_with (first | (go_at_call 14; (with_reducible refine call_later (H13.out _) ?_); intro u13) | (go_at_call 15; (with_reducible refine call_later (H14.out _) ?_); intro u14) | (go_at_call 15; (with_reducible refine call_later (H15.out _) ?_); intro u15))
      go_region_with (first | (go_at_call 12; (with_reducible refine call_later (point11_any _ _) ?_); intro u16) | (go_at_call 16; (with_reducible refine call_later (H16.out _) ?_); intro u17))
      all_goals go_wp2_with (go_at_call 17; refine call_later (H17.out _ _ (SlAt.fresh _ _ _ _ (by simp [maxLen]))) ?_; intro u18; refine Halt.out ?_)
      all_goals refine ⟨?_⟩
      all_goals rcases five_cases rQ.e rW.e rA.e rH.e rS.e with h1 | ⟨h1, h2⟩ | ⟨h1, h2, h3⟩ | ⟨h1, h2, h3, h4⟩ | ⟨h1, h2, h3, h4, h5⟩ | ⟨h1, h2, h3, h4, h5, hall⟩
      all_goals first | (have hh := hall; clear hh; refine Halt.out ?_) | (go_wp2; go_ret; exact ⟨rfl, (by repeat (first | with_reducible exact Grew.refl _ | with_reducible apply Grew.alloc | with_reducible apply Grew.later | with_reducible apply Grew.drew | with_reducible apply Grew.store | with_reducible assumption))⟩)
      all_goals refine ⟨?_⟩
      all_goals have H5 := Lib.hid (Hsn.out ⟨rS.s, sS2⟩ (fun u hu he => Hone.out hall.1 hall.2.1 hall.2.2.1 hall.2.2.2.1 hall.2.2.2.2 u hu he))
      all_goals clear hall Hone Hsn H8 H18 H28 H13 H14 H15 H16 H17
      all_goals have hl3 : l.length ≤ 3 := by rw [Hl.out]; omega
      all_goals go_wp2_with (at_builtin; refine wpList_app_sp V0.world _ (by repeat (first | with_reducible exact Grew.refl _ | with_reducible apply Grew.alloc | with_reducible apply Grew.later | with_reducible apply Grew.drew | with_reducible apply Grew.store | with_reducible assumption)) rfl _ _ rfl _ _ (owns_grew hown (show Grew z.world _ from (by repeat (first | with_reducible exact Grew.refl _ | with_reducible apply Grew.alloc | with_reducible apply Grew.later | with_reducible apply Grew.drew | with_reducible apply Grew.store | with_reducible assumption)))) rfl ⟨rS.s, sS2⟩ _ rfl (by omega) ?_; intro v' yv hown')
      all_goals
        go_roundw
        case rel => exact ⟨i + 1, l ++ [⟨rS.s, sS2⟩], _, by go_num, rfl, by omega, Lib.hid (by rw [List.length_append, Hl.out]; rfl), H5, hown', (by repeat (first | with_reducible exact Grew.refl _ | with_reducible apply Grew.alloc | with_reducible apply Grew.later | with_reducible apply Grew.drew | with_reducible apply Grew.store | with_reducible assumption))⟩
        case measure => simp [intOf]; omega
    · as_aux_lemma =>
      have hl3 : l.length = 3 := by rw [Hl.out]; omega
      obtain ⟨ao, cap, rfl⟩ := owns_form hown
      have HSl := Lib.hid (SlAt.of_owns hown)
      have HN := Lib.hid (fun w' (g : Grew z.world w') => spNorm_any l ao cap w' (HSl.out.grew g))
      have hB : (normR (valsS l)).e = 0 → (clearR m).1 ≤ (normR (valsS l)).s.hi := fun hr => by
        have q3 := HB.out (valsS l) hr (fun u hu e1 e2 e3 => keep_all HK.out hl3 u hu e1 e2 e3)
        have q4 := (norm_ord hr).2
        omega
      have H2 := Lib.hid (fun w => (show Calls Try.prog 11 #[.agg #[.int .i64 m.d.x.lo, .int .i64 m.d.x.hi, .int .i64 m.d.y.lo, .int .i64 m.d.y.hi, .int .i64 m.d.z.lo, .int .i64 m.d.z.hi], .agg #[.int .i64 m.w.x.lo, .int .i64 m.w.x.hi, .int .i64 m.w.y.lo, .int .i64 m.w.y.hi, .int .i64 m.w.z.lo, .int .i64 m.w.z.hi], .agg #[.int .i64 m.a.x.lo, .int .i64 m.a.x.hi, .int .i64 m.a.y.lo, .int .i64 m.a.y.hi, .int .i64 m.a.z.lo, .int .i64 m.a.z.hi], .int .i64 m.t, .int .i64 (2 * m.n)] w fun e w' => e = .returned (.tuple #[.int .i64 (clearR ⟨m.d, m.w, m.a, m.t, 2 * m.n⟩).1, .int .i64 (clearR ⟨m.d, m.w, m.a, m.t, 2 * m.n⟩).2]) ∧ Grew w w' from @abClearP_any ⟨m.d, m.w, m.a, m.t, 2 * m.n⟩ ⟨hM.d, hM.w, hM.a⟩ ht w))
      have hM2 : (clearR ⟨m.d, m.w, m.a, m.t, 2 * m.n⟩).2 = 0 → (clearR m).1 ≤ (clearR ⟨m.d, m.w, m.a, m.t, 2 * m.n⟩).1 := fun h2 => clear_more ht rfl rfl rfl rfl rfl HC.out h2
      have H3 := Lib.hid (fun w => (show Calls Try.prog 19 #[.agg #[.int .i64 m.d.x.lo, .int .i64 m.d.x.hi, .int .i64 m.d.y.lo, .int .i64 m.d.y.hi, .int .i64 m.d.z.lo, .int .i64 m.d.z.hi], .agg #[.int .i64 m.w.x.lo, .int .i64 m.w.x.hi, .int .i64 m.w.y.lo, .int .i64 m.w.y.hi, .int .i64 m.w.z.lo, .int .i64 m.w.z.hi], .agg #[.int .i64 m.a.x.lo, .int .i64 m.a.x.hi, .int .i64 m.a.y.lo, .int .i64 m.a.y.hi, .int .i64 m.a.z.lo, .int .i64 m.a.z.hi], .int .i64 m.t, .int .i64 keep, .int .i64 m.n] w fun e w' => e = .returned (.tuple #[.int .i64 (sepR m keep).1, .int .i64 (sepR m keep).2]) ∧ Grew w w' from abSep_any m keep ht w))
      have hS := fun h => sep_zero (m := m) (keep := keep) h
      have hbX := HX.out
      clear HB HC HMo Hd Hw Ha HP
      generalize clearR ⟨m.d, m.w, m.a, m.t, 2 * m.n⟩ = c2 at *
      generalize sepR m keep = s at *
      generalize clearR m = c1 at *
      generalize normR (valsS l) = r at *
      have hbX_0 := (hbX 0 _ rfl).1
      have hbXf0 := (hbX 0 _ rfl).2
      have hbXi0 : HasCell (V0.world) (b5) 0 := ⟨_, hbX_0⟩
      have hbX_1 := (hbX 1 _ rfl).1
      have hbXf1 := (hbX 1 _ rfl).2
      have hbXi1 : HasCell (V0.world) (b5) 1 := ⟨_, hbX_1⟩
      have hbX_2 := (hbX 2 _ rfl).1
      have hbXf2 := (hbX 2 _ rfl).2
      have hbXi2 : HasCell (V0.world) (b5) 2 := ⟨_, hbX_2⟩
      have hbX_3 := (hbX 3 _ rfl).1
      have hbXf3 := (hbX 3 _ rfl).2
      have hbXi3 : HasCell (V0.world) (b5) 3 := ⟨_, hbX_3⟩
      have hbX_4 := (hbX 4 _ rfl).1
      have hbXf4 := (hbX 4 _ rfl).2
      have hbXi4 : HasCell (V0.world) (b5) 4 := ⟨_, hbX_4⟩
      have hbX_5 := (hbX 5 _ rfl).1
      have hbXf5 := (hbX 5 _ rfl).2
      have hbXi5 : HasCell (V0.world) (b5) 5 := ⟨_, hbX_5⟩
      have hbX_6 := (hbX 6 _ rfl).1
      have hbXf6 := (hbX 6 _ rfl).2
      have hbXi6 : HasCell (V0.world) (b5) 6 := ⟨_, hbX_6⟩
      have hbX_7 := (hbX 7 _ rfl).1
      have hbXf7 := (hbX 7 _ rfl).2
      have hbXi7 : HasCell (V0.world) (b5) 7 := ⟨_, hbX_7⟩
      have hbX_8 := (hbX 8 _ rfl).1
      have hbXf8 := (hbX 8 _ rfl).2
      have hbXi8 : HasCell (V0.world) (b5) 8 := ⟨_, hbX_8⟩
      have hbX_9 := (hbX 9 _ rfl).1
      have hbXf9 := (hbX 9 _ rfl).2
      have hbXi9 : HasCell (V0.world) (b5) 9 := ⟨_, hbX_9⟩
      have hbX_10 := (hbX 10 _ rfl).1
      have hbXf10 := (hbX 10 _ rfl).2
      have hbXi10 : HasCell (V0.world) (b5) 10 := ⟨_, hbX_10⟩
      have hbX_11 := (hbX 11 _ rfl).1
      have hbXf11 := (hbX 11 _ rfl).2
      have hbXi11 : HasCell (V0.world) (b5) 11 := ⟨_, hbX_11⟩
      have hbX_12 := (hbX 12 _ rfl).1
      have hbXf12 := (hbX 12 _ rfl).2
      have hbXi12 : HasCell (V0.world) (b5) 12 := ⟨_, hbX_12⟩
      have hbX_13 := (hbX 13 _ rfl).1
      have hbXf13 := (hbX 13 _ rfl).2
      have hbXi13 : HasCell (V0.world) (b5) 13 := ⟨_, hbX_13⟩
      have hbX_14 := (hbX 14 _ rfl).1
      have hbXf14 := (hbX 14 _ rfl).2
      have hbXi14 : HasCell (V0.world) (b5) 14 := ⟨_, hbX_14⟩
      have hbX_15 := (hbX 15 _ rfl).1
      have hbXf15 := (hbX 15 _ rfl).2
      have hbXi15 : HasCell (V0.world) (b5) 15 := ⟨_, hbX_15⟩
      have hbX_16 := (hbX 16 _ rfl).1
      have hbXf16 := (hbX 16 _ rfl).2
      have hbXi16 : HasCell (V0.world) (b5) 16 := ⟨_, hbX_16⟩
      have hbX_17 := (hbX 17 _ rfl).1
      have hbXf17 := (hbX 17 _ rfl).2
      have hbXi17 : HasCell (V0.world) (b5) 17 := ⟨_, hbX_17⟩
      have hbX_18 := (hbX 18 _ rfl).1
      have hbXf18 := (hbX 18 _ rfl).2
      have hbXi18 : HasCell (V0.world) (b5) 18 := ⟨_, hbX_18⟩
      have hbXb : BlockIn (V0.world) (b5) := BlockIn.of_cell hbX_0
      clear hbX
      have hi3 : decide ((i : Int) < 3) = false := by simp; omega
      clear hl3
      by_cases hr : r.e = 0
      rotate_left
      · have hr' : (r.e != 0) = true := by simp [hr]
        clear hr hB hM2 hS
        go_wp2_with (first | (go_at_call 18; (with_reducible refine call_later (HN.out _ (by repeat (first | with_reducible exact Grew.refl _ | with_reducible apply Grew.alloc | with_reducible apply Grew.later | with_reducible apply Grew.drew | with_reducible apply Grew.store | with_reducible assumption))) ?_); intro u31))
        go_ret
        exact ⟨rfl, (by repeat (first | with_reducible exact Grew.refl _ | with_reducible apply Grew.alloc | with_reducible apply Grew.later | with_reducible apply Grew.drew | with_reducible apply Grew.store | with_reducible assumption))⟩
      have hB1 := hB hr
      have hr' : (r.e != 0) = false := by simp [hr]
      have hB2 : decide (r.s.hi < c1.1) = false := by simp; omega
      have Hr := Lib.hid hr
      clear hB hr
      by_cases hs : s.2 = 0
      rotate_left
      · have hs' : (s.2 != 0) = true := by simp [hs]
        clear hs hS
        by_cases h2 : c2.2 = 0
        · have hc2 := hM2 h2
          have hc2' : decide (c2.1 < c1.1) = false := by simp; omega
          have h2' : (c2.2 == 0) = true := by simp [h2]
          clear hM2 h2 hc2
          go_wp2_with (first | (go_at_call 18; (with_reducible refine call_later (HN.out _ (by repeat (first | with_reducible exact Grew.refl _ | with_reducible apply Grew.alloc | with_reducible apply Grew.later | with_reducible apply Grew.drew | with_reducible apply Grew.store | with_reducible assumption))) ?_); intro u31) | (go_at_call 11; (with_reducible refine call_later (H2.out _) ?_); intro u32) | (go_at_call 19; (with_reducible refine call_later (H3.out _) ?_); intro u33))
          all_goals go_ret
          all_goals exact ⟨rfl, (by repeat (first | with_reducible exact Grew.refl _ | with_reducible apply Grew.alloc | with_reducible apply Grew.later | with_reducible apply Grew.drew | with_reducible apply Grew.store | with_reducible assumption))⟩
        · have h2' : (c2.2 == 0) = false := by simp [h2]
          clear hM2 h2
          go_wp2_with (first | (go_at_call 18; (with_reducible refine call_later (HN.out _ (by repeat (first | with_reducible exact Grew.refl _ | with_reducible apply Grew.alloc | with_reducible apply Grew.later | with_reducible apply Grew.drew | with_reducible apply Grew.store | with_reducible assumption))) ?_); intro u31) | (go_at_call 11; (with_reducible refine call_later (H2.out _) ?_); intro u32) | (go_at_call 19; (with_reducible refine call_later (H3.out _) ?_); intro u33))
          all_goals go_ret
          all_goals exact ⟨rfl, (by repeat (first | with_reducible exact Grew.refl _ | with_reducible apply Grew.alloc | with_reducible apply Grew.later | with_reducible apply Grew.drew | with_reducible apply Grew.store | with_reducible assumption))⟩
      obtain ⟨s1, s2⟩ := hS hs
      have hs' : (s.2 != 0) = false := by simp [hs]
      clear hs hS
      by_cases h2 : c2.2 = 0
      · have hc2 := hM2 h2
        have hc2' : decide (c2.1 < c1.1) = false := by simp; omega
        have h2' : (c2.2 == 0) = true := by simp [h2]
        clear hM2 h2 hc2
        by_cases k1 : keep ≤ c1.1
        · have k1' : decide (keep ≤ c1.1) = true := by simp [k1]
          have k2 : s.1 = 1 := s1.2 k1
          have k3 : (s.1 == 1) = true := by simp [k2]
          have k4 : (s.1 != 1) = false := by simp [k2]
          have k5 : (s.1 != -1) = true := by simp [k2]
          have k6 : decide (keep ≤ r.s.hi) = true := by simp; omega
          clear k1 k2 s1 s2
          go_wp2_with (first | (go_at_call 18; (with_reducible refine call_later (HN.out _ (by repeat (first | with_reducible exact Grew.refl _ | with_reducible apply Grew.alloc | with_reducible apply Grew.later | with_reducible apply Grew.drew | with_reducible apply Grew.store | with_reducible assumption))) ?_); intro u31) | (go_at_call 11; (with_reducible refine call_later (H2.out _) ?_); intro u32) | (go_at_call 19; (with_reducible refine call_later (H3.out _) ?_); intro u33))
          all_goals go_ret
          all_goals exact ⟨rfl, (by repeat (first | with_reducible exact Grew.refl _ | with_reducible apply Grew.alloc | with_reducible apply Grew.later | with_reducible apply Grew.drew | with_reducible apply Grew.store | with_reducible assumption))⟩
        · have k1' : decide (keep ≤ c1.1) = false := by simp; omega
          have k2 : ¬ s.1 = 1 := fun h => k1 (s1.1 h)
          have k3 : (s.1 == 1) = false := by simp [k2]
          have k4 : (s.1 != 1) = true := by simp [k2]
          have k6 : decide (c1.1 < keep) = true := by simp; omega
          by_cases k5 : s.1 = -1
          · have k5' : (s.1 != -1) = false := by simp [k5]
            clear k1 k2 s1 s2 k5
            go_wp2_with (first | (go_at_call 18; (with_reducible refine call_later (HN.out _ (by repeat (first | with_reducible exact Grew.refl _ | with_reducible apply Grew.alloc | with_reducible apply Grew.later | with_reducible apply Grew.drew | with_reducible apply Grew.store | with_reducible assumption))) ?_); intro u31) | (go_at_call 11; (with_reducible refine call_later (H2.out _) ?_); intro u32) | (go_at_call 19; (with_reducible refine call_later (H3.out _) ?_); intro u33))
            all_goals go_ret
            all_goals exact ⟨rfl, (by repeat (first | with_reducible exact Grew.refl _ | with_reducible apply Grew.alloc | with_reducible apply Grew.later | with_reducible apply Grew.drew | with_reducible apply Grew.store | with_reducible assumption))⟩
          · have k5' : (s.1 != -1) = true := by simp [k5]
            clear k1 k2 s1 s2 k5
            go_wp2_with (first | (go_at_call 18; (with_reducible refine call_later (HN.out _ (by repeat (first | with_reducible exact Grew.refl _ | with_reducible apply Grew.alloc | with_reducible apply Grew.later | with_reducible apply Grew.drew | with_reducible apply Grew.store | with_reducible assumption))) ?_); intro u31) | (go_at_call 11; (with_reducible refine call_later (H2.out _) ?_); intro u32) | (go_at_call 19; (with_reducible refine call_later (H3.out _) ?_); intro u33))
            all_goals go_ret
            all_goals exact ⟨rfl, (by repeat (first | with_reducible exact Grew.refl _ | with_reducible apply Grew.alloc | with_reducible apply Grew.later | with_reducible apply Grew.drew | with_reducible apply Grew.store | with_reducible assumption))⟩
      · have h2' : (c2.2 == 0) = false := by simp [h2]
        clear hM2 h2
        by_cases k1 : keep ≤ c1.1
        · have k1' : decide (keep ≤ c1.1) = true := by simp [k1]
          have k2 : s.1 = 1 := s1.2 k1
          have k3 : (s.1 == 1) = true := by simp [k2]
          have k4 : (s.1 != 1) = false := by simp [k2]
          have k5 : (s.1 != -1) = true := by simp [k2]
          have k6 : decide (keep ≤ r.s.hi) = true := by simp; omega
          clear k1 k2 s1 s2
          go_wp2_with (first | (go_at_call 18; (with_reducible refine call_later (HN.out _ (by repeat (first | with_reducible exact Grew.refl _ | with_reducible apply Grew.alloc | with_reducible apply Grew.later | with_reducible apply Grew.drew | with_reducible apply Grew.store | with_reducible assumption))) ?_); intro u31) | (go_at_call 11; (with_reducible refine call_later (H2.out _) ?_); intro u32) | (go_at_call 19; (with_reducible refine call_later (H3.out _) ?_); intro u33))
          all_goals go_ret
          all_goals exact ⟨rfl, (by repeat (first | with_reducible exact Grew.refl _ | with_reducible apply Grew.alloc | with_reducible apply Grew.later | with_reducible apply Grew.drew | with_reducible apply Grew.store | with_reducible assumption))⟩
        · have k1' : decide (keep ≤ c1.1) = false := by simp; omega
          have k2 : ¬ s.1 = 1 := fun h => k1 (s1.1 h)
          have k3 : (s.1 == 1) = false := by simp [k2]
          have k4 : (s.1 != 1) = true := by simp [k2]
          have k6 : decide (c1.1 < keep) = true := by simp; omega
          by_cases k5 : s.1 = -1
          · have k5' : (s.1 != -1) = false := by simp [k5]
            clear k1 k2 s1 s2 k5
            go_wp2_with (first | (go_at_call 18; (with_reducible refine call_later (HN.out _ (by repeat (first | with_reducible exact Grew.refl _ | with_reducible apply Grew.alloc | with_reducible apply Grew.later | with_reducible apply Grew.drew | with_reducible apply Grew.store | with_reducible assumption))) ?_); intro u31) | (go_at_call 11; (with_reducible refine call_later (H2.out _) ?_); intro u32) | (go_at_call 19; (with_reducible refine call_later (H3.out _) ?_); intro u33))
            all_goals go_ret
            all_goals exact ⟨rfl, (by repeat (first | with_reducible exact Grew.refl _ | with_reducible apply Grew.alloc | with_reducible apply Grew.later | with_reducible apply Grew.drew | with_reducible apply Grew.store | with_reducible assumption))⟩
          · have k5' : (s.1 != -1) = true := by simp [k5]
            clear k1 k2 s1 s2 k5
            go_wp2_with (first | (go_at_call 18; (with_reducible refine call_later (HN.out _ (by repeat (first | with_reducible exact Grew.refl _ | with_reducible apply Grew.alloc | with_reducible apply Grew.later | with_reducible apply Grew.drew | with_reducible apply Grew.store | with_reducible assumption))) ?_); intro u31) | (go_at_call 11; (with_reducible refine call_later (H2.out _) ?_); intro u32) | (go_at_call 19; (with_reducible refine call_later (H3.out _) ?_); intro u33))
            all_goals go_ret
            all_goals exact ⟨rfl, (by repeat (first | with_reducible exact Grew.refl _ | with_reducible apply Grew.alloc | with_reducible apply Grew.later | with_reducible apply Grew.drew | with_reducible apply Grew.store | with_reducible assumption))⟩
section
variable {H : Type} {enc : TypeId × Value → H} {P : Program} {w : World} {base : Nat} {spare : Nat → Bool} {held : Bool}
theorem open_u64s {r : Reach} {b0 : Nat} {t e : TypeId} {v : Value} {d : DataW H} {p : List MemPlace} (hs : P.underlying t = some (.array 3 e)) (he : P.underlying e = some (.int .u64)) (hc : P.cellsOf t = 3) (hce : P.cellsOf e = 1)
    (hv : Value.okWide P w r b0 t v) (h : DataW.Trod enc P w base spare held t v d p) : ∃ a b c : Int, v = .agg #[.int .u64 a, .int .u64 b, .int .u64 c] := by
  simp only [Value.okWide, hs] at hv
  obtain ⟨cs, rfl, h2, -⟩ := hv
  obtain ⟨fuel, hf⟩ := h
  obtain ⟨xs, k, rfl, -, hl, hxl, hf⟩ := DataW.trod_array hs hf
  rw [hce] at hf
  rw [hc] at h2
  have key : ∀ i, i < 3 → ∃ a : Int, cs[i]? = some (.int .u64 a) := by
    intro i hi
    have e1 := hf i hi
    rw [List.getElem?_eq_getElem (by omega)] at e1
    obtain ⟨a, e2, -⟩ := DataW.trod_int he e1
    refine ⟨a, ?_⟩
    have e3 := congrArg (fun l => l[0]?) e2
    simpa [Value.cells, List.getElem?_take, List.getElem?_drop] using e3
  obtain ⟨a, ha⟩ := key 0 (by omega)
  obtain ⟨b, hb⟩ := key 1 (by omega)
  obtain ⟨c, hc⟩ := key 2 (by omega)
  refine ⟨a, b, c, ?_⟩
  congr 1
  apply Array.ext
  · simpa using h2
  · intro i h1 h3
    have hi : i < 3 := by omega
    match i, hi with
    | 0, _ => rw [Array.getElem?_eq_getElem h1] at ha; simpa using ha
    | 1, _ => rw [Array.getElem?_eq_getElem h1] at hb; simpa using hb
    | 2, _ => rw [Array.getElem?_eq_getElem h1] at hc; simpa using hc
end
theorem lis19 {l : List Int} (h : l.length = 19) : ∃ k0 k1 k2 k3 k4 k5 k6 k7 k8 k9 k10 k11 k12 k13 k14 k15 k16 k17 k18, l = [k0, k1, k2, k3, k4, k5, k6, k7, k8, k9, k10, k11, k12, k13, k14, k15, k16, k17, k18] := by
  match l, h with
  | [k0, k1, k2, k3, k4, k5, k6, k7, k8, k9, k10, k11, k12, k13, k14, k15, k16, k17, k18], _ => exact ⟨k0, k1, k2, k3, k4, k5, k6, k7, k8, k9, k10, k11, k12, k13, k14, k15, k16, k17, k18, rfl⟩
namespace abortKeepsRow
open Go.ChangeShapes Go.WideShapes Go.ChangeAt Go.RowKit
theorem own : ownKnob Try.prog.godebug = none := by kernel_rfl
theorem lifted (os : Os) (started : os.Started) (H : Type) (enc : TypeId × Value → H) :
    ReturnsInHanded {} Try.checked os 4 .any (Rows.abortKeepsSpec.pre6 enc Try.prog Try.f4 Rows.abortKeepsRow.domain false) (Rows.abortKeepsSpec.post enc Try.prog Try.f4 false true false false) := by
  refine returnsInHanded_of_change (C := Try.checked) own started (by kernel_rfl) Try.func4
    (ChangeSpec.witness6 (enc := enc) (C := Try.checked) false ⟨#[], #[.agg #[.int .i64 0, .int .i64 0, .int .i64 0, .int .i64 0, .int .i64 0, .int .i64 0, .int .i64 0, .int .i64 0, .int .i64 0, .int .i64 0, .int .i64 0, .int .i64 0, .int .i64 0, .int .i64 0, .int .i64 0, .int .i64 0, .int .i64 0, .int .i64 0, .int .i64 0], .int .u8 0, .int .u64 0, .agg #[.int .u64 0, .int .u64 0, .int .u64 0], .int .i64 0], []⟩ 8 (by as_aux_lemma => kernel_rfl) (by as_aux_lemma => kernel_rfl) (by as_aux_lemma => kernel_rfl) (by as_aux_lemma => kernel_rfl)) ?_
  intro W base args ds gs before hval0 hW _ _
  have hval : ∀ (j : Nat) t v, Try.f4.params[j]? = some t → args[j]? = some v → Value.okWide Try.prog W .any base t v := hval0
  have hW' := hW
  obtain ⟨p, q, hA0, hV, rfl, hfz, hnd⟩ := hW
  have hA : DataW.TrodAll enc Try.prog W 0 (fun _ => true) true Try.f4.params.toList args.toList ds p := hA0
  rw [Try.params4] at hA hval
  obtain ⟨v0, vs0, d0, ds0, p0, q0, hargs, rfl, rfl, h0, r0⟩ := trodAll_cons hA
  obtain ⟨v1, vs1, d1, ds1, p1, q1, rfl, rfl, rfl, h1, r1⟩ := trodAll_cons r0
  obtain ⟨v2, vs2, d2, ds2, p2, q2, rfl, rfl, rfl, h2, r2⟩ := trodAll_cons r1
  obtain ⟨v3, vs3, d3, ds3, p3, q3, rfl, rfl, rfl, h3, r3⟩ := trodAll_cons r2
  obtain ⟨v4, vs4, d4, ds4, p4, q4, rfl, rfl, rfl, h4, r4⟩ := trodAll_cons r3
  obtain ⟨rfl, rfl, rfl⟩ := trodAll_nil r4
  obtain rfl : args = #[v0, v1, v2, v3, v4] := by cases args; simp_all
  obtain ⟨rfl, rfl⟩ := trodVars_none hV
  obtain ⟨ns0, hv0, hl0, hb0⟩ := open_flat 19 (by kernel_rfl) Try.underlying40 (hval 0 40 v0 rfl rfl) h0
  obtain ⟨pc, rfl, -, -, wpc⟩ := open_int Try.underlying5 (hval 1 5 v1 rfl rfl) h1
  obtain ⟨at_, rfl, -, -, wat⟩ := open_int Try.underlying41 (hval 2 41 v2 rfl rfl) h2
  obtain ⟨y0, y1, y2, rfl⟩ := open_u64s Try.underlying42 Try.underlying41 (by kernel_rfl) (by kernel_rfl) (hval 3 42 v3 rfl rfl) h3
  obtain ⟨keep, rfl, -, -⟩ := open_num Try.underlying34 (hval 4 34 v4 rfl rfl) h4
  have hpc : 0 ≤ pc ∧ pc ≤ 255 := by simpa [Lit.wf, IntKind.min, IntKind.max, IntKind.signed, IntKind.bits] using wpc
  have hat : U64 at_ := by unfold U64; simpa [Lit.wf, IntKind.min, IntKind.max, IntKind.signed, IntKind.bits] using wat
  obtain ⟨k0, k1, k2, k3, k4, k5, k6, k7, k8, k9, k10, k11, k12, k13, k14, k15, k16, k17, k18, rfl⟩ := lis19 hl0
  have hM : Mo64 ⟨⟨⟨k0, k1⟩, ⟨k2, k3⟩, ⟨k4, k5⟩⟩, ⟨⟨k6, k7⟩, ⟨k8, k9⟩, ⟨k10, k11⟩⟩, ⟨⟨k12, k13⟩, ⟨k14, k15⟩, ⟨k16, k17⟩⟩, k18, 1 + pc % 15⟩ := ⟨⟨⟨hb0 k0 (by simp), hb0 k1 (by simp)⟩, ⟨hb0 k2 (by simp), hb0 k3 (by simp)⟩, ⟨hb0 k4 (by simp), hb0 k5 (by simp)⟩⟩, ⟨⟨hb0 k6 (by simp), hb0 k7 (by simp)⟩, ⟨hb0 k8 (by simp), hb0 k9 (by simp)⟩, ⟨hb0 k10 (by simp), hb0 k11 (by simp)⟩⟩, ⟨⟨hb0 k12 (by simp), hb0 k13 (by simp)⟩, ⟨hb0 k14 (by simp), hb0 k15 (by simp)⟩, ⟨hb0 k16 (by simp), hb0 k17 (by simp)⟩⟩⟩
  have hk18 := hb0 k18 (by simp)
  obtain rfl : v0 = Value.agg #[.int .i64 k0, .int .i64 k1, .int .i64 k2, .int .i64 k3, .int .i64 k4, .int .i64 k5, .int .i64 k6, .int .i64 k7, .int .i64 k8, .int .i64 k9, .int .i64 k10, .int .i64 k11, .int .i64 k12, .int .i64 k13, .int .i64 k14, .int .i64 k15, .int .i64 k16, .int .i64 k17, .int .i64 k18] := hv0
  refine (keeps_walk ⟨⟨⟨k0, k1⟩, ⟨k2, k3⟩, ⟨k4, k5⟩⟩, ⟨⟨k6, k7⟩, ⟨k8, k9⟩, ⟨k10, k11⟩⟩, ⟨⟨k12, k13⟩, ⟨k14, k15⟩, ⟨k16, k17⟩⟩, k18, 1 + pc % 15⟩ pc at_ y0 y1 y2 keep hk18 hpc rfl hat W).mono fun e W' ⟨he, hg⟩ => ?_
  subst he
  exact ⟨_, rfl, law_post (by kernel_rfl) (by kernel_rfl) rfl rfl Try.underlying4 hW' rfl hg⟩
theorem proved : Rows.AbortKeepsSaid :=
  OpenClaim.holds_of_wide 4 Try.f4 rfl rfl rfl rfl rfl rfl rfl ⟨rfl, rfl, rfl, rfl, rfl⟩ rfl rfl rfl rfl rfl (by as_aux_lemma => kernel_rfl) Try.func4 (by as_aux_lemma => kernel_rfl)
    (of_decide_eq_true (by as_aux_lemma => kernel_rfl)) (by unfold Func.isWrapper; first | (rw [if_pos (by decide +kernel)]; kernel_rfl) | (rw [if_neg (by decide +kernel)]; exact ⟨rfl, rfl⟩))
    (fun os started H enc _ => lifted os started H enc)
end abortKeepsRow
end Go.Proofs.Ytjnednehcjfkmaa
