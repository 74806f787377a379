/-
  The iterator span.all over pairs of spans.
-/
import Derived.Test.YtochpnomfedhoaaGreatNorm
namespace Go.Proofs.YtochpnomfedhoaaGreat
open Go.RowKit Go.Shelf
set_option maxRecDepth 100000
set_option maxHeartbeats 2000000
attribute [local go_sem] Oper.semAt_some
/-- A pair of spans whose bounds are of 64 bits. -/
def Px : Type := Sx × Sx
instance : Inhabited Px := ⟨(default, default)⟩
def Px.cells (x : Px) : List Value := [.int .i64 x.1.1.lo, .int .i64 x.1.1.hi, .int .i64 x.2.1.lo, .int .i64 x.2.1.hi]
abbrev nthP (L : List Px) (k : Nat) : Nat × Px := (k, L[k]?.getD default)
def encIP (x : Nat × Px) : Array Value := #[.int .i64 (x.1 : Int), .agg #[.int .i64 x.2.1.1.lo, .int .i64 x.2.1.1.hi, .int .i64 x.2.2.1.lo, .int .i64 x.2.2.1.hi]]
theorem all2_in (N : Nat) (hn : 1 ≤ N) (l Bs n₀ b off cap : Nat) (L : List Px) (hlen : L.length ≤ 9223372036854775807) (hBn : Bs < n₀) (hb : b < n₀) (J Jx : List (Nat × Px) → World → Prop)
    (hY : ∀ pre x W, J pre W → pre.length < L.length → YieldAt Fence.wide (N - 1) Tryz.prog l (encIP x) W fun e W' =>
      (e = .returned (.bool true) ∧ J (pre ++ [x]) W' ∧ Below n₀ W W') ∨ (e = .returned (.bool false) ∧ Jx (pre ++ [x]) W'))
    (W : World) (hBs : W.cell? ⟨Bs, 0, none⟩ = some (.slice (some ⟨b, off, none⟩) L.length cap))
    (hc : ∀ k, k < L.length → W.cell? ⟨b, off + k * 4, none⟩ = some (.int .i64 (L[k]?.getD default).1.1.lo) ∧ W.cell? ⟨b, off + k * 4 + 1, none⟩ = some (.int .i64 (L[k]?.getD default).1.1.hi) ∧ W.cell? ⟨b, off + k * 4 + 2, none⟩ = some (.int .i64 (L[k]?.getD default).2.1.lo) ∧ W.cell? ⟨b, off + k * 4 + 3, none⟩ = some (.int .i64 (L[k]?.getD default).2.1.hi)) (h0 : J [] W) :
    CallsIn Fence.wide N Tryz.prog 147 #[.func (.yield l) #[] #[], .pointer (some ⟨Bs, 0, none⟩)] W fun e W' => (∃ v, e = .returned v) ∧
      ((∃ ys, ys = upto (nthP L) L.length ∧ J ys W') ∨ (∃ pre, (∃ k, k ≤ L.length ∧ pre = upto (nthP L) k) ∧ Jx pre W')) := by
  refine callsIn_of_wp Tryz.func147 rfl trivial ?_ rfl
  simp only [Tryz.ntmps147, List.size_toArray, List.length_cons, List.length_nil, Nat.reduceAdd, Nat.reduceSub, Array.replicate_succ, Array.replicate_zero, List.push_toArray, List.append_toArray, List.nil_append, List.cons_append]
  gi_wp2
  gi_loopw [6] (fun i wr => ∃ k : Nat, k ≤ L.length ∧ i = .int .i64 k ∧ J (upto (nthP L) k) wr ∧ Below n₀ W wr)
    (fun i _ => L.length - (intOf i).toNat)
  case atStart => exact ⟨0, Nat.zero_le _, rfl, h0, Below.refl _ _⟩
  case round =>
    obtain ⟨k, hk, rfl, hJs, hnx⟩ := hrel
    have hBs' := (hnx.cell (p := ⟨Bs, 0, none⟩) hBn).trans hBs
    have hcx : k < L.length → wr.cell? ⟨b, off + k * 4, none⟩ = some (.int .i64 (L[k]?.getD default).1.1.lo) ∧ wr.cell? ⟨b, off + k * 4 + 1, none⟩ = some (.int .i64 (L[k]?.getD default).1.1.hi) ∧ wr.cell? ⟨b, off + k * 4 + 2, none⟩ = some (.int .i64 (L[k]?.getD default).2.1.lo) ∧ wr.cell? ⟨b, off + k * 4 + 3, none⟩ = some (.int .i64 (L[k]?.getD default).2.1.hi) :=
      fun h => ⟨(hnx.cell (p := ⟨b, off + k * 4, none⟩) hb).trans (hc k h).1, (hnx.cell (p := ⟨b, off + k * 4 + 1, none⟩) hb).trans (hc k h).2.1, (hnx.cell (p := ⟨b, off + k * 4 + 2, none⟩) hb).trans (hc k h).2.2.1, (hnx.cell (p := ⟨b, off + k * 4 + 3, none⟩) hb).trans (hc k h).2.2.2⟩
    by_cases hlt : k < L.length
    · obtain ⟨fn, tmps, assign, body, hy, hR⟩ := hY _ (k, L[k]?.getD default) wr hJs (by rw [upto_length]; exact hlt)
      unfold encIP at hy
      dsimp only at hy
      obtain ⟨hc1, hc2, hc3, hc4⟩ := hcx hlt
      clear hcx hc hY
      generalize hx : L[k]?.getD default = x at *
      have Hx := Lib.hid hx
      clear hx
      gi_wp2
      refine hR.mono ?_
      rintro e W3 (⟨rfl, hJ3, hk3⟩ | ⟨rfl, hJx3⟩)
      · gi_wp2
        go_roundw
        case rel => exact ⟨k + 1, by omega, by go_num, by rw [upto_succ]; show J (upto (nthP L) k ++ [(k, L[k]?.getD default)]) W3; rw [Hx.out]; exact hJ3, hnx.trans hk3⟩
        case measure => simp [intOf]; omega
      · gi_wp2
        refine bodyPost_ret (results_none rfl _ _ _) rfl ?_
        exact ⟨⟨_, rfl⟩, .inr ⟨_, ⟨k + 1, by omega, by rw [upto_succ]; show _ = upto (nthP L) k ++ [(k, L[k]?.getD default)]; rw [Hx.out]⟩, hJx3⟩⟩
    · obtain rfl : k = L.length := by omega
      gi_wp2
      go_end0
      exact ⟨⟨_, rfl⟩, .inl ⟨_, rfl, hJs⟩⟩
theorem all2_nil_in (N : Nat) (l Bs : Nat) (ao : Option Addr) (cap : Nat) (J : List (Nat × Px) → World → Prop) (W : World) (hBs : W.cell? ⟨Bs, 0, none⟩ = some (.slice ao 0 cap)) (h0 : J [] W) :
    CallsIn Fence.wide N Tryz.prog 147 #[.func (.yield l) #[] #[], .pointer (some ⟨Bs, 0, none⟩)] W fun e W' => (∃ v, e = .returned v) ∧ J [] W' := by
  refine callsIn_of_wp Tryz.func147 rfl trivial ?_ rfl
  simp only [Tryz.ntmps147, List.size_toArray, List.length_cons, List.length_nil, Nat.reduceAdd, Nat.reduceSub, Array.replicate_succ, Array.replicate_zero, List.push_toArray, List.append_toArray, List.nil_append, List.cons_append]
  gi_wp2
  gi_loopw [6] (fun i wr => i = .int .i64 0 ∧ J [] wr) (fun _ _ => 0)
  case atStart => exact ⟨rfl, h0⟩
  case round =>
    obtain ⟨rfl, hJs⟩ := hrel
    gi_wp2
    go_end0
    exact ⟨⟨_, rfl⟩, hJs⟩
theorem all2_stops (N : Nat) (hn : 1 ≤ N) (Bs : Nat) (v : Value) (L : List Px) (w : World) (hc : w.cell? ⟨Bs, 0, none⟩ = some v) (hs : SlAt w v L.length (L.flatMap Px.cells)) :
    SeqStopsK Fence.wide N Tryz.prog 147 #[.pointer (some ⟨Bs, 0, none⟩)] encIP (Below w.heap.size) (fun ys => ys = upto (nthP L) L.length) (fun pre => ∃ k, k ≤ L.length ∧ pre = upto (nthP L) k) L.length w := by
  intro l J Jx W hW _ _ hY h0
  have hBs : Bs < w.heap.size := World.block_lt_of_cell? w _ hc
  have hc' := (hW.cell (p := ⟨Bs, 0, none⟩) hBs).trans hc
  obtain ⟨ao, cap, rfl, hm, hx⟩ := hs
  have hE := SlAt.elem (f := Px.cells) (c := 4) (fun _ => rfl) (by omega) hx
  by_cases hL : L.length = 0
  · obtain rfl : L = [] := List.eq_nil_of_length_eq_zero hL
    exact (all2_nil_in N l Bs ao cap J W hc' h0).mono fun e W' ⟨he, hj⟩ => ⟨he, .inl ⟨_, rfl, hj⟩⟩
  · obtain ⟨b, off, rfl, hb, -, -⟩ := hE 0 (by omega)
    refine all2_in N hn l Bs w.heap.size b off cap L (by unfold maxLen at hm; omega) hBs hb J Jx hY W hc' (fun k hk => ?_) h0
    obtain ⟨b', off', e, -, h1, h2⟩ := hE k hk
    cases e
    have h1 := h1 _ rfl
    have h3 := h2 2 _ rfl
    have h4 := h2 3 _ rfl
    have h2 := h2 1 _ rfl
    rw [List.getElem?_eq_getElem hk]
    exact ⟨(hW.cell (p := ⟨b, off + k * 4, none⟩) hb).trans h1, (hW.cell (p := ⟨b, off + k * 4 + 1, none⟩) hb).trans h2, (hW.cell (p := ⟨b, off + k * 4 + 2, none⟩) hb).trans h3, (hW.cell (p := ⟨b, off + k * 4 + 3, none⟩) hb).trans h4⟩
theorem spAll2_any (ao : Option Addr) (n cap : Nat) (w : World) :
    Calls Tryz.prog 107 #[.slice ao n cap] w fun e w' => e = .returned (.func (.func 147) #[] #[.pointer (some ⟨w.heap.size, 0, none⟩)]) ∧ w' = w.alloc (.cells #[.slice ao n cap] 134) := by
  go_enter Tryz.func107, Tryz.ntmps107
  go_wp2
  go_ret
  exact ⟨rfl, rfl⟩
end Go.Proofs.YtochpnomfedhoaaGreat
