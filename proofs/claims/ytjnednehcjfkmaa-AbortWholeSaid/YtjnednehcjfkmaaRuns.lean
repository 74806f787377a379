/-
  The iterator abort.runs.
-/
import Derived.Sort.BigQuietIn
import Derived.Test.YtjnednehcjfkmaaEvers
import Derived.Test.YtjnednehcjfkmaaFolds
import Derived.Test.YtjnednehcjfkmaaPhaseLaw
namespace Go.Proofs.Ytjnednehcjfkmaa
open Go.RowKit Go.Shelf
set_option maxRecDepth 100000
set_option maxHeartbeats 4000000
attribute [local go_sem] Oper.semAt_some
/-- Two places of a list. -/
def Rn (n : Nat) : Type := { x : Nat × Nat // x.1 < n ∧ x.2 < n }
def pairsOf {n : Nat} (l : List (Rn n)) : List (Nat × Nat) := l.map fun x => x.1
theorem pairsOf_snoc {n : Nat} (l : List (Rn n)) (x : Rn n) : pairsOf (l ++ [x]) = pairsOf l ++ [x.1] := by simp [pairsOf]
theorem pairsOf_len {n : Nat} (l : List (Rn n)) : (pairsOf l).length = l.length := by simp [pairsOf]
def encNN {n : Nat} (x : Rn n) : Array Value := #[.int .i64 (x.1.1 : Int), .int .i64 (x.1.2 : Int)]
theorem wpIn_region_later {F : Fence} {n : Nat} {P : Program} {id : Nat} {Q : Exit → Act → World → Prop} {a : Act} {w : World} {l : List Oper} (hro : F.round = none) (hm : P.follows .mixedOrders = true) (hB : Region.lexB .any l.toArray = true)
    (h : wpQuietIn F n P l.toArray (fun w' => ∃ u : Later w, w' = u.world) (fun a' => ∀ w', (∃ u : Later w, w' = u.world) → Q .normal a' w') l a) : (Code.region id l.toArray true).wpIn F n P Q a w :=
  wpIn_region_quiet (C := fun w' => ∃ u : Later w, w' = u.world) hro hm hB ⟨⟨_, (Grew.refl w).drew⟩, rfl⟩ (by simpa using h)
theorem runsSt_step (P : List Int) (k : Nat) : runsSt P (k + 1) = if k + 1 < P.length ∧ plAt P (k + 1) = plAt P k then runsSt P k else ((runsSt P k).1 ++ [((runsSt P k).2, k)], k + 1) := rfl
theorem runs_mono (P : List Int) (k j : Nat) (h : k ≤ j) : (runsSt P k).1.length ≤ (runsSt P j).1.length := by
  induction j with
  | zero => rw [show k = 0 by omega]; exact Nat.le_refl _
  | succ j ih =>
    by_cases e : k = j + 1
    · rw [e]; exact Nat.le_refl _
    · refine Nat.le_trans (ih (by omega)) ?_
      rw [runsSt_step]
      split
      · exact Nat.le_refl _
      · simp
/-- What a round keeps: the old blocks, and the block of the iterator's own box. -/
structure KeepR (n B : Nat) (w w' : World) : Prop where
  below : Below n w w'
  box : w'.heap[B]? = w.heap[B]?
theorem KeepR.refl (n B : Nat) (w : World) : KeepR n B w w := ⟨Below.refl _ _, rfl⟩
theorem KeepR.trans {n B : Nat} {a b c : World} (h : KeepR n B a b) (k : KeepR n B b c) : KeepR n B a c := ⟨h.below.trans k.below, k.box.trans h.box⟩
theorem KeepR.size {n B : Nat} {a b : World} (h : KeepR n B a b) : a.heap.size ≤ b.heap.size := h.below.size
theorem KeepR.cell {n B b o : Nat} {v v' : World} (h : KeepR n B v v') (hb : b < n ∨ b = B) : v'.cell? ⟨b, o, none⟩ = v.cell? ⟨b, o, none⟩ := by
  have e : v'.heap[b]? = v.heap[b]? := by
    rcases hb with hb | rfl
    · exact h.below.block b hb
    · exact h.box
  simp [World.cell?, e]
theorem KeepR.of_grew {n B : Nat} {a b : World} (g : Grew a b) (h1 : n ≤ a.heap.size) (h2 : B < a.heap.size) : KeepR n B a b := ⟨Below.mono g h1, g.block B h2⟩
theorem runs1_in (N : Nat) (hn : 1 ≤ N) (l Bs n₀ b off cap : Nat) (L : List Int) (hlen : L.length ≤ 9223372036854775806) (hb : b < n₀) (J Jx : List (Rn L.length) → World → Prop)
    (hY : ∀ pre x W, J pre W → pre.length < (runsSt L L.length).1.length → YieldAt Fence.wide (N - 1) Try.prog l (encNN x) W fun e W' =>
      (e = .returned (.bool true) ∧ J (pre ++ [x]) W' ∧ KeepR n₀ Bs W W') ∨ (e = .returned (.bool false) ∧ Jx (pre ++ [x]) W'))
    (hJ : ∀ s W W', J s W → Grew W W' → J s W')
    (W : World) (hBs : W.cell? ⟨Bs, 0, none⟩ = some (.slice (some ⟨b, off, none⟩) L.length cap))
    (hc : ∀ k, k < L.length → W.cell? ⟨b, off + k, none⟩ = some (.int .i64 (plAt L k))) (hW0 : n₀ ≤ W.heap.size) (h0 : J [] W) :
    CallsIn Fence.wide N Try.prog 69 #[.func (.yield l) #[] #[], .pointer (some ⟨Bs, 0, none⟩)] W fun e W' => (∃ v, e = .returned v) ∧
      ((∃ ys, pairsOf ys = (runsSt L L.length).1 ∧ J ys W') ∨ (∃ pre, (∃ k, k ≤ L.length ∧ pairsOf pre = (runsSt L k).1) ∧ Jx pre W')) := by
  refine callsIn_of_wp Try.func69 rfl trivial ?_ rfl
  simp only [Try.ntmps69, List.size_toArray, List.length_cons, List.length_nil, Nat.reduceAdd, Nat.reduceSub, Array.replicate_succ, Array.replicate_zero, List.push_toArray, List.append_toArray, List.nil_append, List.cons_append]
  gi_wp2
  gi_loopw [3, 7] (fun f i wr => ∃ k : Nat, k ≤ L.length ∧ i = .int .i64 k ∧ f = .int .i64 ((runsSt L k).2 : Nat) ∧ (∃ pre, pairsOf pre = (runsSt L k).1 ∧ J pre wr) ∧ KeepR n₀ Bs W wr)
    (fun _ i _ => L.length - (intOf i).toNat)
  case atStart => exact ⟨0, Nat.zero_le _, rfl, rfl, ⟨[], rfl, h0⟩, KeepR.refl _ _ _⟩
  case round =>
    obtain ⟨k, hk, rfl, rfl, ⟨pre, hpre, hJs⟩, hnx⟩ := hrel
    have Hpre := Lib.hid hpre
    clear hpre
    have hBs' := (hnx.cell (o := 0) (.inr rfl)).trans hBs
    have hcx : ∀ k, k < L.length → wr.cell? ⟨b, off + k, none⟩ = some (.int .i64 (plAt L k)) := fun k h => (hnx.cell (o := off + k) (.inl hb)).trans (hc k h)
    have hn0 : n₀ ≤ wr.heap.size := Nat.le_trans hW0 hnx.size
    have iBs : BlockIn wr Bs := BlockIn.of_cell hBs'
    have ib : BlockIn wr b := ⟨Nat.lt_of_lt_of_le hb hn0⟩
    by_cases hlt : k < L.length
    · have hc0 := hcx k hlt
      have Hst := Lib.hid (runsSt_step L k)
      have HY := Lib.hid hY
      have HJ := Lib.hid hJ
      have hle := (runs_le L k).2
      generalize hsx : (runsSt L k).2 = s at *
      have Hsx := Lib.hid hsx
      clear hsx
      by_cases h1 : k + 1 < L.length
      · have hc1 := hcx (k + 1) h1
        have h1' : decide ((k : Int) + 1 < L.length) = true := by simp; omega
        clear hcx hc hY hJ
        by_cases h2 : plAt L (k + 1) = plAt L k
        · have Hs2 := Lib.hid (Hst.out.trans (if_pos ⟨h1, h2⟩))
          have h2' : (plAt L (k + 1) == plAt L k) = true := by simp [h2]
          clear h2
          generalize plAt L (k + 1) = y1 at *
          generalize plAt L k = y0 at *
          gi_wp2
          refine wpIn_region_later rfl (by kernel_rfl) (by kernel_rfl) ?_
          (repeat (gi_big_quiet_step (fail)))
          refine wpQuietIn_nil ?_
          rintro _ ⟨u, rfl⟩
          gi_wp2
          go_roundw
          case rel => exact ⟨k + 1, by omega, by go_num, by rw [Hs2.out, Hsx.out], ⟨pre, by rw [Hs2.out]; exact Hpre.out, HJ.out _ _ _ hJs u.grew⟩, hnx.trans (KeepR.of_grew u.grew hn0 iBs.lt)⟩
          case measure => simp [intOf]; omega
        · have Hs2 := Lib.hid (Hst.out.trans (if_neg (fun h => h2 h.2)))
          have h2' : (plAt L (k + 1) == plAt L k) = false := by simp [h2]
          have hlen2 := runs_mono L (k + 1) L.length (by omega)
          rw [Hs2.out] at hlen2
          have Hlen := Lib.hid hlen2
          clear h2 hlen2
          generalize plAt L (k + 1) = y1 at *
          generalize plAt L k = y0 at *
          gi_wp2
          refine wpIn_region_later rfl (by kernel_rfl) (by kernel_rfl) ?_
          (repeat (gi_big_quiet_step (fail)))
          refine wpQuietIn_nil ?_
          rintro _ ⟨u, rfl⟩
          obtain ⟨fn, tmps, assign, body, hy, hR⟩ := HY.out pre ⟨(s, k), by have := hle; show s < L.length ∧ k < L.length; omega⟩ u.world (HJ.out _ _ _ hJs u.grew) (by have := Hlen.out; rw [← Hpre.out] at this; simp [pairsOf_len] at this; omega)
          unfold encNN at hy
          dsimp only at hy
          have Hsn := Lib.hid (fun (q : Rn L.length) (h : q.1 = (s, k)) => (show pairsOf (pre ++ [q]) = (runsSt L (k + 1)).1 by rw [pairsOf_snoc, Hpre.out, h, Hs2.out]))
          gi_wp2
          refine hR.mono ?_
          rintro e W3 (⟨rfl, hJ3, hk3⟩ | ⟨rfl, hJx3⟩)
          · gi_wp2
            go_roundw
            case rel => exact ⟨k + 1, by omega, by go_num, by rw [Hs2.out]; go_num, ⟨_, Hsn.out _ rfl, hJ3⟩, (hnx.trans (KeepR.of_grew u.grew hn0 iBs.lt)).trans hk3⟩
            case measure => simp [intOf]; omega
          · gi_wp2
            refine bodyPost_ret (results_none rfl _ _ _) rfl ?_
            exact ⟨⟨_, rfl⟩, .inr ⟨_, ⟨k + 1, by omega, Hsn.out _ rfl⟩, hJx3⟩⟩
      · have h1' : decide ((k : Int) + 1 < L.length) = false := by simp; omega
        clear hcx hc hY hJ
        have Hs2 := Lib.hid (Hst.out.trans (if_neg (fun h => h1 h.1)))
        have hlen2 := runs_mono L (k + 1) L.length (by omega)
        rw [Hs2.out] at hlen2
        have Hlen := Lib.hid hlen2
        clear hlen2
        generalize plAt L k = y0 at *
        gi_wp2
        refine wpIn_region_later rfl (by kernel_rfl) (by kernel_rfl) ?_
        (repeat (gi_big_quiet_step (fail)))
        refine wpQuietIn_nil ?_
        rintro _ ⟨u, rfl⟩
        obtain ⟨fn, tmps, assign, body, hy, hR⟩ := HY.out pre ⟨(s, k), by have := hle; show s < L.length ∧ k < L.length; omega⟩ u.world (HJ.out _ _ _ hJs u.grew) (by have := Hlen.out; rw [← Hpre.out] at this; simp [pairsOf_len] at this; omega)
        unfold encNN at hy
        dsimp only at hy
        have Hsn := Lib.hid (fun (q : Rn L.length) (h : q.1 = (s, k)) => (show pairsOf (pre ++ [q]) = (runsSt L (k + 1)).1 by rw [pairsOf_snoc, Hpre.out, h, Hs2.out]))
        gi_wp2
        refine hR.mono ?_
        rintro e W3 (⟨rfl, hJ3, hk3⟩ | ⟨rfl, hJx3⟩)
        · gi_wp2
          go_roundw
          case rel => exact ⟨k + 1, by omega, by go_num, by rw [Hs2.out]; go_num, ⟨_, Hsn.out _ rfl, hJ3⟩, (hnx.trans (KeepR.of_grew u.grew hn0 iBs.lt)).trans hk3⟩
          case measure => simp [intOf]; omega
        · gi_wp2
          refine bodyPost_ret (results_none rfl _ _ _) rfl ?_
          exact ⟨⟨_, rfl⟩, .inr ⟨_, ⟨k + 1, by omega, Hsn.out _ rfl⟩, hJx3⟩⟩
    · obtain rfl : k = L.length := by omega
      gi_wp2
      go_end0
      exact ⟨⟨_, rfl⟩, .inl ⟨_, Hpre.out, hJs⟩⟩
theorem runs1_nil_in (N : Nat) (l Bs : Nat) (ao : Option Addr) (cap : Nat) (J : List (Rn 0) → World → Prop) (W : World) (hBs : W.cell? ⟨Bs, 0, none⟩ = some (.slice ao 0 cap)) (h0 : J [] W) :
    CallsIn Fence.wide N Try.prog 69 #[.func (.yield l) #[] #[], .pointer (some ⟨Bs, 0, none⟩)] W fun e W' => (∃ v, e = .returned v) ∧ J [] W' := by
  refine callsIn_of_wp Try.func69 rfl trivial ?_ rfl
  simp only [Try.ntmps69, List.size_toArray, List.length_cons, List.length_nil, Nat.reduceAdd, Nat.reduceSub, Array.replicate_succ, Array.replicate_zero, List.push_toArray, List.append_toArray, List.nil_append, List.cons_append]
  gi_wp2
  gi_loopw [3, 7] (fun _ i wr => i = .int .i64 0 ∧ J [] wr) (fun _ _ _ => 0)
  case atStart => exact ⟨rfl, h0⟩
  case round =>
    obtain ⟨rfl, hJs⟩ := hrel
    gi_wp2
    go_end0
    exact ⟨⟨_, rfl⟩, hJs⟩
theorem Grew.grownBy {a w : World} (h : Grew a w) : a.grownBy w none := ⟨h.os, h.tape, h.output, h.size, fun i hi _ => h.block i hi⟩
theorem intCells_at {w : World} {ao : Option Addr} {l : List Int} (h : ∀ i x, (l.flatMap intC)[i]? = some x → ∃ b off, ao = some ⟨b, off, none⟩ ∧ w.cell? ⟨b, off + i, none⟩ = some x) (k : Nat) (hk : k < l.length) :
    ∃ b off, ao = some ⟨b, off, none⟩ ∧ b < w.heap.size ∧ w.cell? ⟨b, off + k, none⟩ = some (.int .i64 (plAt l k)) := by
  obtain ⟨b, off, e, hb, h1, -⟩ := SlAt.elem (f := intC) (c := 1) (fun _ => rfl) (by omega) h k hk
  refine ⟨b, off, e, hb, ?_⟩
  have := h1 _ rfl
  rw [Nat.mul_one] at this
  rw [this, show plAt l k = l[k] by unfold plAt; simp [hk]]
theorem runs_stops (N : Nat) (hn : 1 ≤ N) (Bs : Nat) (v : Value) (L : List Int) (hlen : L.length ≤ 4096) (w0 w : World) (g : Grew w0 w) (hc : w.cell? ⟨Bs, 0, none⟩ = some v) (hs : SlAt w0 v L.length (L.flatMap intC)) :
    SeqStopsK Fence.wide N Try.prog 69 #[.pointer (some ⟨Bs, 0, none⟩)] encNN (KeepR w0.heap.size Bs) (fun ys : List (Rn L.length) => pairsOf ys = (runsSt L L.length).1) (fun pre => ∃ k, k ≤ L.length ∧ pairsOf pre = (runsSt L k).1) (runsSt L L.length).1.length w := by
  intro l J Jx W hW hJ _ hY h0
  have hBs : Bs < w.heap.size := World.block_lt_of_cell? w _ hc
  have hc' := (hW.cell (p := ⟨Bs, 0, none⟩) hBs).trans hc
  obtain ⟨ao, cap, rfl, hm, hx⟩ := hs
  have hE := intCells_at hx
  by_cases hL : L.length = 0
  · obtain rfl : L = [] := List.eq_nil_of_length_eq_zero hL
    exact (runs1_nil_in N l Bs ao cap J W hc' h0).mono fun e W' ⟨he, hj⟩ => ⟨he, .inl ⟨[], rfl, hj⟩⟩
  · obtain ⟨b, off, rfl, hb, -⟩ := hE 0 (by omega)
    have g2 : Grew w0 W := g.trans hW
    refine runs1_in N hn l Bs w0.heap.size b off cap L (by omega) hb J Jx hY (fun s A B h1 h2 => hJ s A B none h1 h2.grownBy (fun r e => by cases e)) W hc' (fun k hk => ?_) g2.size h0
    obtain ⟨b', off', e, -, h1⟩ := hE k hk
    cases e
    exact g2.cell h1
theorem keepR_t {n B : Nat} {a b c : World} (h : KeepR n B a b) (k : KeepR n B b c) : KeepR n B a c := h.trans k
theorem keepR_b {n B : Nat} {w : World} (hn : n ≤ w.heap.size) (hB : B < w.heap.size) (W : World) (l : Nat) (o o' : Obj) (hl : w.heap.size ≤ l) (h : W.heap[l]? = some o) (h1 : o.isCells = false) (h2 : o.isWalk = false) : KeepR n B W (W.putObj l o') :=
  ⟨belowK_b hn W l o o' hl h h1 h2, (grownBy_putObj' W l o').block B (by have := (Array.getElem?_eq_some_iff.1 h).1; omega) (fun e => by cases e; omega)⟩
theorem abRuns_any (ao : Option Addr) (n cap : Nat) (w : World) :
    Calls Try.prog 47 #[.slice ao n cap] w fun e w' => e = .returned (.func (.func 69) #[] #[.pointer (some ⟨w.heap.size, 0, none⟩)]) ∧ w' = w.alloc (.cells #[.slice ao n cap] 22) := by
  go_enter Try.func47, Try.ntmps47
  go_wp2
  go_ret
  exact ⟨rfl, rfl⟩
end Go.Proofs.Ytjnednehcjfkmaa
