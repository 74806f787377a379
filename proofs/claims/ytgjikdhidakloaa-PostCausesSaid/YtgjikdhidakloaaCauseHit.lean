/-
  post.Causes' closure hit: what it keeps, and its contract.
-/
import Derived.Test.YtgjikdhidakloaaCauseMap
import Derived.Test.YtgjikdhidakloaaCauseRef2
namespace Go.Proofs.Ytgjikdhidakloaa
open Go.RowKit
set_option maxRecDepth 100000
set_option maxHeartbeats 16000000
theorem owns_lt {w : World} {base : Nat} {e : TypeId} {size : Nat} {v : Value} {n : Nat} {xs : List Value} (h : w.ownsRow base e size v n xs) : ∀ k, v.ownBlock = some k → k < w.heap.size := by
  intro k hk
  rcases h.2 with ⟨rfl, -⟩ | ⟨g, cap, cur, rfl, hg, hh, -⟩
  · cases hk
  · cases hk
    exact (Array.getElem?_eq_some_iff.1 hh).1
/-- What a call of hit keeps: all but the map's block, the box of the found ones and their row. -/
structure KeepX (bm bh : Nat) (v v' : Value) (W W' : World) : Prop where
  low : ∀ a : World, Grew a W → a.heap.size ≤ bm → a.heap.size ≤ bh → (∀ b, v.ownBlock = some b → a.heap.size ≤ b) → Grew a W'
  size : W.heap.size ≤ W'.heap.size
  cell : ∀ c i x, c ≠ bm → c ≠ bh → v.ownBlock ≠ some c → W.cell? ⟨c, i, none⟩ = some x → W'.cell? ⟨c, i, none⟩ = some x
  row : v'.ownBlock = v.ownBlock ∨ ∀ b, v'.ownBlock = some b → W.heap.size ≤ b
theorem KeepX.grew {bm bh : Nat} {v : Value} {W W' : World} (g : Grew W W') : KeepX bm bh v v W W' :=
  ⟨fun _ h _ _ _ => h.trans g, g.size, fun _ _ _ _ _ _ h => g.cell h, .inl rfl⟩
theorem KeepX.map {bm bh : Nat} {v : Value} {W W' : World} (g : W.grownBy W' (some bm)) : KeepX bm bh v v W W' :=
  ⟨fun _ h h1 _ _ => h.grown g (fun k e => by cases e; exact h1), g.size, fun c i x h1 _ _ h => by rw [g.cell_far _ (World.block_lt_of_cell? W _ h) (fun e => h1 (by simpa using e)), h], .inl rfl⟩
theorem KeepX.app {bm bh : Nat} {v v' : Value} {W W' : World} (g : W.grownBy W' v.ownBlock) (hr : v'.ownBlock = v.ownBlock ∨ ∀ b, v'.ownBlock = some b → W.heap.size ≤ b) : KeepX bm bh v v' W W' :=
  ⟨fun _ h _ _ h3 => h.grown g h3, g.size, fun c i x _ _ h3 h => by rw [g.cell_far _ (World.block_lt_of_cell? W _ h) (fun e => h3 e.symm), h], hr⟩
theorem KeepX.set {bm bh : Nat} {v : Value} {W : World} (x : Value) : KeepX bm bh v v W (W.setCell ⟨bh, 0, none⟩ x) :=
  ⟨fun _ h _ h2 _ => h.setCell h2 x, by simp [World.setCell], fun c i y _ h2 _ h => by rw [World.cell?_setCell_other _ _ _ _ (by intro e; injection e with e1; exact h2 e1.symm), h], .inl rfl⟩
theorem KeepX.trans {bm bh : Nat} {v v1 v2 : Value} {W W1 W2 : World} (h : KeepX bm bh v v1 W W1) (k : KeepX bm bh v1 v2 W1 W2) : KeepX bm bh v v2 W W2 where
  low := fun a ha h1 h2 h3 => k.low a (h.low a ha h1 h2 h3) h1 h2 (fun b hb => by
    rcases h.row with e | e
    · rw [e] at hb; exact h3 b hb
    · exact Nat.le_trans ha.size (e b hb))
  size := Nat.le_trans h.size k.size
  cell := fun c i x h1 h2 h3 hc => k.cell c i x h1 h2 (fun hb => by
    rcases h.row with e | e
    · rw [e] at hb; exact h3 hb
    · have := e c hb
      have := World.block_lt_of_cell? W _ hc
      simp at this
      omega) (h.cell c i x h1 h2 h3 hc)
  row := by
    rcases k.row with e | e
    · rcases h.row with e1 | e1
      · exact .inl (e.trans e1)
      · exact .inr (fun b hb => e1 b (e ▸ hb))
    · exact .inr (fun b hb => Nat.le_trans h.size (e b hb))
theorem cell_app {W W' : World} {row : Option Nat} {c i : Nat} {x : Value} (hc : W.cell? ⟨c, i, none⟩ = some x) (g : W.grownBy W' row) (hne : row ≠ some c) : W'.cell? ⟨c, i, none⟩ = some x := by
  rw [g.cell_far _ (World.block_lt_of_cell? W _ hc) (fun e => hne e.symm), hc]
/-- Where the variables of post.Causes lie. -/
structure Spots (w0 : World) (bm bs bt bh bk bf base : Nat) : Prop where
  lt : bm < base ∧ bs < base ∧ bt < base ∧ bh < base ∧ bk < base ∧ bf < base
  ne : bs ≠ bh ∧ bt ≠ bh ∧ bk ≠ bh ∧ bf ≠ bh
  low : w0.heap.size ≤ bm ∧ w0.heap.size ≤ bh ∧ w0.heap.size ≤ base
/-- What the variables of post.Causes hold. -/
structure HitAt (w0 : World) (bm bs bt bh bk bf base : Nat) (ao : Option Addr) (sets : List Nat) (cap K : Nat) (v : Value) (S : List Nat) (H : List (Fin 256)) (W : World) : Prop where
  grew : Grew w0 W
  above : base ≤ W.heap.size
  c1 : W.cell? ⟨bs, 0, none⟩ = some (.map (some bm))
  c2 : W.cell? ⟨bt, 0, none⟩ = some (.slice ao sets.length cap)
  c3 : W.cell? ⟨bh, 0, none⟩ = some v
  c4 : W.cell? ⟨bk, 0, none⟩ = some (.int .i64 K)
  c5 : W.cell? ⟨bf, 0, none⟩ = some (.func (.func 51) #[] #[.pointer (some ⟨bs, 0, none⟩), .pointer (some ⟨bt, 0, none⟩), .pointer (some ⟨bh, 0, none⟩), .pointer (some ⟨bk, 0, none⟩), .pointer (some ⟨bf, 0, none⟩)])
  map : SeenAt W bm S.length S
  own : W.ownsRow base 101 1 v H.length (H.flatMap fdC)
  nodup : S.Nodup
  bound : ∀ m ∈ S, m < 2 ^ K
  len : H.length ≤ S.length
  fz : W.frozen? ⟨bh, 0, none⟩ = false
theorem fz_kept {W W' : World} {row : Option Nat} {c i : Nat} {x : Value} (hc : W.cell? ⟨c, i, none⟩ = some x) (hf : W.frozen? ⟨c, i, none⟩ = false) (g : W.grownBy W' row) (hne : row ≠ some c) : W'.frozen? ⟨c, i, none⟩ = false := by
  rw [World.frozen?_of_block (g.block c (World.block_lt_of_cell? W _ hc) (fun e => hne e.symm)), hf]
section
variable {w0 : World} {bm bs bt bh bk bf base : Nat} {ao : Option Addr} {sets : List Nat} {cap K : Nat} {v v' : Value} {S S' : List Nat} {H H' : List (Fin 256)} {W W' : World}
theorem HitAt.off (h : HitAt w0 bm bs bt bh bk bf base ao sets cap K v S H W) {c i : Nat} {x : Value} (hc : W.cell? ⟨c, i, none⟩ = some x) : c ≠ bm := by
  intro e
  subst e
  rw [h.map.none i] at hc
  cases hc
theorem HitAt.far (h : HitAt w0 bm bs bt bh bk bf base ao sets cap K v S H W) {c : Nat} (hc : c < base) : v.ownBlock ≠ some c := by
  intro e
  have := owns_base h.own c e
  omega
theorem HitAt.keep (h : HitAt w0 bm bs bt bh bk bf base ao sets cap K v S H W) (p : Spots w0 bm bs bt bh bk bf base) (k : KeepX bm bh v v' W W') (c3 : W'.cell? ⟨bh, 0, none⟩ = some v') (map : SeenAt W' bm S'.length S')
    (own : W'.ownsRow base 101 1 v' H'.length (H'.flatMap fdC)) (nodup : S'.Nodup) (bound : ∀ m ∈ S', m < 2 ^ K) (len : H'.length ≤ S'.length) (fz : W'.frozen? ⟨bh, 0, none⟩ = false) : HitAt w0 bm bs bt bh bk bf base ao sets cap K v' S' H' W' where
  grew := k.low w0 h.grew p.low.1 p.low.2.1 (fun b hb => Nat.le_trans p.low.2.2 (owns_base h.own b hb))
  above := Nat.le_trans h.above k.size
  c1 := k.cell bs 0 _ (h.off h.c1) p.ne.1 (h.far p.lt.2.1) h.c1
  c2 := k.cell bt 0 _ (h.off h.c2) p.ne.2.1 (h.far p.lt.2.2.1) h.c2
  c3 := c3
  c4 := k.cell bk 0 _ (h.off h.c4) p.ne.2.2.1 (h.far p.lt.2.2.2.2.1) h.c4
  c5 := k.cell bf 0 _ (h.off h.c5) p.ne.2.2.2 (h.far p.lt.2.2.2.2.2) h.c5
  map := map
  own := own
  nodup := nodup
  bound := bound
  len := len
  fz := fz
theorem HitAt.grewTo (h : HitAt w0 bm bs bt bh bk bf base ao sets cap K v S H W) (g : Grew W W') : HitAt w0 bm bs bt bh bk bf base ao sets cap K v S H W' :=
  ⟨h.grew.trans g, Nat.le_trans h.above g.size, g.cell h.c1, g.cell h.c2, g.cell h.c3, g.cell h.c4, g.cell h.c5, h.map.grew g, owns_grew h.own g, h.nodup, h.bound, h.len, (Below.frozen g (World.block_lt_of_cell? W _ h.c3)).trans h.fz⟩
/-- A set is written down as seen. -/
theorem HitAt.see (h : HitAt w0 bm bs bt bh bk bf base ao sets cap K v S H W) (p : Spots w0 bm bs bt bh bk bf base) {own : Nat} (ho : own < 2 ^ K) (hn : own ∉ S) (hm : SeenAt W' bm (S.length + 1) (own :: S)) (g : W.grownBy W' (some bm)) :
    HitAt w0 bm bs bt bh bk bf base ao sets cap K v (own :: S) H W' := by
  refine h.keep p (KeepX.map g) ?_ hm (h.own.kept g (.inr (h.far p.lt.1))) (List.nodup_cons.2 ⟨hn, h.nodup⟩) (fun m hm => ?_) (by have := h.len; simp; omega) (fz_kept h.c3 h.fz g (fun e => h.off h.c3 (by simpa using e.symm)))
  · rw [g.cell_far _ (World.block_lt_of_cell? W _ h.c3) (fun e => h.off h.c3 (by simpa using e)), h.c3]
  · rcases List.mem_cons.1 hm with rfl | hm
    · exact ho
    · exact h.bound m hm
/-- .. behind the box of the set. -/
theorem HitAt.seen (h : HitAt w0 bm bs bt bh bk bf base ao sets cap K v S H W) (p : Spots w0 bm bs bt bh bk bf base) {own : Nat} (ho : own < 2 ^ K) (hn : own ∉ S) {ty : TypeId}
    (hm : SeenAt W' bm (S.length + 1) (own :: S)) (g : (W.alloc (.cells #[.int .i64 own] ty)).grownBy W' (some bm)) :
    HitAt w0 bm bs bt bh bk bf base ao sets cap K v (own :: S) H W' ∧ KeepX bm bh v v W W' ∧ W'.cell? ⟨W.heap.size, 0, none⟩ = some (.int .i64 own) ∧ v.ownBlock ≠ some W.heap.size ∧ W.heap.size ≠ bm ∧ W.heap.size ≠ bh ∧ W.heap.size < W'.heap.size := by
  have g0 : Grew W (W.alloc (.cells #[.int .i64 own] ty)) := (Grew.refl W).alloc _
  have e1 : W.heap.size ≠ bm := by have := h.map.lt; omega
  have e2 : W.heap.size ≠ bh := by have := World.block_lt_of_cell? W _ h.c3; simp at this; omega
  have e3 : v.ownBlock ≠ some W.heap.size := fun e => by have := owns_lt h.own _ e; omega
  have hk : KeepX bm bh v v (W.alloc (.cells #[.int .i64 own] ty)) W' := KeepX.map g
  refine ⟨(h.grewTo g0).see p ho hn hm g, (KeepX.grew g0).trans hk, hk.cell _ 0 _ e1 e2 e3 (by simp), e3, e1, e2, ?_⟩
  have := hk.size
  simp at this
  omega
/-- A set is found. -/
theorem HitAt.find (h : HitAt w0 bm bs bt bh bk bf base ao sets cap K v S H W) (p : Spots w0 bm bs bt bh bk bf base) {x : Fin 256} (hown : W'.ownsRow base 101 1 v' (H ++ [x]).length ((H ++ [x]).flatMap fdC)) (g : W.grownBy W' v.ownBlock)
    (hr : v'.ownBlock = v.ownBlock ∨ ∀ b, v'.ownBlock = some b → W.heap.size ≤ b) (hl : H.length + 1 ≤ S.length) :
    HitAt w0 bm bs bt bh bk bf base ao sets cap K v' S (H ++ [x]) (W'.setCell ⟨bh, 0, none⟩ v') ∧ KeepX bm bh v v' W (W'.setCell ⟨bh, 0, none⟩ v') := by
  have hk : KeepX bm bh v v' W (W'.setCell ⟨bh, 0, none⟩ v') := (KeepX.app g hr).trans (KeepX.set v')
  have hbm : bm ≠ bh := fun e => h.off h.c3 e.symm
  have hc : W'.cell? ⟨bh, 0, none⟩ = some v := by rw [g.cell_far _ (World.block_lt_of_cell? W _ h.c3) (fun e => h.far p.lt.2.2.2.1 e.symm), h.c3]
  refine ⟨h.keep p hk ?_ ((h.map.kept g (fun e => h.far p.lt.1 e.symm)).setCell _ _ _ hbm) (ownsRow_setCell_below hown p.lt.2.2.2.1 v') h.nodup h.bound (by simp; omega) ?_, hk⟩
  · exact World.cell?_setCell_same _ _ _ hc
  · rw [World.frozen?_setCell]
    exact fz_kept h.c3 h.fz g (h.far p.lt.2.2.2.1)
end
theorem idxGo_is {α : Type} (p : α → Bool) : ∀ (l : List α) (k : Nat), (idxGo p k l = -1 ∧ l.any p = false) ∨ ∃ i, ∃ h : i < l.length, idxGo p k l = (k + i : Nat) ∧ p l[i] = true
  | [], k => .inl ⟨rfl, rfl⟩
  | x :: l, k => by
    unfold idxGo
    cases hx : p x
    · rw [if_neg (by decide)]
      rcases idxGo_is p l (k + 1) with ⟨h1, h2⟩ | ⟨i, h, h1, h2⟩
      · exact .inl ⟨h1, by rw [List.any_cons, hx, h2]; rfl⟩
      · exact .inr ⟨i + 1, by simpa using h, by rw [h1]; congr 1; omega, by simpa using h2⟩
    · rw [if_pos rfl]
      exact .inr ⟨0, by simp, by simp, by simpa using hx⟩
/-- The question that hit asks of each set. -/
def freeB (own : Nat) (x : Int) : Bool := bits .and .i64 x own == 0
theorem free_nat (own s : Nat) (h1 : own < 256) (h2 : s < 256) : freeB own (s : Int) = decide (s &&& own = 0) := by
  unfold freeB
  rw [bits_and s own (by omega) (by omega)]
  by_cases h : s &&& own = 0
  · rw [h, decide_eq_true rfl]; rfl
  · rw [decide_eq_false h]
    simp
    omega
theorem causes11_any (own b : Nat) (x : Int) (w : World) (hb : w.cell? ⟨b, 0, none⟩ = some (.int .i64 own)) : Calls Try.prog 53 #[.int .i64 x, .pointer (some ⟨b, 0, none⟩)] w fun e w' => e = .returned (.bool (freeB own x)) ∧ Grew w w' := by
  have bi : BlockIn w b := BlockIn.of_cell hb
  have HR := Lib.hid (show freeB own x = (bits .and .i64 x own == 0) from rfl)
  go_enter Try.func53, Try.ntmps53
  go_wp2
  go_ret
  exact ⟨ret_bool HR.out.symm, (by repeat (first | with_reducible exact Grew.refl _ | with_reducible apply Grew.alloc | with_reducible apply Grew.later | with_reducible apply Grew.drew | with_reducible apply Grew.store | with_reducible assumption))⟩
/-- An appended set: where the new slice lies. -/
theorem wpList_app_fd3 {ops : Array Oper} {rest : List Oper} {o : Oper} {a : Act} {Q : Exit → Act → World → Prop} (w : World) (base : Nat) (hbase : base ≤ w.heap.size) {m : Nat} [hm : SizeAt w m] (hgd : o.guard = none) (s x : Operand)
    (ho : o.op = .call { callee := .builtin .append, args := #[s, x], argTypes := #[95, 95] }) (v : Value) (l : List (Fin 256)) (hown : w.ownsRow base 101 1 v l.length (l.flatMap fdC)) (hs : a.eval s = v) (p : Fin 256) (ty : TypeId)
    (hx : a.eval x = .slice (some ⟨m, 0, none⟩) 1 1) (hn : l.length ≤ 1099511627776)
    (h : ∀ g n cap w', w'.ownsRow base 101 1 (.slice (some ⟨g, 0, none⟩) n cap) (l ++ [p]).length ((l ++ [p]).flatMap fdC) → (w.alloc (.cells #[.int .i64 ((p.val : Nat) : Int)] ty)).grownBy w' v.ownBlock → (v.ownBlock = some g ∨ g = m + 1) → wpList Try.prog ops Q rest (a.put o.dst (.slice (some ⟨g, 0, none⟩) n cap)) w') :
    wpList Try.prog ops Q (o :: rest) a (w.alloc (.cells #[.int .i64 ((p.val : Nat) : Int)] ty)) := by
  obtain rfl := hm.eq
  obtain ⟨i0, hi, hz0, hzz1, hzz2⟩ := info_parts infoFd
  refine wpList_append_lies _ hgd s x 95 ho base 101 i0 _ 1 8 Try.underlying95 hi hz0 hzz1 hzz2 rfl (by decide) v _ _ hs (hown.alloc _) ⟨w.heap.size, 0, none⟩ 1 1 [.int .i64 ((p.val : Nat) : Int)] hx rfl (by simpa using cells_new w [.int .i64 ((p.val : Nat) : Int)] ty) (by simp [Value.oneCell']) (by decide) (by simp [maxLen]; omega) (by omega) (by simp; omega) (w.heap.size + 1) (by simp) ?_
  intro g cap w1 hown' hgrow hat _
  refine h g _ cap w1 ?_ hgrow hat
  rw [List.length_append, List.flatMap_append]
  exact hown'
end Go.Proofs.Ytgjikdhidakloaa
