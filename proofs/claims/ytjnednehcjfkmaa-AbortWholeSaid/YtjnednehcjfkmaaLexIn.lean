/-
  A drawn region in a round of a range over a function, walked in the text's order.
-/
import Derived.OwnWalkIn
import Derived.OrdersIn
import Derived.StillTailTactics
import Derived.Deep.RegionHeld3
import Derived.Deep.AppendLies
import Derived.RangeFuncNested
import Derived.RangeFuncCalls
import Derived.Test.YtjnednehcjfkmaaLexAll
namespace Go.Proofs.Ytjnednehcjfkmaa
open Go.RowKit
theorem tame_anyA {P : Program} {ops : Array Oper} {N : Nat} {cl free : List Nat} {mk : Nat → Bool} {T : World → World → Prop} {W : Nat → World → Prop} {R : Nat → Value → World → Prop} {val : (Nat → Value) → Nat → Value} {a0 : Act} {Q : Exit → Act → World → Prop} {w : World} (h : Tame P ops N cl free mk T W R val a0 w.drew Q) : wpAny P .any ops Q ops.size (Array.replicate ops.size false) a0 w.drew := by
  have hz : ∀ i, i < ops.size → (Array.replicate ops.size false).getD i true = false := fun i hi => by simp [Array.getD_eq_getD_getElem?, hi]
  refine mid_any h ops.size _ [] 0 (fun _ => undef) a0 _ ⟨by simp, ?_, by simp, by simp, rfl, by simp, by have := h.form.le; omega, fun _ => ⟨h.refl _, by simp, by simp, 0, by omega, h.start, by simp⟩, fun h0 => by omega⟩ ?_
  · intro i hi
    rw [hz i hi]
    simp
  · unfold unlisted
    exact Nat.le_trans (List.length_filter_le _ _) (by simp)
section
variable {P : Program}
theorem lex_anyA {l : List Oper} {Q : Exit → Act → World → Prop} {a0 : Act} {w : World} (N : Nat) (mks cl free : List Nat) (T : World → World → Prop) (W : Nat → World → Prop) (R : Nat → Value → World → Prop) (vs : (Nat → Value) → List Value)
    (hB : tameB l.toArray N cl free = true) (hA : apartB N mks cl free = true)
    (hr : ∀ w, T w w) (ht : ∀ w w' w'', T w w' → T w' w'' → T w w'') (hs : ∀ i u w w', R i u w → T w w' → R i u w') (hold : ∀ i u w, R i u w → Old u w) (h0 : W 0 w.drew)
    (hvc : ∀ p p' : Nat → Value, (cl.map fun c => (vs p).getD c undef) = cl.map fun c => (vs p').getD c undef)
    (hlex : ∀ p, Lex P l.toArray mks cl free T W R NoX w.drew p (fun a => ∀ w', T w.drew w' → W cl.length w' → (∀ j, j ∈ mks → R j (p j) w') → (∀ j j', j ∈ mks → j' ∈ mks → j ≠ j' → Differ (p j) (p j')) → tailWp P l.toArray a (fun w'' => Q .normal a w'') (List.range' N (l.length - N)) w') (l.take N) 0 a0 (vs p)) :
    wpAny P .any l.toArray Q l.toArray.size (Array.replicate l.toArray.size false) a0 w.drew := by
  have hf := form_of hB
  have hN : N ≤ l.length := hf.le
  unfold apartB at hA
  rw [Bool.and_eq_true, List.all_eq_true, List.all_eq_true] at hA
  have hA1 : ∀ i, i ∈ mks → i ∉ cl ∧ i ∉ free ∧ i < N := fun i hi => by
    have := hA.1 i hi
    simp at this
    exact ⟨this.1.1, this.1.2, this.2⟩
  have hA2 : ∀ i, i ∈ free → i ∉ cl := fun i hi => by have := hA.2 i hi; simpa using this
  have hlen : (l.take N).length = N := by simp; omega
  have key : ∀ p, _ := fun p => lex_all (l.take N) 0 a0 (vs p) a0 (fun i => (vs p).getD i undef) (fun j => by
      by_cases hj : j < N
      · left; simp [hj]
      · right; omega) (by rw [hlen]; simpa using hN) rfl (fun j _ => by simp) (hlex p)
  refine tame_anyA (N := N) (cl := cl) (free := free) (mk := fun i => decide (i ∈ mks)) (T := T) (W := W) (R := R) (val := fun p i => (vs (narrow mks p)).getD i undef) ?_
  have hlow : ∀ (p : Nat → Value) (i : Nat) (o : Oper), l.toArray[i]? = some o → i < N → execOp (putAll l.toArray (fun i => (vs p).getD i undef) (List.range i) a0).eval o = execOp (putAll l.toArray (fun i => (vs p).getD i undef) (List.range N) a0).eval o := fun p i o ho hi =>
    frames_agree hf ho (fun j hj _ => by
      obtain ⟨o', e, ho', he, rfl, hb⟩ := edge_of hj
      exact List.mem_range.2 (hf.lex i o' e ho' he hb)) (fun j hj => List.mem_range.2 hj) (fun _ _ => rfl)
  have hn : ∀ (p : Nat → Value) (i : Nat) (w' : World), (∀ j, hasEdge l.toArray i j = true → decide (j ∈ mks) = true → R j (p j) w') → Facts l.toArray mks R (narrow mks p) i w' := fun p i w' h j hj hm => by
    rw [narrow_in hm]
    exact h j hj (decide_eq_true hm)
  have op : ∀ (p : Nat → Value) (i : Nat) (o : Oper), l.toArray[i]? = some o → i < N → LexOp P l.toArray mks cl free T W R NoX w.drew (narrow mks p) i o (putAll l.toArray (fun i => (vs (narrow mks p)).getD i undef) (List.range i) a0) ((vs (narrow mks p)).getD i undef) := fun p i o ho hi =>
    (key (narrow mks p)).1 i o (by omega) (by rw [hlen]; omega) ho
  refine ⟨hf, hr, ht, hs, hold, h0, fun p i hi => ?_, fun p p' hp => ?_, fun p p' c hc => ?_, fun p i o hi hmk hcl ho w' hT hF => ?_, fun p i o hi hfr ho w' => ?_, fun p i o hi hmk ho w' hT hF => ?_, fun p k c o hc ho w' hT hW hF => ?_, fun i hi => hA1 i (of_decide_eq_true hi), hA2, fun p w' hT hW hR hD => ?_⟩
  · have hi := of_decide_eq_true hi
    have hiN := (hA1 i hi).2.2
    have := op p i l[i] (by simp [List.getElem?_eq_getElem (show i < l.length by omega)]) hiN
    unfold LexOp at this
    rw [if_pos hi] at this
    exact this.1.trans (narrow_in hi)
  · have : narrow mks p = narrow mks p' := by
      funext j
      unfold narrow
      split
      · rename_i h; exact hp j (decide_eq_true h)
      · rfl
    simp only [this]
  · have := List.map_inj_left.1 (hvc (narrow mks p) (narrow mks p')) c hc
    exact this
  · have h1 := op p i o ho hi
    have hmk : i ∉ mks := of_decide_eq_false hmk
    unfold LexOp at h1
    rw [if_neg hmk, if_neg hcl] at h1
    refine ((opAt_congr (hlow (narrow mks p) i o ho hi)).1 _ _).1 ?_
    split at h1
    · exact h1 w'
    · exact h1 w' hT (hn p i w' hF)
  · have h1 := op p i o ho hi
    have hmk : i ∉ mks := fun h => (hA1 i h).2.1 hfr
    unfold LexOp at h1
    rw [if_neg hmk, if_neg (hA2 i hfr), if_pos hfr] at h1
    exact ((opAt_congr (hlow (narrow mks p) i o ho hi)).1 _ _).1 (h1 w')
  · have h1 := op p i o ho hi
    unfold LexOp at h1
    rw [if_pos (of_decide_eq_true hmk)] at h1
    exact ((opAt_congr (hlow (narrow mks p) i o ho hi)).2.1 _ _).1 (h1.2 w' hT (hn p i w' hF))
  · have hcl := List.mem_of_getElem? hc
    have hi := hf.call k c hc
    have h1 := op p c o ho hi
    have hmk : c ∉ mks := fun h => (hA1 c h).1 hcl
    unfold LexOp at h1
    rw [if_neg hmk, if_pos hcl] at h1
    exact opCallX_mono (((opAt_congr (hlow (narrow mks p) c o ho hi)).2.2 _ _ _ _).1 (h1 k hc w' hT hW (hn p c w' hF))) noX (fun _ h => h)
  · have := (key (narrow mks p)).2
    rw [hlen, Nat.zero_add] at this
    have h2 := this w' hT hW (fun j hj => by rw [narrow_in hj]; exact hR j (decide_eq_true hj)) (fun j j' hj hj' hne => by rw [narrow_in hj, narrow_in hj']; exact hD j j' (decide_eq_true hj) (decide_eq_true hj') hne)
    have e : l.toArray.size = l.length := by simp
    rw [e]
    exact h2
theorem lexed_anyA {l : List Oper} {Q : Exit → Act → World → Prop} {a0 : Act} {w : World} (N : Nat) (mks cl free : List Nat) (T : World → World → Prop) (W : Nat → World → Prop) (R : Nat → Value → World → Prop) (cv : List Value)
    (hB : tameB l.toArray N cl free = true) (hA : apartB N mks cl free = true)
    (hr : ∀ w, T w w) (ht : ∀ w w' w'', T w w' → T w' w'' → T w w'') (hs : ∀ i u w w', R i u w → T w w' → R i u w') (hold : ∀ i u w, R i u w → Old u w) (h0 : W 0 w.drew)
    (hlex : ∀ p, ∃ vs, Lex P l.toArray mks cl free T W R NoX w.drew p (fun a => ∀ w', T w.drew w' → W cl.length w' → (∀ j, j ∈ mks → R j (p j) w') → (∀ j j', j ∈ mks → j' ∈ mks → j ≠ j' → Differ (p j) (p j')) → tailWp P l.toArray a (fun w'' => Q .normal a w'') (List.range' N (l.length - N)) w') (l.take N) 0 a0 vs ∧
      (cl.map fun c => vs.getD c undef) = cv) :
    wpAny P .any l.toArray Q l.toArray.size (Array.replicate l.toArray.size false) a0 w.drew :=
  lex_anyA N mks cl free T W R (fun p => Classical.choose (hlex p)) hB hA hr ht hs hold h0
    (fun p p' => ((Classical.choose_spec (hlex p)).2).trans ((Classical.choose_spec (hlex p')).2).symm) (fun p => (Classical.choose_spec (hlex p)).1)
theorem grown_anyA {lo : List Oper} {Q : Exit → Act → World → Prop} {a0 : Act} {w : World} (N : Nat) (mks cl free : List Nat) (l : World → List (Nat × (Value → World → Prop))) (cv : List Value) (tl : List Nat) (htl : List.range' N (lo.length - N) = tl)
    (hg : ∀ W0, ∀ x ∈ l W0, Good x.2) (hB : tameB lo.toArray N cl free = true) (hA : apartB N mks cl free = true)
    (hlex : ∀ p, ∃ vs, LexG P lo.toArray mks cl free (l w.drew) w.drew p (fun a => ∀ u : Later w.drew, (∀ j, j ∈ mks → rOf (l w.drew) j (p j) u.world) → (∀ j j', j ∈ mks → j' ∈ mks → j ≠ j' → Differ (p j) (p j')) → Tail P lo.toArray a (fun w'' => Q .normal a w'') tl u.world) (lo.take N) 0 a0 vs ∧
      (cl.map fun c => vs.getD c undef) = cv) :
    wpAny P .any lo.toArray Q lo.toArray.size (Array.replicate lo.toArray.size false) a0 w.drew := by
  subst htl
  refine lexed_anyA N mks cl free Grew NoW (rOf (l w.drew)) cv hB hA (fun w => Grew.refl w) (fun _ _ _ h k => h.trans k) (rOf_stable (hg _)) (rOf_old (hg _)) trivial fun p => ?_
  obtain ⟨vs, h1, h2⟩ := hlex p
  refine ⟨vs, ?_, h2⟩
  have mono : ∀ (l' : List Oper) (i : Nat) (a : Act) (vs : List Value) (E E' : Act → Prop), (∀ a, E a → E' a) → Lex P lo.toArray mks cl free Grew NoW (rOf (l w.drew)) NoX w.drew p E l' i a vs → Lex P lo.toArray mks cl free Grew NoW (rOf (l w.drew)) NoX w.drew p E' l' i a vs := by
    intro l'
    induction l' with
    | nil => intro i a vs E E' hE h; exact ⟨h.1, hE _ h.2⟩
    | cons o r ih =>
      intro i a vs E E' hE h
      cases vs with
      | nil => exact h
      | cons v vs => exact ⟨h.1, ih _ _ _ _ _ hE h.2⟩
  exact mono _ _ _ _ _ _ (fun a h w' hT _ hR hD => (h ⟨w', hT⟩ hR hD).out) h1
end
def noDefer (o : Oper) : Bool := match o.op with | .defer _ => false | _ => true
theorem noDefer_ne {o : Oper} (h : noDefer o = true) : ∀ c, o.op ≠ .defer c := fun c e => by unfold noDefer at h; rw [e] at h; cases h
/-- What ends as it should, and no other way. -/
def endsQ (Q : Exit → Act → World → Prop) (e : Exit) (a : Act) (w : World) : Prop := e = .normal ∧ Q .normal a w
theorem op_inRound {P : Program} {n l : Nat} {o : Oper} (hd : noDefer o = true) {Q : Exit → Act → World → Prop} {a : Act} {w : World} {K K' : Act → World → Prop} (hK : ∀ a w, K a w → K' a w) (h : o.wp P a w K (endsQ Q)) : o.wpIn (Fence.wide.inRound l) n P a w K' Q := by
  refine ⟨fun _ _ => trivial, ?_⟩
  rw [Oper.semAt_plain (Fence.wide.inRound l) _ _ (noDefer_ne hd)]
  unfold Oper.wp at h
  generalize (execOp a.eval o).run P w = r at h ⊢
  cases r with
  | ok x w' =>
    cases x with
    | value v => exact hK _ _ h
    | skip => exact hK _ _ h
    | defer d => exact hK _ _ h
    | enter f args =>
      refine ⟨(fun h => by cases h), CallsIn.inRound l (callsIn_wide.2 (Calls.mono h fun e w'' he => ?_))⟩
      cases e with
      | returned v => exact hK _ _ he
      | panicked c => exact absurd he.1 (by simp)
      | outgrown => obtain ⟨_, _, he⟩ := he; exact absurd he.1 (by simp)
    | row r args =>
      refine ⟨(fun h => by cases h), fun c cs _ => ?_⟩
      obtain ⟨v, w2, hv, hs⟩ := h c cs
      exact ⟨v, w2, hK _ _ hv, stepsIn_wide.2 hs⟩
    | _ => exact h.elim
  | halt x w' =>
    cases x <;> first | exact h.elim | exact absurd h.1 (by simp)
theorem any_inRound {P : Program} {n l : Nat} {ops : Array Oper} (hd : ops.all noDefer = true) {Q : Exit → Act → World → Prop} : ∀ (fuel : Nat) (listed : Array Bool) (a : Act) (w : World), wpAny P .any ops (endsQ Q) fuel listed a w → wpAnyIn (Fence.wide.inRound l) n P .any ops Q fuel listed a w
  | 0, _, _, _, h => ⟨h.1, h.2.2⟩
  | fuel + 1, listed, a, w, h => by
    refine ⟨fun hr => (h.1 hr).2, fun i hi => ?_⟩
    have hi2 := h.2 i hi
    unfold wpOp at hi2
    unfold wpOpIn
    cases ho : ops[i]? with
    | none => rw [ho] at hi2; exact any_inRound hd fuel _ _ _ hi2
    | some o =>
      rw [ho] at hi2
      simp only [] at hi2 ⊢
      have hdo : noDefer o = true := by
        have := Array.all_eq_true_iff_forall_mem.1 hd o (by
          obtain ⟨h1, h2⟩ := Array.getElem?_eq_some_iff.1 ho
          rw [← h2]
          exact Array.getElem_mem h1)
        exact this
      split
      · rename_i hw
        rw [if_pos hw] at hi2
        rcases hi2 with hi2 | ⟨-, _, _, hi2⟩
        · exact op_inRound hdo (fun a w h => any_inRound hd fuel _ _ _ h) hi2
        · exact absurd hi2.1 (by simp)
      · rename_i hw
        rw [if_neg hw] at hi2
        exact ⟨fun _ _ => trivial, any_inRound hd fuel _ _ _ hi2⟩
theorem wpIn_region_any_of {P : Program} {n l id : Nat} {lo : List Oper} {Q : Exit → Act → World → Prop} {a : Act} {w : World} (hm : P.follows .mixedOrders = true) (hd : lo.toArray.all noDefer = true) (h : wpAny P .any lo.toArray (endsQ Q) lo.toArray.size (Array.replicate lo.toArray.size false) a w.drew) : (Code.region id lo.toArray true).wpIn (Fence.wide.inRound l) n P Q a w :=
  wpIn_region_any hm (any_inRound hd _ _ _ _ h)
/-- A drawn region in a round: what reads first, then a tail in one order. -/
theorem wpAny_still_tail {P : Program} {Q : Exit → Act → World → Prop} {a : Act} {w : World} {l : List Oper} (n : Nat) (hB : Region.lexTailB .any l.toArray n = true)
    (h : wpStill P l.toArray w (fun a' => wpList P l.toArray Q (l.drop n) a' w) (l.take n) a) : wpAny P .any l.toArray Q l.toArray.size (Array.replicate l.toArray.size false) a w := by
  simp only [Region.lexTailB, Bool.and_eq_true, decide_eq_true_eq] at hB
  obtain ⟨⟨⟨⟨hsel, hn⟩, hs⟩, hc⟩, hlex⟩ := hB
  have hn' : n < l.length := by simpa using hn
  have htl : (l.take n).length = n := by simp; omega
  have hdl : (l.drop n).length = l.toArray.size - n := by simp
  have inv0 : HeadInv .any l.toArray n (Array.replicate l.toArray.size false) :=
    ⟨by simp, fun j oj _ hl => (by rw [getD_replicate_false] at hl; cases hl), fun t _ ht => getD_in (by simpa using ht) (getD_replicate_false _ _)⟩
  have H := wpAnyL_lex (md := .any) (g := l.toArray.size - n) hsel hs hc hn (l.take n) 0 _ a (fun j hj => by
    have hj' : j < n := by rw [htl] at hj; exact hj
    simp [hj']) (by simpa using htl) inv0 (by rw [htl]; exact hlex) h
  have := wpAny_of_head (Q' := Q) (g := l.toArray.size - n) (fun listed a' hL => by
    have := wpAny_of_seq (md := .any) (Q' := Q) (l.drop n) n listed a' w (fun j => by simp [List.getElem?_drop]) (by rw [hdl]; exact hL.1) hL.2
    rwa [hdl] at this) _ _ _ H
  rw [htl, show n + (l.toArray.size - n) = l.toArray.size by omega] at this
  exact this
theorem wpIn_region_still {P : Program} {N l id : Nat} {lo : List Oper} {Q : Exit → Act → World → Prop} {a : Act} {w : World} (n : Nat) (hm : P.follows .mixedOrders = true) (hd : lo.toArray.all noDefer = true) (hB : Region.lexTailB .any lo.toArray n = true)
    (h : wpStill P lo.toArray w.drew (fun a' => wpList P lo.toArray (endsQ Q) (lo.drop n) a' w.drew) (lo.take n) a) : (Code.region id lo.toArray true).wpIn (Fence.wide.inRound l) N P Q a w :=
  wpIn_region_any_of hm hd (wpAny_still_tail n hB h)
/-- An operation that only reads hands back a value. -/
def opVal (P : Program) (o : Oper) (a : Act) (w : World) (v : Value) : Prop :=
  match (execOp a.eval o).run P w with
  | .ok (.value u) w' => w' = w ∧ u = v
  | _ => False
theorem take_k {P : Program} {md : Region.Mode} {ops : Array Oper} {Q : Exit → Act → World → Prop} {S : World → Prop} {i : Nat} {oi : Oper} {v : Value} {fuel : Nat} {listed : Array Bool} {a : Act} {w : World} (hi : ops[i]? = some oi)
    (hs : Region.noSelect ops = true) (hf : Region.free md ops listed i = true) (hr : (Region.ready md ops listed).contains i = true)
    (hw : Region.wanted oi (yielded ops a.tmps) = true) (hy : ∀ w, S w → opVal P oi a w v) (hS : S w)
    (h : ∀ K : Act → Prop, (∀ a', wpAnyH P md ops (endsQ Q) S fuel (listed.setIfInBounds i true) a' w → K a') → K (a.put oi.dst v)) : wpAnyH P md ops (endsQ Q) S (fuel + 1) listed a w := by
  refine wpAnyH_take hi hs hf hr (fun _ _ _ h => absurd h.1 (by simp)) (Or.inl ⟨hw, fun w hSw => ?_⟩) hS (h _ (fun _ h => h))
  have := hy w hSw
  unfold opVal at this
  generalize (execOp a.eval oi).run P w = r at this ⊢
  cases r with
  | ok n w' => cases n <;> simp only [] at this <;> first | (obtain ⟨rfl, rfl⟩ := this; rfl) | exact this.elim
  | halt x w' => exact this.elim
end Go.Proofs.Ytjnednehcjfkmaa
