/-
  Regions that draw their order: the walk in the order of the text.
-/
import Derived.Test.YtochpnomfedhoaaGreatTame
namespace Go.Proofs.YtochpnomfedhoaaGreat
open Go.RowKit

section
variable {P : Program} {ops : Array Oper}
def tameB (ops : Array Oper) (N : Nat) (cl free : List Nat) : Bool :=
  decide (N ≤ ops.size) &&
  (ops.toList.all fun o => o.guard.isNone && (match o.op with | .select _ _ => false | _ => true)) &&
  ((List.range ops.size).all fun i => (looks ops i).all fun t => (List.range ops.size).all fun j => dstOf ops j != some t || (hasEdge ops i j && decide (j < N))) &&
  ((List.range ops.size).all fun i => (List.range ops.size).all fun j => decide (i = j) || (dstOf ops i).isNone || dstOf ops i != dstOf ops j) &&
  (cl.all fun c => decide (c < N)) &&
  ((List.range cl.length).all fun k => match cl[k]?, cl[k + 1]? with | some c, some d => hasEdge ops d c | _, _ => true) &&
  ((List.range ops.size).all fun i => match ops[i]? with | some o => o.after.toList.all fun e => !Region.binds .any e || decide (e.on < i) | none => true) &&
  ((List.range ops.size).all fun i => decide (i < N) || (((dstOf ops i).isNone) && (List.range i).all fun j => (decide (j < N) && free.contains j) || hasEdge ops i j))
theorem dstOf_lt {i : Nat} {t : Tmp} (h : dstOf ops i = some t) : i < ops.size := by
  unfold dstOf at h
  rcases Nat.lt_or_ge i ops.size with h1 | h1
  · exact h1
  · rw [Array.getElem?_eq_none h1] at h; cases h
theorem looks_lt {i : Nat} {t : Tmp} (h : t ∈ looks ops i) : i < ops.size := by
  unfold looks at h
  rcases Nat.lt_or_ge i ops.size with h1 | h1
  · exact h1
  · rw [Array.getElem?_eq_none h1] at h; simp at h
theorem form_of {N : Nat} {cl free : List Nat} (h : tameB ops N cl free = true) : TameForm ops N cl free := by
  unfold tameB at h
  simp only [Bool.and_eq_true] at h
  obtain ⟨⟨⟨⟨⟨⟨⟨h1, h2⟩, h3⟩, h4⟩, h5⟩, h6⟩, h7⟩, h8⟩ := h
  refine ⟨by simpa using h1, fun i o ho => ?_, fun i t j ht hj => ?_, fun i j t hi hj => ?_, fun k c hc => ?_, fun k c d hc hd => ?_, fun i o e ho he hb => ?_, fun i hN hi => ?_⟩
  · have hm : o ∈ ops.toList := by
      have := Array.mem_of_getElem? ho
      simpa using this
    have := List.all_eq_true.1 h2 o hm
    simp only [Bool.and_eq_true] at this
    refine ⟨by simpa using this.1, fun cs b e => ?_⟩
    rw [e] at this
    simp at this
  · have := List.all_eq_true.1 (List.all_eq_true.1 (List.all_eq_true.1 h3 i (List.mem_range.2 (looks_lt ht))) t ht) j (List.mem_range.2 (dstOf_lt hj))
    rw [hj] at this
    simpa using this
  · have := List.all_eq_true.1 (List.all_eq_true.1 h4 i (List.mem_range.2 (dstOf_lt hi))) j (List.mem_range.2 (dstOf_lt hj))
    rw [hi, hj] at this
    simpa using this
  · have := List.all_eq_true.1 h5 c (List.mem_of_getElem? hc)
    simpa using this
  · have := List.all_eq_true.1 h6 k (List.mem_range.2 (List.getElem?_eq_some_iff.1 hc).1)
    rw [hc, hd] at this
    exact this
  · have := List.all_eq_true.1 h7 i (List.mem_range.2 (Array.getElem?_eq_some_iff.1 ho).1)
    rw [ho] at this
    have := List.all_eq_true.1 this e (by simpa using he)
    rw [hb] at this
    simpa using this
  · have := List.all_eq_true.1 h8 i (List.mem_range.2 hi)
    rw [Bool.or_eq_true] at this
    rcases this with h | h
    · simp at h; omega
    · simp only [Bool.and_eq_true] at h
      refine ⟨by simpa using h.1, fun j hj => ?_⟩
      have := List.all_eq_true.1 h.2 j (List.mem_range.2 hj)
      simpa using this

/-- The facts on what an operation reads. -/
def Facts (ops : Array Oper) (mks : List Nat) (R : Nat → Value → World → Prop) (p : Nat → Value) (i : Nat) (w : World) : Prop := ∀ j, hasEdge ops i j = true → j ∈ mks → R j (p j) w
/-- One operation. -/
def LexOp (P : Program) (ops : Array Oper) (mks cl free : List Nat) (T : World → World → Prop) (W : Nat → World → Prop) (R : Nat → Value → World → Prop) (w0 : World) (p : Nat → Value) (i : Nat) (o : Oper) (a : Act) (v : Value) : Prop :=
  if i ∈ mks then v = p i ∧ ∀ w, T w0 w → Facts ops mks R p i w → opMake P o a w fun u w' => T w w' ∧ R i u w' ∧ (∀ k, W k w → W k w') ∧ Fresh u w
  else if i ∈ cl then ∀ k, cl[k]? = some i → ∀ w, T w0 w → W k w → Facts ops mks R p i w → opCall P o a w v fun w' => T w w' ∧ W (k + 1) w'
  else if i ∈ free then ∀ w, opPure P o a w v
  else ∀ w, T w0 w → Facts ops mks R p i w → opPure P o a w v
/-- The walk; E: what is asked at its end. -/
def Lex (P : Program) (ops : Array Oper) (mks cl free : List Nat) (T : World → World → Prop) (W : Nat → World → Prop) (R : Nat → Value → World → Prop) (w0 : World) (p : Nat → Value) (E : Act → Prop) : List Oper → Nat → Act → List Value → Prop
  | [], _, a, vs => vs = [] ∧ E a
  | o :: r, i, a, v :: vs => LexOp P ops mks cl free T W R w0 p i o a v ∧ Lex P ops mks cl free T W R w0 p E r (i + 1) (a.put o.dst v) vs
  | _ :: _, _, _, [] => False
variable {N : Nat} {mks cl free : List Nat} {T : World → World → Prop} {W : Nat → World → Prop} {R : Nat → Value → World → Prop} {w0 : World} {p : Nat → Value} {E : Act → Prop}
theorem lex_all : ∀ (l : List Oper) (i : Nat) (a : Act) (vs : List Value) (a0 : Act) (val : Nat → Value), (∀ j, l[j]? = ops[i + j]? ∨ l.length ≤ j) → i + l.length ≤ ops.size → a = putAll ops val (List.range i) a0 → (∀ j, j < l.length → val (i + j) = vs.getD j undef) →
    Lex P ops mks cl free T W R w0 p E l i a vs → (∀ j o, i ≤ j → j < i + l.length → ops[j]? = some o → LexOp P ops mks cl free T W R w0 p j o (putAll ops val (List.range j) a0) (val j)) ∧ E (putAll ops val (List.range (i + l.length)) a0)
  | [], i, a, vs, a0, val, _, _, ha, _, h => by
    refine ⟨fun j o h1 h2 => by simp at h2; omega, ?_⟩
    rw [ha] at h
    exact h.2
  | o :: r, i, a, [], a0, val, _, _, _, _, h => by simp [Lex] at h
  | o :: r, i, a, v :: vs, a0, val, hl, hsz, ha, hv, h => by
    obtain ⟨h1, h2⟩ := h
    have ho : ops[i]? = some o := by
      rcases hl 0 with h | h
      · simpa using h.symm
      · simp at h
    have hvi : val i = v := by have := hv 0 (by simp); simpa using this
    have hd : dstOf ops i = o.dst := by unfold dstOf; rw [ho]; rfl
    have ha' : a.put o.dst v = putAll ops val (List.range (i + 1)) a0 := by
      rw [List.range_succ, putAll_snoc, ha, hd, hvi]
    have ih := lex_all r (i + 1) _ vs a0 val (fun j => by
      rcases hl (j + 1) with h | h
      · left; rw [show i + 1 + j = i + (j + 1) by omega, ← h]; simp
      · right; simp at h; omega) (by simp at hsz; omega) ha' (fun j hj => by
        have := hv (j + 1) (by simp; omega)
        rw [show i + 1 + j = i + (j + 1) by omega, this]; simp) h2
    refine ⟨fun j o' hj1 hj2 hj3 => ?_, ?_⟩
    · by_cases hji : j = i
      · subst hji
        rw [ho] at hj3
        injection hj3 with hj3
        subst hj3
        rw [← ha, hvi]
        exact h1
      · exact ih.1 j o' (by omega) (by simp at hj2; omega) hj3
    · have := ih.2
      rw [show i + (o :: r).length = i + 1 + r.length by simp; omega]
      exact this
def apartB (N : Nat) (mks cl free : List Nat) : Bool := (mks.all fun i => !cl.contains i && !free.contains i && decide (i < N)) && free.all fun i => !cl.contains i
def narrow (mks : List Nat) (p : Nat → Value) (j : Nat) : Value := if j ∈ mks then p j else undef
theorem narrow_in {mks : List Nat} {p : Nat → Value} {j : Nat} (h : j ∈ mks) : narrow mks p j = p j := if_pos h
theorem wp_region_lex {id : Nat} {l : List Oper} {Q : Exit → Act → World → Prop} {a0 : Act} {w : World} (N : Nat) (mks cl free : List Nat) (T : World → World → Prop) (W : Nat → World → Prop) (R : Nat → Value → World → Prop) (vs : (Nat → Value) → List Value)
    (hm : P.follows .mixedOrders = true) (hB : tameB l.toArray N cl free = true) (hA : apartB N mks cl free = true)
    (hr : ∀ w, T w w) (ht : ∀ w w' w'', T w w' → T w' w'' → T w w'') (hs : ∀ i u w w', R i u w → T w w' → R i u w') (hold : ∀ i u w, R i u w → Old u w) (h0 : W 0 w.drew)
    (hvc : ∀ p p' : Nat → Value, (cl.map fun c => (vs p).getD c undef) = cl.map fun c => (vs p').getD c undef)
    (hlex : ∀ p, Lex P l.toArray mks cl free T W R w.drew p (fun a => ∀ w', T w.drew w' → W cl.length w' → (∀ j, j ∈ mks → R j (p j) w') → (∀ j j', j ∈ mks → j' ∈ mks → j ≠ j' → Differ (p j) (p j')) → tailWp P l.toArray a (fun w'' => Q .normal a w'') (List.range' N (l.length - N)) w') (l.take N) 0 a0 (vs p)) :
    (Code.region id l.toArray true).wp P Q a0 w := by
  have hf := form_of hB
  have hN : N ≤ l.length := hf.le
  unfold apartB at hA
  rw [Bool.and_eq_true, List.all_eq_true, List.all_eq_true] at hA
  have hA1 : ∀ i, i ∈ mks → i ∉ cl ∧ i ∉ free ∧ i < N := fun i hi => by
    have := hA.1 i hi
    simp at this
    exact ⟨this.1.1, this.1.2, this.2⟩
  have hA2 : ∀ i, i ∈ free → i ∉ cl := fun i hi => by have := hA.2 i hi; simpa using this
  have hlen : (l.take N).length = N := by simp; omega
  have key : ∀ p, _ := fun p => lex_all (l.take N) 0 a0 (vs p) a0 (fun i => (vs p).getD i undef) (fun j => by
      by_cases hj : j < N
      · left; simp [hj]
      · right; omega) (by rw [hlen]; simpa using hN) rfl (fun j _ => by simp) (hlex p)
  refine wp_region_tame (N := N) (cl := cl) (free := free) (mk := fun i => decide (i ∈ mks)) (T := T) (W := W) (R := R) (val := fun p i => (vs (narrow mks p)).getD i undef) hm ?_
  have hlow : ∀ (p : Nat → Value) (i : Nat) (o : Oper), l.toArray[i]? = some o → i < N → execOp (putAll l.toArray (fun i => (vs p).getD i undef) (List.range i) a0).eval o = execOp (putAll l.toArray (fun i => (vs p).getD i undef) (List.range N) a0).eval o := fun p i o ho hi =>
    frames_agree hf ho (fun j hj _ => by
      obtain ⟨o', e, ho', he, rfl, hb⟩ := edge_of hj
      exact List.mem_range.2 (hf.lex i o' e ho' he hb)) (fun j hj => List.mem_range.2 hj) (fun _ _ => rfl)
  have hn : ∀ (p : Nat → Value) (i : Nat) (w' : World), (∀ j, hasEdge l.toArray i j = true → decide (j ∈ mks) = true → R j (p j) w') → Facts l.toArray mks R (narrow mks p) i w' := fun p i w' h j hj hm => by
    rw [narrow_in hm]
    exact h j hj (decide_eq_true hm)
  have op : ∀ (p : Nat → Value) (i : Nat) (o : Oper), l.toArray[i]? = some o → i < N → LexOp P l.toArray mks cl free T W R w.drew (narrow mks p) i o (putAll l.toArray (fun i => (vs (narrow mks p)).getD i undef) (List.range i) a0) ((vs (narrow mks p)).getD i undef) := fun p i o ho hi =>
    (key (narrow mks p)).1 i o (by omega) (by rw [hlen]; omega) ho
  refine ⟨hf, hr, ht, hs, hold, h0, fun p i hi => ?_, fun p p' hp => ?_, fun p p' c hc => ?_, fun p i o hi hmk hcl ho w' hT hF => ?_, fun p i o hi hfr ho w' => ?_, fun p i o hi hmk ho w' hT hF => ?_, fun p k c o hc ho w' hT hW hF => ?_, fun i hi => hA1 i (of_decide_eq_true hi), hA2, fun p w' hT hW hR hD => ?_⟩
  · have hi := of_decide_eq_true hi
    have hiN := (hA1 i hi).2.2
    have := op p i l[i] (by simp [List.getElem?_eq_getElem (show i < l.length by omega)]) hiN
    unfold LexOp at this
    rw [if_pos hi] at this
    exact this.1.trans (narrow_in hi)
  · have : narrow mks p = narrow mks p' := by
      funext j
      unfold narrow
      split
      · rename_i h; exact hp j (decide_eq_true h)
      · rfl
    simp only [this]
  · have := List.map_inj_left.1 (hvc (narrow mks p) (narrow mks p')) c hc
    exact this
  · have h1 := op p i o ho hi
    have hmk : i ∉ mks := of_decide_eq_false hmk
    unfold LexOp at h1
    rw [if_neg hmk, if_neg hcl] at h1
    refine ((opAt_congr (hlow (narrow mks p) i o ho hi)).1 _ _).1 ?_
    split at h1
    · exact h1 w'
    · exact h1 w' hT (hn p i w' hF)
  · have h1 := op p i o ho hi
    have hmk : i ∉ mks := fun h => (hA1 i h).2.1 hfr
    unfold LexOp at h1
    rw [if_neg hmk, if_neg (hA2 i hfr), if_pos hfr] at h1
    exact ((opAt_congr (hlow (narrow mks p) i o ho hi)).1 _ _).1 (h1 w')
  · have h1 := op p i o ho hi
    unfold LexOp at h1
    rw [if_pos (of_decide_eq_true hmk)] at h1
    exact ((opAt_congr (hlow (narrow mks p) i o ho hi)).2.1 _ _).1 (h1.2 w' hT (hn p i w' hF))
  · have hcl := List.mem_of_getElem? hc
    have hi := hf.call k c hc
    have h1 := op p c o ho hi
    have hmk : c ∉ mks := fun h => (hA1 c h).1 hcl
    unfold LexOp at h1
    rw [if_neg hmk, if_pos hcl] at h1
    exact ((opAt_congr (hlow (narrow mks p) c o ho hi)).2.2 _ _ _).1 (h1 k hc w' hT hW (hn p c w' hF))
  · have := (key (narrow mks p)).2
    rw [hlen, Nat.zero_add] at this
    have h2 := this w' hT hW (fun j hj => by rw [narrow_in hj]; exact hR j (decide_eq_true hj)) (fun j j' hj hj' hne => by rw [narrow_in hj, narrow_in hj']; exact hD j j' (decide_eq_true hj) (decide_eq_true hj') hne)
    have e : l.toArray.size = l.length := by simp
    rw [e]
    exact h2
/-- The same, the calls' values given. -/
theorem wp_region_lexed {id : Nat} {l : List Oper} {Q : Exit → Act → World → Prop} {a0 : Act} {w : World} (N : Nat) (mks cl free : List Nat) (T : World → World → Prop) (W : Nat → World → Prop) (R : Nat → Value → World → Prop) (cv : List Value)
    (hm : P.follows .mixedOrders = true) (hB : tameB l.toArray N cl free = true) (hA : apartB N mks cl free = true)
    (hr : ∀ w, T w w) (ht : ∀ w w' w'', T w w' → T w' w'' → T w w'') (hs : ∀ i u w w', R i u w → T w w' → R i u w') (hold : ∀ i u w, R i u w → Old u w) (h0 : W 0 w.drew)
    (hlex : ∀ p, ∃ vs, Lex P l.toArray mks cl free T W R w.drew p (fun a => ∀ w', T w.drew w' → W cl.length w' → (∀ j, j ∈ mks → R j (p j) w') → (∀ j j', j ∈ mks → j' ∈ mks → j ≠ j' → Differ (p j) (p j')) → tailWp P l.toArray a (fun w'' => Q .normal a w'') (List.range' N (l.length - N)) w') (l.take N) 0 a0 vs ∧
      (cl.map fun c => vs.getD c undef) = cv) :
    (Code.region id l.toArray true).wp P Q a0 w :=
  wp_region_lex N mks cl free T W R (fun p => Classical.choose (hlex p)) hm hB hA hr ht hs hold h0
    (fun p p' => ((Classical.choose_spec (hlex p)).2).trans ((Classical.choose_spec (hlex p')).2).symm) (fun p => (Classical.choose_spec (hlex p)).1)
variable {o : Oper} {r : List Oper} {i : Nat} {a : Act} {v : Value} {vs : List Value}
theorem lex_end (h : E a) : Lex P ops mks cl free T W R w0 p E [] i a [] := ⟨rfl, h⟩
theorem lex_pure (h1 : i ∉ mks) (h2 : i ∉ cl) (h3 : i ∉ free) (h : ∀ w, T w0 w → Facts ops mks R p i w → opPure P o a w v) (k : Lex P ops mks cl free T W R w0 p E r (i + 1) (a.put o.dst v) vs) :
    Lex P ops mks cl free T W R w0 p E (o :: r) i a (v :: vs) := ⟨by unfold LexOp; rw [if_neg h1, if_neg h2, if_neg h3]; exact h, k⟩
theorem lex_free (h1 : i ∉ mks) (h2 : i ∉ cl) (h3 : i ∈ free) (h : ∀ w, opPure P o a w v) (k : Lex P ops mks cl free T W R w0 p E r (i + 1) (a.put o.dst v) vs) :
    Lex P ops mks cl free T W R w0 p E (o :: r) i a (v :: vs) := ⟨by unfold LexOp; rw [if_neg h1, if_neg h2, if_pos h3]; exact h, k⟩
theorem lex_make (h1 : i ∈ mks) (h : ∀ w, T w0 w → Facts ops mks R p i w → opMake P o a w fun u w' => T w w' ∧ R i u w' ∧ (∀ k, W k w → W k w') ∧ Fresh u w) (k : Lex P ops mks cl free T W R w0 p E r (i + 1) (a.put o.dst (p i)) vs) :
    Lex P ops mks cl free T W R w0 p E (o :: r) i a (p i :: vs) := ⟨by unfold LexOp; rw [if_pos h1]; exact ⟨rfl, h⟩, k⟩
theorem lex_call (n : Nat) (h1 : i ∉ mks) (h2 : cl[n]? = some i) (h3 : cl.Nodup) (h : ∀ w, T w0 w → W n w → Facts ops mks R p i w → opCall P o a w v fun w' => T w w' ∧ W (n + 1) w') (k : Lex P ops mks cl free T W R w0 p E r (i + 1) (a.put o.dst v) vs) :
    Lex P ops mks cl free T W R w0 p E (o :: r) i a (v :: vs) := by
  refine ⟨?_, k⟩
  unfold LexOp
  rw [if_neg h1, if_pos (List.mem_of_getElem? h2)]
  intro k hk
  have hl := (List.getElem?_eq_some_iff.1 h2).1
  obtain rfl : n = k := (List.getElem?_inj hl h3).1 (h2.trans hk.symm)
  exact h
end
/-- Facts on what has been made: a slice over a new block; a box. -/
structure Good (F : Value → World → Prop) : Prop where
  stable : ∀ u w w', F u w → Grew w w' → F u w'
  old : ∀ u w, F u w → Old u w
def rOf (l : List (Nat × (Value → World → Prop))) (i : Nat) : Value → World → Prop := (l.lookup i).getD fun u _ => blkOf u = none
theorem good_none : Good fun u _ => blkOf u = none := ⟨fun _ _ _ h _ => h, fun u w h b hb => by rw [h] at hb; cases hb⟩
theorem good_of (l : List (Nat × (Value → World → Prop))) (h : ∀ x ∈ l, Good x.2) (i : Nat) : Good (rOf l i) := by
  unfold rOf
  induction l with
  | nil => exact good_none
  | cons x l ih =>
    rw [List.lookup_cons]
    cases hx : i == x.1 with
    | true => exact h x (by simp)
    | false => exact ih (fun y hy => h y (by simp [hy]))
theorem rOf_stable {l : List (Nat × (Value → World → Prop))} (h : ∀ x ∈ l, Good x.2) : ∀ i u w w', rOf l i u w → Grew w w' → rOf l i u w' := fun i => (good_of l h i).stable
theorem rOf_old {l : List (Nat × (Value → World → Prop))} (h : ∀ x ∈ l, Good x.2) : ∀ i u w, rOf l i u w → Old u w := fun i => (good_of l h i).old
def SliceR (n : Nat) (cs : List Value) (u : Value) (w : World) : Prop := ∃ q, u = .slice (some ⟨q, 0, none⟩) n n ∧ RowAt w q cs ∧ BlockIn w q
theorem good_slice (n : Nat) (cs : List Value) : Good (SliceR n cs) := by
  refine ⟨?_, ?_⟩
  · rintro u w w' ⟨q, rfl, h1, h2⟩ g
    obtain ⟨z, rfl⟩ := later_of g
    exact ⟨q, rfl, inferInstance, inferInstance⟩
  · rintro u w ⟨q, rfl, h1, h2⟩ b hb
    cases hb
    exact h2.lt
def BoxR (w0 : World) (cs : List Value) (u : Value) (w : World) : Prop := ∃ q, u = .pointer (some ⟨q, 0, none⟩) ∧ BoxAt w q cs ∧ BlockIn w q ∧ NewFor w0 q
theorem BoxAt.grew {w w' : World} {q : Nat} {cs : List Value} (h : BoxAt w q cs) (hq : q < w.heap.size) (g : Grew w w') : BoxAt w' q cs := fun i v hv => by
  obtain ⟨h1, h2⟩ := h i v hv
  exact ⟨g.cell h1, by rw [Below.frozen g hq, h2]⟩
theorem good_box (w0 : World) (cs : List Value) : Good (BoxR w0 cs) := by
  refine ⟨?_, ?_⟩
  · rintro u w w' ⟨q, rfl, h1, h2, h4⟩ g
    have h3 := h1.grew h2.lt g
    obtain ⟨z, rfl⟩ := later_of g
    exact ⟨q, rfl, h3, inferInstance, h4⟩
  · rintro u w ⟨q, rfl, h1, h2, h4⟩ b hb
    cases hb
    exact h2.lt
theorem boxAt_new (w : World) (cs : List Value) (t : TypeId) : BoxAt (w.alloc (.cells cs.toArray t)) w.heap.size cs := fun i v hv => by
  have hi := (List.getElem?_eq_some_iff.1 hv).1
  refine ⟨by simpa using hv, ?_⟩
  go_simp
/-- The last operations (closed to the walk). -/
structure Tail (P : Program) (ops : Array Oper) (a : Act) (Q : World → Prop) (r : List Nat) (w : World) : Prop where
  out : tailWp P ops a Q r w
/-- What a making operation makes. -/
def Made (F : Value → World → Prop) (w : World) (u : Value) (w' : World) : Prop := Grew w w' ∧ F u w' ∧ Fresh u w
theorem made_slice (w : World) (cs : List Value) (t : TypeId) (n : Nat) : Made (SliceR n cs) w (.slice (some ⟨w.heap.size, 0, none⟩) n n) (w.alloc (.cells cs.toArray t)) :=
  ⟨(Grew.refl _).alloc _, ⟨_, rfl, inferInstance, inferInstance⟩, fun b hb => by cases hb; exact Nat.le_refl _⟩
theorem made_box (w0 w : World) (cs : List Value) (t : TypeId) [h : NewFor w0 w.heap.size] : Made (BoxR w0 cs) w (.pointer (some ⟨w.heap.size, 0, none⟩)) (w.alloc (.cells cs.toArray t)) :=
  ⟨(Grew.refl _).alloc _, ⟨_, rfl, boxAt_new _ _ _, inferInstance, h⟩, fun b hb => by cases hb; exact Nat.le_refl _⟩
section
variable {P : Program} {ops : Array Oper} {mks cl free : List Nat} {l : List (Nat × (Value → World → Prop))} {w0 : World} {p : Nat → Value} {E : Act → Prop} {o : Oper} {r : List Oper} {i : Nat} {a : Act} {v : Value} {vs : List Value}
abbrev NoW : Nat → World → Prop := fun _ _ => True
/-- A region that only makes memory (T: Grew): its walk. -/
def LexG (P : Program) (ops : Array Oper) (mks cl free : List Nat) (l : List (Nat × (Value → World → Prop))) (w0 : World) (p : Nat → Value) (E : Act → Prop) : List Oper → Nat → Act → List Value → Prop := Lex P ops mks cl free Grew NoW (rOf l) w0 p E
theorem lexg_end (h : E a) : LexG P ops mks cl free l w0 p E [] i a [] := lex_end h
theorem lexg_pure (h1 : (mks.contains i || cl.contains i || free.contains i) = false) (h : ∀ u : Later w0, opPure P o a u.world v) (k : LexG P ops mks cl free l w0 p E r (i + 1) (a.put o.dst v) vs) : LexG P ops mks cl free l w0 p E (o :: r) i a (v :: vs) := by
  simp only [Bool.or_eq_false_iff] at h1
  exact lex_pure (by simpa using h1.1.1) (by simpa using h1.1.2) (by simpa using h1.2) (fun w hT _ => h ⟨w, hT⟩) k
theorem lexg_read (h1 : (mks.contains i || cl.contains i || free.contains i) = false) (h : ∀ u : Later w0, Facts ops mks (rOf l) p i u.world → opPure P o a u.world v) (k : LexG P ops mks cl free l w0 p E r (i + 1) (a.put o.dst v) vs) : LexG P ops mks cl free l w0 p E (o :: r) i a (v :: vs) := by
  simp only [Bool.or_eq_false_iff] at h1
  exact lex_pure (by simpa using h1.1.1) (by simpa using h1.1.2) (by simpa using h1.2) (fun w hT hF => h ⟨w, hT⟩ hF) k
theorem lexg_free (h1 : (mks.contains i || cl.contains i || !free.contains i) = false) (h : ∀ w, opPure P o a w v) (k : LexG P ops mks cl free l w0 p E r (i + 1) (a.put o.dst v) vs) : LexG P ops mks cl free l w0 p E (o :: r) i a (v :: vs) := by
  simp only [Bool.or_eq_false_iff, Bool.not_eq_false'] at h1
  exact lex_free (by simpa using h1.1.1) (by simpa using h1.1.2) (by simpa using h1.2) h k
theorem lexg_make (h1 : mks.contains i = true) (h : ∀ u : Later w0, Facts ops mks (rOf l) p i u.world → opMake P o a u.world (Made (rOf l i) u.world)) (k : LexG P ops mks cl free l w0 p E r (i + 1) (a.put o.dst (p i)) vs) : LexG P ops mks cl free l w0 p E (o :: r) i a (p i :: vs) := by
  refine lex_make (by simpa using h1) (fun w hT hF => ?_) k
  have := h ⟨w, hT⟩ hF
  unfold opMake at this ⊢
  generalize (execOp a.eval o).run P w = x at *
  cases x with
  | ok n w' =>
    cases n <;> simp only [] at this
    obtain ⟨t1, t2, t3⟩ := this
    exact ⟨t1, t2, fun _ h => h, t3⟩
  | halt x w' => exact this.elim
theorem lexg_call (n : Nat) (h1 : mks.contains i = false) (h2 : cl[n]? = some i) (h3 : cl.Nodup) (h : ∀ u : Later w0, Facts ops mks (rOf l) p i u.world → opCall P o a u.world v (Grew u.world)) (k : LexG P ops mks cl free l w0 p E r (i + 1) (a.put o.dst v) vs) : LexG P ops mks cl free l w0 p E (o :: r) i a (v :: vs) := by
  refine lex_call n (by simpa using h1) h2 h3 (fun w hT _ hF => ?_) k
  have := h ⟨w, hT⟩ hF
  unfold opCall at this ⊢
  generalize (execOp a.eval o).run P w = x at *
  cases x with
  | ok n w' =>
    cases n <;> simp only [] at this
    exact this.mono fun e w'' ⟨h1, h2⟩ => ⟨h1, h2, trivial⟩
  | halt x w' => exact this.elim
theorem wp_region_grown {id : Nat} {lo : List Oper} {Q : Exit → Act → World → Prop} {a0 : Act} {w : World} (N : Nat) (mks cl free : List Nat) (l : World → List (Nat × (Value → World → Prop))) (cv : List Value) (tl : List Nat) (htl : List.range' N (lo.length - N) = tl)
    (hg : ∀ W0, ∀ x ∈ l W0, Good x.2) (hm : P.follows .mixedOrders = true) (hB : tameB lo.toArray N cl free = true) (hA : apartB N mks cl free = true)
    (hlex : ∀ p, ∃ vs, LexG P lo.toArray mks cl free (l w.drew) w.drew p (fun a => ∀ u : Later w.drew, (∀ j, j ∈ mks → rOf (l w.drew) j (p j) u.world) → (∀ j j', j ∈ mks → j' ∈ mks → j ≠ j' → Differ (p j) (p j')) → Tail P lo.toArray a (fun w'' => Q .normal a w'') tl u.world) (lo.take N) 0 a0 vs ∧
      (cl.map fun c => vs.getD c undef) = cv) :
    (Code.region id lo.toArray true).wp P Q a0 w := by
  subst htl
  refine wp_region_lexed N mks cl free Grew NoW (rOf (l w.drew)) cv hm hB hA (fun w => Grew.refl w) (fun _ _ _ h k => h.trans k) (rOf_stable (hg _)) (rOf_old (hg _)) trivial fun p => ?_
  obtain ⟨vs, h1, h2⟩ := hlex p
  refine ⟨vs, ?_, h2⟩
  have mono : ∀ (l' : List Oper) (i : Nat) (a : Act) (vs : List Value) (E E' : Act → Prop), (∀ a, E a → E' a) → Lex P lo.toArray mks cl free Grew NoW (rOf (l w.drew)) w.drew p E l' i a vs → Lex P lo.toArray mks cl free Grew NoW (rOf (l w.drew)) w.drew p E' l' i a vs := by
    intro l'
    induction l' with
    | nil => intro i a vs E E' hE h; exact ⟨h.1, hE _ h.2⟩
    | cons o r ih =>
      intro i a vs E E' hE h
      cases vs with
      | nil => exact h
      | cons v vs => exact ⟨h.1, ih _ _ _ _ _ hE h.2⟩
  exact mono _ _ _ _ _ _ (fun a h w' hT _ hR hD => (h ⟨w', hT⟩ hR hD).out) h1
end
theorem tail_store {P : Program} {ops : Array Oper} {a : Act} {Q : World → Prop} {i : Nat} {r : List Nat} {w : World} {o : Oper} (ho : ops[i]? = some o) (h : opStore P o a w (Tail P ops a Q r)) : Tail P ops a Q (i :: r) w := by
  refine ⟨?_⟩
  unfold tailWp
  rw [ho]
  show opStore P o a w (tailWp P ops a Q r)
  unfold opStore at h ⊢
  generalize (execOp a.eval o).run P w = x at *
  cases x with
  | ok n w' =>
    cases n <;> simp only [] at h
    · exact h.out
    · exact h.out
  | halt x w' => exact h.elim
theorem tail_end {P : Program} {ops : Array Oper} {a : Act} {Q : World → Prop} {w : World} (h : Q w) : Tail P ops a Q [] w := ⟨h⟩
theorem apart_of_differ {q q' : Nat} (h : Differ (.pointer (some ⟨q, 0, none⟩)) (.pointer (some ⟨q', 0, none⟩))) : Apart q q' ∧ Apart q' q := by
  unfold Differ blkOf at h
  simp at h
  exact ⟨⟨h⟩, ⟨fun e => h e.symm⟩⟩
theorem apart_oldL {w : World} {q : Nat} (h : NewFor w q) : ∀ b, [BlockIn w b] → Apart b q := fun b k => ⟨by have := h.le; have := k.lt; omega⟩
theorem apart_oldR {w : World} {q : Nat} (h : NewFor w q) : ∀ b, [BlockIn w b] → Apart q b := fun b k => ⟨by have := h.le; have := k.lt; omega⟩
theorem apart_old {w : World} {q : Nat} (h : NewFor w q) (b : Nat) [k : BlockIn w b] : Apart b q ∧ Apart q b := by
  have := h.le
  have := k.lt
  exact ⟨⟨by omega⟩, ⟨by omega⟩⟩
end Go.Proofs.YtochpnomfedhoaaGreat
