/-
  A drawn region whose last operations (a tail) write what its loads read: what is held must be held before the tail alone.
  Regions in a round of a range over a function; an iterator that has two boxes; blocks of cells that are held.
  Plain law of nav.Trust and ullageref06.Trust: masks, hulls.
  The iterator nav.choices: the masks of so many bits.
  Contracts: nav.hull, nav.choices, nav.Trust.
  Contract: nav.Trust of valid arguments.
-/
import Derived.Test.YtdkfkalplmgoeaaCore
import Derived.Deep.RegionHeld3
import Derived.OwnWalkIn
import Derived.OrdersIn
import Derived.StillTailTactics
import Derived.Deep.AppendLies
import Derived.RangeFuncNested
import Derived.RangeFuncCalls
import Derived.Test.YtdkfkalplmgoeaaLexAll
import Derived.Sort.BigQuietIn
import Derived.Test.YtdkfkalplmgoeaaFolds
import Derived.Test.YtdkfkalplmgoeaaRowMid
import Derived.Test.YtdkfkalplmgoeaaFuseNav
namespace Go.Proofs.Ytdkfkalplmgoeaa
section
variable {P : Program} {ops : Array Oper} {Q : Exit → Act → World → Prop} {md : Region.Mode} {S : World → Prop} {T : List Nat}
/-- Whatever comes up; S is held behind all that is not of the tail T. -/
def wpTail (P : Program) (md : Region.Mode) (ops : Array Oper) (Q : Exit → Act → World → Prop) (S : World → Prop) (T : List Nat) : Nat → Array Bool → Act → World → Prop
  | 0, listed, a, w => Region.ready md ops listed = [] ∧ Q .normal a w
  | n + 1, listed, a, w => (Region.ready md ops listed = [] → Q .normal a w) ∧
    ∀ i ∈ Region.ready md ops listed, wpOp P ops Q i (fun a' w' => (T.contains i = false → S w') ∧ wpTail P md ops Q S T n (listed.setIfInBounds i true) a' w') a w
theorem wpAny_tail : ∀ (n : Nat) (listed : Array Bool) (a : Act) (w : World), wpTail P md ops Q S T n listed a w → wpAny P md ops Q n listed a w
  | 0, _, _, _, h => h
  | n + 1, _, _, _, h => ⟨h.1, fun i hi => wpOp_mono (fun a' w' k => wpAny_tail n _ a' w' k.2) (h.2 i hi)⟩
/-- Operation j waits for operation g. -/
def waits (md : Region.Mode) (ops : Array Oper) (j g : Nat) : Bool := ((ops[j]?).map fun o => o.after.any fun e => Region.binds md e && e.on == g).getD false
theorem not_waits {listed : Array Bool} {i j : Nat} (hi : listed.getD i true = false) (hj : j ∈ Region.ready md ops listed) {o : Oper} (ho : ops[j]? = some o) : ∀ e ∈ o.after, Region.binds md e = true → e.on ≠ i := fun e he hb heq => by
  obtain ⟨-, o', ho', hall⟩ := mem_ready.1 hj
  obtain rfl : o = o' := by rw [ho] at ho'; exact Option.some.inj ho'
  have h1 := hall e he hb
  rw [heq] at h1
  rcases Nat.lt_or_ge i listed.size with h | h
  · simp [h] at hi h1
    rw [hi] at h1
    cases h1
  · simp [Array.getElem?_eq_none h] at h1
theorem not_ready {listed : Array Bool} {i j : Nat} (hi : listed.getD i true = false) (hw : waits md ops j i = true) : j ∉ Region.ready md ops listed := fun hj => by
  obtain ⟨-, o, ho, -⟩ := mem_ready.1 hj
  simp only [waits, ho, Option.map_some, Option.getD_some, Array.any_eq_true'] at hw
  obtain ⟨e, he, hb⟩ := hw
  simp only [Bool.and_eq_true, beq_iff_eq] at hb
  exact not_waits hi hj ho e he hb.1 hb.2
/-- What yields in every world that meets S may be taken first, where what is of the tail waits for it, or for a gate, and so do the gates. -/
theorem wpTail_first {i : Nat} {G : List Nat} {oi : Oper} {v : Value} (hi : ops[i]? = some oi) (hsel : ∀ (j : Nat) (o : Oper) cs b, ops[j]? = some o → o.op ≠ .select cs b)
    (hQ : ∀ c a w, Q (.panic c) (a.put oi.dst v) w → Q (.panic c) a w) (hG : ∀ j ∈ G, ∃ h ∈ i :: G, waits md ops j h = true) (hT : ∀ j, T.contains j = true → ∃ h ∈ i :: G, waits md ops j h = true) :
    ∀ (n : Nat) (listed : Array Bool) (a : Act) (w : World),
      (∀ j oj, ops[j]? = some oj → j ≠ i → listed.getD j true = false → (∀ e ∈ oj.after, Region.binds md e = true → e.on ≠ i) → oi.apart ops oj = true) →
      i ∈ Region.ready md ops listed → (∀ g ∈ G, listed.getD g true = false) → YieldsIf P ops S oi v a → S w →
      wpTail P md ops Q S T n (listed.setIfInBounds i true) (a.put oi.dst v) w → wpTail P md ops Q S T (n + 1) listed a w
  | 0, listed, a, w, _, hr, _, hy, hS, H => ⟨fun h => (by rw [h] at hr; cases hr), fun j hj => by
      by_cases hji : j = i
      · subst hji
        exact hy.wpOp hi hS ⟨fun _ => hS, H⟩
      · have := ready_mono hj hji
        rw [H.1] at this
        cases this⟩
  | n + 1, listed, a, w, hfree, hr, hgl, hy, hS, H => ⟨fun h => (by rw [h] at hr; cases hr), fun j hj => by
      by_cases hji : j = i
      · subst hji
        exact hy.wpOp hi hS ⟨fun _ => hS, H⟩
      have hil := (mem_ready.1 hr).1
      have hall : ∀ h ∈ i :: G, listed.getD h true = false := fun h hh => by
        rcases List.mem_cons.1 hh with rfl | hh
        · exact hil
        · exact hgl h hh
      have hjG : j ∉ G := fun hm => by
        obtain ⟨h, hh, hw⟩ := hG j hm
        exact not_ready (hall h hh) hw hj
      have hjT : T.contains j = false := by
        cases hc : T.contains j
        · rfl
        · obtain ⟨h, hh, hw⟩ := hT j hc
          exact absurd hj (not_ready (hall h hh) hw)
      obtain ⟨hjl, oj, hoj, -⟩ := mem_ready.1 hj
      have h2 := wpOp_putIf hoj (hfree j oj hoj hji hjl (not_waits hil hj hoj)) (fun cs b => hsel i oi cs b hi) (fun cs b => hsel j oj cs b hoj) hQ hy (H.2 j (ready_mono hj hji))
      refine wpOp_mono (fun a' w' k => ⟨k.2.1, wpTail_first hi hsel hQ hG hT n (listed.setIfInBounds j true) a' w' ?_ (ready_mono hr (Ne.symm hji)) ?_ k.1 (k.2.1 hjT) ?_⟩) h2
      · intro m om hom hmi hml hno
        refine hfree m om hom hmi ?_ hno
        by_cases hjm : j = m
        · exact hjm ▸ hjl
        · rwa [getD_set_ne true hjm] at hml
      · intro g hg
        rw [getD_set_ne true (fun e : j = g => hjG (by rw [e]; exact hg))]
        exact hgl g hg
      · rw [Array.setIfInBounds_comm _ _ hji]
        exact k.2.2⟩
theorem wpTail_take (i : Nat) (G : List Nat) {oi : Oper} {v : Value} {n : Nat} {listed : Array Bool} {a : Act} {w : World} (hi : ops[i]? = some oi) (hs : Region.noSelect ops = true) (hf : Region.free md ops listed i = true) (hr : (Region.ready md ops listed).contains i = true)
    (hg : ((G ++ T).all (fun j => (i :: G).any (waits md ops j)) && G.all fun g => !listed.getD g true) = true) (hQ : ∀ c a w, Q (.panic c) (a.put oi.dst v) w → Q (.panic c) a w) (hw : Region.wanted oi (yielded ops a.tmps) = true) (hS : S w) (hy : ∀ w, S w → (execOp a.eval oi).run P w = .ok (.value v) w)
    (h : wpTail P md ops Q S T n (listed.setIfInBounds i true) (a.put oi.dst v) w) : wpTail P md ops Q S T (n + 1) listed a w := by
  obtain ⟨h1, h2⟩ := Bool.and_eq_true_iff.1 hg
  have h3 : ∀ j, j ∈ G ++ T → ∃ h ∈ i :: G, waits md ops j h = true := fun j hj => List.any_eq_true.1 (List.all_eq_true.1 h1 j hj)
  exact wpTail_first (G := G) hi (Region.noSelect_spec hs) hQ (fun j hj => h3 j (List.mem_append_left _ hj)) (fun j hj => h3 j (List.mem_append_right _ (by simpa using hj))) n listed a w (Region.free_spec hi hf) (by simpa using hr) (fun g hg => by simpa using List.all_eq_true.1 h2 g hg) (.inl ⟨hw, hy⟩) hS h
/-- How the walk comes back behind an operation. -/
structure Back (P : Program) (md : Region.Mode) (ops : Array Oper) (Q : Exit → Act → World → Prop) (S : World → Prop) (T : List Nat) (n : Nat) (listed : Array Bool) (i : Nat) (K : Act → World → Prop) : Prop where
  out : ∀ a w, (T.contains i = false → S w) → wpTail P md ops Q S T n (listed.setIfInBounds i true) a w → K a w
theorem wpTail_step {i : Nat} {o : Oper} {n : Nat} {listed : Array Bool} {a : Act} {w : World} (ho : ops[i]? = some o)
    (h : ∀ K, Back P md ops Q S T n listed i K → if Region.wanted o (yielded ops a.tmps) = true then Oper.wp P o a w K Q else K (a.put o.dst undef) w) : wpOp P ops Q i (fun a' w' => (T.contains i = false → S w') ∧ wpTail P md ops Q S T n (listed.setIfInBounds i true) a' w') a w :=
  wpOp_step ho fun K hK => h K ⟨fun a w h1 h2 => hK a w ⟨h1, h2⟩⟩
theorem wpTail_one (i : Nat) {o : Oper} {n : Nat} {listed : Array Bool} {a : Act} {w : World} (hr : Region.ready md ops listed = [i]) (ho : ops[i]? = some o)
    (h : ∀ K, Back P md ops Q S T n listed i K → if Region.wanted o (yielded ops a.tmps) = true then Oper.wp P o a w K Q else K (a.put o.dst undef) w) : wpTail P md ops Q S T (n + 1) listed a w :=
  ⟨fun h0 => (by rw [hr] at h0; cases h0), fun j hj => by
    rw [hr] at hj
    obtain rfl := List.mem_singleton.1 hj
    exact wpTail_step ho h⟩
theorem wpTail_two (i j : Nat) {o p : Oper} {n : Nat} {listed : Array Bool} {a : Act} {w : World} (hr : Region.ready md ops listed = [i, j]) (ho : ops[i]? = some o) (hp : ops[j]? = some p)
    (h : ∀ K, Back P md ops Q S T n listed i K → if Region.wanted o (yielded ops a.tmps) = true then Oper.wp P o a w K Q else K (a.put o.dst undef) w)
    (h' : ∀ K, Back P md ops Q S T n listed j K → if Region.wanted p (yielded ops a.tmps) = true then Oper.wp P p a w K Q else K (a.put p.dst undef) w) : wpTail P md ops Q S T (n + 1) listed a w :=
  ⟨fun h0 => (by rw [hr] at h0; cases h0), fun k hk => by
    rw [hr] at hk
    rcases List.mem_cons.1 hk with rfl | hk
    · exact wpTail_step ho h
    · obtain rfl := List.mem_singleton.1 hk
      exact wpTail_step hp h'⟩
theorem wpTail_done {n : Nat} {listed : Array Bool} {a : Act} {w : World} (hr : Region.ready md ops listed = []) (h : Q .normal a w) : wpTail P md ops Q S T n listed a w := by
  cases n
  · exact ⟨hr, h⟩
  · exact ⟨fun _ => h, by rw [hr]; exact fun i hi => by cases hi⟩
theorem wp_region_tail (S : World → Prop) (T : List Nat) {id : Nat} {a : Act} {w : World} (hm : P.follows .mixedOrders = true)
    (h : wpTail P .any ops Q S T ops.size (Array.replicate ops.size false) a w.drew) : (Code.region id ops true).wp P Q a w :=
  wp_region_any hm (wpAny_tail _ _ _ _ h)
end
end Go.Proofs.Ytdkfkalplmgoeaa
namespace Go.Proofs.Ytdkfkalplmgoeaa
open Go.RowKit
theorem tame_anyA {P : Program} {ops : Array Oper} {N : Nat} {cl free : List Nat} {mk : Nat → Bool} {T : World → World → Prop} {W : Nat → World → Prop} {R : Nat → Value → World → Prop} {val : (Nat → Value) → Nat → Value} {a0 : Act} {Q : Exit → Act → World → Prop} {w : World} (h : Tame P ops N cl free mk T W R val a0 w.drew Q) : wpAny P .any ops Q ops.size (Array.replicate ops.size false) a0 w.drew := by
  have hz : ∀ i, i < ops.size → (Array.replicate ops.size false).getD i true = false := fun i hi => by simp [Array.getD_eq_getD_getElem?, hi]
  refine mid_any h ops.size _ [] 0 (fun _ => undef) a0 _ ⟨by simp, ?_, by simp, by simp, rfl, by simp, by have := h.form.le; omega, fun _ => ⟨h.refl _, by simp, by simp, 0, by omega, h.start, by simp⟩, fun h0 => by omega⟩ ?_
  · intro i hi
    rw [hz i hi]
    simp
  · unfold unlisted
    exact Nat.le_trans (List.length_filter_le _ _) (by simp)
section
variable {P : Program}
theorem lex_anyA {l : List Oper} {Q : Exit → Act → World → Prop} {a0 : Act} {w : World} (N : Nat) (mks cl free : List Nat) (T : World → World → Prop) (W : Nat → World → Prop) (R : Nat → Value → World → Prop) (vs : (Nat → Value) → List Value)
    (hB : tameB l.toArray N cl free = true) (hA : apartB N mks cl free = true)
    (hr : ∀ w, T w w) (ht : ∀ w w' w'', T w w' → T w' w'' → T w w'') (hs : ∀ i u w w', R i u w → T w w' → R i u w') (hold : ∀ i u w, R i u w → Old u w) (h0 : W 0 w.drew)
    (hvc : ∀ p p' : Nat → Value, (cl.map fun c => (vs p).getD c undef) = cl.map fun c => (vs p').getD c undef)
    (hlex : ∀ p, Lex P l.toArray mks cl free T W R NoX w.drew p (fun a => ∀ w', T w.drew w' → W cl.length w' → (∀ j, j ∈ mks → R j (p j) w') → (∀ j j', j ∈ mks → j' ∈ mks → j ≠ j' → Differ (p j) (p j')) → tailWp P l.toArray a (fun w'' => Q .normal a w'') (List.range' N (l.length - N)) w') (l.take N) 0 a0 (vs p)) :
    wpAny P .any l.toArray Q l.toArray.size (Array.replicate l.toArray.size false) a0 w.drew := by
  have hf := form_of hB
  have hN : N ≤ l.length := hf.le
  unfold apartB at hA
  rw [Bool.and_eq_true, List.all_eq_true, List.all_eq_true] at hA
  have hA1 : ∀ i, i ∈ mks → i ∉ cl ∧ i ∉ free ∧ i < N := fun i hi => by
    have := hA.1 i hi
    simp at this
    exact ⟨this.1.1, this.1.2, this.2⟩
  have hA2 : ∀ i, i ∈ free → i ∉ cl := fun i hi => by have := hA.2 i hi; simpa using this
  have hlen : (l.take N).length = N := by simp; omega
  have key : ∀ p, _ := fun p => lex_all (l.take N) 0 a0 (vs p) a0 (fun i => (vs p).getD i undef) (fun j => by
      by_cases hj : j < N
      · left; simp [hj]
      · right; omega) (by rw [hlen]; simpa using hN) rfl (fun j _ => by simp) (hlex p)
  refine tame_anyA (N := N) (cl := cl) (free := free) (mk := fun i => decide (i ∈ mks)) (T := T) (W := W) (R := R) (val := fun p i => (vs (narrow mks p)).getD i undef) ?_
  have hlow : ∀ (p : Nat → Value) (i : Nat) (o : Oper), l.toArray[i]? = some o → i < N → execOp (putAll l.toArray (fun i => (vs p).getD i undef) (List.range i) a0).eval o = execOp (putAll l.toArray (fun i => (vs p).getD i undef) (List.range N) a0).eval o := fun p i o ho hi =>
    frames_agree hf ho (fun j hj _ => by
      obtain ⟨o', e, ho', he, rfl, hb⟩ := edge_of hj
      exact List.mem_range.2 (hf.lex i o' e ho' he hb)) (fun j hj => List.mem_range.2 hj) (fun _ _ => rfl)
  have hn : ∀ (p : Nat → Value) (i : Nat) (w' : World), (∀ j, hasEdge l.toArray i j = true → decide (j ∈ mks) = true → R j (p j) w') → Facts l.toArray mks R (narrow mks p) i w' := fun p i w' h j hj hm => by
    rw [narrow_in hm]
    exact h j hj (decide_eq_true hm)
  have op : ∀ (p : Nat → Value) (i : Nat) (o : Oper), l.toArray[i]? = some o → i < N → LexOp P l.toArray mks cl free T W R NoX w.drew (narrow mks p) i o (putAll l.toArray (fun i => (vs (narrow mks p)).getD i undef) (List.range i) a0) ((vs (narrow mks p)).getD i undef) := fun p i o ho hi =>
    (key (narrow mks p)).1 i o (by omega) (by rw [hlen]; omega) ho
  refine ⟨hf, hr, ht, hs, hold, h0, fun p i hi => ?_, fun p p' hp => ?_, fun p p' c hc => ?_, fun p i o hi hmk hcl ho w' hT hF => ?_, fun p i o hi hfr ho w' => ?_, fun p i o hi hmk ho w' hT hF => ?_, fun p k c o hc ho w' hT hW hF => ?_, fun i hi => hA1 i (of_decide_eq_true hi), hA2, fun p w' hT hW hR hD => ?_⟩
  · have hi := of_decide_eq_true hi
    have hiN := (hA1 i hi).2.2
    have := op p i l[i] (by simp [List.getElem?_eq_getElem (show i < l.length by omega)]) hiN
    unfold LexOp at this
    rw [if_pos hi] at this
    exact this.1.trans (narrow_in hi)
  · have : narrow mks p = narrow mks p' := by
      funext j
      unfold narrow
      split
      · rename_i h; exact hp j (decide_eq_true h)
      · rfl
    simp only [this]
  · have := List.map_inj_left.1 (hvc (narrow mks p) (narrow mks p')) c hc
    exact this
  · have h1 := op p i o ho hi
    have hmk : i ∉ mks := of_decide_eq_false hmk
    unfold LexOp at h1
    rw [if_neg hmk, if_neg hcl] at h1
    refine ((opAt_congr (hlow (narrow mks p) i o ho hi)).1 _ _).1 ?_
    split at h1
    · exact h1 w'
    · exact h1 w' hT (hn p i w' hF)
  · have h1 := op p i o ho hi
    have hmk : i ∉ mks := fun h => (hA1 i h).2.1 hfr
    unfold LexOp at h1
    rw [if_neg hmk, if_neg (hA2 i hfr), if_pos hfr] at h1
    exact ((opAt_congr (hlow (narrow mks p) i o ho hi)).1 _ _).1 (h1 w')
  · have h1 := op p i o ho hi
    unfold LexOp at h1
    rw [if_pos (of_decide_eq_true hmk)] at h1
    exact ((opAt_congr (hlow (narrow mks p) i o ho hi)).2.1 _ _).1 (h1.2 w' hT (hn p i w' hF))
  · have hcl := List.mem_of_getElem? hc
    have hi := hf.call k c hc
    have h1 := op p c o ho hi
    have hmk : c ∉ mks := fun h => (hA1 c h).1 hcl
    unfold LexOp at h1
    rw [if_neg hmk, if_pos hcl] at h1
    exact opCallX_mono (((opAt_congr (hlow (narrow mks p) c o ho hi)).2.2 _ _ _ _).1 (h1 k hc w' hT hW (hn p c w' hF))) noX (fun _ h => h)
  · have := (key (narrow mks p)).2
    rw [hlen, Nat.zero_add] at this
    have h2 := this w' hT hW (fun j hj => by rw [narrow_in hj]; exact hR j (decide_eq_true hj)) (fun j j' hj hj' hne => by rw [narrow_in hj, narrow_in hj']; exact hD j j' (decide_eq_true hj) (decide_eq_true hj') hne)
    have e : l.toArray.size = l.length := by simp
    rw [e]
    exact h2
theorem lexed_anyA {l : List Oper} {Q : Exit → Act → World → Prop} {a0 : Act} {w : World} (N : Nat) (mks cl free : List Nat) (T : World → World → Prop) (W : Nat → World → Prop) (R : Nat → Value → World → Prop) (cv : List Value)
    (hB : tameB l.toArray N cl free = true) (hA : apartB N mks cl free = true)
    (hr : ∀ w, T w w) (ht : ∀ w w' w'', T w w' → T w' w'' → T w w'') (hs : ∀ i u w w', R i u w → T w w' → R i u w') (hold : ∀ i u w, R i u w → Old u w) (h0 : W 0 w.drew)
    (hlex : ∀ p, ∃ vs, Lex P l.toArray mks cl free T W R NoX w.drew p (fun a => ∀ w', T w.drew w' → W cl.length w' → (∀ j, j ∈ mks → R j (p j) w') → (∀ j j', j ∈ mks → j' ∈ mks → j ≠ j' → Differ (p j) (p j')) → tailWp P l.toArray a (fun w'' => Q .normal a w'') (List.range' N (l.length - N)) w') (l.take N) 0 a0 vs ∧
      (cl.map fun c => vs.getD c undef) = cv) :
    wpAny P .any l.toArray Q l.toArray.size (Array.replicate l.toArray.size false) a0 w.drew :=
  lex_anyA N mks cl free T W R (fun p => Classical.choose (hlex p)) hB hA hr ht hs hold h0
    (fun p p' => ((Classical.choose_spec (hlex p)).2).trans ((Classical.choose_spec (hlex p')).2).symm) (fun p => (Classical.choose_spec (hlex p)).1)
theorem grown_anyA {lo : List Oper} {Q : Exit → Act → World → Prop} {a0 : Act} {w : World} (N : Nat) (mks cl free : List Nat) (l : World → List (Nat × (Value → World → Prop))) (cv : List Value) (tl : List Nat) (htl : List.range' N (lo.length - N) = tl)
    (hg : ∀ W0, ∀ x ∈ l W0, Good x.2) (hB : tameB lo.toArray N cl free = true) (hA : apartB N mks cl free = true)
    (hlex : ∀ p, ∃ vs, LexG P lo.toArray mks cl free (l w.drew) w.drew p (fun a => ∀ u : Later w.drew, (∀ j, j ∈ mks → rOf (l w.drew) j (p j) u.world) → (∀ j j', j ∈ mks → j' ∈ mks → j ≠ j' → Differ (p j) (p j')) → Tail P lo.toArray a (fun w'' => Q .normal a w'') tl u.world) (lo.take N) 0 a0 vs ∧
      (cl.map fun c => vs.getD c undef) = cv) :
    wpAny P .any lo.toArray Q lo.toArray.size (Array.replicate lo.toArray.size false) a0 w.drew := by
  subst htl
  refine lexed_anyA N mks cl free Grew NoW (rOf (l w.drew)) cv hB hA (fun w => Grew.refl w) (fun _ _ _ h k => h.trans k) (rOf_stable (hg _)) (rOf_old (hg _)) trivial fun p => ?_
  obtain ⟨vs, h1, h2⟩ := hlex p
  refine ⟨vs, ?_, h2⟩
  have mono : ∀ (l' : List Oper) (i : Nat) (a : Act) (vs : List Value) (E E' : Act → Prop), (∀ a, E a → E' a) → Lex P lo.toArray mks cl free Grew NoW (rOf (l w.drew)) NoX w.drew p E l' i a vs → Lex P lo.toArray mks cl free Grew NoW (rOf (l w.drew)) NoX w.drew p E' l' i a vs := by
    intro l'
    induction l' with
    | nil => intro i a vs E E' hE h; exact ⟨h.1, hE _ h.2⟩
    | cons o r ih =>
      intro i a vs E E' hE h
      cases vs with
      | nil => exact h
      | cons v vs => exact ⟨h.1, ih _ _ _ _ _ hE h.2⟩
  exact mono _ _ _ _ _ _ (fun a h w' hT _ hR hD => (h ⟨w', hT⟩ hR hD).out) h1
end
def noDefer (o : Oper) : Bool := match o.op with | .defer _ => false | _ => true
theorem noDefer_ne {o : Oper} (h : noDefer o = true) : ∀ c, o.op ≠ .defer c := fun c e => by unfold noDefer at h; rw [e] at h; cases h
/-- What ends as it should, and no other way. -/
def endsQ (Q : Exit → Act → World → Prop) (e : Exit) (a : Act) (w : World) : Prop := e = .normal ∧ Q .normal a w
theorem op_inRound {P : Program} {n l : Nat} {o : Oper} (hd : noDefer o = true) {Q : Exit → Act → World → Prop} {a : Act} {w : World} {K K' : Act → World → Prop} (hK : ∀ a w, K a w → K' a w) (h : o.wp P a w K (endsQ Q)) : o.wpIn (Fence.wide.inRound l) n P a w K' Q := by
  refine ⟨fun _ _ => trivial, ?_⟩
  rw [Oper.semAt_plain (Fence.wide.inRound l) _ _ (noDefer_ne hd)]
  unfold Oper.wp at h
  generalize (execOp a.eval o).run P w = r at h ⊢
  cases r with
  | ok x w' =>
    cases x with
    | value v => exact hK _ _ h
    | skip => exact hK _ _ h
    | defer d => exact hK _ _ h
    | enter f args =>
      refine ⟨(fun h => by cases h), CallsIn.inRound l (callsIn_wide.2 (Calls.mono h fun e w'' he => ?_))⟩
      cases e with
      | returned v => exact hK _ _ he
      | panicked c => exact absurd he.1 (by simp)
      | outgrown => obtain ⟨_, _, he⟩ := he; exact absurd he.1 (by simp)
    | row r args =>
      refine ⟨(fun h => by cases h), fun c cs _ => ?_⟩
      obtain ⟨v, w2, hv, hs⟩ := h c cs
      exact ⟨v, w2, hK _ _ hv, stepsIn_wide.2 hs⟩
    | _ => exact h.elim
  | halt x w' =>
    cases x <;> first | exact h.elim | exact absurd h.1 (by simp)
theorem any_inRound {P : Program} {n l : Nat} {ops : Array Oper} (hd : ops.all noDefer = true) {Q : Exit → Act → World → Prop} : ∀ (fuel : Nat) (listed : Array Bool) (a : Act) (w : World), wpAny P .any ops (endsQ Q) fuel listed a w → wpAnyIn (Fence.wide.inRound l) n P .any ops Q fuel listed a w
  | 0, _, _, _, h => ⟨h.1, h.2.2⟩
  | fuel + 1, listed, a, w, h => by
    refine ⟨fun hr => (h.1 hr).2, fun i hi => ?_⟩
    have hi2 := h.2 i hi
    unfold wpOp at hi2
    unfold wpOpIn
    cases ho : ops[i]? with
    | none => rw [ho] at hi2; exact any_inRound hd fuel _ _ _ hi2
    | some o =>
      rw [ho] at hi2
      simp only [] at hi2 ⊢
      have hdo : noDefer o = true := by
        have := Array.all_eq_true_iff_forall_mem.1 hd o (by
          obtain ⟨h1, h2⟩ := Array.getElem?_eq_some_iff.1 ho
          rw [← h2]
          exact Array.getElem_mem h1)
        exact this
      split
      · rename_i hw
        rw [if_pos hw] at hi2
        rcases hi2 with hi2 | ⟨-, _, _, hi2⟩
        · exact op_inRound hdo (fun a w h => any_inRound hd fuel _ _ _ h) hi2
        · exact absurd hi2.1 (by simp)
      · rename_i hw
        rw [if_neg hw] at hi2
        exact ⟨fun _ _ => trivial, any_inRound hd fuel _ _ _ hi2⟩
theorem wpIn_region_any_of {P : Program} {n l id : Nat} {lo : List Oper} {Q : Exit → Act → World → Prop} {a : Act} {w : World} (hm : P.follows .mixedOrders = true) (hd : lo.toArray.all noDefer = true) (h : wpAny P .any lo.toArray (endsQ Q) lo.toArray.size (Array.replicate lo.toArray.size false) a w.drew) : (Code.region id lo.toArray true).wpIn (Fence.wide.inRound l) n P Q a w :=
  wpIn_region_any hm (any_inRound hd _ _ _ _ h)
/-- A drawn region in a round: what reads first, then a tail in one order. -/
theorem wpAny_still_tail {P : Program} {Q : Exit → Act → World → Prop} {a : Act} {w : World} {l : List Oper} (n : Nat) (hB : Region.lexTailB .any l.toArray n = true)
    (h : wpStill P l.toArray w (fun a' => wpList P l.toArray Q (l.drop n) a' w) (l.take n) a) : wpAny P .any l.toArray Q l.toArray.size (Array.replicate l.toArray.size false) a w := by
  simp only [Region.lexTailB, Bool.and_eq_true, decide_eq_true_eq] at hB
  obtain ⟨⟨⟨⟨hsel, hn⟩, hs⟩, hc⟩, hlex⟩ := hB
  have hn' : n < l.length := by simpa using hn
  have htl : (l.take n).length = n := by simp; omega
  have hdl : (l.drop n).length = l.toArray.size - n := by simp
  have inv0 : HeadInv .any l.toArray n (Array.replicate l.toArray.size false) :=
    ⟨by simp, fun j oj _ hl => (by rw [getD_replicate_false] at hl; cases hl), fun t _ ht => getD_in (by simpa using ht) (getD_replicate_false _ _)⟩
  have H := wpAnyL_lex (md := .any) (g := l.toArray.size - n) hsel hs hc hn (l.take n) 0 _ a (fun j hj => by
    have hj' : j < n := by rw [htl] at hj; exact hj
    simp [hj']) (by simpa using htl) inv0 (by rw [htl]; exact hlex) h
  have := wpAny_of_head (Q' := Q) (g := l.toArray.size - n) (fun listed a' hL => by
    have := wpAny_of_seq (md := .any) (Q' := Q) (l.drop n) n listed a' w (fun j => by simp [List.getElem?_drop]) (by rw [hdl]; exact hL.1) hL.2
    rwa [hdl] at this) _ _ _ H
  rw [htl, show n + (l.toArray.size - n) = l.toArray.size by omega] at this
  exact this
theorem wpIn_region_still {P : Program} {N l id : Nat} {lo : List Oper} {Q : Exit → Act → World → Prop} {a : Act} {w : World} (n : Nat) (hm : P.follows .mixedOrders = true) (hd : lo.toArray.all noDefer = true) (hB : Region.lexTailB .any lo.toArray n = true)
    (h : wpStill P lo.toArray w.drew (fun a' => wpList P lo.toArray (endsQ Q) (lo.drop n) a' w.drew) (lo.take n) a) : (Code.region id lo.toArray true).wpIn (Fence.wide.inRound l) N P Q a w :=
  wpIn_region_any_of hm hd (wpAny_still_tail n hB h)
/-- An operation that only reads hands back a value. -/
def opVal (P : Program) (o : Oper) (a : Act) (w : World) (v : Value) : Prop :=
  match (execOp a.eval o).run P w with
  | .ok (.value u) w' => w' = w ∧ u = v
  | _ => False
theorem take_k {P : Program} {md : Region.Mode} {ops : Array Oper} {Q : Exit → Act → World → Prop} {S : World → Prop} {i : Nat} {oi : Oper} {v : Value} {fuel : Nat} {listed : Array Bool} {a : Act} {w : World} (hi : ops[i]? = some oi)
    (hs : Region.noSelect ops = true) (hf : Region.free md ops listed i = true) (hr : (Region.ready md ops listed).contains i = true)
    (hw : Region.wanted oi (yielded ops a.tmps) = true) (hy : ∀ w, S w → opVal P oi a w v) (hS : S w)
    (h : ∀ K : Act → Prop, (∀ a', wpAnyH P md ops (endsQ Q) S fuel (listed.setIfInBounds i true) a' w → K a') → K (a.put oi.dst v)) : wpAnyH P md ops (endsQ Q) S (fuel + 1) listed a w := by
  refine wpAnyH_take hi hs hf hr (fun _ _ _ h => absurd h.1 (by simp)) (Or.inl ⟨hw, fun w hSw => ?_⟩) hS (h _ (fun _ h => h))
  have := hy w hSw
  unfold opVal at this
  generalize (execOp a.eval oi).run P w = r at this ⊢
  cases r with
  | ok n w' => cases n <;> simp only [] at this <;> first | (obtain ⟨rfl, rfl⟩ := this; rfl) | exact this.elim
  | halt x w' => exact this.elim
end Go.Proofs.Ytdkfkalplmgoeaa
namespace Go.Proofs.Ytdkfkalplmgoeaa
open Go.RowKit Go.Shelf
set_option maxRecDepth 100000
set_option maxHeartbeats 4000000
attribute [local go_sem] Oper.semAt_some
/-- A region of one order, in a round. -/
theorem list_inRound {P : Program} {n r : Nat} {ops : Array Oper} {Q : Exit → Act → World → Prop} : ∀ (l : List Oper) (a : Act) (w : World), l.all noDefer = true → wpList P ops (endsQ Q) l a w → wpListIn (Fence.wide.inRound r) n P ops Q l a w
  | [], _, _, _, h => h.2
  | o :: l, a, w, hd, h => by
    rw [List.all_cons, Bool.and_eq_true] at hd
    unfold wpList at h
    unfold wpListIn
    split
    · rename_i hw
      rw [if_pos hw] at h
      rcases h with h | ⟨-, _, _, h⟩
      · exact op_inRound hd.1 (fun a w h => list_inRound l a w hd.2 h) h
      · exact absurd h.1 (by simp)
    · rename_i hw
      rw [if_neg hw] at h
      exact ⟨fun _ _ => trivial, list_inRound l _ w hd.2 h⟩
theorem wpIn_region_list_of {P : Program} {n r id : Nat} {lo : List Oper} {Q : Exit → Act → World → Prop} {a : Act} {w : World} (hd : lo.all noDefer = true) (h : wpList P lo.toArray (endsQ Q) lo a w) : (Code.region id lo.toArray false).wpIn (Fence.wide.inRound r) n P Q a w :=
  wpIn_region_lit (list_inRound lo a w hd h)
/-- What a round keeps: the iterator's two boxes. -/
structure KeepTwo (b c : Nat) (w w' : World) : Prop where
  one : w'.heap[b]? = w.heap[b]?
  two : w'.heap[c]? = w.heap[c]?
theorem KeepTwo.refl (b c : Nat) (w : World) : KeepTwo b c w w := ⟨rfl, rfl⟩
theorem KeepTwo.trans {b c : Nat} {u v w : World} (h : KeepTwo b c u v) (k : KeepTwo b c v w) : KeepTwo b c u w := ⟨k.one.trans h.one, k.two.trans h.two⟩
theorem KeepTwo.cell1 {b c o : Nat} {u v : World} (h : KeepTwo b c u v) : v.cell? ⟨b, o, none⟩ = u.cell? ⟨b, o, none⟩ := by simp [World.cell?, h.one]
theorem KeepTwo.cell2 {b c o : Nat} {u v : World} (h : KeepTwo b c u v) : v.cell? ⟨c, o, none⟩ = u.cell? ⟨c, o, none⟩ := by simp [World.cell?, h.two]
theorem keepTwo_b {b c : Nat} {w : World} (hb : b < w.heap.size) (hc : c < w.heap.size) (W : World) (l : Nat) (o o' : Obj) (hl : w.heap.size ≤ l) (h : W.heap[l]? = some o) (_h1 : o.isCells = false) (_h2 : o.isWalk = false) : KeepTwo b c W (W.putObj l o') :=
  ⟨(grownBy_putObj' W l o').block b (by have := (Array.getElem?_eq_some_iff.1 h).1; omega) (fun e => by cases e; omega), (grownBy_putObj' W l o').block c (by have := (Array.getElem?_eq_some_iff.1 h).1; omega) (fun e => by cases e; omega)⟩
/-- Blocks of cells that are held. -/
def Held (W : World) (l : List (Nat × List Value × TypeId)) : Prop := ∀ p ∈ l, W.heap[p.1]? = some (.cells p.2.1.toArray p.2.2 (0, 0))
theorem Held.nil (W : World) : Held W [] := fun p h => by simp at h
theorem Held.cons {W : World} {b : Nat} {v : List Value} {t : TypeId} {l : List (Nat × List Value × TypeId)} (h1 : RowIs W b t v) (h : Held W l) : Held W ((b, v, t) :: l) := by
  intro p hp
  rcases List.mem_cons.1 hp with rfl | hp
  · exact h1.is
  · exact h p hp
theorem Held.head {W : World} {b : Nat} {v : List Value} {t : TypeId} {l : List (Nat × List Value × TypeId)} (h : Held W ((b, v, t) :: l)) : RowIs W b t v ∧ Held W l := ⟨⟨h (b, v, t) (by simp)⟩, fun p hp => h p (by simp [hp])⟩
theorem Held.kept {W W' : World} {row : Option Nat} {l : List (Nat × List Value × TypeId)} (h : Held W l) (hg : W.grownBy W' row) (hr : ∀ r, row = some r → ∃ o : Obj, W.heap[r]? = some o ∧ o.isCells = false) : Held W' l := by
  intro p hp
  have h1 := h p hp
  refine (hg.block p.1 (Array.getElem?_eq_some_iff.1 h1).1 (fun e => ?_)).trans h1
  obtain ⟨o, ho, hc⟩ := hr _ e.symm
  rw [h1] at ho
  cases ho
  cases hc
theorem ownFrom_held {β : Type} {B : Nat} (l : β → List (Nat × List Value × TypeId)) : OwnFrom B (fun s W => Held W (l s)) := fun _ _ _ _ h hg hr => h.kept hg (fun r e => (hr r e).2)
theorem ownFrom_grown {β : Type} {B : Nat} {w : World} {row : Option Nat} (hB : w.heap.size ≤ B) : OwnFrom B (fun (_ : β) W => w.grownBy W row) := fun _ A C r h hg hr => ⟨hg.os.trans h.os, hg.tape.trans h.tape, hg.output.trans h.output, Nat.le_trans h.size hg.size, fun i hi hne => by
  refine (hg.block i (Nat.lt_of_lt_of_le hi h.size) (fun e => ?_)).trans (h.block i hi hne)
  have := (hr i e.symm).1
  omega⟩
theorem RowIs.kept {W W' : World} {row : Option Nat} {b : Nat} {t : TypeId} {l : List Value} (h : RowIs W b t l) (hg : W.grownBy W' row) (hne : some b ≠ row) : RowIs W' b t l := ⟨(hg.block b h.lt hne).trans h.is⟩
theorem RowIs.not_row {W : World} {B : Nat} {t e : TypeId} {l : List Value} (h : RowIs W B t l) (hte : t ≠ e) {base size k : Nat} {v : Value} {xs : List Value} (hr : W.ownsRow base e size v k xs) : some B ≠ v.ownBlock := by
  rcases hr.2 with ⟨rfl, _⟩ | ⟨g, cap, cur, rfl, _, hgb, _⟩
  · simp [Value.ownBlock]
  · intro e'
    obtain rfl : B = g := by simpa [Value.ownBlock] using e'
    have := h.is
    rw [hgb] at this
    cases this
    exact hte rfl
theorem grownBy_setRow' (W : World) (b : Nat) (cs : Array Value) : W.grownBy (W.setRow b cs) (some b) :=
  ⟨rfl, rfl, rfl, by simp, fun k _ hk => setRow_other W b k cs (fun e => hk (by rw [e]))⟩
theorem RowIs.cells_at {W : World} {b : Nat} {t : TypeId} {l : List Value} (h : RowIs W b t l) (o : Obj) (ho : W.heap[b]? = some o) : o.isCells = true := by
  rw [h.is] at ho
  cases ho
  rfl
/-- The row v lies where the row of before lay, or is new. -/
def Near (n : Nat) (row0 : Option Nat) (v : Value) : Prop := ∀ k, v.ownBlock = some k → row0 = some k ∨ n ≤ k
theorem grown_step {w W W' : World} {row0 r : Option Nat} (h : w.grownBy W row0) (k : W.grownBy W' r) (hr : ∀ j, r = some j → row0 = some j ∨ w.heap.size ≤ j) : w.grownBy W' row0 :=
  ⟨k.os.trans h.os, k.tape.trans h.tape, k.output.trans h.output, Nat.le_trans h.size k.size, fun i hi hne => by
    refine (k.block i (Nat.lt_of_lt_of_le hi h.size) (fun e => ?_)).trans (h.block i hi hne)
    rcases hr i e.symm with e2 | e2
    · exact hne e2.symm
    · omega⟩
theorem row_as {W : World} {b : Nat} {t : TypeId} {l l' : List Value} (h : RowIs W b t l) (e : l = l') : RowIs W b t l' := e ▸ h
theorem cell_is {W : World} {b : Nat} {t : TypeId} {l : List Value} (h : RowIs W b t l) (i : Nat) {v : Value} (e : l[i]? = some v) : W.cell? ⟨b, i, none⟩ = some v := (cell_rowIs W b i t l).trans e
theorem grew_by {a w : World} (h : Grew a w) (row : Option Nat) : a.grownBy w row := ⟨h.os, h.tape, h.output, h.size, fun i hi _ => h.block i hi⟩
theorem wpIn_named {Fc : Fence} {n : Nat} {P : Program} {c : Code} {Q : Exit → Act → World → Prop} {a : Act} {w : World} (F : World → Prop) (h : F w) (k : ∀ Y, F Y → c.wpIn Fc n P Q a Y) : c.wpIn Fc n P Q a w := k w h
theorem wp_ends {P : Program} {c : Code} {Q : Exit → Act → World → Prop} {a : Act} {w : World} (h : c.wp P (endsQ Q) a w) : c.wp P Q a w := wp_mono h fun _ _ _ k => by
  obtain ⟨rfl, k⟩ := k
  exact k
theorem wp_namedF {P : Program} {c : Code} {Q : Exit → Act → World → Prop} {a : Act} {w : World} (F : World → Prop) (h : F w) (k : ∀ Y, F Y → c.wp P Q a Y) : c.wp P Q a w := k w h
end Go.Proofs.Ytdkfkalplmgoeaa
namespace Go.Proofs.Ytdkfkalplmgoeaa
set_option maxRecDepth 100000
/-- How many bits a number has set (so many rounds at most). -/
def popF : Nat → Nat → Nat
  | 0, _ => 0
  | f + 1, m => if m = 0 then 0 else popF f (m &&& (m - 1)) + 1
theorem and_pred_lt {m : Nat} (h : 0 < m) : m &&& (m - 1) < m := Nat.lt_of_le_of_lt Nat.and_le_right (by omega)
theorem popF_more : ∀ (f g m : Nat), m ≤ f → m ≤ g → popF f m = popF g m
  | 0, 0, _, _, _ => rfl
  | 0, g + 1, m, h, _ => by
    obtain rfl : m = 0 := by omega
    rfl
  | f + 1, 0, m, _, h => by
    obtain rfl : m = 0 := by omega
    rfl
  | f + 1, g + 1, m, h1, h2 => by
    unfold popF
    by_cases hm : m = 0
    · rw [if_pos hm, if_pos hm]
    · have := and_pred_lt (m := m) (by omega)
      rw [if_neg hm, if_neg hm, popF_more f g _ (by omega) (by omega)]
def popN (m : Nat) : Nat := popF m m
theorem pop_zero : popN 0 = 0 := rfl
theorem pop_step {m : Nat} (h : 0 < m) : popN m = popN (m &&& (m - 1)) + 1 := by
  have hl := and_pred_lt h
  obtain ⟨k, rfl⟩ : ∃ k, m = k + 1 := ⟨m - 1, by omega⟩
  show popF (k + 1) (k + 1) = popF _ _ + 1
  rw [popF, if_neg (by omega), popF_more k ((k + 1) &&& (k + 1 - 1)) _ (by omega) (Nat.le_refl _)]
/-- The masks below k with so many bits. -/
def masksTo (many k : Nat) : List Nat := (List.range k).filter fun m => decide (popN m = many)
theorem masks_succ (many k : Nat) : masksTo many (k + 1) = if popN k = many then masksTo many k ++ [k] else masksTo many k := by
  unfold masksTo
  rw [List.range_succ, List.filter_append]
  by_cases h : popN k = many
  · rw [if_pos h, List.filter_cons_of_pos (by simpa using h)]
    rfl
  · rw [if_neg h, List.filter_cons_of_neg (by simpa using h), List.filter_nil, List.append_nil]
theorem masks_lt {many k g : Nat} (h : g ∈ masksTo many k) : g < k := List.mem_range.1 (List.mem_filter.1 h).1
/-- The hull of two boxes, and of two states. -/
def hullB (a b : Bx) : Bx := ⟨hullS a.x b.x, hullS a.y b.y, hullS a.z b.z⟩
def hullT (a b : State) : State := ⟨a.t, hullB a.p b.p, hullB a.v b.v, a.m⟩
/-- What is left, with one more choice. -/
def joinR (o : Option State) (r : ResF) : Option State := if r.e = 0 then some (match o with | none => r.s | some a => hullT a r.s) else o
theorem join_bad {o : Option State} {r : ResF} (h : r.e ≠ 0) : joinR o r = o := if_neg h
theorem join_new {r : ResF} (h : r.e = 0) : joinR none r = some r.s := if_pos h
theorem join_more {a : State} {r : ResF} (h : r.e = 0) : joinR (some a) r = some (hullT a r.s) := if_pos h
noncomputable def trustTo (s : State) (l : List Radio) (n : Int) (gs : List Nat) : Option State := gs.foldl (fun o g => joinR o (fuseR (keepG (g : Nat)) l n.toNat 0 s)) none
theorem trust_snoc (s : State) (l : List Radio) (n : Int) (gs : List Nat) (g : Nat) : trustTo s l n (gs ++ [g]) = joinR (trustTo s l n gs) (fuseR (keepG (g : Nat)) l n.toNat 0 s) := by
  unfold trustTo
  rw [List.foldl_append]
  rfl
def lastR (o : Option State) : ResT := match o with | none => errT 7 | some s => ⟨s, 0⟩
noncomputable def trustR (s : State) (l : List Radio) (wrong n : Int) : ResT :=
  if fuseE s l n = 0 then (if wrong < 0 ∨ 2 < wrong ∨ (l.length : Int) < wrong then errT 2 else lastR (trustTo s l n (masksTo wrong.toNat (2 ^ l.length)))) else errT (fuseE s l n)
end Go.Proofs.Ytdkfkalplmgoeaa
namespace Go.Proofs.Ytdkfkalplmgoeaa
open Go.RowKit Go.Shelf
set_option maxRecDepth 100000
set_option maxHeartbeats 4000000
attribute [local go_sem] Oper.semAt_some
theorem bv_ofN (a : Nat) (ha : a < 9223372036854775808) : (BitVec.ofInt 64 (a : Int)).toNat = a := by simp [BitVec.ofInt]; omega
theorem bits_andN (a b : Nat) (ha : a < 9223372036854775808) (hb : b < 9223372036854775808) : bits .and .i64 (a : Int) (b : Int) = ((a &&& b : Nat) : Int) := by
  have h3 : a &&& b ≤ a := Nat.and_le_left
  show IntKind.i64.wrap ((BitVec.ofInt 64 (a : Int) &&& BitVec.ofInt 64 (b : Int)).toNat : Int) = _
  rw [BitVec.toNat_and, bv_ofN a ha, bv_ofN b hb, IntKind.wrap_i64]
  omega
theorem shl_one : ∀ n, n < 17 → IntKind.i64.wrap ((2 : Int) ^ n) = 2 ^ n := by decide +kernel
def encM (x : Nat) : Array Value := #[.int .i64 (x : Int)]
theorem masks_len (many k : Nat) : ∀ j, k ≤ j → (masksTo many k).length ≤ (masksTo many j).length
  | 0, h => by rw [show k = 0 by omega]; exact Nat.le_refl _
  | j + 1, h => by
    by_cases e : k = j + 1
    · rw [e]; exact Nat.le_refl _
    · refine Nat.le_trans (masks_len many k j (by omega)) ?_
      rw [masks_succ]
      split
      · simp
      · exact Nat.le_refl _
theorem choices_in (N : Nat) (hn : 1 ≤ N) (l Bn Bm n many : Nat) (h16 : n ≤ 16) (J Jx : List Nat → World → Prop)
    (hY : ∀ pre x W, J pre W → pre.length < (masksTo many (2 ^ n)).length → YieldAt Fence.wide (N - 1) Try.prog l (encM x) W fun e W' =>
      (e = .returned (.bool true) ∧ J (pre ++ [x]) W' ∧ KeepTwo Bn Bm W W') ∨ (e = .returned (.bool false) ∧ Jx (pre ++ [x]) W'))
    (W : World) (hA : W.cell? ⟨Bn, 0, none⟩ = some (.int .i64 n)) (hB : W.cell? ⟨Bm, 0, none⟩ = some (.int .i64 many)) (h0 : J [] W) :
    CallsIn Fence.wide N Try.prog 50 #[.func (.yield l) #[] #[], .pointer (some ⟨Bn, 0, none⟩), .pointer (some ⟨Bm, 0, none⟩)] W fun e W' => (∃ v, e = .returned v) ∧
      ((∃ ys, ys = masksTo many (2 ^ n) ∧ J ys W') ∨ (∃ pre, (∃ k, pre = masksTo many k) ∧ Jx pre W')) := by
  have HY := Lib.hid hY
  have iA : BlockIn W Bn := BlockIn.of_cell hA
  have iB : BlockIn W Bm := BlockIn.of_cell hB
  have hsh := shl_one n (by omega)
  have hn1 : ¬ ((n : Int) < 0) := by omega
  have hn2 : (n : Int) < 64 := by omega
  have hp : ((2 ^ n : Nat) : Int) = 2 ^ n := by simp
  have hle : 2 ^ n ≤ 2 ^ 16 := Nat.pow_le_pow_right (n := 2) (by decide) h16
  clear hY
  obtain ⟨T, hT⟩ : ∃ T, T = 2 ^ n := ⟨_, rfl⟩
  rw [← hT] at hp hle
  have HT := Lib.hid hT
  rw [← hp] at hsh
  refine callsIn_of_wp Try.func50 rfl trivial ?_ rfl
  simp only [Try.ntmps50, List.size_toArray, List.length_cons, List.length_nil, Nat.reduceAdd, Nat.reduceSub, Array.replicate_succ, Array.replicate_zero, List.push_toArray, List.append_toArray, List.nil_append, List.cons_append]
  gi_wp2; iterate 12 (try (refine ⟨(fun _ h => by cases h), ?_⟩; gi_wp2))
  gi_loopw [9] (fun i wr => ∃ k : Nat, i = .int .i64 k ∧ k ≤ T ∧ J (masksTo many k) wr ∧ KeepTwo Bn Bm W wr) (fun i _ => T - (intOf i).toNat)
  case atStart => exact ⟨0, rfl, Nat.zero_le _, h0, KeepTwo.refl _ _ _⟩
  case round =>
    obtain ⟨k, rfl, hk, hJs, hkeep⟩ := hrel
    have hB' := (hkeep.cell2 (o := 0)).trans hB
    have iA' : BlockIn wr Bn := BlockIn.of_cell ((hkeep.cell1 (o := 0)).trans hA)
    have iB' : BlockIn wr Bm := BlockIn.of_cell hB'
    by_cases hlt : k < T
    · have hlt' : (k : Int) < T := by omega
      gi_wp2; iterate 12 (try (refine ⟨(fun _ h => by cases h), ?_⟩; gi_wp2))
      gi_loopw [5, 6] (fun b m w' => ∃ bn mn : Nat, w' = wr ∧ b = .int .i64 bn ∧ m = .int .i64 mn ∧ mn ≤ k ∧ bn + popN mn = popN k ∧ bn ≤ k) (fun _ m _ => (intOf m).toNat)
      case atStart => exact ⟨0, k, rfl, rfl, rfl, Nat.le_refl _, by omega, Nat.zero_le _⟩
      case round =>
        obtain ⟨bn, mn, rfl, rfl, rfl, hmn, hpop, hbn⟩ := hrel
        by_cases h0 : 0 < mn
        · have hd : (0 : Int) < mn := by omega
          have ha : bits .and .i64 (mn : Int) ((mn : Int) - 1) = ((mn &&& (mn - 1) : Nat) : Int) := by
            rw [← bits_andN mn (mn - 1) (by omega) (by omega), show ((mn : Int) - 1) = ((mn - 1 : Nat) : Int) by omega]
          have hstep := pop_step h0
          have hlt2 := and_pred_lt h0
          generalize mn &&& (mn - 1) = mm at *
          have hb2 : bn + 1 ≤ k := by
            have : popN k ≤ k := by
              have : ∀ f m, popF f m ≤ f := fun f => by
                induction f with
                | zero => exact fun m => Nat.le_refl _
                | succ f ih =>
                  intro m
                  unfold popF
                  split
                  · omega
                  · exact Nat.succ_le_succ (ih _)
              exact this k k
            omega
          gi_wp2; iterate 12 (try (refine ⟨(fun _ h => by cases h), ?_⟩; gi_wp2))
          go_roundw
          case rel => exact ⟨bn + 1, mm, trivial, by go_num, rfl, by omega, by omega, hb2⟩
          case measure => simp [intOf]; omega
        · obtain rfl : mn = 0 := by omega
          have hq : bn = popN k := by rw [pop_zero] at hpop; omega
          subst hq
          have hle2 := masks_len many (k + 1) T (by omega)
          have hsn := masks_succ many k
          by_cases hc : popN k = many
          · rw [if_pos hc] at hsn
            have hq1 : (((popN k : Nat) : Int) == ((many : Nat) : Int)) = true := by simp [hc]
            have hl : (masksTo many k).length < (masksTo many (2 ^ n)).length := by
              rw [← HT.out]
              rw [hsn] at hle2
              simp at hle2
              omega
            obtain ⟨fn, tmps, assign, body, hy, hR⟩ := HY.out _ k wr hJs hl
            unfold encM at hy
            have Hsn := Lib.hid hsn
            clear hsn hc hl
            generalize popN k = pk at *
            gi_wp2; iterate 12 (try (refine ⟨(fun _ h => by cases h), ?_⟩; gi_wp2))
            refine hR.mono ?_
            rintro e W3 (⟨rfl, hJ3, hk3⟩ | ⟨rfl, hJx3⟩)
            · skip
              gi_wp2; iterate 12 (try (refine ⟨(fun _ h => by cases h), ?_⟩; gi_wp2))
              go_roundw
              case rel => exact ⟨k + 1, by go_num, by omega, by rw [Hsn.out]; exact hJ3, hkeep.trans hk3⟩
              case measure => simp [intOf]; omega
            · skip
              gi_wp2; iterate 12 (try (refine ⟨(fun _ h => by cases h), ?_⟩; gi_wp2))
              refine bodyPost_ret (results_none rfl _ _ _) rfl ?_
              exact ⟨⟨_, rfl⟩, .inr ⟨_, ⟨k + 1, Hsn.out.symm⟩, hJx3⟩⟩
          · rw [if_neg hc] at hsn
            have hq1 : (((popN k : Nat) : Int) == ((many : Nat) : Int)) = false := by simp; omega
            have Hsn := Lib.hid hsn
            clear hsn hc
            generalize popN k = pk at *
            gi_wp2; iterate 12 (try (refine ⟨(fun _ h => by cases h), ?_⟩; gi_wp2))
            go_roundw
            case rel => exact ⟨k + 1, by go_num, by omega, by rw [Hsn.out]; exact hJs, hkeep⟩
            case measure => simp [intOf]; omega
    · obtain rfl : k = T := by omega
      have hlt' : ¬ ((k : Int) < k) := by omega
      gi_wp2; iterate 12 (try (refine ⟨(fun _ h => by cases h), ?_⟩; gi_wp2))
      go_end0
      exact ⟨⟨_, rfl⟩, .inl (by rw [← HT.out]; exact hJs)⟩
end Go.Proofs.Ytdkfkalplmgoeaa
namespace Go.Proofs.Ytdkfkalplmgoeaa
open Go.RowKit Go.Shelf
set_option maxRecDepth 100000
set_option maxHeartbeats 16000000
set_option linter.unusedSimpArgs false
@[go_sem high] theorem run_max_n {P : Program} (w : World) (ts : Array TypeId) (t : TypeId) (k k' : IntKind) (x y : Int) : (Builtin.max_ ts t #[.int k x, .int k' y]).run P w = .ok (.int k (imax x y)) w := by
  have e : (if y > x then y else x) = imax x y := by
    unfold imax
    repeat' split
    all_goals first | rfl | omega
  simp [Builtin.max_, Builtin.max2, e]
@[go_sem high] theorem run_min_n {P : Program} (w : World) (ts : Array TypeId) (t : TypeId) (k k' : IntKind) (x y : Int) : (Builtin.min_ ts t #[.int k x, .int k' y]).run P w = .ok (.int k (imin x y)) w := by
  have e : (if y < x then y else x) = imin x y := by
    unfold imin
    repeat' split
    all_goals first | rfl | omega
  simp [Builtin.min_, Builtin.min2, e]
@[go_sem] theorem min_iminN (a b : Int) : min a b = imin a b := by
  rw [Int.min_def]
  unfold imin
  repeat' split
  all_goals first | rfl | omega
@[go_sem] theorem max_imaxN (a b : Int) : max a b = imax a b := by
  rw [Int.max_def]
  unfold imax
  repeat' split
  all_goals first | rfl | omega
/-- Cells that are laid over those of a list from a place on. -/
def overL : List Value → Nat → List Value → List Value
  | l, _, [] => l
  | l, o, v :: r => overL (l.set o v) (o + 1) r
theorem over_mid : ∀ (Y X A B : List Value), X.length = Y.length → overL (A ++ (X ++ B)) A.length Y = A ++ (Y ++ B)
  | [], [], _, _, _ => rfl
  | y :: Y, x :: X, A, B, h => by
    have ih := over_mid Y X (A ++ [y]) B (by simpa using h)
    have e : (A ++ ((x :: X) ++ B)).set A.length y = (A ++ [y]) ++ (X ++ B) := by simp
    show overL ((A ++ ((x :: X) ++ B)).set A.length y) (A.length + 1) Y = _
    rw [e]
    have e2 : (A ++ [y]).length = A.length + 1 := by simp
    rw [e2] at ih
    rw [ih]
    simp
theorem rowIs_over (b : Nat) (t : TypeId) : ∀ (vs l : List Value) (o : Nat) (w : World), RowIs w b t l → RowIs (w.setCells b o vs) b t (overL l o vs)
  | [], _, _, _, h => h
  | v :: r, l, o, w, h => by
    have h1 : RowIs (w.setCell ⟨b, o, none⟩ v) b t (l.set o v) := rowIs_setCell w o v b t l (h := h)
    exact rowIs_over b t r _ (o + 1) _ h1
theorem grownBy_two {u v w : World} {r : Option Nat} (h : u.grownBy v r) (k : v.grownBy w r) : u.grownBy w r :=
  ⟨k.os.trans h.os, k.tape.trans h.tape, k.output.trans h.output, Nat.le_trans h.size k.size, fun i hi hne => (k.block i (Nat.lt_of_lt_of_le hi h.size) hne).trans (h.block i hi hne)⟩
theorem grownBy_cell (W : World) (b o : Nat) (v : Value) : W.grownBy (W.setCell ⟨b, o, none⟩ v) (some b) :=
  ⟨rfl, rfl, rfl, by simp [World.setCell], fun k _ hk => Below.heap_setCell _ _ _ _ (fun e => hk (by rw [e]))⟩
theorem grownBy_setCells (b : Nat) : ∀ (vs : List Value) (o : Nat) (w : World), w.grownBy (w.setCells b o vs) (some b)
  | [], _, w => World.grownBy.refl w _
  | v :: r, o, w => grownBy_two (grownBy_cell w b o v) (grownBy_setCells b r (o + 1) _)
theorem hullB_is (a b : Bx) : (.agg #[.int .i64 (hullB a b).x.lo, .int .i64 (hullB a b).x.hi, .int .i64 (hullB a b).y.lo, .int .i64 (hullB a b).y.hi, .int .i64 (hullB a b).z.lo, .int .i64 (hullB a b).z.hi] : Value) = .agg #[.int .i64 (imin a.x.lo b.x.lo), .int .i64 (imax a.x.hi b.x.hi), .int .i64 (imin a.y.lo b.y.lo), .int .i64 (imax a.y.hi b.y.hi), .int .i64 (imin a.z.lo b.z.lo), .int .i64 (imax a.z.hi b.z.hi)] := rfl
theorem wp_still_y {P : Program} {id : Nat} {Q : Exit → Act → World → Prop} {a : Act} {w : World} {l : List Oper} (n : Nat) (hm : P.follows .mixedOrders = true) (hB : Region.lexTailB .any l.toArray n = true)
    (h : ∀ Y, Y = w.drew → wpStill P l.toArray Y (fun a' => wpList P l.toArray Q (l.drop n) a' Y) (l.take n) a) : (Code.region id l.toArray true).wp P Q a w := wp_region_still_tail n hm hB (h _ rfl)
theorem navHull_any (a b : Bx) (w : World) : Calls Try.prog 36 #[.agg #[.int .i64 a.x.lo, .int .i64 a.x.hi, .int .i64 a.y.lo, .int .i64 a.y.hi, .int .i64 a.z.lo, .int .i64 a.z.hi], .agg #[.int .i64 b.x.lo, .int .i64 b.x.hi, .int .i64 b.y.lo, .int .i64 b.y.hi, .int .i64 b.z.lo, .int .i64 b.z.hi]] w fun e w' => e = .returned (.agg #[.int .i64 (hullB a b).x.lo, .int .i64 (hullB a b).x.hi, .int .i64 (hullB a b).y.lo, .int .i64 (hullB a b).y.hi, .int .i64 (hullB a b).z.lo, .int .i64 (hullB a b).z.hi]) ∧ Grew w w' := by
  rw [hullB_is]
  go_enter Try.func36, Try.ntmps36
  go_wp2
  refine wp_loop_rounds 4 ?_
  rw [rounds_succ]
  go_wp2
  refine wp_still_y 21 (by kernel_rfl) (by kernel_rfl) ?_
  intro Y hY
  have h1 : Y.cell? ⟨w.heap.size, 0, none⟩ = some (.int .i64 a.x.lo) := by rw [hY]; go_simp
  have h2 : Y.cell? ⟨w.heap.size, 1, none⟩ = some (.int .i64 a.x.hi) := by rw [hY]; go_simp
  have h3 : Y.cell? ⟨w.heap.size + 1, 0, none⟩ = some (.int .i64 b.x.lo) := by rw [hY]; go_simp
  have h4 : Y.cell? ⟨w.heap.size + 1, 1, none⟩ = some (.int .i64 b.x.hi) := by rw [hY]; go_simp
  simp only [List.take_succ_cons, List.take_zero, List.drop_succ_cons, List.drop_zero]
  repeat still_step
  refine wpStill_nil ?_
  subst hY
  clear h1 h2 h3 h4
  go_wp2
  rw [rounds_succ]
  go_wp2
  refine wp_still_y 21 (by kernel_rfl) (by kernel_rfl) ?_
  intro Y hY
  have h1 : Y.cell? ⟨w.heap.size, 2, none⟩ = some (.int .i64 a.y.lo) := by rw [hY]; go_simp
  have h2 : Y.cell? ⟨w.heap.size, 3, none⟩ = some (.int .i64 a.y.hi) := by rw [hY]; go_simp
  have h3 : Y.cell? ⟨w.heap.size + 1, 2, none⟩ = some (.int .i64 b.y.lo) := by rw [hY]; go_simp
  have h4 : Y.cell? ⟨w.heap.size + 1, 3, none⟩ = some (.int .i64 b.y.hi) := by rw [hY]; go_simp
  simp only [List.take_succ_cons, List.take_zero, List.drop_succ_cons, List.drop_zero]
  repeat still_step
  refine wpStill_nil ?_
  subst hY
  clear h1 h2 h3 h4
  go_wp2
  rw [rounds_succ]
  go_wp2
  refine wp_still_y 21 (by kernel_rfl) (by kernel_rfl) ?_
  intro Y hY
  have h1 : Y.cell? ⟨w.heap.size, 4, none⟩ = some (.int .i64 a.z.lo) := by rw [hY]; go_simp
  have h2 : Y.cell? ⟨w.heap.size, 5, none⟩ = some (.int .i64 a.z.hi) := by rw [hY]; go_simp
  have h3 : Y.cell? ⟨w.heap.size + 1, 4, none⟩ = some (.int .i64 b.z.lo) := by rw [hY]; go_simp
  have h4 : Y.cell? ⟨w.heap.size + 1, 5, none⟩ = some (.int .i64 b.z.hi) := by rw [hY]; go_simp
  simp only [List.take_succ_cons, List.take_zero, List.drop_succ_cons, List.drop_zero]
  repeat still_step
  refine wpStill_nil ?_
  subst hY
  clear h1 h2 h3 h4
  go_wp2
  rw [rounds_succ]
  go_wp2
  refine bodyPost_ret (res_one Try.results36 rfl inferInstance inferInstance inferInstance) rfl ?_
  exact ⟨rfl, gw⟩
theorem navChoices_any (n many : Nat) (w : World) :
    Calls Try.prog 34 #[.int .i64 n, .int .i64 many] w fun e w' => e = .returned (.func (.func 50) #[] #[.pointer (some ⟨w.heap.size, 0, none⟩), .pointer (some ⟨w.heap.size + 1, 0, none⟩)]) ∧ w' = (w.alloc (.cells #[.int .i64 n] 3)).alloc (.cells #[.int .i64 many] 3) := by
  go_enter Try.func34, Try.ntmps34
  go_wp2
  go_ret
  exact ⟨rfl, rfl⟩
theorem choices_stops (N : Nat) (hn : 1 ≤ N) (Bn Bm n many : Nat) (h16 : n ≤ 16) (w : World) (hA : w.cell? ⟨Bn, 0, none⟩ = some (.int .i64 n)) (hB : w.cell? ⟨Bm, 0, none⟩ = some (.int .i64 many)) :
    SeqStopsK Fence.wide N Try.prog 50 #[.pointer (some ⟨Bn, 0, none⟩), .pointer (some ⟨Bm, 0, none⟩)] encM (KeepTwo Bn Bm) (fun ys => ys = masksTo many (2 ^ n)) (fun pre => ∃ k, pre = masksTo many k) (masksTo many (2 ^ n)).length w := by
  intro l J Jx W hW _ _ hY h0
  have bA := World.block_lt_of_cell? w _ hA
  have bB := World.block_lt_of_cell? w _ hB
  have k0 := (hW.cell (p := ⟨Bn, 0, none⟩) bA).trans hA
  have k1 := (hW.cell (p := ⟨Bm, 0, none⟩) bB).trans hB
  exact choices_in N hn l Bn Bm n many h16 J Jx hY W k0 k1 h0
section
variable {ops : Array Oper} {o : Oper} {a : Act} {w : World} {K : Act → World → Prop} {Q : Exit → Act → World → Prop} {E : Prop}
theorem exec_load_rng (ty : TypeId) (x : Operand) {b p n : Nat} {cs : List Value} (ho : o.op = .load ty x) (hx : a.eval x = .pointer (some ⟨b, p, none⟩)) [hs : StructTy ty n] [hr : RangeIs w b p n cs] : (execOp a.eval o).run Try.prog w = .ok (.value (.agg cs.toArray)) w := by
  have h := loadAt_rng w b p n ty cs
  unfold execOp
  rw [ho]
  simp [hx, h]
/-- A box is read out of a block at a step. -/
theorem step_load_rng (hgd : o.guard = none) (ty : TypeId) (x : Operand) (ho : o.op = .load ty x) {b p n : Nat} {cs : List Value} (hx : a.eval x = .pointer (some ⟨b, p, none⟩)) [hs : StructTy ty n] [hr : RangeIs w b p n cs] (k : K (a.put o.dst (.agg cs.toArray)) w) : if Region.wanted o (yielded ops a.tmps) = true then Oper.wp Try.prog o a w K Q else E := by
  have hw : Region.wanted o (yielded ops a.tmps) = true := by simp [Region.wanted, hgd]
  rw [if_pos hw]
  obtain ⟨⟨d, hd1, hd2⟩, hz⟩ := hs
  exact wp_load_mid ty x ho b p hx cs d hr.is hd1 (by cases d <;> first | rfl | cases hd2) (by rw [hz, hr.len]) k
/-- Cells are stored into a block at a step. -/
theorem step_store_mid (hgd : o.guard = none) (hd : o.dst = none) (ty : TypeId) (x y : Operand) (ho : o.op = .store ty x y) {b p : Nat} {t : TypeId} {l cs : List Value} (hx : a.eval x = .pointer (some ⟨b, p, none⟩)) (hy : a.eval y = .agg cs.toArray) [hr : RowIs w b t l] (hi : (Try.prog.info? ty).map (·.size) = some cs.length) (h1 : cs.all (·.oneCell') = true) (hp : p + cs.length ≤ l.length) (k : K a (w.setCells b p cs)) : if Region.wanted o (yielded ops a.tmps) = true then Oper.wp Try.prog o a w K Q else E := by
  have hw : Region.wanted o (yielded ops a.tmps) = true := by simp [Region.wanted, hgd]
  rw [if_pos hw]
  refine wp_store_mid ty x y ho b p cs.toArray hx hy (fun j hj => ⟨?_, frozen_rowIs w b _ _ _⟩) (by simpa using hi) (all_oneCell_toArray (List.all_eq_true.1 h1)) ?_
  · have hj2 : j < cs.length := by simpa using hj
    rw [cell_rowIs, List.getElem?_eq_getElem (by omega)]
    rfl
  · rw [hd]
    exact k
end
def RetTr (r : ResT) (w : World) (e : Ending) (w' : World) : Prop := e = .returned (.tuple #[.agg r.s.cells.toArray, .int .i64 r.e]) ∧ Grew w w'
theorem ret_tr {s : State} {e : Int} {r : ResT} (h : r = ⟨s, e⟩) : Ending.returned (.tuple #[.agg s.cells.toArray, .int .i64 e]) = .returned (.tuple #[.agg r.s.cells.toArray, .int .i64 r.e]) := by subst h; rfl
section
variable (s : State) (l : List Radio) (n : Int) (ao : Option Addr) (cap : Nat) (w : World) (hs : SlAt w (.slice ao l.length cap) l.length (l.flatMap Radio.cells))
include hs
theorem navTrust_bad (wrong : Int) (hE : fuseE s l n ≠ 0) : Calls Try.prog 13 #[.agg s.cells.toArray, .slice ao l.length cap, .int .i64 wrong, .int .i64 n] w (RetTr (trustR s l wrong n) w) := by
  have HR := Lib.hid (show trustR s l wrong n = errT (fuseE s l n) by unfold trustR; rw [if_neg hE])
  have HC := Lib.hid (fun w' (g : Grew w w') => show Calls Try.prog 33 #[.agg s.cells.toArray, .slice ao l.length cap, .int .i64 n] w' (fun e w'' => e = .returned (.int .i64 (fuseE s l n)) ∧ Grew w' w'') from navCheck_any s l n ao cap w' (hs.grew g))
  have t0 : (fuseE s l n != 0) = true := by simp [hE]
  clear hE hs
  generalize trustR s l wrong n = R at *
  generalize fuseE s l n = E at *
  go_enter Try.func13, Try.ntmps13
  go_wp2_with (first | (go_at_call 33; (with_reducible refine call_later (HC.out _ gw) ?_); intro u) | (with_reducible refine wLi ?_) | (with_reducible refine wSf ?_) | (with_reducible refine wSi ?_) | ((with_reducible refine wp_region_later ?_ ?_ ?_); (· kernel_rfl); (· kernel_rfl); (try simp only [List.append_eq, List.cons_append, List.nil_append]); (repeat (go_big_quiet_step ((first | (go_at_call 33; (with_reducible exact call_quiet (HC.out _ gw))))))); refine wpQuiet_nil ?_; rintro _ ⟨u, rfl⟩))
  refine bodyPost_ret (res_two Try.results13 rfl rfl inferInstance inferInstance inferInstance) rfl ?_
  exact ⟨ret_tr HR.out, gwr⟩
theorem navTrust_range (wrong : Int) (hE : fuseE s l n = 0) (hw : wrong < 0 ∨ 2 < wrong ∨ (l.length : Int) < wrong) : Calls Try.prog 13 #[.agg s.cells.toArray, .slice ao l.length cap, .int .i64 wrong, .int .i64 n] w (RetTr (trustR s l wrong n) w) := by
  have HR := Lib.hid (show trustR s l wrong n = errT 2 by unfold trustR; rw [if_pos hE, if_pos hw])
  have HC := Lib.hid (fun w' (g : Grew w w') => show Calls Try.prog 33 #[.agg s.cells.toArray, .slice ao l.length cap, .int .i64 n] w' (fun e w'' => e = .returned (.int .i64 0) ∧ Grew w' w'') from is_int hE (navCheck_any s l n ao cap w' (hs.grew g)))
  clear hE hs
  generalize trustR s l wrong n = R at *
  rcases (show wrong < 0 ∨ (¬ wrong < 0 ∧ 2 < wrong) ∨ (¬ wrong < 0 ∧ ¬ 2 < wrong ∧ (l.length : Int) < wrong) by omega) with c | ⟨c, c2⟩ | ⟨c, c2, c3⟩
  all_goals
    clear hw
    go_enter Try.func13, Try.ntmps13
    go_wp2_with (first | (go_at_call 33; (with_reducible refine call_later (HC.out _ gw) ?_); intro u) | (with_reducible refine wLi ?_) | (with_reducible refine wSf ?_) | (with_reducible refine wSi ?_) | ((with_reducible refine wp_region_later ?_ ?_ ?_); (· kernel_rfl); (· kernel_rfl); (try simp only [List.append_eq, List.cons_append, List.nil_append]); (repeat (go_big_quiet_step ((first | (go_at_call 33; (with_reducible exact call_quiet (HC.out _ gw))))))); refine wpQuiet_nil ?_; rintro _ ⟨u, rfl⟩))
    refine bodyPost_ret (res_two Try.results13 rfl rfl inferInstance inferInstance inferInstance) rfl ?_
    exact ⟨ret_tr HR.out, gwr⟩
end
end Go.Proofs.Ytdkfkalplmgoeaa
namespace Go.Proofs.Ytdkfkalplmgoeaa
open Go.RowKit Go.Shelf
set_option maxRecDepth 100000
set_option maxHeartbeats 16000000
set_option linter.unusedSimpArgs false
attribute [local go_sem] Oper.semAt_some
def outT (o : Option State) : State := o.getD State.zero
theorem trust_good {s : State} {l : List Radio} {n : Int} {k : Nat} (hE : fuseE s l n = 0) (hk : k ≤ 2) (hkl : k ≤ l.length) : trustR s l k n = lastR (trustTo s l n (masksTo k (2 ^ l.length))) := by
  unfold trustR
  rw [if_pos hE, if_neg (by omega), Int.toNat_natCast]
/-- What the variables of Trust hold between the rounds. -/
abbrev heldT (q m : Nat) (s : State) (ao : Option Addr) (ln cap k : Nat) (n : Int) (O : Option State) : List (Nat × List Value × TypeId) := [(q, s.cells, 43), (q + 1, [.slice ao ln cap], 36), (q + 1 + 1, [.int .i64 n], 3), (q + 1 + 1 + 1, State.zero.cells, 43), (m, (outT O).cells, 43), (m + 1, [.bool O.isSome], 4), (m + 1 + 1, [.int .i64 ln], 3), (m + 1 + 1 + 1, [.int .i64 k], 3)]
/-- The activation in a round. -/
def frT (s : State) (ao : Option Addr) (ln k cap q m : Nat) (n : Int) (b1 b2 : Bool) (x : Value) : Act := { tmps := #[.agg s.cells.toArray, .slice ao ln cap, .int .i64 k, .int .i64 n, .pointer (some ⟨q, 0, none⟩), .pointer (some ⟨q + 1, 0, none⟩), undef, .pointer (some ⟨q + 1 + 1, 0, none⟩), .pointer (some ⟨q + 1 + 1 + 1, 0, none⟩), .int .i64 0, .int .i64 0, .pointer (some ⟨m, 0, none⟩), .pointer (some ⟨m + 1, 0, none⟩), x, undef, undef, undef, .agg s.cells.toArray, .slice ao ln cap, .int .i64 n, .int .i64 0, .int .i64 0, .bool false, undef, undef, .int .i64 k, .bool b1, .bool b1, .int .i64 k, .bool b2, .bool (b1 || b2), .bool (b1 || b2), .int .i64 k, .slice ao ln cap, .int .i64 ln, .bool false, .bool (b1 || b2), undef, .slice ao ln cap, .int .i64 ln, .int .i64 k, .func (.func 50) #[] #[.pointer (some ⟨m + 1 + 1, 0, none⟩), .pointer (some ⟨m + 1 + 1 + 1, 0, none⟩)], x, undef, undef, undef, undef, undef, undef, undef, undef, undef, undef, undef, undef, undef, undef, undef, undef, undef, undef, undef, undef, undef, undef, undef, undef, undef, undef, undef, undef, undef, undef, undef], defers := [] }
theorem grew_none {w W : World} (h : w.grownBy W none) : Grew w W := ⟨h.os, h.tape, h.output, h.size, fun i hi => h.block i hi (by simp)⟩
theorem navTrust_good (s : State) (l : List Radio) (n : Int) (k : Nat) [hp : Pv64 s] (hT : ∀ m ∈ l, Ra64 m) (ao : Option Addr) (cap : Nat) (w : World) (hs : SlAt w (.slice ao l.length cap) l.length (l.flatMap Radio.cells)) (hE : fuseE s l n = 0) (hk : k ≤ 2) (hkl : k ≤ l.length) :
    Calls Try.prog 13 #[.agg s.cells.toArray, .slice ao l.length cap, .int .i64 k, .int .i64 n] w (RetTr (trustR s l k n) w) := by
  obtain ⟨v1, v2, v3, v4⟩ := fuse_valid hE
  have HR := Lib.hid (trust_good (k := k) hE hk hkl)
  have HC := Lib.hid (fun w' (g : Grew w w') => show Calls Try.prog 33 #[.agg s.cells.toArray, .slice ao l.length cap, .int .i64 n] w' (fun e w'' => e = .returned (.int .i64 0) ∧ Grew w' w'') from is_int hE (navCheck_any s l n ao cap w' (hs.grew g)))
  have HF := Lib.hid (fun (g : Nat) w' (gr : Grew w w') => show Calls Try.prog 35 #[.agg s.cells.toArray, .slice ao l.length cap, .int .i64 n, .int .i64 (g : Int)] w' (RetF (fuseR (keepG (g : Nat)) l n.toNat 0 s) w') from navFuse_any s l n (g : Int) hT v4 v2 v3 v1 ao cap w' (hs.grew gr))
  have Hseq := Lib.hid (fun (W : World) (Bn Bm : Nat) k0 k1 => choices_stops 5 (by omega) Bn Bm l.length k v1 W k0 k1)
  have c1 : ¬ ((k : Int) < 0) := by omega
  have c2 : ¬ (2 < (k : Int)) := by omega
  have c3 : ¬ ((l.length : Int) < k) := by omega
  generalize trustR s l k n = R at *
  have Hs := Lib.hid hs
  clear hE hs v1 v2 v3 v4 hT hk hkl
  refine (callsIn_wide (n := 6)).1 ?_
  refine callsIn_of_wp_marks Try.func13 rfl trivial ?_ rfl
  simp only [Try.ntmps13, List.size_toArray, List.length_cons, List.length_nil, Nat.reduceAdd, Nat.reduceSub, Array.replicate_succ, Array.replicate_zero, List.push_toArray, List.append_toArray, List.nil_append, List.cons_append]
  refine wpIn_wide.2 ?_
  go_wp2_with (first | (go_at_call 33; (with_reducible refine call_later (HC.out _ gw) ?_); intro u1) | (go_at_call 34; refine (navChoices_any _ _ _).mono ?_; rintro e w' ⟨rfl, rfl⟩) | (with_reducible refine wLi ?_) | (with_reducible refine wSf ?_) | (with_reducible refine wSi ?_))
  refine wp_namedF (fun V => Held V (heldT w.heap.size u1.world.heap.size s ao l.length cap k n none) ∧ Grew w V ∧ w.heap.size + 4 ≤ u1.world.heap.size) ?_ ?_
  · refine ⟨Held.cons inferInstance (Held.cons inferInstance (Held.cons inferInstance (Held.cons inferInstance (Held.cons inferInstance (Held.cons inferInstance (Held.cons inferInstance (Held.cons inferInstance (Held.nil _)))))))), gwr, ?_⟩
    have := u1.grew.size
    simp at this
    omega
  rintro V ⟨hH, hW, hqm⟩
  generalize u1.world.heap.size = m at *
  obtain ⟨r4, hH⟩ := hH.head
  obtain ⟨r5, hH⟩ := hH.head
  obtain ⟨r7, hH⟩ := hH.head
  obtain ⟨r8, hH⟩ := hH.head
  obtain ⟨rO, hH⟩ := hH.head
  obtain ⟨rS, hH⟩ := hH.head
  obtain ⟨rn, hH⟩ := hH.head
  obtain ⟨rm, -⟩ := hH.head
  have hseq := Hseq.out V (m + 1 + 1) (m + 1 + 1 + 1) (cell_is rn 0 rfl) (cell_is rm 0 rfl)
  have hsz := rm.lt
  refine (wpIn_wide (n := 6)).1 ?_
  refine wpIn_rangeFunc_ownH rfl (by omega) (gf := 50) (lb := #[.pointer (some ⟨m + 1 + 1, 0, none⟩), .pointer (some ⟨m + 1 + 1 + 1, 0, none⟩)]) rfl trivial (enters_of Try.func50 (by kernel_rfl) rfl)
    hseq KeepTwo.trans (keepTwo_b (by omega) (by omega)) (Below.refl _ _) (fun _ => rfl)
    (fun pre W => Held W (heldT w.heap.size m s ao l.length cap k n (trustTo s l n pre)) ∧ w.grownBy W none)
    (fun _ _ _ => False)
    (OwnFrom.and (ownFrom_held _) (ownFrom_grown hW.size))
    (fun _ _ _ _ _ h _ _ => h)
    ⟨Held.cons r4 (Held.cons r5 (Held.cons r7 (Held.cons r8 (Held.cons rO (Held.cons rS (Held.cons rn (Held.cons rm (Held.nil _)))))))), grew_by hW _⟩
    (fun x a' _ => a' = frT s ao l.length k cap w.heap.size m n (decide ((k : Int) < 0)) (decide (2 < (k : Int))) (.int .i64 (x : Nat)))
    (fun _ _ => fun _ _ _ _ h _ _ => h) ?assign ?body ?done ?stop
  case assign =>
    rintro l' pre x W K hI hK
    unfold encM
    gi_wp2
    exact hK _ _ (KeepsFrom.refl _ _) (KeepTwo.refl _ _ _) hI rfl
  case body =>
    rintro l' pre x a' W hl ⟨r, hr⟩ ⟨hH, hgr0⟩ rfl hlt
    obtain ⟨r4, hH⟩ := hH.head
    obtain ⟨r5, hH⟩ := hH.head
    obtain ⟨r7, hH⟩ := hH.head
    obtain ⟨r8, hH⟩ := hH.head
    obtain ⟨rO, hH⟩ := hH.head
    obtain ⟨rS, hH⟩ := hH.head
    obtain ⟨rn, hH⟩ := hH.head
    obtain ⟨rm, -⟩ := hH.head
    have i4 := r4.blockIn
    have i5 := r5.blockIn
    have i7 := r7.blockIn
    have i8 := r8.blockIn
    have iO := rO.blockIn
    have iS := rS.blockIn
    have iN := rn.blockIn
    have iM := rm.blockIn
    have hG : Grew w W := grew_none hgr0
    have HFx := Lib.hid (fun w' (g : Grew W w') => HF.out x w' (hG.trans g))
    have Hsn := Lib.hid (trust_snoc s l n pre x)
    clear Hseq HF HC Hs hlt hseq
    generalize trustTo s l n pre = O at *
    generalize fuseR (keepG (x : Nat)) l n.toNat 0 s = N at *
    unfold frT
    gi_step
    gi_step
    gi_step
    refine wpIn_region_list_of (by kernel_rfl) ?_
    go_wp2_with (first | (go_at_call 35; refine (HFx.out _ gwr).mono ?_; rintro en w2 ⟨rfl, hg2⟩; obtain ⟨u, rfl⟩ := later_of hg2; clear hg2) | (with_reducible refine wLi ?_) | (with_reducible refine wSf ?_) | (with_reducible refine wSi ?_))
    refine ⟨rfl, ?_⟩
    gi_step
    gi_step
    refine wpIn_named (fun Y => RowIs Y u.world.heap.size 43 N.s.cells ∧ Grew W Y) ⟨inferInstance, gwr⟩ ?_
    rintro Y ⟨rN, gY⟩
    have hbN := u.grew.size
    generalize u.world.heap.size = bN at *
    clear HFx u
    have hmW := rm.lt
    have r4Y := r4.grew gY
    have r5Y := r5.grew gY
    have r7Y := r7.grew gY
    have r8Y := r8.grew gY
    have rOY := rO.grew gY
    have rSY := rS.grew gY
    have rnY := rn.grew gY
    have rmY := rm.grew gY
    have gf0 : w.grownBy Y none := grown_step hgr0 (grew_by gY none) (fun _ e => by cases e)
    have ko0 : KeepsOthers W Y := KeepsOthers.of_grownBy (grew_by gY none) (fun _ _ e => by cases e)
    by_cases e0 : N.e = 0
    · have t0 : decide (N.e = 0) = true := by simp [e0]
      cases O with
      | none =>
        have hJ : trustTo s l n (pre ++ [x]) = some N.s := Hsn.out.trans (join_new e0)
        have HJ := Lib.hid hJ
        clear hJ Hsn
        change RowIs Y (m + 1) 4 [.bool false] at rSY
        first | refine wpIn_region_list_of (by kernel_rfl) ?_ | (gi_step; first | refine wpIn_region_list_of (by kernel_rfl) ?_ | (gi_step; first | refine wpIn_region_list_of (by kernel_rfl) ?_ | (gi_step; first | refine wpIn_region_list_of (by kernel_rfl) ?_ | (gi_step; first | refine wpIn_region_list_of (by kernel_rfl) ?_ | (gi_step; first | refine wpIn_region_list_of (by kernel_rfl) ?_ | (gi_step; refine wpIn_region_list_of (by kernel_rfl) ?_))))))
        go_wp2
        refine ⟨rfl, ?_⟩
        first | refine wpIn_region_list_of (by kernel_rfl) ?_ | (gi_step; first | refine wpIn_region_list_of (by kernel_rfl) ?_ | (gi_step; first | refine wpIn_region_list_of (by kernel_rfl) ?_ | (gi_step; first | refine wpIn_region_list_of (by kernel_rfl) ?_ | (gi_step; first | refine wpIn_region_list_of (by kernel_rfl) ?_ | (gi_step; first | refine wpIn_region_list_of (by kernel_rfl) ?_ | (gi_step; refine wpIn_region_list_of (by kernel_rfl) ?_))))))
        go_wp2
        refine ⟨rfl, ?_⟩
        first | refine wpIn_region_list_of (by kernel_rfl) ?_ | (gi_step; first | refine wpIn_region_list_of (by kernel_rfl) ?_ | (gi_step; first | refine wpIn_region_list_of (by kernel_rfl) ?_ | (gi_step; first | refine wpIn_region_list_of (by kernel_rfl) ?_ | (gi_step; first | refine wpIn_region_list_of (by kernel_rfl) ?_ | (gi_step; first | refine wpIn_region_list_of (by kernel_rfl) ?_ | (gi_step; refine wpIn_region_list_of (by kernel_rfl) ?_))))))
        go_wp2_with (first | (with_reducible refine wLi ?_) | (with_reducible refine wSi ?_))
        refine ⟨rfl, ?_⟩
        gi_wp2
        have g1 := grownBy_setRow' Y m N.s.cells.toArray
        have g2 := grownBy_setCell' (Y.setRow m N.s.cells.toArray) (m + 1) (.bool true)
        have kp : ∀ {b : Nat} {ty : TypeId} {cs : List Value}, RowIs Y b ty cs → b ≠ m → b ≠ m + 1 → RowIs ((Y.setRow m N.s.cells.toArray).setCell ⟨m + 1, 0, none⟩ (.bool true)) b ty cs := fun h n1 n2 => (h.kept g1 (by simpa using n1)).kept g2 (by simpa using n2)
        have kO : RowIs ((Y.setRow m N.s.cells.toArray).setCell ⟨m + 1, 0, none⟩ (.bool true)) m 43 N.s.cells := RowIs.kept (rowIs_setRow_new Y m 43 15 N.s.cells) g2 (by simp)
        have kS : RowIs ((Y.setRow m N.s.cells.toArray).setCell ⟨m + 1, 0, none⟩ (.bool true)) (m + 1) 4 [.bool true] := row_as (rowIs_setCell _ 0 (.bool true) _ _ _ (h := rSY.kept g1 (by simp))) rfl
        have ko : KeepsOthers W ((Y.setRow m N.s.cells.toArray).setCell ⟨m + 1, 0, none⟩ (.bool true)) := (ko0.trans (KeepsOthers.of_grownBy g1 (fun j o ej hj => by cases ej; exact rOY.cells_at o hj))).trans (KeepsOthers.setCell _ _ _)
        have gf := grown_step (grown_step gf0 g1 (fun j e => by cases e; exact .inr (by omega))) g2 (fun j e => by cases e; exact .inr (by omega))
        have kn := kp rnY (by omega) (by omega)
        have km := kp rmY (by omega) (by omega)
        refine ⟨ko.from _, ⟨kn.is.trans rn.is.symm, km.is.trans rm.is.symm⟩, ?_⟩
        dsimp only
        rw [HJ.out]
        exact ⟨Held.cons (kp r4Y (by omega) (by omega)) (Held.cons (kp r5Y (by omega) (by omega)) (Held.cons (kp r7Y (by omega) (by omega)) (Held.cons (kp r8Y (by omega) (by omega)) (Held.cons kO (Held.cons kS (Held.cons kn (Held.cons km (Held.nil _)))))))), gf⟩
      | some A =>
        have hJ : trustTo s l n (pre ++ [x]) = some (hullT A N.s) := Hsn.out.trans (join_more e0)
        have HJ := Lib.hid hJ
        clear hJ Hsn
        change RowIs Y (m + 1) 4 [.bool true] at rSY
        change RowIs Y m 43 A.cells at rOY
        first | refine wpIn_region_list_of (by kernel_rfl) ?_ | (gi_step; first | refine wpIn_region_list_of (by kernel_rfl) ?_ | (gi_step; first | refine wpIn_region_list_of (by kernel_rfl) ?_ | (gi_step; first | refine wpIn_region_list_of (by kernel_rfl) ?_ | (gi_step; first | refine wpIn_region_list_of (by kernel_rfl) ?_ | (gi_step; first | refine wpIn_region_list_of (by kernel_rfl) ?_ | (gi_step; refine wpIn_region_list_of (by kernel_rfl) ?_))))))
        go_wp2
        refine ⟨rfl, ?_⟩
        first | refine wpIn_region_list_of (by kernel_rfl) ?_ | (gi_step; first | refine wpIn_region_list_of (by kernel_rfl) ?_ | (gi_step; first | refine wpIn_region_list_of (by kernel_rfl) ?_ | (gi_step; first | refine wpIn_region_list_of (by kernel_rfl) ?_ | (gi_step; first | refine wpIn_region_list_of (by kernel_rfl) ?_ | (gi_step; first | refine wpIn_region_list_of (by kernel_rfl) ?_ | (gi_step; refine wpIn_region_list_of (by kernel_rfl) ?_))))))
        go_wp2
        refine ⟨rfl, ?_⟩
        first | refine wpIn_region_any_of (by kernel_rfl) (by kernel_rfl) (wpAny_tail (S := fun w' => RowIs w' bN 43 N.s.cells ∧ RangeIs w' m 7 6 [.int .i64 A.v.x.lo, .int .i64 A.v.x.hi, .int .i64 A.v.y.lo, .int .i64 A.v.y.hi, .int .i64 A.v.z.lo, .int .i64 A.v.z.hi]) (T := [13]) _ _ _ _ ?_) | (gi_step; first | refine wpIn_region_any_of (by kernel_rfl) (by kernel_rfl) (wpAny_tail (S := fun w' => RowIs w' bN 43 N.s.cells ∧ RangeIs w' m 7 6 [.int .i64 A.v.x.lo, .int .i64 A.v.x.hi, .int .i64 A.v.y.lo, .int .i64 A.v.y.hi, .int .i64 A.v.z.lo, .int .i64 A.v.z.hi]) (T := [13]) _ _ _ _ ?_) | (gi_step; first | refine wpIn_region_any_of (by kernel_rfl) (by kernel_rfl) (wpAny_tail (S := fun w' => RowIs w' bN 43 N.s.cells ∧ RangeIs w' m 7 6 [.int .i64 A.v.x.lo, .int .i64 A.v.x.hi, .int .i64 A.v.y.lo, .int .i64 A.v.y.hi, .int .i64 A.v.z.lo, .int .i64 A.v.z.hi]) (T := [13]) _ _ _ _ ?_) | (gi_step; first | refine wpIn_region_any_of (by kernel_rfl) (by kernel_rfl) (wpAny_tail (S := fun w' => RowIs w' bN 43 N.s.cells ∧ RangeIs w' m 7 6 [.int .i64 A.v.x.lo, .int .i64 A.v.x.hi, .int .i64 A.v.y.lo, .int .i64 A.v.y.hi, .int .i64 A.v.z.lo, .int .i64 A.v.z.hi]) (T := [13]) _ _ _ _ ?_) | (gi_step; first | refine wpIn_region_any_of (by kernel_rfl) (by kernel_rfl) (wpAny_tail (S := fun w' => RowIs w' bN 43 N.s.cells ∧ RangeIs w' m 7 6 [.int .i64 A.v.x.lo, .int .i64 A.v.x.hi, .int .i64 A.v.y.lo, .int .i64 A.v.y.hi, .int .i64 A.v.z.lo, .int .i64 A.v.z.hi]) (T := [13]) _ _ _ _ ?_) | (gi_step; first | refine wpIn_region_any_of (by kernel_rfl) (by kernel_rfl) (wpAny_tail (S := fun w' => RowIs w' bN 43 N.s.cells ∧ RangeIs w' m 7 6 [.int .i64 A.v.x.lo, .int .i64 A.v.x.hi, .int .i64 A.v.y.lo, .int .i64 A.v.y.hi, .int .i64 A.v.z.lo, .int .i64 A.v.z.hi]) (T := [13]) _ _ _ _ ?_) | (gi_step; first | refine wpIn_region_any_of (by kernel_rfl) (by kernel_rfl) (wpAny_tail (S := fun w' => RowIs w' bN 43 N.s.cells ∧ RangeIs w' m 7 6 [.int .i64 A.v.x.lo, .int .i64 A.v.x.hi, .int .i64 A.v.y.lo, .int .i64 A.v.y.hi, .int .i64 A.v.z.lo, .int .i64 A.v.z.hi]) (T := [13]) _ _ _ _ ?_) | (gi_step; refine wpIn_region_any_of (by kernel_rfl) (by kernel_rfl) (wpAny_tail (S := fun w' => RowIs w' bN 43 N.s.cells ∧ RangeIs w' m 7 6 [.int .i64 A.v.x.lo, .int .i64 A.v.x.hi, .int .i64 A.v.y.lo, .int .i64 A.v.y.hi, .int .i64 A.v.z.lo, .int .i64 A.v.z.hi]) (T := [13]) _ _ _ _ ?_))))))))
        have rAL : RowIs Y m 43 [.int .i64 A.t, .int .i64 A.p.x.lo, .int .i64 A.p.x.hi, .int .i64 A.p.y.lo, .int .i64 A.p.y.hi, .int .i64 A.p.z.lo, .int .i64 A.p.z.hi, .int .i64 A.v.x.lo, .int .i64 A.v.x.hi, .int .i64 A.v.y.lo, .int .i64 A.v.y.hi, .int .i64 A.v.z.lo, .int .i64 A.v.z.hi, .int .i64 A.m.lo, .int .i64 A.m.hi] := rOY
        have rNL : RowIs Y bN 43 [.int .i64 N.s.t, .int .i64 N.s.p.x.lo, .int .i64 N.s.p.x.hi, .int .i64 N.s.p.y.lo, .int .i64 N.s.p.y.hi, .int .i64 N.s.p.z.lo, .int .i64 N.s.p.z.hi, .int .i64 N.s.v.x.lo, .int .i64 N.s.v.x.hi, .int .i64 N.s.v.y.lo, .int .i64 N.s.v.y.hi, .int .i64 N.s.v.z.lo, .int .i64 N.s.v.z.hi, .int .i64 N.s.m.lo, .int .i64 N.s.m.hi] := rN
        have rV : RangeIs Y m 7 6 [.int .i64 A.v.x.lo, .int .i64 A.v.x.hi, .int .i64 A.v.y.lo, .int .i64 A.v.y.hi, .int .i64 A.v.z.lo, .int .i64 A.v.z.hi] := inferInstance
        have rP : RangeIs Y m 1 6 [.int .i64 A.p.x.lo, .int .i64 A.p.x.hi, .int .i64 A.p.y.lo, .int .i64 A.p.y.hi, .int .i64 A.p.z.lo, .int .i64 A.p.z.hi] := inferInstance
        have hN : ∀ w', RowIs w' bN 43 N.s.cells → RangeIs w' bN 1 6 [.int .i64 N.s.p.x.lo, .int .i64 N.s.p.x.hi, .int .i64 N.s.p.y.lo, .int .i64 N.s.p.y.hi, .int .i64 N.s.p.z.lo, .int .i64 N.s.p.z.hi] ∧ RangeIs w' bN 7 6 [.int .i64 N.s.v.x.lo, .int .i64 N.s.v.x.hi, .int .i64 N.s.v.y.lo, .int .i64 N.s.v.y.hi, .int .i64 N.s.v.z.lo, .int .i64 N.s.v.z.hi] := fun w' h => by
          have h2 : RowIs w' bN 43 [.int .i64 N.s.t, .int .i64 N.s.p.x.lo, .int .i64 N.s.p.x.hi, .int .i64 N.s.p.y.lo, .int .i64 N.s.p.y.hi, .int .i64 N.s.p.z.lo, .int .i64 N.s.p.z.hi, .int .i64 N.s.v.x.lo, .int .i64 N.s.v.x.hi, .int .i64 N.s.v.y.lo, .int .i64 N.s.v.y.hi, .int .i64 N.s.v.z.lo, .int .i64 N.s.v.z.hi, .int .i64 N.s.m.lo, .int .i64 N.s.m.hi] := h
          exact ⟨inferInstance, inferInstance⟩
        have apN : Apart bN m := ⟨by omega⟩
        have apN2 : Apart m bN := ⟨by omega⟩
        have iA := rOY.blockIn
        have dP : RangeIs Y.drew m 1 6 [.int .i64 A.p.x.lo, .int .i64 A.p.x.hi, .int .i64 A.p.y.lo, .int .i64 A.p.y.hi, .int .i64 A.p.z.lo, .int .i64 A.p.z.hi] := inferInstance
        have dS : RowIs Y.drew bN 43 N.s.cells ∧ RangeIs Y.drew m 7 6 [.int .i64 A.v.x.lo, .int .i64 A.v.x.hi, .int .i64 A.v.y.lo, .int .i64 A.v.y.hi, .int .i64 A.v.z.lo, .int .i64 A.v.z.hi] := ⟨inferInstance, inferInstance⟩
        clear rAL rNL
        refine wpTail_take 0 [] (v := .pointer (some ⟨m, 1, none⟩)) rfl (by kernel_rfl) (by kernel_rfl) (by kernel_rfl) (by kernel_rfl) (fun _ _ _ h => absurd h.1 (by simp)) (by rfl) (dS) (fun w' hw => ?_) ?_
        · obtain ⟨q1, q2⟩ := hw
          go_simp
        try simp only [List.getElem_toArray, List.getElem_cons_succ, List.getElem_cons_zero, Act.put, List.setIfInBounds_toArray, List.set_cons_zero, List.set_cons_succ]
        refine wpTail_take 2 [] (v := .pointer (some ⟨bN, 1, none⟩)) rfl (by kernel_rfl) (by kernel_rfl) (by kernel_rfl) (by kernel_rfl) (fun _ _ _ h => absurd h.1 (by simp)) (by rfl) (dS) (fun w' hw => ?_) ?_
        · obtain ⟨q1, q2⟩ := hw
          go_simp
        try simp only [List.getElem_toArray, List.getElem_cons_succ, List.getElem_cons_zero, Act.put, List.setIfInBounds_toArray, List.set_cons_zero, List.set_cons_succ]
        refine wpTail_take 3 [] (v := .agg #[.int .i64 N.s.p.x.lo, .int .i64 N.s.p.x.hi, .int .i64 N.s.p.y.lo, .int .i64 N.s.p.y.hi, .int .i64 N.s.p.z.lo, .int .i64 N.s.p.z.hi]) rfl (by kernel_rfl) (by kernel_rfl) (by kernel_rfl) (by kernel_rfl) (fun _ _ _ h => absurd h.1 (by simp)) (by rfl) (dS) (fun w' hw => ?_) ?_
        · obtain ⟨q1, q2⟩ := hw
          exact exec_load_rng (b := bN) (p := 1) (n := 6) (cs := [.int .i64 N.s.p.x.lo, .int .i64 N.s.p.x.hi, .int .i64 N.s.p.y.lo, .int .i64 N.s.p.y.hi, .int .i64 N.s.p.z.lo, .int .i64 N.s.p.z.hi]) (hr := (hN w' q1).1) _ _ rfl rfl
        try simp only [List.getElem_toArray, List.getElem_cons_succ, List.getElem_cons_zero, Act.put, List.setIfInBounds_toArray, List.set_cons_zero, List.set_cons_succ]
        refine wpTail_take 5 [] (v := .pointer (some ⟨m, 7, none⟩)) rfl (by kernel_rfl) (by kernel_rfl) (by kernel_rfl) (by kernel_rfl) (fun _ _ _ h => absurd h.1 (by simp)) (by rfl) (dS) (fun w' hw => ?_) ?_
        · obtain ⟨q1, q2⟩ := hw
          go_simp
        try simp only [List.getElem_toArray, List.getElem_cons_succ, List.getElem_cons_zero, Act.put, List.setIfInBounds_toArray, List.set_cons_zero, List.set_cons_succ]
        refine wpTail_take 6 [] (v := .agg #[.int .i64 A.v.x.lo, .int .i64 A.v.x.hi, .int .i64 A.v.y.lo, .int .i64 A.v.y.hi, .int .i64 A.v.z.lo, .int .i64 A.v.z.hi]) rfl (by kernel_rfl) (by kernel_rfl) (by kernel_rfl) (by kernel_rfl) (fun _ _ _ h => absurd h.1 (by simp)) (by rfl) (dS) (fun w' hw => ?_) ?_
        · obtain ⟨q1, q2⟩ := hw
          exact exec_load_rng (b := m) (p := 7) (n := 6) (cs := [.int .i64 A.v.x.lo, .int .i64 A.v.x.hi, .int .i64 A.v.y.lo, .int .i64 A.v.y.hi, .int .i64 A.v.z.lo, .int .i64 A.v.z.hi]) (hr := q2) _ _ rfl rfl
        try simp only [List.getElem_toArray, List.getElem_cons_succ, List.getElem_cons_zero, Act.put, List.setIfInBounds_toArray, List.set_cons_zero, List.set_cons_succ]
        refine wpTail_take 7 [] (v := .pointer (some ⟨bN, 7, none⟩)) rfl (by kernel_rfl) (by kernel_rfl) (by kernel_rfl) (by kernel_rfl) (fun _ _ _ h => absurd h.1 (by simp)) (by rfl) (dS) (fun w' hw => ?_) ?_
        · obtain ⟨q1, q2⟩ := hw
          go_simp
        try simp only [List.getElem_toArray, List.getElem_cons_succ, List.getElem_cons_zero, Act.put, List.setIfInBounds_toArray, List.set_cons_zero, List.set_cons_succ]
        refine wpTail_take 8 [] (v := .agg #[.int .i64 N.s.v.x.lo, .int .i64 N.s.v.x.hi, .int .i64 N.s.v.y.lo, .int .i64 N.s.v.y.hi, .int .i64 N.s.v.z.lo, .int .i64 N.s.v.z.hi]) rfl (by kernel_rfl) (by kernel_rfl) (by kernel_rfl) (by kernel_rfl) (fun _ _ _ h => absurd h.1 (by simp)) (by rfl) (dS) (fun w' hw => ?_) ?_
        · obtain ⟨q1, q2⟩ := hw
          exact exec_load_rng (b := bN) (p := 7) (n := 6) (cs := [.int .i64 N.s.v.x.lo, .int .i64 N.s.v.x.hi, .int .i64 N.s.v.y.lo, .int .i64 N.s.v.y.hi, .int .i64 N.s.v.z.lo, .int .i64 N.s.v.z.hi]) (hr := (hN w' q1).2) _ _ rfl rfl
        try simp only [List.getElem_toArray, List.getElem_cons_succ, List.getElem_cons_zero, Act.put, List.setIfInBounds_toArray, List.set_cons_zero, List.set_cons_succ]
        refine wpTail_one 1 (by kernel_rfl) rfl fun K hK => ?_
        refine step_load_rng rfl _ _ rfl (b := m) (p := 1) (n := 6) (cs := [.int .i64 A.p.x.lo, .int .i64 A.p.x.hi, .int .i64 A.p.y.lo, .int .i64 A.p.y.hi, .int .i64 A.p.z.lo, .int .i64 A.p.z.hi]) (hr := dP) rfl ?_
        refine hK.out _ _ (fun _ => dS) ?_
        clear hK K
        try simp only [List.getElem_toArray, List.getElem_cons_succ, List.getElem_cons_zero, Act.put, List.setIfInBounds_toArray, List.set_cons_zero, List.set_cons_succ]
        refine wpTail_one 4 (by kernel_rfl) rfl fun K hK => ?_
        go_simp
        refine call_later (navHull_any A.p N.s.p _) ?_
        intro u1
        have g1 : Grew Y u1.world := gwr
        have d1 : RowIs u1.world bN 43 N.s.cells ∧ RangeIs u1.world m 7 6 [.int .i64 A.v.x.lo, .int .i64 A.v.x.hi, .int .i64 A.v.y.lo, .int .i64 A.v.y.hi, .int .i64 A.v.z.lo, .int .i64 A.v.z.hi] := ⟨rN.grew g1, rV.grew g1⟩
        refine hK.out _ _ (fun _ => d1) ?_
        clear hK K
        try simp only [List.getElem_toArray, List.getElem_cons_succ, List.getElem_cons_zero, Act.put, List.setIfInBounds_toArray, List.set_cons_zero, List.set_cons_succ]
        have e1 : overL A.cells 1 [.int .i64 ((hullB A.p N.s.p)).x.lo, .int .i64 ((hullB A.p N.s.p)).x.hi, .int .i64 ((hullB A.p N.s.p)).y.lo, .int .i64 ((hullB A.p N.s.p)).y.hi, .int .i64 ((hullB A.p N.s.p)).z.lo, .int .i64 ((hullB A.p N.s.p)).z.hi] = (⟨A.t, hullB A.p N.s.p, A.v, A.m⟩ : State).cells := rfl
        have e2 : overL (⟨A.t, hullB A.p N.s.p, A.v, A.m⟩ : State).cells 7 [.int .i64 ((hullB A.v N.s.v)).x.lo, .int .i64 ((hullB A.v N.s.v)).x.hi, .int .i64 ((hullB A.v N.s.v)).y.lo, .int .i64 ((hullB A.v N.s.v)).y.hi, .int .i64 ((hullB A.v N.s.v)).z.lo, .int .i64 ((hullB A.v N.s.v)).z.hi] = (hullT A N.s).cells := rfl
        have oO := rOY.grew g1
        refine wpTail_take 10 [] (v := .pointer (some ⟨m, 1, none⟩)) rfl (by kernel_rfl) (by kernel_rfl) (by kernel_rfl) (by kernel_rfl) (fun _ _ _ h => absurd h.1 (by simp)) (by rfl) (d1) (fun w' hw => ?_) ?_
        · obtain ⟨q1, q2⟩ := hw
          go_simp
        try simp only [List.getElem_toArray, List.getElem_cons_succ, List.getElem_cons_zero, Act.put, List.setIfInBounds_toArray, List.set_cons_zero, List.set_cons_succ]
        refine wpTail_one 9 (by kernel_rfl) rfl fun K hK => ?_
        go_simp
        refine call_later (navHull_any A.v N.s.v _) ?_
        intro u2
        have g2 : Grew Y u2.world := g1.trans u2.grew
        have d2 : RowIs u2.world bN 43 N.s.cells ∧ RangeIs u2.world m 7 6 [.int .i64 A.v.x.lo, .int .i64 A.v.x.hi, .int .i64 A.v.y.lo, .int .i64 A.v.y.hi, .int .i64 A.v.z.lo, .int .i64 A.v.z.hi] := ⟨rN.grew g2, rV.grew g2⟩
        refine hK.out _ _ (fun _ => d2) ?_
        clear hK K
        try simp only [List.getElem_toArray, List.getElem_cons_succ, List.getElem_cons_zero, Act.put, List.setIfInBounds_toArray, List.set_cons_zero, List.set_cons_succ]
        have oO2 := rOY.grew g2
        refine wpTail_one 11 (by kernel_rfl) rfl fun K hK => ?_
        refine step_store_mid rfl rfl 41 _ _ rfl (b := m) (p := 1) (cs := [.int .i64 ((hullB A.p N.s.p)).x.lo, .int .i64 ((hullB A.p N.s.p)).x.hi, .int .i64 ((hullB A.p N.s.p)).y.lo, .int .i64 ((hullB A.p N.s.p)).y.hi, .int .i64 ((hullB A.p N.s.p)).z.lo, .int .i64 ((hullB A.p N.s.p)).z.hi]) rfl rfl (hr := oO2) (by kernel_rfl) rfl (by simp [State.cells]) ?_
        have b1 := grownBy_setCells m [.int .i64 ((hullB A.p N.s.p)).x.lo, .int .i64 ((hullB A.p N.s.p)).x.hi, .int .i64 ((hullB A.p N.s.p)).y.lo, .int .i64 ((hullB A.p N.s.p)).y.hi, .int .i64 ((hullB A.p N.s.p)).z.lo, .int .i64 ((hullB A.p N.s.p)).z.hi] 1 u2.world
        have o1 := rowIs_over m 43 [.int .i64 ((hullB A.p N.s.p)).x.lo, .int .i64 ((hullB A.p N.s.p)).x.hi, .int .i64 ((hullB A.p N.s.p)).y.lo, .int .i64 ((hullB A.p N.s.p)).y.hi, .int .i64 ((hullB A.p N.s.p)).z.lo, .int .i64 ((hullB A.p N.s.p)).z.hi] A.cells 1 u2.world oO2
        rw [e1] at o1
        have ko1 : KeepsOthers u2.world (u2.world.setCells m 1 [.int .i64 ((hullB A.p N.s.p)).x.lo, .int .i64 ((hullB A.p N.s.p)).x.hi, .int .i64 ((hullB A.p N.s.p)).y.lo, .int .i64 ((hullB A.p N.s.p)).y.hi, .int .i64 ((hullB A.p N.s.p)).z.lo, .int .i64 ((hullB A.p N.s.p)).z.hi]) := KeepsOthers.of_grownBy b1 (fun j o ej hj => by cases ej; exact oO2.cells_at o hj)
        have o1L : RowIs (u2.world.setCells m 1 [.int .i64 ((hullB A.p N.s.p)).x.lo, .int .i64 ((hullB A.p N.s.p)).x.hi, .int .i64 ((hullB A.p N.s.p)).y.lo, .int .i64 ((hullB A.p N.s.p)).y.hi, .int .i64 ((hullB A.p N.s.p)).z.lo, .int .i64 ((hullB A.p N.s.p)).z.hi]) m 43 [.int .i64 ((⟨A.t, hullB A.p N.s.p, A.v, A.m⟩ : State)).t, .int .i64 ((⟨A.t, hullB A.p N.s.p, A.v, A.m⟩ : State)).p.x.lo, .int .i64 ((⟨A.t, hullB A.p N.s.p, A.v, A.m⟩ : State)).p.x.hi, .int .i64 ((⟨A.t, hullB A.p N.s.p, A.v, A.m⟩ : State)).p.y.lo, .int .i64 ((⟨A.t, hullB A.p N.s.p, A.v, A.m⟩ : State)).p.y.hi, .int .i64 ((⟨A.t, hullB A.p N.s.p, A.v, A.m⟩ : State)).p.z.lo, .int .i64 ((⟨A.t, hullB A.p N.s.p, A.v, A.m⟩ : State)).p.z.hi, .int .i64 ((⟨A.t, hullB A.p N.s.p, A.v, A.m⟩ : State)).v.x.lo, .int .i64 ((⟨A.t, hullB A.p N.s.p, A.v, A.m⟩ : State)).v.x.hi, .int .i64 ((⟨A.t, hullB A.p N.s.p, A.v, A.m⟩ : State)).v.y.lo, .int .i64 ((⟨A.t, hullB A.p N.s.p, A.v, A.m⟩ : State)).v.y.hi, .int .i64 ((⟨A.t, hullB A.p N.s.p, A.v, A.m⟩ : State)).v.z.lo, .int .i64 ((⟨A.t, hullB A.p N.s.p, A.v, A.m⟩ : State)).v.z.hi, .int .i64 ((⟨A.t, hullB A.p N.s.p, A.v, A.m⟩ : State)).m.lo, .int .i64 ((⟨A.t, hullB A.p N.s.p, A.v, A.m⟩ : State)).m.hi] := o1
        have d3 : RowIs (u2.world.setCells m 1 [.int .i64 ((hullB A.p N.s.p)).x.lo, .int .i64 ((hullB A.p N.s.p)).x.hi, .int .i64 ((hullB A.p N.s.p)).y.lo, .int .i64 ((hullB A.p N.s.p)).y.hi, .int .i64 ((hullB A.p N.s.p)).z.lo, .int .i64 ((hullB A.p N.s.p)).z.hi]) bN 43 N.s.cells ∧ RangeIs (u2.world.setCells m 1 [.int .i64 ((hullB A.p N.s.p)).x.lo, .int .i64 ((hullB A.p N.s.p)).x.hi, .int .i64 ((hullB A.p N.s.p)).y.lo, .int .i64 ((hullB A.p N.s.p)).y.hi, .int .i64 ((hullB A.p N.s.p)).z.lo, .int .i64 ((hullB A.p N.s.p)).z.hi]) m 7 6 [.int .i64 A.v.x.lo, .int .i64 A.v.x.hi, .int .i64 A.v.y.lo, .int .i64 A.v.y.hi, .int .i64 A.v.z.lo, .int .i64 A.v.z.hi] := ⟨d2.1.kept b1 (by simp; omega), inferInstance⟩
        clear o1L
        generalize u2.world.setCells m 1 [.int .i64 ((hullB A.p N.s.p)).x.lo, .int .i64 ((hullB A.p N.s.p)).x.hi, .int .i64 ((hullB A.p N.s.p)).y.lo, .int .i64 ((hullB A.p N.s.p)).y.hi, .int .i64 ((hullB A.p N.s.p)).z.lo, .int .i64 ((hullB A.p N.s.p)).z.hi] = Z at *
        refine hK.out _ _ (fun _ => d3) ?_
        clear hK K
        try simp only [List.getElem_toArray, List.getElem_cons_succ, List.getElem_cons_zero, Act.put, List.setIfInBounds_toArray, List.set_cons_zero, List.set_cons_succ]
        refine wpTail_one 12 (by kernel_rfl) rfl fun K hK => ?_
        go_simp
        refine hK.out _ _ (fun _ => d3) ?_
        clear hK K
        try simp only [List.getElem_toArray, List.getElem_cons_succ, List.getElem_cons_zero, Act.put, List.setIfInBounds_toArray, List.set_cons_zero, List.set_cons_succ]
        refine wpTail_one 13 (by kernel_rfl) rfl fun K hK => ?_
        refine step_store_mid rfl rfl 41 _ _ rfl (b := m) (p := 7) (cs := [.int .i64 ((hullB A.v N.s.v)).x.lo, .int .i64 ((hullB A.v N.s.v)).x.hi, .int .i64 ((hullB A.v N.s.v)).y.lo, .int .i64 ((hullB A.v N.s.v)).y.hi, .int .i64 ((hullB A.v N.s.v)).z.lo, .int .i64 ((hullB A.v N.s.v)).z.hi]) rfl rfl (hr := o1) (by kernel_rfl) rfl (by simp [State.cells]) ?_
        have b2 := grownBy_setCells m [.int .i64 ((hullB A.v N.s.v)).x.lo, .int .i64 ((hullB A.v N.s.v)).x.hi, .int .i64 ((hullB A.v N.s.v)).y.lo, .int .i64 ((hullB A.v N.s.v)).y.hi, .int .i64 ((hullB A.v N.s.v)).z.lo, .int .i64 ((hullB A.v N.s.v)).z.hi] 7 Z
        have o2 := rowIs_over m 43 [.int .i64 ((hullB A.v N.s.v)).x.lo, .int .i64 ((hullB A.v N.s.v)).x.hi, .int .i64 ((hullB A.v N.s.v)).y.lo, .int .i64 ((hullB A.v N.s.v)).y.hi, .int .i64 ((hullB A.v N.s.v)).z.lo, .int .i64 ((hullB A.v N.s.v)).z.hi] (⟨A.t, hullB A.p N.s.p, A.v, A.m⟩ : State).cells 7 Z o1
        rw [e2] at o2
        have ko2 : KeepsOthers Z (Z.setCells m 7 [.int .i64 ((hullB A.v N.s.v)).x.lo, .int .i64 ((hullB A.v N.s.v)).x.hi, .int .i64 ((hullB A.v N.s.v)).y.lo, .int .i64 ((hullB A.v N.s.v)).y.hi, .int .i64 ((hullB A.v N.s.v)).z.lo, .int .i64 ((hullB A.v N.s.v)).z.hi]) := KeepsOthers.of_grownBy b2 (fun j o ej hj => by cases ej; exact o1.cells_at o hj)
        generalize Z.setCells m 7 [.int .i64 ((hullB A.v N.s.v)).x.lo, .int .i64 ((hullB A.v N.s.v)).x.hi, .int .i64 ((hullB A.v N.s.v)).y.lo, .int .i64 ((hullB A.v N.s.v)).y.hi, .int .i64 ((hullB A.v N.s.v)).z.lo, .int .i64 ((hullB A.v N.s.v)).z.hi] = Z2 at *
        refine hK.out _ _ (fun h => absurd h (by decide)) ?_
        clear hK K
        refine wpTail_done (by kernel_rfl) ⟨rfl, ?_⟩
        gi_wp2
        have kp : ∀ {b : Nat} {ty : TypeId} {cs : List Value}, RowIs Y b ty cs → b ≠ m → RowIs Z2 b ty cs := fun h n1 => ((h.grew g2).kept b1 (by simpa using n1)).kept b2 (by simpa using n1)
        have ko : KeepsOthers W Z2 := ((ko0.trans (KeepsOthers.of_grownBy (grew_by g2 none) (fun _ _ e => by cases e))).trans ko1).trans ko2
        have gf := grown_step (grown_step (grown_step gf0 (grew_by g2 none) (fun _ e => by cases e)) b1 (fun j e => by cases e; exact .inr (by omega))) b2 (fun j e => by cases e; exact .inr (by omega))
        have kn := kp rnY (by omega)
        have km := kp rmY (by omega)
        refine ⟨ko.from _, ⟨kn.is.trans rn.is.symm, km.is.trans rm.is.symm⟩, ?_⟩
        dsimp only
        rw [HJ.out]
        exact ⟨Held.cons (kp r4Y (by omega)) (Held.cons (kp r5Y (by omega)) (Held.cons (kp r7Y (by omega)) (Held.cons (kp r8Y (by omega)) (Held.cons o2 (Held.cons (kp rSY (by omega)) (Held.cons kn (Held.cons km (Held.nil _)))))))), gf⟩
    · have t0 : decide (N.e = 0) = false := by simp [e0]
      have HJ := Lib.hid (Hsn.out.trans (join_bad e0))
      clear Hsn
      first | refine wpIn_region_list_of (by kernel_rfl) ?_ | (gi_step; first | refine wpIn_region_list_of (by kernel_rfl) ?_ | (gi_step; first | refine wpIn_region_list_of (by kernel_rfl) ?_ | (gi_step; first | refine wpIn_region_list_of (by kernel_rfl) ?_ | (gi_step; first | refine wpIn_region_list_of (by kernel_rfl) ?_ | (gi_step; first | refine wpIn_region_list_of (by kernel_rfl) ?_ | (gi_step; refine wpIn_region_list_of (by kernel_rfl) ?_))))))
      go_wp2
      refine ⟨rfl, ?_⟩
      gi_wp2
      refine ⟨ko0.from _, ⟨rnY.is.trans rn.is.symm, rmY.is.trans rm.is.symm⟩, ?_⟩
      dsimp only
      rw [HJ.out]
      exact ⟨Held.cons r4Y (Held.cons r5Y (Held.cons r7Y (Held.cons r8Y (Held.cons rOY (Held.cons rSY (Held.cons rnY (Held.cons rmY (Held.nil _)))))))), gf0⟩
  case done =>
    rintro D ys W hD hys ⟨hH, hgr0⟩ hK
    obtain ⟨r4, hH⟩ := hH.head
    obtain ⟨r5, hH⟩ := hH.head
    obtain ⟨r7, hH⟩ := hH.head
    obtain ⟨r8, hH⟩ := hH.head
    obtain ⟨rO, hH⟩ := hH.head
    obtain ⟨rS, hH⟩ := hH.head
    clear hH
    have i8 := r8.blockIn
    have iO := rO.blockIn
    have iS := rS.blockIn
    have HR2 := Lib.hid (show R = lastR (trustTo s l n ys) by rw [hys]; exact HR.out)
    clear Hseq HF HC Hs hseq HR
    generalize trustTo s l n ys = O at *
    have kD : W.heap[D]? = some (.deferred (some [])) := hK
    have hwV := hW.size
    cases O with
    | none =>
      change RowIs W (m + 1) 4 [.bool false] at rS
      go_wp2_with (first | (with_reducible refine wLi ?_) | (with_reducible refine wSi ?_))
      have g1 := grownBy_setRow' W (w.heap.size + 1 + 1 + 1) State.zero.cells.toArray
      have x8 : RowIs (W.setRow (w.heap.size + 1 + 1 + 1) State.zero.cells.toArray) (w.heap.size + 1 + 1 + 1) 43 State.zero.cells := rowIs_setRow_new W (w.heap.size + 1 + 1 + 1) 43 15 State.zero.cells
      have kD2 : (W.setRow (w.heap.size + 1 + 1 + 1) State.zero.cells.toArray).heap[D]? = some (.deferred (some [])) := (KeepsOthers.of_grownBy g1 (fun j o ej hj => by cases ej; exact r8.cells_at o hj)).same D _ kD rfl
      have gD := grownBy_putObj' (W.setRow (w.heap.size + 1 + 1 + 1) State.zero.cells.toArray) D (.deferred none)
      have z8 := x8.kept gD (fun e => by
        cases e
        have := x8.is
        rw [kD2] at this
        cases this)
      have gf := grown_step (grown_step hgr0 g1 (fun j e => by cases e; exact .inr (by omega))) gD (fun j e => by cases e; exact .inr (by omega))
      refine ⟨by simp, .inl ⟨_, _, rfl, run_takeDeferred kD2, ?_⟩⟩
      refine ⟨.tuple #[.agg State.zero.cells.toArray, .int .i64 7], ?_, ⟨ret_tr HR2.out, grew_none gf⟩⟩
      exact res_two Try.results13 rfl rfl inferInstance z8 inferInstance
    | some A =>
      change RowIs W (m + 1) 4 [.bool true] at rS
      change RowIs W m 43 A.cells at rO
      go_wp2_with (first | (with_reducible refine wLi ?_) | (with_reducible refine wSi ?_))
      have g1 := grownBy_setRow' W (w.heap.size + 1 + 1 + 1) A.cells.toArray
      have x8 : RowIs (W.setRow (w.heap.size + 1 + 1 + 1) A.cells.toArray) (w.heap.size + 1 + 1 + 1) 43 A.cells := rowIs_setRow_new W (w.heap.size + 1 + 1 + 1) 43 15 A.cells
      have kD2 : (W.setRow (w.heap.size + 1 + 1 + 1) A.cells.toArray).heap[D]? = some (.deferred (some [])) := (KeepsOthers.of_grownBy g1 (fun j o ej hj => by cases ej; exact r8.cells_at o hj)).same D _ kD rfl
      have gD := grownBy_putObj' (W.setRow (w.heap.size + 1 + 1 + 1) A.cells.toArray) D (.deferred none)
      have z8 := x8.kept gD (fun e => by
        cases e
        have := x8.is
        rw [kD2] at this
        cases this)
      have gf := grown_step (grown_step hgr0 g1 (fun j e => by cases e; exact .inr (by omega))) gD (fun j e => by cases e; exact .inr (by omega))
      refine ⟨by simp, .inl ⟨_, _, rfl, run_takeDeferred kD2, ?_⟩⟩
      refine ⟨.tuple #[.agg A.cells.toArray, .int .i64 0], ?_, ⟨ret_tr HR2.out, grew_none gf⟩⟩
      exact res_two Try.results13 rfl rfl inferInstance z8 inferInstance
  case stop =>
    rintro D c pre W hD hpre hf hK
    exact hf.elim
theorem navTrust_any (s : State) (l : List Radio) (wrong n : Int) [hp : Pv64 s] (hT : ∀ m ∈ l, Ra64 m) (ao : Option Addr) (cap : Nat) (w : World) (hs : SlAt w (.slice ao l.length cap) l.length (l.flatMap Radio.cells)) :
    Calls Try.prog 13 #[.agg s.cells.toArray, .slice ao l.length cap, .int .i64 wrong, .int .i64 n] w (RetTr (trustR s l wrong n) w) := by
  by_cases hE : fuseE s l n = 0
  · by_cases hw : wrong < 0 ∨ 2 < wrong ∨ (l.length : Int) < wrong
    · exact navTrust_range s l n ao cap w hs wrong hE hw
    · obtain ⟨k, rfl⟩ := Int.eq_ofNat_of_zero_le (show 0 ≤ wrong by omega)
      exact navTrust_good s l n k hT ao cap w hs hE (by omega) (by omega)
  · exact navTrust_bad s l n ao cap w hs wrong hE
end Go.Proofs.Ytdkfkalplmgoeaa
