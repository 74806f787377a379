/-
  A drawn region whose calls may end by a panic: one walk in the text's order.
-/
import Derived.Test.YtdkfkalplmgoeaaLexAll
import Derived.Test.YtdkfkalplmgoeaaNavCalls
namespace Go.Proofs.Ytdkfkalplmgoeaa
open Go.RowKit
set_option maxRecDepth 100000
/-- What is known behind so many calls: that they had no error. -/
def OkTo (es : List Int) (k : Nat) : World → Prop := fun _ => ∀ j, j < k → es.getD j 0 = 0
/-- What is known where a call ends by a panic: the error, which is that of the whole. -/
def StopX (tot : Int) (w0 : World) (e : Ending) (w : World) : Prop := ∃ c : Int, c ≠ 0 ∧ tot = c ∧ e = StopEnd c ∧ Grew w0 w
section
variable {P : Program} {ops : Array Oper} {es : List Int} {tot : Int} {mks cl free : List Nat} {l : List (Nat × (Value → World → Prop))} {w0 : World} {p : Nat → Value} {E : Act → Prop} {o : Oper} {r : List Oper} {i : Nat} {a : Act} {v : Value} {vs : List Value}
def LexS (P : Program) (ops : Array Oper) (es : List Int) (tot : Int) (mks cl free : List Nat) (l : List (Nat × (Value → World → Prop))) (w0 : World) (p : Nat → Value) (E : Act → Prop) : List Oper → Nat → Act → List Value → Prop := Lex P ops mks cl free Grew (OkTo es) (rOf l) (StopX tot w0) w0 p E
theorem lexs_end (h : E a) : LexS P ops es tot mks cl free l w0 p E [] i a [] := lex_end h
theorem lexs_pure (h1 : (mks.contains i || cl.contains i || free.contains i) = false) (h : ∀ u : Later w0, opPure P o a u.world v) (k : LexS P ops es tot mks cl free l w0 p E r (i + 1) (a.put o.dst v) vs) : LexS P ops es tot mks cl free l w0 p E (o :: r) i a (v :: vs) := by
  simp only [Bool.or_eq_false_iff] at h1
  exact lex_pure (by simpa using h1.1.1) (by simpa using h1.1.2) (by simpa using h1.2) (fun w hT _ => h ⟨w, hT⟩) k
theorem lexs_free (h1 : (mks.contains i || cl.contains i || !free.contains i) = false) (h : ∀ w, opPure P o a w v) (k : LexS P ops es tot mks cl free l w0 p E r (i + 1) (a.put o.dst v) vs) : LexS P ops es tot mks cl free l w0 p E (o :: r) i a (v :: vs) := by
  simp only [Bool.or_eq_false_iff, Bool.not_eq_false'] at h1
  exact lex_free (by simpa using h1.1.1) (by simpa using h1.1.2) (by simpa using h1.2) h k
theorem lexs_make (h1 : mks.contains i = true) (h : ∀ u : Later w0, Facts ops mks (rOf l) p i u.world → opMake P o a u.world (Made (rOf l i) u.world)) (k : LexS P ops es tot mks cl free l w0 p E r (i + 1) (a.put o.dst (p i)) vs) : LexS P ops es tot mks cl free l w0 p E (o :: r) i a (p i :: vs) := by
  refine lex_make (by simpa using h1) (fun w hT hF => ?_) k
  have := h ⟨w, hT⟩ hF
  unfold opMake at this ⊢
  generalize (execOp a.eval o).run P w = x at *
  cases x with
  | ok n w' =>
    cases n <;> simp only [] at this
    obtain ⟨t1, t2, t3⟩ := this
    exact ⟨t1, t2, fun _ h => h, t3⟩
  | halt x w' => exact this.elim
/-- A call that may end by a panic. -/
def opStop (P : Program) (o : Oper) (a : Act) (w : World) (v : Value) (c : Int) : Prop :=
  match (execOp a.eval o).run P w with
  | .ok (.enter f args) w' => Calls P f args w' fun e w'' => (e = if c = 0 then .returned v else StopEnd c) ∧ Grew w w''
  | _ => False
theorem lexs_call (n : Nat) (h1 : mks.contains i = false) (h2 : cl[n]? = some i) (h3 : cl.Nodup) (hc : (∀ j, j < n → es.getD j 0 = 0) → es.getD n 0 ≠ 0 → tot = es.getD n 0)
    (h : ∀ u : Later w0, Facts ops mks (rOf l) p i u.world → opStop P o a u.world v (es.getD n 0)) (k : LexS P ops es tot mks cl free l w0 p E r (i + 1) (a.put o.dst v) vs) : LexS P ops es tot mks cl free l w0 p E (o :: r) i a (v :: vs) := by
  refine lex_call n (by simpa using h1) h2 h3 (fun w hT hW hF => ?_) k
  have := h ⟨w, hT⟩ hF
  unfold opStop at this
  unfold opCallX
  generalize (execOp a.eval o).run P w = x at *
  cases x with
  | ok m w' =>
    cases m <;> simp only [] at this
    refine this.mono fun e w'' ⟨he, hg⟩ => ?_
    by_cases h0 : es.getD n 0 = 0
    · rw [if_pos h0] at he
      refine .inl ⟨he, hg, fun j hj => ?_⟩
      by_cases hjn : j = n
      · subst hjn; exact h0
      · exact hW j (by omega)
    · rw [if_neg h0] at he
      exact .inr ⟨_, h0, hc hW h0, he, hT.trans hg⟩
  | halt x w' => exact this.elim
theorem wp_region_stops {id : Nat} {lo : List Oper} {Q : Exit → Act → World → Prop} {a0 : Act} {w : World} (es : List Int) (tot : Int) (N : Nat) (mks cl free : List Nat) (l : World → List (Nat × (Value → World → Prop))) (cv : List Value) (tl : List Nat) (htl : List.range' N (lo.length - N) = tl)
    (hg : ∀ W0, ∀ x ∈ l W0, Good x.2) (hm : P.follows .mixedOrders = true) (hB : tameB lo.toArray N cl free = true) (hA : apartB N mks cl free = true)
    (hX : tot ≠ 0 → ∀ u : Later w.drew, ∀ a, a.defers = a0.defers → Q (.panic [{ v := .iface 118 (.agg #[.int .i64 tot]), recovered := false }]) a u.world)
    (hlex : ∀ p, ∃ vs, LexS P lo.toArray es tot mks cl free (l w.drew) w.drew p (fun a => ∀ u : Later w.drew, (∀ j, j < cl.length → es.getD j 0 = 0) → (∀ j, j ∈ mks → rOf (l w.drew) j (p j) u.world) → (∀ j j', j ∈ mks → j' ∈ mks → j ≠ j' → Differ (p j) (p j')) → Tail P lo.toArray a (fun w'' => Q .normal a w'') tl u.world) (lo.take N) 0 a0 vs ∧
      (cl.map fun c => vs.getD c undef) = cv) :
    (Code.region id lo.toArray true).wp P Q a0 w := by
  subst htl
  refine wp_region_lexed N mks cl free Grew (OkTo es) (rOf (l w.drew)) (StopX tot w.drew) ?_ cv hm hB hA (fun w => Grew.refl w) (fun _ _ _ h k => h.trans k) (rOf_stable (hg _)) (rOf_old (hg _)) (fun j hj => by omega) fun p => ?_
  · rintro e w' ⟨c, h1, h2, rfl, h3⟩
    subst h2
    exact ⟨_, rfl, fun a hd => hX h1 ⟨w', h3⟩ a hd⟩
  obtain ⟨vs, h1, h2⟩ := hlex p
  refine ⟨vs, ?_, h2⟩
  have mono : ∀ (l' : List Oper) (i : Nat) (a : Act) (vs : List Value) (E E' : Act → Prop), (∀ a, E a → E' a) → Lex P lo.toArray mks cl free Grew (OkTo es) (rOf (l w.drew)) (StopX tot w.drew) w.drew p E l' i a vs → Lex P lo.toArray mks cl free Grew (OkTo es) (rOf (l w.drew)) (StopX tot w.drew) w.drew p E' l' i a vs := by
    intro l'
    induction l' with
    | nil => intro i a vs E E' hE h; exact ⟨h.1, hE _ h.2⟩
    | cons o r ih =>
      intro i a vs E E' hE h
      cases vs with
      | nil => exact h
      | cons v vs => exact ⟨h.1, ih _ _ _ _ _ hE h.2⟩
  exact mono _ _ _ _ _ _ (fun a h w' hT hW hR hD => (h ⟨w', hT⟩ hW hR hD).out) h1
end
end Go.Proofs.Ytdkfkalplmgoeaa
