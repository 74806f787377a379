/-
  A drawn region whose last operations (a tail) write what its loads read: what is held must be held before the tail alone.
-/
import Derived.Test.YtffbipcdlnfihaaCore
import Derived.Deep.RegionHeld3
namespace Go.Proofs.Ytffbipcdlnfihaa
section
variable {P : Program} {ops : Array Oper} {Q : Exit → Act → World → Prop} {md : Region.Mode} {S : World → Prop} {T : List Nat}
/-- Whatever comes up; S is held behind all that is not of the tail T. -/
def wpTail (P : Program) (md : Region.Mode) (ops : Array Oper) (Q : Exit → Act → World → Prop) (S : World → Prop) (T : List Nat) : Nat → Array Bool → Act → World → Prop
  | 0, listed, a, w => Region.ready md ops listed = [] ∧ Q .normal a w
  | n + 1, listed, a, w => (Region.ready md ops listed = [] → Q .normal a w) ∧
    ∀ i ∈ Region.ready md ops listed, wpOp P ops Q i (fun a' w' => (T.contains i = false → S w') ∧ wpTail P md ops Q S T n (listed.setIfInBounds i true) a' w') a w
theorem wpAny_tail : ∀ (n : Nat) (listed : Array Bool) (a : Act) (w : World), wpTail P md ops Q S T n listed a w → wpAny P md ops Q n listed a w
  | 0, _, _, _, h => h
  | n + 1, _, _, _, h => ⟨h.1, fun i hi => wpOp_mono (fun a' w' k => wpAny_tail n _ a' w' k.2) (h.2 i hi)⟩
/-- Operation j waits for operation g. -/
def waits (md : Region.Mode) (ops : Array Oper) (j g : Nat) : Bool := ((ops[j]?).map fun o => o.after.any fun e => Region.binds md e && e.on == g).getD false
theorem not_waits {listed : Array Bool} {i j : Nat} (hi : listed.getD i true = false) (hj : j ∈ Region.ready md ops listed) {o : Oper} (ho : ops[j]? = some o) : ∀ e ∈ o.after, Region.binds md e = true → e.on ≠ i := fun e he hb heq => by
  obtain ⟨-, o', ho', hall⟩ := mem_ready.1 hj
  obtain rfl : o = o' := by rw [ho] at ho'; exact Option.some.inj ho'
  have h1 := hall e he hb
  rw [heq] at h1
  rcases Nat.lt_or_ge i listed.size with h | h
  · simp [h] at hi h1
    rw [hi] at h1
    cases h1
  · simp [Array.getElem?_eq_none h] at h1
theorem not_ready {listed : Array Bool} {i j : Nat} (hi : listed.getD i true = false) (hw : waits md ops j i = true) : j ∉ Region.ready md ops listed := fun hj => by
  obtain ⟨-, o, ho, -⟩ := mem_ready.1 hj
  simp only [waits, ho, Option.map_some, Option.getD_some, Array.any_eq_true'] at hw
  obtain ⟨e, he, hb⟩ := hw
  simp only [Bool.and_eq_true, beq_iff_eq] at hb
  exact not_waits hi hj ho e he hb.1 hb.2
/-- What yields in every world that meets S may be taken first, where what is of the tail waits for it, or for a gate, and so do the gates. -/
theorem wpTail_first {i : Nat} {G : List Nat} {oi : Oper} {v : Value} (hi : ops[i]? = some oi) (hsel : ∀ (j : Nat) (o : Oper) cs b, ops[j]? = some o → o.op ≠ .select cs b)
    (hQ : ∀ c a w, Q (.panic c) (a.put oi.dst v) w → Q (.panic c) a w) (hG : ∀ j ∈ G, ∃ h ∈ i :: G, waits md ops j h = true) (hT : ∀ j, T.contains j = true → ∃ h ∈ i :: G, waits md ops j h = true) :
    ∀ (n : Nat) (listed : Array Bool) (a : Act) (w : World),
      (∀ j oj, ops[j]? = some oj → j ≠ i → listed.getD j true = false → (∀ e ∈ oj.after, Region.binds md e = true → e.on ≠ i) → oi.apart ops oj = true) →
      i ∈ Region.ready md ops listed → (∀ g ∈ G, listed.getD g true = false) → YieldsIf P ops S oi v a → S w →
      wpTail P md ops Q S T n (listed.setIfInBounds i true) (a.put oi.dst v) w → wpTail P md ops Q S T (n + 1) listed a w
  | 0, listed, a, w, _, hr, _, hy, hS, H => ⟨fun h => (by rw [h] at hr; cases hr), fun j hj => by
      by_cases hji : j = i
      · subst hji
        exact hy.wpOp hi hS ⟨fun _ => hS, H⟩
      · have := ready_mono hj hji
        rw [H.1] at this
        cases this⟩
  | n + 1, listed, a, w, hfree, hr, hgl, hy, hS, H => ⟨fun h => (by rw [h] at hr; cases hr), fun j hj => by
      by_cases hji : j = i
      · subst hji
        exact hy.wpOp hi hS ⟨fun _ => hS, H⟩
      have hil := (mem_ready.1 hr).1
      have hall : ∀ h ∈ i :: G, listed.getD h true = false := fun h hh => by
        rcases List.mem_cons.1 hh with rfl | hh
        · exact hil
        · exact hgl h hh
      have hjG : j ∉ G := fun hm => by
        obtain ⟨h, hh, hw⟩ := hG j hm
        exact not_ready (hall h hh) hw hj
      have hjT : T.contains j = false := by
        cases hc : T.contains j
        · rfl
        · obtain ⟨h, hh, hw⟩ := hT j hc
          exact absurd hj (not_ready (hall h hh) hw)
      obtain ⟨hjl, oj, hoj, -⟩ := mem_ready.1 hj
      have h2 := wpOp_putIf hoj (hfree j oj hoj hji hjl (not_waits hil hj hoj)) (fun cs b => hsel i oi cs b hi) (fun cs b => hsel j oj cs b hoj) hQ hy (H.2 j (ready_mono hj hji))
      refine wpOp_mono (fun a' w' k => ⟨k.2.1, wpTail_first hi hsel hQ hG hT n (listed.setIfInBounds j true) a' w' ?_ (ready_mono hr (Ne.symm hji)) ?_ k.1 (k.2.1 hjT) ?_⟩) h2
      · intro m om hom hmi hml hno
        refine hfree m om hom hmi ?_ hno
        by_cases hjm : j = m
        · exact hjm ▸ hjl
        · rwa [getD_set_ne true hjm] at hml
      · intro g hg
        rw [getD_set_ne true (fun e : j = g => hjG (by rw [e]; exact hg))]
        exact hgl g hg
      · rw [Array.setIfInBounds_comm _ _ hji]
        exact k.2.2⟩
theorem wpTail_take (i : Nat) (G : List Nat) {oi : Oper} {v : Value} {n : Nat} {listed : Array Bool} {a : Act} {w : World} (hi : ops[i]? = some oi) (hs : Region.noSelect ops = true) (hf : Region.free md ops listed i = true) (hr : (Region.ready md ops listed).contains i = true)
    (hg : ((G ++ T).all (fun j => (i :: G).any (waits md ops j)) && G.all fun g => !listed.getD g true) = true) (hQ : ∀ c a w, Q (.panic c) (a.put oi.dst v) w → Q (.panic c) a w) (hw : Region.wanted oi (yielded ops a.tmps) = true) (hS : S w) (hy : ∀ w, S w → (execOp a.eval oi).run P w = .ok (.value v) w)
    (h : wpTail P md ops Q S T n (listed.setIfInBounds i true) (a.put oi.dst v) w) : wpTail P md ops Q S T (n + 1) listed a w := by
  obtain ⟨h1, h2⟩ := Bool.and_eq_true_iff.1 hg
  have h3 : ∀ j, j ∈ G ++ T → ∃ h ∈ i :: G, waits md ops j h = true := fun j hj => List.any_eq_true.1 (List.all_eq_true.1 h1 j hj)
  exact wpTail_first (G := G) hi (Region.noSelect_spec hs) hQ (fun j hj => h3 j (List.mem_append_left _ hj)) (fun j hj => h3 j (List.mem_append_right _ (by simpa using hj))) n listed a w (Region.free_spec hi hf) (by simpa using hr) (fun g hg => by simpa using List.all_eq_true.1 h2 g hg) (.inl ⟨hw, hy⟩) hS h
/-- How the walk comes back behind an operation. -/
structure Back (P : Program) (md : Region.Mode) (ops : Array Oper) (Q : Exit → Act → World → Prop) (S : World → Prop) (T : List Nat) (n : Nat) (listed : Array Bool) (i : Nat) (K : Act → World → Prop) : Prop where
  out : ∀ a w, (T.contains i = false → S w) → wpTail P md ops Q S T n (listed.setIfInBounds i true) a w → K a w
theorem wpTail_step {i : Nat} {o : Oper} {n : Nat} {listed : Array Bool} {a : Act} {w : World} (ho : ops[i]? = some o)
    (h : ∀ K, Back P md ops Q S T n listed i K → if Region.wanted o (yielded ops a.tmps) = true then Oper.wp P o a w K Q else K (a.put o.dst undef) w) : wpOp P ops Q i (fun a' w' => (T.contains i = false → S w') ∧ wpTail P md ops Q S T n (listed.setIfInBounds i true) a' w') a w :=
  wpOp_step ho fun K hK => h K ⟨fun a w h1 h2 => hK a w ⟨h1, h2⟩⟩
theorem wpTail_one (i : Nat) {o : Oper} {n : Nat} {listed : Array Bool} {a : Act} {w : World} (hr : Region.ready md ops listed = [i]) (ho : ops[i]? = some o)
    (h : ∀ K, Back P md ops Q S T n listed i K → if Region.wanted o (yielded ops a.tmps) = true then Oper.wp P o a w K Q else K (a.put o.dst undef) w) : wpTail P md ops Q S T (n + 1) listed a w :=
  ⟨fun h0 => (by rw [hr] at h0; cases h0), fun j hj => by
    rw [hr] at hj
    obtain rfl := List.mem_singleton.1 hj
    exact wpTail_step ho h⟩
theorem wpTail_two (i j : Nat) {o p : Oper} {n : Nat} {listed : Array Bool} {a : Act} {w : World} (hr : Region.ready md ops listed = [i, j]) (ho : ops[i]? = some o) (hp : ops[j]? = some p)
    (h : ∀ K, Back P md ops Q S T n listed i K → if Region.wanted o (yielded ops a.tmps) = true then Oper.wp P o a w K Q else K (a.put o.dst undef) w)
    (h' : ∀ K, Back P md ops Q S T n listed j K → if Region.wanted p (yielded ops a.tmps) = true then Oper.wp P p a w K Q else K (a.put p.dst undef) w) : wpTail P md ops Q S T (n + 1) listed a w :=
  ⟨fun h0 => (by rw [hr] at h0; cases h0), fun k hk => by
    rw [hr] at hk
    rcases List.mem_cons.1 hk with rfl | hk
    · exact wpTail_step ho h
    · obtain rfl := List.mem_singleton.1 hk
      exact wpTail_step hp h'⟩
theorem wpTail_done {n : Nat} {listed : Array Bool} {a : Act} {w : World} (hr : Region.ready md ops listed = []) (h : Q .normal a w) : wpTail P md ops Q S T n listed a w := by
  cases n
  · exact ⟨hr, h⟩
  · exact ⟨fun _ => h, by rw [hr]; exact fun i hi => by cases hi⟩
theorem wp_region_tail (S : World → Prop) (T : List Nat) {id : Nat} {a : Act} {w : World} (hm : P.follows .mixedOrders = true)
    (h : wpTail P .any ops Q S T ops.size (Array.replicate ops.size false) a w.drew) : (Code.region id ops true).wp P Q a w :=
  wp_region_any hm (wpAny_tail _ _ _ _ h)
end
end Go.Proofs.Ytffbipcdlnfihaa
