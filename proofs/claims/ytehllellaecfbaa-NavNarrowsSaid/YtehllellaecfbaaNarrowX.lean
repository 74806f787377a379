/-
  A drawn region whose last operations (a tail) write what its loads read: what is held must be held before the tail alone.
  NavNarrows: two laws of append at a step of a region that draws its order, and region 13 of ullagelaw06.NavNarrows by itself.
  NavNarrows: behind the second append of region 13 of ullagelaw06.NavNarrows.
  NavNarrows: what lies behind region 14.
-/
import Derived.Test.YtehllellaecfbaaCore
import Derived.Deep.RegionHeld3
import Derived.Test.YtehllellaecfbaaNavOuts
import Derived.Deep.DeepCutAuto
import Derived.Deep.CutRange
import Derived.Deep.AppendLies
import Derived.Deep.RegionHeldLaw
namespace Go.Proofs.Ytehllellaecfbaa
section
variable {P : Program} {ops : Array Oper} {Q : Exit → Act → World → Prop} {md : Region.Mode} {S : World → Prop} {T : List Nat}
/-- Whatever comes up; S is held behind all that is not of the tail T. -/
def wpTail (P : Program) (md : Region.Mode) (ops : Array Oper) (Q : Exit → Act → World → Prop) (S : World → Prop) (T : List Nat) : Nat → Array Bool → Act → World → Prop
  | 0, listed, a, w => Region.ready md ops listed = [] ∧ Q .normal a w
  | n + 1, listed, a, w => (Region.ready md ops listed = [] → Q .normal a w) ∧
    ∀ i ∈ Region.ready md ops listed, wpOp P ops Q i (fun a' w' => (T.contains i = false → S w') ∧ wpTail P md ops Q S T n (listed.setIfInBounds i true) a' w') a w
theorem wpAny_tail : ∀ (n : Nat) (listed : Array Bool) (a : Act) (w : World), wpTail P md ops Q S T n listed a w → wpAny P md ops Q n listed a w
  | 0, _, _, _, h => h
  | n + 1, _, _, _, h => ⟨h.1, fun i hi => wpOp_mono (fun a' w' k => wpAny_tail n _ a' w' k.2) (h.2 i hi)⟩
/-- Operation j waits for operation g. -/
def waits (md : Region.Mode) (ops : Array Oper) (j g : Nat) : Bool := ((ops[j]?).map fun o => o.after.any fun e => Region.binds md e && e.on == g).getD false
theorem not_waits {listed : Array Bool} {i j : Nat} (hi : listed.getD i true = false) (hj : j ∈ Region.ready md ops listed) {o : Oper} (ho : ops[j]? = some o) : ∀ e ∈ o.after, Region.binds md e = true → e.on ≠ i := fun e he hb heq => by
  obtain ⟨-, o', ho', hall⟩ := mem_ready.1 hj
  obtain rfl : o = o' := by rw [ho] at ho'; exact Option.some.inj ho'
  have h1 := hall e he hb
  rw [heq] at h1
  rcases Nat.lt_or_ge i listed.size with h | h
  · simp [h] at hi h1
    rw [hi] at h1
    cases h1
  · simp [Array.getElem?_eq_none h] at h1
theorem not_ready {listed : Array Bool} {i j : Nat} (hi : listed.getD i true = false) (hw : waits md ops j i = true) : j ∉ Region.ready md ops listed := fun hj => by
  obtain ⟨-, o, ho, -⟩ := mem_ready.1 hj
  simp only [waits, ho, Option.map_some, Option.getD_some, Array.any_eq_true'] at hw
  obtain ⟨e, he, hb⟩ := hw
  simp only [Bool.and_eq_true, beq_iff_eq] at hb
  exact not_waits hi hj ho e he hb.1 hb.2
/-- What yields in every world that meets S may be taken first, where what is of the tail waits for it, or for a gate, and so do the gates. -/
theorem wpTail_first {i : Nat} {G : List Nat} {oi : Oper} {v : Value} (hi : ops[i]? = some oi) (hsel : ∀ (j : Nat) (o : Oper) cs b, ops[j]? = some o → o.op ≠ .select cs b)
    (hQ : ∀ c a w, Q (.panic c) (a.put oi.dst v) w → Q (.panic c) a w) (hG : ∀ j ∈ G, ∃ h ∈ i :: G, waits md ops j h = true) (hT : ∀ j, T.contains j = true → ∃ h ∈ i :: G, waits md ops j h = true) :
    ∀ (n : Nat) (listed : Array Bool) (a : Act) (w : World),
      (∀ j oj, ops[j]? = some oj → j ≠ i → listed.getD j true = false → (∀ e ∈ oj.after, Region.binds md e = true → e.on ≠ i) → oi.apart ops oj = true) →
      i ∈ Region.ready md ops listed → (∀ g ∈ G, listed.getD g true = false) → YieldsIf P ops S oi v a → S w →
      wpTail P md ops Q S T n (listed.setIfInBounds i true) (a.put oi.dst v) w → wpTail P md ops Q S T (n + 1) listed a w
  | 0, listed, a, w, _, hr, _, hy, hS, H => ⟨fun h => (by rw [h] at hr; cases hr), fun j hj => by
      by_cases hji : j = i
      · subst hji
        exact hy.wpOp hi hS ⟨fun _ => hS, H⟩
      · have := ready_mono hj hji
        rw [H.1] at this
        cases this⟩
  | n + 1, listed, a, w, hfree, hr, hgl, hy, hS, H => ⟨fun h => (by rw [h] at hr; cases hr), fun j hj => by
      by_cases hji : j = i
      · subst hji
        exact hy.wpOp hi hS ⟨fun _ => hS, H⟩
      have hil := (mem_ready.1 hr).1
      have hall : ∀ h ∈ i :: G, listed.getD h true = false := fun h hh => by
        rcases List.mem_cons.1 hh with rfl | hh
        · exact hil
        · exact hgl h hh
      have hjG : j ∉ G := fun hm => by
        obtain ⟨h, hh, hw⟩ := hG j hm
        exact not_ready (hall h hh) hw hj
      have hjT : T.contains j = false := by
        cases hc : T.contains j
        · rfl
        · obtain ⟨h, hh, hw⟩ := hT j hc
          exact absurd hj (not_ready (hall h hh) hw)
      obtain ⟨hjl, oj, hoj, -⟩ := mem_ready.1 hj
      have h2 := wpOp_putIf hoj (hfree j oj hoj hji hjl (not_waits hil hj hoj)) (fun cs b => hsel i oi cs b hi) (fun cs b => hsel j oj cs b hoj) hQ hy (H.2 j (ready_mono hj hji))
      refine wpOp_mono (fun a' w' k => ⟨k.2.1, wpTail_first hi hsel hQ hG hT n (listed.setIfInBounds j true) a' w' ?_ (ready_mono hr (Ne.symm hji)) ?_ k.1 (k.2.1 hjT) ?_⟩) h2
      · intro m om hom hmi hml hno
        refine hfree m om hom hmi ?_ hno
        by_cases hjm : j = m
        · exact hjm ▸ hjl
        · rwa [getD_set_ne true hjm] at hml
      · intro g hg
        rw [getD_set_ne true (fun e : j = g => hjG (by rw [e]; exact hg))]
        exact hgl g hg
      · rw [Array.setIfInBounds_comm _ _ hji]
        exact k.2.2⟩
theorem wpTail_take (i : Nat) (G : List Nat) {oi : Oper} {v : Value} {n : Nat} {listed : Array Bool} {a : Act} {w : World} (hi : ops[i]? = some oi) (hs : Region.noSelect ops = true) (hf : Region.free md ops listed i = true) (hr : (Region.ready md ops listed).contains i = true)
    (hg : ((G ++ T).all (fun j => (i :: G).any (waits md ops j)) && G.all fun g => !listed.getD g true) = true) (hQ : ∀ c a w, Q (.panic c) (a.put oi.dst v) w → Q (.panic c) a w) (hw : Region.wanted oi (yielded ops a.tmps) = true) (hS : S w) (hy : ∀ w, S w → (execOp a.eval oi).run P w = .ok (.value v) w)
    (h : wpTail P md ops Q S T n (listed.setIfInBounds i true) (a.put oi.dst v) w) : wpTail P md ops Q S T (n + 1) listed a w := by
  obtain ⟨h1, h2⟩ := Bool.and_eq_true_iff.1 hg
  have h3 : ∀ j, j ∈ G ++ T → ∃ h ∈ i :: G, waits md ops j h = true := fun j hj => List.any_eq_true.1 (List.all_eq_true.1 h1 j hj)
  exact wpTail_first (G := G) hi (Region.noSelect_spec hs) hQ (fun j hj => h3 j (List.mem_append_left _ hj)) (fun j hj => h3 j (List.mem_append_right _ (by simpa using hj))) n listed a w (Region.free_spec hi hf) (by simpa using hr) (fun g hg => by simpa using List.all_eq_true.1 h2 g hg) (.inl ⟨hw, hy⟩) hS h
/-- How the walk comes back behind an operation. -/
structure Back (P : Program) (md : Region.Mode) (ops : Array Oper) (Q : Exit → Act → World → Prop) (S : World → Prop) (T : List Nat) (n : Nat) (listed : Array Bool) (i : Nat) (K : Act → World → Prop) : Prop where
  out : ∀ a w, (T.contains i = false → S w) → wpTail P md ops Q S T n (listed.setIfInBounds i true) a w → K a w
theorem wpTail_step {i : Nat} {o : Oper} {n : Nat} {listed : Array Bool} {a : Act} {w : World} (ho : ops[i]? = some o)
    (h : ∀ K, Back P md ops Q S T n listed i K → if Region.wanted o (yielded ops a.tmps) = true then Oper.wp P o a w K Q else K (a.put o.dst undef) w) : wpOp P ops Q i (fun a' w' => (T.contains i = false → S w') ∧ wpTail P md ops Q S T n (listed.setIfInBounds i true) a' w') a w :=
  wpOp_step ho fun K hK => h K ⟨fun a w h1 h2 => hK a w ⟨h1, h2⟩⟩
theorem wpTail_one (i : Nat) {o : Oper} {n : Nat} {listed : Array Bool} {a : Act} {w : World} (hr : Region.ready md ops listed = [i]) (ho : ops[i]? = some o)
    (h : ∀ K, Back P md ops Q S T n listed i K → if Region.wanted o (yielded ops a.tmps) = true then Oper.wp P o a w K Q else K (a.put o.dst undef) w) : wpTail P md ops Q S T (n + 1) listed a w :=
  ⟨fun h0 => (by rw [hr] at h0; cases h0), fun j hj => by
    rw [hr] at hj
    obtain rfl := List.mem_singleton.1 hj
    exact wpTail_step ho h⟩
theorem wpTail_two (i j : Nat) {o p : Oper} {n : Nat} {listed : Array Bool} {a : Act} {w : World} (hr : Region.ready md ops listed = [i, j]) (ho : ops[i]? = some o) (hp : ops[j]? = some p)
    (h : ∀ K, Back P md ops Q S T n listed i K → if Region.wanted o (yielded ops a.tmps) = true then Oper.wp P o a w K Q else K (a.put o.dst undef) w)
    (h' : ∀ K, Back P md ops Q S T n listed j K → if Region.wanted p (yielded ops a.tmps) = true then Oper.wp P p a w K Q else K (a.put p.dst undef) w) : wpTail P md ops Q S T (n + 1) listed a w :=
  ⟨fun h0 => (by rw [hr] at h0; cases h0), fun k hk => by
    rw [hr] at hk
    rcases List.mem_cons.1 hk with rfl | hk
    · exact wpTail_step ho h
    · obtain rfl := List.mem_singleton.1 hk
      exact wpTail_step hp h'⟩
theorem wpTail_done {n : Nat} {listed : Array Bool} {a : Act} {w : World} (hr : Region.ready md ops listed = []) (h : Q .normal a w) : wpTail P md ops Q S T n listed a w := by
  cases n
  · exact ⟨hr, h⟩
  · exact ⟨fun _ => h, by rw [hr]; exact fun i hi => by cases hi⟩
theorem wp_region_tail (S : World → Prop) (T : List Nat) {id : Nat} {a : Act} {w : World} (hm : P.follows .mixedOrders = true)
    (h : wpTail P .any ops Q S T ops.size (Array.replicate ops.size false) a w.drew) : (Code.region id ops true).wp P Q a w :=
  wp_region_any hm (wpAny_tail _ _ _ _ h)
end
end Go.Proofs.Ytehllellaecfbaa
namespace Go.Proofs.Ytehllellaecfbaa
open Go.RowKit Go.Shelf
set_option maxRecDepth 100000
set_option maxHeartbeats 16000000
theorem own_here {w : World} {base m : Nat} {e : TypeId} (hb : base ≤ w.heap.size) (h : w.heap.size = m) : (w.alloc (.cells #[] e)).ownsRow base e 15 (.slice (some ⟨m, 0, none⟩) 0 0) 0 ([] : List Value) := by
  subst h
  exact World.ownsRow_lit w #[] 0 hb (by simp [maxLen]) (by simp)
/-- A list of measurements is copied onto an empty slice. -/
theorem step_copy_radio {ops : Array Oper} {o : Oper} {a : Act} {K : Act → World → Prop} {Q : Exit → Act → World → Prop} {E : Prop} (a0 w : World) (g0 : Grew a0 w) (hgd : o.guard = none) (s x : Operand)
    (ho : o.op = .call { callee := .builtin .append, args := #[s, x], argTypes := #[36, 36] }) (l : List Radio) (V : Value) (hV : SlAt w V l.length (l.flatMap Radio.cells)) (hx : a.eval x = V) (hn : l.length ≤ 1000)
    (m : Nat) (hs : a.eval s = .slice (some ⟨m, 0, none⟩) 0 0) (hown : w.ownsRow a0.heap.size 43 15 (.slice (some ⟨m, 0, none⟩) 0 0) 0 [])
    (h : ∀ v' (u : Later a0), u.world.ownsRow a0.heap.size 43 15 v' l.length (l.flatMap Radio.cells) → K (a.put o.dst v') u.world) :
    if Region.wanted o (yielded ops a.tmps) = true then Oper.wp Try.prog o a w K Q else E := by
  have hw : Region.wanted o (yielded ops a.tmps) = true := by simp [Region.wanted, hgd]
  rw [if_pos hw]
  obtain ⟨i0, hi, hz0, hzz1, hzz2⟩ := info_parts infoRad
  cases l with
  | nil =>
    obtain ⟨ao, cap, rfl, hm, hc⟩ := hV
    obtain ⟨y, hy⟩ : ∃ y : Later a0, y.world = w := ⟨⟨w, g0⟩, rfl⟩
    have h' := h _ y (by rw [hy]; exact hown)
    rw [hy] at h'
    unfold Oper.wp execOp
    simp only [ho, resolve, invoke, builtin, Sem.run_bind, Sem.run_pure, Result.andThen_ok, List.map_toArray, List.map_cons, List.map_nil, hs, hx]
    rw [show (Builtin.append_ #[36, 36] o.type #[.slice (some ⟨m, 0, none⟩) 0 0, .slice ao ([] : List Radio).length cap]).run Try.prog w = .ok (.slice (some ⟨m, 0, none⟩) 0 0) w by
      cases ao <;> simp [Builtin.append_, run_underlying Try.underlying36, sizeOf, typeInfo, hi, Builtin.lenOf, Builtin.firstCells, storeCells, loadCells, loadCellsFrom]]
    exact h'
  | cons y l =>
    obtain ⟨ao, cap, rfl, hm, hc⟩ := hV
    obtain ⟨b, off, rfl, -⟩ := hc 0 (.int .i64 y.kind) rfl
    have hlen : ((y :: l).flatMap Radio.cells).length = (y :: l).length * 15 := by
      generalize y :: l = l at *
      clear hc hx hm h hn
      induction l with
      | nil => rfl
      | cons x l ih => rw [List.flatMap_cons, List.length_append, ih, List.length_cons]; show 15 + _ = _; omega
    refine wp_append_lies w s x 36 ho a0.heap.size 43 i0 _ 15 120 Try.underlying36 hi hz0 hzz1 hzz2 rfl (by decide) _ 0 [] hs hown ⟨b, off, none⟩ (y :: l).length cap ((y :: l).flatMap Radio.cells) hx hlen (fun j u hu => ?_) (fun u hu => ?_) (by simp) (by simp [maxLen] at hn ⊢; omega) (by omega) g0.size _ rfl ?_
    · obtain ⟨b', off', e1, e2⟩ := hc j u hu
      cases e1
      rw [Addr.add_lit]
      exact e2
    · obtain ⟨r, -, hr⟩ := List.mem_flatMap.1 hu
      exact radio_one r u hr
    · intro g cap' w' h2 h3 h4 h5
      rw [Nat.zero_add, List.nil_append] at h2
      obtain ⟨u, rfl⟩ := later_of (Grew.append g0 hown (Nat.le_refl _) h3)
      have := h _ u h2
      rw [Nat.zero_add]
      exact this
theorem row15 {w : World} {b : Nat} {m : Radio} (h0 : w.cell? ⟨b, 0, none⟩ = some (.int .i64 m.kind)) (h1 : w.cell? ⟨b, 1, none⟩ = some (.int .i64 m.place.x.lo)) (h2 : w.cell? ⟨b, 2, none⟩ = some (.int .i64 m.place.x.hi)) (h3 : w.cell? ⟨b, 3, none⟩ = some (.int .i64 m.place.y.lo)) (h4 : w.cell? ⟨b, 4, none⟩ = some (.int .i64 m.place.y.hi)) (h5 : w.cell? ⟨b, 5, none⟩ = some (.int .i64 m.place.z.lo)) (h6 : w.cell? ⟨b, 6, none⟩ = some (.int .i64 m.place.z.hi)) (h7 : w.cell? ⟨b, 7, none⟩ = some (.int .i64 m.dir.x.lo)) (h8 : w.cell? ⟨b, 8, none⟩ = some (.int .i64 m.dir.x.hi)) (h9 : w.cell? ⟨b, 9, none⟩ = some (.int .i64 m.dir.y.lo)) (h10 : w.cell? ⟨b, 10, none⟩ = some (.int .i64 m.dir.y.hi)) (h11 : w.cell? ⟨b, 11, none⟩ = some (.int .i64 m.dir.z.lo)) (h12 : w.cell? ⟨b, 12, none⟩ = some (.int .i64 m.dir.z.hi)) (h13 : w.cell? ⟨b, 13, none⟩ = some (.int .i64 m.value.lo)) (h14 : w.cell? ⟨b, 14, none⟩ = some (.int .i64 m.value.hi)) :
    ∀ (j : Nat) (u : Value), m.cells[j]? = some u → w.cell? ⟨b, j, none⟩ = some u := fun j u hu => by
  match j, hu with
  | 0, hu => cases hu; exact h0
  | 1, hu => cases hu; exact h1
  | 2, hu => cases hu; exact h2
  | 3, hu => cases hu; exact h3
  | 4, hu => cases hu; exact h4
  | 5, hu => cases hu; exact h5
  | 6, hu => cases hu; exact h6
  | 7, hu => cases hu; exact h7
  | 8, hu => cases hu; exact h8
  | 9, hu => cases hu; exact h9
  | 10, hu => cases hu; exact h10
  | 11, hu => cases hu; exact h11
  | 12, hu => cases hu; exact h12
  | 13, hu => cases hu; exact h13
  | 14, hu => cases hu; exact h14
/-- One measurement is appended to a row of one's own. -/
theorem step_app_radio {ops : Array Oper} {o : Oper} {a : Act} {K : Act → World → Prop} {Q : Exit → Act → World → Prop} {E : Prop} (a0 w : World) (g0 : Grew a0 w) (hgd : o.guard = none) (s x : Operand)
    (ho : o.op = .call { callee := .builtin .append, args := #[s, x], argTypes := #[36, 36] }) (l : List Radio) (v : Value) (hs : a.eval s = v) (hown : w.ownsRow a0.heap.size 43 15 v l.length (l.flatMap Radio.cells)) (hn : l.length ≤ 1000)
    (y : Radio) (b : Nat) (hx : a.eval x = .slice (some ⟨b, 0, none⟩) 1 1) (hy : ∀ (j : Nat) (u : Value), y.cells[j]? = some u → w.cell? ⟨b, j, none⟩ = some u)
    (h : ∀ ao cap (u : Later a0), SlAt u.world (.slice ao (l.length + 1) cap) (l.length + 1) ((l ++ [y]).flatMap Radio.cells) → K (a.put o.dst (.slice ao (l.length + 1) cap)) u.world) :
    if Region.wanted o (yielded ops a.tmps) = true then Oper.wp Try.prog o a w K Q else E := by
  obtain ⟨i0, hi, hz0, hzz1, hzz2⟩ := info_parts infoRad
  refine step_append_lies w hgd s x 36 ho a0.heap.size 43 i0 _ 15 120 Try.underlying36 hi hz0 hzz1 hzz2 rfl (by decide) v _ _ hs hown ⟨b, 0, none⟩ 1 1 y.cells hx rfl (fun j u hu => by rw [Addr.add_lit, Nat.zero_add]; exact hy j u hu) (radio_one y) (by decide) (by simp [maxLen]; omega) (by omega) g0.size _ rfl ?_
  intro g cap w' h2 h3 h4 h5
  obtain ⟨u, rfl⟩ := later_of (Grew.append g0 hown (Nat.le_refl _) h3)
  rw [radC_snoc] at h2
  exact h _ _ u (SlAt.of_owns h2)
def tlC : Code → Code
  | .seq _ b => b
  | c => c
def fsC : Code → Code
  | .seq a _ => a
  | c => c
/-- Region 13 of ullagelaw06.NavNarrows. -/
def narrowsR13 (c : Code) : Code := fsC (tlC (tlC (tlC (tlC (tlC (tlC (tlC (tlC (tlC (tlC c))))))))))
end Go.Proofs.Ytehllellaecfbaa
namespace Go.Proofs.Ytehllellaecfbaa
open Go.RowKit Go.Shelf
set_option maxRecDepth 100000
set_option maxHeartbeats 16000000
set_option linter.unusedSimpArgs false
@[go_sem] theorem raGet0 (m : Radio) : m.cells[0]? = some (.int .i64 m.kind) := rfl
@[go_sem] theorem raGet1 (m : Radio) : m.cells[1]? = some (.int .i64 m.place.x.lo) := rfl
@[go_sem] theorem raGet2 (m : Radio) : m.cells[2]? = some (.int .i64 m.place.x.hi) := rfl
@[go_sem] theorem raGet3 (m : Radio) : m.cells[3]? = some (.int .i64 m.place.y.lo) := rfl
@[go_sem] theorem raGet4 (m : Radio) : m.cells[4]? = some (.int .i64 m.place.y.hi) := rfl
@[go_sem] theorem raGet5 (m : Radio) : m.cells[5]? = some (.int .i64 m.place.z.lo) := rfl
@[go_sem] theorem raGet6 (m : Radio) : m.cells[6]? = some (.int .i64 m.place.z.hi) := rfl
@[go_sem] theorem raGet7 (m : Radio) : m.cells[7]? = some (.int .i64 m.dir.x.lo) := rfl
@[go_sem] theorem raGet8 (m : Radio) : m.cells[8]? = some (.int .i64 m.dir.x.hi) := rfl
@[go_sem] theorem raGet9 (m : Radio) : m.cells[9]? = some (.int .i64 m.dir.y.lo) := rfl
@[go_sem] theorem raGet10 (m : Radio) : m.cells[10]? = some (.int .i64 m.dir.y.hi) := rfl
@[go_sem] theorem raGet11 (m : Radio) : m.cells[11]? = some (.int .i64 m.dir.z.lo) := rfl
@[go_sem] theorem raGet12 (m : Radio) : m.cells[12]? = some (.int .i64 m.dir.z.hi) := rfl
section
variable {P : Program} {ops : Array Oper} {Q : Exit → Act → World → Prop} {md : Region.Mode} {S : World → Prop} {T : List Nat}
theorem wpTail_three (i j k : Nat) {o p q : Oper} {n : Nat} {listed : Array Bool} {a : Act} {w : World} (hr : Region.ready md ops listed = [i, j, k]) (ho : ops[i]? = some o) (hp : ops[j]? = some p) (hq : ops[k]? = some q)
    (h : ∀ K, Back P md ops Q S T n listed i K → if Region.wanted o (yielded ops a.tmps) = true then Oper.wp P o a w K Q else K (a.put o.dst undef) w)
    (h' : ∀ K, Back P md ops Q S T n listed j K → if Region.wanted p (yielded ops a.tmps) = true then Oper.wp P p a w K Q else K (a.put p.dst undef) w)
    (h'' : ∀ K, Back P md ops Q S T n listed k K → if Region.wanted q (yielded ops a.tmps) = true then Oper.wp P q a w K Q else K (a.put q.dst undef) w) : wpTail P md ops Q S T (n + 1) listed a w :=
  ⟨fun h0 => (by rw [hr] at h0; cases h0), fun m hm => by
    rw [hr] at hm
    rcases List.mem_cons.1 hm with rfl | hm
    · exact wpTail_step ho h
    · rcases List.mem_cons.1 hm with rfl | hm
      · exact wpTail_step hp h'
      · obtain rfl := List.mem_singleton.1 hm
        exact wpTail_step hq h''⟩
theorem wpTail_at {n : Nat} {listed : Array Bool} {a : Act} {w : World} (listed' : Array Bool) (e : listed = listed') (h : wpTail P md ops Q S T n listed' a w) : wpTail P md ops Q S T n listed a w := e ▸ h
end
def regOps : Code → Array Oper
  | .region _ ops _ => ops
  | _ => #[]
theorem narrows_m12 {K : Act → World → Prop} {Q' : Exit → Act → World → Prop} (s fs : State) (m : Radio) (fn fe : Int) (l : List Radio) (q7 q12 cap : Nat) (ao : Option Addr) (W wz : World) (hg : Grew W wz) (ao2 : Option Addr) (cap2 : Nat) (hs : SlAt wz (.slice ao2 (l.length + 1) cap2) (l.length + 1) ((l ++ [m]).flatMap Radio.cells)) (q24 : Nat) [nf : NewFor W q24] [r24 : RowIs wz q24 45 [.int .i64 0, .int .i64 0, .int .i64 0, .int .i64 0, .int .i64 0, .int .i64 0, .int .i64 0, .int .i64 0, .int .i64 0, .int .i64 0, .int .i64 0, .int .i64 0, .int .i64 0, .int .i64 0, .int .i64 0]]
    (HF0 : ∀ ao cap w, SlAt w (.slice ao (l.length + 1) cap) (l.length + 1) ((l ++ [m]).flatMap Radio.cells) → Calls Try.prog 14 #[.agg #[.int .i64 s.t, .int .i64 s.p.x.lo, .int .i64 s.p.x.hi, .int .i64 s.p.y.lo, .int .i64 s.p.y.hi, .int .i64 s.p.z.lo, .int .i64 s.p.z.hi, .int .i64 s.v.x.lo, .int .i64 s.v.x.hi, .int .i64 s.v.y.lo, .int .i64 s.v.y.hi, .int .i64 s.v.z.lo, .int .i64 s.v.z.hi, .int .i64 s.m.lo, .int .i64 s.m.hi], .slice ao (l.length + 1) cap, .int .i64 1] w fun e w' => e = .returned (.tuple #[.agg #[.int .i64 fs.t, .int .i64 fs.p.x.lo, .int .i64 fs.p.x.hi, .int .i64 fs.p.y.lo, .int .i64 fs.p.y.hi, .int .i64 fs.p.z.lo, .int .i64 fs.p.z.hi, .int .i64 fs.v.x.lo, .int .i64 fs.v.x.hi, .int .i64 fs.v.y.lo, .int .i64 fs.v.y.hi, .int .i64 fs.v.z.lo, .int .i64 fs.v.z.hi, .int .i64 fs.m.lo, .int .i64 fs.m.hi], .int .i64 fn, .int .i64 fe]) ∧ Grew w w')
    (hQp : ∀ c a d v w, Q' (.panic c) (Act.put a (some d) v) w → Q' (.panic c) a w) (u0 u2 u3 u4 u5 u6 u8 u9 u10 u11 u13 u14 u15 u16 u17 u18 u19 u20 u21 u22 u23 u25 u26 u27 u28 u29 u30 u31 u32 u33 u34 u35 u36 u37 u38 u39 u40 u41 u42 u43 u44 u45 u46 u47 u48 u49 u50 u51 u52 u53 u54 u55 u56 u57 u58 u59 u60 u61 u62 u63 u64 u65 u66 u67 u68 u69 u70 u71 u72 u73 u74 u75 u76 u77 u78 u79 u80 u81 u82 u83 u84 u85 u86 u87 u88 u89 u90 u91 u92 u93 u94 u95 u96 u97 u98 u99 u100 u101 u102 u103 u104 u105 u106 u107 u108 u109 u111 u113 u115 u117 u118 u119 u120 u121 u122 u123 u124 u125 u126 u127 u128 u129 u130 u131 u132 u133 u134 u135 u136 u137 u138 u139 u140 u141 u142 u143 u144 u145 u146 u147 u148 u149 u150 u151 u152 u153 u154 u155 u156 u157 u158 u159 u160 u161 u162 u163 u164 u165 u166 u167 u168 u169 u170 u171 u172 u173 u174 u175 u176 u177 u178 u179 u180 u181 u182 : Value)
    (HQ : ∀ (wx : World) (q24 : Nat) (x109 x110 x111 x112 x113 x114 x115 x116 x117 x118 x119 x120 : Value), Grew W wx → RowIs wx q24 45 fs.cells → K { tmps := #[u0, .slice ao l.length cap, u2, u3, u4, u5, u6, .pointer (some ⟨q7, 0, none⟩), u8, u9, u10, u11, .pointer (some ⟨q12, 0, none⟩), u13, u14, u15, u16, u17, u18, u19, u20, u21, u22, u23, .pointer (some ⟨q24, 0, none⟩), .int .i64 fn, .int .i64 fe, u27, u28, u29, u30, u31, u32, u33, u34, u35, u36, u37, u38, u39, u40, u41, u42, u43, u44, u45, u46, u47, u48, u49, u50, u51, u52, u53, u54, u55, u56, u57, u58, u59, u60, u61, u62, u63, u64, u65, u66, u67, u68, u69, u70, u71, u72, u73, u74, u75, u76, u77, u78, u79, u80, u81, u82, u83, u84, u85, u86, u87, u88, u89, u90, u91, u92, u93, u94, u95, u96, u97, u98, u99, u100, u101, u102, u103, u104, u105, u106, u107, u108, x109, x110, x111, x112, x113, x114, x115, x116, x117, x118, x119, x120, u121, u122, u123, u124, u125, u126, u127, u128, u129, u130, u131, u132, u133, u134, u135, u136, u137, u138, u139, u140, u141, u142, u143, u144, u145, u146, u147, u148, u149, u150, u151, u152, u153, u154, u155, u156, u157, u158, u159, u160, u161, u162, u163, u164, u165, u166, u167, u168, u169, u170, u171, u172, u173, u174, u175, u176, u177, u178, u179, u180, u181, u182], defers := [] } wx) :
    wpTail Try.prog .any (regOps (narrowsR13 (Try.f4.body.getD .skip))) (Exit.then K Q') (Grew W) [] 8 #[true, true, true, true, true, true, true, false, false, false, false, false, true, false, false, false] { tmps := #[u0, .slice ao l.length cap, u2, u3, u4, u5, u6, .pointer (some ⟨q7, 0, none⟩), u8, u9, u10, u11, .pointer (some ⟨q12, 0, none⟩), u13, u14, u15, u16, u17, u18, u19, u20, u21, u22, u23, .pointer (some ⟨q24, 0, none⟩), u25, u26, u27, u28, u29, u30, u31, u32, u33, u34, u35, u36, u37, u38, u39, u40, u41, u42, u43, u44, u45, u46, u47, u48, u49, u50, u51, u52, u53, u54, u55, u56, u57, u58, u59, u60, u61, u62, u63, u64, u65, u66, u67, u68, u69, u70, u71, u72, u73, u74, u75, u76, u77, u78, u79, u80, u81, u82, u83, u84, u85, u86, u87, u88, u89, u90, u91, u92, u93, u94, u95, u96, u97, u98, u99, u100, u101, u102, u103, u104, u105, u106, u107, u108, u109, .agg #[.int .i64 s.t, .int .i64 s.p.x.lo, .int .i64 s.p.x.hi, .int .i64 s.p.y.lo, .int .i64 s.p.y.hi, .int .i64 s.p.z.lo, .int .i64 s.p.z.hi, .int .i64 s.v.x.lo, .int .i64 s.v.x.hi, .int .i64 s.v.y.lo, .int .i64 s.v.y.hi, .int .i64 s.v.z.lo, .int .i64 s.v.z.hi, .int .i64 s.m.lo, .int .i64 s.m.hi], u111, .slice ao l.length cap, u113, .agg #[.int .i64 m.kind, .int .i64 m.place.x.lo, .int .i64 m.place.x.hi, .int .i64 m.place.y.lo, .int .i64 m.place.y.hi, .int .i64 m.place.z.lo, .int .i64 m.place.z.hi, .int .i64 m.dir.x.lo, .int .i64 m.dir.x.hi, .int .i64 m.dir.y.lo, .int .i64 m.dir.y.hi, .int .i64 m.dir.z.lo, .int .i64 m.dir.z.hi, .int .i64 m.value.lo, .int .i64 m.value.hi], u115, .slice ao2 (l.length + 1) cap2, u117, u118, u119, u120, u121, u122, u123, u124, u125, u126, u127, u128, u129, u130, u131, u132, u133, u134, u135, u136, u137, u138, u139, u140, u141, u142, u143, u144, u145, u146, u147, u148, u149, u150, u151, u152, u153, u154, u155, u156, u157, u158, u159, u160, u161, u162, u163, u164, u165, u166, u167, u168, u169, u170, u171, u172, u173, u174, u175, u176, u177, u178, u179, u180, u181, u182], defers := [] } wz := by
  have HF := Lib.hid HF0
  have HQ' := Lib.hid HQ
  clear HF0 HQ
  have i24 := r24.blockIn
  obtain ⟨z, rfl⟩ := later_of hg
  clear hg
  have hs2 := hs
  clear hs
  dsimp only [regOps, narrowsR13, fsC, tlC, Try.f4, Option.getD]
  refine wpTail_one 7 (by kernel_rfl) rfl fun K hK => ?_
  go_simp
  refine call_later (HF.out _ _ _ (hs2.grew gw)) ?_
  intro uf
  refine hK.out _ _ (fun _ => gw) ?_
  clear hK K
  try simp only [Act.put, List.setIfInBounds_toArray, List.set_cons_zero, List.set_cons_succ]
  refine wpTail_take 8 [] (v := .tuple #[.agg #[.int .i64 fs.t, .int .i64 fs.p.x.lo, .int .i64 fs.p.x.hi, .int .i64 fs.p.y.lo, .int .i64 fs.p.y.hi, .int .i64 fs.p.z.lo, .int .i64 fs.p.z.hi, .int .i64 fs.v.x.lo, .int .i64 fs.v.x.hi, .int .i64 fs.v.y.lo, .int .i64 fs.v.y.hi, .int .i64 fs.v.z.lo, .int .i64 fs.v.z.hi, .int .i64 fs.m.lo, .int .i64 fs.m.hi], .int .i64 fn, .int .i64 fe]) rfl (by kernel_rfl) (by kernel_rfl) (by kernel_rfl) (by kernel_rfl) (fun c a w h => hQp c a _ _ w h) (by rfl) gw (fun w' hw => ?_) ?_
  · obtain ⟨y, rfl⟩ := later_of hw
    go_simp
  try simp only [Act.put, List.setIfInBounds_toArray, List.set_cons_zero, List.set_cons_succ]
  refine wpTail_take 9 [] (v := .agg #[.int .i64 fs.t, .int .i64 fs.p.x.lo, .int .i64 fs.p.x.hi, .int .i64 fs.p.y.lo, .int .i64 fs.p.y.hi, .int .i64 fs.p.z.lo, .int .i64 fs.p.z.hi, .int .i64 fs.v.x.lo, .int .i64 fs.v.x.hi, .int .i64 fs.v.y.lo, .int .i64 fs.v.y.hi, .int .i64 fs.v.z.lo, .int .i64 fs.v.z.hi, .int .i64 fs.m.lo, .int .i64 fs.m.hi]) rfl (by kernel_rfl) (by kernel_rfl) (by kernel_rfl) (by kernel_rfl) (fun c a w h => hQp c a _ _ w h) (by rfl) gw (fun w' hw => ?_) ?_
  · obtain ⟨y, rfl⟩ := later_of hw
    go_simp
  try simp only [Act.put, List.setIfInBounds_toArray, List.set_cons_zero, List.set_cons_succ]
  refine wpTail_take 10 [] (v := .int .i64 fn) rfl (by kernel_rfl) (by kernel_rfl) (by kernel_rfl) (by kernel_rfl) (fun c a w h => hQp c a _ _ w h) (by rfl) gw (fun w' hw => ?_) ?_
  · obtain ⟨y, rfl⟩ := later_of hw
    go_simp
  try simp only [Act.put, List.setIfInBounds_toArray, List.set_cons_zero, List.set_cons_succ]
  refine wpTail_take 11 [] (v := .int .i64 fe) rfl (by kernel_rfl) (by kernel_rfl) (by kernel_rfl) (by kernel_rfl) (fun c a w h => hQp c a _ _ w h) (by rfl) gw (fun w' hw => ?_) ?_
  · obtain ⟨y, rfl⟩ := later_of hw
    go_simp
  try simp only [Act.put, List.setIfInBounds_toArray, List.set_cons_zero, List.set_cons_succ]
  refine wpTail_one 13 (by kernel_rfl) rfl fun K hK => ?_
  go_simp
  refine hK.out _ _ (fun _ => gw) ?_
  clear hK K
  try simp only [Act.put, List.setIfInBounds_toArray, List.set_cons_zero, List.set_cons_succ]
  refine wpTail_one 14 (by kernel_rfl) rfl fun K hK => ?_
  go_simp
  refine hK.out _ _ (fun _ => gw) ?_
  clear hK K
  try simp only [Act.put, List.setIfInBounds_toArray, List.set_cons_zero, List.set_cons_succ]
  refine wpTail_one 15 (by kernel_rfl) rfl fun K hK => ?_
  go_simp
  refine hK.out _ _ (fun _ => gw) ?_
  clear hK K
  try simp only [Act.put, List.setIfInBounds_toArray, List.set_cons_zero, List.set_cons_succ]
  refine wpTail_done (by kernel_rfl) ?_
  exact HQ'.out _ _ _ _ _ _ _ _ _ _ _ _ _ _  gw (row_cast inferInstance rfl)
theorem narrows_m0 {K : Act → World → Prop} {Q' : Exit → Act → World → Prop} (s fs : State) (m : Radio) (fn fe : Int) (l : List Radio) (q7 q12 cap : Nat) (ao : Option Addr) (W wz : World) (hg : Grew W wz) (ao2 : Option Addr) (cap2 : Nat) (hs : SlAt wz (.slice ao2 (l.length + 1) cap2) (l.length + 1) ((l ++ [m]).flatMap Radio.cells))
    (HF0 : ∀ ao cap w, SlAt w (.slice ao (l.length + 1) cap) (l.length + 1) ((l ++ [m]).flatMap Radio.cells) → Calls Try.prog 14 #[.agg #[.int .i64 s.t, .int .i64 s.p.x.lo, .int .i64 s.p.x.hi, .int .i64 s.p.y.lo, .int .i64 s.p.y.hi, .int .i64 s.p.z.lo, .int .i64 s.p.z.hi, .int .i64 s.v.x.lo, .int .i64 s.v.x.hi, .int .i64 s.v.y.lo, .int .i64 s.v.y.hi, .int .i64 s.v.z.lo, .int .i64 s.v.z.hi, .int .i64 s.m.lo, .int .i64 s.m.hi], .slice ao (l.length + 1) cap, .int .i64 1] w fun e w' => e = .returned (.tuple #[.agg #[.int .i64 fs.t, .int .i64 fs.p.x.lo, .int .i64 fs.p.x.hi, .int .i64 fs.p.y.lo, .int .i64 fs.p.y.hi, .int .i64 fs.p.z.lo, .int .i64 fs.p.z.hi, .int .i64 fs.v.x.lo, .int .i64 fs.v.x.hi, .int .i64 fs.v.y.lo, .int .i64 fs.v.y.hi, .int .i64 fs.v.z.lo, .int .i64 fs.v.z.hi, .int .i64 fs.m.lo, .int .i64 fs.m.hi], .int .i64 fn, .int .i64 fe]) ∧ Grew w w')
    (hQp : ∀ c a d v w, Q' (.panic c) (Act.put a (some d) v) w → Q' (.panic c) a w) (u0 u2 u3 u4 u5 u6 u8 u9 u10 u11 u13 u14 u15 u16 u17 u18 u19 u20 u21 u22 u23 u24 u25 u26 u27 u28 u29 u30 u31 u32 u33 u34 u35 u36 u37 u38 u39 u40 u41 u42 u43 u44 u45 u46 u47 u48 u49 u50 u51 u52 u53 u54 u55 u56 u57 u58 u59 u60 u61 u62 u63 u64 u65 u66 u67 u68 u69 u70 u71 u72 u73 u74 u75 u76 u77 u78 u79 u80 u81 u82 u83 u84 u85 u86 u87 u88 u89 u90 u91 u92 u93 u94 u95 u96 u97 u98 u99 u100 u101 u102 u103 u104 u105 u106 u107 u108 u109 u111 u113 u115 u117 u118 u119 u120 u121 u122 u123 u124 u125 u126 u127 u128 u129 u130 u131 u132 u133 u134 u135 u136 u137 u138 u139 u140 u141 u142 u143 u144 u145 u146 u147 u148 u149 u150 u151 u152 u153 u154 u155 u156 u157 u158 u159 u160 u161 u162 u163 u164 u165 u166 u167 u168 u169 u170 u171 u172 u173 u174 u175 u176 u177 u178 u179 u180 u181 u182 : Value)
    (HQ : ∀ (wx : World) (q24 : Nat) (x109 x110 x111 x112 x113 x114 x115 x116 x117 x118 x119 x120 : Value), Grew W wx → RowIs wx q24 45 fs.cells → K { tmps := #[u0, .slice ao l.length cap, u2, u3, u4, u5, u6, .pointer (some ⟨q7, 0, none⟩), u8, u9, u10, u11, .pointer (some ⟨q12, 0, none⟩), u13, u14, u15, u16, u17, u18, u19, u20, u21, u22, u23, .pointer (some ⟨q24, 0, none⟩), .int .i64 fn, .int .i64 fe, u27, u28, u29, u30, u31, u32, u33, u34, u35, u36, u37, u38, u39, u40, u41, u42, u43, u44, u45, u46, u47, u48, u49, u50, u51, u52, u53, u54, u55, u56, u57, u58, u59, u60, u61, u62, u63, u64, u65, u66, u67, u68, u69, u70, u71, u72, u73, u74, u75, u76, u77, u78, u79, u80, u81, u82, u83, u84, u85, u86, u87, u88, u89, u90, u91, u92, u93, u94, u95, u96, u97, u98, u99, u100, u101, u102, u103, u104, u105, u106, u107, u108, x109, x110, x111, x112, x113, x114, x115, x116, x117, x118, x119, x120, u121, u122, u123, u124, u125, u126, u127, u128, u129, u130, u131, u132, u133, u134, u135, u136, u137, u138, u139, u140, u141, u142, u143, u144, u145, u146, u147, u148, u149, u150, u151, u152, u153, u154, u155, u156, u157, u158, u159, u160, u161, u162, u163, u164, u165, u166, u167, u168, u169, u170, u171, u172, u173, u174, u175, u176, u177, u178, u179, u180, u181, u182], defers := [] } wx) :
    wpTail Try.prog .any (regOps (narrowsR13 (Try.f4.body.getD .skip))) (Exit.then K Q') (Grew W) [] 9 #[true, true, true, true, true, true, true, false, false, false, false, false, false, false, false, false] { tmps := #[u0, .slice ao l.length cap, u2, u3, u4, u5, u6, .pointer (some ⟨q7, 0, none⟩), u8, u9, u10, u11, .pointer (some ⟨q12, 0, none⟩), u13, u14, u15, u16, u17, u18, u19, u20, u21, u22, u23, u24, u25, u26, u27, u28, u29, u30, u31, u32, u33, u34, u35, u36, u37, u38, u39, u40, u41, u42, u43, u44, u45, u46, u47, u48, u49, u50, u51, u52, u53, u54, u55, u56, u57, u58, u59, u60, u61, u62, u63, u64, u65, u66, u67, u68, u69, u70, u71, u72, u73, u74, u75, u76, u77, u78, u79, u80, u81, u82, u83, u84, u85, u86, u87, u88, u89, u90, u91, u92, u93, u94, u95, u96, u97, u98, u99, u100, u101, u102, u103, u104, u105, u106, u107, u108, u109, .agg #[.int .i64 s.t, .int .i64 s.p.x.lo, .int .i64 s.p.x.hi, .int .i64 s.p.y.lo, .int .i64 s.p.y.hi, .int .i64 s.p.z.lo, .int .i64 s.p.z.hi, .int .i64 s.v.x.lo, .int .i64 s.v.x.hi, .int .i64 s.v.y.lo, .int .i64 s.v.y.hi, .int .i64 s.v.z.lo, .int .i64 s.v.z.hi, .int .i64 s.m.lo, .int .i64 s.m.hi], u111, .slice ao l.length cap, u113, .agg #[.int .i64 m.kind, .int .i64 m.place.x.lo, .int .i64 m.place.x.hi, .int .i64 m.place.y.lo, .int .i64 m.place.y.hi, .int .i64 m.place.z.lo, .int .i64 m.place.z.hi, .int .i64 m.dir.x.lo, .int .i64 m.dir.x.hi, .int .i64 m.dir.y.lo, .int .i64 m.dir.y.hi, .int .i64 m.dir.z.lo, .int .i64 m.dir.z.hi, .int .i64 m.value.lo, .int .i64 m.value.hi], u115, .slice ao2 (l.length + 1) cap2, u117, u118, u119, u120, u121, u122, u123, u124, u125, u126, u127, u128, u129, u130, u131, u132, u133, u134, u135, u136, u137, u138, u139, u140, u141, u142, u143, u144, u145, u146, u147, u148, u149, u150, u151, u152, u153, u154, u155, u156, u157, u158, u159, u160, u161, u162, u163, u164, u165, u166, u167, u168, u169, u170, u171, u172, u173, u174, u175, u176, u177, u178, u179, u180, u181, u182], defers := [] } wz := by
  have HM := Lib.hid (fun wy (g : Grew W wy) h q24 (a : NewFor W q24) (b : RowIs wy q24 45 [.int .i64 0, .int .i64 0, .int .i64 0, .int .i64 0, .int .i64 0, .int .i64 0, .int .i64 0, .int .i64 0, .int .i64 0, .int .i64 0, .int .i64 0, .int .i64 0, .int .i64 0, .int .i64 0, .int .i64 0]) => narrows_m12 s fs m fn fe l q7 q12 cap ao W wy g ao2 cap2 h q24 HF0 hQp u0 u2 u3 u4 u5 u6 u8 u9 u10 u11 u13 u14 u15 u16 u17 u18 u19 u20 u21 u22 u23 u25 u26 u27 u28 u29 u30 u31 u32 u33 u34 u35 u36 u37 u38 u39 u40 u41 u42 u43 u44 u45 u46 u47 u48 u49 u50 u51 u52 u53 u54 u55 u56 u57 u58 u59 u60 u61 u62 u63 u64 u65 u66 u67 u68 u69 u70 u71 u72 u73 u74 u75 u76 u77 u78 u79 u80 u81 u82 u83 u84 u85 u86 u87 u88 u89 u90 u91 u92 u93 u94 u95 u96 u97 u98 u99 u100 u101 u102 u103 u104 u105 u106 u107 u108 u109 u111 u113 u115 u117 u118 u119 u120 u121 u122 u123 u124 u125 u126 u127 u128 u129 u130 u131 u132 u133 u134 u135 u136 u137 u138 u139 u140 u141 u142 u143 u144 u145 u146 u147 u148 u149 u150 u151 u152 u153 u154 u155 u156 u157 u158 u159 u160 u161 u162 u163 u164 u165 u166 u167 u168 u169 u170 u171 u172 u173 u174 u175 u176 u177 u178 u179 u180 u181 u182 HQ)
  have HF := Lib.hid HF0
  have HQ' := Lib.hid HQ
  clear HF0 HQ
  obtain ⟨z, rfl⟩ := later_of hg
  clear hg
  have hs2 := hs
  clear hs
  dsimp only [regOps, narrowsR13, fsC, tlC, Try.f4, Option.getD]
  refine wpTail_two 7 12 (by kernel_rfl) rfl rfl (fun K hK => ?_) (fun K hK => ?_)
  · skip
    go_simp
    refine call_later (HF.out _ _ _ (hs2.grew gw)) ?_
    intro uf
    refine hK.out _ _ (fun _ => gw) ?_
    clear hK K
    try simp only [Act.put, List.setIfInBounds_toArray, List.set_cons_zero, List.set_cons_succ]
    refine wpTail_take 8 [] (v := .tuple #[.agg #[.int .i64 fs.t, .int .i64 fs.p.x.lo, .int .i64 fs.p.x.hi, .int .i64 fs.p.y.lo, .int .i64 fs.p.y.hi, .int .i64 fs.p.z.lo, .int .i64 fs.p.z.hi, .int .i64 fs.v.x.lo, .int .i64 fs.v.x.hi, .int .i64 fs.v.y.lo, .int .i64 fs.v.y.hi, .int .i64 fs.v.z.lo, .int .i64 fs.v.z.hi, .int .i64 fs.m.lo, .int .i64 fs.m.hi], .int .i64 fn, .int .i64 fe]) rfl (by kernel_rfl) (by kernel_rfl) (by kernel_rfl) (by kernel_rfl) (fun c a w h => hQp c a _ _ w h) (by rfl) gw (fun w' hw => ?_) ?_
    · obtain ⟨y, rfl⟩ := later_of hw
      go_simp
    try simp only [Act.put, List.setIfInBounds_toArray, List.set_cons_zero, List.set_cons_succ]
    refine wpTail_take 9 [] (v := .agg #[.int .i64 fs.t, .int .i64 fs.p.x.lo, .int .i64 fs.p.x.hi, .int .i64 fs.p.y.lo, .int .i64 fs.p.y.hi, .int .i64 fs.p.z.lo, .int .i64 fs.p.z.hi, .int .i64 fs.v.x.lo, .int .i64 fs.v.x.hi, .int .i64 fs.v.y.lo, .int .i64 fs.v.y.hi, .int .i64 fs.v.z.lo, .int .i64 fs.v.z.hi, .int .i64 fs.m.lo, .int .i64 fs.m.hi]) rfl (by kernel_rfl) (by kernel_rfl) (by kernel_rfl) (by kernel_rfl) (fun c a w h => hQp c a _ _ w h) (by rfl) gw (fun w' hw => ?_) ?_
    · obtain ⟨y, rfl⟩ := later_of hw
      go_simp
    try simp only [Act.put, List.setIfInBounds_toArray, List.set_cons_zero, List.set_cons_succ]
    refine wpTail_take 10 [] (v := .int .i64 fn) rfl (by kernel_rfl) (by kernel_rfl) (by kernel_rfl) (by kernel_rfl) (fun c a w h => hQp c a _ _ w h) (by rfl) gw (fun w' hw => ?_) ?_
    · obtain ⟨y, rfl⟩ := later_of hw
      go_simp
    try simp only [Act.put, List.setIfInBounds_toArray, List.set_cons_zero, List.set_cons_succ]
    refine wpTail_take 11 [] (v := .int .i64 fe) rfl (by kernel_rfl) (by kernel_rfl) (by kernel_rfl) (by kernel_rfl) (fun c a w h => hQp c a _ _ w h) (by rfl) gw (fun w' hw => ?_) ?_
    · obtain ⟨y, rfl⟩ := later_of hw
      go_simp
    try simp only [Act.put, List.setIfInBounds_toArray, List.set_cons_zero, List.set_cons_succ]
    refine wpTail_one 12 (by kernel_rfl) rfl fun K hK => ?_
    go_simp
    refine hK.out _ _ (fun _ => gw) ?_
    clear hK K
    try simp only [Act.put, List.setIfInBounds_toArray, List.set_cons_zero, List.set_cons_succ]
    refine wpTail_one 13 (by kernel_rfl) rfl fun K hK => ?_
    go_simp
    refine hK.out _ _ (fun _ => gw) ?_
    clear hK K
    try simp only [Act.put, List.setIfInBounds_toArray, List.set_cons_zero, List.set_cons_succ]
    refine wpTail_one 14 (by kernel_rfl) rfl fun K hK => ?_
    go_simp
    refine hK.out _ _ (fun _ => gw) ?_
    clear hK K
    try simp only [Act.put, List.setIfInBounds_toArray, List.set_cons_zero, List.set_cons_succ]
    refine wpTail_one 15 (by kernel_rfl) rfl fun K hK => ?_
    go_simp
    refine hK.out _ _ (fun _ => gw) ?_
    clear hK K
    try simp only [Act.put, List.setIfInBounds_toArray, List.set_cons_zero, List.set_cons_succ]
    refine wpTail_done (by kernel_rfl) ?_
    exact HQ'.out _ _ _ _ _ _ _ _ _ _ _ _ _ _  gw (row_cast inferInstance rfl)
  · skip
    go_simp
    refine hK.out _ _ (fun _ => gw) ?_
    clear hK K
    try simp only [Act.put, List.setIfInBounds_toArray, List.set_cons_zero, List.set_cons_succ]
    refine wpTail_at #[true, true, true, true, true, true, true, false, false, false, false, false, true, false, false, false] (by kernel_rfl) ?_
    exact HM.out _ gw (hs2.grew gw) _ inferInstance (row_cast inferInstance rfl)
end Go.Proofs.Ytehllellaecfbaa
namespace Go.Proofs.Ytehllellaecfbaa
open Go.RowKit Go.Shelf
set_option maxRecDepth 100000
set_option maxHeartbeats 16000000
theorem narrows_c (s t ps qs : State) (pn pe qn qe n : Int) (l : List Radio) (q12 cap : Nat) (ao : Option Addr) (w0 w : World) (hw : Grew w0 w) (r12 : RowIs w q12 45 s.cells) (r13 : RowIs w (q12 + 1) 45 t.cells)
    (HP0 : ∀ w', Grew w w' → Calls Try.prog 14 #[.agg t.cells.toArray, .slice ao l.length cap, .int .i64 n] w' (fun e w'' => e = .returned (.tuple #[.agg ps.cells.toArray, .int .i64 pn, .int .i64 pe]) ∧ Grew w' w''))
    (HQ0 : ∀ w', Grew w w' → Calls Try.prog 14 #[.agg s.cells.toArray, .slice ao l.length cap, .int .i64 n] w' (fun e w'' => e = .returned (.tuple #[.agg qs.cells.toArray, .int .i64 qn, .int .i64 qe]) ∧ Grew w' w''))
    (h1 : qe = 7 → pe = 7) (h2 : pe = 0 → qe = 0 → ∀ w, Calls Try.prog 15 #[.agg #[.int .i64 ps.t, .int .i64 ps.p.x.lo, .int .i64 ps.p.x.hi, .int .i64 ps.p.y.lo, .int .i64 ps.p.y.hi, .int .i64 ps.p.z.lo, .int .i64 ps.p.z.hi, .int .i64 ps.v.x.lo, .int .i64 ps.v.x.hi, .int .i64 ps.v.y.lo, .int .i64 ps.v.y.hi, .int .i64 ps.v.z.lo, .int .i64 ps.v.z.hi, .int .i64 ps.m.lo, .int .i64 ps.m.hi], .agg #[.int .i64 qs.t, .int .i64 qs.p.x.lo, .int .i64 qs.p.x.hi, .int .i64 qs.p.y.lo, .int .i64 qs.p.y.hi, .int .i64 qs.p.z.lo, .int .i64 qs.p.z.hi, .int .i64 qs.v.x.lo, .int .i64 qs.v.x.hi, .int .i64 qs.v.y.lo, .int .i64 qs.v.y.hi, .int .i64 qs.v.z.lo, .int .i64 qs.v.z.hi, .int .i64 qs.m.lo, .int .i64 qs.m.hi]] w fun e w' => e = .returned (.bool true) ∧ Grew w w') (u0 u2 u3 u4 u5 u6 u7 u8 u9 u10 u15 u16 u17 u18 u19 u20 u21 u22 u23 u24 u25 u26 u27 u28 u29 u30 u31 u32 u33 u34 u35 u36 u37 u38 u39 u40 u41 u42 u43 u44 u45 u46 u47 u48 u49 u50 u51 u52 u53 u54 u55 u56 u57 u58 u59 u60 u61 u62 u63 u64 u65 u66 u67 u68 u69 u70 u71 u72 u73 u74 u75 u76 u77 u78 u79 u80 u81 u82 u83 u84 u85 u86 u87 u88 u89 u90 u91 u92 u93 u94 u95 u96 u97 u98 u99 u100 u101 u102 u103 u104 u105 u106 u107 u108 u109 u110 u111 u112 u113 u114 u115 u116 u117 u118 u119 u120 u121 u122 u123 u124 u125 u126 u127 u128 u129 u130 u131 u132 u133 u134 u135 u136 u137 u138 u139 u140 u141 u142 u143 u144 u145 u146 u147 u148 u149 u150 u151 u152 u153 u154 u155 u156 u157 u158 u159 u160 u161 u162 u163 u164 u165 u166 u167 u168 u169 u170 u171 u172 u173 u174 u175 u176 u177 u178 u179 u180 u181 u182 : Value) :
    (tlC (tlC (tlC (tlC (tlC (tlC (tlC (tlC (tlC (tlC (tlC (tlC (Try.f4.body.getD .skip))))))))))))).wp Try.prog (bodyPost Try.prog Try.f4 (fun e w' => e = .returned (.bool true) ∧ Grew w0 w')) { tmps := #[u0, .slice ao l.length cap, u2, u3, u4, u5, u6, u7, u8, u9, u10, .bool true, .pointer (some ⟨q12, 0, none⟩), .pointer (some ⟨(q12 + 1), 0, none⟩), .int .i64 n, u15, u16, u17, u18, u19, u20, u21, u22, u23, u24, u25, u26, u27, u28, u29, u30, u31, u32, u33, u34, u35, u36, u37, u38, u39, u40, u41, u42, u43, u44, u45, u46, u47, u48, u49, u50, u51, u52, u53, u54, u55, u56, u57, u58, u59, u60, u61, u62, u63, u64, u65, u66, u67, u68, u69, u70, u71, u72, u73, u74, u75, u76, u77, u78, u79, u80, u81, u82, u83, u84, u85, u86, u87, u88, u89, u90, u91, u92, u93, u94, u95, u96, u97, u98, u99, u100, u101, u102, u103, u104, u105, u106, u107, u108, u109, u110, u111, u112, u113, u114, u115, u116, u117, u118, u119, u120, u121, u122, u123, u124, u125, u126, u127, u128, u129, u130, u131, u132, u133, u134, u135, u136, u137, u138, u139, u140, u141, u142, u143, u144, u145, u146, u147, u148, u149, u150, u151, u152, u153, u154, u155, u156, u157, u158, u159, u160, u161, u162, u163, u164, u165, u166, u167, u168, u169, u170, u171, u172, u173, u174, u175, u176, u177, u178, u179, u180, u181, u182], defers := [] } w := by
  have HP := Lib.hid HP0
  have HQ := Lib.hid HQ0
  clear HP0 HQ0
  obtain ⟨z, rfl⟩ := later_of hw
  clear hw
  have i12 := r12.blockIn
  have i13 := r13.blockIn
  conv => arg 2; dsimp only [tlC, Try.f4, Option.getD]
  by_cases c1 : qe = 7
  · obtain rfl := h1 c1
    subst c1
    clear h1 h2
    go_wp2_with (first | (go_at_call 14; (with_reducible refine call_later (HP.out _ gw) ?_); intro u1) | (go_at_call 14; (with_reducible refine call_later (HQ.out _ gw) ?_); intro u2) | ((with_reducible refine wpList_load_rng ?_ ?_ ?_ ?_ ?_ ?_ ?_ ?_ ?_ ?_ ?_ ?_); rotate_left 6; (· rfl); (· rfl); (· rfl); (· infer_instance); (· infer_instance)) | ((with_reducible refine wpList_load_is ?_ ?_ ?_ ?_ ?_ ?_ ?_ ?_ ?_ ?_ ?_ ?_ ?_); rotate_left 6; (· rfl); (· rfl); (· rfl); (· infer_instance); (· infer_instance); (· rfl)) | ((with_reducible refine wpList_store_fresh ?_ ?_ ?_ ?_ ?_ ?_ ?_ ?_ ?_ ?_ ?_ ?_ ?_ ?_ ?_ ?_ ?_); rotate_left 5; (· rfl); (· rfl); (· rfl); (· rfl); (· rfl); (· infer_instance); (· infer_instance); (· infer_instance); (· infer_instance)) | ((with_reducible refine wpList_store_is ?_ ?_ ?_ ?_ ?_ ?_ ?_ ?_ ?_ ?_ ?_ ?_ ?_ ?_ ?_ ?_ ?_); rotate_left 7; (· rfl); (· rfl); (· rfl); (· rfl); (· rfl); (· infer_instance); (· infer_instance); (· infer_instance); (· infer_instance)))
    go_ret
    exact ⟨rfl, gw⟩
  have t1 : (qe != 7) = true := by simp [c1]
  by_cases c2 : pe = 0
  · by_cases c3 : qe = 0
    · have HW := Lib.hid (h2 c2 c3)
      subst c2 c3
      clear h1 h2
      go_wp2_with (first | (go_at_call 14; (with_reducible refine call_later (HP.out _ gw) ?_); intro u1) | (go_at_call 14; (with_reducible refine call_later (HQ.out _ gw) ?_); intro u2) | (go_at_call 15; (with_reducible refine call_later (HW.out _) ?_); intro u3) | ((with_reducible refine wpList_load_rng ?_ ?_ ?_ ?_ ?_ ?_ ?_ ?_ ?_ ?_ ?_ ?_); rotate_left 6; (· rfl); (· rfl); (· rfl); (· infer_instance); (· infer_instance)) | ((with_reducible refine wpList_load_is ?_ ?_ ?_ ?_ ?_ ?_ ?_ ?_ ?_ ?_ ?_ ?_ ?_); rotate_left 6; (· rfl); (· rfl); (· rfl); (· infer_instance); (· infer_instance); (· rfl)) | ((with_reducible refine wpList_store_fresh ?_ ?_ ?_ ?_ ?_ ?_ ?_ ?_ ?_ ?_ ?_ ?_ ?_ ?_ ?_ ?_ ?_); rotate_left 5; (· rfl); (· rfl); (· rfl); (· rfl); (· rfl); (· infer_instance); (· infer_instance); (· infer_instance); (· infer_instance)) | ((with_reducible refine wpList_store_is ?_ ?_ ?_ ?_ ?_ ?_ ?_ ?_ ?_ ?_ ?_ ?_ ?_ ?_ ?_ ?_ ?_); rotate_left 7; (· rfl); (· rfl); (· rfl); (· rfl); (· rfl); (· infer_instance); (· infer_instance); (· infer_instance); (· infer_instance)))
      go_ret
      exact ⟨rfl, gw⟩
    · have t2 : (qe != 0) = true := by simp [c3]
      subst c2
      clear h1 h2
      go_wp2_with (first | (go_at_call 14; (with_reducible refine call_later (HP.out _ gw) ?_); intro u1) | (go_at_call 14; (with_reducible refine call_later (HQ.out _ gw) ?_); intro u2) | ((with_reducible refine wpList_load_rng ?_ ?_ ?_ ?_ ?_ ?_ ?_ ?_ ?_ ?_ ?_ ?_); rotate_left 6; (· rfl); (· rfl); (· rfl); (· infer_instance); (· infer_instance)) | ((with_reducible refine wpList_load_is ?_ ?_ ?_ ?_ ?_ ?_ ?_ ?_ ?_ ?_ ?_ ?_ ?_); rotate_left 6; (· rfl); (· rfl); (· rfl); (· infer_instance); (· infer_instance); (· rfl)) | ((with_reducible refine wpList_store_fresh ?_ ?_ ?_ ?_ ?_ ?_ ?_ ?_ ?_ ?_ ?_ ?_ ?_ ?_ ?_ ?_ ?_); rotate_left 5; (· rfl); (· rfl); (· rfl); (· rfl); (· rfl); (· infer_instance); (· infer_instance); (· infer_instance); (· infer_instance)) | ((with_reducible refine wpList_store_is ?_ ?_ ?_ ?_ ?_ ?_ ?_ ?_ ?_ ?_ ?_ ?_ ?_ ?_ ?_ ?_ ?_); rotate_left 7; (· rfl); (· rfl); (· rfl); (· rfl); (· rfl); (· infer_instance); (· infer_instance); (· infer_instance); (· infer_instance)))
      go_ret
      exact ⟨rfl, gw⟩
  · have t2 : (pe != 0) = true := by simp [c2]
    clear h1 h2
    go_wp2_with (first | (go_at_call 14; (with_reducible refine call_later (HP.out _ gw) ?_); intro u1) | (go_at_call 14; (with_reducible refine call_later (HQ.out _ gw) ?_); intro u2) | ((with_reducible refine wpList_load_rng ?_ ?_ ?_ ?_ ?_ ?_ ?_ ?_ ?_ ?_ ?_ ?_); rotate_left 6; (· rfl); (· rfl); (· rfl); (· infer_instance); (· infer_instance)) | ((with_reducible refine wpList_load_is ?_ ?_ ?_ ?_ ?_ ?_ ?_ ?_ ?_ ?_ ?_ ?_ ?_); rotate_left 6; (· rfl); (· rfl); (· rfl); (· infer_instance); (· infer_instance); (· rfl)) | ((with_reducible refine wpList_store_fresh ?_ ?_ ?_ ?_ ?_ ?_ ?_ ?_ ?_ ?_ ?_ ?_ ?_ ?_ ?_ ?_ ?_); rotate_left 5; (· rfl); (· rfl); (· rfl); (· rfl); (· rfl); (· infer_instance); (· infer_instance); (· infer_instance); (· infer_instance)) | ((with_reducible refine wpList_store_is ?_ ?_ ?_ ?_ ?_ ?_ ?_ ?_ ?_ ?_ ?_ ?_ ?_ ?_ ?_ ?_ ?_); rotate_left 7; (· rfl); (· rfl); (· rfl); (· rfl); (· rfl); (· infer_instance); (· infer_instance); (· infer_instance); (· infer_instance)))
    go_ret
    exact ⟨rfl, gw⟩
end Go.Proofs.Ytehllellaecfbaa
