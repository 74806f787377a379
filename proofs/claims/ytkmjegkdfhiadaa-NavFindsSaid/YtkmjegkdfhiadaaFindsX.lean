/-
  A drawn region whose last operations (a tail) write what its loads read: what is held must be held before the tail alone.
  Plain law of NavFinds: a wrong measurement among those that are heard of a true state is among the suspects.
  nav.Suspects where it asks nothing: an argument is not valid; the rounds do not fail.
  nav.Suspects where the rounds fail: its loop.
  The heard slice's capacity.
  NavFinds: laws of append at a step of a region that draws its order; parts of a slice; the suspects as a list.
-/
import Derived.Test.YtkmjegkdfhiadaaCore
import Derived.Deep.RegionHeld3
import Derived.Test.YtkmjegkdfhiadaaNavTruly
import Derived.Test.YtkmjegkdfhiadaaFuseNav
import Derived.Test.YtkmjegkdfhiadaaRow
import Derived.Test.YtkmjegkdfhiadaaNavOuts
import Derived.Test.YtkmjegkdfhiadaaEvers
import Derived.Deep.DeepCutAuto
import Derived.Deep.CutBlock
import Derived.Deep.AppendLies
namespace Go.Proofs.Ytkmjegkdfhiadaa
section
variable {P : Program} {ops : Array Oper} {Q : Exit → Act → World → Prop} {md : Region.Mode} {S : World → Prop} {T : List Nat}
/-- Whatever comes up; S is held behind all that is not of the tail T. -/
def wpTail (P : Program) (md : Region.Mode) (ops : Array Oper) (Q : Exit → Act → World → Prop) (S : World → Prop) (T : List Nat) : Nat → Array Bool → Act → World → Prop
  | 0, listed, a, w => Region.ready md ops listed = [] ∧ Q .normal a w
  | n + 1, listed, a, w => (Region.ready md ops listed = [] → Q .normal a w) ∧
    ∀ i ∈ Region.ready md ops listed, wpOp P ops Q i (fun a' w' => (T.contains i = false → S w') ∧ wpTail P md ops Q S T n (listed.setIfInBounds i true) a' w') a w
theorem wpAny_tail : ∀ (n : Nat) (listed : Array Bool) (a : Act) (w : World), wpTail P md ops Q S T n listed a w → wpAny P md ops Q n listed a w
  | 0, _, _, _, h => h
  | n + 1, _, _, _, h => ⟨h.1, fun i hi => wpOp_mono (fun a' w' k => wpAny_tail n _ a' w' k.2) (h.2 i hi)⟩
/-- Operation j waits for operation g. -/
def waits (md : Region.Mode) (ops : Array Oper) (j g : Nat) : Bool := ((ops[j]?).map fun o => o.after.any fun e => Region.binds md e && e.on == g).getD false
theorem not_waits {listed : Array Bool} {i j : Nat} (hi : listed.getD i true = false) (hj : j ∈ Region.ready md ops listed) {o : Oper} (ho : ops[j]? = some o) : ∀ e ∈ o.after, Region.binds md e = true → e.on ≠ i := fun e he hb heq => by
  obtain ⟨-, o', ho', hall⟩ := mem_ready.1 hj
  obtain rfl : o = o' := by rw [ho] at ho'; exact Option.some.inj ho'
  have h1 := hall e he hb
  rw [heq] at h1
  rcases Nat.lt_or_ge i listed.size with h | h
  · simp [h] at hi h1
    rw [hi] at h1
    cases h1
  · simp [Array.getElem?_eq_none h] at h1
theorem not_ready {listed : Array Bool} {i j : Nat} (hi : listed.getD i true = false) (hw : waits md ops j i = true) : j ∉ Region.ready md ops listed := fun hj => by
  obtain ⟨-, o, ho, -⟩ := mem_ready.1 hj
  simp only [waits, ho, Option.map_some, Option.getD_some, Array.any_eq_true'] at hw
  obtain ⟨e, he, hb⟩ := hw
  simp only [Bool.and_eq_true, beq_iff_eq] at hb
  exact not_waits hi hj ho e he hb.1 hb.2
/-- What yields in every world that meets S may be taken first, where what is of the tail waits for it, or for a gate, and so do the gates. -/
theorem wpTail_first {i : Nat} {G : List Nat} {oi : Oper} {v : Value} (hi : ops[i]? = some oi) (hsel : ∀ (j : Nat) (o : Oper) cs b, ops[j]? = some o → o.op ≠ .select cs b)
    (hQ : ∀ c a w, Q (.panic c) (a.put oi.dst v) w → Q (.panic c) a w) (hG : ∀ j ∈ G, ∃ h ∈ i :: G, waits md ops j h = true) (hT : ∀ j, T.contains j = true → ∃ h ∈ i :: G, waits md ops j h = true) :
    ∀ (n : Nat) (listed : Array Bool) (a : Act) (w : World),
      (∀ j oj, ops[j]? = some oj → j ≠ i → listed.getD j true = false → (∀ e ∈ oj.after, Region.binds md e = true → e.on ≠ i) → oi.apart ops oj = true) →
      i ∈ Region.ready md ops listed → (∀ g ∈ G, listed.getD g true = false) → YieldsIf P ops S oi v a → S w →
      wpTail P md ops Q S T n (listed.setIfInBounds i true) (a.put oi.dst v) w → wpTail P md ops Q S T (n + 1) listed a w
  | 0, listed, a, w, _, hr, _, hy, hS, H => ⟨fun h => (by rw [h] at hr; cases hr), fun j hj => by
      by_cases hji : j = i
      · subst hji
        exact hy.wpOp hi hS ⟨fun _ => hS, H⟩
      · have := ready_mono hj hji
        rw [H.1] at this
        cases this⟩
  | n + 1, listed, a, w, hfree, hr, hgl, hy, hS, H => ⟨fun h => (by rw [h] at hr; cases hr), fun j hj => by
      by_cases hji : j = i
      · subst hji
        exact hy.wpOp hi hS ⟨fun _ => hS, H⟩
      have hil := (mem_ready.1 hr).1
      have hall : ∀ h ∈ i :: G, listed.getD h true = false := fun h hh => by
        rcases List.mem_cons.1 hh with rfl | hh
        · exact hil
        · exact hgl h hh
      have hjG : j ∉ G := fun hm => by
        obtain ⟨h, hh, hw⟩ := hG j hm
        exact not_ready (hall h hh) hw hj
      have hjT : T.contains j = false := by
        cases hc : T.contains j
        · rfl
        · obtain ⟨h, hh, hw⟩ := hT j hc
          exact absurd hj (not_ready (hall h hh) hw)
      obtain ⟨hjl, oj, hoj, -⟩ := mem_ready.1 hj
      have h2 := wpOp_putIf hoj (hfree j oj hoj hji hjl (not_waits hil hj hoj)) (fun cs b => hsel i oi cs b hi) (fun cs b => hsel j oj cs b hoj) hQ hy (H.2 j (ready_mono hj hji))
      refine wpOp_mono (fun a' w' k => ⟨k.2.1, wpTail_first hi hsel hQ hG hT n (listed.setIfInBounds j true) a' w' ?_ (ready_mono hr (Ne.symm hji)) ?_ k.1 (k.2.1 hjT) ?_⟩) h2
      · intro m om hom hmi hml hno
        refine hfree m om hom hmi ?_ hno
        by_cases hjm : j = m
        · exact hjm ▸ hjl
        · rwa [getD_set_ne true hjm] at hml
      · intro g hg
        rw [getD_set_ne true (fun e : j = g => hjG (by rw [e]; exact hg))]
        exact hgl g hg
      · rw [Array.setIfInBounds_comm _ _ hji]
        exact k.2.2⟩
theorem wpTail_take (i : Nat) (G : List Nat) {oi : Oper} {v : Value} {n : Nat} {listed : Array Bool} {a : Act} {w : World} (hi : ops[i]? = some oi) (hs : Region.noSelect ops = true) (hf : Region.free md ops listed i = true) (hr : (Region.ready md ops listed).contains i = true)
    (hg : ((G ++ T).all (fun j => (i :: G).any (waits md ops j)) && G.all fun g => !listed.getD g true) = true) (hQ : ∀ c a w, Q (.panic c) (a.put oi.dst v) w → Q (.panic c) a w) (hw : Region.wanted oi (yielded ops a.tmps) = true) (hS : S w) (hy : ∀ w, S w → (execOp a.eval oi).run P w = .ok (.value v) w)
    (h : wpTail P md ops Q S T n (listed.setIfInBounds i true) (a.put oi.dst v) w) : wpTail P md ops Q S T (n + 1) listed a w := by
  obtain ⟨h1, h2⟩ := Bool.and_eq_true_iff.1 hg
  have h3 : ∀ j, j ∈ G ++ T → ∃ h ∈ i :: G, waits md ops j h = true := fun j hj => List.any_eq_true.1 (List.all_eq_true.1 h1 j hj)
  exact wpTail_first (G := G) hi (Region.noSelect_spec hs) hQ (fun j hj => h3 j (List.mem_append_left _ hj)) (fun j hj => h3 j (List.mem_append_right _ (by simpa using hj))) n listed a w (Region.free_spec hi hf) (by simpa using hr) (fun g hg => by simpa using List.all_eq_true.1 h2 g hg) (.inl ⟨hw, hy⟩) hS h
/-- How the walk comes back behind an operation. -/
structure Back (P : Program) (md : Region.Mode) (ops : Array Oper) (Q : Exit → Act → World → Prop) (S : World → Prop) (T : List Nat) (n : Nat) (listed : Array Bool) (i : Nat) (K : Act → World → Prop) : Prop where
  out : ∀ a w, (T.contains i = false → S w) → wpTail P md ops Q S T n (listed.setIfInBounds i true) a w → K a w
theorem wpTail_step {i : Nat} {o : Oper} {n : Nat} {listed : Array Bool} {a : Act} {w : World} (ho : ops[i]? = some o)
    (h : ∀ K, Back P md ops Q S T n listed i K → if Region.wanted o (yielded ops a.tmps) = true then Oper.wp P o a w K Q else K (a.put o.dst undef) w) : wpOp P ops Q i (fun a' w' => (T.contains i = false → S w') ∧ wpTail P md ops Q S T n (listed.setIfInBounds i true) a' w') a w :=
  wpOp_step ho fun K hK => h K ⟨fun a w h1 h2 => hK a w ⟨h1, h2⟩⟩
theorem wpTail_one (i : Nat) {o : Oper} {n : Nat} {listed : Array Bool} {a : Act} {w : World} (hr : Region.ready md ops listed = [i]) (ho : ops[i]? = some o)
    (h : ∀ K, Back P md ops Q S T n listed i K → if Region.wanted o (yielded ops a.tmps) = true then Oper.wp P o a w K Q else K (a.put o.dst undef) w) : wpTail P md ops Q S T (n + 1) listed a w :=
  ⟨fun h0 => (by rw [hr] at h0; cases h0), fun j hj => by
    rw [hr] at hj
    obtain rfl := List.mem_singleton.1 hj
    exact wpTail_step ho h⟩
theorem wpTail_two (i j : Nat) {o p : Oper} {n : Nat} {listed : Array Bool} {a : Act} {w : World} (hr : Region.ready md ops listed = [i, j]) (ho : ops[i]? = some o) (hp : ops[j]? = some p)
    (h : ∀ K, Back P md ops Q S T n listed i K → if Region.wanted o (yielded ops a.tmps) = true then Oper.wp P o a w K Q else K (a.put o.dst undef) w)
    (h' : ∀ K, Back P md ops Q S T n listed j K → if Region.wanted p (yielded ops a.tmps) = true then Oper.wp P p a w K Q else K (a.put p.dst undef) w) : wpTail P md ops Q S T (n + 1) listed a w :=
  ⟨fun h0 => (by rw [hr] at h0; cases h0), fun k hk => by
    rw [hr] at hk
    rcases List.mem_cons.1 hk with rfl | hk
    · exact wpTail_step ho h
    · obtain rfl := List.mem_singleton.1 hk
      exact wpTail_step hp h'⟩
theorem wpTail_done {n : Nat} {listed : Array Bool} {a : Act} {w : World} (hr : Region.ready md ops listed = []) (h : Q .normal a w) : wpTail P md ops Q S T n listed a w := by
  cases n
  · exact ⟨hr, h⟩
  · exact ⟨fun _ => h, by rw [hr]; exact fun i hi => by cases hi⟩
theorem wp_region_tail (S : World → Prop) (T : List Nat) {id : Nat} {a : Act} {w : World} (hm : P.follows .mixedOrders = true)
    (h : wpTail P .any ops Q S T ops.size (Array.replicate ops.size false) a w.drew) : (Code.region id ops true).wp P Q a w :=
  wp_region_any hm (wpAny_tail _ _ _ _ h)
end
end Go.Proofs.Ytkmjegkdfhiadaa
namespace Go.Proofs.Ytkmjegkdfhiadaa
set_option maxRecDepth 100000
/-- All but one. -/
def butK (k j : Nat) : Bool := decide (j ≠ k)
/-- The suspects: without whom the rounds do not fail. -/
noncomputable def susR (s : State) (l : List Radio) (n : Int) : List Nat := (List.range l.length).filter fun i => decide ((fuseR (butK i) l n.toNat 0 s).e = 0)
theorem sus_asc (s : State) (l : List Radio) (n : Int) : (susR s l n).Pairwise (· < ·) := List.Pairwise.filter _ List.pairwise_lt_range
theorem sus_mem {s : State} {l : List Radio} {n : Int} {k : Nat} (h : k < l.length) (he : (fuseR (butK k) l n.toNat 0 s).e = 0) : k ∈ susR s l n := List.mem_filter.2 ⟨List.mem_range.2 h, by simp [he]⟩
/-- A wrong one among those that are heard. -/
theorem finds_one {s t : State} {u v : V3} (ha : About s t u v) {L : List Radio} (hL : ∀ m ∈ L, Heard t m) (bad : Radio) {k : Nat} (hk : k ≤ L.length) (n : Int) : k ∈ susR s (L.take k ++ bad :: L.drop k) n := by
  have hlen : (L.take k).length = k := by rw [List.length_take]; omega
  refine sus_mem (by rw [List.length_append, hlen, List.length_cons]; omega) ?_
  refine (fuse_true ha (butK k) _ (fun j hj hb => ?_) n.toNat 0).1
  have hjk : j ≠ k := of_decide_eq_true hb
  refine hL _ ?_
  rcases Nat.lt_or_gt_of_ne hjk with h | h
  · rw [List.getElem_append_left (by rw [hlen]; exact h)]
    exact List.mem_of_mem_take (List.getElem_mem _)
  · rw [List.getElem_append_right (by rw [hlen]; omega)]
    obtain ⟨i, hi⟩ : ∃ i, j - (L.take k).length = i + 1 := ⟨j - k - 1, by rw [hlen]; omega⟩
    have e : ∀ (a b : Nat) (ha : a < (bad :: L.drop k).length), a = b + 1 → (bad :: L.drop k)[a] ∈ L := fun a b ha h => by
      subst h
      rw [List.getElem_cons_succ]
      exact List.mem_of_mem_drop (List.getElem_mem _)
    exact e _ i _ hi
end Go.Proofs.Ytkmjegkdfhiadaa
namespace Go.Proofs.Ytkmjegkdfhiadaa
open Go.RowKit Go.Shelf
set_option maxRecDepth 100000
set_option maxHeartbeats 8000000
theorem navSusp_bad (s : State) (l : List Radio) (n : Int) (ao : Option Addr) (cap : Nat) (w : World) (hs : SlAt w (.slice ao l.length cap) l.length (l.flatMap Radio.cells)) (hE : fuseE s l n ≠ 0) :
    Calls Try.prog 12 #[.agg s.cells.toArray, .slice ao l.length cap, .int .i64 n] w fun e w' => e = .returned (.tuple #[.slice none 0 0, .int .i64 (fuseE s l n)]) ∧ Grew w w' := by
  have HC := Lib.hid (fun w' (g : Grew w w') => show Calls Try.prog 27 #[.agg s.cells.toArray, .slice ao l.length cap, .int .i64 n] w' (fun e w'' => e = .returned (.int .i64 (fuseE s l n)) ∧ Grew w' w'') from navCheck_any s l n ao cap w' (hs.grew g))
  have t0 : (fuseE s l n != 0) = true := by simp [hE]
  clear hE hs
  generalize fuseE s l n = E at *
  go_enter Try.func12, Try.ntmps12
  go_wp2_with (first | (go_at_call 27; (with_reducible refine call_later (HC.out _ gw) ?_); intro u) | ((with_reducible refine wpList_load_rng ?_ ?_ ?_ ?_ ?_ ?_ ?_ ?_ ?_ ?_ ?_ ?_); rotate_left 6; (· rfl); (· rfl); (· rfl); (· infer_instance); (· infer_instance)) | ((with_reducible refine wpList_load_is ?_ ?_ ?_ ?_ ?_ ?_ ?_ ?_ ?_ ?_ ?_ ?_ ?_); rotate_left 6; (· rfl); (· rfl); (· rfl); (· infer_instance); (· infer_instance); (· rfl)) | ((with_reducible refine wpList_store_fresh ?_ ?_ ?_ ?_ ?_ ?_ ?_ ?_ ?_ ?_ ?_ ?_ ?_ ?_ ?_ ?_ ?_); rotate_left 5; (· rfl); (· rfl); (· rfl); (· rfl); (· rfl); (· infer_instance); (· infer_instance); (· infer_instance); (· infer_instance)) | ((with_reducible refine wpList_store_is ?_ ?_ ?_ ?_ ?_ ?_ ?_ ?_ ?_ ?_ ?_ ?_ ?_ ?_ ?_ ?_ ?_); rotate_left 7; (· rfl); (· rfl); (· rfl); (· rfl); (· rfl); (· infer_instance); (· infer_instance); (· infer_instance); (· infer_instance)) | ((with_reducible refine wp_region_later ?_ ?_ ?_); (· kernel_rfl); (· kernel_rfl); (try simp only [List.append_eq, List.cons_append, List.nil_append]); (repeat (go_big_quiet_step ((first | (go_at_call 27; (with_reducible exact call_quiet (HC.out _ gw))))))); refine wpQuiet_nil ?_; rintro _ ⟨u, rfl⟩))
  go_ret2
  exact ⟨rfl, gw⟩
theorem navSusp_none (s : State) (l : List Radio) (n : Int) [hp : Pv64 s] (hT : ∀ m ∈ l, Ra64 m) (ao : Option Addr) (cap : Nat) (w : World) (hs : SlAt w (.slice ao l.length cap) l.length (l.flatMap Radio.cells)) (hE : fuseE s l n = 0) (h0 : (fuseR allKept l n.toNat 0 s).e = 0) :
    Calls Try.prog 12 #[.agg s.cells.toArray, .slice ao l.length cap, .int .i64 n] w fun e w' => e = .returned (.tuple #[.slice none 0 0, .int .i64 0]) ∧ Grew w w' := by
  obtain ⟨v1, v2, v3, v4⟩ := fuse_valid hE
  have HC := Lib.hid (fun w' (g : Grew w w') => show Calls Try.prog 27 #[.agg s.cells.toArray, .slice ao l.length cap, .int .i64 n] w' (fun e w'' => e = .returned (.int .i64 0) ∧ Grew w' w'') from is_int hE (navCheck_any s l n ao cap w' (hs.grew g)))
  have HF := Lib.hid (fun w' (g : Grew w w') => show Calls Try.prog 28 #[.agg s.cells.toArray, .slice ao l.length cap, .int .i64 n, .int .i64 0] w' (fun e w'' => e = .returned (.tuple #[.agg (fuseR allKept l n.toNat 0 s).s.cells.toArray, .int .i64 (fuseR allKept l n.toNat 0 s).n, .bool true]) ∧ Grew w' w'') from by
    have := navFuse_any s l n 0 hT v4 v2 v3 v1 ao cap w' (hs.grew g)
    rw [keepG_zero] at this
    unfold RetF at this
    rw [decide_eq_true h0] at this
    exact this)
  clear hE h0 hs v1 v2 v3 v4
  generalize fuseR allKept l n.toNat 0 s = r at *
  go_enter Try.func12, Try.ntmps12
  go_wp2_with (first | (go_at_call 27; (with_reducible refine call_later (HC.out _ gw) ?_); intro u) | (go_at_call 28; (with_reducible refine call_later (HF.out _ gw) ?_); intro u) | ((with_reducible refine wpList_load_rng ?_ ?_ ?_ ?_ ?_ ?_ ?_ ?_ ?_ ?_ ?_ ?_); rotate_left 6; (· rfl); (· rfl); (· rfl); (· infer_instance); (· infer_instance)) | ((with_reducible refine wpList_load_is ?_ ?_ ?_ ?_ ?_ ?_ ?_ ?_ ?_ ?_ ?_ ?_ ?_); rotate_left 6; (· rfl); (· rfl); (· rfl); (· infer_instance); (· infer_instance); (· rfl)) | ((with_reducible refine wpList_store_fresh ?_ ?_ ?_ ?_ ?_ ?_ ?_ ?_ ?_ ?_ ?_ ?_ ?_ ?_ ?_ ?_ ?_); rotate_left 5; (· rfl); (· rfl); (· rfl); (· rfl); (· rfl); (· infer_instance); (· infer_instance); (· infer_instance); (· infer_instance)) | ((with_reducible refine wpList_store_is ?_ ?_ ?_ ?_ ?_ ?_ ?_ ?_ ?_ ?_ ?_ ?_ ?_ ?_ ?_ ?_ ?_); rotate_left 7; (· rfl); (· rfl); (· rfl); (· rfl); (· rfl); (· infer_instance); (· infer_instance); (· infer_instance); (· infer_instance)) | ((with_reducible refine wp_region_later ?_ ?_ ?_); (· kernel_rfl); (· kernel_rfl); (try simp only [List.append_eq, List.cons_append, List.nil_append]); (repeat (go_big_quiet_step ((first | (go_at_call 27; (with_reducible exact call_quiet (HC.out _ gw))) | (go_at_call 28; (with_reducible exact call_quiet (HF.out _ gw))))))); refine wpQuiet_nil ?_; rintro _ ⟨u, rfl⟩))
  go_ret2
  exact ⟨rfl, gw⟩
/-- The mask of one measurement. -/
theorem keepG_one : ∀ k, k < 20 → ∀ j, j < 20 → keepG (2 ^ k) j = decide (j ≠ k) := by
  decide +kernel
end Go.Proofs.Ytkmjegkdfhiadaa
namespace Go.Proofs.Ytkmjegkdfhiadaa
open Go.RowKit Go.Shelf
set_option maxRecDepth 100000
set_option maxHeartbeats 8000000
set_option linter.unusedSimpArgs false
theorem passR_same {k k' : Nat → Bool} : ∀ (l : List Radio) (i : Nat) (s : State), (∀ j, j < l.length → k (i + j) = k' (i + j)) → passR k l i s = passR k' l i s
  | [], _, _, _ => rfl
  | m :: l, i, s, h => by
    have h0 := h 0 (by simp)
    rw [Nat.add_zero] at h0
    have hr : ∀ s, passR k l (i + 1) s = passR k' l (i + 1) s := fun s => passR_same l (i + 1) s fun j hj => by
      have := h (j + 1) (by simp; omega)
      rwa [show i + (j + 1) = i + 1 + j by omega] at this
    unfold passR
    rw [h0]
    simp only [hr]
theorem fuseR_same {k k' : Nat → Bool} {l : List Radio} (h : ∀ j, j < l.length → k j = k' j) : ∀ (n : Nat) (u : Int) (s : State), fuseR k l n u s = fuseR k' l n u s
  | 0, _, _ => rfl
  | n + 1, u, s => by
    unfold fuseR
    rw [passR_same (k := k) (k' := k') l 0 s (fun j hj => by rw [Nat.zero_add]; exact h j hj)]
    simp only [fuseR_same h n]
/-- The suspects among the first k. -/
noncomputable def susTo (s : State) (l : List Radio) (n : Int) : Nat → List Int
  | 0 => []
  | k + 1 => if (fuseR (butK k) l n.toNat 0 s).e = 0 then susTo s l n k ++ [(k : Int)] else susTo s l n k
theorem susTo_len (s : State) (l : List Radio) (n : Int) : ∀ k, (susTo s l n k).length ≤ k
  | 0 => Nat.le_refl _
  | k + 1 => by
    have := susTo_len s l n k
    unfold susTo
    split
    · rw [List.length_append]
      simpa using this
    · omega
theorem navSusp_some (s : State) (l : List Radio) (n : Int) [hp : Pv64 s] (hT : ∀ m ∈ l, Ra64 m) (ao : Option Addr) (cap : Nat) (w : World) (hs : SlAt w (.slice ao l.length cap) l.length (l.flatMap Radio.cells)) (hE : fuseE s l n = 0) (h0 : (fuseR allKept l n.toNat 0 s).e ≠ 0) :
    Calls Try.prog 12 #[.agg s.cells.toArray, .slice ao l.length cap, .int .i64 n] w (fun e w' => ∃ v, e = .returned (.tuple #[v, .int .i64 0]) ∧ SlAt w' v (susTo s l n l.length).length ((susTo s l n l.length).flatMap intC) ∧ Grew w w') := by
  obtain ⟨v1, v2, v3, v4⟩ := fuse_valid hE
  have hm := hs.len_le
  unfold maxLen at hm
  have HC := Lib.hid (fun w' (g : Grew w w') => show Calls Try.prog 27 #[.agg s.cells.toArray, .slice ao l.length cap, .int .i64 n] w' (fun e w'' => e = .returned (.int .i64 0) ∧ Grew w' w'') from is_int hE (navCheck_any s l n ao cap w' (hs.grew g)))
  have HF := Lib.hid (fun w' (g : Grew w w') => show Calls Try.prog 28 #[.agg s.cells.toArray, .slice ao l.length cap, .int .i64 n, .int .i64 0] w' (fun e w'' => e = .returned (.tuple #[.agg (fuseR allKept l n.toNat 0 s).s.cells.toArray, .int .i64 (fuseR allKept l n.toNat 0 s).n, .bool false]) ∧ Grew w' w'') from by
    have := navFuse_any s l n 0 hT v4 v2 v3 v1 ao cap w' (hs.grew g)
    rw [keepG_zero] at this
    unfold RetF at this
    rw [decide_eq_false h0] at this
    exact this)
  have HM := Lib.hid (fun (k : Int) w' (g : Grew w w') => show Calls Try.prog 28 #[.agg #[.int .i64 s.t, .int .i64 s.p.x.lo, .int .i64 s.p.x.hi, .int .i64 s.p.y.lo, .int .i64 s.p.y.hi, .int .i64 s.p.z.lo, .int .i64 s.p.z.hi, .int .i64 s.v.x.lo, .int .i64 s.v.x.hi, .int .i64 s.v.y.lo, .int .i64 s.v.y.hi, .int .i64 s.v.z.lo, .int .i64 s.v.z.hi, .int .i64 s.m.lo, .int .i64 s.m.hi], .slice ao l.length cap, .int .i64 n, .int .i64 k] w' (fun e w'' => e = .returned (.tuple #[.agg #[.int .i64 ((fuseR (keepG k) l n.toNat 0 s).s).t, .int .i64 ((fuseR (keepG k) l n.toNat 0 s).s).p.x.lo, .int .i64 ((fuseR (keepG k) l n.toNat 0 s).s).p.x.hi, .int .i64 ((fuseR (keepG k) l n.toNat 0 s).s).p.y.lo, .int .i64 ((fuseR (keepG k) l n.toNat 0 s).s).p.y.hi, .int .i64 ((fuseR (keepG k) l n.toNat 0 s).s).p.z.lo, .int .i64 ((fuseR (keepG k) l n.toNat 0 s).s).p.z.hi, .int .i64 ((fuseR (keepG k) l n.toNat 0 s).s).v.x.lo, .int .i64 ((fuseR (keepG k) l n.toNat 0 s).s).v.x.hi, .int .i64 ((fuseR (keepG k) l n.toNat 0 s).s).v.y.lo, .int .i64 ((fuseR (keepG k) l n.toNat 0 s).s).v.y.hi, .int .i64 ((fuseR (keepG k) l n.toNat 0 s).s).v.z.lo, .int .i64 ((fuseR (keepG k) l n.toNat 0 s).s).v.z.hi, .int .i64 ((fuseR (keepG k) l n.toNat 0 s).s).m.lo, .int .i64 ((fuseR (keepG k) l n.toNat 0 s).s).m.hi], .int .i64 (fuseR (keepG k) l n.toNat 0 s).n, .bool (decide ((fuseR (keepG k) l n.toNat 0 s).e = 0))]) ∧ Grew w' w'') from navFuse_any s l n k hT v4 v2 v3 v1 ao cap w' (hs.grew g))
  clear hE h0 hs v2 v3 v4 hT
  generalize fuseR allKept l n.toNat 0 s = r at *
  go_enter Try.func12, Try.ntmps12
  go_upto_block 0 with (first | (go_at_call 27; (with_reducible refine call_later (HC.out _ gw) ?_); intro u1) | (go_at_call 28; (with_reducible refine call_later (HF.out _ gw) ?_); intro u2) | ((with_reducible refine wpList_load_rng ?_ ?_ ?_ ?_ ?_ ?_ ?_ ?_ ?_ ?_ ?_ ?_); rotate_left 6; (· rfl); (· rfl); (· rfl); (· infer_instance); (· infer_instance)) | ((with_reducible refine wpList_load_is ?_ ?_ ?_ ?_ ?_ ?_ ?_ ?_ ?_ ?_ ?_ ?_ ?_); rotate_left 6; (· rfl); (· rfl); (· rfl); (· infer_instance); (· infer_instance); (· rfl)) | ((with_reducible refine wpList_store_fresh ?_ ?_ ?_ ?_ ?_ ?_ ?_ ?_ ?_ ?_ ?_ ?_ ?_ ?_ ?_ ?_ ?_); rotate_left 5; (· rfl); (· rfl); (· rfl); (· rfl); (· rfl); (· infer_instance); (· infer_instance); (· infer_instance); (· infer_instance)) | ((with_reducible refine wpList_store_is ?_ ?_ ?_ ?_ ?_ ?_ ?_ ?_ ?_ ?_ ?_ ?_ ?_ ?_ ?_ ?_ ?_); rotate_left 7; (· rfl); (· rfl); (· rfl); (· rfl); (· rfl); (· infer_instance); (· infer_instance); (· infer_instance); (· infer_instance)))
  refine wp_to_later (z := w) (by repeat (first | with_reducible exact Grew.refl _ | with_reducible apply Grew.alloc | with_reducible apply Grew.later | with_reducible apply Grew.drew | with_reducible apply Grew.setRow | with_reducible apply Grew.store | with_reducible assumption)) ?_
  intro W hW
  have r3 : RowIs W.world w.heap.size 39 s.cells := by rw [hW]; infer_instance
  clear hW
  have i3 := r3.blockIn
  go_wp2
  go_loopw [12, 35] (fun v t wr => ∃ k : Nat, t = .int .i64 k ∧ k ≤ l.length ∧ wr.ownsRow W.world.heap.size 3 1 v (susTo s l n k).length ((susTo s l n k).flatMap intC) ∧ Grew W.world wr) (fun _ t _ => l.length - (intOf t).toNat)
  case atStart => exact ⟨0, rfl, by omega, ⟨rfl, .inl ⟨rfl, rfl⟩⟩, gw⟩
  case round =>
    obtain ⟨k, rfl, hk, ho, hg⟩ := hrel
    obtain ⟨z, rfl⟩ := later_of hg
    clear hg
    by_cases hlt : k < l.length
    · have hb2 : butK k = keepG (2 ^ k) ∨ True := .inr trivial
      have hw2 : IntKind.i64.wrap ((2 : Int) ^ k) = 2 ^ k := by
        have : ∀ k, k < 20 → IntKind.i64.wrap ((2 : Int) ^ k) = 2 ^ k := by decide +kernel
        exact this k (by omega)
      have hkp : fuseR (keepG (2 ^ k)) l n.toNat 0 s = fuseR (butK k) l n.toNat 0 s := fuseR_same (fun j hj => by
        rw [keepG_one k (by omega) j (by omega)]
        rfl) n.toNat 0 s
      have HMk := Lib.hid (HM.out (2 ^ k))
      rw [hkp] at HMk
      clear hkp hb2
      have hsu : susTo s l n (k + 1) = if (fuseR (butK k) l n.toNat 0 s).e = 0 then susTo s l n k ++ [(k : Int)] else susTo s l n k := rfl
      have hlen := susTo_len s l n k
      have HSU := Lib.hid hsu
      clear hsu
      generalize fuseR (butK k) l n.toNat 0 s = f at *
      generalize susTo s l n k = xs at *
      have gz : Grew w z.world := W.grew.trans z.grew
      go_upto_region 11 with (fail)
      have hk2 : (k : Int) < 64 := by omega
      have hk3 : ¬ ((k : Int) < 0) := by omega
      go_cut [16] from 38 to 48 (fun b wx => b = .bool (decide (f.e = 0)) ∧ Grew z.world wx)
      case first =>
        obtain ⟨w1, hw1⟩ := later_of (Grew.drew (Grew.refl z.world))
        refine wp_region_tail (Grew z.world.drew) [] rfl ?_
        rw [hw1]
        have k3 : RowIs w1.world w.heap.size 39 s.cells := inferInstance
        have g1 := w1.grew
        clear hw1
        generalize w1.world = Y at *
        have kk3 := k3.blockIn
        refine wpTail_take 0 [] (v := .agg #[.int .i64 s.t, .int .i64 s.p.x.lo, .int .i64 s.p.x.hi, .int .i64 s.p.y.lo, .int .i64 s.p.y.hi, .int .i64 s.p.z.lo, .int .i64 s.p.z.hi, .int .i64 s.v.x.lo, .int .i64 s.v.x.hi, .int .i64 s.v.y.lo, .int .i64 s.v.y.hi, .int .i64 s.v.z.lo, .int .i64 s.v.z.hi, .int .i64 s.m.lo, .int .i64 s.m.hi]) rfl (by kernel_rfl) (by kernel_rfl) (by kernel_rfl) (by kernel_rfl) (fun _ _ _ h => h) (by rfl) gw (fun w' hw => ?_) ?_
        · obtain ⟨y, rfl⟩ := later_of hw
          go_simp
        try simp only [Act.put, List.setIfInBounds_toArray, List.set_cons_zero, List.set_cons_succ]
        refine wpTail_take 1 [] (v := .slice ao l.length cap) rfl (by kernel_rfl) (by kernel_rfl) (by kernel_rfl) (by kernel_rfl) (fun _ _ _ h => h) (by rfl) gw (fun w' hw => ?_) ?_
        · obtain ⟨y, rfl⟩ := later_of hw
          go_simp
        try simp only [Act.put, List.setIfInBounds_toArray, List.set_cons_zero, List.set_cons_succ]
        refine wpTail_take 2 [] (v := .int .i64 n) rfl (by kernel_rfl) (by kernel_rfl) (by kernel_rfl) (by kernel_rfl) (fun _ _ _ h => h) (by rfl) gw (fun w' hw => ?_) ?_
        · obtain ⟨y, rfl⟩ := later_of hw
          go_simp
        try simp only [Act.put, List.setIfInBounds_toArray, List.set_cons_zero, List.set_cons_succ]
        refine wpTail_take 3 [] (v := .int .i64 k) rfl (by kernel_rfl) (by kernel_rfl) (by kernel_rfl) (by kernel_rfl) (fun _ _ _ h => h) (by rfl) gw (fun w' hw => ?_) ?_
        · obtain ⟨y, rfl⟩ := later_of hw
          go_simp
        try simp only [Act.put, List.setIfInBounds_toArray, List.set_cons_zero, List.set_cons_succ]
        refine wpTail_take 4 [] (v := .int .i64 ((2 : Int) ^ k)) rfl (by kernel_rfl) (by kernel_rfl) (by kernel_rfl) (by kernel_rfl) (fun _ _ _ h => h) (by rfl) gw (fun w' hw => ?_) ?_
        · obtain ⟨y, rfl⟩ := later_of hw
          go_simp
        try simp only [Act.put, List.setIfInBounds_toArray, List.set_cons_zero, List.set_cons_succ]
        refine wpTail_two 5 10 (by kernel_rfl) rfl rfl (fun K hK => ?_) (fun K hK => ?_)
        · go_simp
          refine call_later (HMk.out _ (gz.trans (g1.trans gw))) ?_
          intro uf
          refine hK.out _ _ (fun _ => gw) ?_
          clear hK K
          try simp only [Act.put, List.setIfInBounds_toArray, List.set_cons_zero, List.set_cons_succ]
          refine wpTail_take 6 [] (v := .tuple #[.agg #[.int .i64 f.s.t, .int .i64 f.s.p.x.lo, .int .i64 f.s.p.x.hi, .int .i64 f.s.p.y.lo, .int .i64 f.s.p.y.hi, .int .i64 f.s.p.z.lo, .int .i64 f.s.p.z.hi, .int .i64 f.s.v.x.lo, .int .i64 f.s.v.x.hi, .int .i64 f.s.v.y.lo, .int .i64 f.s.v.y.hi, .int .i64 f.s.v.z.lo, .int .i64 f.s.v.z.hi, .int .i64 f.s.m.lo, .int .i64 f.s.m.hi], .int .i64 f.n, .bool (decide (f.e = 0))]) rfl (by kernel_rfl) (by kernel_rfl) (by kernel_rfl) (by kernel_rfl) (fun _ _ _ h => h) (by rfl) gw (fun w' hw => ?_) ?_
          · obtain ⟨y, rfl⟩ := later_of hw
            go_simp
          try simp only [Act.put, List.setIfInBounds_toArray, List.set_cons_zero, List.set_cons_succ]
          refine wpTail_take 7 [] (v := .agg #[.int .i64 f.s.t, .int .i64 f.s.p.x.lo, .int .i64 f.s.p.x.hi, .int .i64 f.s.p.y.lo, .int .i64 f.s.p.y.hi, .int .i64 f.s.p.z.lo, .int .i64 f.s.p.z.hi, .int .i64 f.s.v.x.lo, .int .i64 f.s.v.x.hi, .int .i64 f.s.v.y.lo, .int .i64 f.s.v.y.hi, .int .i64 f.s.v.z.lo, .int .i64 f.s.v.z.hi, .int .i64 f.s.m.lo, .int .i64 f.s.m.hi]) rfl (by kernel_rfl) (by kernel_rfl) (by kernel_rfl) (by kernel_rfl) (fun _ _ _ h => h) (by rfl) gw (fun w' hw => ?_) ?_
          · obtain ⟨y, rfl⟩ := later_of hw
            go_simp
          try simp only [Act.put, List.setIfInBounds_toArray, List.set_cons_zero, List.set_cons_succ]
          refine wpTail_take 8 [] (v := .int .i64 f.n) rfl (by kernel_rfl) (by kernel_rfl) (by kernel_rfl) (by kernel_rfl) (fun _ _ _ h => h) (by rfl) gw (fun w' hw => ?_) ?_
          · obtain ⟨y, rfl⟩ := later_of hw
            go_simp
          try simp only [Act.put, List.setIfInBounds_toArray, List.set_cons_zero, List.set_cons_succ]
          refine wpTail_take 9 [] (v := .bool (decide (f.e = 0))) rfl (by kernel_rfl) (by kernel_rfl) (by kernel_rfl) (by kernel_rfl) (fun _ _ _ h => h) (by rfl) gw (fun w' hw => ?_) ?_
          · obtain ⟨y, rfl⟩ := later_of hw
            go_simp
          try simp only [Act.put, List.setIfInBounds_toArray, List.set_cons_zero, List.set_cons_succ]
          refine wpTail_one 10 (by kernel_rfl) rfl fun K hK => ?_
          go_simp
          refine hK.out _ _ (fun _ => gw) ?_
          clear hK K
          try simp only [Act.put, List.setIfInBounds_toArray, List.set_cons_zero, List.set_cons_succ]
          refine wpTail_one 11 (by kernel_rfl) rfl fun K hK => ?_
          go_simp
          refine hK.out _ _ (fun _ => gw) ?_
          clear hK K
          try simp only [Act.put, List.setIfInBounds_toArray, List.set_cons_zero, List.set_cons_succ]
          refine wpTail_one 12 (by kernel_rfl) rfl fun K hK => ?_
          go_simp
          refine hK.out _ _ (fun _ => gw) ?_
          clear hK K
          try simp only [Act.put, List.setIfInBounds_toArray, List.set_cons_zero, List.set_cons_succ]
          refine wpTail_one 13 (by kernel_rfl) rfl fun K hK => ?_
          go_simp
          refine hK.out _ _ (fun _ => gw) ?_
          clear hK K
          try simp only [Act.put, List.setIfInBounds_toArray, List.set_cons_zero, List.set_cons_succ]
          refine wpTail_done (by kernel_rfl) ?_
          go_wp2
          go_meet
          case rel => exact ⟨rfl, g1.trans gw⟩
        · go_simp
          refine hK.out _ _ (fun _ => gw) ?_
          clear hK K
          try simp only [Act.put, List.setIfInBounds_toArray, List.set_cons_zero, List.set_cons_succ]
          refine wpTail_one 5 (by kernel_rfl) rfl fun K hK => ?_
          go_simp
          refine call_later (HMk.out _ (gz.trans (g1.trans gw))) ?_
          intro uf
          refine hK.out _ _ (fun _ => gw) ?_
          clear hK K
          try simp only [Act.put, List.setIfInBounds_toArray, List.set_cons_zero, List.set_cons_succ]
          refine wpTail_take 6 [] (v := .tuple #[.agg #[.int .i64 f.s.t, .int .i64 f.s.p.x.lo, .int .i64 f.s.p.x.hi, .int .i64 f.s.p.y.lo, .int .i64 f.s.p.y.hi, .int .i64 f.s.p.z.lo, .int .i64 f.s.p.z.hi, .int .i64 f.s.v.x.lo, .int .i64 f.s.v.x.hi, .int .i64 f.s.v.y.lo, .int .i64 f.s.v.y.hi, .int .i64 f.s.v.z.lo, .int .i64 f.s.v.z.hi, .int .i64 f.s.m.lo, .int .i64 f.s.m.hi], .int .i64 f.n, .bool (decide (f.e = 0))]) rfl (by kernel_rfl) (by kernel_rfl) (by kernel_rfl) (by kernel_rfl) (fun _ _ _ h => h) (by rfl) gw (fun w' hw => ?_) ?_
          · obtain ⟨y, rfl⟩ := later_of hw
            go_simp
          try simp only [Act.put, List.setIfInBounds_toArray, List.set_cons_zero, List.set_cons_succ]
          refine wpTail_take 7 [] (v := .agg #[.int .i64 f.s.t, .int .i64 f.s.p.x.lo, .int .i64 f.s.p.x.hi, .int .i64 f.s.p.y.lo, .int .i64 f.s.p.y.hi, .int .i64 f.s.p.z.lo, .int .i64 f.s.p.z.hi, .int .i64 f.s.v.x.lo, .int .i64 f.s.v.x.hi, .int .i64 f.s.v.y.lo, .int .i64 f.s.v.y.hi, .int .i64 f.s.v.z.lo, .int .i64 f.s.v.z.hi, .int .i64 f.s.m.lo, .int .i64 f.s.m.hi]) rfl (by kernel_rfl) (by kernel_rfl) (by kernel_rfl) (by kernel_rfl) (fun _ _ _ h => h) (by rfl) gw (fun w' hw => ?_) ?_
          · obtain ⟨y, rfl⟩ := later_of hw
            go_simp
          try simp only [Act.put, List.setIfInBounds_toArray, List.set_cons_zero, List.set_cons_succ]
          refine wpTail_take 8 [] (v := .int .i64 f.n) rfl (by kernel_rfl) (by kernel_rfl) (by kernel_rfl) (by kernel_rfl) (fun _ _ _ h => h) (by rfl) gw (fun w' hw => ?_) ?_
          · obtain ⟨y, rfl⟩ := later_of hw
            go_simp
          try simp only [Act.put, List.setIfInBounds_toArray, List.set_cons_zero, List.set_cons_succ]
          refine wpTail_take 9 [] (v := .bool (decide (f.e = 0))) rfl (by kernel_rfl) (by kernel_rfl) (by kernel_rfl) (by kernel_rfl) (fun _ _ _ h => h) (by rfl) gw (fun w' hw => ?_) ?_
          · obtain ⟨y, rfl⟩ := later_of hw
            go_simp
          try simp only [Act.put, List.setIfInBounds_toArray, List.set_cons_zero, List.set_cons_succ]
          refine wpTail_one 11 (by kernel_rfl) rfl fun K hK => ?_
          go_simp
          refine hK.out _ _ (fun _ => gw) ?_
          clear hK K
          try simp only [Act.put, List.setIfInBounds_toArray, List.set_cons_zero, List.set_cons_succ]
          refine wpTail_one 12 (by kernel_rfl) rfl fun K hK => ?_
          go_simp
          refine hK.out _ _ (fun _ => gw) ?_
          clear hK K
          try simp only [Act.put, List.setIfInBounds_toArray, List.set_cons_zero, List.set_cons_succ]
          refine wpTail_one 13 (by kernel_rfl) rfl fun K hK => ?_
          go_simp
          refine hK.out _ _ (fun _ => gw) ?_
          clear hK K
          try simp only [Act.put, List.setIfInBounds_toArray, List.set_cons_zero, List.set_cons_succ]
          refine wpTail_done (by kernel_rfl) ?_
          go_wp2
          go_meet
          case rel => exact ⟨rfl, g1.trans gw⟩
      case rest =>
      obtain ⟨rfl, hcut⟩ := hcut
      obtain ⟨z4, rfl⟩ := later_of hcut
      clear hcut
      by_cases he : f.e = 0
      · have t0 : decide (f.e = 0) = true := by simp [he]
        have hS := HSU.out
        rw [if_pos he] at hS
        have HS2 := Lib.hid hS
        clear hS HSU
        go_wp2_with (first | ((with_reducible refine wpList_load_is ?_ ?_ ?_ ?_ ?_ ?_ ?_ ?_ ?_ ?_ ?_ ?_ ?_); rotate_left 6; (· rfl); (· rfl); (· rfl); (· infer_instance); (· infer_instance); (· rfl)) | (at_builtin; go_loud (refine wpList_app_int W.world _ gw rfl _ _ rfl _ xs (owns_grew ho gw) rfl k _ rfl (by omega) ?_; intro v' y1 hown')))
        go_roundw
        case rel => exact ⟨k + 1, by go_num, by omega, by rw [HS2.out]; exact hown', gw⟩
        case measure => simp [intOf]; omega
      · have t0 : decide (f.e = 0) = false := by simp [he]
        have hS := HSU.out
        rw [if_neg he] at hS
        have HS2 := Lib.hid hS
        clear hS HSU
        go_wp2
        go_roundw
        case rel => exact ⟨k + 1, by go_num, by omega, by rw [HS2.out]; exact owns_grew ho gw, gw⟩
        case measure => simp [intOf]; omega
    · obtain rfl : k = l.length := by omega
      go_wp2
      go_ret2
      exact ⟨_, rfl, SlAt.of_owns ho, gw⟩
end Go.Proofs.Ytkmjegkdfhiadaa
namespace Go.Proofs.Ytkmjegkdfhiadaa
open Go.RowKit Go.Shelf
set_option maxRecDepth 100000
set_option maxHeartbeats 16000000
set_option linter.unusedSimpArgs false
/-- As RetHd; the slice's capacity is no less than its length. -/
def RetHdC (L : List Radio) (w : World) (e : Ending) (w' : World) : Prop := ∃ (ao : Option Addr) (cap : Nat), e = .returned (.slice ao L.length cap) ∧ L.length ≤ cap ∧ SlAt w' (.slice ao L.length cap) L.length (L.flatMap Radio.cells) ∧ Grew w w'
theorem own_cap {w : World} {base : Nat} {e : TypeId} {size : Nat} {ao : Option Addr} {n m cap : Nat} {xs : List Value} (h : w.ownsRow base e size (.slice ao m cap) n xs) : n ≤ cap := by
  rcases h.2 with ⟨h1, h2⟩ | ⟨g, cap', cur, h1, -, -, h2, -⟩
  · subst h2
    omega
  · cases h1
    exact h2
theorem l6HeardC_any (t : State) (l : List Radio) [ht : Pv64 t] (hT : ∀ m ∈ l, Ra64 m) (hl : l.length ≤ 6) (ao : Option Addr) (cap : Nat) (w : World) (hs : SlAt w (.slice ao l.length cap) l.length (l.flatMap Radio.cells)) :
    Calls Try.prog 10 #[.agg t.cells.toArray, .slice ao l.length cap] w (RetHdC (heardL t l) w) := by
  obtain ⟨ao', cap', e1, -, hx⟩ := hs
  cases e1
  have HE := Lib.hid (SlAt.elem (f := Radio.cells) (c := 15) (fun _ => rfl) (by omega) hx)
  have HT := Lib.hid hT
  have HL := Lib.hid (heard_len t l)
  have HS := Lib.hid (heard_step t l)
  have HF := Lib.hid (show heardTo t l l.length = heardL t l from rfl)
  clear hx hT
  have H0 := Lib.hid (show heardTo t l 0 = [] from rfl)
  generalize heardL t l = L at *
  generalize heardTo t l = hd at *
  go_enter Try.func10, Try.ntmps10
  go_wp2
  refine wp_to_later (z := w) gw ?_
  intro y hy
  have r2 : RowIs y.world w.heap.size 39 t.cells := by rw [hy]; infer_instance
  have i2 := r2.blockIn
  clear hy
  go_loopw [5, 13] (fun q j wr => ∃ (k : Nat) (v : Value), j = .int .i64 k ∧ v = q ∧ k ≤ l.length ∧ wr.ownsRow y.world.heap.size 34 15 v (hd k).length ((hd k).flatMap Radio.cells) ∧ Grew y.world wr) (fun _ j _ => l.length - (intOf j).toNat)
  case atStart => exact ⟨0, _, rfl, rfl, by omega, by rw [H0.out]; exact World.ownsRow_nil _ _ _ _, gw⟩
  case round =>
    obtain ⟨k, v, rfl, rfl, hk, hown, hg⟩ := hrel
    obtain ⟨z, rfl⟩ := later_of hg
    clear hg
    by_cases hlt : k < l.length
    · obtain ⟨b1, o1, e1, i1, hd1, hd2⟩ := HE.out k hlt
      cases e1
      have rg : RangeIs w b1 (o1 + k * 15) 15 l[k].cells := ⟨fun j v hv => hd2 j v hv, rfl⟩
      have j1 : BlockIn w b1 := ⟨i1⟩
      clear hd1 hd2
      have hT := HT.out _ (List.getElem_mem hlt)
      have hS := HS.out k hlt
      have hlen := HL.out k
      generalize l[k] = m at *
      have HR := Lib.hid (fun w => show Calls Try.prog 23 #[.agg t.cells.toArray, .agg m.cells.toArray] w fun e w' => e = .returned (.tuple #[.agg #[.int .i64 (readingR t m).s.lo, .int .i64 (readingR t m).s.hi], .int .i64 (readingR t m).e]) ∧ Grew w w' from navReading_any t m w)
      have HV := Lib.hid (show (heardM t m k).cells = [.int .i64 m.kind, .int .i64 m.place.x.lo, .int .i64 m.place.x.hi, .int .i64 m.place.y.lo, .int .i64 m.place.y.hi, .int .i64 m.place.z.lo, .int .i64 m.place.z.hi, .int .i64 m.dir.x.lo, .int .i64 m.dir.x.hi, .int .i64 m.dir.y.lo, .int .i64 m.dir.y.hi, .int .i64 m.dir.z.lo, .int .i64 m.dir.z.hi, .int .i64 ((readingR t m).s.lo - heardFar m / (1 + (k : Int))), .int .i64 ((readingR t m).s.hi + heardFar m)] from rfl)
      have HO := Lib.hid (show heardOk t m = (decide ((readingR t m).e = 0) && (decide ((readingR t m).s.hi ≤ 9223372036854775807 - heardFar m) && decide (heardFar m - 9223372036854775807 ≤ (readingR t m).s.lo))) from rfl)
      have fb := far_bd m
      have sR := s64_reading t m
      have hRa := fun h => ra64_heard t m k h
      have fd := far_div m k
      have HFar := Lib.hid (show heardFar m = m.value.lo % 18446744073709551616 / 1099511627776 from rfl)
      generalize heardFar m = far at *
      generalize heardM t m k = hm at *
      generalize readingR t m = R at *
      obtain ⟨fb1, fb2⟩ := fb
      obtain ⟨fd1, fd2⟩ := fd
      by_cases he : R.e = 0
      · have he' : (R.e != 0) = false := by simp [he]
        have HE0 := Lib.hid he
        clear he
        have hfar : wrap64 (IntKind.u64.wrap m.value.lo / 1099511627776) = far := by
          rw [HFar.out, IntKind.wrap_u64]
          unfold wrap64
          omega
        by_cases c1 : R.s.hi ≤ 9223372036854775807 - far
        · by_cases c2 : far - 9223372036854775807 ≤ R.s.lo
          · rw [if_pos (by rw [HO.out]; simp [HE0.out, c1, c2])] at hS
            have HS2 := Lib.hid hS
            clear hS HO
            go_wp2_with (first | (go_at_call 23; (with_reducible refine call_later (HR.out _) ?_); intro u1) | ((with_reducible refine wpList_load_rng ?_ ?_ ?_ ?_ ?_ ?_ ?_ ?_ ?_ ?_ ?_ ?_); rotate_left 6; (· rfl); (· rfl); (· rfl); (· infer_instance); (· infer_instance)) | ((with_reducible refine wpList_load_is ?_ ?_ ?_ ?_ ?_ ?_ ?_ ?_ ?_ ?_ ?_ ?_ ?_); rotate_left 6; (· rfl); (· rfl); (· rfl); (· infer_instance); (· infer_instance); (· rfl)) | ((with_reducible refine wpList_store_fresh ?_ ?_ ?_ ?_ ?_ ?_ ?_ ?_ ?_ ?_ ?_ ?_ ?_ ?_ ?_ ?_ ?_); rotate_left 5; (· rfl); (· rfl); (· rfl); (· rfl); (· rfl); (· infer_instance); (· infer_instance); (· infer_instance); (· infer_instance)) | ((with_reducible refine wpList_store_is ?_ ?_ ?_ ?_ ?_ ?_ ?_ ?_ ?_ ?_ ?_ ?_ ?_ ?_ ?_ ?_ ?_); rotate_left 7; (· rfl); (· rfl); (· rfl); (· rfl); (· rfl); (· infer_instance); (· infer_instance); (· infer_instance); (· infer_instance)))
            have lo2 := sR.lo.2
            have hi1 := sR.hi.1
            have x1 : IntKind.i64.wrap (1 + (k : Int)) = 1 + (k : Int) := by rw [IntKind.wrap_i64]; omega
            have x2 : far.tdiv (1 + (k : Int)) = far / (1 + (k : Int)) := Int.tdiv_eq_ediv_of_nonneg fb1
            have x3 : IntKind.i64.wrap (far / (1 + (k : Int))) = far / (1 + (k : Int)) := by rw [IntKind.wrap_i64]; omega
            have x4 : IntKind.i64.wrap (R.s.lo - far / (1 + (k : Int))) = R.s.lo - far / (1 + (k : Int)) := by rw [IntKind.wrap_i64]; omega
            have x5 : IntKind.i64.wrap (R.s.hi + far) = R.s.hi + far := by rw [IntKind.wrap_i64]; omega
            have x6 : ¬ (1 + (k : Int) = 0) := by omega
            refine wp_region_grown 13 [] [] [] (fun W0 => []) [] [13] (by rfl) (fun _ x hx => absurd hx (List.not_mem_nil)) (by kernel_rfl) (by kernel_rfl) (by kernel_rfl) ?_
            intro p
            apply Exists.intro
            apply And.intro
            apply lexg_pure (by kernel_rfl)
            · intro u; unfold opPure; go_simp; rfl
            apply lexg_pure (by kernel_rfl)
            · intro u; unfold opPure; go_simp; rfl
            apply lexg_pure (by kernel_rfl)
            · intro u; unfold opPure; go_simp; rfl
            apply lexg_pure (by kernel_rfl)
            · intro u; unfold opPure; go_simp; rfl
            apply lexg_pure (by kernel_rfl)
            · intro u; unfold opPure; go_simp; rfl
            apply lexg_pure (by kernel_rfl)
            · intro u; unfold opPure; go_simp; rfl
            apply lexg_pure (by kernel_rfl)
            · intro u; unfold opPure; go_simp; rfl
            apply lexg_pure (by kernel_rfl)
            · intro u; unfold opPure; go_simp; rfl
            apply lexg_pure (by kernel_rfl)
            · intro u; unfold opPure; go_simp; rfl
            apply lexg_pure (by kernel_rfl)
            · intro u; unfold opPure; go_simp; rfl
            apply lexg_pure (by kernel_rfl)
            · intro u; unfold opPure; go_simp; rfl
            apply lexg_pure (by kernel_rfl)
            · intro u; unfold opPure; go_simp; rfl
            apply lexg_pure (by kernel_rfl)
            · intro u; unfold opPure; go_simp; rfl
            apply lexg_end
            rotate_left
            · rfl
            intro u hR hD
            clear hR hD
            refine tail_store (by rfl) ?_; unfold opStore; go_simp
            refine tail_end ?_
            clear x1 x2 x3 x4 x5 x6
            refine k_world (w := _) fun z1 hz1 => ?_
            have g1 : Grew y.world z1 := by rw [hz1]; exact gw
            have ho1 : z1.ownsRow y.world.heap.size 34 15 v (hd k).length ((hd k).flatMap Radio.cells) := by rw [hz1]; exact owns_grew hown gw
            have r7 : RowIs z1 z.world.heap.size 34 [.int .i64 hm.kind, .int .i64 hm.place.x.lo, .int .i64 hm.place.x.hi, .int .i64 hm.place.y.lo, .int .i64 hm.place.y.hi, .int .i64 hm.place.z.lo, .int .i64 hm.place.z.hi, .int .i64 hm.dir.x.lo, .int .i64 hm.dir.x.hi, .int .i64 hm.dir.y.lo, .int .i64 hm.dir.y.hi, .int .i64 hm.dir.z.lo, .int .i64 hm.dir.z.hi, .int .i64 hm.value.lo, .int .i64 hm.value.hi] := by show RowIs z1 z.world.heap.size 34 hm.cells; rw [hz1, HV.out]; exact row_cast inferInstance rfl
            clear hz1
            have i7 := r7.blockIn
            obtain ⟨z2, rfl⟩ := later_of g1
            clear g1
            go_wp2_with (first | ((with_reducible refine wpList_load_is ?_ ?_ ?_ ?_ ?_ ?_ ?_ ?_ ?_ ?_ ?_ ?_ ?_); rotate_left 6; (· rfl); (· rfl); (· rfl); (· infer_instance); (· infer_instance); (· rfl)) | (at_builtin; go_loud (refine wpList_app_radio y.world _ gw rfl _ _ rfl _ (hd k) (owns_grew ho1 gw) rfl hm _ rfl (by omega) ?_; intro v' y1 hown')))
            go_roundw
            case rel => exact ⟨k + 1, v', by go_num, rfl, by omega, by rw [HS2.out]; exact hown', gw⟩
            case measure => simp [intOf]; omega
          · rw [if_neg (by rw [HO.out]; simp [c2])] at hS
            have HS2 := Lib.hid hS
            have c2' : R.s.lo < far - 9223372036854775807 := by omega
            clear c2 hS HO HV
            go_wp2_with (first | (go_at_call 23; (with_reducible refine call_later (HR.out _) ?_); intro u1) | ((with_reducible refine wpList_load_rng ?_ ?_ ?_ ?_ ?_ ?_ ?_ ?_ ?_ ?_ ?_ ?_); rotate_left 6; (· rfl); (· rfl); (· rfl); (· infer_instance); (· infer_instance)) | ((with_reducible refine wpList_load_is ?_ ?_ ?_ ?_ ?_ ?_ ?_ ?_ ?_ ?_ ?_ ?_ ?_); rotate_left 6; (· rfl); (· rfl); (· rfl); (· infer_instance); (· infer_instance); (· rfl)) | ((with_reducible refine wpList_store_fresh ?_ ?_ ?_ ?_ ?_ ?_ ?_ ?_ ?_ ?_ ?_ ?_ ?_ ?_ ?_ ?_ ?_); rotate_left 5; (· rfl); (· rfl); (· rfl); (· rfl); (· rfl); (· infer_instance); (· infer_instance); (· infer_instance); (· infer_instance)) | ((with_reducible refine wpList_store_is ?_ ?_ ?_ ?_ ?_ ?_ ?_ ?_ ?_ ?_ ?_ ?_ ?_ ?_ ?_ ?_ ?_); rotate_left 7; (· rfl); (· rfl); (· rfl); (· rfl); (· rfl); (· infer_instance); (· infer_instance); (· infer_instance); (· infer_instance)))
            go_roundw
            case rel => exact ⟨k + 1, v, by go_num, rfl, by omega, by rw [HS2.out]; exact owns_grew hown gw, gw⟩
            case measure => simp [intOf]; omega
        · rw [if_neg (by rw [HO.out]; simp [c1])] at hS
          have HS2 := Lib.hid hS
          have c1' : 9223372036854775807 - far < R.s.hi := by omega
          clear c1 hS HO HV
          go_wp2_with (first | (go_at_call 23; (with_reducible refine call_later (HR.out _) ?_); intro u1) | ((with_reducible refine wpList_load_rng ?_ ?_ ?_ ?_ ?_ ?_ ?_ ?_ ?_ ?_ ?_ ?_); rotate_left 6; (· rfl); (· rfl); (· rfl); (· infer_instance); (· infer_instance)) | ((with_reducible refine wpList_load_is ?_ ?_ ?_ ?_ ?_ ?_ ?_ ?_ ?_ ?_ ?_ ?_ ?_); rotate_left 6; (· rfl); (· rfl); (· rfl); (· infer_instance); (· infer_instance); (· rfl)) | ((with_reducible refine wpList_store_fresh ?_ ?_ ?_ ?_ ?_ ?_ ?_ ?_ ?_ ?_ ?_ ?_ ?_ ?_ ?_ ?_ ?_); rotate_left 5; (· rfl); (· rfl); (· rfl); (· rfl); (· rfl); (· infer_instance); (· infer_instance); (· infer_instance); (· infer_instance)) | ((with_reducible refine wpList_store_is ?_ ?_ ?_ ?_ ?_ ?_ ?_ ?_ ?_ ?_ ?_ ?_ ?_ ?_ ?_ ?_ ?_); rotate_left 7; (· rfl); (· rfl); (· rfl); (· rfl); (· rfl); (· infer_instance); (· infer_instance); (· infer_instance); (· infer_instance)))
          go_roundw
          case rel => exact ⟨k + 1, v, by go_num, rfl, by omega, by rw [HS2.out]; exact owns_grew hown gw, gw⟩
          case measure => simp [intOf]; omega
      · have he' : (R.e != 0) = true := by simp [he]
        rw [if_neg (by rw [HO.out]; simp [he])] at hS
        have HS2 := Lib.hid hS
        clear he hS HO HV
        go_wp2_with (first | (go_at_call 23; (with_reducible refine call_later (HR.out _) ?_); intro u1) | ((with_reducible refine wpList_load_rng ?_ ?_ ?_ ?_ ?_ ?_ ?_ ?_ ?_ ?_ ?_ ?_); rotate_left 6; (· rfl); (· rfl); (· rfl); (· infer_instance); (· infer_instance)) | ((with_reducible refine wpList_load_is ?_ ?_ ?_ ?_ ?_ ?_ ?_ ?_ ?_ ?_ ?_ ?_ ?_); rotate_left 6; (· rfl); (· rfl); (· rfl); (· infer_instance); (· infer_instance); (· rfl)) | ((with_reducible refine wpList_store_fresh ?_ ?_ ?_ ?_ ?_ ?_ ?_ ?_ ?_ ?_ ?_ ?_ ?_ ?_ ?_ ?_ ?_); rotate_left 5; (· rfl); (· rfl); (· rfl); (· rfl); (· rfl); (· infer_instance); (· infer_instance); (· infer_instance); (· infer_instance)) | ((with_reducible refine wpList_store_is ?_ ?_ ?_ ?_ ?_ ?_ ?_ ?_ ?_ ?_ ?_ ?_ ?_ ?_ ?_ ?_ ?_); rotate_left 7; (· rfl); (· rfl); (· rfl); (· rfl); (· rfl); (· infer_instance); (· infer_instance); (· infer_instance); (· infer_instance)))
        go_roundw
        case rel => exact ⟨k + 1, v, by go_num, rfl, by omega, by rw [HS2.out]; exact owns_grew hown gw, gw⟩
        case measure => simp [intOf]; omega
    · obtain rfl : k = l.length := by omega
      rw [HF.out] at hown
      have hs := SlAt.of_owns hown
      have Hs := Lib.hid hs
      obtain ⟨ao2, cap2, rfl⟩ := sl_len hs
      have Hcap := Lib.hid (own_cap hown)
      go_wp2
      go_ret
      exact ⟨ao2, cap2, rfl, Hcap.out, Hs.out, gw⟩
end Go.Proofs.Ytkmjegkdfhiadaa
namespace Go.Proofs.Ytkmjegkdfhiadaa
open Go.RowKit Go.Shelf
set_option maxRecDepth 100000
set_option maxHeartbeats 16000000
set_option linter.unusedSimpArgs false
theorem slAt_take {w : World} {l : List Radio} {ao : Option Addr} {cap : Nat} (h : SlAt w (.slice ao l.length cap) l.length (l.flatMap Radio.cells)) (k c : Nat) (hk : k ≤ l.length) : SlAt w (.slice ao k c) (l.take k).length ((l.take k).flatMap Radio.cells) := by
  obtain ⟨ao', cap', e, hm, hc⟩ := h
  cases e
  have hl : (l.take k).length = k := by rw [List.length_take]; omega
  rw [hl]
  refine ⟨ao, c, rfl, by omega, fun i x hx => hc i x ?_⟩
  have e := congrArg (fun l => (l.flatMap Radio.cells)) (List.take_append_drop k l)
  simp only [List.flatMap_append] at e
  rw [← e, List.getElem?_append_left (List.getElem?_eq_some_iff.1 hx).1]
  exact hx
theorem slAt_drop {w : World} {l : List Radio} {ao : Option Addr} {cap : Nat} (h : SlAt w (.slice ao l.length cap) l.length (l.flatMap Radio.cells)) (k c : Nat) (hk : k ≤ l.length) (ao2 : Option Addr) (h2 : k < l.length → ao2 = ao.map (·.add (k * 15))) : SlAt w (.slice ao2 (l.length - k) c) (l.drop k).length ((l.drop k).flatMap Radio.cells) := by
  obtain ⟨ao', cap', e, hm, hc⟩ := h
  cases e
  have hl : (l.drop k).length = l.length - k := List.length_drop
  rw [hl]
  refine ⟨ao2, c, rfl, by omega, fun i x hx => ?_⟩
  have hlt : k < l.length := by
    rcases Nat.lt_or_ge k l.length with h | h
    · exact h
    · rw [List.drop_eq_nil_of_le h] at hx
      simp at hx
  have e := congrArg (fun l => (l.flatMap Radio.cells)) (List.take_append_drop k l)
  simp only [List.flatMap_append] at e
  have hlen : ((l.take k).flatMap Radio.cells).length = k * 15 := by
    rw [flat_len Radio.cells 15 (fun _ => rfl), List.length_take]
    congr 1
    omega
  have hx2 : (l.flatMap Radio.cells)[k * 15 + i]? = some x := by
    rw [← e, List.getElem?_append_right (by omega), hlen, show k * 15 + i - k * 15 = i by omega]
    exact hx
  obtain ⟨b, off, h3, h4⟩ := hc _ _ hx2
  refine ⟨b, off + k * 15, by rw [h2 hlt, h3, Option.map_some, Addr.add_lit], ?_⟩
  rw [Nat.add_assoc]
  exact h4
/-- A slice of measurements is appended to a row of one's own. -/
theorem step_cat {ops : Array Oper} {o : Oper} {a : Act} {K : Act → World → Prop} {Q : Exit → Act → World → Prop} {E : Prop} (a0 w : World) (g0 : Grew a0 w) (hgd : o.guard = none) (s x : Operand)
    (ho : o.op = .call { callee := .builtin .append, args := #[s, x], argTypes := #[27, 27] }) (l0 : List Radio) (v : Value) (hs : a.eval s = v) (hown : w.ownsRow a0.heap.size 34 15 v l0.length (l0.flatMap Radio.cells)) (l : List Radio) (V : Value) (hV : SlAt w V l.length (l.flatMap Radio.cells)) (hx : a.eval x = V) (hn : l0.length + l.length ≤ 1000)
    (h : ∀ v' (u : Later a0), u.world.ownsRow a0.heap.size 34 15 v' (l0 ++ l).length ((l0 ++ l).flatMap Radio.cells) → w.grownBy u.world v.ownBlock → K (a.put o.dst v') u.world) :
    if Region.wanted o (yielded ops a.tmps) = true then Oper.wp Try.prog o a w K Q else E := by
  have hw : Region.wanted o (yielded ops a.tmps) = true := by simp [Region.wanted, hgd]
  rw [if_pos hw]
  obtain ⟨i0, hi, hz0, hzz1, hzz2⟩ := info_parts infoRad
  cases l with
  | nil =>
    obtain ⟨ao, cap, rfl, hm, hc⟩ := hV
    obtain ⟨y, hy⟩ : ∃ y : Later a0, y.world = w := ⟨⟨w, g0⟩, rfl⟩
    have h' := h v y (by rw [hy, List.append_nil]; exact hown) (by rw [hy]; exact World.grownBy.refl _ _)
    rw [hy] at h'
    obtain ⟨ao2, cap2, e2⟩ := owns_form hown
    have hcap : ¬ cap2 < l0.length := by
      rw [e2] at hown
      rcases hown.2 with ⟨h1, h2⟩ | ⟨g, cap', cur, h1, -, -, h2, -⟩
      · omega
      · cases h1
        omega
    unfold Oper.wp execOp
    simp only [ho, resolve, invoke, builtin, Sem.run_bind, Sem.run_pure, Result.andThen_ok, List.map_toArray, List.map_cons, List.map_nil, hs, hx, e2]
    rw [show (Builtin.append_ #[27, 27] o.type #[.slice ao2 l0.length cap2, .slice ao ([] : List Radio).length cap]).run Try.prog w = .ok (.slice ao2 l0.length cap2) w by
      cases ao <;> cases ao2 <;> simp [Builtin.append_, run_underlying Try.underlying27, sizeOf, typeInfo, hi, Builtin.lenOf, Builtin.firstCells, storeCells, loadCells, loadCellsFrom, hcap]]
    rw [e2] at h'
    exact h'
  | cons y l =>
    obtain ⟨ao, cap, rfl, hm, hc⟩ := hV
    obtain ⟨b, off, rfl, -⟩ := hc 0 (.int .i64 y.kind) rfl
    have hlen : ((y :: l).flatMap Radio.cells).length = (y :: l).length * 15 := flat_len Radio.cells 15 (fun _ => rfl) _
    refine wp_append_lies w s x 27 ho a0.heap.size 34 i0 _ 15 120 Try.underlying27 hi hz0 hzz1 hzz2 rfl (by decide) v l0.length _ hs hown ⟨b, off, none⟩ (y :: l).length cap ((y :: l).flatMap Radio.cells) hx hlen (fun j u hu => ?_) (fun u hu => ?_) (by simp) (by simp [maxLen] at hn ⊢; omega) (by omega) g0.size _ rfl ?_
    · obtain ⟨b', off', e1, e2⟩ := hc j u hu
      cases e1
      rw [Addr.add_lit]
      exact e2
    · obtain ⟨r, -, hr⟩ := List.mem_flatMap.1 hu
      exact radio_one r u hr
    · intro g cap' w' h2 h3 h4 h5
      rw [← List.flatMap_append, ← List.length_append] at h2
      obtain ⟨u, rfl⟩ := later_of (Grew.append g0 hown (Nat.le_refl _) h3)
      rw [← List.length_append]
      exact h _ u h2 h3
/-- The suspects as numbers. -/
theorem susTo_is (s : State) (l : List Radio) (n : Int) : ∀ k, k ≤ l.length → susTo s l n k = ((List.range k).filter fun i => decide ((fuseR (butK i) l n.toNat 0 s).e = 0)).map fun i : Nat => (i : Int)
  | 0, _ => rfl
  | k + 1, hk => by
    have e : susTo s l n (k + 1) = if (fuseR (butK k) l n.toNat 0 s).e = 0 then susTo s l n k ++ [(k : Int)] else susTo s l n k := rfl
    rw [e, List.range_succ, List.filter_append, List.map_append, ← susTo_is s l n k (by omega)]
    by_cases h : (fuseR (butK k) l n.toNat 0 s).e = 0
    · rw [if_pos h, List.filter_cons_of_pos (by simp [h])]
      rfl
    · rw [if_neg h, List.filter_cons_of_neg (by simp [h])]
      simp
theorem susTo_all (s : State) (l : List Radio) (n : Int) : susTo s l n l.length = (susR s l n).map fun i : Nat => (i : Int) := susTo_is s l n _ (Nat.le_refl _)
theorem susTo_asc (s : State) (l : List Radio) (n : Int) (i : Nat) (h : i + 1 < (susTo s l n l.length).length) : (susTo s l n l.length)[i] < (susTo s l n l.length)[i + 1] := by
  have ha := sus_asc s l n
  simp only [susTo_all, List.getElem_map]
  rw [susTo_all, List.length_map] at h
  have := List.pairwise_iff_getElem.1 ha i (i + 1) (by omega) h (by omega)
  omega
theorem susTo_asc2 (s : State) (l : List Radio) (n : Int) (i : Nat) (x y : Int) (hx : (susTo s l n l.length)[i]? = some x) (hy : (susTo s l n l.length)[i + 1]? = some y) : x < y := by
  obtain ⟨h1, e1⟩ := List.getElem?_eq_some_iff.1 hx
  obtain ⟨h2, e2⟩ := List.getElem?_eq_some_iff.1 hy
  have := susTo_asc s l n i h2
  rw [e1, e2] at this
  exact this
theorem susTo_has {s : State} {l : List Radio} {n : Int} {k : Nat} (h : k ∈ susR s l n) : (k : Int) ∈ susTo s l n l.length := by
  rw [susTo_all]
  exact List.mem_map.2 ⟨k, h, rfl⟩
end Go.Proofs.Ytkmjegkdfhiadaa
