/-
  Contract: ullageref11.Plan.
-/
import Derived.Test.YtgjikdhidakloaaPlanRest
import Derived.Test.YtgjikdhidakloaaPlanAb
import Derived.Laws.OwnMore
namespace Go.Proofs.Ytgjikdhidakloaa
open Go.RowKit
set_option maxRecDepth 100000
set_option maxHeartbeats 8000000
/-- All blocks of a, but b, are as they were. -/
def Agree (b : Nat) (a w : World) : Prop := a.heap.size ≤ w.heap.size ∧ ∀ c, c < a.heap.size → c ≠ b → w.heap[c]? = a.heap[c]?
theorem Agree.refl (b : Nat) (a : World) : Agree b a a := ⟨Nat.le_refl _, fun _ _ _ => rfl⟩
theorem Agree.grew {b : Nat} {a w w' : World} (h : Agree b a w) (g : Grew w w') : Agree b a w' :=
  ⟨Nat.le_trans h.1 g.size, fun c hc hb => by rw [Below.block g c (Nat.lt_of_lt_of_le hc h.1), h.2 c hc hb]⟩
theorem Agree.grown {b : Nat} {a w w' : World} {row : Option Nat} (h : Agree b a w) (g : w.grownBy w' row) (hr : ∀ k, row = some k → a.heap.size ≤ k) : Agree b a w' :=
  ⟨Nat.le_trans h.1 g.size, fun c hc hb => by rw [g.block c (Nat.lt_of_lt_of_le hc h.1) (fun e => by have := hr c e.symm; omega), h.2 c hc hb]⟩
theorem Agree.setCell {b : Nat} {a w : World} (h : Agree b a w) (j : Nat) (x : Value) : Agree b a (w.setCell ⟨b, j, none⟩ x) :=
  ⟨by simpa [World.setCell] using h.1, fun c hc hb => by rw [Below.heap_setCell _ _ _ _ hb, h.2 c hc hb]⟩
/-- A slice's block lies above b. -/
def Above (b : Nat) (v : Value) : Prop := ∀ ad n cap, v = .slice (some ad) n cap → b < ad.block
theorem SlAt.agree {b : Nat} {a w : World} {v : Value} {n : Nat} {xs : List Value} (h : SlAt a v n xs) (hb : Above b v) (g : Agree b a w) : SlAt w v n xs := by
  obtain ⟨ao, cap, rfl, h0, h2⟩ := h
  refine ⟨ao, cap, rfl, h0, fun i x hx => ?_⟩
  obtain ⟨c, off, rfl, h4⟩ := h2 i x hx
  refine ⟨c, off, rfl, ?_⟩
  have hc := World.block_lt_of_cell? a _ h4
  have := hb _ _ _ rfl
  rw [World.cell?_of_block (w := a) (g.2 c hc (by simp only at this; omega)), h4]
theorem above_owns {w : World} {base b : Nat} {e : TypeId} {size : Nat} {v : Value} {n : Nat} {xs : List Value} (h : w.ownsRow base e size v n xs) (hb : b < base) : Above b v := by
  intro ad m cap e1
  subst e1
  have := owns_base h ad.block (by rcases h.2 with ⟨e, -⟩ | ⟨g, cap', cur, e, -⟩ <;> cases e; rfl)
  omega
/-- An int is appended to a row of one's own; whatever else has turned. -/
theorem wpList_app_int2 {ops : Array Oper} {rest : List Oper} {o : Oper} {a : Act} {Q : Exit → Act → World → Prop} (w : World) (base : Nat) (hbase : base ≤ w.heap.size) {m : Nat} [hm : SizeAt w m] (hgd : o.guard = none) (s x : Operand)
    (ho : o.op = .call { callee := .builtin .append, args := #[s, x], argTypes := #[22, 22] }) (v : Value) (l : List Int) (hown : w.ownsRow base 3 1 v l.length (l.flatMap intC)) (hs : a.eval s = v) (k : Int) (ty : TypeId)
    (hx : a.eval x = .slice (some ⟨m, 0, none⟩) 1 1) (hn : l.length ≤ 1099511627776)
    (h : ∀ v' w', w'.ownsRow base 3 1 v' (l ++ [k]).length ((l ++ [k]).flatMap intC) → (w.alloc (.cells #[.int .i64 k] ty)).grownBy w' v.ownBlock → (∀ c, v.ownBlock = some c → base ≤ c) → wpList Try.prog ops Q rest (a.put o.dst v') w') :
    wpList Try.prog ops Q (o :: rest) a (w.alloc (.cells #[.int .i64 k] ty)) := by
  obtain rfl := hm.eq
  obtain ⟨i0, hi, hz0, hzz1, hzz2⟩ := info_parts infoInt
  refine wpList_append_own _ hgd s x 22 ho base 3 i0 (.int .i64 0) 1 8 Try.underlying22 hi hz0 hzz1 hzz2 rfl (by decide) v _ _ hs (hown.alloc _) ⟨w.heap.size, 0, none⟩ 1 1 [.int .i64 k] hx rfl (by simpa using cells_new w [.int .i64 k] ty) (by simp [Value.oneCell']) (by simp [maxLen]; omega) (by omega) (by simp; omega) ?_
  intro v' w1 hown' hgrow _
  refine h v' w1 ?_ hgrow (owns_base hown)
  rw [← intC_snoc, List.length_append]
  exact hown'
/-- The costs at a place. -/
def ckL (P : List Int) (p : Nat) : List Int := (cst P p).map (·.2)
theorem ckL_len (P : List Int) (p : Nat) (hp : p < P.length) : (ckL P p).length = (choicesL P[p]).length := by unfold ckL; rw [List.length_map, cst_len P p hp]
theorem best_least (L : List (Int × Int)) (hL : ∀ x ∈ L, 0 ≤ x.2) (k : Nat) (h0 : 0 < k) (hk : k ≤ L.length) : best (L.take k) = L[leastN (L.map (·.2)) k]'(Nat.lt_of_lt_of_le (leastN_lt _ k h0) hk) := by
  induction k with
  | zero => omega
  | succ k ih =>
    rw [best_take1 L k (by omega)]
    by_cases hz : k = 0
    · subst hz
      simp only [leastN, if_true, List.take_zero]
      unfold best bestS
      simp
    · have hlt := leastN_lt (L.map (·.2)) k (by omega)
      rw [ih (by omega) (by omega)]
      have e1 : (L.map (·.2))[k]?.getD 0 = L[k].2 := by simp [show k < L.length by omega]
      have e2 : (L.map (·.2))[leastN (L.map (·.2)) k]?.getD 0 = (L[leastN (L.map (·.2)) k]'(by omega)).2 := by
        rw [List.getElem?_eq_getElem (by simp; omega), List.getElem_map]; rfl
      have e3 : leastN (L.map (·.2)) (k + 1) = if L[k].2 < (L[leastN (L.map (·.2)) k]'(by omega)).2 then k else leastN (L.map (·.2)) k := by
        rw [leastN, if_neg hz, e1, e2]
      have hnn := hL (L[leastN (L.map (·.2)) k]'(by omega)) (List.getElem_mem _)
      unfold bestS
      by_cases c : L[k].2 < (L[leastN (L.map (·.2)) k]'(by omega)).2
      · rw [if_pos (.inr c)]
        simp only [e3, if_pos c]
      · rw [if_neg (by omega)]
        simp only [e3, if_neg c]
theorem row_ne {w : World} {b : Nat} {t : TypeId} {n : Nat} {F : Nat → Value} (h : w.rowIs b t n F) (hF : ∀ i, i < n → ∃ ao m cap, F i = .slice ao m cap) {c i : Nat} {k : IntKind} {x : Int} (hx : w.cell? ⟨c, i, none⟩ = some (.int k x)) : c ≠ b := by
  intro e
  subst e
  by_cases hi : i < n
  · rw [h.cell hi] at hx
    obtain ⟨ao, m, cap, hf⟩ := hF i hi
    rw [hf] at hx
    cases hx
  · obtain ⟨cs, hb, hs, -⟩ := h
    simp [World.cell?, hb] at hx
    rw [Array.getElem?_eq_none (by omega)] at hx
    cases hx
theorem row_grown {w w1 : World} {b : Nat} {t : TypeId} {n : Nat} {F : Nat → Value} (h : w.rowIs b t n F) {o : Obj} {row : Option Nat} (g : (w.alloc o).grownBy w1 row) {base : Nat} (hr : ∀ c, row = some c → base ≤ c) (hb : b < base) : w1.rowIs b t n F := by
  have h1 := h.alloc o
  exact h1.of_block (g.block b h1.lt (fun e => by have := hr b e.symm; omega))
theorem sl_is {w : World} {v : Value} {n : Nat} {xs : List Value} (h : SlAt w v n xs) : ∃ ao m cap, v = .slice ao m cap := by
  obtain ⟨ao, cap, rfl, -⟩ := h
  exact ⟨_, _, _, rfl⟩
theorem infoSlI : (Try.prog.info? 22).map (fun i => (i.zero, i.size, i.bytes)) = some (some (.slice none 0 0), 1, 24) := by kernel_rfl
/-- The sums that the last loop looks at. -/
theorem sums_get (P : List Int) (own : Int) (p : Nat) (hp : p < P.length) (k : Nat) (hk : k < (choicesL P[p]).length) :
    ∃ q, ((choicesL P[p])[k], q) ∈ cst P p ∧ (ckL P p)[k]'(by rw [ckL_len P p hp]; exact hk) = q ∧ (behind own (cst P p))[k]'(by rw [behind_len, cst_len P p hp]; exact hk) = ((choicesL P[p])[k], q + chg own (choicesL P[p])[k]) := by
  obtain ⟨q, h1, h2⟩ := cst_get P p hp k hk
  refine ⟨q, h2, (List.getElem_map (fun x : Int × Int => x.2)).trans (congrArg Prod.snd h1), ?_⟩
  rw [behind_get own (cst P p) k (by rw [cst_len P p hp]; exact hk), h1]
/-- What the last loop has not yet found. -/
def NotYet (P : List Int) (p : Nat) (own c : Int) (k : Nat) : Prop := ∀ j x, j < k → (behind own (cst P p))[j]? = some x → x.2 ≠ c
theorem notYet_end {P : List Int} (hc : masksCode P = 0) {p : Nat} {own c : Int} (hp : p + 1 < P.length) (hm : (own, c) ∈ cst P p) {k : Nat} (hk : (choicesL P[p + 1]).length ≤ k) (h : NotYet P (p + 1) own c k) : False := by
  have h1 := cst_next hp hm
  simp only at h1
  unfold lx at h1
  rw [if_neg (by omega)] at h1
  have hb := behind_mem (own := own) (cst_all hc (p + 1) (by omega))
  have h0 : behind own (cst P (p + 1)) ≠ [] := by
    intro e
    have : (behind own (cst P (p + 1))).length = (choicesL P[p + 1]).length := by rw [behind_len, cst_len P (p + 1) hp]
    rw [e] at this
    have h2 := (masks_ok hc).2 P[p + 1] (List.getElem_mem hp)
    exact choices_some _ h2.1 h2.2 (List.eq_nil_of_length_eq_zero this.symm)
  obtain ⟨j, hj, e, -⟩ := best_is _ (fun x hx => (hb x hx).1) h0
  have hjl : j < (choicesL P[p + 1]).length := by rw [behind_len, cst_len P (p + 1) hp] at hj; exact hj
  exact h j _ (by omega) (List.getElem?_eq_getElem hj) (by rw [← e, h1])
theorem notYet_found {P : List Int} (hc : masksCode P = 0) {p : Nat} {c : Int} (hp : p + 1 < P.length) (hm : ((selO P p).1, c) ∈ cst P p) {k : Nat} {x : Int × Int} (hx : (behind (selO P p).1 (cst P (p + 1)))[k]? = some x) (he : x.2 = c) (h : NotYet P (p + 1) (selO P p).1 c k) : selO P (p + 1) = x := by
  have h1 := cst_next hp hm
  simp only at h1
  unfold lx at h1
  rw [if_neg (by omega)] at h1
  have hb := behind_mem (own := (selO P p).1) (cst_all hc (p + 1) (by omega))
  obtain ⟨hk, e⟩ := List.getElem?_eq_some_iff.1 hx
  show best (behind (selO P p).1 (cst P (p + 1))) = x
  rw [best_first _ (fun x hx => (hb x hx).1) k hk (by rw [e, he, h1]) (fun j hj e2 => h j _ hj (List.getElem?_eq_getElem (by omega)) (by rw [e2, h1])), e]
theorem notYet_step {P : List Int} {p : Nat} {own c : Int} {k : Nat} {x : Int × Int} (hx : (behind own (cst P p))[k]? = some x) (he : x.2 ≠ c) (h : NotYet P p own c k) : NotYet P p own c (k + 1) := by
  intro j y hj hy
  by_cases e : j = k
  · subst e
    rw [hx] at hy
    cases hy
    exact he
  · exact h j y (by omega) hy
theorem r11Plan_any (P : List Int) (v : Value) (w : World) (hP : SlAt w v P.length (P.flatMap intC)) : Calls Try.prog 8 #[v] w (RetPlan P w) := by
  have HM := Lib.hid (fun w' (g : Grew w w') => r11Masks_any P v w' (hP.grew g))
  by_cases hc : masksCode P = 0
  rotate_left
  · have HR := Lib.hid (show planR P = [] by unfold planR; rw [if_neg hc])
    have HN := Lib.hid (show planNR P = 0 by unfold planNR; rw [if_neg hc])
    obtain ⟨ao, cap, rfl, hm⟩ := sl_form hP
    have hc' : (masksCode P != 0) = true := by simp [hc]
    have HC := Lib.hid (Eq.refl (masksCode P))
    clear hc hP
    generalize hcc : masksCode P = c at *
    have Hcc := Lib.hid hcc
    clear hcc HC
    go_enter Try.func8, Try.ntmps8
    go_wp2_with (first | (go_at_call 31; (with_reducible refine call_later (HM.out _ (by repeat (first | with_reducible exact Grew.refl _ | with_reducible apply Grew.alloc | with_reducible apply Grew.later | with_reducible apply Grew.drew | with_reducible apply Grew.store | with_reducible assumption))) ?_); intro u) | ((with_reducible refine wp_region_later ?_ ?_ ?_); (· kernel_rfl); (· kernel_rfl); (repeat (go_big_quiet_step ((first | (go_at_call 31; (with_reducible exact call_quiet (HM.out _ (by repeat (first | with_reducible exact Grew.refl _ | with_reducible apply Grew.alloc | with_reducible apply Grew.later | with_reducible apply Grew.drew | with_reducible apply Grew.store | with_reducible assumption))))))))); refine wpQuiet_nil ?_; rintro _ ⟨u, rfl⟩))
    go_ret3
    exact RetPlan.full HN.out Hcc.out HR.out (SlAt.nil _) (by repeat (first | with_reducible exact Grew.refl _ | with_reducible apply Grew.alloc | with_reducible apply Grew.later | with_reducible apply Grew.drew | with_reducible apply Grew.store | with_reducible assumption))
  have HR := Lib.hid (show planR P = planTo P P.length by unfold planR; rw [if_pos hc]; rfl)
  have HC := Lib.hid hc
  obtain ⟨hl, hmk⟩ := masks_ok hc
  have Hmk := Lib.hid hmk
  have HP := Lib.hid hP
  have HI := Lib.hid (fun k hk => int_cell hP k hk)
  have HB := Lib.hid (fun p hp => cst_all hc p hp)
  by_cases hn : P.length = 0
  · have HN := Lib.hid (show planNR P = 0 by unfold planNR planN; rw [if_pos hc, if_pos hn])
    have HR0 := Lib.hid (show planR P = [] by rw [HR.out, hn]; rfl)
    obtain ⟨ao, cap, rfl, hm⟩ := sl_form hP
    have hn' : ((P.length : Int) == 0) = true := by simp [hn]
    clear hmk hc hP hn
    go_enter Try.func8, Try.ntmps8
    go_wp2_with (first | (go_at_call 31; (with_reducible refine call_later (is_int HC.out (HM.out _ (by repeat (first | with_reducible exact Grew.refl _ | with_reducible apply Grew.alloc | with_reducible apply Grew.later | with_reducible apply Grew.drew | with_reducible apply Grew.store | with_reducible assumption)))) ?_); intro u) | ((with_reducible refine wp_region_later ?_ ?_ ?_); (· kernel_rfl); (· kernel_rfl); (repeat (go_big_quiet_step ((first | (go_at_call 31; (with_reducible exact call_quiet (is_int HC.out (HM.out _ (by repeat (first | with_reducible exact Grew.refl _ | with_reducible apply Grew.alloc | with_reducible apply Grew.later | with_reducible apply Grew.drew | with_reducible apply Grew.store | with_reducible assumption)))))))))); refine wpQuiet_nil ?_; rintro _ ⟨u, rfl⟩))
    go_ret3
    exact RetPlan.full HN.out HC.out HR0.out (SlAt.nil _) (by repeat (first | with_reducible exact Grew.refl _ | with_reducible apply Grew.alloc | with_reducible apply Grew.later | with_reducible apply Grew.drew | with_reducible apply Grew.store | with_reducible assumption))
  have HN := Lib.hid (show planNR P = (selO P 0).2 by unfold planNR planN; rw [if_pos hc, if_neg hn])
  obtain ⟨ao, cap, rfl, hm⟩ := sl_form hP
  have hn' : ((P.length : Int) == 0) = false := by rw [beq_eq_false_iff_ne]; omega
  have hmk2 := run_make_row' (P := Try.prog) 62 22 (.slice none 0 0) 24 Try.underlying62 infoSlI rfl .i64 .i64 P.length (by omega) (by omega)
  clear hmk hc hP
  go_enter Try.func8, Try.ntmps8
  go_wp2_with (first | (go_at_call 31; (with_reducible refine call_later (is_int HC.out (HM.out _ (by repeat (first | with_reducible exact Grew.refl _ | with_reducible apply Grew.alloc | with_reducible apply Grew.later | with_reducible apply Grew.drew | with_reducible apply Grew.store | with_reducible assumption)))) ?_); intro u) | ((with_reducible refine wp_region_later ?_ ?_ ?_); (· kernel_rfl); (· kernel_rfl); (repeat (go_big_quiet_step ((first | (go_at_call 31; (with_reducible exact call_quiet (is_int HC.out (HM.out _ (by repeat (first | with_reducible exact Grew.refl _ | with_reducible apply Grew.alloc | with_reducible apply Grew.later | with_reducible apply Grew.drew | with_reducible apply Grew.store | with_reducible assumption)))))))))); refine wpQuiet_nil ?_; rintro _ ⟨u, rfl⟩))
  refine wp_to_later (z := w) (by repeat (first | with_reducible exact Grew.refl _ | with_reducible apply Grew.alloc | with_reducible apply Grew.later | with_reducible apply Grew.drew | with_reducible apply Grew.store | with_reducible assumption)) ?_
  intro y0 hy0
  have q1 : y0.world.rowIs u.world.heap.size 22 P.length (fun _ => .slice none 0 0) := by rw [hy0]; exact World.rowIs_made _ _ _ _
  have q2 : w.heap.size ≤ u.world.heap.size := u.grew.size
  clear hy0 hmk2
  generalize u.world.heap.size = b at *
  have ap : ∀ c, BlockIn w c → Apart c b := fun c h => ⟨by have := h.lt; omega⟩
  have Hap := Lib.hid ap
  clear ap
  go_loopw [7] (fun t wr => ∃ (j : Nat) (F : Nat → Value), t = .int .i64 ((P.length : Int) - 1 - j) ∧ j ≤ P.length ∧ wr.rowIs b 22 P.length F ∧ (∀ q, q < P.length → P.length ≤ q + j → SlAt wr (F q) (ckL P q).length ((ckL P q).flatMap intC) ∧ Above b (F q)) ∧ (∀ q, q + j < P.length → F q = .slice none 0 0) ∧ Grew w wr) (fun t _ => (intOf t + 1).toNat)
  case atStart => exact ⟨0, _, by simp, by omega, q1, fun q h1 h2 => by omega, fun q _ => rfl, y0.grew⟩
  case round =>
    obtain ⟨j, F, rfl, hj, hrow, hall, hnil, hg⟩ := hrel
    obtain ⟨y, rfl⟩ := later_of hg
    clear hg
    by_cases hlt : j < P.length
    · obtain ⟨p, hp⟩ : ∃ p : Nat, (P.length : Int) - 1 - j = p := ⟨P.length - 1 - j, by omega⟩
      obtain ⟨bc, off, cap', e1, ib, hd⟩ := HI.out p (by omega)
      obtain ⟨rfl, rfl⟩ : ao = some ⟨bc, off, none⟩ ∧ cap = cap' := by simpa using e1
      clear e1
      have hpl : p < P.length := by omega
      have hp1 : (p : Int) < P.length := by omega
      have hp0 : (0 : Int) ≤ p := by omega
      have hmm0 := Hmk.out P[p] (List.getElem_mem (by omega))
      have HCh := Lib.hid (fun w' => r11Choices_any P[p] hmm0.1 hmm0.2 w')
      have Hck := Lib.hid (ckL_len P p hpl)
      have HT := Lib.hid (fun k hk => cst_take (P := P) (p := p) hpl (k := k) hk)
      have hcl := choicesL_len P[p]
      have HBp := Lib.hid (HB.out p (by omega))
      have HIS := Lib.hid (fun k (hk : k < (choicesL P[p]).length) => show ∃ c, ((choicesL P[p])[k], c) ∈ cst P p ∧ (ckL P p).take (k + 1) = (ckL P p).take k ++ [c] from by
        obtain ⟨c, h1, h2⟩ := cst_take (P := P) (p := p) hpl (k := k) hk
        refine ⟨c, h1, ?_⟩
        unfold ckL
        rw [← List.map_take, h2, List.map_append, ← List.map_take]
        rfl)
      generalize P[p] = mk at *
      rw [hp]
      go_wp2_with (first | (go_at_call 32; (with_reducible refine (HCh.out _).mono ?_); rintro e w1 ⟨vc, rfl, sc, gc⟩; obtain ⟨z, rfl⟩ := later_of gc; clear gc; obtain ⟨aoc, capc, rfl, hmc⟩ := sl_form sc))
      have zrow := hrow.of_block (w' := z.world) (Below.block z.grew b hrow.lt)
      have zall := Lib.hid (fun q h1 h2 => And.intro ((hall q h1 h2).1.grew z.grew) (hall q h1 h2).2)
      have zlt : b < z.world.heap.size := zrow.lt
      have HIc := Lib.hid (fun k hk => int_cell sc k hk)
      go_loopw [9] (fun t wr => ∃ (k : Nat) (vp : Value), t = .int .i64 k ∧ k ≤ (choicesL mk).length ∧ wr.rowIs b 22 P.length (fun q => if q = p then vp else F q) ∧ wr.ownsRow z.world.heap.size 3 1 vp ((ckL P p).take k).length (((ckL P p).take k).flatMap intC) ∧ Agree b z.world wr ∧ Grew w wr) (fun t _ => (choicesL mk).length - (intOf t).toNat)
      case atStart =>
        refine ⟨0, .slice none 0 0, rfl, by omega, zrow.congr fun q hq => ?_, World.ownsRow_nil _ _ _ _, Agree.refl _ _, (by repeat (first | with_reducible exact Grew.refl _ | with_reducible apply Grew.alloc | with_reducible apply Grew.later | with_reducible apply Grew.drew | with_reducible apply Grew.store | with_reducible assumption))⟩
        split
        · rename_i h; rw [h, hnil p (by omega)]
        · rfl
      case round =>
        obtain ⟨k, vp, rfl, hk, hrow2, hown, hag, hg⟩ := hrel
        obtain ⟨y2, rfl⟩ := later_of hg
        clear hg
        by_cases hlk : k < (choicesL mk).length
        · obtain ⟨c, hmem, htake⟩ := HIS.out k hlk
          obtain ⟨b3, o3, c3, e3, i3, hd3⟩ := HIc.out k hlk
          obtain ⟨rfl, rfl⟩ : aoc = some ⟨b3, o3, none⟩ ∧ capc = c3 := by simpa using e3
          clear e3
          have hFs : ∀ i, i < P.length → ∃ ao m cap, F i = .slice ao m cap := fun i hi => by
            by_cases h : P.length ≤ i + j
            · exact sl_is (hall i hi h).1
            · exact ⟨_, _, _, hnil i (by omega)⟩
          have hne := row_ne zrow hFs hd3
          have hce := HBp.out _ hmem
          simp only at hce
          have hmb := choicesL_bd mk _ (List.getElem_mem hlk)
          have d3 : y2.world.cell? ⟨b3, o3 + k, none⟩ = some (.int .i64 (choicesL mk)[k]) := by rw [World.cell?_of_block (w := z.world) (hag.2 b3 i3.lt hne), hd3]
          have j3 : BlockIn y2.world b3 := BlockIn.of_cell d3
          have hsz := hag.1
          have hlt3 : ((ckL P p).take k).length ≤ 1099511627776 := by have := List.length_take_le k (ckL P p); omega
          have Htk := Lib.hid htake
          have hk3 : (k : Int) < (choicesL mk).length := by omega
          have Hmem := Lib.hid hmem
          clear hmem htake
          generalize (choicesL mk)[k] = mo at *
          by_cases hn1 : p + 1 < P.length
          · have hcn := cst_next (P := P) (p := p) hn1 Hmem.out
            simp only at hcn
            unfold lx at hcn
            rw [if_neg (by omega)] at hcn
            have hz := zall.out (p + 1) hn1 (by omega)
            have hsn := hz.1.agree hz.2 hag
            have d2 : y2.world.cell? ⟨b, p + 1, none⟩ = some (F (p + 1)) := by
              have := hrow2.cell hn1
              rwa [if_neg (by omega)] at this
            have jb : BlockIn y2.world b := BlockIn.of_cell d2
            obtain ⟨bc', off', _, e4, ib', hd4⟩ := HI.out (p + 1) hn1
            obtain ⟨⟨rfl, rfl⟩, -⟩ : (bc = bc' ∧ off = off') ∧ _ := by simpa using e4
            clear e4
            have hmm1 := Hmk.out P[p + 1] (List.getElem_mem (by omega))
            have HCh1 := Lib.hid (fun w' => r11Choices_any P[p + 1] hmm1.1 hmm1.2 w')
            have HRr := Lib.hid (fun W (g : Grew y2.world W) vd (sd : SlAt W vd (choicesL P[p + 1]).length ((choicesL P[p + 1]).flatMap intC)) => is_int (k := .i64) hcn.symm (r11Rest_any mo (cst P (p + 1)) (HB.out (p + 1) (by omega)) vd (F (p + 1)) W (by rw [cst_len P (p + 1) hn1, cst_fst P (p + 1) hn1]; exact sd) (by have := hsn.grew g; rwa [show (ckL P (p + 1)).length = (cst P (p + 1)).length by simp [ckL]] at this)))
            have hp2 : (p : Int) + 1 < P.length := by omega
            have hwp : IntKind.i64.wrap ((p : Int) + 1) = (p : Int) + 1 := by simp [IntKind.wrap, IntKind.bits, IntKind.signed]; omega
            have hp3 : (0 : Int) ≤ (p : Int) + 1 := by omega
            have hp4 : ((p : Int) + 1).toNat = p + 1 := by omega
            clear hcn hsn hz
            generalize P[p + 1] = mk2 at *
            go_wp2
            go_region_held3 (fun w' => w'.cell? ⟨b3, o3 + k, none⟩ = some (.int .i64 mo) ∧ w'.cell? ⟨bc, off + (p + 1), none⟩ = some (.int .i64 mk2) ∧ w'.cell? ⟨b, p + 1, none⟩ = some (F (p + 1)))
              (exact ⟨by (first | (go_simp; done)), by (first | (go_simp; done)), by (first | (go_simp; done))⟩)
              (first | (go_at_call 32; (with_reducible refine (HCh1.out _).mono ?_); rintro e w1 ⟨vd, rfl, sd, gd⟩; obtain ⟨z2, rfl⟩ := later_of gd; clear gd) | (go_at_call 33; (with_reducible refine call_later (HRr.out _ (by repeat (first | with_reducible exact Grew.refl _ | with_reducible apply Grew.alloc | with_reducible apply Grew.later | with_reducible apply Grew.drew | with_reducible apply Grew.store | with_reducible assumption)) _ sd) ?_); intro u2))
            have kg : Grew y2.world u2.world := (show Grew y2.world u2.world from (by repeat (first | with_reducible exact Grew.refl _ | with_reducible apply Grew.alloc | with_reducible apply Grew.later | with_reducible apply Grew.drew | with_reducible apply Grew.store | with_reducible assumption)))
            have krow := hrow2.of_block (w' := u2.world) (Below.block kg b hrow2.lt)
            have kown := owns_grew hown kg
            have kag := hag.grew kg
            have ksz : z.world.heap.size ≤ (u2.world).heap.size := kag.1
            have kgw : Grew w u2.world := y2.grew.trans kg
            have kc : (u2.world).cell? ⟨b, p, none⟩ = some vp := by have := krow.cell hpl; rwa [if_pos rfl] at this
            have kb : BlockIn u2.world b := BlockIn.of_cell kc
            go_wp2_with (at_builtin; refine wpList_app_int2 _ z.world.heap.size ksz rfl _ _ rfl vp _ kown rfl _ _ rfl hlt3 ?_; intro v' w1 hown' hgrow hvb; obtain ⟨aw, mw, cw, rfl⟩ := sl_is (SlAt.of_owns hown'); have r1 := row_grown krow hgrow hvb zlt; have e1 := r1.cell hpl; have e2 := r1.frozen p; simp only [if_true] at e1; have a1 := (kag.grew ((Grew.refl _).alloc _)).grown hgrow (fun c hc => hvb c hc); have g1 := (kgw.alloc _).grown hgrow (fun c hc => by have := hvb c hc; omega))
            have nw : NewFor w b := ⟨q2⟩
            go_roundw
            case rel =>
              refine ⟨k + 1, .slice aw mw cw, by go_num, by omega, (r1.set p _).congr fun q hq => ?_, ?_, a1.setCell _ _, (by repeat (first | with_reducible exact Grew.refl _ | with_reducible apply Grew.alloc | with_reducible apply Grew.later | with_reducible apply Grew.drew | with_reducible apply Grew.store | with_reducible assumption))⟩
              · by_cases h : q = p
                · simp [h]
                · simp [h]
              · rw [Htk.out]
                exact ownsRow_setCell_below hown' zlt _
            case measure => simp [intOf]; omega
          · have hc0 := Hmem.out
            rw [cst_is P p hpl] at hc0
            obtain ⟨c', -, hc1⟩ := List.mem_map.1 hc0
            rw [if_pos (by omega)] at hc1
            obtain rfl : c = 0 := by simpa using congrArg Prod.snd hc1.symm
            have hp2 : ¬ (p : Int) + 1 < P.length := by omega
            clear hc0 hc1
            have kg : Grew y2.world y2.world := Grew.refl _
            have krow := hrow2.of_block (w' := y2.world) (Below.block kg b hrow2.lt)
            have kown := owns_grew hown kg
            have kag := hag.grew kg
            have ksz : z.world.heap.size ≤ (y2.world).heap.size := kag.1
            have kgw : Grew w y2.world := y2.grew.trans kg
            have kc : (y2.world).cell? ⟨b, p, none⟩ = some vp := by have := krow.cell hpl; rwa [if_pos rfl] at this
            have kb : BlockIn y2.world b := BlockIn.of_cell kc
            go_wp2_with (at_builtin; refine wpList_app_int2 _ z.world.heap.size ksz rfl _ _ rfl vp _ kown rfl _ _ rfl hlt3 ?_; intro v' w1 hown' hgrow hvb; obtain ⟨aw, mw, cw, rfl⟩ := sl_is (SlAt.of_owns hown'); have r1 := row_grown krow hgrow hvb zlt; have e1 := r1.cell hpl; have e2 := r1.frozen p; simp only [if_true] at e1; have a1 := (kag.grew ((Grew.refl _).alloc _)).grown hgrow (fun c hc => hvb c hc); have g1 := (kgw.alloc _).grown hgrow (fun c hc => by have := hvb c hc; omega))
            have nw : NewFor w b := ⟨q2⟩
            go_roundw
            case rel =>
              refine ⟨k + 1, .slice aw mw cw, by go_num, by omega, (r1.set p _).congr fun q hq => ?_, ?_, a1.setCell _ _, (by repeat (first | with_reducible exact Grew.refl _ | with_reducible apply Grew.alloc | with_reducible apply Grew.later | with_reducible apply Grew.drew | with_reducible apply Grew.store | with_reducible assumption))⟩
              · by_cases h : q = p
                · simp [h]
                · simp [h]
              · rw [Htk.out]
                exact ownsRow_setCell_below hown' zlt _
            case measure => simp [intOf]; omega
        · obtain rfl : k = (choicesL mk).length := by omega
          rw [← Hck.out, List.take_length] at hown
          go_wp2
          go_roundw
          case rel =>
            refine ⟨j + 1, _, congrArg (Value.int .i64) (by omega), by omega, hrow2, fun q h1 h2 => ?_, fun q h => ?_, (by repeat (first | with_reducible exact Grew.refl _ | with_reducible apply Grew.alloc | with_reducible apply Grew.later | with_reducible apply Grew.drew | with_reducible apply Grew.store | with_reducible assumption))⟩
            · by_cases h : q = p
              · rw [if_pos h, h]
                exact ⟨SlAt.of_owns hown, above_owns hown zlt⟩
              · rw [if_neg h]
                have hz := zall.out q h1 (by omega)
                exact ⟨hz.1.agree hz.2 hag, hz.2⟩
            · rw [if_neg (by omega)]
              exact hnil q (by omega)
          case measure => first | (simp [intOf]; done) | (simp [intOf]; omega)
    · have hj' : (P.length : Int) - 1 - j < 0 := by omega
      have hall2 : ∀ q, q < P.length → SlAt y.world (F q) (ckL P q).length ((ckL P q).flatMap intC) := fun q hq => (hall q hq (by omega)).1
      have hrow' := hrow
      obtain ⟨bc, off, cap', e1, ib, hd⟩ := HI.out 0 (by omega)
      obtain ⟨rfl, rfl⟩ : ao = some ⟨bc, off, none⟩ ∧ cap = cap' := by simpa using e1
      have hp1 : 0 < P.length := by omega
      simp only [Nat.add_zero] at hd
      clear e1 hall hnil
      have hmm0 := Hmk.out P[0] (List.getElem_mem hp1)
      have HCh := Lib.hid (fun w' => r11Choices_any P[0] hmm0.1 hmm0.2 w')
      have hF0 := hall2 0 hp1
      have k0 : y.world.cell? ⟨b, 0, none⟩ = some (F 0) := hrow.cell hp1
      have jb : BlockIn y.world b := BlockIn.of_cell k0
      have hck0 : 0 < (ckL P 0).length := by
        rw [ckL_len P 0 hp1]
        exact List.length_pos_iff.2 (choices_some _ hmm0.1 hmm0.2)
      have HL := Lib.hid (fun W (g : Grew y.world W) => r11Least_any (ckL P 0) (F 0) W (hF0.grew g) hck0)
      have hlt0 := leastN_lt (ckL P 0) (ckL P 0).length hck0
      have hbl := best_least (cst P 0) (fun x hx => (HB.out 0 (by omega) x hx).1) (ckL P 0).length hck0 (by simp [ckL])
      rw [show (cst P 0).take (ckL P 0).length = cst P 0 by unfold ckL; rw [List.length_map, List.take_length]] at hbl
      have hcl0 := ckL_len P 0 hp1
      obtain ⟨c0, hg0, hm0⟩ := cst_get P 0 hp1 (leastN (ckL P 0) (ckL P 0).length) (by omega)
      have hs0 : selO P 0 = ((choicesL P[0])[leastN (ckL P 0) (ckL P 0).length]'(by omega), c0) := by
        show best (cst P 0) = _
        exact hbl.trans hg0
      have hs1 : (ckL P 0)[leastN (ckL P 0) (ckL P 0).length]'hlt0 = c0 := by
        exact (List.getElem_map (fun x : Int × Int => x.2)).trans (congrArg Prod.snd hg0)
      obtain ⟨bf, of, cf, ef, jf, hdf⟩ := int_cell hF0 (leastN (ckL P 0) (ckL P 0).length) hlt0
      rw [hs1] at hdf
      rw [ef] at k0
      have hl1 : leastN (ckL P 0) (ckL P 0).length < (choicesL P[0]).length := by omega
      have HIc := Lib.hid (fun W vc (sc : SlAt W vc (choicesL P[0]).length ((choicesL P[0]).flatMap intC)) => show ∃ b off cap, vc = .slice (some ⟨b, off, none⟩) (choicesL P[0]).length cap ∧ BlockIn W b ∧ W.cell? ⟨b, off + leastN (ckL P 0) (ckL P 0).length, none⟩ = some (.int .i64 (selO P 0).1) from by
        have := int_cell sc _ hl1
        rw [hs0]
        exact this)
      rw [ef] at HL
      have hc0 : c0 = (selO P 0).2 := by rw [hs0]
      subst hc0
      have hl2 : (leastN (ckL P 0) (ckL P 0).length : Int) < (choicesL P[0]).length := by omega
      have hl3 : (leastN (ckL P 0) (ckL P 0).length : Int) < (ckL P 0).length := by omega
      have Hm0 := Lib.hid (show ((selO P 0).1, (selO P 0).2) ∈ cst P 0 from by rw [hs0]; exact hm0)
      clear hs0 hs1 hbl hg0 hm0 hcl0 hF0
      generalize P[0] = mk at *
      generalize leastN (ckL P 0) (ckL P 0).length = l0 at *
      go_wp2_with (first | (go_at_call 32; (with_reducible refine (HCh.out _).mono ?_); rintro e w1 ⟨vc, rfl, sc, gc⟩; obtain ⟨z, rfl⟩ := later_of gc; clear gc; obtain ⟨b3, o3, c3, rfl, j3, h3⟩ := HIc.out _ _ sc) | (go_at_call 34; (with_reducible refine call_later (HL.out _ (by repeat (first | with_reducible exact Grew.refl _ | with_reducible apply Grew.alloc | with_reducible apply Grew.later | with_reducible apply Grew.drew | with_reducible apply Grew.store | with_reducible assumption))) ?_); intro u2))
      have HF := Lib.hid hall2
      have HRow := Lib.hid hrow'
      clear hall2 hrow' hrow HCh HL HIc
      go_loopw [13, 15, 16] (fun v13 v15 t wr => ∃ (i : Nat) (v : Value) (c : Int), t = .int .i64 ((i : Int) + 1) ∧ v = v13 ∧ v15 = .int .i64 c ∧ i + 1 ≤ P.length ∧ ((selO P i).1, c) ∈ cst P i ∧ wr.ownsRow u2.world.heap.size 3 1 v (planTo P (i + 1)).length ((planTo P (i + 1)).flatMap intC) ∧ Grew u2.world wr) (fun _ _ t _ => P.length - (intOf t).toNat)
      case atStart => exact ⟨0, _, _, rfl, rfl, rfl, by omega, Hm0.out, World.ownsRow_lit u2.world #[.int .i64 (selO P 0).1] 1 (Nat.le_refl _) (by simp [maxLen]) rfl, (by repeat (first | with_reducible exact Grew.refl _ | with_reducible apply Grew.alloc | with_reducible apply Grew.later | with_reducible apply Grew.drew | with_reducible apply Grew.store | with_reducible assumption))⟩
      case round =>
        obtain ⟨i, v, c, rfl, rfl, rfl, hi, hm, hown, hg⟩ := hrel
        obtain ⟨y3, rfl⟩ := later_of hg
        clear hg
        have hplen := planTo_len P (i + 1)
        by_cases hlt3 : i + 1 < P.length
        · obtain ⟨bc', off', _, e4, ib', hd4⟩ := HI.out (i + 1) hlt3
          obtain ⟨⟨rfl, rfl⟩, -⟩ : (bc = bc' ∧ off = off') ∧ _ := by simpa using e4
          clear e4
          have hmm1 := Hmk.out P[i + 1] (List.getElem_mem (by omega))
          have HCh1 := Lib.hid (fun w' => r11Choices_any P[i + 1] hmm1.1 hmm1.2 w')
          have HEnd := Lib.hid (fun k (hk : (choicesL P[i + 1]).length ≤ k) h => notYet_end HC.out hlt3 hm hk h)
          have HFound := Lib.hid (fun k x hx he h => notYet_found (k := k) (x := x) HC.out hlt3 hm hx he h)
          have HSum := Lib.hid (fun k (hk : k < (choicesL P[i + 1]).length) => show ∃ q, ((choicesL P[i + 1])[k], q) ∈ cst P (i + 1) ∧ (∃ bf of cf, F (i + 1) = .slice (some ⟨bf, of, none⟩) (ckL P (i + 1)).length cf ∧ BlockIn y.world bf ∧ y.world.cell? ⟨bf, of + k, none⟩ = some (.int .i64 q)) ∧ (behind (selO P i).1 (cst P (i + 1)))[k]? = some ((choicesL P[i + 1])[k], q + chg (selO P i).1 (choicesL P[i + 1])[k]) from by
            obtain ⟨q, h1, h2, h3⟩ := sums_get P (selO P i).1 (i + 1) hlt3 k hk
            have hkl : k < (ckL P (i + 1)).length := by rw [ckL_len P (i + 1) hlt3]; exact hk
            obtain ⟨bf, of, cf, e, jf, hdf⟩ := int_cell (HF.out (i + 1) hlt3) k hkl
            rw [h2] at hdf
            exact ⟨q, h1, ⟨bf, of, cf, e, jf, hdf⟩, by rw [← h3, List.getElem?_eq_getElem]⟩)
          have HcL := Lib.hid (ckL_len P (i + 1) hlt3)
          obtain ⟨bq, oq, cq, rfl, iq, hq⟩ := int_cell (SlAt.of_owns hown) i (by omega)
          rw [planTo_get P (i + 1) i (by omega)] at hq
          have hown2 : y3.world.ownsRow u2.world.heap.size 3 1 (.slice (some ⟨bq, oq, none⟩) (i + 1) cq) (planTo P (i + 1)).length ((planTo P (i + 1)).flatMap intC) := by
            have := hown
            rw [hplen] at this ⊢
            exact this
          have kF : y.world.cell? ⟨b, i + 1, none⟩ = some (F (i + 1)) := HRow.out.cell hlt3
          have Hs := Lib.hid (planTo_succ P (i + 1))
          have hp2 : (i : Int) + 1 < P.length := by omega
          have hpl5 : (planTo P (i + 1)).length ≤ 1099511627776 := by omega
          have hi1 : i < (planTo P (i + 1)).length := by omega
          have hc4 := HB.out i (by omega) _ hm
          simp only at hc4
          have hcl5 := choicesL_len P[i + 1]
          clear hown hm
          generalize P[i + 1] = mk2 at *
          go_wp2_with (first | (go_at_call 32; (with_reducible refine (HCh1.out _).mono ?_); rintro e w1 ⟨vd, rfl, sd, gd⟩; obtain ⟨z4, rfl⟩ := later_of gd; clear gd; obtain ⟨aod, capd, rfl, hmd⟩ := sl_form sd))
          have HId := Lib.hid (fun k hk => int_cell sd k hk)
          clear sd
          go_loopw [13, 15, 18] (fun v13 v15 t wr => ∃ (k : Nat), t = .int .i64 k ∧ v13 = .slice (some ⟨bq, oq, none⟩) (i + 1) cq ∧ v15 = .int .i64 c ∧ k ≤ (choicesL mk2).length ∧ NotYet P (i + 1) (selO P i).1 c k ∧ Grew z4.world wr) (fun _ _ t _ => (choicesL mk2).length - (intOf t).toNat)
          case atStart => exact ⟨0, rfl, by first | rfl | rw [hplen], rfl, by omega, fun j x hj => by omega, (by repeat (first | with_reducible exact Grew.refl _ | with_reducible apply Grew.alloc | with_reducible apply Grew.later | with_reducible apply Grew.drew | with_reducible apply Grew.store | with_reducible assumption))⟩
          case round =>
            obtain ⟨k, rfl, rfl, rfl, hk, hny, hg⟩ := hrel
            obtain ⟨y4, rfl⟩ := later_of hg
            clear hg
            by_cases hlk : k < (choicesL mk2).length
            · obtain ⟨q, hmem, ⟨bf2, of2, cf2, eF, jf2, hdf2⟩, hx⟩ := HSum.out k hlk
              obtain ⟨b5, o5, c5, e5, i5, hd5⟩ := HId.out k hlk
              obtain ⟨rfl, rfl⟩ : aod = some ⟨b5, o5, none⟩ ∧ capd = c5 := by simpa using e5
              clear e5
              rw [eF] at kF
              have hq4 := HB.out (i + 1) (by omega) _ hmem
              simp only at hq4
              have HCg := Lib.hid (fun w' => r11Change_any (selO P i).1 (choicesL mk2)[k] w')
              have hcg := chg_bd (selO P i).1 (choicesL mk2)[k]
              have hkf : k < (ckL P (i + 1)).length := by rw [HcL.out]; exact hlk
              have Hny := Lib.hid hny
              have Hx := Lib.hid hx
              have Hmem := Lib.hid hmem
              clear hny hx hmem
              generalize (choicesL mk2)[k] = mo at *
              by_cases heq : q + chg (selO P i).1 mo = c
              · have hsel := HFound.out k _ Hx.out heq Hny.out
                have Hsel := Lib.hid (congrArg Prod.fst hsel)
                clear hsel
                have heq' : (q + chg (selO P i).1 mo == c) = true := by simp [heq]
                generalize chg (selO P i).1 mo = cg at *
                generalize (selO P i).1 = own at *
                go_wp2_with (first | (go_at_call 35; (with_reducible refine call_later (HCg.out _) ?_); intro u) | (at_builtin; refine wpList_app_int u2.world _ (by repeat (first | with_reducible exact Grew.refl _ | with_reducible apply Grew.alloc | with_reducible apply Grew.later | with_reducible apply Grew.drew | with_reducible apply Grew.store | with_reducible assumption)) rfl _ _ rfl _ _ (owns_grew hown2 (by repeat (first | with_reducible exact Grew.refl _ | with_reducible apply Grew.alloc | with_reducible apply Grew.later | with_reducible apply Grew.drew | with_reducible apply Grew.store | with_reducible assumption))) rfl _ _ rfl hpl5 ?_; intro v' y5 hown') | ((with_reducible refine wp_region_later ?_ ?_ ?_); (· kernel_rfl); (· kernel_rfl); (repeat (go_big_quiet_step ((first | (go_at_call 35; (with_reducible exact call_quiet (HCg.out _))))))); refine wpQuiet_nil ?_; rintro _ ⟨u, rfl⟩))
                all_goals
                  go_roundw
                  case rel => exact ⟨i + 1, v', q, by go_num, rfl, rfl, by omega, by rw [Hsel.out]; exact Hmem.out, by rw [Hs.out, Hsel.out]; exact hown', (by repeat (first | with_reducible exact Grew.refl _ | with_reducible apply Grew.alloc | with_reducible apply Grew.later | with_reducible apply Grew.drew | with_reducible apply Grew.store | with_reducible assumption))⟩
                  case measure => first | (simp [intOf]; done) | (simp [intOf]; omega)
              · have Hst := Lib.hid (notYet_step Hx.out heq Hny.out)
                have heq' : (q + chg (selO P i).1 mo == c) = false := by simp [heq]
                clear heq
                generalize chg (selO P i).1 mo = cg at *
                generalize (selO P i).1 = own at *
                go_wp2_with (first | (go_at_call 35; (with_reducible refine call_later (HCg.out _) ?_); intro u) | ((with_reducible refine wp_region_later ?_ ?_ ?_); (· kernel_rfl); (· kernel_rfl); (repeat (go_big_quiet_step ((first | (go_at_call 35; (with_reducible exact call_quiet (HCg.out _))))))); refine wpQuiet_nil ?_; rintro _ ⟨u, rfl⟩))
                all_goals
                  go_roundw
                  case rel => exact ⟨k + 1, by go_num, rfl, rfl, by omega, Hst.out, (by repeat (first | with_reducible exact Grew.refl _ | with_reducible apply Grew.alloc | with_reducible apply Grew.later | with_reducible apply Grew.drew | with_reducible apply Grew.store | with_reducible assumption))⟩
                  case measure => first | (simp [intOf]; done) | (simp [intOf]; omega)
            · exact (HEnd.out k (by omega) hny).elim
        · have he : i + 1 = P.length := by omega
          have hi5 : ¬ ((i : Int) + 1 < P.length) := by omega
          have Hs := Lib.hid (SlAt.of_owns hown)
          rw [he] at Hs
          go_wp2
          go_ret3
          exact RetPlan.full HN.out HC.out HR.out Hs.out (by repeat (first | with_reducible exact Grew.refl _ | with_reducible apply Grew.alloc | with_reducible apply Grew.later | with_reducible apply Grew.drew | with_reducible apply Grew.store | with_reducible assumption))
end Go.Proofs.Ytgjikdhidakloaa
