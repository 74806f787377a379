/-
  Contract: abort.Plan.
-/
import Derived.Test.YtgjikdhidakloaaPlanNext
import Derived.Deep.RegionHeld3
import Derived.Test.YtgjikdhidakloaaRow
namespace Go.Proofs.Ytgjikdhidakloaa
open Go.RowKit
set_option maxRecDepth 100000
set_option maxHeartbeats 8000000
/-- The first places of the plan. -/
def planTo (P : List Int) (k : Nat) : List Int := (List.range k).map fun i => (selO P i).1
theorem planTo_len (P : List Int) (k : Nat) : (planTo P k).length = k := by simp [planTo]
theorem planTo_succ (P : List Int) (k : Nat) : planTo P (k + 1) = planTo P k ++ [(selO P k).1] := by simp [planTo, List.range_succ]
theorem planTo_get (P : List Int) (k : Nat) (j : Nat) (h : j < k) : (planTo P k)[j]'(by rw [planTo_len]; exact h) = (selO P j).1 := by simp [planTo]
def planR (P : List Int) : List Int := if masksCode P = 0 then planL P else []
def planNR (P : List Int) : Int := if masksCode P = 0 then planN P else 0
/-- What Plan hands back. -/
def RetPlan (P : List Int) (w : World) (e : Ending) (w' : World) : Prop :=
  ∃ v, e = .returned (.tuple #[v, .int .i64 (planNR P), .int .i64 (masksCode P)]) ∧ SlAt w' v (planR P).length ((planR P).flatMap intC) ∧ Grew w w'
theorem RetPlan.full {P l : List Int} {w w' : World} {v : Value} {n c : Int} (h1 : planNR P = n) (h2 : masksCode P = c) (h3 : planR P = l) (hs : SlAt w' v l.length (l.flatMap intC)) (g : Grew w w') : RetPlan P w (.returned (.tuple #[v, .int .i64 n, .int .i64 c])) w' := by
  subst h1 h2 h3
  exact ⟨v, rfl, hs, g⟩
theorem masks_ok {P : List Int} (h : masksCode P = 0) : P.length ≤ 4096 ∧ ∀ m ∈ P, 0 ≤ m ∧ m < 65536 := by
  unfold masksCode at h
  split at h
  · rename_i hl
    refine ⟨hl, fun m hm => ?_⟩
    cases ha : P.all maskB
    · rw [ha] at h; exact absurd h (by decide)
    · have := List.all_eq_true.1 ha m hm
      unfold maskB at this
      simp at this
      omega
  · exact absurd h (by decide)
theorem no_cell {w : World} {b n : Nat} {f : Int → Int → Int} (h : CostAt w b n f) (i : Nat) : w.cell? ⟨b, i, none⟩ = none := by
  obtain ⟨D, ⟨es, clock, hb, -⟩, -⟩ := h
  simp [World.cell?, hb]
theorem cell_kept {w w' : World} {b n : Nat} {f : Int → Int → Int} (h : CostAt w b n f) (g : w.grownBy w' (some b)) {c i : Nat} {x : Value} (hx : w.cell? ⟨c, i, none⟩ = some x) : w'.cell? ⟨c, i, none⟩ = some x := by
  rw [g.cell_far _ (World.block_lt_of_cell? w _ hx) (fun e => by
    simp only [Option.some.injEq] at e
    subst e
    rw [no_cell h i] at hx
    cases hx), hx]
theorem sl_kept {w w' : World} {b n : Nat} {f : Int → Int → Int} (h : CostAt w b n f) (g : w.grownBy w' (some b)) {v : Value} {m : Nat} {xs : List Value} (hx : SlAt w v m xs) : SlAt w' v m xs := by
  obtain ⟨ao, cap, h1, h0, h2⟩ := hx
  refine ⟨ao, cap, h1, h0, fun i x hx => ?_⟩
  obtain ⟨b', off, h3, h4⟩ := h2 i x hx
  exact ⟨b', off, h3, cell_kept h g h4⟩
theorem cst_next {P : List Int} {p : Nat} (hp : p + 1 < P.length) {x : Int × Int} (hx : x ∈ cst P p) : x.2 = (best (lx P (p + 1) x.1)).2 := by
  rw [cst_is P p (by omega)] at hx
  obtain ⟨c, -, rfl⟩ := List.mem_map.1 hx
  simp only
  rw [if_neg (by omega)]
  unfold lx
  rw [if_neg (by omega)]
theorem cst_all {P : List Int} (h : masksCode P = 0) (p : Nat) (hp : p ≤ P.length) : ∀ x ∈ cst P p, 0 ≤ x.2 ∧ x.2 ≤ 4096 := by
  obtain ⟨h1, h2⟩ := masks_ok h
  intro x hx
  have := cst_bd P (fun m hm => choices_some m (h2 m hm).1 (h2 m hm).2) (P.length - p) p (by omega) x hx
  omega
theorem cst_take {P : List Int} {p : Nat} (hp : p < P.length) {k : Nat} (hk : k < (choicesL P[p]).length) : ∃ c, ((choicesL P[p])[k], c) ∈ cst P p ∧ (cst P p).take (k + 1) = (cst P p).take k ++ [((choicesL P[p])[k], c)] := by
  obtain ⟨c, e, hm⟩ := cst_get P p hp k hk
  refine ⟨c, hm, ?_⟩
  rw [List.take_succ_eq_append_getElem (by rw [cst_len P p hp]; exact hk), e]
theorem abPlan_any (P : List Int) (v : Value) (w : World) (hP : SlAt w v P.length (P.flatMap intC)) : Calls Try.prog 7 #[v] w (RetPlan P w) := by
  have HM := Lib.hid (fun w' (g : Grew w w') => abMasks_any P v w' (hP.grew g))
  by_cases hc : masksCode P = 0
  rotate_left
  · have HR := Lib.hid (show planR P = [] by unfold planR; rw [if_neg hc])
    have HN := Lib.hid (show planNR P = 0 by unfold planNR; rw [if_neg hc])
    obtain ⟨ao, cap, rfl, hm⟩ := sl_form hP
    have hc' : (masksCode P != 0) = true := by simp [hc]
    clear hc hP
    unfold RetPlan
    rw [HR.out, HN.out]
    generalize masksCode P = c at *
    go_enter Try.func7, Try.ntmps7
    go_wp2_with (first | (go_at_call 28; (with_reducible refine call_later (HM.out _ (by repeat (first | with_reducible exact Grew.refl _ | with_reducible apply Grew.alloc | with_reducible apply Grew.later | with_reducible apply Grew.drew | with_reducible apply Grew.store | with_reducible assumption))) ?_); intro u) | ((with_reducible refine wp_region_later ?_ ?_ ?_); (· kernel_rfl); (· kernel_rfl); (repeat (go_big_quiet_step ((first | (go_at_call 28; (with_reducible exact call_quiet (HM.out _ (by repeat (first | with_reducible exact Grew.refl _ | with_reducible apply Grew.alloc | with_reducible apply Grew.later | with_reducible apply Grew.drew | with_reducible apply Grew.store | with_reducible assumption))))))))); refine wpQuiet_nil ?_; rintro _ ⟨u, rfl⟩))
    go_ret3
    exact ⟨_, rfl, SlAt.nil _, (by repeat (first | with_reducible exact Grew.refl _ | with_reducible apply Grew.alloc | with_reducible apply Grew.later | with_reducible apply Grew.drew | with_reducible apply Grew.store | with_reducible assumption))⟩
  have HR := Lib.hid (show planR P = planTo P P.length by unfold planR; rw [if_pos hc]; rfl)
  have HN := Lib.hid (show planNR P = planN P by unfold planNR; rw [if_pos hc])
  have HC := Lib.hid hc
  obtain ⟨hl, hmk⟩ := masks_ok hc
  have Hmk := Lib.hid hmk
  have HP := Lib.hid hP
  have HI := Lib.hid (fun k hk => int_cell hP k hk)
  have HB := Lib.hid (fun p hp => cst_all hc p hp)
  obtain ⟨ao, cap, rfl, hm⟩ := sl_form hP
  clear hmk hc hP
  have hmm := @run_makeMap Try.prog
  go_enter Try.func7, Try.ntmps7
  go_wp2_with (first | (go_at_call 28; (with_reducible refine call_later (is_int HC.out (HM.out _ (by repeat (first | with_reducible exact Grew.refl _ | with_reducible apply Grew.alloc | with_reducible apply Grew.later | with_reducible apply Grew.drew | with_reducible apply Grew.store | with_reducible assumption)))) ?_); intro u) | ((with_reducible refine wp_region_later ?_ ?_ ?_); (· kernel_rfl); (· kernel_rfl); (repeat (go_big_quiet_step ((first | (go_at_call 28; (with_reducible exact call_quiet (is_int HC.out (HM.out _ (by repeat (first | with_reducible exact Grew.refl _ | with_reducible apply Grew.alloc | with_reducible apply Grew.later | with_reducible apply Grew.drew | with_reducible apply Grew.store | with_reducible assumption)))))))))); refine wpQuiet_nil ?_; rintro _ ⟨u, rfl⟩))
  refine wp_to_later (z := w) (by repeat (first | with_reducible exact Grew.refl _ | with_reducible apply Grew.alloc | with_reducible apply Grew.later | with_reducible apply Grew.drew | with_reducible apply Grew.store | with_reducible assumption)) ?_
  intro y0 hy0
  have q1 : y0.world.cell? ⟨w.heap.size, 0, none⟩ = some (.slice ao P.length cap) := by rw [hy0]; go_simp
  have q2 : y0.world.cell? ⟨u.world.heap.size + 1, 0, none⟩ = some (.map (some u.world.heap.size)) := by rw [hy0]; simp
  have q3 : CostAt y0.world u.world.heap.size 0 (fun _ _ => 0) := by rw [hy0]; exact (CostAt.made u.world).alloc _
  have q4 : w.heap.size ≤ u.world.heap.size := by have := u.grew.size; simp at this; omega
  clear hy0
  generalize hb1 : w.heap.size = b1 at *
  generalize hb2 : u.world.heap.size + 1 = b2 at *
  generalize hbm : u.world.heap.size = bm at *
  clear hb2 hbm
  go_loopw [8] (fun t wr => ∃ (j m : Nat) (f : Int → Int → Int), t = .int .i64 ((P.length : Int) - 2 - j) ∧ (j = 0 ∨ j + 1 ≤ P.length) ∧ m ≤ 16 * j ∧ wr.cell? ⟨b1, 0, none⟩ = some (.slice ao P.length cap) ∧ wr.cell? ⟨b2, 0, none⟩ = some (.map (some bm)) ∧ CostAt wr bm m f ∧ (∀ p, p < P.length → P.length ≤ p + j + 1 → ∀ x ∈ cst P p, f p x.1 = x.2) ∧ Grew w wr) (fun t _ => (intOf t + 2).toNat)
  case atStart =>
    refine ⟨0, 0, _, by simp, .inl rfl, by omega, q1, q2, q3, ?_, y0.grew⟩
    intro p hp hp2 x hx
    rw [cst_is P p hp] at hx
    obtain ⟨c, -, rfl⟩ := List.mem_map.1 hx
    simp only
    rw [if_pos (by omega)]
  case round =>
    obtain ⟨j, m, f, rfl, hj, hmj, c1, c2, hf, hcost, hg⟩ := hrel
    obtain ⟨y, rfl⟩ := later_of hg
    clear hg
    by_cases hlt : j + 2 ≤ P.length
    · obtain ⟨p, hp⟩ : ∃ p : Nat, (P.length : Int) - 2 - j = p := ⟨P.length - 2 - j, by omega⟩
      obtain ⟨bc, off, cap', e1, ib, hd⟩ := HI.out p (by omega)
      obtain ⟨rfl, rfl⟩ : ao = some ⟨bc, off, none⟩ ∧ cap = cap' := by simpa using e1
      clear e1
      have hpl : p + 1 < P.length := by omega
      have hpl' : p < P.length := by omega
      have hp1 : (p : Int) < P.length := by omega
      have hp0 : (0 : Int) ≤ p := by omega
      have hmm0 := Hmk.out P[p] (List.getElem_mem (by omega))
      have HCh := Lib.hid (fun w' => abChoices_any P[p] hmm0.1 hmm0.2 w')
      have HT := Lib.hid (fun k hk => cst_take (P := P) (p := p) hpl' (k := k) hk)
      have HE := Lib.hid (show (cst P p).take (choicesL P[p]).length = cst P p by rw [← cst_len P p (by omega), List.take_length])
      have HCB := Lib.hid (choicesL_bd P[p])
      have hcl := choicesL_len P[p]
      have HN := Lib.hid (fun x hx => cst_next (P := P) (p := p) hpl (x := x) hx)
      have HBp := Lib.hid (HB.out p (by omega))
      have ib1 : BlockIn y.world b1 := BlockIn.of_cell c1
      have ib2 : BlockIn y.world b2 := BlockIn.of_cell c2
      generalize P[p] = mk at *
      rw [hp]
      go_wp2_with (first | (go_at_call 30; (with_reducible refine (HCh.out _).mono ?_); rintro e w1 ⟨vc, rfl, sc, gc⟩; obtain ⟨z, rfl⟩ := later_of gc; clear gc; obtain ⟨aoc, capc, rfl, hmc⟩ := sl_form sc))
      have c1z := z.grew.cell c1
      have c2z := z.grew.cell c2
      have hfz := hf.grew z.grew
      go_loopw [35] (fun t wr => ∃ (k m' : Nat) (f' : Int → Int → Int), t = .int .i64 k ∧ k ≤ (choicesL mk).length ∧ m' ≤ 16 * j + k ∧ wr.cell? ⟨b1, 0, none⟩ = some (.slice (some ⟨bc, off, none⟩) P.length cap) ∧ wr.cell? ⟨b2, 0, none⟩ = some (.map (some bm)) ∧ CostAt wr bm m' f' ∧ (∀ q : Nat, q < P.length → p < q → ∀ x ∈ cst P q, f' q x.1 = x.2) ∧ (∀ x ∈ (cst P p).take k, f' p x.1 = x.2) ∧ SlAt wr (.slice aoc (choicesL mk).length capc) (choicesL mk).length ((choicesL mk).flatMap intC) ∧ Grew w wr) (fun t _ => (choicesL mk).length - (intOf t).toNat)
      case atStart => exact ⟨0, m, f, rfl, by omega, by omega, c1z, c2z, hfz, fun q h1 h2 => hcost q h1 (by omega), fun x hx => by simp at hx, sc, y.grew.trans z.grew⟩
      case round =>
        obtain ⟨k, m', f', rfl, hk, hm', d1, d2, hf', hA, hB, hsl, hg⟩ := hrel
        obtain ⟨y2, rfl⟩ := later_of hg
        clear hg
        by_cases hlk : k < (choicesL mk).length
        · obtain ⟨b3, o3, c3, e3, i3, he⟩ := int_cell hsl k hlk
          cases e3
          obtain ⟨c, hmem, htake⟩ := HT.out k hlk
          have hce := HN.out _ hmem
          have hcb := HBp.out _ hmem
          have hmb := HCB.out _ (List.getElem_mem hlk)
          simp only at hce hcb
          generalize (choicesL mk)[k] = mo at *
          have hX : ∀ W, Grew y2.world W → Calls Try.prog 29 #[.int .i64 ((p : Int) + 1), .int .i64 mo, .pointer (some ⟨b1, 0, none⟩), .pointer (some ⟨b2, 0, none⟩)] W (fun e w' => e = .returned (.tuple #[.int .i64 (best (lx P (p + 1) mo)).1, .int .i64 (best (lx P (p + 1) mo)).2]) ∧ Grew W w') := fun W g => by
            have := next_any P hl Hmk.out (p + 1) hpl mo W b1 b2 bm m' f' _ (HP.out.grew (y2.grew.trans g)) (g.cell d1) (g.cell d2) (hf'.grew g) (hA (p + 1) hpl (by omega)) (HB.out (p + 1) (by omega))
            rw [show ((p + 1 : Nat) : Int) = (p : Int) + 1 from by simp] at this
            exact this
          rw [← hce] at hX
          have HX := Lib.hid hX
          have hw1 := wf_of p (by omega) (by omega)
          have hw2 := wf_of mo (by omega) (by omega)
          have hw3 := wf_of c (by omega) (by omega)
          have hmlt : m' < 1099511627776 := by omega
          have hwp : IntKind.i64.wrap ((p : Int) + 1) = (p : Int) + 1 := by simp [IntKind.wrap, IntKind.bits, IntKind.signed]; omega
          have HAB := Lib.hid (And.intro hA hB)
          have HCe := Lib.hid hce
          have Htk := Lib.hid htake
          have i1 : BlockIn y2.world b1 := BlockIn.of_cell d1
          have i2 : BlockIn y2.world b2 := BlockIn.of_cell d2
          clear hX hA hB hce htake hmem hcost
          generalize (best (lx P (p + 1) mo)).1 = mo1 at *
          go_wp2
          go_region_held3 (fun w' => w'.cell? ⟨b2, 0, none⟩ = some (.map (some bm))) (first | (go_simp; done) | exact cell_kept (hf'.grew (show Grew y2.world u2.world from (by repeat (first | with_reducible exact Grew.refl _ | with_reducible apply Grew.alloc | with_reducible apply Grew.later | with_reducible apply Grew.drew | with_reducible apply Grew.store | with_reducible assumption)))) hg1 (u2.grew.cell d2)) (first | (go_at_call 29; (with_reducible refine call_later (HX.out _ (by repeat (first | with_reducible exact Grew.refl _ | with_reducible apply Grew.alloc | with_reducible apply Grew.later | with_reducible apply Grew.drew | with_reducible apply Grew.store | with_reducible assumption))) ?_); intro u2) | (refine upon_update_cost (b := bm) (hf'.grew (by repeat (first | with_reducible exact Grew.refl _ | with_reducible apply Grew.alloc | with_reducible apply Grew.later | with_reducible apply Grew.drew | with_reducible apply Grew.store | with_reducible assumption))) hmlt _ _ _ hw1 hw2 hw3 ?_; intro w1 hn1 hg1; go_simp))
          have k1 := hf'.grew (show Grew y2.world u2.world from (by repeat (first | with_reducible exact Grew.refl _ | with_reducible apply Grew.alloc | with_reducible apply Grew.later | with_reducible apply Grew.drew | with_reducible apply Grew.store | with_reducible assumption)))
          have k2 := u2.grew.cell d1
          have k3 := u2.grew.cell d2
          have k4 := hsl.grew (show Grew y2.world u2.world from (by repeat (first | with_reducible exact Grew.refl _ | with_reducible apply Grew.alloc | with_reducible apply Grew.later | with_reducible apply Grew.drew | with_reducible apply Grew.store | with_reducible assumption)))
          go_wp2
          go_roundw
          case rel =>
            refine ⟨k + 1, m' + 1, _, by go_num, by omega, by omega, cell_kept k1 hg1 k2, cell_kept k1 hg1 k3, hn1, ?_, ?_, sl_kept k1 hg1 k4, Grew.grown (by repeat (first | with_reducible exact Grew.refl _ | with_reducible apply Grew.alloc | with_reducible apply Grew.later | with_reducible apply Grew.drew | with_reducible apply Grew.store | with_reducible assumption)) hg1 (fun i hi => by cases hi; omega)⟩
            · intro q hq hpq x hx
              unfold updF
              rw [if_neg (by omega)]
              exact HAB.out.1 q hq hpq x hx
            · intro x hx
              rw [Htk.out] at hx
              unfold updF
              rcases List.mem_append.1 hx with hx | hx
              · by_cases hxm : x.1 = mo
                · rw [if_pos ⟨rfl, hxm⟩, HCe.out, ← hxm]
                  exact (HN.out x (List.mem_of_mem_take hx)).symm
                · rw [if_neg (fun h => hxm h.2)]
                  exact HAB.out.2 x hx
              · simp only [List.mem_singleton] at hx
                subst hx
                rw [if_pos ⟨rfl, rfl⟩]
          case measure => simp [intOf]; omega
        · obtain rfl : k = (choicesL mk).length := by omega
          rw [HE.out] at hB
          have HAB := Lib.hid (And.intro hA hB)
          clear hA hB
          go_wp2
          go_roundw
          case rel =>
            refine ⟨j + 1, m', f', congrArg (Value.int .i64) (by omega), by omega, by omega, d1, d2, hf', ?_, (by repeat (first | with_reducible exact Grew.refl _ | with_reducible apply Grew.alloc | with_reducible apply Grew.later | with_reducible apply Grew.drew | with_reducible apply Grew.store | with_reducible assumption))⟩
            intro q hq hpq x hx
            by_cases hqp : q = p
            · subst hqp
              exact HAB.out.2 x hx
            · exact HAB.out.1 q hq (by omega) x hx
          case measure => simp [intOf]; omega
    · have hlt' : (P.length : Int) - 2 - j < 0 := by omega
      have hcs : ∀ p, p < P.length → ∀ x ∈ cst P p, f p x.1 = x.2 := fun p hp => hcost p hp (by omega)
      have Hcs := Lib.hid hcs
      have ib1 : BlockIn y.world b1 := BlockIn.of_cell c1
      have ib2 : BlockIn y.world b2 := BlockIn.of_cell c2
      clear hcost hcs hj
      go_wp2
      go_loopw [2, 3, 54] (fun v2 v3 t wr => ∃ (k : Nat) (v : Value), t = .int .i64 k ∧ v = v2 ∧ v3 = .int .i64 (if k = 0 then 0 else planN P) ∧ k ≤ P.length ∧ wr.ownsRow y.world.heap.size 3 1 v (planTo P k).length ((planTo P k).flatMap intC) ∧ Grew y.world wr) (fun _ _ t _ => P.length - (intOf t).toNat)
      case atStart => exact ⟨0, _, rfl, rfl, rfl, by omega, World.ownsRow_nil _ _ _ _, (by repeat (first | with_reducible exact Grew.refl _ | with_reducible apply Grew.alloc | with_reducible apply Grew.later | with_reducible apply Grew.drew | with_reducible apply Grew.store | with_reducible assumption))⟩
      case round =>
        obtain ⟨k, v, rfl, rfl, rfl, hk, hown, hg⟩ := hrel
        obtain ⟨y2, rfl⟩ := later_of hg
        clear hg
        by_cases hlk : k < P.length
        · have hX : ∀ own W, Grew y2.world W → Calls Try.prog 29 #[.int .i64 (k : Int), .int .i64 own, .pointer (some ⟨b1, 0, none⟩), .pointer (some ⟨b2, 0, none⟩)] W (fun e w' => e = .returned (.tuple #[.int .i64 (best (lx P k own)).1, .int .i64 (best (lx P k own)).2]) ∧ Grew W w') := fun own W g =>
            next_any P hl Hmk.out k hlk own W b1 b2 bm m f _ (HP.out.grew (y.grew.trans (y2.grew.trans g))) ((y2.grew.trans g).cell c1) ((y2.grew.trans g).cell c2) (hf.grew (y2.grew.trans g)) (Hcs.out k hlk) (HB.out k (by omega))
          have hs := planTo_succ P k
          have hpl := planTo_len P k
          have hpn : planN P = (selO P 0).2 := by unfold planN; rw [if_neg (by omega)]
          by_cases h0 : k = 0
          · have hlx : best (lx P k (-1)) = selO P k := by subst h0; rfl
            have hX1 := hX (-1)
            rw [hlx] at hX1
            have hv3 : (if k + 1 = 0 then 0 else planN P) = (selO P k).2 := by rw [if_neg (by omega), hpn, h0]
            have h0' : decide ((0 : Int) < (k : Int)) = false := by simp [h0]
            have h0'' : ((k : Int) == 0) = true := by simp [h0]
            have HX := Lib.hid hX1
            have Hs := Lib.hid hs
            have Hv := Lib.hid hv3
            have H0 := Lib.hid h0
            clear hX hX1 hlx hs hv3 hpn h0
            generalize selO P k = s at *
            go_wp2_with (first | (go_at_call 29; (with_reducible refine call_later (HX.out _ (by repeat (first | with_reducible exact Grew.refl _ | with_reducible apply Grew.alloc | with_reducible apply Grew.later | with_reducible apply Grew.drew | with_reducible apply Grew.store | with_reducible assumption))) ?_); intro u2) | (at_builtin; refine wpList_app_int y.world _ (by repeat (first | with_reducible exact Grew.refl _ | with_reducible apply Grew.alloc | with_reducible apply Grew.later | with_reducible apply Grew.drew | with_reducible apply Grew.store | with_reducible assumption)) rfl _ _ rfl _ _ (owns_grew hown u2.grew) rfl _ _ rfl (by omega) ?_; intro v' y3 hown'))
            all_goals
              go_roundw
              case rel => exact ⟨k + 1, _, by go_num, rfl, by rw [Hv.out], by omega, by rw [Hs.out]; exact hown', (by repeat (first | with_reducible exact Grew.refl _ | with_reducible apply Grew.alloc | with_reducible apply Grew.later | with_reducible apply Grew.drew | with_reducible apply Grew.store | with_reducible assumption))⟩
              case measure => simp [intOf]; omega
          · obtain ⟨q, rfl⟩ : ∃ q, k = q + 1 := ⟨k - 1, by omega⟩
            obtain ⟨bq, oq, cq, rfl, iq, hq⟩ := int_cell (SlAt.of_owns hown) q (by omega)
            rw [planTo_get P (q + 1) q (by omega)] at hq
            have hX1 := hX (selO P q).1
            have hlx : best (lx P (q + 1) (selO P q).1) = selO P (q + 1) := by unfold lx; rw [if_neg h0]; rfl
            rw [hlx] at hX1
            have HX := Lib.hid hX1
            have Hs := Lib.hid hs
            have hpl' : (planTo P (q + 1)).length ≤ 1099511627776 := by omega
            have hq1 : (q : Int) + 1 < P.length := by omega
            have hq2 : q < (planTo P (q + 1)).length := by omega
            have hown2 : y2.world.ownsRow y.world.heap.size 3 1 (.slice (some ⟨bq, oq, none⟩) (q + 1) cq) (planTo P (q + 1)).length ((planTo P (q + 1)).flatMap intC) := by
              have := hown
              rw [hpl] at this ⊢
              exact this
            clear hX hX1 hlx hs hpn h0
            generalize selO P (q + 1) = s at *
            generalize (selO P q).1 = own at *
            simp only [Int.natCast_add, Int.cast_ofNat_Int] at HX
            go_wp2_with (first | (go_at_call 29; (with_reducible refine call_later (HX.out _ (by repeat (first | with_reducible exact Grew.refl _ | with_reducible apply Grew.alloc | with_reducible apply Grew.later | with_reducible apply Grew.drew | with_reducible apply Grew.store | with_reducible assumption))) ?_); intro u2) | (at_builtin; refine wpList_app_int y.world _ (by repeat (first | with_reducible exact Grew.refl _ | with_reducible apply Grew.alloc | with_reducible apply Grew.later | with_reducible apply Grew.drew | with_reducible apply Grew.store | with_reducible assumption)) rfl _ _ rfl _ _ (owns_grew hown2 u2.grew) rfl _ _ rfl hpl' ?_; intro v' y3 hown'))
            all_goals
              go_roundw
              case rel => exact ⟨q + 1 + 1, _, by go_num, rfl, rfl, by omega, by rw [Hs.out]; exact hown', (by repeat (first | with_reducible exact Grew.refl _ | with_reducible apply Grew.alloc | with_reducible apply Grew.later | with_reducible apply Grew.drew | with_reducible apply Grew.store | with_reducible assumption))⟩
              case measure => simp [intOf]; omega
        · obtain rfl : k = P.length := by omega
          have Hs := Lib.hid (SlAt.of_owns hown)
          have Hv := Lib.hid (show (if P.length = 0 then 0 else planN P) = planN P by unfold planN; split <;> rfl)
          have Hv2 := Lib.hid (HN.out.trans Hv.out.symm)
          generalize (if P.length = 0 then 0 else planN P) = cn at *
          go_wp2
          go_ret3
          exact RetPlan.full Hv2.out HC.out HR.out Hs.out (by repeat (first | with_reducible exact Grew.refl _ | with_reducible apply Grew.alloc | with_reducible apply Grew.later | with_reducible apply Grew.drew | with_reducible apply Grew.store | with_reducible assumption))
end Go.Proofs.Ytgjikdhidakloaa
