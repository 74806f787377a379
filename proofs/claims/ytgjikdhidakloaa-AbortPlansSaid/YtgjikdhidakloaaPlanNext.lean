/-
  Contract: the closure of abort.Plan (the best mode at a place).
-/
import Derived.Test.YtgjikdhidakloaaPlanMap
namespace Go.Proofs.Ytgjikdhidakloaa
open Go.RowKit
set_option maxRecDepth 100000
set_option maxHeartbeats 4000000
/-- The costs that the closure looks at. -/
def lx (l : List Int) (p : Nat) (own : Int) : List (Int × Int) := if p = 0 then cst l 0 else behind own (cst l p)
theorem lx_len (l : List Int) (p : Nat) (own : Int) (hp : p < l.length) : (lx l p own).length = (choicesL l[p]).length := by
  unfold lx
  split
  · subst p; rw [cst_len l 0 hp]
  · unfold behind; rw [List.length_map, cst_len l p hp]
theorem cst_get (l : List Int) (p : Nat) (hp : p < l.length) (k : Nat) (hk : k < (choicesL l[p]).length) : ∃ c, (cst l p)[k]'(by rw [cst_len l p hp]; exact hk) = ((choicesL l[p])[k], c) ∧ ((choicesL l[p])[k], c) ∈ cst l p := by
  have h : k < (cst l p).length := by rw [cst_len l p hp]; exact hk
  have h1 : ((cst l p).map (·.1))[k]'(by simpa using h) = (choicesL l[p])[k] := by simp only [cst_fst l p hp]
  rw [List.getElem_map] at h1
  have e : (cst l p)[k] = ((choicesL l[p])[k], (cst l p)[k].2) := by rw [← h1]
  exact ⟨(cst l p)[k].2, e, by rw [← e]; exact List.getElem_mem h⟩
theorem lx_get (l : List Int) (p : Nat) (own : Int) (hp : p < l.length) (k : Nat) (hk : k < (choicesL l[p]).length) : ∃ c, ((choicesL l[p])[k], c) ∈ cst l p ∧ (lx l p own)[k]'(by rw [lx_len l p own hp]; exact hk) = ((choicesL l[p])[k], if p = 0 then c else c + chg own (choicesL l[p])[k]) := by
  obtain ⟨c, e, hm⟩ := cst_get l p hp k hk
  refine ⟨c, hm, ?_⟩
  unfold lx
  by_cases h0 : p = 0
  · subst h0
    simp only [if_true]
    exact e
  · simp only [if_neg h0]
    unfold behind
    rw [List.getElem_map, e]
theorem best_take (L : List (Int × Int)) (k : Nat) (h : k < L.length) : best (L.take (k + 1)) = bestS (best (L.take k)) L[k] := by
  rw [List.take_succ_eq_append_getElem h, best_snoc]
theorem lx_step (l : List Int) (p : Nat) (own : Int) (hp : p < l.length) (k : Nat) (hk : k < (choicesL l[p]).length) : ∃ c, ((choicesL l[p])[k], c) ∈ cst l p ∧ best ((lx l p own).take (k + 1)) = bestS (best ((lx l p own).take k)) ((choicesL l[p])[k], if p = 0 then c else c + chg own (choicesL l[p])[k]) := by
  obtain ⟨c, h1, h2⟩ := lx_get l p own hp k hk
  exact ⟨c, h1, by rw [best_take _ k (by rw [lx_len l p own hp]; exact hk), h2]⟩
theorem next_any (l : List Int) (hl : l.length ≤ 4096) (hmk : ∀ m ∈ l, 0 ≤ m ∧ m < 65536) (p : Nat) (hp : p < l.length) (own : Int) (w : World) (b1 b2 bm n : Nat) (f : Int → Int → Int) (v : Value)
    (hs : SlAt w v l.length (l.flatMap intC)) (h1 : w.cell? ⟨b1, 0, none⟩ = some v) (h2 : w.cell? ⟨b2, 0, none⟩ = some (.map (some bm))) (hc : CostAt w bm n f) (hf : ∀ x ∈ cst l p, f p x.1 = x.2) (hb : ∀ x ∈ cst l p, 0 ≤ x.2 ∧ x.2 ≤ 4096) :
    Calls Try.prog 29 #[.int .i64 p, .int .i64 own, .pointer (some ⟨b1, 0, none⟩), .pointer (some ⟨b2, 0, none⟩)] w fun e w' => e = .returned (.tuple #[.int .i64 (best (lx l p own)).1, .int .i64 (best (lx l p own)).2]) ∧ Grew w w' := by
  obtain ⟨b, off, cap, rfl, ib, hcell⟩ := int_cell hs p hp
  have hmm := hmk l[p] (List.getElem_mem hp)
  have HCh := Lib.hid (fun w' => abChoices_any l[p] hmm.1 hmm.2 w')
  have HX := Lib.hid (fun k (hk : k < (choicesL l[p]).length) => lx_step l p own hp k hk)
  have HE := Lib.hid (show best ((lx l p own).take (choicesL l[p]).length) = best (lx l p own) by rw [← lx_len l p own hp, List.take_length])
  have HF := Lib.hid hf
  have HB := Lib.hid hb
  have HC := Lib.hid (choicesL_bd l[p])
  have hcl := choicesL_len l[p]
  have ib1 : BlockIn w b1 := BlockIn.of_cell h1
  have ib2 : BlockIn w b2 := BlockIn.of_cell h2
  have hpi : (p : Int) < l.length := by omega
  have hpw := wf_of p (by omega) (by omega)
  clear hs hf hb hmm hmk
  generalize l[p] = mk at *
  go_enter Try.func29, Try.ntmps29
  go_wp2_with (first | (go_at_call 30; (with_reducible refine (HCh.out _).mono ?_); rintro e w1 ⟨vc, rfl, sc, gc⟩; obtain ⟨u, rfl⟩ := later_of gc; clear gc; obtain ⟨aoc, capc, rfl, hmc⟩ := sl_form sc))
  have HI := Lib.hid (fun k hk => int_cell sc k hk)
  have hcu := hc.grew u.grew
  clear sc hc
  go_loopw [6, 8, 18] (fun v6 v8 t wr => ∃ k : Nat, t = .int .i64 k ∧ v6 = .int .i64 (best ((lx l p own).take k)).1 ∧ v8 = .int .i64 (best ((lx l p own).take k)).2 ∧ k ≤ (choicesL mk).length ∧ Grew u.world wr) (fun _ _ t _ => (choicesL mk).length - (intOf t).toNat)
  case atStart => exact ⟨0, rfl, rfl, rfl, by omega, (by repeat (first | with_reducible exact Grew.refl _ | with_reducible apply Grew.alloc | with_reducible apply Grew.later | with_reducible apply Grew.drew | with_reducible apply Grew.store | with_reducible assumption))⟩
  case round =>
    obtain ⟨k, rfl, rfl, rfl, hk, hg⟩ := hrel
    obtain ⟨y, rfl⟩ := later_of hg
    clear hg
    by_cases hlt : k < (choicesL mk).length
    · obtain ⟨bc, oc, cc, ec, ic, hd⟩ := HI.out k hlt
      cases ec
      obtain ⟨c, hmem, hT⟩ := HX.out k hlt
      have h3 := HF.out _ hmem
      have h4 := HB.out _ hmem
      have h5 := HC.out _ (List.getElem_mem hlt)
      simp only at h3 h4
      clear hmem
      generalize (choicesL mk)[k] = m at *
      have hmw := wf_of m (by omega) (by omega)
      generalize best ((lx l p own).take k) = s at *
      have Hh3 := Lib.hid h3
      clear h3
      obtain ⟨s1, s2⟩ := s
      by_cases h0 : p = 0
      · rw [if_pos h0] at hT
        have Hn := Lib.hid hT
        have h0' : decide ((0 : Int) < (p : Int)) = false := by simp [h0]
        have Hp0 := Lib.hid h0
        clear hT h0
        go_wp2_with (at_lookup; refine wpList_lookup_cost (hcu.grew y.grew) rfl _ _ rfl rfl _ _ rfl hpw hmw ?_; rw [Hh3.out])
        all_goals
          go_roundw
          case rel => exact ⟨k + 1, by go_num, by rw [Hn.out]; unfold bestS; simp only; split <;> first | rfl | omega | (have := Hp0.out; omega), by rw [Hn.out]; unfold bestS; simp only; split <;> first | rfl | omega | (have := Hp0.out; omega), by omega, (by repeat (first | with_reducible exact Grew.refl _ | with_reducible apply Grew.alloc | with_reducible apply Grew.later | with_reducible apply Grew.drew | with_reducible apply Grew.store | with_reducible assumption))⟩
          case measure => simp [intOf]; omega
      · rw [if_neg h0] at hT
        have hp0 : (0 : Int) < p := by omega
        by_cases hm : m = own
        · subst hm
          have Hn := Lib.hid (show best ((lx l p m).take (k + 1)) = bestS (s1, s2) (m, c) by rw [hT]; simp [chg])
          clear hT
          go_wp2_with (at_lookup; refine wpList_lookup_cost (hcu.grew y.grew) rfl _ _ rfl rfl _ _ rfl hpw hmw ?_; rw [Hh3.out])
          all_goals
            go_roundw
            case rel => exact ⟨k + 1, by go_num, by rw [Hn.out]; unfold bestS; simp only; split <;> first | rfl | omega, by rw [Hn.out]; unfold bestS; simp only; split <;> first | rfl | omega, by omega, (by repeat (first | with_reducible exact Grew.refl _ | with_reducible apply Grew.alloc | with_reducible apply Grew.later | with_reducible apply Grew.drew | with_reducible apply Grew.store | with_reducible assumption))⟩
            case measure => simp [intOf]; omega
        · have hm' : (m != own) = true := by simp [hm]
          have Hn := Lib.hid (show best ((lx l p own).take (k + 1)) = bestS (s1, s2) (m, c + 1) by rw [hT]; unfold chg; rw [if_neg (fun e => hm e.symm)])
          clear hT
          go_wp2_with (at_lookup; refine wpList_lookup_cost (hcu.grew y.grew) rfl _ _ rfl rfl _ _ rfl hpw hmw ?_; rw [Hh3.out])
          all_goals
            go_roundw
            case rel => exact ⟨k + 1, by go_num, by rw [Hn.out]; unfold bestS; simp only; split <;> first | rfl | omega, by rw [Hn.out]; unfold bestS; simp only; split <;> first | rfl | omega, by omega, (by repeat (first | with_reducible exact Grew.refl _ | with_reducible apply Grew.alloc | with_reducible apply Grew.later | with_reducible apply Grew.drew | with_reducible apply Grew.store | with_reducible assumption))⟩
            case measure => simp [intOf]; omega
    · obtain rfl : k = (choicesL mk).length := by omega
      rw [HE.out]
      go_wp2
      go_ret2
      exact ⟨rfl, (by repeat (first | with_reducible exact Grew.refl _ | with_reducible apply Grew.alloc | with_reducible apply Grew.later | with_reducible apply Grew.drew | with_reducible apply Grew.store | with_reducible assumption))⟩
end Go.Proofs.Ytgjikdhidakloaa
