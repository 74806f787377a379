/-
  Contract of ullageref13.Causes.
-/
import Derived.Test.YtgjikdhidakloaaCauseLeast
namespace Go.Proofs.Ytgjikdhidakloaa
open Go.RowKit
set_option maxRecDepth 100000
set_option maxHeartbeats 16000000
def setsOkB (P : List Int) (K : Nat) : Bool := P.all fun x => decide (1 ≤ x) && decide (x < ((2 ^ K : Nat) : Int))
def causesCode (P : List Int) (n : Int) : Int := if 64 < P.length then 3 else if n < 0 ∨ 12 < n then 2 else codeB (setsOkB P n.toNat) 2
def allHits (sets : List Nat) (K : Nat) : List Nat := (List.range (2 ^ K)).filter (hitsB sets)
def causesR (P : List Int) (n : Int) : List Int := if causesCode P n = 0 then toI (leastR (allHits (P.map Int.toNat) n.toNat) 13) else []
theorem setsOk_get {P : List Int} {K : Nat} (h : setsOkB P K = true) (k : Nat) (hk : k < P.length) : 1 ≤ P[k] ∧ P[k] < ((2 ^ K : Nat) : Int) := by
  have := List.all_eq_true.1 h P[k] (List.getElem_mem hk)
  simpa using this
theorem setsOk_nat {P : List Int} {K : Nat} (h : setsOkB P K = true) : P = toI (P.map Int.toNat) := by
  unfold toI
  rw [List.map_map]
  symm
  conv => rhs; rw [← List.map_id P]
  apply List.map_congr_left
  intro x hx
  have := List.all_eq_true.1 h x hx
  simp at this
  simp
  omega
def hitsT (sets : List Nat) (m k : Nat) : Bool := (sets.take k).all fun s => decide (s &&& m ≠ 0)
theorem hitsT_succ (sets : List Nat) (m k : Nat) (h : k < sets.length) : hitsT sets m (k + 1) = (hitsT sets m k && decide (sets[k] &&& m ≠ 0)) := by
  unfold hitsT
  rw [List.take_succ_eq_append_getElem h, List.all_append]
  simp
def hitsTo (sets : List Nat) (m : Nat) : List Nat := (List.range m).filter (hitsB sets)
theorem hitsTo_succ (sets : List Nat) (m : Nat) : hitsTo sets (m + 1) = if hitsB sets m = true then hitsTo sets m ++ [m] else hitsTo sets m := by
  unfold hitsTo
  rw [List.range_succ, List.filter_append]
  by_cases hb : hitsB sets m = true
  · rw [if_pos hb, List.filter_cons, if_pos hb]; rfl
  · rw [if_neg hb, List.filter_cons, if_neg hb]; simp
theorem hitsTo_len (sets : List Nat) (m : Nat) : (hitsTo sets m).length ≤ m := by
  unfold hitsTo
  refine Nat.le_trans (List.length_filter_le _ _) ?_
  simp
theorem RetIntsC.full {l m : List Int} {c d : Int} {v : Value} {w w' : World} (h : m = l) (hc : d = c) (hs : SlAt w' v m.length (m.flatMap intC)) (hg : Grew w w') : RetIntsC l c w (.returned (.tuple #[v, .int .i64 d])) w' := by
  subst h hc
  exact ⟨v, rfl, hs, hg⟩
theorem r13Causes_any (P : List Int) (n : Int) (hn8 : n ≤ 8 ∨ 12 < n) (v : Value) (w : World) (h : SlAt w v P.length (P.flatMap intC)) : Calls Try.prog 26 #[v, .int .i64 n] w (RetIntsC (causesR P n) (causesCode P n) w) := by
  have HI := Lib.hid (fun k hk => int_cell h k hk)
  obtain ⟨ao, cap, rfl, hm⟩ := sl_form h
  clear h
  by_cases hl : 64 < P.length
  · have hC : causesCode P n = 3 := by unfold causesCode; rw [if_pos hl]
    have HR := Lib.hid (show [] = causesR P n by unfold causesR; rw [if_neg (by rw [hC]; decide)])
    have HC := Lib.hid hC.symm
    clear hC
    have hl' : (64 : Int) < P.length := by omega
    go_enter Try.func26, Try.ntmps26
    go_wp2
    go_ret2
    exact RetIntsC.full HR.out HC.out (SlAt.nil _) (by repeat (first | with_reducible exact Grew.refl _ | with_reducible apply Grew.alloc | with_reducible apply Grew.later | with_reducible apply Grew.drew | with_reducible apply Grew.store | with_reducible assumption))
  have hl' : ¬ ((64 : Int) < P.length) := by omega
  by_cases hn : n < 0 ∨ 12 < n
  · have hC : causesCode P n = 2 := by unfold causesCode; rw [if_neg hl, if_pos hn]
    have HR := Lib.hid (show [] = causesR P n by unfold causesR; rw [if_neg (by rw [hC]; decide)])
    have HC := Lib.hid hC.symm
    clear hC
    by_cases hn0 : n < 0
    all_goals
      go_enter Try.func26, Try.ntmps26
      go_wp2
      go_ret2
      exact RetIntsC.full HR.out HC.out (SlAt.nil _) (by repeat (first | with_reducible exact Grew.refl _ | with_reducible apply Grew.alloc | with_reducible apply Grew.later | with_reducible apply Grew.drew | with_reducible apply Grew.store | with_reducible assumption))
  have hn0 : ¬ n < 0 := fun h => hn (.inl h)
  have hn12 : ¬ 12 < n := fun h => hn (.inr h)
  obtain ⟨K, rfl⟩ : ∃ K : Nat, n = K := ⟨n.toNat, by omega⟩
  have hK : K ≤ 8 := by omega
  have HP := Lib.hid (fun w' => r13Power_any K (by omega) w')
  have hC : causesCode P K = codeB (setsOkB P K) 2 := by unfold causesCode; rw [if_neg hl, if_neg hn]; rfl
  have hpw : 2 ^ K ≤ 256 := Nat.le_trans (Nat.pow_le_pow_right (by omega) hK) (by decide)
  clear hn hn8 hl
  cases hok : setsOkB P K
  · rw [hok] at hC
    have hC' : causesCode P K = 2 := hC
    clear hC
    have HR := Lib.hid (show [] = causesR P K by unfold causesR; rw [if_neg (by rw [hC']; decide)])
    have HC := Lib.hid hC'.symm
    have Hall := Lib.hid (show ¬ ∀ k (hk : k < P.length), 1 ≤ P[k] ∧ P[k] < ((2 ^ K : Nat) : Int) by
      intro hall
      have : setsOkB P K = true := by
        unfold setsOkB
        rw [List.all_eq_true]
        intro x hx
        obtain ⟨i, hi, e⟩ := List.mem_iff_getElem.1 hx
        rw [← e]
        have := hall i hi
        simp only [Bool.and_eq_true, decide_eq_true_eq]
        exact this
      rw [hok] at this
      cases this)
    clear hC' hok
    generalize 2 ^ K = q at *
    go_enter Try.func26, Try.ntmps26
    go_wp2
    go_loopw [6] (fun t wr => ∃ k : Nat, t = .int .i64 k ∧ k ≤ P.length ∧ (∀ i (hi : i < P.length), i < k → 1 ≤ P[i] ∧ P[i] < (q : Int)) ∧ Grew w wr) (fun t _ => P.length - (intOf t).toNat)
    case atStart => exact ⟨0, rfl, by omega, fun i _ hi => by omega, (by repeat (first | with_reducible exact Grew.refl _ | with_reducible apply Grew.alloc | with_reducible apply Grew.later | with_reducible apply Grew.drew | with_reducible apply Grew.store | with_reducible assumption))⟩
    case round =>
      obtain ⟨k, rfl, hk, hbe, hg⟩ := hrel
      obtain ⟨y, rfl⟩ := later_of hg
      clear hg
      by_cases hlt : k < P.length
      · obtain ⟨b, off, cap', e, hbi, hcell⟩ := HI.out k hlt
        cases e
        have Hbe := Lib.hid (fun (hx : 1 ≤ P[k] ∧ P[k] < (q : Int)) i (hi : i < P.length) (hik : i < k + 1) => show 1 ≤ P[i] ∧ P[i] < (q : Int) by
          by_cases e : i = k
          · subst e; exact hx
          · exact hbe i hi (by omega))
        clear hbe
        generalize P[k] = x at *
        by_cases h1 : x < 1
        · go_wp2_with (first | (go_at_call 55; (with_reducible refine call_later (HP.out _) ?_); intro u) | ((with_reducible refine wp_region_later ?_ ?_ ?_); (· kernel_rfl); (· kernel_rfl); (repeat (go_big_quiet_step ((first | (go_at_call 55; (with_reducible exact call_quiet (HP.out _))))))); refine wpQuiet_nil ?_; rintro _ ⟨u, rfl⟩))
          go_ret2
          exact RetIntsC.full HR.out HC.out (SlAt.nil _) (by repeat (first | with_reducible exact Grew.refl _ | with_reducible apply Grew.alloc | with_reducible apply Grew.later | with_reducible apply Grew.drew | with_reducible apply Grew.store | with_reducible assumption))
        by_cases h2 : (q : Int) ≤ x
        · go_wp2_with (first | (go_at_call 55; (with_reducible refine call_later (HP.out _) ?_); intro u) | ((with_reducible refine wp_region_later ?_ ?_ ?_); (· kernel_rfl); (· kernel_rfl); (repeat (go_big_quiet_step ((first | (go_at_call 55; (with_reducible exact call_quiet (HP.out _))))))); refine wpQuiet_nil ?_; rintro _ ⟨u, rfl⟩))
          go_ret2
          exact RetIntsC.full HR.out HC.out (SlAt.nil _) (by repeat (first | with_reducible exact Grew.refl _ | with_reducible apply Grew.alloc | with_reducible apply Grew.later | with_reducible apply Grew.drew | with_reducible apply Grew.store | with_reducible assumption))
        · go_wp2_with (first | (go_at_call 55; (with_reducible refine call_later (HP.out _) ?_); intro u) | ((with_reducible refine wp_region_later ?_ ?_ ?_); (· kernel_rfl); (· kernel_rfl); (repeat (go_big_quiet_step ((first | (go_at_call 55; (with_reducible exact call_quiet (HP.out _))))))); refine wpQuiet_nil ?_; rintro _ ⟨u, rfl⟩))
          go_roundw
          case rel => exact ⟨k + 1, by go_num, by omega, Hbe.out ⟨by omega, by omega⟩, (by repeat (first | with_reducible exact Grew.refl _ | with_reducible apply Grew.alloc | with_reducible apply Grew.later | with_reducible apply Grew.drew | with_reducible apply Grew.store | with_reducible assumption))⟩
          case measure => simp [intOf]; omega
      · exact absurd (fun k' hk' => hbe k' hk' (by omega)) Hall.out
  · rw [hok] at hC
    have hC' : causesCode P K = 0 := hC
    clear hC
    have HR0 := (show toI (leastR (allHits (P.map Int.toNat) K) 13) = causesR P K by unfold causesR; rw [if_pos hC']; rfl)
    have HC := Lib.hid hC'.symm
    have hget := setsOk_get hok
    have hnat := setsOk_nat hok
    generalize P.map Int.toNat = sets at *
    subst hnat
    have hsl : (toI sets).length = sets.length := toI_len sets
    have HI' := Lib.hid (fun k (hk : k < sets.length) => show ∃ b off c, Value.slice ao sets.length cap = .slice (some ⟨b, off, none⟩) sets.length c ∧ BlockIn w b ∧ w.cell? ⟨b, off + k, none⟩ = some (.int .i64 (sets[k] : Nat)) by
      obtain ⟨b, off, c, e, h1, h2⟩ := HI.out k (by rw [hsl]; exact hk)
      refine ⟨b, off, c, by rw [← hsl]; exact e, h1, ?_⟩
      rw [h2]
      exact congrArg (fun z : Int => some (Value.int .i64 z)) (List.getElem_map ..))
    have HG := Lib.hid (fun k (hk : k < sets.length) => show 1 ≤ sets[k] ∧ sets[k] < 2 ^ K by
      have := hget k (by rw [hsl]; exact hk)
      have e : (toI sets)[k]'(by rw [hsl]; exact hk) = ((sets[k] : Nat) : Int) := List.getElem_map ..
      rw [e] at this
      omega)
    rw [hsl] at hl' hm ⊢
    have HR := Lib.hid HR0
    clear HR0 hget HI hok hC' hsl
    have Hsucc := Lib.hid (fun m => hitsTo_succ sets m)
    have Hlen := Lib.hid (fun m => hitsTo_len sets m)
    have Hall := Lib.hid (show allHits sets K = hitsTo sets (2 ^ K) from rfl)
    have HTs := Lib.hid (fun m k hk => hitsT_succ sets m k hk)
    have HTe := Lib.hid (fun m => show hitsB sets m = hitsT sets m sets.length by unfold hitsB hitsT; rw [List.take_length])
    have HB := Lib.hid (show ∀ x ∈ allHits sets K, x < 256 by
      intro x hx
      have : x < 2 ^ K := by unfold allHits at hx; simp at hx; exact hx.1
      omega)
    have HLe := Lib.hid (fun v' w' h' => r13Least_any (allHits sets K) HB.out (by rw [Hall.out]; have := Hlen.out (2 ^ K); omega) v' w' h')
    rw [Hall.out] at HLe HR
    generalize 2 ^ K = q at *
    clear HB Hall
    go_enter Try.func26, Try.ntmps26
    go_wp2
    go_loopw [6] (fun t wr => ∃ k : Nat, t = .int .i64 k ∧ k ≤ sets.length ∧ Grew w wr) (fun t _ => sets.length - (intOf t).toNat)
    case atStart => exact ⟨0, rfl, by omega, (by repeat (first | with_reducible exact Grew.refl _ | with_reducible apply Grew.alloc | with_reducible apply Grew.later | with_reducible apply Grew.drew | with_reducible apply Grew.store | with_reducible assumption))⟩
    case round =>
      obtain ⟨k, rfl, hk, hg⟩ := hrel
      obtain ⟨y, rfl⟩ := later_of hg
      clear hg
      by_cases hlt : k < sets.length
      · obtain ⟨b, off, cap', e, hbi, hcell⟩ := HI'.out k hlt
        cases e
        obtain ⟨hx1, hx2⟩ := HG.out k hlt
        generalize sets[k] = x at *
        have h1 : ¬ ((x : Int) < 1) := by omega
        have h2 : ¬ ((q : Int) ≤ x) := by omega
        go_wp2_with (first | (go_at_call 55; (with_reducible refine call_later (HP.out _) ?_); intro u) | ((with_reducible refine wp_region_later ?_ ?_ ?_); (· kernel_rfl); (· kernel_rfl); (repeat (go_big_quiet_step ((first | (go_at_call 55; (with_reducible exact call_quiet (HP.out _))))))); refine wpQuiet_nil ?_; rintro _ ⟨u, rfl⟩))
        go_roundw
        case rel => exact ⟨k + 1, by go_num, by omega, (by repeat (first | with_reducible exact Grew.refl _ | with_reducible apply Grew.alloc | with_reducible apply Grew.later | with_reducible apply Grew.drew | with_reducible apply Grew.store | with_reducible assumption))⟩
        case measure => simp [intOf]; omega
      obtain rfl : k = sets.length := by omega
      go_wp2
      go_loopw [7, 8] (fun v t wr => ∃ (m : Nat) (v7 : Value), t = .int .i64 m ∧ v7 = v ∧ m ≤ q ∧ wr.ownsRow w.heap.size 3 1 v7 (toI (hitsTo sets m)).length ((toI (hitsTo sets m)).flatMap intC) ∧ Grew w wr) (fun _ t _ => q - (intOf t).toNat)
      case atStart => exact ⟨0, _, rfl, rfl, by omega, World.ownsRow_nil _ _ _ _, (by repeat (first | with_reducible exact Grew.refl _ | with_reducible apply Grew.alloc | with_reducible apply Grew.later | with_reducible apply Grew.drew | with_reducible apply Grew.store | with_reducible assumption))⟩
      case round =>
        obtain ⟨m, v7, rfl, rfl, hmq, hown, hg⟩ := hrel
        obtain ⟨z, rfl⟩ := later_of hg
        clear hg
        by_cases hlm : m < q
        rotate_left
        · obtain rfl : m = q := by omega
          have HS := Lib.hid (fun w' (g : Grew z.world w') => (SlAt.of_owns hown).grew g)
          clear hown
          go_wp2_with (first | (go_at_call 55; (with_reducible refine call_later (HP.out _) ?_); intro u) | (go_at_call 57; go_loud (refine (HLe.out v7 _ (HS.out _ (by repeat (first | with_reducible exact Grew.refl _ | with_reducible apply Grew.alloc | with_reducible apply Grew.later | with_reducible apply Grew.drew | with_reducible apply Grew.store | with_reducible assumption)))).mono ?_; rintro e w1 ⟨vr, rfl, sr, gr⟩; obtain ⟨u1, rfl⟩ := later_of gr; clear gr)) | ((with_reducible refine wp_region_later ?_ ?_ ?_); (· kernel_rfl); (· kernel_rfl); (repeat (go_big_quiet_step ((first | (go_at_call 55; (with_reducible exact call_quiet (HP.out _))))))); refine wpQuiet_nil ?_; rintro _ ⟨u, rfl⟩))
          go_ret2
          exact RetIntsC.full HR.out HC.out sr (by repeat (first | with_reducible exact Grew.refl _ | with_reducible apply Grew.alloc | with_reducible apply Grew.later | with_reducible apply Grew.drew | with_reducible apply Grew.store | with_reducible assumption))
        have HM := Lib.hid (fun k (hk : k < sets.length) w' => r13Meet_any m sets[k] (by omega) (by have := (HG.out k hk).2; omega) w')
        go_wp2_with (first | (go_at_call 55; (with_reducible refine call_later (HP.out _) ?_); intro u) | ((with_reducible refine wp_region_later ?_ ?_ ?_); (· kernel_rfl); (· kernel_rfl); (repeat (go_big_quiet_step ((first | (go_at_call 55; (with_reducible exact call_quiet (HP.out _))))))); refine wpQuiet_nil ?_; rintro _ ⟨u, rfl⟩))
        go_loopw [9, 10] (fun v t wr => ∃ k : Nat, t = .int .i64 k ∧ v = .bool (hitsT sets m k) ∧ k ≤ sets.length ∧ Grew u.world wr) (fun _ t _ => sets.length - (intOf t).toNat)
        case atStart => exact ⟨0, rfl, rfl, by omega, (by repeat (first | with_reducible exact Grew.refl _ | with_reducible apply Grew.alloc | with_reducible apply Grew.later | with_reducible apply Grew.drew | with_reducible apply Grew.store | with_reducible assumption))⟩
        case round =>
          obtain ⟨k, rfl, rfl, hk, hg⟩ := hrel
          obtain ⟨z1, rfl⟩ := later_of hg
          clear hg
          by_cases hlt : k < sets.length
          · obtain ⟨b, off, cap', e, hbi, hcell⟩ := HI'.out k hlt
            cases e
            have ht := HTs.out m k hlt
            have Hm := Lib.hid (HM.out k hlt)
            generalize sets[k] = x at *
            generalize decide (x &&& m ≠ 0) = mx at *
            cases hb : hitsT sets m k
            · rw [hb, Bool.false_and] at ht
              have Ht := Lib.hid ht
              clear ht
              go_wp2_with (first | (go_at_call 56; (with_reducible refine call_later (Hm.out _) ?_); intro u) | ((with_reducible refine wp_region_later ?_ ?_ ?_); (· kernel_rfl); (· kernel_rfl); (repeat (go_big_quiet_step ((first | (go_at_call 56; (with_reducible exact call_quiet (Hm.out _))))))); refine wpQuiet_nil ?_; rintro _ ⟨u, rfl⟩))
              go_roundw
              case rel => exact ⟨k + 1, by go_num, by rw [Ht.out], by omega, (by repeat (first | with_reducible exact Grew.refl _ | with_reducible apply Grew.alloc | with_reducible apply Grew.later | with_reducible apply Grew.drew | with_reducible apply Grew.store | with_reducible assumption))⟩
              case measure => simp [intOf]; omega
            · rw [hb, Bool.true_and] at ht
              have Ht := Lib.hid ht
              clear ht
              go_wp2_with (first | (go_at_call 56; (with_reducible refine call_later (Hm.out _) ?_); intro u) | ((with_reducible refine wp_region_later ?_ ?_ ?_); (· kernel_rfl); (· kernel_rfl); (repeat (go_big_quiet_step ((first | (go_at_call 56; (with_reducible exact call_quiet (Hm.out _))))))); refine wpQuiet_nil ?_; rintro _ ⟨u, rfl⟩))
              go_roundw
              case rel => exact ⟨k + 1, by go_num, by rw [Ht.out], by omega, (by repeat (first | with_reducible exact Grew.refl _ | with_reducible apply Grew.alloc | with_reducible apply Grew.later | with_reducible apply Grew.drew | with_reducible apply Grew.store | with_reducible assumption))⟩
              case measure => simp [intOf]; omega
          · obtain rfl : k = sets.length := by omega
            have hs := Hsucc.out m
            rw [HTe.out m] at hs
            have hown2 := owns_grew hown (show Grew z.world z1.world from (by repeat (first | with_reducible exact Grew.refl _ | with_reducible apply Grew.alloc | with_reducible apply Grew.later | with_reducible apply Grew.drew | with_reducible apply Grew.store | with_reducible assumption)))
            have hlen : (toI (hitsTo sets m)).length ≤ 1099511627776 := by
              rw [toI_len]
              have := Hlen.out m
              omega
            cases hb : hitsT sets m sets.length
            · rw [hb, if_neg (by simp)] at hs
              have Hs := Lib.hid hs
              clear hs
              go_wp2
              go_roundw
              case rel => exact ⟨m + 1, _, by go_num, rfl, by omega, by rw [Hs.out]; exact hown2, (by repeat (first | with_reducible exact Grew.refl _ | with_reducible apply Grew.alloc | with_reducible apply Grew.later | with_reducible apply Grew.drew | with_reducible apply Grew.store | with_reducible assumption))⟩
              case measure => simp [intOf]; omega
            · rw [hb, if_pos rfl] at hs
              have Hs := Lib.hid hs
              clear hs
              go_wp2_with (at_builtin; go_loud (refine wpList_app_int w _ (by repeat (first | with_reducible exact Grew.refl _ | with_reducible apply Grew.alloc | with_reducible apply Grew.later | with_reducible apply Grew.drew | with_reducible apply Grew.store | with_reducible assumption)) rfl _ _ rfl _ _ hown2 rfl _ _ rfl hlen ?_; intro v' y2 hown'))
              go_roundw
              case rel => exact ⟨m + 1, _, by go_num, rfl, by omega, by rw [Hs.out, toI_snoc]; exact hown', (by repeat (first | with_reducible exact Grew.refl _ | with_reducible apply Grew.alloc | with_reducible apply Grew.later | with_reducible apply Grew.drew | with_reducible apply Grew.store | with_reducible assumption))⟩
              case measure => simp [intOf]; omega
end Go.Proofs.Ytgjikdhidakloaa
