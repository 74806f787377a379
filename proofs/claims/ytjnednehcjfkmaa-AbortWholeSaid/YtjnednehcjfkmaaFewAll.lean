/-
  No plan has fewer changes, and none with as many comes before it: plain law.
  Contracts: ullagelaw11's changes and before.
  Facts of the plan of a list of masks, place by place: plain law.
-/
import Derived.Test.YtjnednehcjfkmaaPlanAll
import Derived.Test.YtjnednehcjfkmaaEvers
namespace Go.Proofs.Ytjnednehcjfkmaa
open Go.RowKit

/-- A list as a function. -/
abbrev lat (l : List Int) (k : Nat) : Int := l[k]?.getD 0
/-- The changes within so many steps behind a place. -/
def chT (o : Nat → Int) : Nat → Nat → Int
  | _, 0 => 0
  | i, d + 1 => chg (o i) (o (i + 1)) + chT o (i + 1) d
/-- The changes within the first places. -/
def chA (o : Nat → Int) : Nat → Int
  | 0 => 0
  | k + 1 => chA o k + (if k = 0 then 0 else chg (o (k - 1)) (o k))
theorem chT_snoc (o : Nat → Int) (i d : Nat) : chT o i (d + 1) = chT o i d + chg (o (i + d)) (o (i + d + 1)) := by
  induction d generalizing i with
  | zero => simp [chT]
  | succ d ih =>
    rw [chT, ih (i + 1), chT, show i + 1 + d = i + (d + 1) by omega]
    omega
theorem chA_all (o : Nat → Int) (d : Nat) : chA o (d + 1) = chT o 0 d := by
  induction d with
  | zero => simp [chA, chT]
  | succ d ih =>
    rw [chA, ih, chT_snoc, if_neg (by omega)]
    simp
theorem chA_bd (o : Nat → Int) (k : Nat) : 0 ≤ chA o k ∧ chA o k ≤ k := by
  induction k with
  | zero => exact ⟨Int.le_refl _, Int.le_refl _⟩
  | succ k ih =>
    rw [chA]
    have := chg_bd (o (k - 1)) (o k)
    split <;> omega
/-- A choice at each place. -/
def Picks (l : List Int) (o : Nat → Int) : Prop := ∀ i (h : i < l.length), o i ∈ choicesL l[i]
/-- What a choice costs, from its place on. -/
def kost (l : List Int) (i : Nat) (c : Int) : Int := if i + 1 = l.length then 0 else (best (behind c (cst l (i + 1)))).2
/-- What a choice costs behind the one before. -/
def pre (o : Nat → Int) (i : Nat) (c : Int) : Int := if i = 0 then 0 else chg (o (i - 1)) c
theorem cst_kost (l : List Int) (i : Nat) (h : i < l.length) : cst l i = (choicesL l[i]).map fun c => (c, kost l i c) := cst_is l i h
theorem best_le (l : List (Int × Int)) (h : ∀ x ∈ l, 0 ≤ x.2) (x : Int × Int) (hx : x ∈ l) : (best l).2 ≤ x.2 := by
  obtain ⟨k, hk, e, h1, -⟩ := best_is l h (List.ne_nil_of_mem hx)
  rw [e]
  exact h1 x hx
section
variable {l : List Int} (hl : ∀ m ∈ l, choicesL m ≠ [])
include hl
theorem cst_pos (i : Nat) : ∀ x ∈ cst l i, 0 ≤ x.2 := by
  intro x hx
  by_cases h : i ≤ l.length
  · exact (cst_bd l hl (l.length - i) i (by omega) x hx).1
  · rw [cst_out l i (by omega)] at hx
    simp at hx
theorem behind_pos (c : Int) (i : Nat) : ∀ x ∈ behind c (cst l i), 0 ≤ x.2 := by
  intro x hx
  obtain ⟨y, hy, rfl⟩ := List.mem_map.1 hx
  have h1 := cst_pos hl i y hy
  have h2 := chg_bd c y.1
  simp only
  omega
theorem kost_le {o : Nat → Int} (ho : Picks l o) (d i : Nat) (hd : i + d + 1 = l.length) : kost l i (o i) ≤ chT o i d := by
  induction d generalizing i with
  | zero =>
    unfold kost
    rw [if_pos (by omega)]
    exact Int.le_refl _
  | succ d ih =>
    have h1 := ih (i + 1) (by omega)
    have h2 : (o (i + 1), kost l (i + 1) (o (i + 1)) + chg (o i) (o (i + 1))) ∈ behind (o i) (cst l (i + 1)) := by
      unfold behind
      rw [cst_kost l (i + 1) (by omega), List.map_map]
      exact List.mem_map.2 ⟨o (i + 1), ho (i + 1) (by omega), rfl⟩
    have h3 := best_le _ (behind_pos hl (o i) (i + 1)) _ h2
    unfold kost
    rw [if_neg (by omega), chT]
    simp only at h3
    omega
/-- What the plan has at a place: the first of the least. -/
theorem sel_is (i : Nat) (h : i < l.length) : ∃ k, ∃ hk : k < (choicesL l[i]).length,
    selO l i = ((choicesL l[i])[k], kost l i (choicesL l[i])[k] + pre (fun j => (selO l j).1) i (choicesL l[i])[k]) ∧
    ∀ j (hj : j < k), kost l i (choicesL l[i])[k] + pre (fun j => (selO l j).1) i (choicesL l[i])[k] < kost l i ((choicesL l[i])[j]'(by omega)) + pre (fun j => (selO l j).1) i ((choicesL l[i])[j]'(by omega)) := by
  have hne := hl _ (List.getElem_mem h)
  cases i with
  | zero =>
    have hc : cst l 0 ≠ [] := by
      rw [cst_kost l 0 h]
      simpa using hne
    obtain ⟨k, hk, e, -, h2⟩ := best_is (cst l 0) (cst_pos hl 0) hc
    have hk' : k < (choicesL l[0]).length := by rw [← cst_len l 0 h]; exact hk
    have he : ∀ j (hj : j < (cst l 0).length), (cst l 0)[j] = ((choicesL l[0])[j]'(by rw [← cst_len l 0 h]; exact hj), kost l 0 ((choicesL l[0])[j]'(by rw [← cst_len l 0 h]; exact hj))) := by
      intro j hj
      simp only [cst_kost l 0 h, List.getElem_map]
    refine ⟨k, hk', ?_, ?_⟩
    · unfold pre
      rw [if_pos rfl, Int.add_zero]
      show best (cst l 0) = _
      rw [e, he k hk]
    · intro j hj
      have := h2 j hj
      rw [he k hk, he j (by omega)] at this
      unfold pre
      simpa using this
  | succ i =>
    have hlen : (behind (selO l i).1 (cst l (i + 1))).length = (choicesL l[i + 1]).length := by
      unfold behind
      rw [List.length_map, cst_len l (i + 1) h]
    have hc : behind (selO l i).1 (cst l (i + 1)) ≠ [] := by
      intro e0
      rw [e0] at hlen
      exact hne (List.length_eq_zero_iff.1 hlen.symm)
    obtain ⟨k, hk, e, -, h2⟩ := best_is _ (behind_pos hl (selO l i).1 (i + 1)) hc
    have he : ∀ j (hj : j < (behind (selO l i).1 (cst l (i + 1))).length), (behind (selO l i).1 (cst l (i + 1)))[j] = ((choicesL l[i + 1])[j]'(by rw [← hlen]; exact hj), kost l (i + 1) ((choicesL l[i + 1])[j]'(by rw [← hlen]; exact hj)) + chg (selO l i).1 ((choicesL l[i + 1])[j]'(by rw [← hlen]; exact hj))) := by
      intro j hj
      unfold behind
      simp only [cst_kost l (i + 1) h, List.getElem_map]
    refine ⟨k, by rw [← hlen]; exact hk, ?_, ?_⟩
    · unfold pre
      rw [if_neg (by omega)]
      show best (behind (selO l i).1 (cst l (i + 1))) = _
      rw [e, he k hk]
      rfl
    · intro j hj
      have := h2 j hj
      rw [he k hk, he j (by omega)] at this
      unfold pre
      simpa using this
theorem sel_picks : Picks l (fun j => (selO l j).1) := by
  intro i h
  obtain ⟨k, hk, e, -⟩ := sel_is hl i h
  simp only
  rw [e]
  exact List.getElem_mem hk
theorem sel_kost (i : Nat) (h : i < l.length) : (selO l i).2 = kost l i (selO l i).1 + pre (fun j => (selO l j).1) i (selO l i).1 := by
  obtain ⟨k, hk, e, -⟩ := sel_is hl i h
  rw [e]
theorem sel_total (d i : Nat) (hd : i + d + 1 = l.length) : kost l i (selO l i).1 = chT (fun j => (selO l j).1) i d := by
  induction d generalizing i with
  | zero =>
    unfold kost
    rw [if_pos (by omega)]
    rfl
  | succ d ih =>
    have h1 := sel_kost hl (i + 1) (by omega)
    have h2 := ih (i + 1) (by omega)
    have h3 : kost l i (selO l i).1 = (selO l (i + 1)).2 := by
      show (if i + 1 = l.length then 0 else (best (behind (selO l i).1 (cst l (i + 1)))).2) = (best (behind (selO l i).1 (cst l (i + 1)))).2
      rw [if_neg (by omega)]
    rw [chT, h3, h1, h2]
    have h4 : pre (fun j => (selO l j).1) (i + 1) (selO l (i + 1)).1 = chg (selO l i).1 (selO l (i + 1)).1 := rfl
    rw [h4]
    omega
/-- The changes of the plan. -/
theorem planN_is : planN l = chA (fun j => (selO l j).1) l.length := by
  unfold planN
  split
  · rename_i h
    rw [h]
    rfl
  · rename_i h
    obtain ⟨d, hd⟩ : ∃ d, l.length = d + 1 := ⟨l.length - 1, by omega⟩
    rw [hd, chA_all, ← sel_total hl d 0 (by omega), sel_kost hl 0 (by omega)]
    unfold pre
    simp
/-- No plan has fewer changes. -/
theorem fewest {o : Nat → Int} (ho : Picks l o) : planN l ≤ chA o l.length := by
  unfold planN
  split
  · exact (chA_bd o _).1
  · rename_i h
    obtain ⟨d, hd⟩ : ∃ d, l.length = d + 1 := ⟨l.length - 1, by omega⟩
    have h1 := kost_le hl ho d 0 (by omega)
    have h2 : (o 0, kost l 0 (o 0)) ∈ cst l 0 := by
      rw [cst_kost l 0 (by omega)]
      exact List.mem_map.2 ⟨o 0, ho 0 (by omega), rfl⟩
    have h3 := best_le _ (cst_pos hl 0) _ h2
    rw [hd, chA_all]
    show (best (cst l 0)).2 ≤ _
    simp only at h3
    omega
end
theorem bits_sorted (m : Int) (k : Nat) : (bitsL m k).Pairwise (· < ·) := by
  unfold bitsL
  rw [List.pairwise_map]
  exact (List.Pairwise.filter _ List.pairwise_lt_range).imp (by intro a b h; omega)
theorem choices_sorted (m : Int) : (choicesL m).Pairwise (· < ·) := by
  unfold choicesL
  split
  · simp
  · exact bits_sorted m 16
section
variable {l : List Int} (hl : ∀ m ∈ l, choicesL m ≠ [])
include hl
/-- As far as another plan is the same, it has no fewer changes left. -/
theorem rest_le {o : Nat → Int} (he : chA o l.length ≤ planN l) : ∀ i d, i + d + 1 = l.length → (∀ j, j < i → o j = (selO l j).1) →
    pre (fun j => (selO l j).1) i (o i) + chT o i d ≤ pre (fun j => (selO l j).1) i (selO l i).1 + chT (fun j => (selO l j).1) i d := by
  intro i
  induction i with
  | zero =>
    intro d hd _
    rw [planN_is hl, show l.length = d + 1 by omega, chA_all, chA_all] at he
    unfold pre
    simpa using he
  | succ i ih =>
    intro d hd hs
    have h1 := ih (d + 1) (by omega) (fun j hj => hs j (by omega))
    have h2 := hs i (by omega)
    rw [chT, chT, h2] at h1
    have h4 : ∀ c, pre (fun j => (selO l j).1) (i + 1) c = chg (selO l i).1 c := fun _ => rfl
    rw [h4, h4]
    omega
/-- A plan with as many changes does not come before it. -/
theorem not_before {o : Nat → Int} (ho : Picks l o) (he : chA o l.length ≤ planN l) (i : Nat) (hi : i < l.length) (hs : ∀ j, j < i → o j = (selO l j).1) : (selO l i).1 ≤ o i := by
  have h1 := rest_le hl he i (l.length - i - 1) (by omega) hs
  have h2 := kost_le hl ho (l.length - i - 1) i (by omega)
  rw [← sel_total hl (l.length - i - 1) i (by omega)] at h1
  obtain ⟨k, hk, e, h3⟩ := sel_is hl i hi
  obtain ⟨j, hj, hoj⟩ := List.mem_iff_getElem.1 (ho i hi)
  rw [e] at h1 ⊢
  simp only at h1 ⊢
  have h5 := List.pairwise_iff_getElem.1 (choices_sorted l[i])
  rcases Nat.lt_trichotomy j k with c | c | c
  · have h4 := h3 j c
    rw [hoj] at h4
    omega
  · subst c
    omega
  · have h4 := h5 k j hk hj c
    omega
end
end Go.Proofs.Ytjnednehcjfkmaa
namespace Go.Proofs.Ytjnednehcjfkmaa
open Go.RowKit
set_option maxRecDepth 100000
set_option maxHeartbeats 8000000
theorem lat_is (l : List Int) (k : Nat) (h : k < l.length) : lat l k = l[k] := by unfold lat; simp [h]
theorem lat_cell {w : World} {v : Value} {l : List Int} (h : SlAt w v l.length (l.flatMap intC)) (k : Nat) (hk : k < l.length) :
    ∃ b off cap, v = .slice (some ⟨b, off, none⟩) l.length cap ∧ BlockIn w b ∧ w.cell? ⟨b, off + k, none⟩ = some (.int .i64 (lat l k)) := by
  rw [lat_is l k hk]
  exact int_cell h k hk
theorem chA_succ (o : Nat → Int) (k : Nat) : chA o (k + 1) = chA o k + (if k = 0 then 0 else chg (o (k - 1)) (o k)) := rfl
theorem changes_any (l : List Int) (v : Value) (w : World) (h : SlAt w v l.length (l.flatMap intC)) : Calls Try.prog 9 #[v] w fun e w' => e = .returned (.int .i64 (chA (lat l) l.length)) ∧ Grew w w' := by
  have HI := Lib.hid (fun k hk => lat_cell h k hk)
  have HB := Lib.hid (chA_bd (lat l))
  obtain ⟨ao, cap, rfl, hm⟩ := sl_form h
  clear h
  go_enter Try.func9, Try.ntmps9
  go_wp2
  go_loopw [3, 7] (fun v t wr => ∃ k : Nat, t = .int .i64 k ∧ v = .int .i64 (chA (lat l) k) ∧ k ≤ l.length ∧ Grew w wr) (fun _ t _ => l.length - (intOf t).toNat)
  case atStart => exact ⟨0, rfl, rfl, by omega, (by repeat (first | with_reducible exact Grew.refl _ | with_reducible apply Grew.alloc | with_reducible apply Grew.later | with_reducible apply Grew.drew | with_reducible apply Grew.store | with_reducible assumption))⟩
  case round =>
    obtain ⟨k, rfl, rfl, hk, hg⟩ := hrel
    obtain ⟨y, rfl⟩ := later_of hg
    clear hg
    by_cases hlt : k < l.length
    · have hs := chA_succ (lat l) k
      obtain ⟨hb1, hb2⟩ := HB.out k
      by_cases h0 : k = 0
      · subst h0
        rw [if_pos rfl, Int.add_zero] at hs
        have Hs := Lib.hid hs
        clear hs
        go_wp2_with (first | ((with_reducible refine wp_region_later ?_ ?_ ?_); (· kernel_rfl); (· kernel_rfl); (repeat (go_big_quiet_step (fail))); refine wpQuiet_nil ?_; rintro _ ⟨u, rfl⟩))
        go_roundw
        case rel => exact ⟨1, by go_num, by rw [Hs.out], by omega, (by repeat (first | with_reducible exact Grew.refl _ | with_reducible apply Grew.alloc | with_reducible apply Grew.later | with_reducible apply Grew.drew | with_reducible apply Grew.store | with_reducible assumption))⟩
        case measure => simp [intOf]; omega
      · obtain ⟨j, rfl⟩ : ∃ j, k = j + 1 := ⟨k - 1, by omega⟩
        rw [if_neg h0, Nat.add_sub_cancel] at hs
        obtain ⟨b1, o1, c1, e1, i1, hd⟩ := HI.out (j + 1) hlt
        obtain ⟨b2, o2, c2, e2, i2, hd2⟩ := HI.out j (by omega)
        cases e1
        cases e2
        have q1 : (j : Int) + 1 < l.length := by omega
        by_cases hc : lat l j = lat l (j + 1)
        · have Hs := Lib.hid (show chA (lat l) (j + 1 + 1) = chA (lat l) (j + 1) by rw [hs]; unfold chg; rw [if_pos hc]; omega)
          have hc' : (lat l (j + 1) != lat l j) = false := by simp [hc]
          clear hs hc h0
          generalize chA (lat l) (j + 1) = n at *
          generalize lat l (j + 1) = p1 at *
          generalize lat l j = p0 at *
          go_wp2_with (first | ((with_reducible refine wp_region_later ?_ ?_ ?_); (· kernel_rfl); (· kernel_rfl); (repeat (go_big_quiet_step (fail))); refine wpQuiet_nil ?_; rintro _ ⟨u, rfl⟩))
          go_roundw
          case rel => exact ⟨j + 1 + 1, by go_num, by rw [Hs.out], by omega, (by repeat (first | with_reducible exact Grew.refl _ | with_reducible apply Grew.alloc | with_reducible apply Grew.later | with_reducible apply Grew.drew | with_reducible apply Grew.store | with_reducible assumption))⟩
          case measure => simp [intOf]; omega
        · have Hs := Lib.hid (show chA (lat l) (j + 1 + 1) = chA (lat l) (j + 1) + 1 by rw [hs]; unfold chg; rw [if_neg hc])
          have hc' : (lat l (j + 1) != lat l j) = true := by simp; exact fun e => hc e.symm
          clear hs hc h0
          generalize chA (lat l) (j + 1) = n at *
          generalize lat l (j + 1) = p1 at *
          generalize lat l j = p0 at *
          go_wp2_with (first | ((with_reducible refine wp_region_later ?_ ?_ ?_); (· kernel_rfl); (· kernel_rfl); (repeat (go_big_quiet_step (fail))); refine wpQuiet_nil ?_; rintro _ ⟨u, rfl⟩))
          go_roundw
          case rel => exact ⟨j + 1 + 1, by go_num, by rw [Hs.out], by omega, (by repeat (first | with_reducible exact Grew.refl _ | with_reducible apply Grew.alloc | with_reducible apply Grew.later | with_reducible apply Grew.drew | with_reducible apply Grew.store | with_reducible assumption))⟩
          case measure => simp [intOf]; omega
    · obtain rfl : k = l.length := by omega
      clear HB
      generalize hn : chA (lat l) l.length = n at *
      have Hn := Lib.hid hn
      clear hn
      go_wp2
      go_ret
      exact ⟨ret_int Hn.out.symm, (by repeat (first | with_reducible exact Grew.refl _ | with_reducible apply Grew.alloc | with_reducible apply Grew.later | with_reducible apply Grew.drew | with_reducible apply Grew.store | with_reducible assumption))⟩
theorem before_no (a b : List Int) (v1 v2 : Value) (w : World) (hl : a.length = b.length) (h1 : SlAt w v1 a.length (a.flatMap intC)) (h2 : SlAt w v2 b.length (b.flatMap intC))
    (hq : ∀ i, i < a.length → (∀ j, j < i → lat a j = lat b j) → lat b i ≤ lat a i) : Calls Try.prog 10 #[v1, v2] w fun e w' => e = .returned (.bool false) ∧ Grew w w' := by
  have HI := Lib.hid (fun k hk => lat_cell h1 k hk)
  have HJ := Lib.hid (fun k hk => lat_cell h2 k hk)
  have HQ := Lib.hid hq
  obtain ⟨ao1, cap1, rfl, hm1⟩ := sl_form h1
  obtain ⟨ao2, cap2, rfl, hm2⟩ := sl_form h2
  clear h1 h2 hq
  go_enter Try.func10, Try.ntmps10
  go_wp2
  go_loopw [8] (fun t wr => ∃ k : Nat, t = .int .i64 k ∧ k ≤ a.length ∧ (∀ j, j < k → lat a j = lat b j) ∧ Grew w wr) (fun t _ => a.length - (intOf t).toNat)
  case atStart => exact ⟨0, rfl, by omega, fun j hj => by omega, (by repeat (first | with_reducible exact Grew.refl _ | with_reducible apply Grew.alloc | with_reducible apply Grew.later | with_reducible apply Grew.drew | with_reducible apply Grew.store | with_reducible assumption))⟩
  case round =>
    obtain ⟨k, rfl, hk, hs, hg⟩ := hrel
    obtain ⟨y, rfl⟩ := later_of hg
    clear hg
    have Hs := Lib.hid hs
    clear hs
    by_cases hlt : k < a.length
    · obtain ⟨b1, o1, c1, e1, i1, hd⟩ := HI.out k hlt
      obtain ⟨b2, o2, c2, e2, i2, hd2⟩ := HJ.out k (by omega)
      cases e1
      cases e2
      have hlt2 : k < b.length := by omega
      have hle := HQ.out k hlt Hs.out
      by_cases hc : lat a k = lat b k
      · have Hs2 := Lib.hid (show ∀ j, j < k + 1 → lat a j = lat b j from fun j hj => by
          by_cases e : j = k
          · subst e; exact hc
          · exact Hs.out j (by omega))
        have hc' : (lat a k != lat b k) = false := by simp [hc]
        clear hc HQ Hs
        generalize lat a k = x1 at *
        generalize lat b k = x2 at *
        go_wp2_with (first | ((with_reducible refine wp_region_later ?_ ?_ ?_); (· kernel_rfl); (· kernel_rfl); (repeat (go_big_quiet_step (fail))); refine wpQuiet_nil ?_; rintro _ ⟨u, rfl⟩))
        go_roundw
        case rel => exact ⟨k + 1, by go_num, by omega, Hs2.out, (by repeat (first | with_reducible exact Grew.refl _ | with_reducible apply Grew.alloc | with_reducible apply Grew.later | with_reducible apply Grew.drew | with_reducible apply Grew.store | with_reducible assumption))⟩
        case measure => simp [intOf]; omega
      · have hc' : (lat a k != lat b k) = true := by simp [hc]
        clear hc HQ Hs
        generalize lat a k = x1 at *
        generalize lat b k = x2 at *
        have hd' : decide (x1 < x2) = false := by simp; omega
        clear hle
        go_wp2_with (first | ((with_reducible refine wp_region_later ?_ ?_ ?_); (· kernel_rfl); (· kernel_rfl); (repeat (go_big_quiet_step (fail))); refine wpQuiet_nil ?_; rintro _ ⟨u, rfl⟩))
        go_ret
        exact ⟨rfl, (by repeat (first | with_reducible exact Grew.refl _ | with_reducible apply Grew.alloc | with_reducible apply Grew.later | with_reducible apply Grew.drew | with_reducible apply Grew.store | with_reducible assumption))⟩
    · go_wp2
      go_ret
      exact ⟨rfl, (by repeat (first | with_reducible exact Grew.refl _ | with_reducible apply Grew.alloc | with_reducible apply Grew.later | with_reducible apply Grew.drew | with_reducible apply Grew.store | with_reducible assumption))⟩
end Go.Proofs.Ytjnednehcjfkmaa
namespace Go.Proofs.Ytjnednehcjfkmaa
open Go.RowKit
theorem chA_congr {o p : Nat → Int} (n : Nat) (h : ∀ i, i < n → o i = p i) : chA o n = chA p n := by
  induction n with
  | zero => rfl
  | succ n ih =>
    rw [chA_succ, chA_succ, ih (fun i hi => h i (by omega))]
    by_cases h0 : n = 0
    · rw [if_pos h0, if_pos h0]
    · rw [if_neg h0, if_neg h0, h (n - 1) (by omega), h n (by omega)]
theorem plan_len (P : List Int) : (planL P).length = P.length := by unfold planL; simp
theorem plan_lat (P : List Int) (i : Nat) (h : i < P.length) : lat (planL P) i = (selO P i).1 := by
  rw [lat_is _ _ (by rw [plan_len]; exact h)]
  unfold planL
  simp
theorem masks_some {P : List Int} (hc : masksCode P = 0) : ∀ m ∈ P, choicesL m ≠ [] := fun m hm => choices_some m ((masks_ok hc).2 m hm).1 ((masks_ok hc).2 m hm).2
theorem plan_num {P : List Int} (hc : masksCode P = 0) : chA (lat (planL P)) (planL P).length = planN P := by
  rw [plan_len, planN_is (masks_some hc)]
  exact chA_congr _ fun i hi => plan_lat P i hi
/-- A choice: none where there is none, one that the mask has else. -/
def Fits (m c : Int) : Prop := (m = 0 ∧ c = -1) ∨ (m ≠ 0 ∧ ∃ j : Nat, j < 16 ∧ c = j ∧ m / 2 ^ j % 2 = 1)
theorem fits_iff (m c : Int) : Fits m c ↔ c ∈ choicesL m := by
  unfold Fits choicesL bitsL
  by_cases h : m = 0
  · rw [if_pos h]
    simp [h]
  · rw [if_neg h]
    simp only [h, false_and, false_or, ne_eq, not_false_eq_true, true_and]
    simp only [List.mem_map, List.mem_filter, List.mem_range, bitB, decide_eq_true_eq]
    constructor
    · rintro ⟨j, h1, h2, h3⟩
      exact ⟨j, ⟨h1, h3⟩, h2.symm⟩
    · rintro ⟨j, ⟨h1, h3⟩, h2⟩
      exact ⟨j, h1, h2.symm, h3⟩
theorem plan_fits {P : List Int} (hc : masksCode P = 0) (i : Nat) (h : i < P.length) : Fits (lat P i) (lat (planL P) i) := by
  rw [fits_iff, plan_lat P i h, lat_is P i h]
  exact sel_picks (masks_some hc) i h
theorem mask_bd {P : List Int} (hc : masksCode P = 0) (i : Nat) (h : i < P.length) : 0 ≤ lat P i ∧ lat P i < 65536 := by
  rw [lat_is P i h]
  exact (masks_ok hc).2 _ (List.getElem_mem h)
theorem gapsAt_more (P : List Int) (k d : Nat) : ∃ r, gapsAt P (k + d) = gapsAt P k ++ r := by
  induction d with
  | zero => exact ⟨[], by simp⟩
  | succ d ih =>
    obtain ⟨r, e⟩ := ih
    rw [show k + (d + 1) = k + d + 1 by omega, gapsAt]
    split
    · exact ⟨r ++ [((k + d : Nat) : Int)], by rw [e, List.append_assoc]⟩
    · exact ⟨r, e⟩
theorem gap_at (P : List Int) (k : Nat) (hk : k < P.length) (h : lat P k = 0) : (gapsAt P k).length < (gapsAt P P.length).length ∧ lat (gapsAt P P.length) (gapsAt P k).length = k ∧ (gapsAt P (k + 1)).length = (gapsAt P k).length + 1 := by
  have e1 : gapsAt P (k + 1) = gapsAt P k ++ [(k : Int)] := by
    rw [gapsAt, if_pos]
    rw [lat_is P k hk] at h
    simp [hk, h]
  obtain ⟨r, e⟩ := gapsAt_more P (k + 1) (P.length - (k + 1))
  rw [show k + 1 + (P.length - (k + 1)) = P.length by omega, e1] at e
  refine ⟨by rw [e]; simp, ?_, by rw [e1]; simp⟩
  unfold lat
  rw [e]
  simp
theorem gap_no (P : List Int) (k : Nat) (hk : k < P.length) (h : lat P k ≠ 0) : (gapsAt P (k + 1)).length = (gapsAt P k).length := by
  rw [gapsAt, if_neg]
  rw [lat_is P k hk] at h
  simpa [hk] using h
/-- A list that fits each mask. -/
def FitsL (P O : List Int) : Prop := O.length ≤ P.length ∧ ∀ i, i < O.length → Fits (lat P i) (lat O i)
theorem fitsL_snoc {P O : List Int} {c : Int} (h : FitsL P O) (hk : O.length < P.length) (hc : Fits (lat P O.length) c) : FitsL P (O ++ [c]) := by
  refine ⟨by simp; omega, fun i hi => ?_⟩
  by_cases e : i < O.length
  · have : lat (O ++ [c]) i = lat O i := by unfold lat; rw [List.getElem?_append_left e]
    rw [this]
    exact h.2 i e
  · have e2 : i = O.length := by simp at hi; omega
    subst e2
    have : lat (O ++ [c]) O.length = c := by unfold lat; simp
    rw [this]
    exact hc
theorem fits_picks {P O : List Int} (h : FitsL P O) (hl : O.length = P.length) : Picks P (lat O) := by
  intro i hi
  rw [← lat_is P i hi, ← fits_iff]
  exact h.2 i (by omega)
theorem fits_least {P O : List Int} (hc : masksCode P = 0) (h : FitsL P O) (hl : O.length = P.length) : planN P ≤ chA (lat O) O.length := by
  rw [hl]
  exact fewest (masks_some hc) (fits_picks h hl)
theorem fits_after {P O : List Int} (hc : masksCode P = 0) (h : FitsL P O) (hl : O.length = P.length) (he : chA (lat O) O.length = planN P) (i : Nat) (hi : i < O.length) (hs : ∀ j, j < i → lat O j = lat (planL P) j) : lat (planL P) i ≤ lat O i := by
  rw [plan_lat P i (by omega)]
  refine not_before (masks_some hc) (fits_picks h hl) (by rw [← hl, he]; exact Int.le_refl _) i (by omega) fun j hj => ?_
  rw [hs j hj, plan_lat P j (by omega)]
/-- A mask that is not 0 has a bit. -/
theorem mask_bit (m : Int) (h0 : 0 < m) (h1 : m < 65536) : ∃ j : Nat, j < 16 ∧ m / 2 ^ j % 2 = 1 := by
  have h := bits_some m h0 h1
  obtain ⟨c, hc⟩ := List.exists_mem_of_ne_nil _ h
  have h2 : c ∈ choicesL m := by unfold choicesL; rw [if_neg (by omega)]; exact hc
  rw [← fits_iff] at h2
  rcases h2 with ⟨h3, -⟩ | ⟨-, j, h4, -, h5⟩
  · omega
  · exact ⟨j, h4, h5⟩
end Go.Proofs.Ytjnednehcjfkmaa
