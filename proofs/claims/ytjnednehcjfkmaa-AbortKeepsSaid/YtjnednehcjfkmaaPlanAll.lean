/-
  The plan with the fewest changes: plain law.
  Contracts: the errors of masks, the choices of a mask, Gaps (abort, ullageref11).
  Contracts: ullageref11's rest and least.
  The map of costs of abort.Plan: laws at its look-up and its store.
  Contract: the closure of abort.Plan (the best mode at a place).
  Contract: abort.Plan.
-/
import Derived.Test.YtjnednehcjfkmaaCore
import Derived.Test.YtjnednehcjfkmaaEvers
import Derived.Deep.OwnRows
import Derived.Maps.Views
import Derived.Maps.OwnOps
import Derived.Maps.OwnSet
import Derived.DeepKeys5
import Derived.RegionTactic
import Derived.Deep.RegionHeld3
import Derived.Test.YtjnednehcjfkmaaRow
namespace Go.Proofs.Ytjnednehcjfkmaa
open Go.RowKit

def bitB (m : Int) (i : Nat) : Bool := decide (m / 2 ^ i % 2 = 1)
/-- The modes of a mask. -/
def bitsL (m : Int) (k : Nat) : List Int := ((List.range k).filter (bitB m)).map (fun i : Nat => (i : Int))
def choicesL (m : Int) : List Int := if m = 0 then [-1] else bitsL m 16
def chg (a b : Int) : Int := if a = b then 0 else 1
/-- One more (mode, cost): the first of the least; a cost below 0 is none. -/
def bestS (s x : Int × Int) : Int × Int := if s.2 < 0 ∨ x.2 < s.2 then x else s
def best (l : List (Int × Int)) : Int × Int := l.foldl bestS (0, -1)
/-- The costs of choices, behind a mode. -/
def behind (own : Int) (l : List (Int × Int)) : List (Int × Int) := l.map fun x => (x.1, x.2 + chg own x.1)
/-- The costs from each place on, for each choice there. -/
def costs : List Int → List (List (Int × Int))
  | [] => []
  | m :: r => (match costs r with
    | [] => (choicesL m).map fun c => (c, 0)
    | l :: _ => (choicesL m).map fun c => (c, (best (behind c l)).2)) :: costs r
/-- .. at a place. -/
def cst (l : List Int) (i : Nat) : List (Int × Int) := (costs l)[i]?.getD []
/-- What a place of the plan has, with its cost: behind a mode there. -/
def selO (l : List Int) : Nat → Int × Int
  | 0 => best (cst l 0)
  | i + 1 => best (behind (selO l i).1 (cst l (i + 1)))
def planL (l : List Int) : List Int := (List.range l.length).map fun i => (selO l i).1
def planN (l : List Int) : Int := if l.length = 0 then 0 else (selO l 0).2
theorem bitsL_succ (m : Int) (k : Nat) : bitsL m (k + 1) = if bitB m k = true then bitsL m k ++ [(k : Int)] else bitsL m k := by
  unfold bitsL
  rw [List.range_succ, List.filter_append, List.map_append]
  by_cases h : bitB m k = true <;> simp [h]
theorem bitsL_len (m : Int) (k : Nat) : (bitsL m k).length ≤ k := by
  unfold bitsL
  rw [List.length_map]
  exact Nat.le_trans (List.length_filter_le _ _) (by simp)
theorem choicesL_len (m : Int) : (choicesL m).length ≤ 16 := by
  unfold choicesL
  split
  · simp
  · exact bitsL_len m 16
theorem choicesL_bd (m : Int) : ∀ c ∈ choicesL m, -1 ≤ c ∧ c < 16 := by
  unfold choicesL bitsL
  intro c hc
  split at hc
  · simp at hc; omega
  · simp at hc; obtain ⟨a, ⟨h, -⟩, rfl⟩ := hc; omega
theorem bits_none (m : Int) : ∀ k : Nat, (∀ i, i < k → m / 2 ^ i % 2 = 0) → ∃ q : Int, m = 2 ^ k * q := by
  intro k
  induction k with
  | zero => intro _; exact ⟨m, by simp⟩
  | succ k ih =>
    intro h
    obtain ⟨q, hq⟩ := ih (fun i hi => h i (by omega))
    have h1 := h k (by omega)
    have hp : (2 : Int) ^ k ≠ 0 := by
      have : (0 : Int) < 2 ^ k := Int.pow_pos (by decide)
      omega
    rw [hq, Int.mul_ediv_cancel_left _ hp] at h1
    refine ⟨q / 2, ?_⟩
    rw [hq, Int.pow_succ, Int.mul_assoc]
    congr 1
    omega
/-- A mask that is not 0 has a mode. -/
theorem bits_some (m : Int) (h0 : 0 < m) (h1 : m < 65536) : bitsL m 16 ≠ [] := by
  intro h
  have hn : ∀ i, i < 16 → m / 2 ^ i % 2 = 0 := by
    intro i hi
    unfold bitsL at h
    rw [List.map_eq_nil_iff, List.filter_eq_nil_iff] at h
    have := h i (by simpa using hi)
    unfold bitB at this
    simp at this
    omega
  obtain ⟨q, hq⟩ := bits_none m 16 hn
  omega
theorem choices_some (m : Int) (h0 : 0 ≤ m) (h1 : m < 65536) : choicesL m ≠ [] := by
  unfold choicesL
  split
  · simp
  · exact bits_some m (by omega) h1
theorem costs_len (l : List Int) : (costs l).length = l.length := by
  induction l with
  | nil => rfl
  | cons m r ih => simp [costs, ih]
theorem cst_cons (m : Int) (r : List Int) (i : Nat) : cst (m :: r) (i + 1) = cst r i := by
  unfold cst
  rw [costs, List.getElem?_cons_succ]
theorem cst_zero (m : Int) (r : List Int) : cst (m :: r) 0 = (choicesL m).map fun c => (c, if r = [] then 0 else (best (behind c (cst r 0))).2) := by
  unfold cst
  rw [costs, List.getElem?_cons_zero, Option.getD_some]
  cases r with
  | nil => simp [costs]
  | cons a r =>
    rw [costs]
    simp
/-- The costs, from behind. -/
theorem cst_is (l : List Int) (i : Nat) (h : i < l.length) : cst l i = (choicesL l[i]).map fun c => (c, if i + 1 = l.length then 0 else (best (behind c (cst l (i + 1)))).2) := by
  induction l generalizing i with
  | nil => simp at h
  | cons m r ih =>
    cases i with
    | zero =>
      rw [cst_zero, cst_cons]
      have : (r = []) = (0 + 1 = (m :: r).length) := by
        cases r <;> simp
      simp only [this]
      rfl
    | succ i =>
      rw [cst_cons, ih i (by simpa using h), cst_cons]
      simp
theorem cst_out (l : List Int) (i : Nat) (h : l.length ≤ i) : cst l i = [] := by
  unfold cst
  rw [List.getElem?_eq_none (by rw [costs_len]; exact h)]
  rfl
theorem cst_fst (l : List Int) (i : Nat) (h : i < l.length) : (cst l i).map (·.1) = choicesL l[i] := by
  rw [cst_is l i h, List.map_map]
  exact List.map_id' _
theorem cst_len (l : List Int) (i : Nat) (h : i < l.length) : (cst l i).length = (choicesL l[i]).length := by rw [← cst_fst l i h, List.length_map]
theorem chg_bd (a b : Int) : 0 ≤ chg a b ∧ chg a b ≤ 1 := by unfold chg; split <;> omega
/-! The best one. -/
theorem foldl_best (l : List (Int × Int)) (h : ∀ x ∈ l, 0 ≤ x.2) (s : Int × Int) (hs : 0 ≤ s.2) :
    (l.foldl bestS s = s ∧ ∀ x ∈ l, s.2 ≤ x.2) ∨ ∃ k, ∃ hk : k < l.length, l.foldl bestS s = l[k] ∧ (∀ x ∈ l, l[k].2 ≤ x.2) ∧ l[k].2 < s.2 ∧ ∀ j (hj : j < k), l[k].2 < (l[j]'(by omega)).2 := by
  induction l generalizing s with
  | nil => exact .inl ⟨rfl, by simp⟩
  | cons y r ih =>
    have hy := h y (by simp)
    have hr : ∀ x ∈ r, 0 ≤ x.2 := fun x hx => h x (by simp [hx])
    rw [List.foldl_cons]
    by_cases c : y.2 < s.2
    · rw [show bestS s y = y by unfold bestS; rw [if_pos (.inr c)]]
      rcases ih hr y hy with ⟨e, h1⟩ | ⟨k, hk, e, h1, h2, h3⟩
      · refine .inr ⟨0, by simp, by simpa using e, ?_, by simpa using c, fun j hj => by omega⟩
        intro x hx
        rcases List.mem_cons.1 hx with rfl | hx
        · simp
        · simpa using h1 x hx
      · refine .inr ⟨k + 1, by simpa using hk, by simpa using e, ?_, by simp; omega, ?_⟩
        · intro x hx
          rcases List.mem_cons.1 hx with rfl | hx
          · simp; omega
          · simpa using h1 x hx
        · intro j hj
          cases j with
          | zero => simpa using h2
          | succ j => simpa using h3 j (by omega)
    · rw [show bestS s y = s by unfold bestS; rw [if_neg (by omega)]]
      rcases ih hr s hs with ⟨e, h1⟩ | ⟨k, hk, e, h1, h2, h3⟩
      · refine .inl ⟨e, ?_⟩
        intro x hx
        rcases List.mem_cons.1 hx with rfl | hx
        · omega
        · exact h1 x hx
      · refine .inr ⟨k + 1, by simpa using hk, by simpa using e, ?_, by simpa using h2, ?_⟩
        · intro x hx
          rcases List.mem_cons.1 hx with rfl | hx
          · simp; omega
          · simpa using h1 x hx
        · intro j hj
          cases j with
          | zero => simp; omega
          | succ j => simpa using h3 j (by omega)
theorem best_is (l : List (Int × Int)) (h : ∀ x ∈ l, 0 ≤ x.2) (h0 : l ≠ []) :
    ∃ k, ∃ hk : k < l.length, best l = l[k] ∧ (∀ x ∈ l, l[k].2 ≤ x.2) ∧ ∀ j (hj : j < k), l[k].2 < (l[j]'(by omega)).2 := by
  cases l with
  | nil => exact absurd rfl h0
  | cons y r =>
    have hy := h y (by simp)
    have hr : ∀ x ∈ r, 0 ≤ x.2 := fun x hx => h x (by simp [hx])
    unfold best
    rw [List.foldl_cons, show bestS (0, -1) y = y by unfold bestS; rw [if_pos (.inl (by decide))]]
    rcases foldl_best r hr y hy with ⟨e, h1⟩ | ⟨k, hk, e, h1, h2, h3⟩
    · refine ⟨0, by simp, by simpa using e, ?_, fun j hj => by omega⟩
      intro x hx
      rcases List.mem_cons.1 hx with rfl | hx
      · simp
      · simpa using h1 x hx
    · refine ⟨k + 1, by simpa using hk, by simpa using e, ?_, ?_⟩
      · intro x hx
        rcases List.mem_cons.1 hx with rfl | hx
        · simp; omega
        · simpa using h1 x hx
      · intro j hj
        cases j with
        | zero => simpa using h2
        | succ j => simpa using h3 j (by omega)
/-- The first that has the least cost is the best one. -/
theorem best_first (l : List (Int × Int)) (h : ∀ x ∈ l, 0 ≤ x.2) (k : Nat) (hk : k < l.length) (h1 : l[k].2 = (best l).2) (h2 : ∀ j (hj : j < k), (l[j]'(by omega)).2 ≠ (best l).2) : best l = l[k] := by
  have h0 : l ≠ [] := by intro e; rw [e] at hk; simp at hk
  obtain ⟨k', hk', e, h3, h4⟩ := best_is l h h0
  rcases Nat.lt_trichotomy k k' with c | c | c
  · have := h4 k c
    rw [e] at h1
    omega
  · subst c; exact e
  · exact absurd (by rw [e]) (h2 k' c)
theorem best_nonneg (l : List (Int × Int)) (h : ∀ x ∈ l, 0 ≤ x.2) (h0 : l ≠ []) : 0 ≤ (best l).2 := by
  obtain ⟨k, hk, e, -⟩ := best_is l h h0
  rw [e]
  exact h _ (List.getElem_mem hk)
theorem best_snoc (l : List (Int × Int)) (x : Int × Int) : best (l ++ [x]) = bestS (best l) x := by
  unfold best
  rw [List.foldl_append]
  rfl
theorem best_bd (l : List (Int × Int)) (n : Int) (hn : 0 ≤ n) (h : ∀ x ∈ l, 0 ≤ x.2 ∧ x.2 ≤ n) : -1 ≤ (best l).2 ∧ (best l).2 ≤ n := by
  by_cases h0 : l = []
  · subst h0; unfold best; simp; omega
  · obtain ⟨k, hk, e, -⟩ := best_is l (fun x hx => (h x hx).1) h0
    rw [e]
    have := h _ (List.getElem_mem hk)
    omega
theorem behind_mem {own : Int} {l : List (Int × Int)} {n : Int} (h : ∀ x ∈ l, 0 ≤ x.2 ∧ x.2 ≤ n) : ∀ x ∈ behind own l, 0 ≤ x.2 ∧ x.2 ≤ n + 1 := by
  intro x hx
  unfold behind at hx
  obtain ⟨y, hy, rfl⟩ := List.mem_map.1 hx
  have := h y hy
  have := chg_bd own y.1
  simp only
  omega
/-- Costs are no numbers below 0, and no more than the places behind. -/
theorem cst_bd (l : List Int) (hl : ∀ m ∈ l, choicesL m ≠ []) : ∀ d i, i + d = l.length → ∀ x ∈ cst l i, 0 ≤ x.2 ∧ x.2 ≤ (d : Int) := by
  intro d
  induction d with
  | zero =>
    intro i hi x hx
    rw [cst_out l i (by omega)] at hx
    simp at hx
  | succ d ih =>
    intro i hi x hx
    rw [cst_is l i (by omega)] at hx
    obtain ⟨c, hc, rfl⟩ := List.mem_map.1 hx
    simp only
    split
    · omega
    · have h1 := behind_mem (own := c) (ih (i + 1) (by omega))
      have h0 : behind c (cst l (i + 1)) ≠ [] := by
        intro e
        unfold behind at e
        rw [List.map_eq_nil_iff] at e
        have := cst_fst l (i + 1) (by omega)
        rw [e] at this
        exact hl _ (List.getElem_mem _) this.symm
      have h2 := best_nonneg _ (fun x hx => (h1 x hx).1) h0
      have h3 := best_bd _ ((d : Int) + 1) (by omega) h1
      omega
end Go.Proofs.Ytjnednehcjfkmaa
namespace Go.Proofs.Ytjnednehcjfkmaa
open Go.RowKit
set_option maxRecDepth 100000
set_option maxHeartbeats 2000000
def maskB (n : Int) : Bool := decide (0 ≤ n) && decide (n ≤ 65535)
def masksCode (P : List Int) : Int := if P.length ≤ 4096 then codeB (P.all maskB) 2 else 3
def gapsAt (P : List Int) : Nat → List Int
  | 0 => []
  | k + 1 => if P[k]?.getD 1 = 0 then gapsAt P k ++ [(k : Int)] else gapsAt P k
def gapsL (P : List Int) : List Int := if masksCode P = 0 then gapsAt P P.length else []
theorem gapsAt_len (P : List Int) (k : Nat) : (gapsAt P k).length ≤ k := by
  induction k with
  | zero => simp [gapsAt]
  | succ k ih =>
    unfold gapsAt
    split
    · simp; exact ih
    · omega
theorem mask_ok (w0 : World) : PredOk 48 #[] maskB w0 := by
  intro w x _
  go_enter Try.func48, Try.ntmps48
  go_wp2
  all_goals go_ret
  all_goals exact ⟨ret_bool (by (first | (simp [maskB, *]; done) | (simp [maskB, *] <;> omega) | (simp [maskB, *]; omega))), (by repeat (first | with_reducible exact Grew.refl _ | with_reducible apply Grew.alloc | with_reducible apply Grew.later | with_reducible apply Grew.drew | with_reducible apply Grew.store | with_reducible assumption))⟩
theorem every_mask (P : List Int) (v : Value) (w : World) (h : SlAt w v P.length (P.flatMap intC)) : Calls Try.prog 45 #[v, .func (.func 48) #[] #[]] w fun e w' => e = .returned (.bool (P.all maskB)) ∧ Grew w w' :=
  everyInt_any maskB 48 #[] (enters_of Try.func48 (by kernel_rfl) rfl) P v w h (mask_ok w)
theorem abMasks_any (P : List Int) (v : Value) (w : World) (h : SlAt w v P.length (P.flatMap intC)) : Calls Try.prog 22 #[v] w fun e w' => e = .returned (.int .i64 (masksCode P)) ∧ Grew w w' := by
  have HE := Lib.hid (fun w' (g : Grew w w') => every_mask P v w' (h.grew g))
  obtain ⟨ao, cap, rfl, hm⟩ := sl_form h
  clear h
  by_cases hl : P.length ≤ 4096
  · cases ha : P.all maskB
    all_goals
      have HR := Lib.hid (show masksCode P = _ from by unfold masksCode; rw [if_pos hl, ha])
      go_enter Try.func22, Try.ntmps22
      go_wp2_with (first | (go_at_call 45; (with_reducible refine call_later (is_bool ha (HE.out _ (by repeat (first | with_reducible exact Grew.refl _ | with_reducible apply Grew.alloc | with_reducible apply Grew.later | with_reducible apply Grew.drew | with_reducible apply Grew.store | with_reducible assumption)))) ?_); intro u) | ((with_reducible refine wp_region_later ?_ ?_ ?_); (· kernel_rfl); (· kernel_rfl); (repeat (go_big_quiet_step ((first | (go_at_call 45; (with_reducible exact call_quiet (is_bool ha (HE.out _ (by repeat (first | with_reducible exact Grew.refl _ | with_reducible apply Grew.alloc | with_reducible apply Grew.later | with_reducible apply Grew.drew | with_reducible apply Grew.store | with_reducible assumption)))))))))); refine wpQuiet_nil ?_; rintro _ ⟨u, rfl⟩))
      go_ret
      exact ⟨ret_int HR.out.symm, (by repeat (first | with_reducible exact Grew.refl _ | with_reducible apply Grew.alloc | with_reducible apply Grew.later | with_reducible apply Grew.drew | with_reducible apply Grew.store | with_reducible assumption))⟩
  · have HR := Lib.hid (show masksCode P = 3 from by unfold masksCode; rw [if_neg hl])
    go_enter Try.func22, Try.ntmps22
    go_wp2
    go_ret
    exact ⟨ret_int HR.out.symm, (by repeat (first | with_reducible exact Grew.refl _ | with_reducible apply Grew.alloc | with_reducible apply Grew.later | with_reducible apply Grew.drew | with_reducible apply Grew.store | with_reducible assumption))⟩
theorem and_one_nat (a : Int) (h0 : 0 ≤ a) (h1 : a ≤ 9223372036854775807) : bits .and .i64 a 1 = a % 2 := by
  obtain ⟨a, rfl⟩ := Int.eq_ofNat_of_zero_le h0
  have ho : (BitVec.ofInt 64 (a : Int)).toNat = a := by simp; omega
  show IntKind.i64.wrap ((BitVec.ofInt 64 (a : Int) &&& BitVec.ofInt 64 1).toNat : Int) = _
  rw [BitVec.toNat_and, ho, show (BitVec.ofInt 64 1).toNat = 1 by decide, Nat.and_one_is_mod]
  simp [IntKind.wrap, IntKind.bits, IntKind.signed]
  omega
theorem half_bits (m : Int) (k : Nat) (h0 : 0 ≤ m) (h1 : m < 65536) : 0 ≤ m / 2 ^ k ∧ m / 2 ^ k < 65536 := by
  have hp : (0 : Int) < 2 ^ k := Int.pow_pos (by decide)
  have h2 := Int.ediv_nonneg h0 (Int.le_of_lt hp)
  have h3 := Int.ediv_le_self (2 ^ k) h0
  omega
theorem half_next (m : Int) (k : Nat) : m / 2 ^ k / 2 = m / 2 ^ (k + 1) := by
  have hp : (0 : Int) < 2 ^ k := Int.pow_pos (by decide)
  rw [Int.ediv_ediv_of_nonneg (Int.le_of_lt hp), ← Int.pow_succ]
theorem abChoices_any (m : Int) (h0 : 0 ≤ m) (h1 : m < 65536) (w : World) : Calls Try.prog 24 #[.int .i64 m] w (RetInts (choicesL m) w) := by
  by_cases hm : m = 0
  · subst hm
    go_enter Try.func24, Try.ntmps24
    go_wp2
    go_ret
    exact ⟨_, rfl, SlAt.fresh _ _ _ _ (by simp [maxLen]), (by repeat (first | with_reducible exact Grew.refl _ | with_reducible apply Grew.alloc | with_reducible apply Grew.later | with_reducible apply Grew.drew | with_reducible apply Grew.store | with_reducible assumption))⟩
  · have HR := Lib.hid (show choicesL m = bitsL m 16 from by unfold choicesL; rw [if_neg hm])
    have hm' : (m == 0) = false := by simp [hm]
    clear hm
    go_enter Try.func24, Try.ntmps24
    go_wp2
    go_loopw [3, 8] (fun v t wr => ∃ (k : Nat) (v3 : Value), t = .int .i64 k ∧ v3 = v ∧ k ≤ 16 ∧ wr.ownsRow w.heap.size 3 1 v3 (bitsL m k).length ((bitsL m k).flatMap intC) ∧ Grew w wr) (fun _ t _ => 16 - (intOf t).toNat)
    case atStart => exact ⟨0, _, rfl, rfl, by omega, World.ownsRow_nil _ _ _ _, (by repeat (first | with_reducible exact Grew.refl _ | with_reducible apply Grew.alloc | with_reducible apply Grew.later | with_reducible apply Grew.drew | with_reducible apply Grew.store | with_reducible assumption))⟩
    case round =>
      obtain ⟨k, v, rfl, rfl, hk, hown, hg⟩ := hrel
      obtain ⟨y, rfl⟩ := later_of hg
      clear hg
      by_cases hlt : k < 16
      · have hb := half_bits m k h0 h1
        have ha := and_one_nat (m / 2 ^ k) hb.1 (by omega)
        have hs := bitsL_succ m k
        have hl := bitsL_len m k
        have hbb : bitB m k = decide (m / 2 ^ k % 2 = 1) := rfl
        have hl2 : (bitsL m k).length ≤ 1099511627776 := by omega
        clear hb
        by_cases hq : m / 2 ^ k % 2 = 1
        · rw [hbb, if_pos (by simp [hq])] at hs
          have Hs := Lib.hid hs
          have hq' : (bits .and .i64 (m / 2 ^ k) 1 == 1) = true := by rw [ha, hq]; rfl
          clear hs hbb ha hq
          go_wp2_with (at_builtin; refine wpList_app_int w _ (by repeat (first | with_reducible exact Grew.refl _ | with_reducible apply Grew.alloc | with_reducible apply Grew.later | with_reducible apply Grew.drew | with_reducible apply Grew.store | with_reducible assumption)) rfl _ _ rfl _ _ hown rfl _ _ rfl hl2 ?_; intro v' y1 hown')
          go_roundw
          case rel => exact ⟨k + 1, _, by go_num, rfl, by omega, by rw [Hs.out]; exact hown', (by repeat (first | with_reducible exact Grew.refl _ | with_reducible apply Grew.alloc | with_reducible apply Grew.later | with_reducible apply Grew.drew | with_reducible apply Grew.store | with_reducible assumption))⟩
          case measure => simp [intOf]; omega
        · rw [hbb, if_neg (by simp [hq])] at hs
          have Hs := Lib.hid hs
          have hq' : (bits .and .i64 (m / 2 ^ k) 1 == 1) = false := by rw [ha]; simp [hq]
          clear hs hbb ha hq
          go_wp2
          go_roundw
          case rel => exact ⟨k + 1, _, by go_num, rfl, by omega, by rw [Hs.out]; exact hown, (by repeat (first | with_reducible exact Grew.refl _ | with_reducible apply Grew.alloc | with_reducible apply Grew.later | with_reducible apply Grew.drew | with_reducible apply Grew.store | with_reducible assumption))⟩
          case measure => simp [intOf]; omega
      · obtain rfl : k = 16 := by omega
        have Hs := Lib.hid (SlAt.of_owns hown)
        go_wp2
        go_ret
        exact ⟨_, rfl, by rw [HR.out]; exact Hs.out, (by repeat (first | with_reducible exact Grew.refl _ | with_reducible apply Grew.alloc | with_reducible apply Grew.later | with_reducible apply Grew.drew | with_reducible apply Grew.store | with_reducible assumption))⟩
theorem abGaps_any (P : List Int) (v : Value) (w : World) (h : SlAt w v P.length (P.flatMap intC)) : Calls Try.prog 8 #[v] w (RetIntsC (gapsL P) (masksCode P) w) := by
  have HM := Lib.hid (fun w' (g : Grew w w') => abMasks_any P v w' (h.grew g))
  have HI := Lib.hid (fun k hk => int_cell h k hk)
  obtain ⟨ao, cap, rfl, hm⟩ := sl_form h
  clear h
  by_cases hc : masksCode P = 0
  · have HR := Lib.hid (show gapsL P = gapsAt P P.length from by unfold gapsL; rw [if_pos hc])
    have hPl : P.length ≤ 4096 := by
      unfold masksCode at hc
      split at hc
      · assumption
      · exact absurd hc (by decide)
    have HC := Lib.hid hc
    go_enter Try.func8, Try.ntmps8
    go_wp2_with (first | (go_at_call 22; (with_reducible refine call_later (is_int hc (HM.out _ (by repeat (first | with_reducible exact Grew.refl _ | with_reducible apply Grew.alloc | with_reducible apply Grew.later | with_reducible apply Grew.drew | with_reducible apply Grew.store | with_reducible assumption)))) ?_); intro u) | ((with_reducible refine wp_region_later ?_ ?_ ?_); (· kernel_rfl); (· kernel_rfl); (repeat (go_big_quiet_step ((first | (go_at_call 22; (with_reducible exact call_quiet (is_int hc (HM.out _ (by repeat (first | with_reducible exact Grew.refl _ | with_reducible apply Grew.alloc | with_reducible apply Grew.later | with_reducible apply Grew.drew | with_reducible apply Grew.store | with_reducible assumption)))))))))); refine wpQuiet_nil ?_; rintro _ ⟨u, rfl⟩))
    go_loopw [5, 15] (fun v t wr => ∃ (k : Nat) (v3 : Value), t = .int .i64 k ∧ v3 = v ∧ k ≤ P.length ∧ wr.ownsRow w.heap.size 3 1 v3 (gapsAt P k).length ((gapsAt P k).flatMap intC) ∧ Grew w wr) (fun _ t _ => P.length - (intOf t).toNat)
    case atStart => exact ⟨0, _, rfl, rfl, by omega, World.ownsRow_nil _ _ _ _, (by repeat (first | with_reducible exact Grew.refl _ | with_reducible apply Grew.alloc | with_reducible apply Grew.later | with_reducible apply Grew.drew | with_reducible apply Grew.store | with_reducible assumption))⟩
    case round =>
      obtain ⟨k, v, rfl, rfl, hk, hown, hg⟩ := hrel
      obtain ⟨y, rfl⟩ := later_of hg
      clear hg
      by_cases hlt : k < P.length
      · obtain ⟨b1, o1, c1, e1, i1, hd⟩ := HI.out k hlt
        cases e1
        have hl := gapsAt_len P k
        have hs : gapsAt P (k + 1) = if P[k] = 0 then gapsAt P k ++ [(k : Int)] else gapsAt P k := by
          rw [gapsAt, List.getElem?_eq_getElem hlt]; rfl
        generalize P[k] = n at *
        by_cases hn : n = 0
        · rw [if_pos hn] at hs
          have Hs := Lib.hid hs
          subst hn
          clear hs
          go_wp2_with (at_builtin; refine wpList_app_int w _ (by repeat (first | with_reducible exact Grew.refl _ | with_reducible apply Grew.alloc | with_reducible apply Grew.later | with_reducible apply Grew.drew | with_reducible apply Grew.store | with_reducible assumption)) rfl _ _ rfl _ _ hown rfl _ _ rfl (by omega) ?_; intro v' y1 hown')
          go_roundw
          case rel => exact ⟨k + 1, _, by go_num, rfl, by omega, by rw [Hs.out]; exact hown', (by repeat (first | with_reducible exact Grew.refl _ | with_reducible apply Grew.alloc | with_reducible apply Grew.later | with_reducible apply Grew.drew | with_reducible apply Grew.store | with_reducible assumption))⟩
          case measure => simp [intOf]; omega
        · rw [if_neg hn] at hs
          have Hs := Lib.hid hs
          have hn' : (n == 0) = false := by simp [hn]
          clear hs hn
          go_wp2
          go_roundw
          case rel => exact ⟨k + 1, _, by go_num, rfl, by omega, by rw [Hs.out]; exact hown, (by repeat (first | with_reducible exact Grew.refl _ | with_reducible apply Grew.alloc | with_reducible apply Grew.later | with_reducible apply Grew.drew | with_reducible apply Grew.store | with_reducible assumption))⟩
          case measure => simp [intOf]; omega
      · obtain rfl : k = P.length := by omega
        have Hs := Lib.hid (SlAt.of_owns hown)
        go_wp2
        go_ret2
        exact ⟨v, by rw [HC.out]; rfl, by rw [HR.out]; exact Hs.out, (by repeat (first | with_reducible exact Grew.refl _ | with_reducible apply Grew.alloc | with_reducible apply Grew.later | with_reducible apply Grew.drew | with_reducible apply Grew.store | with_reducible assumption))⟩
  · have HR := Lib.hid (show gapsL P = [] from by unfold gapsL; rw [if_neg hc])
    have hc' : (masksCode P != 0) = true := by simp [hc]
    clear hc
    generalize masksCode P = c at *
    go_enter Try.func8, Try.ntmps8
    go_wp2_with (first | (go_at_call 22; (with_reducible refine call_later (HM.out _ (by repeat (first | with_reducible exact Grew.refl _ | with_reducible apply Grew.alloc | with_reducible apply Grew.later | with_reducible apply Grew.drew | with_reducible apply Grew.store | with_reducible assumption))) ?_); intro u) | ((with_reducible refine wp_region_later ?_ ?_ ?_); (· kernel_rfl); (· kernel_rfl); (repeat (go_big_quiet_step ((first | (go_at_call 22; (with_reducible exact call_quiet (HM.out _ (by repeat (first | with_reducible exact Grew.refl _ | with_reducible apply Grew.alloc | with_reducible apply Grew.later | with_reducible apply Grew.drew | with_reducible apply Grew.store | with_reducible assumption))))))))); refine wpQuiet_nil ?_; rintro _ ⟨u, rfl⟩))
    go_ret2
    exact ⟨_, rfl, by rw [HR.out]; exact SlAt.nil _, (by repeat (first | with_reducible exact Grew.refl _ | with_reducible apply Grew.alloc | with_reducible apply Grew.later | with_reducible apply Grew.drew | with_reducible apply Grew.store | with_reducible assumption))⟩
end Go.Proofs.Ytjnednehcjfkmaa
namespace Go.Proofs.Ytjnednehcjfkmaa
open Go.RowKit
set_option maxRecDepth 100000
set_option maxHeartbeats 4000000
theorem best_take1 (L : List (Int × Int)) (k : Nat) (h : k < L.length) : best (L.take (k + 1)) = bestS (best (L.take k)) L[k] := by
  rw [List.take_succ_eq_append_getElem h, best_snoc]
theorem behind_len (own : Int) (L : List (Int × Int)) : (behind own L).length = L.length := by simp [behind]
theorem behind_get (own : Int) (L : List (Int × Int)) (k : Nat) (h : k < L.length) : (behind own L)[k]'(by rw [behind_len]; exact h) = (L[k].1, L[k].2 + chg own L[k].1) := by simp [behind]
/-- Where the least number is, the first one, of the first k. -/
def leastN (l : List Int) : Nat → Nat
  | 0 => 0
  | k + 1 => if k = 0 then 0 else if l[k]?.getD 0 < l[leastN l k]?.getD 0 then k else leastN l k
theorem leastN_lt (l : List Int) (k : Nat) (h : 0 < k) : leastN l k < k := by
  induction k with
  | zero => omega
  | succ k ih =>
    unfold leastN
    split
    · omega
    · split
      · omega
      · have := ih (by omega); omega
end Go.Proofs.Ytjnednehcjfkmaa
namespace Go.Proofs.Ytjnednehcjfkmaa
open Go.RowKit
open Go.Maps (Keyed IsMap)
set_option maxRecDepth 100000
set_option maxHeartbeats 2000000
def plKey (a m : Int) : Value := .agg #[.int .i64 a, .int .i64 m]
def plLit (a m : Int) : Lit := .string (keyBytes [.int .i64 a, .int .i64 m])
theorem pl_types : (2 : Nat) < Try.prog.types.size := of_decide_eq_true (by kernel_rfl)
theorem pl_keyType : Try.prog.keyType 69 = true := by kernel_rfl
theorem pl_cells : Try.prog.cellsOf 69 = 2 := by kernel_rfl
theorem pl_cellsI : Try.prog.cellsOf 3 = 1 := by kernel_rfl
theorem pl_laid : laidOutB Try.prog = true := by kernel_rfl
theorem pl_row : (69 : TypeId) < Try.prog.types.size := of_decide_eq_true (by kernel_rfl)
theorem pl_law : Keyed Try.prog 69 := Keyed.of_law (deep_law_laid pl_laid (m := 2) (by omega) pl_row (by kernel_rfl) (by rw [Try.underlying69]))
theorem pl_zero (w : World) : (zeroValue 3).run Try.prog w = .ok (.int .i64 0) w := by kernel_rfl
theorem wf_of (a : Int) (h1 : -9223372036854775808 ≤ a) (h2 : a ≤ 9223372036854775807) : (Lit.int .i64 a).wf = true := WalkArith.wf_i64 (by omega)
theorem pl_key (a m : Int) (ha : (Lit.int .i64 a).wf = true) (hm : (Lit.int .i64 m).wf = true) : keyOf Try.prog 69 (plKey a m) = some (plLit a m) := by
  obtain ⟨d, hd⟩ : ∃ d, Try.prog.types.size + 1 = d + 2 := ⟨Try.prog.types.size - 1, by have := pl_types; omega⟩
  have hl : Try.prog.keyLits (d + 2) 69 [.int .i64 a, .int .i64 m] = some [.int .i64 a, .int .i64 m] := by
    simp [Program.keyLits, Try.underlying69, Try.underlying3, pl_cells, pl_cellsI, ha, hm]
  have hf : (plKey a m).formed Try.prog 69 = true := by simp [plKey, Value.formed, Try.underlying69, pl_cells]
  unfold keyOf
  rw [Try.underlying69]
  simp only [pl_keyType, hf, hd, Bool.and_self, if_true]
  have hc : (plKey a m).cells.toList = [.int .i64 a, .int .i64 m] := by simp [plKey, Value.cells]
  rw [hc, hl]
  rfl
/-- The costs that are written down: f, 0 where nothing is. -/
def CostAt (w : World) (b n : Nat) (f : Int → Int → Int) : Prop :=
  ∃ D : DataW Unit, w.ownsMap Try.prog 69 (plainElem Try.prog 3) b n D ∧ IsMap D ∧ ∀ a m : Int, (Lit.int .i64 a).wf = true → (Lit.int .i64 m).wf = true → D.atKey (plLit a m) (.lit (.int .i64 0)) = .lit (.int .i64 (f a m))
def updF (f : Int → Int → Int) (a m c : Int) : Int → Int → Int := fun x y => if x = a ∧ y = m then c else f x y
theorem CostAt.made (w : World) : CostAt (w.alloc (.map #[] 0)) w.heap.size 0 (fun _ _ => 0) :=
  ⟨_, World.ownsMap_made _ _ _ _, Maps.isMap_empty, fun _ _ _ _ => rfl⟩
theorem CostAt.kept {w w' : World} {b n : Nat} {f : Int → Int → Int} {row : Option Nat} (h : CostAt w b n f) (g : w.grownBy w' row) (hne : some b ≠ row) : CostAt w' b n f := by
  obtain ⟨D, h1, h2, h3⟩ := h
  exact ⟨D, h1.kept g hne, h2, h3⟩
theorem CostAt.lt {w : World} {b n : Nat} {f : Int → Int → Int} (h : CostAt w b n f) : b < w.heap.size := by
  obtain ⟨D, h1, -⟩ := h
  exact h1.lt
theorem CostAt.grew {w w' : World} {b n : Nat} {f : Int → Int → Int} (h : CostAt w b n f) (g : Grew w w') : CostAt w' b n f := by
  have hl := h.lt
  obtain ⟨D, ⟨es, clock, hb, r⟩, h2, h3⟩ := h
  exact ⟨D, ⟨es, clock, by rw [Below.block g b hl, hb], r⟩, h2, h3⟩
theorem CostAt.alloc {w : World} {b n : Nat} {f : Int → Int → Int} (h : CostAt w b n f) (o : Obj) : CostAt (w.alloc o) b n f := h.grew ((Grew.refl w).alloc o)
theorem CostAt.drew {w : World} {b n : Nat} {f : Int → Int → Int} (h : CostAt w b n f) : CostAt w.drew b n f := h
theorem CostAt.setCell {w : World} {b n : Nat} {f : Int → Int → Int} (h : CostAt w b n f) (c j : Nat) (x : Value) (hne : b ≠ c) : CostAt (w.setCell ⟨c, j, none⟩ x) b n f := by
  obtain ⟨D, ⟨es, clock, hb, r⟩, h2, h3⟩ := h
  exact ⟨D, ⟨es, clock, by rw [Below.heap_setCell _ _ _ _ hne, hb], r⟩, h2, h3⟩
theorem lit_ne {a m x y : Int} (ha : (Lit.int .i64 a).wf = true) (hm : (Lit.int .i64 m).wf = true) (hx : (Lit.int .i64 x).wf = true) (hy : (Lit.int .i64 y).wf = true) (h : ¬ (x = a ∧ y = m)) : plLit x y ≠ plLit a m := by
  intro e
  have h1 := pl_key a m ha hm
  have h2 := pl_key x y hx hy
  rw [e] at h2
  have := pl_law.inj h2 h1
  simp [plKey] at this
  exact h this
theorem lookup_cost {w : World} {b n : Nat} {f : Int → Int → Int} (h : CostAt w b n f) (a m : Int) (ha : (Lit.int .i64 a).wf = true) (hm : (Lit.int .i64 m).wf = true) :
    (Instr.lookup 66 (.map (some b)) (plKey a m) false).run Try.prog w = .ok (.int .i64 (f a m)) w := by
  obtain ⟨D, h1, h2, h3⟩ := h
  obtain ⟨c, hrun, hat, -⟩ := h1.lookup_int pl_law Try.underlying66 Try.underlying3 (pl_zero w) (pl_key a m ha hm)
  have := h3 a m ha hm
  rw [hat] at this
  simp at this
  rw [hrun, this]
theorem update_cost {w : World} {b n : Nat} {f : Int → Int → Int} (h : CostAt w b n f) (hn : n < 1099511627776) (a m c : Int) (ha : (Lit.int .i64 a).wf = true) (hm : (Lit.int .i64 m).wf = true) (hc : (Lit.int .i64 c).wf = true) :
    ∃ w', (Instr.mapUpdate 66 (.map (some b)) (plKey a m) (.int .i64 c)).run Try.prog w = .ok () w' ∧ CostAt w' b (n + 1) (updF f a m c) ∧ w.grownBy w' (some b) := by
  obtain ⟨D, h1, h2, h3⟩ := h
  obtain ⟨w', hrun, r1, r2⟩ := h1.update pl_law Try.underlying66 (by unfold maxLen; omega) (pl_key a m ha hm) (plainElem_int Try.underlying3 hc)
  refine ⟨w', hrun, ⟨_, r1, h2.put _ _, ?_⟩, r2⟩
  intro x y hx hy
  unfold updF
  by_cases e : x = a ∧ y = m
  · obtain ⟨rfl, rfl⟩ := e
    rw [if_pos ⟨rfl, rfl⟩, Maps.atKey_put_same h2 (pl_law.key (pl_key x y ha hm))]
  · rw [if_neg e, Maps.atKey_put_other (lit_ne ha hm hx hy e), h3 x y hx hy]
/-- The look-up, at the operation. -/
theorem wpList_lookup_cost {w : World} {ops : Array Oper} {rest : List Oper} {o : Oper} {a : Act} {Q : Exit → Act → World → Prop} {b n : Nat} {f : Int → Int → Int} (h : CostAt w b n f)
    (hg : o.guard = none) (m x : Operand) (hop : o.op = Op.lookup 66 m x false) (hm : a.eval m = .map (some b)) (i j : Int) (hx : a.eval x = .agg #[.int .i64 i, .int .i64 j])
    (hi : (Lit.int .i64 i).wf = true) (hj : (Lit.int .i64 j).wf = true) (hK : wpList Try.prog ops Q rest (a.put o.dst (.int .i64 (f i j))) w) : wpList Try.prog ops Q (o :: rest) a w := by
  refine wpList_plain hg fun K' hK' => ?_
  have hrun := lookup_cost h i j hi hj
  unfold plKey at hrun
  unfold Oper.wp
  simp [execOp, hop, hm, hx, hrun, Result.andThen]
  exact hK' _ _ hK
/-- The store, at a step of a region that draws its order. -/
theorem step_update_cost {w : World} {ops : Array Oper} {o : Oper} {a : Act} {K : Act → World → Prop} {Q : Exit → Act → World → Prop} {E : Prop} {b n : Nat} {f : Int → Int → Int} (h : CostAt w b n f) (hn : n < 1099511627776)
    (hgd : o.guard = none) (m x v : Operand) (hop : o.op = Op.mapUpdate 66 m x v) (hm : a.eval m = .map (some b)) (i j c : Int) (hx : a.eval x = .agg #[.int .i64 i, .int .i64 j]) (hv : a.eval v = .int .i64 c)
    (hi : (Lit.int .i64 i).wf = true) (hj : (Lit.int .i64 j).wf = true) (hc : (Lit.int .i64 c).wf = true)
    (hK : ∀ w', CostAt w' b (n + 1) (updF f i j c) → w.grownBy w' (some b) → K (a.put o.dst undef) w') :
    if Region.wanted o (yielded ops a.tmps) = true then Oper.wp Try.prog o a w K Q else E := by
  have hw : Region.wanted o (yielded ops a.tmps) = true := by simp [Region.wanted, hgd]
  rw [if_pos hw]
  obtain ⟨w', hrun, r1, r2⟩ := update_cost h hn i j c hi hj hc
  unfold plKey at hrun
  unfold Oper.wp
  simp [execOp, hop, hm, hx, hv, hrun, Result.andThen]
  exact hK w' r1 r2
/-- .. where the walk has run it. -/
theorem upon_update_cost {w : World} {o : Oper} {a : Act} {K : Act → World → Prop} {Q : Exit → Act → World → Prop} {b n : Nat} {f : Int → Int → Int} (h : CostAt w b n f) (hn : n < 1099511627776) (i j c : Int)
    (hi : (Lit.int .i64 i).wf = true) (hj : (Lit.int .i64 j).wf = true) (hc : (Lit.int .i64 c).wf = true)
    (hK : ∀ w', CostAt w' b (n + 1) (updF f i j c) → w.grownBy w' (some b) → K (a.put o.dst undef) w') :
    Oper.upon Try.prog o a K Q (((Instr.mapUpdate 66 (.map (some b)) (.agg #[.int .i64 i, .int .i64 j]) (.int .i64 c)).run Try.prog w).andThen fun _ w' => .ok .skip w') := by
  obtain ⟨w', hrun, r1, r2⟩ := update_cost h hn i j c hi hj hc
  unfold plKey at hrun
  rw [hrun]
  exact hK w' r1 r2
end Go.Proofs.Ytjnednehcjfkmaa
namespace Go.Proofs.Ytjnednehcjfkmaa
open Go.RowKit
set_option maxRecDepth 100000
set_option maxHeartbeats 4000000
/-- The costs that the closure looks at. -/
def lx (l : List Int) (p : Nat) (own : Int) : List (Int × Int) := if p = 0 then cst l 0 else behind own (cst l p)
theorem lx_len (l : List Int) (p : Nat) (own : Int) (hp : p < l.length) : (lx l p own).length = (choicesL l[p]).length := by
  unfold lx
  split
  · subst p; rw [cst_len l 0 hp]
  · unfold behind; rw [List.length_map, cst_len l p hp]
theorem cst_get (l : List Int) (p : Nat) (hp : p < l.length) (k : Nat) (hk : k < (choicesL l[p]).length) : ∃ c, (cst l p)[k]'(by rw [cst_len l p hp]; exact hk) = ((choicesL l[p])[k], c) ∧ ((choicesL l[p])[k], c) ∈ cst l p := by
  have h : k < (cst l p).length := by rw [cst_len l p hp]; exact hk
  have h1 : ((cst l p).map (·.1))[k]'(by simpa using h) = (choicesL l[p])[k] := by simp only [cst_fst l p hp]
  rw [List.getElem_map] at h1
  have e : (cst l p)[k] = ((choicesL l[p])[k], (cst l p)[k].2) := by rw [← h1]
  exact ⟨(cst l p)[k].2, e, by rw [← e]; exact List.getElem_mem h⟩
theorem lx_get (l : List Int) (p : Nat) (own : Int) (hp : p < l.length) (k : Nat) (hk : k < (choicesL l[p]).length) : ∃ c, ((choicesL l[p])[k], c) ∈ cst l p ∧ (lx l p own)[k]'(by rw [lx_len l p own hp]; exact hk) = ((choicesL l[p])[k], if p = 0 then c else c + chg own (choicesL l[p])[k]) := by
  obtain ⟨c, e, hm⟩ := cst_get l p hp k hk
  refine ⟨c, hm, ?_⟩
  unfold lx
  by_cases h0 : p = 0
  · subst h0
    simp only [if_true]
    exact e
  · simp only [if_neg h0]
    unfold behind
    rw [List.getElem_map, e]
theorem best_take (L : List (Int × Int)) (k : Nat) (h : k < L.length) : best (L.take (k + 1)) = bestS (best (L.take k)) L[k] := by
  rw [List.take_succ_eq_append_getElem h, best_snoc]
theorem lx_step (l : List Int) (p : Nat) (own : Int) (hp : p < l.length) (k : Nat) (hk : k < (choicesL l[p]).length) : ∃ c, ((choicesL l[p])[k], c) ∈ cst l p ∧ best ((lx l p own).take (k + 1)) = bestS (best ((lx l p own).take k)) ((choicesL l[p])[k], if p = 0 then c else c + chg own (choicesL l[p])[k]) := by
  obtain ⟨c, h1, h2⟩ := lx_get l p own hp k hk
  exact ⟨c, h1, by rw [best_take _ k (by rw [lx_len l p own hp]; exact hk), h2]⟩
theorem next_any (l : List Int) (hl : l.length ≤ 4096) (hmk : ∀ m ∈ l, 0 ≤ m ∧ m < 65536) (p : Nat) (hp : p < l.length) (own : Int) (w : World) (b1 b2 bm n : Nat) (f : Int → Int → Int) (v : Value)
    (hs : SlAt w v l.length (l.flatMap intC)) (h1 : w.cell? ⟨b1, 0, none⟩ = some v) (h2 : w.cell? ⟨b2, 0, none⟩ = some (.map (some bm))) (hc : CostAt w bm n f) (hf : ∀ x ∈ cst l p, f p x.1 = x.2) (hb : ∀ x ∈ cst l p, 0 ≤ x.2 ∧ x.2 ≤ 4096) :
    Calls Try.prog 23 #[.int .i64 p, .int .i64 own, .pointer (some ⟨b1, 0, none⟩), .pointer (some ⟨b2, 0, none⟩)] w fun e w' => e = .returned (.tuple #[.int .i64 (best (lx l p own)).1, .int .i64 (best (lx l p own)).2]) ∧ Grew w w' := by
  obtain ⟨b, off, cap, rfl, ib, hcell⟩ := int_cell hs p hp
  have hmm := hmk l[p] (List.getElem_mem hp)
  have HCh := Lib.hid (fun w' => abChoices_any l[p] hmm.1 hmm.2 w')
  have HX := Lib.hid (fun k (hk : k < (choicesL l[p]).length) => lx_step l p own hp k hk)
  have HE := Lib.hid (show best ((lx l p own).take (choicesL l[p]).length) = best (lx l p own) by rw [← lx_len l p own hp, List.take_length])
  have HF := Lib.hid hf
  have HB := Lib.hid hb
  have HC := Lib.hid (choicesL_bd l[p])
  have hcl := choicesL_len l[p]
  have ib1 : BlockIn w b1 := BlockIn.of_cell h1
  have ib2 : BlockIn w b2 := BlockIn.of_cell h2
  have hpi : (p : Int) < l.length := by omega
  have hpw := wf_of p (by omega) (by omega)
  clear hs hf hb hmm hmk
  generalize l[p] = mk at *
  go_enter Try.func23, Try.ntmps23
  go_wp2_with (first | (go_at_call 24; (with_reducible refine (HCh.out _).mono ?_); rintro e w1 ⟨vc, rfl, sc, gc⟩; obtain ⟨u, rfl⟩ := later_of gc; clear gc; obtain ⟨aoc, capc, rfl, hmc⟩ := sl_form sc))
  have HI := Lib.hid (fun k hk => int_cell sc k hk)
  have hcu := hc.grew u.grew
  clear sc hc
  go_loopw [6, 8, 18] (fun v6 v8 t wr => ∃ k : Nat, t = .int .i64 k ∧ v6 = .int .i64 (best ((lx l p own).take k)).1 ∧ v8 = .int .i64 (best ((lx l p own).take k)).2 ∧ k ≤ (choicesL mk).length ∧ Grew u.world wr) (fun _ _ t _ => (choicesL mk).length - (intOf t).toNat)
  case atStart => exact ⟨0, rfl, rfl, rfl, by omega, (by repeat (first | with_reducible exact Grew.refl _ | with_reducible apply Grew.alloc | with_reducible apply Grew.later | with_reducible apply Grew.drew | with_reducible apply Grew.store | with_reducible assumption))⟩
  case round =>
    obtain ⟨k, rfl, rfl, rfl, hk, hg⟩ := hrel
    obtain ⟨y, rfl⟩ := later_of hg
    clear hg
    by_cases hlt : k < (choicesL mk).length
    · obtain ⟨bc, oc, cc, ec, ic, hd⟩ := HI.out k hlt
      cases ec
      obtain ⟨c, hmem, hT⟩ := HX.out k hlt
      have h3 := HF.out _ hmem
      have h4 := HB.out _ hmem
      have h5 := HC.out _ (List.getElem_mem hlt)
      simp only at h3 h4
      clear hmem
      generalize (choicesL mk)[k] = m at *
      have hmw := wf_of m (by omega) (by omega)
      generalize best ((lx l p own).take k) = s at *
      have Hh3 := Lib.hid h3
      clear h3
      obtain ⟨s1, s2⟩ := s
      by_cases h0 : p = 0
      · rw [if_pos h0] at hT
        have Hn := Lib.hid hT
        have h0' : decide ((0 : Int) < (p : Int)) = false := by simp [h0]
        have Hp0 := Lib.hid h0
        clear hT h0
        go_wp2_with (at_lookup; refine wpList_lookup_cost (hcu.grew y.grew) rfl _ _ rfl rfl _ _ rfl hpw hmw ?_; rw [Hh3.out])
        all_goals
          go_roundw
          case rel => exact ⟨k + 1, by go_num, by rw [Hn.out]; unfold bestS; simp only; split <;> first | rfl | omega | (have := Hp0.out; omega), by rw [Hn.out]; unfold bestS; simp only; split <;> first | rfl | omega | (have := Hp0.out; omega), by omega, (by repeat (first | with_reducible exact Grew.refl _ | with_reducible apply Grew.alloc | with_reducible apply Grew.later | with_reducible apply Grew.drew | with_reducible apply Grew.store | with_reducible assumption))⟩
          case measure => simp [intOf]; omega
      · rw [if_neg h0] at hT
        have hp0 : (0 : Int) < p := by omega
        by_cases hm : m = own
        · subst hm
          have Hn := Lib.hid (show best ((lx l p m).take (k + 1)) = bestS (s1, s2) (m, c) by rw [hT]; simp [chg])
          clear hT
          go_wp2_with (at_lookup; refine wpList_lookup_cost (hcu.grew y.grew) rfl _ _ rfl rfl _ _ rfl hpw hmw ?_; rw [Hh3.out])
          all_goals
            go_roundw
            case rel => exact ⟨k + 1, by go_num, by rw [Hn.out]; unfold bestS; simp only; split <;> first | rfl | omega, by rw [Hn.out]; unfold bestS; simp only; split <;> first | rfl | omega, by omega, (by repeat (first | with_reducible exact Grew.refl _ | with_reducible apply Grew.alloc | with_reducible apply Grew.later | with_reducible apply Grew.drew | with_reducible apply Grew.store | with_reducible assumption))⟩
            case measure => simp [intOf]; omega
        · have hm' : (m != own) = true := by simp [hm]
          have Hn := Lib.hid (show best ((lx l p own).take (k + 1)) = bestS (s1, s2) (m, c + 1) by rw [hT]; unfold chg; rw [if_neg (fun e => hm e.symm)])
          clear hT
          go_wp2_with (at_lookup; refine wpList_lookup_cost (hcu.grew y.grew) rfl _ _ rfl rfl _ _ rfl hpw hmw ?_; rw [Hh3.out])
          all_goals
            go_roundw
            case rel => exact ⟨k + 1, by go_num, by rw [Hn.out]; unfold bestS; simp only; split <;> first | rfl | omega, by rw [Hn.out]; unfold bestS; simp only; split <;> first | rfl | omega, by omega, (by repeat (first | with_reducible exact Grew.refl _ | with_reducible apply Grew.alloc | with_reducible apply Grew.later | with_reducible apply Grew.drew | with_reducible apply Grew.store | with_reducible assumption))⟩
            case measure => simp [intOf]; omega
    · obtain rfl : k = (choicesL mk).length := by omega
      rw [HE.out]
      go_wp2
      go_ret2
      exact ⟨rfl, (by repeat (first | with_reducible exact Grew.refl _ | with_reducible apply Grew.alloc | with_reducible apply Grew.later | with_reducible apply Grew.drew | with_reducible apply Grew.store | with_reducible assumption))⟩
end Go.Proofs.Ytjnednehcjfkmaa
namespace Go.Proofs.Ytjnednehcjfkmaa
open Go.RowKit
set_option maxRecDepth 100000
set_option maxHeartbeats 8000000
/-- The first places of the plan. -/
def planTo (P : List Int) (k : Nat) : List Int := (List.range k).map fun i => (selO P i).1
theorem planTo_len (P : List Int) (k : Nat) : (planTo P k).length = k := by simp [planTo]
theorem planTo_succ (P : List Int) (k : Nat) : planTo P (k + 1) = planTo P k ++ [(selO P k).1] := by simp [planTo, List.range_succ]
theorem planTo_get (P : List Int) (k : Nat) (j : Nat) (h : j < k) : (planTo P k)[j]'(by rw [planTo_len]; exact h) = (selO P j).1 := by simp [planTo]
def planR (P : List Int) : List Int := if masksCode P = 0 then planL P else []
def planNR (P : List Int) : Int := if masksCode P = 0 then planN P else 0
/-- What Plan hands back. -/
def RetPlan (P : List Int) (w : World) (e : Ending) (w' : World) : Prop :=
  ∃ v, e = .returned (.tuple #[v, .int .i64 (planNR P), .int .i64 (masksCode P)]) ∧ SlAt w' v (planR P).length ((planR P).flatMap intC) ∧ Grew w w'
theorem RetPlan.full {P l : List Int} {w w' : World} {v : Value} {n c : Int} (h1 : planNR P = n) (h2 : masksCode P = c) (h3 : planR P = l) (hs : SlAt w' v l.length (l.flatMap intC)) (g : Grew w w') : RetPlan P w (.returned (.tuple #[v, .int .i64 n, .int .i64 c])) w' := by
  subst h1 h2 h3
  exact ⟨v, rfl, hs, g⟩
theorem masks_ok {P : List Int} (h : masksCode P = 0) : P.length ≤ 4096 ∧ ∀ m ∈ P, 0 ≤ m ∧ m < 65536 := by
  unfold masksCode at h
  split at h
  · rename_i hl
    refine ⟨hl, fun m hm => ?_⟩
    cases ha : P.all maskB
    · rw [ha] at h; exact absurd h (by decide)
    · have := List.all_eq_true.1 ha m hm
      unfold maskB at this
      simp at this
      omega
  · exact absurd h (by decide)
theorem no_cell {w : World} {b n : Nat} {f : Int → Int → Int} (h : CostAt w b n f) (i : Nat) : w.cell? ⟨b, i, none⟩ = none := by
  obtain ⟨D, ⟨es, clock, hb, -⟩, -⟩ := h
  simp [World.cell?, hb]
theorem cell_kept {w w' : World} {b n : Nat} {f : Int → Int → Int} (h : CostAt w b n f) (g : w.grownBy w' (some b)) {c i : Nat} {x : Value} (hx : w.cell? ⟨c, i, none⟩ = some x) : w'.cell? ⟨c, i, none⟩ = some x := by
  rw [g.cell_far _ (World.block_lt_of_cell? w _ hx) (fun e => by
    simp only [Option.some.injEq] at e
    subst e
    rw [no_cell h i] at hx
    cases hx), hx]
theorem sl_kept {w w' : World} {b n : Nat} {f : Int → Int → Int} (h : CostAt w b n f) (g : w.grownBy w' (some b)) {v : Value} {m : Nat} {xs : List Value} (hx : SlAt w v m xs) : SlAt w' v m xs := by
  obtain ⟨ao, cap, h1, h0, h2⟩ := hx
  refine ⟨ao, cap, h1, h0, fun i x hx => ?_⟩
  obtain ⟨b', off, h3, h4⟩ := h2 i x hx
  exact ⟨b', off, h3, cell_kept h g h4⟩
theorem cst_next {P : List Int} {p : Nat} (hp : p + 1 < P.length) {x : Int × Int} (hx : x ∈ cst P p) : x.2 = (best (lx P (p + 1) x.1)).2 := by
  rw [cst_is P p (by omega)] at hx
  obtain ⟨c, -, rfl⟩ := List.mem_map.1 hx
  simp only
  rw [if_neg (by omega)]
  unfold lx
  rw [if_neg (by omega)]
theorem cst_all {P : List Int} (h : masksCode P = 0) (p : Nat) (hp : p ≤ P.length) : ∀ x ∈ cst P p, 0 ≤ x.2 ∧ x.2 ≤ 4096 := by
  obtain ⟨h1, h2⟩ := masks_ok h
  intro x hx
  have := cst_bd P (fun m hm => choices_some m (h2 m hm).1 (h2 m hm).2) (P.length - p) p (by omega) x hx
  omega
theorem cst_take {P : List Int} {p : Nat} (hp : p < P.length) {k : Nat} (hk : k < (choicesL P[p]).length) : ∃ c, ((choicesL P[p])[k], c) ∈ cst P p ∧ (cst P p).take (k + 1) = (cst P p).take k ++ [((choicesL P[p])[k], c)] := by
  obtain ⟨c, e, hm⟩ := cst_get P p hp k hk
  refine ⟨c, hm, ?_⟩
  rw [List.take_succ_eq_append_getElem (by rw [cst_len P p hp]; exact hk), e]
theorem abPlan_any (P : List Int) (v : Value) (w : World) (hP : SlAt w v P.length (P.flatMap intC)) : Calls Try.prog 7 #[v] w (RetPlan P w) := by
  have HM := Lib.hid (fun w' (g : Grew w w') => abMasks_any P v w' (hP.grew g))
  by_cases hc : masksCode P = 0
  rotate_left
  · have HR := Lib.hid (show planR P = [] by unfold planR; rw [if_neg hc])
    have HN := Lib.hid (show planNR P = 0 by unfold planNR; rw [if_neg hc])
    obtain ⟨ao, cap, rfl, hm⟩ := sl_form hP
    have hc' : (masksCode P != 0) = true := by simp [hc]
    clear hc hP
    unfold RetPlan
    rw [HR.out, HN.out]
    generalize masksCode P = c at *
    go_enter Try.func7, Try.ntmps7
    go_wp2_with (first | (go_at_call 22; (with_reducible refine call_later (HM.out _ (by repeat (first | with_reducible exact Grew.refl _ | with_reducible apply Grew.alloc | with_reducible apply Grew.later | with_reducible apply Grew.drew | with_reducible apply Grew.store | with_reducible assumption))) ?_); intro u) | ((with_reducible refine wp_region_later ?_ ?_ ?_); (· kernel_rfl); (· kernel_rfl); (repeat (go_big_quiet_step ((first | (go_at_call 22; (with_reducible exact call_quiet (HM.out _ (by repeat (first | with_reducible exact Grew.refl _ | with_reducible apply Grew.alloc | with_reducible apply Grew.later | with_reducible apply Grew.drew | with_reducible apply Grew.store | with_reducible assumption))))))))); refine wpQuiet_nil ?_; rintro _ ⟨u, rfl⟩))
    go_ret3
    exact ⟨_, rfl, SlAt.nil _, (by repeat (first | with_reducible exact Grew.refl _ | with_reducible apply Grew.alloc | with_reducible apply Grew.later | with_reducible apply Grew.drew | with_reducible apply Grew.store | with_reducible assumption))⟩
  have HR := Lib.hid (show planR P = planTo P P.length by unfold planR; rw [if_pos hc]; rfl)
  have HN := Lib.hid (show planNR P = planN P by unfold planNR; rw [if_pos hc])
  have HC := Lib.hid hc
  obtain ⟨hl, hmk⟩ := masks_ok hc
  have Hmk := Lib.hid hmk
  have HP := Lib.hid hP
  have HI := Lib.hid (fun k hk => int_cell hP k hk)
  have HB := Lib.hid (fun p hp => cst_all hc p hp)
  obtain ⟨ao, cap, rfl, hm⟩ := sl_form hP
  clear hmk hc hP
  have hmm := @run_makeMap Try.prog
  go_enter Try.func7, Try.ntmps7
  go_wp2_with (first | (go_at_call 22; (with_reducible refine call_later (is_int HC.out (HM.out _ (by repeat (first | with_reducible exact Grew.refl _ | with_reducible apply Grew.alloc | with_reducible apply Grew.later | with_reducible apply Grew.drew | with_reducible apply Grew.store | with_reducible assumption)))) ?_); intro u) | ((with_reducible refine wp_region_later ?_ ?_ ?_); (· kernel_rfl); (· kernel_rfl); (repeat (go_big_quiet_step ((first | (go_at_call 22; (with_reducible exact call_quiet (is_int HC.out (HM.out _ (by repeat (first | with_reducible exact Grew.refl _ | with_reducible apply Grew.alloc | with_reducible apply Grew.later | with_reducible apply Grew.drew | with_reducible apply Grew.store | with_reducible assumption)))))))))); refine wpQuiet_nil ?_; rintro _ ⟨u, rfl⟩))
  refine wp_to_later (z := w) (by repeat (first | with_reducible exact Grew.refl _ | with_reducible apply Grew.alloc | with_reducible apply Grew.later | with_reducible apply Grew.drew | with_reducible apply Grew.store | with_reducible assumption)) ?_
  intro y0 hy0
  have q1 : y0.world.cell? ⟨w.heap.size, 0, none⟩ = some (.slice ao P.length cap) := by rw [hy0]; go_simp
  have q2 : y0.world.cell? ⟨u.world.heap.size + 1, 0, none⟩ = some (.map (some u.world.heap.size)) := by rw [hy0]; simp
  have q3 : CostAt y0.world u.world.heap.size 0 (fun _ _ => 0) := by rw [hy0]; exact (CostAt.made u.world).alloc _
  have q4 : w.heap.size ≤ u.world.heap.size := by have := u.grew.size; simp at this; omega
  clear hy0
  generalize hb1 : w.heap.size = b1 at *
  generalize hb2 : u.world.heap.size + 1 = b2 at *
  generalize hbm : u.world.heap.size = bm at *
  clear hb2 hbm
  go_loopw [8] (fun t wr => ∃ (j m : Nat) (f : Int → Int → Int), t = .int .i64 ((P.length : Int) - 2 - j) ∧ (j = 0 ∨ j + 1 ≤ P.length) ∧ m ≤ 16 * j ∧ wr.cell? ⟨b1, 0, none⟩ = some (.slice ao P.length cap) ∧ wr.cell? ⟨b2, 0, none⟩ = some (.map (some bm)) ∧ CostAt wr bm m f ∧ (∀ p, p < P.length → P.length ≤ p + j + 1 → ∀ x ∈ cst P p, f p x.1 = x.2) ∧ Grew w wr) (fun t _ => (intOf t + 2).toNat)
  case atStart =>
    refine ⟨0, 0, _, by simp, .inl rfl, by omega, q1, q2, q3, ?_, y0.grew⟩
    intro p hp hp2 x hx
    rw [cst_is P p hp] at hx
    obtain ⟨c, -, rfl⟩ := List.mem_map.1 hx
    simp only
    rw [if_pos (by omega)]
  case round =>
    obtain ⟨j, m, f, rfl, hj, hmj, c1, c2, hf, hcost, hg⟩ := hrel
    obtain ⟨y, rfl⟩ := later_of hg
    clear hg
    by_cases hlt : j + 2 ≤ P.length
    · obtain ⟨p, hp⟩ : ∃ p : Nat, (P.length : Int) - 2 - j = p := ⟨P.length - 2 - j, by omega⟩
      obtain ⟨bc, off, cap', e1, ib, hd⟩ := HI.out p (by omega)
      obtain ⟨rfl, rfl⟩ : ao = some ⟨bc, off, none⟩ ∧ cap = cap' := by simpa using e1
      clear e1
      have hpl : p + 1 < P.length := by omega
      have hpl' : p < P.length := by omega
      have hp1 : (p : Int) < P.length := by omega
      have hp0 : (0 : Int) ≤ p := by omega
      have hmm0 := Hmk.out P[p] (List.getElem_mem (by omega))
      have HCh := Lib.hid (fun w' => abChoices_any P[p] hmm0.1 hmm0.2 w')
      have HT := Lib.hid (fun k hk => cst_take (P := P) (p := p) hpl' (k := k) hk)
      have HE := Lib.hid (show (cst P p).take (choicesL P[p]).length = cst P p by rw [← cst_len P p (by omega), List.take_length])
      have HCB := Lib.hid (choicesL_bd P[p])
      have hcl := choicesL_len P[p]
      have HN := Lib.hid (fun x hx => cst_next (P := P) (p := p) hpl (x := x) hx)
      have HBp := Lib.hid (HB.out p (by omega))
      have ib1 : BlockIn y.world b1 := BlockIn.of_cell c1
      have ib2 : BlockIn y.world b2 := BlockIn.of_cell c2
      generalize P[p] = mk at *
      rw [hp]
      go_wp2_with (first | (go_at_call 24; (with_reducible refine (HCh.out _).mono ?_); rintro e w1 ⟨vc, rfl, sc, gc⟩; obtain ⟨z, rfl⟩ := later_of gc; clear gc; obtain ⟨aoc, capc, rfl, hmc⟩ := sl_form sc))
      have c1z := z.grew.cell c1
      have c2z := z.grew.cell c2
      have hfz := hf.grew z.grew
      go_loopw [35] (fun t wr => ∃ (k m' : Nat) (f' : Int → Int → Int), t = .int .i64 k ∧ k ≤ (choicesL mk).length ∧ m' ≤ 16 * j + k ∧ wr.cell? ⟨b1, 0, none⟩ = some (.slice (some ⟨bc, off, none⟩) P.length cap) ∧ wr.cell? ⟨b2, 0, none⟩ = some (.map (some bm)) ∧ CostAt wr bm m' f' ∧ (∀ q : Nat, q < P.length → p < q → ∀ x ∈ cst P q, f' q x.1 = x.2) ∧ (∀ x ∈ (cst P p).take k, f' p x.1 = x.2) ∧ SlAt wr (.slice aoc (choicesL mk).length capc) (choicesL mk).length ((choicesL mk).flatMap intC) ∧ Grew w wr) (fun t _ => (choicesL mk).length - (intOf t).toNat)
      case atStart => exact ⟨0, m, f, rfl, by omega, by omega, c1z, c2z, hfz, fun q h1 h2 => hcost q h1 (by omega), fun x hx => by simp at hx, sc, y.grew.trans z.grew⟩
      case round =>
        obtain ⟨k, m', f', rfl, hk, hm', d1, d2, hf', hA, hB, hsl, hg⟩ := hrel
        obtain ⟨y2, rfl⟩ := later_of hg
        clear hg
        by_cases hlk : k < (choicesL mk).length
        · obtain ⟨b3, o3, c3, e3, i3, he⟩ := int_cell hsl k hlk
          cases e3
          obtain ⟨c, hmem, htake⟩ := HT.out k hlk
          have hce := HN.out _ hmem
          have hcb := HBp.out _ hmem
          have hmb := HCB.out _ (List.getElem_mem hlk)
          simp only at hce hcb
          generalize (choicesL mk)[k] = mo at *
          have hX : ∀ W, Grew y2.world W → Calls Try.prog 23 #[.int .i64 ((p : Int) + 1), .int .i64 mo, .pointer (some ⟨b1, 0, none⟩), .pointer (some ⟨b2, 0, none⟩)] W (fun e w' => e = .returned (.tuple #[.int .i64 (best (lx P (p + 1) mo)).1, .int .i64 (best (lx P (p + 1) mo)).2]) ∧ Grew W w') := fun W g => by
            have := next_any P hl Hmk.out (p + 1) hpl mo W b1 b2 bm m' f' _ (HP.out.grew (y2.grew.trans g)) (g.cell d1) (g.cell d2) (hf'.grew g) (hA (p + 1) hpl (by omega)) (HB.out (p + 1) (by omega))
            rw [show ((p + 1 : Nat) : Int) = (p : Int) + 1 from by simp] at this
            exact this
          rw [← hce] at hX
          have HX := Lib.hid hX
          have hw1 := wf_of p (by omega) (by omega)
          have hw2 := wf_of mo (by omega) (by omega)
          have hw3 := wf_of c (by omega) (by omega)
          have hmlt : m' < 1099511627776 := by omega
          have hwp : IntKind.i64.wrap ((p : Int) + 1) = (p : Int) + 1 := by simp [IntKind.wrap, IntKind.bits, IntKind.signed]; omega
          have HAB := Lib.hid (And.intro hA hB)
          have HCe := Lib.hid hce
          have Htk := Lib.hid htake
          have i1 : BlockIn y2.world b1 := BlockIn.of_cell d1
          have i2 : BlockIn y2.world b2 := BlockIn.of_cell d2
          clear hX hA hB hce htake hmem hcost
          generalize (best (lx P (p + 1) mo)).1 = mo1 at *
          go_wp2
          go_region_held3 (fun w' => w'.cell? ⟨b2, 0, none⟩ = some (.map (some bm))) (first | (go_simp; done) | exact cell_kept (hf'.grew (show Grew y2.world u2.world from (by repeat (first | with_reducible exact Grew.refl _ | with_reducible apply Grew.alloc | with_reducible apply Grew.later | with_reducible apply Grew.drew | with_reducible apply Grew.store | with_reducible assumption)))) hg1 (u2.grew.cell d2)) (first | (go_at_call 23; (with_reducible refine call_later (HX.out _ (by repeat (first | with_reducible exact Grew.refl _ | with_reducible apply Grew.alloc | with_reducible apply Grew.later | with_reducible apply Grew.drew | with_reducible apply Grew.store | with_reducible assumption))) ?_); intro u2) | (refine upon_update_cost (b := bm) (hf'.grew (by repeat (first | with_reducible exact Grew.refl _ | with_reducible apply Grew.alloc | with_reducible apply Grew.later | with_reducible apply Grew.drew | with_reducible apply Grew.store | with_reducible assumption))) hmlt _ _ _ hw1 hw2 hw3 ?_; intro w1 hn1 hg1; go_simp))
          have k1 := hf'.grew (show Grew y2.world u2.world from (by repeat (first | with_reducible exact Grew.refl _ | with_reducible apply Grew.alloc | with_reducible apply Grew.later | with_reducible apply Grew.drew | with_reducible apply Grew.store | with_reducible assumption)))
          have k2 := u2.grew.cell d1
          have k3 := u2.grew.cell d2
          have k4 := hsl.grew (show Grew y2.world u2.world from (by repeat (first | with_reducible exact Grew.refl _ | with_reducible apply Grew.alloc | with_reducible apply Grew.later | with_reducible apply Grew.drew | with_reducible apply Grew.store | with_reducible assumption)))
          go_wp2
          go_roundw
          case rel =>
            refine ⟨k + 1, m' + 1, _, by go_num, by omega, by omega, cell_kept k1 hg1 k2, cell_kept k1 hg1 k3, hn1, ?_, ?_, sl_kept k1 hg1 k4, Grew.grown (by repeat (first | with_reducible exact Grew.refl _ | with_reducible apply Grew.alloc | with_reducible apply Grew.later | with_reducible apply Grew.drew | with_reducible apply Grew.store | with_reducible assumption)) hg1 (fun i hi => by cases hi; omega)⟩
            · intro q hq hpq x hx
              unfold updF
              rw [if_neg (by omega)]
              exact HAB.out.1 q hq hpq x hx
            · intro x hx
              rw [Htk.out] at hx
              unfold updF
              rcases List.mem_append.1 hx with hx | hx
              · by_cases hxm : x.1 = mo
                · rw [if_pos ⟨rfl, hxm⟩, HCe.out, ← hxm]
                  exact (HN.out x (List.mem_of_mem_take hx)).symm
                · rw [if_neg (fun h => hxm h.2)]
                  exact HAB.out.2 x hx
              · simp only [List.mem_singleton] at hx
                subst hx
                rw [if_pos ⟨rfl, rfl⟩]
          case measure => simp [intOf]; omega
        · obtain rfl : k = (choicesL mk).length := by omega
          rw [HE.out] at hB
          have HAB := Lib.hid (And.intro hA hB)
          clear hA hB
          go_wp2
          go_roundw
          case rel =>
            refine ⟨j + 1, m', f', congrArg (Value.int .i64) (by omega), by omega, by omega, d1, d2, hf', ?_, (by repeat (first | with_reducible exact Grew.refl _ | with_reducible apply Grew.alloc | with_reducible apply Grew.later | with_reducible apply Grew.drew | with_reducible apply Grew.store | with_reducible assumption))⟩
            intro q hq hpq x hx
            by_cases hqp : q = p
            · subst hqp
              exact HAB.out.2 x hx
            · exact HAB.out.1 q hq (by omega) x hx
          case measure => simp [intOf]; omega
    · have hlt' : (P.length : Int) - 2 - j < 0 := by omega
      have hcs : ∀ p, p < P.length → ∀ x ∈ cst P p, f p x.1 = x.2 := fun p hp => hcost p hp (by omega)
      have Hcs := Lib.hid hcs
      have ib1 : BlockIn y.world b1 := BlockIn.of_cell c1
      have ib2 : BlockIn y.world b2 := BlockIn.of_cell c2
      clear hcost hcs hj
      go_wp2
      go_loopw [2, 3, 54] (fun v2 v3 t wr => ∃ (k : Nat) (v : Value), t = .int .i64 k ∧ v = v2 ∧ v3 = .int .i64 (if k = 0 then 0 else planN P) ∧ k ≤ P.length ∧ wr.ownsRow y.world.heap.size 3 1 v (planTo P k).length ((planTo P k).flatMap intC) ∧ Grew y.world wr) (fun _ _ t _ => P.length - (intOf t).toNat)
      case atStart => exact ⟨0, _, rfl, rfl, rfl, by omega, World.ownsRow_nil _ _ _ _, (by repeat (first | with_reducible exact Grew.refl _ | with_reducible apply Grew.alloc | with_reducible apply Grew.later | with_reducible apply Grew.drew | with_reducible apply Grew.store | with_reducible assumption))⟩
      case round =>
        obtain ⟨k, v, rfl, rfl, rfl, hk, hown, hg⟩ := hrel
        obtain ⟨y2, rfl⟩ := later_of hg
        clear hg
        by_cases hlk : k < P.length
        · have hX : ∀ own W, Grew y2.world W → Calls Try.prog 23 #[.int .i64 (k : Int), .int .i64 own, .pointer (some ⟨b1, 0, none⟩), .pointer (some ⟨b2, 0, none⟩)] W (fun e w' => e = .returned (.tuple #[.int .i64 (best (lx P k own)).1, .int .i64 (best (lx P k own)).2]) ∧ Grew W w') := fun own W g =>
            next_any P hl Hmk.out k hlk own W b1 b2 bm m f _ (HP.out.grew (y.grew.trans (y2.grew.trans g))) ((y2.grew.trans g).cell c1) ((y2.grew.trans g).cell c2) (hf.grew (y2.grew.trans g)) (Hcs.out k hlk) (HB.out k (by omega))
          have hs := planTo_succ P k
          have hpl := planTo_len P k
          have hpn : planN P = (selO P 0).2 := by unfold planN; rw [if_neg (by omega)]
          by_cases h0 : k = 0
          · have hlx : best (lx P k (-1)) = selO P k := by subst h0; rfl
            have hX1 := hX (-1)
            rw [hlx] at hX1
            have hv3 : (if k + 1 = 0 then 0 else planN P) = (selO P k).2 := by rw [if_neg (by omega), hpn, h0]
            have h0' : decide ((0 : Int) < (k : Int)) = false := by simp [h0]
            have h0'' : ((k : Int) == 0) = true := by simp [h0]
            have HX := Lib.hid hX1
            have Hs := Lib.hid hs
            have Hv := Lib.hid hv3
            have H0 := Lib.hid h0
            clear hX hX1 hlx hs hv3 hpn h0
            generalize selO P k = s at *
            go_wp2_with (first | (go_at_call 23; (with_reducible refine call_later (HX.out _ (by repeat (first | with_reducible exact Grew.refl _ | with_reducible apply Grew.alloc | with_reducible apply Grew.later | with_reducible apply Grew.drew | with_reducible apply Grew.store | with_reducible assumption))) ?_); intro u2) | (at_builtin; refine wpList_app_int y.world _ (by repeat (first | with_reducible exact Grew.refl _ | with_reducible apply Grew.alloc | with_reducible apply Grew.later | with_reducible apply Grew.drew | with_reducible apply Grew.store | with_reducible assumption)) rfl _ _ rfl _ _ (owns_grew hown u2.grew) rfl _ _ rfl (by omega) ?_; intro v' y3 hown'))
            all_goals
              go_roundw
              case rel => exact ⟨k + 1, _, by go_num, rfl, by rw [Hv.out], by omega, by rw [Hs.out]; exact hown', (by repeat (first | with_reducible exact Grew.refl _ | with_reducible apply Grew.alloc | with_reducible apply Grew.later | with_reducible apply Grew.drew | with_reducible apply Grew.store | with_reducible assumption))⟩
              case measure => simp [intOf]; omega
          · obtain ⟨q, rfl⟩ : ∃ q, k = q + 1 := ⟨k - 1, by omega⟩
            obtain ⟨bq, oq, cq, rfl, iq, hq⟩ := int_cell (SlAt.of_owns hown) q (by omega)
            rw [planTo_get P (q + 1) q (by omega)] at hq
            have hX1 := hX (selO P q).1
            have hlx : best (lx P (q + 1) (selO P q).1) = selO P (q + 1) := by unfold lx; rw [if_neg h0]; rfl
            rw [hlx] at hX1
            have HX := Lib.hid hX1
            have Hs := Lib.hid hs
            have hpl' : (planTo P (q + 1)).length ≤ 1099511627776 := by omega
            have hq1 : (q : Int) + 1 < P.length := by omega
            have hq2 : q < (planTo P (q + 1)).length := by omega
            have hown2 : y2.world.ownsRow y.world.heap.size 3 1 (.slice (some ⟨bq, oq, none⟩) (q + 1) cq) (planTo P (q + 1)).length ((planTo P (q + 1)).flatMap intC) := by
              have := hown
              rw [hpl] at this ⊢
              exact this
            clear hX hX1 hlx hs hpn h0
            generalize selO P (q + 1) = s at *
            generalize (selO P q).1 = own at *
            simp only [Int.natCast_add, Int.cast_ofNat_Int] at HX
            go_wp2_with (first | (go_at_call 23; (with_reducible refine call_later (HX.out _ (by repeat (first | with_reducible exact Grew.refl _ | with_reducible apply Grew.alloc | with_reducible apply Grew.later | with_reducible apply Grew.drew | with_reducible apply Grew.store | with_reducible assumption))) ?_); intro u2) | (at_builtin; refine wpList_app_int y.world _ (by repeat (first | with_reducible exact Grew.refl _ | with_reducible apply Grew.alloc | with_reducible apply Grew.later | with_reducible apply Grew.drew | with_reducible apply Grew.store | with_reducible assumption)) rfl _ _ rfl _ _ (owns_grew hown2 u2.grew) rfl _ _ rfl hpl' ?_; intro v' y3 hown'))
            all_goals
              go_roundw
              case rel => exact ⟨q + 1 + 1, _, by go_num, rfl, rfl, by omega, by rw [Hs.out]; exact hown', (by repeat (first | with_reducible exact Grew.refl _ | with_reducible apply Grew.alloc | with_reducible apply Grew.later | with_reducible apply Grew.drew | with_reducible apply Grew.store | with_reducible assumption))⟩
              case measure => simp [intOf]; omega
        · obtain rfl : k = P.length := by omega
          have Hs := Lib.hid (SlAt.of_owns hown)
          have Hv := Lib.hid (show (if P.length = 0 then 0 else planN P) = planN P by unfold planN; split <;> rfl)
          have Hv2 := Lib.hid (HN.out.trans Hv.out.symm)
          generalize (if P.length = 0 then 0 else planN P) = cn at *
          go_wp2
          go_ret3
          exact RetPlan.full Hv2.out HC.out HR.out Hs.out (by repeat (first | with_reducible exact Grew.refl _ | with_reducible apply Grew.alloc | with_reducible apply Grew.later | with_reducible apply Grew.drew | with_reducible apply Grew.store | with_reducible assumption))
end Go.Proofs.Ytjnednehcjfkmaa
