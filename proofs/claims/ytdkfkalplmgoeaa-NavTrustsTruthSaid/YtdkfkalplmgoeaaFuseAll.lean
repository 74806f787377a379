/-
  Two boxes that are the same are equal.
  Two boxes, two states: whether they are the same.
  States cut by measurements again and again: plain law; what is valid.
  Contracts of nav.check, ullageref06.check.
-/
import Derived.Test.YtdkfkalplmgoeaaProg
import Derived.Test.YtdkfkalplmgoeaaCore
import Derived.ChangeKeysEq
import Derived.Test.YtdkfkalplmgoeaaNavCutAll
namespace Go.Proofs.Ytdkfkalplmgoeaa
open Go.RowKit
set_option maxRecDepth 100000
theorem spanInfo : (Try.prog.info? 39).isSome = true := by kernel_rfl
theorem eqBox (x0 x1 x2 x3 x4 x5 : Int) (w : World) :
    (Op.equalIn 9999 41 (.agg #[.int .i64 x0, .int .i64 x1, .int .i64 x2, .int .i64 x3, .int .i64 x4, .int .i64 x5]) (.agg #[.int .i64 x0, .int .i64 x1, .int .i64 x2, .int .i64 x3, .int .i64 x4, .int .i64 x5])).run Try.prog w = .ok true w := by
  obtain ⟨i, hi⟩ := Option.isSome_iff_exists.1 spanInfo
  rw [run_equalIn_array w 9998 _ _ Try.underlying41 hi]
  have hC : Try.prog.cellsOf 39 = 2 := by kernel_rfl
  rw [hC]
  have hr : List.range 3 = [0, 1, 2] := rfl
  rw [hr]
  simp [go_sem, Op.eqItems]
end Go.Proofs.Ytdkfkalplmgoeaa
namespace Go.Proofs.Ytdkfkalplmgoeaa
open Go.RowKit
set_option maxRecDepth 100000
def sameBx (x y : Bx) : Bool := decide (x.x.lo = y.x.lo) && decide (x.x.hi = y.x.hi) && decide (x.y.lo = y.y.lo) && decide (x.y.hi = y.y.hi) && decide (x.z.lo = y.z.lo) && decide (x.z.hi = y.z.hi)
theorem sameBx_iff {x y : Bx} : sameBx x y = true ↔ x = y := by
  obtain ⟨⟨a, b⟩, ⟨c, d⟩, ⟨e, f⟩⟩ := x
  obtain ⟨⟨a', b'⟩, ⟨c', d'⟩, ⟨e', f'⟩⟩ := y
  unfold sameBx
  simp [and_assoc]
theorem eqBox2 (x y : Bx) (w : World) :
    (Op.equalIn 9999 41 (.agg #[.int .i64 x.x.lo, .int .i64 x.x.hi, .int .i64 x.y.lo, .int .i64 x.y.hi, .int .i64 x.z.lo, .int .i64 x.z.hi]) (.agg #[.int .i64 y.x.lo, .int .i64 y.x.hi, .int .i64 y.y.lo, .int .i64 y.y.hi, .int .i64 y.z.lo, .int .i64 y.z.hi])).run Try.prog w = .ok (sameBx x y) w := by
  obtain ⟨i, hi⟩ := Option.isSome_iff_exists.1 spanInfo
  rw [run_equalIn_array w 9998 _ _ Try.underlying41 hi]
  have hC : Try.prog.cellsOf 39 = 2 := by kernel_rfl
  rw [hC]
  have hr : List.range 3 = [0, 1, 2] := rfl
  rw [hr]
  simp [go_sem, Op.eqItems]
  unfold sameBx
  (repeat' split) <;> simp_all
end Go.Proofs.Ytdkfkalplmgoeaa
namespace Go.Proofs.Ytdkfkalplmgoeaa
open Go.RowKit
class Ra64 (m : Radio) : Prop where
  place : B64 m.place
  dir : B64 m.dir
  value : S64 m.value
instance ra64_place (m : Radio) [h : Ra64 m] : B64 m.place := h.place
instance ra64_dir (m : Radio) [h : Ra64 m] : B64 m.dir := h.dir
instance ra64_value (m : Radio) [h : Ra64 m] : S64 m.value := h.value
class Pv64 (s : State) : Prop where
  p : B64 s.p
  v : B64 s.v
instance pv64_p (s : State) [h : Pv64 s] : B64 s.p := h.p
instance pv64_v (s : State) [h : Pv64 s] : B64 s.v := h.v
theorem pv64_cut (s : State) (m : Radio) [hs : Pv64 s] : Pv64 (cutS s m) := by
  unfold cutS
  have hp : B64 s.p := hs.p
  have hv : B64 s.v := hs.v
  split
  · exact ⟨(b64_diTo _ _ _ 3).2.2, hv⟩
  · split
    · exact ⟨hp, b64_sumTo _ _ _ _ 3⟩
    · split
      · exact ⟨b64_sumTo _ _ _ _ 3, hv⟩
      · exact ⟨hp, b64_sumTo _ _ _ _ 3⟩
def Radio.cells (m : Radio) : List Value := [.int .i64 m.kind, .int .i64 m.place.x.lo, .int .i64 m.place.x.hi, .int .i64 m.place.y.lo, .int .i64 m.place.y.hi, .int .i64 m.place.z.lo, .int .i64 m.place.z.hi, .int .i64 m.dir.x.lo, .int .i64 m.dir.x.hi, .int .i64 m.dir.y.lo, .int .i64 m.dir.y.hi, .int .i64 m.dir.z.lo, .int .i64 m.dir.z.hi, .int .i64 m.value.lo, .int .i64 m.value.hi]
/-- One cut: the state; none: nothing is left. -/
def cutOne (s : State) (m : Radio) : Option State := if cutE s m = 0 then some (cutS s m) else if cutE s m = 7 then none else some s
/-- One round of cuts by those measurements that are kept, from the i-th on. -/
def passR (keep : Nat → Bool) : List Radio → Nat → State → Option State
  | [], _, s => some s
  | m :: l, i, s => if keep i = true then (match cutOne s m with | some s' => passR keep l (i + 1) s' | none => none) else passR keep l (i + 1) s
structure ResF where
  s : State
  n : Int
  e : Int
def badF (e : Int) : ResF := ⟨State.zero, 0, e⟩
open Classical in
/-- So many rounds more, some being over. -/
noncomputable def fuseR (keep : Nat → Bool) (l : List Radio) : Nat → Int → State → ResF
  | 0, used, s => ⟨s, used, 0⟩
  | n + 1, used, s => match passR keep l 0 s with
    | none => badF 7
    | some s' => if s' = s then ⟨s', used + 1, 0⟩ else fuseR keep l n (used + 1) s'
theorem pv64_one {s s' : State} {m : Radio} [hs : Pv64 s] (h : cutOne s m = some s') : Pv64 s' := by
  unfold cutOne at h
  split at h
  · cases h; exact pv64_cut s m
  · split at h
    · cases h
    · cases h; exact hs
theorem pv64_pass (keep : Nat → Bool) : ∀ (l : List Radio) (i : Nat) (s s' : State), Pv64 s → passR keep l i s = some s' → Pv64 s'
  | [], _, s, s', hs, h => by cases h; exact hs
  | m :: l, i, s, s', hs, h => by
    unfold passR at h
    split at h
    · cases hc : cutOne s m with
      | none => rw [hc] at h; cases h
      | some x =>
        rw [hc] at h
        exact pv64_pass keep l (i + 1) x s' (pv64_one hc) h
    · exact pv64_pass keep l (i + 1) s s' hs h
section
variable {keep : Nat → Bool} {l : List Radio} {k : Nat} {s : State}
theorem pass_skip (hk : k < l.length) (h : keep k = false) : passR keep (l.drop k) k s = passR keep (l.drop (k + 1)) (k + 1) s := by
  rw [List.drop_eq_getElem_cons hk]
  show (if keep k = true then _ else _) = _
  rw [h]
  rfl
theorem pass_cut (hk : k < l.length) (h : keep k = true) (h0 : cutE s l[k] = 0) : passR keep (l.drop k) k s = passR keep (l.drop (k + 1)) (k + 1) (cutS s l[k]) := by
  rw [List.drop_eq_getElem_cons hk]
  show (if keep k = true then _ else _) = _
  rw [if_pos h]
  unfold cutOne
  rw [if_pos h0]
theorem pass_none (hk : k < l.length) (h : keep k = true) (h7 : cutE s l[k] = 7) : passR keep (l.drop k) k s = none := by
  rw [List.drop_eq_getElem_cons hk]
  show (if keep k = true then _ else _) = _
  rw [if_pos h]
  unfold cutOne
  rw [if_neg (by omega), if_pos h7]
theorem pass_stay (hk : k < l.length) (h : keep k = true) (h0 : cutE s l[k] ≠ 0) (h7 : cutE s l[k] ≠ 7) : passR keep (l.drop k) k s = passR keep (l.drop (k + 1)) (k + 1) s := by
  rw [List.drop_eq_getElem_cons hk]
  show (if keep k = true then _ else _) = _
  rw [if_pos h]
  unfold cutOne
  rw [if_neg h0, if_neg h7]
theorem pass_end : passR keep (l.drop l.length) l.length s = some s := by rw [List.drop_length]; rfl
end
section
variable {keep : Nat → Bool} {l : List Radio} {n : Nat} {u : Int} {s s' : State}
theorem fuse_none (h : passR keep l 0 s = none) : fuseR keep l (n + 1) u s = badF 7 := by
  unfold fuseR
  rw [h]
theorem fuse_same (h : passR keep l 0 s = some s) : fuseR keep l (n + 1) u s = ⟨s, u + 1, 0⟩ := by
  unfold fuseR
  rw [h]
  exact if_pos rfl
theorem fuse_next (h : passR keep l 0 s = some s') (hn : s' ≠ s) : fuseR keep l (n + 1) u s = fuseR keep l n (u + 1) s' := by
  rw [fuseR, h]
  exact if_neg hn
end
/-- What is valid of a state, measurements and rounds. -/
def fuseE (s : State) (l : List Radio) (n : Int) : Int :=
  if 16 < l.length then 3 else if s.okB = false ∨ n < 0 ∨ 16 < n then 2 else codeB (l.all Radio.okB) 2
noncomputable def fuseRR (s : State) (l : List Radio) (n : Int) : ResF := if fuseE s l n = 0 then fuseR (fun _ => true) l n.toNat 0 s else badF (fuseE s l n)
theorem all_no {l : List Radio} (k : Nat) (hk : k < l.length) (h : l[k].okB = false) : l.all Radio.okB = false := by
  rw [List.all_eq_false]
  exact ⟨l[k], List.getElem_mem hk, by rw [h]; decide⟩
theorem all_yes {l : List Radio} (h : ∀ j (hj : j < l.length), l[j].okB = true) : l.all Radio.okB = true := by
  rw [List.all_eq_true]
  intro x hx
  obtain ⟨i, hi, e⟩ := List.mem_iff_getElem.1 hx
  rw [← e]
  exact h i hi
end Go.Proofs.Ytdkfkalplmgoeaa
namespace Go.Proofs.Ytdkfkalplmgoeaa
open Go.RowKit Go.Shelf
set_option maxRecDepth 100000
set_option maxHeartbeats 8000000
theorem fuse_long {s : State} {l : List Radio} {n : Int} (h : 16 < l.length) : fuseE s l n = 3 := by unfold fuseE; rw [if_pos h]
theorem fuse_bad {s : State} {l : List Radio} {n : Int} (h : ¬ 16 < l.length) (h2 : s.okB = false ∨ n < 0 ∨ 16 < n) : fuseE s l n = 2 := by unfold fuseE; rw [if_neg h, if_pos h2]
theorem fuse_all {s : State} {l : List Radio} {n : Int} (h : ¬ 16 < l.length) (h2 : ¬ (s.okB = false ∨ n < 0 ∨ 16 < n)) : fuseE s l n = codeB (l.all Radio.okB) 2 := by unfold fuseE; rw [if_neg h, if_neg h2]
theorem navCheck_any (s : State) (l : List Radio) (n : Int) (ao : Option Addr) (cap : Nat) (w : World) (hs : SlAt w (.slice ao l.length cap) l.length (l.flatMap Radio.cells)) :
    Calls Try.prog 33 #[.agg #[.int .i64 s.t, .int .i64 s.p.x.lo, .int .i64 s.p.x.hi, .int .i64 s.p.y.lo, .int .i64 s.p.y.hi, .int .i64 s.p.z.lo, .int .i64 s.p.z.hi, .int .i64 s.v.x.lo, .int .i64 s.v.x.hi, .int .i64 s.v.y.lo, .int .i64 s.v.y.hi, .int .i64 s.v.z.lo, .int .i64 s.v.z.hi, .int .i64 s.m.lo, .int .i64 s.m.hi], .slice ao l.length cap, .int .i64 n] w fun e w' => e = .returned (.int .i64 (fuseE s l n)) ∧ Grew w w' := by
  have hm := hs.len_le
  unfold maxLen at hm
  obtain ⟨ao', cap', e1, -, hx⟩ := hs
  cases e1
  have HE := Lib.hid (SlAt.elem (f := Radio.cells) (c := 15) (fun _ => rfl) (by omega) hx)
  clear hx
  by_cases hl : 16 < l.length
  · have hl' : (16 : Int) < l.length := by omega
    have HR := Lib.hid (fuse_long (s := s) (n := n) hl)
    go_enter Try.func33, Try.ntmps33
    go_wp2
    go_ret
    exact ⟨ret_int HR.out.symm, gw⟩
  have hl' : ¬ ((16 : Int) < l.length) := by omega
  cases h1 : s.okB
  · have HS2 := Lib.hid (fun w' => is_int (show codeB s.okB 2 = 2 by rw [h1]; rfl) (flState_any s w'))
    have HR := Lib.hid (fuse_bad (n := n) hl (.inl h1))
    clear h1
    go_enter Try.func33, Try.ntmps33
    go_wp2_with (first | (go_at_call 43; (with_reducible refine call_later (HS2.out _) ?_); intro u))
    go_ret
    exact ⟨ret_int HR.out.symm, gw⟩
  have HS2 := Lib.hid (fun w' => is_int (show codeB s.okB 2 = 0 by rw [h1]; rfl) (flState_any s w'))
  by_cases h2 : n < 0
  · have HR := Lib.hid (fuse_bad (s := s) (n := n) hl (.inr (.inl h2)))
    clear h1
    go_enter Try.func33, Try.ntmps33
    go_wp2_with (first | (go_at_call 43; (with_reducible refine call_later (HS2.out _) ?_); intro u))
    go_ret
    exact ⟨ret_int HR.out.symm, gw⟩
  by_cases h3 : 16 < n
  · have HR := Lib.hid (fuse_bad (s := s) (n := n) hl (.inr (.inr h3)))
    clear h1
    go_enter Try.func33, Try.ntmps33
    go_wp2_with (first | (go_at_call 43; (with_reducible refine call_later (HS2.out _) ?_); intro u))
    go_ret
    exact ⟨ret_int HR.out.symm, gw⟩
  have HR := Lib.hid (fuse_all (s := s) (n := n) hl (by rw [h1]; simp; omega))
  clear h1
  go_enter Try.func33, Try.ntmps33
  go_wp2_with (first | (go_at_call 43; (with_reducible refine call_later (HS2.out _) ?_); intro u))
  go_loopw [26] (fun t wr => ∃ k : Nat, t = .int .i64 k ∧ k ≤ l.length ∧ (∀ j (hj : j < l.length), j < k → l[j].okB = true) ∧ Grew w wr) (fun t _ => l.length - (intOf t).toNat)
  case atStart => exact ⟨0, rfl, by omega, fun _ _ h => by omega, gw⟩
  case round =>
    obtain ⟨k, rfl, hk, hbe, hg⟩ := hrel
    obtain ⟨z, rfl⟩ := later_of hg
    clear hg
    have Hbe := Lib.hid hbe
    clear hbe
    by_cases hlt : k < l.length
    · obtain ⟨b1, o1, e1, i1, hd1, hd2⟩ := HE.out k hlt
      have hc0 := hd1 _ rfl
      have hc1 := hd2 1 _ rfl
      have hc2 := hd2 2 _ rfl
      have hc3 := hd2 3 _ rfl
      have hc4 := hd2 4 _ rfl
      have hc5 := hd2 5 _ rfl
      have hc6 := hd2 6 _ rfl
      have hc7 := hd2 7 _ rfl
      have hc8 := hd2 8 _ rfl
      have hc9 := hd2 9 _ rfl
      have hc10 := hd2 10 _ rfl
      have hc11 := hd2 11 _ rfl
      have hc12 := hd2 12 _ rfl
      have hc13 := hd2 13 _ rfl
      have hc14 := hd2 14 _ rfl
      clear hd1 hd2
      cases e1
      have i1 : BlockIn w b1 := ⟨i1⟩
      have Hno := Lib.hid (fun h => show fuseE s l n = 2 by rw [HR.out, all_no k hlt h]; rfl)
      have Hyes := Lib.hid (fun (hx : l[k].okB = true) j (hj : j < l.length) (hjk : j < k + 1) => show l[j].okB = true by
        by_cases e : j = k
        · subst e; exact hx
        · exact Hbe.out j hj (by omega))
      generalize l[k] = m at *
      cases hx : m.okB
      · have HN2 := Lib.hid (fun w' => is_int (show codeB m.okB 2 = 2 by rw [hx]; rfl) (navRadio_any m w'))
        have Hr := Lib.hid (Hno.out hx)
        clear hx Hno Hyes
        go_wp2_with (first | (go_at_call 12; (with_reducible refine call_later (HN2.out _) ?_); intro u))
        go_ret
        exact ⟨ret_int Hr.out.symm, gw⟩
      · have HN2 := Lib.hid (fun w' => is_int (show codeB m.okB 2 = 0 by rw [hx]; rfl) (navRadio_any m w'))
        have Hr := Lib.hid (Hyes.out hx)
        clear hx Hno Hyes
        go_wp2_with (first | (go_at_call 12; (with_reducible refine call_later (HN2.out _) ?_); intro u))
        go_roundw
        case rel => exact ⟨k + 1, by go_num, by omega, Hr.out, gw⟩
        case measure => simp [intOf]; omega
    · obtain rfl : k = l.length := by omega
      have Hr := Lib.hid (show fuseE s l n = 0 by rw [HR.out, all_yes (fun j hj => Hbe.out j hj hj)]; rfl)
      go_wp2
      go_ret
      exact ⟨ret_int Hr.out.symm, gw⟩
end Go.Proofs.Ytdkfkalplmgoeaa
