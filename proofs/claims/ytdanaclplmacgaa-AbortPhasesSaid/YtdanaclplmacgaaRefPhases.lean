/-
  Contracts: ullageref11's Phases.
-/
import Derived.Laws.OwnMore
import Derived.Test.YtdanaclplmacgaaFlown
import Derived.Test.YtdanaclplmacgaaEvery
import Derived.Test.YtdanaclplmacgaaRow
import Derived.Deep.RegionHeld3
namespace Go.Proofs.Ytdanaclplmacgaa
open Go.RowKit
set_option maxRecDepth 100000
set_option maxHeartbeats 8000000
/-- What Phases hands back. -/
def RetPh (c : Int) (l : List Ph) (w : World) (e : Ending) (w' : World) : Prop :=
  ∃ v, e = .returned (.tuple #[v, .int .i64 c]) ∧ SlAt w' v l.length (l.flatMap Ph.cells) ∧ Grew w w'
theorem RetPh.nil {P : List Int} {T : List Tube} {c : Int} {w w' : World} (hc : phasesCode P T = c) (h0 : c ≠ 0) (g : Grew w w') : RetPh (phasesCode P T) (phasesL P T) w (.returned (.tuple #[.slice none 0 0, .int .i64 c])) w' := by
  refine ⟨.slice none 0 0, by rw [hc], ?_, g⟩
  unfold phasesL
  rw [if_neg (by rw [hc]; exact h0)]
  exact SlAt.nil _
theorem RetPh.full {P : List Int} {T : List Tube} {v : Value} {w w' : World} (hc : phasesCode P T = 0) (hs : SlAt w' v (phAt P T P.length).length ((phAt P T P.length).flatMap Ph.cells)) (g : Grew w w') : RetPh (phasesCode P T) (phasesL P T) w (.returned (.tuple #[v, .int .i64 0])) w' := by
  refine ⟨v, by rw [hc], ?_, g⟩
  unfold phasesL
  rw [if_pos hc]
  exact hs
theorem ph_long {P : List Int} {T : List Tube} (h : 4096 < P.length ∨ 4096 < T.length) : phasesCode P T = 3 := by
  unfold phasesCode
  rw [if_neg (by omega)]
theorem ph_arg {P : List Int} {T : List Tube} (h1 : P.length ≤ 4096) (h2 : T.length ≤ 4096) (h : ¬ (flownB T = true ∧ P.length = T.length ∧ P.all pickB = true)) : phasesCode P T = 2 := by
  unfold phasesCode
  rw [if_pos ⟨h1, h2⟩, if_neg h]
theorem ph_ok {P : List Int} {T : List Tube} (h1 : P.length ≤ 4096) (h2 : T.length ≤ 4096) (h : flownB T = true ∧ P.length = T.length ∧ P.all pickB = true) : phasesCode P T = 0 := by
  unfold phasesCode
  rw [if_pos ⟨h1, h2⟩, if_pos h]
theorem plAt_is (P : List Int) (k : Nat) (h : k < P.length) : plAt P k = P[k] := by unfold plAt; simp [h]
theorem int_cells {w : World} {ao : Option Addr} {l : List Int} (h : ∀ i x, (l.flatMap intC)[i]? = some x → ∃ b off, ao = some ⟨b, off, none⟩ ∧ w.cell? ⟨b, off + i, none⟩ = some x) (k : Nat) (hk : k < l.length) :
    ∃ b off, ao = some ⟨b, off, none⟩ ∧ BlockIn w b ∧ w.cell? ⟨b, off + k, none⟩ = some (.int .i64 (plAt l k)) := by
  obtain ⟨b, off, e, hb, h1, -⟩ := SlAt.elem (f := intC) (c := 1) (fun _ => rfl) (by omega) h k hk
  refine ⟨b, off, e, ⟨hb⟩, ?_⟩
  have := h1 _ rfl
  rw [Nat.mul_one] at this
  rw [this, plAt_is l k hk]
theorem tube_two {w : World} {ao : Option Addr} {l : List Tube} (h : ∀ i x, (l.flatMap Tube.cells)[i]? = some x → ∃ b off, ao = some ⟨b, off, none⟩ ∧ w.cell? ⟨b, off + i, none⟩ = some x) (k : Nat) (hk : k < l.length) :
    ∃ b off, ao = some ⟨b, off, none⟩ ∧ BlockIn w b ∧ w.cell? ⟨b, off + k * 16, none⟩ = some (.int .i64 (tuAt l k).a) ∧ w.cell? ⟨b, off + k * 16 + 1, none⟩ = some (.int .i64 (tuAt l k).z) := by
  obtain ⟨b, off, e, hb, -, -, h1, h2⟩ := fl_tube_cells h k hk
  have e2 : tuAt l k = l[k] := by unfold tuAt; simp [hk]
  exact ⟨b, off, e, hb, by rw [h1, e2], by rw [h2, e2]⟩
theorem infoPh : (Try.prog.info? 159).map (fun i => (i.zero, i.size, i.bytes)) = some (some (.agg #[.int .i64 0, .int .i64 0, .int .i64 0, .int .i64 0, .int .i64 0]), 5, 40) := by kernel_rfl
theorem ph_cells_len (l : List Ph) : (l.flatMap Ph.cells).length = l.length * 5 := flat_len Ph.cells 5 (fun _ => rfl) l
/-- The last phase goes on: the cells. -/
theorem goOn_cells (T : List Tube) (k : Nat) (l : List Ph) (p : Ph) : (((l ++ [p]).flatMap Ph.cells).set (l.length * 5 + 2) (.int .i64 k)).set (l.length * 5 + 4) (.int .i64 (tuAt T k).z) = (goOn T k (l ++ [p])).flatMap Ph.cells := by
  have hl := ph_cells_len l
  rw [goOn_snoc, List.flatMap_append, List.flatMap_append]
  rw [List.set_append_right _ _ (by omega), List.set_append_right _ _ (by omega), hl]
  rw [show l.length * 5 + 2 - l.length * 5 = 2 by omega, show l.length * 5 + 4 - l.length * 5 = 4 by omega]
  rfl
theorem goOn_len (T : List Tube) (k : Nat) (l : List Ph) (p : Ph) : (goOn T k (l ++ [p])).length = l.length + 1 := by rw [goOn_snoc]; simp
theorem ph_last (P : List Int) (T : List Tube) (k : Nat) (h : 0 < k) : ∃ l p, phAt P T k = l ++ [p] := by
  have h1 := (phAt_len P T k).2 h
  exact ⟨_, _, (List.dropLast_concat_getLast h1).symm⟩
theorem r11Phases_any (P : List Int) (T : List Tube) (v1 v2 : Value) (w : World) (hP : SlAt w v1 P.length (P.flatMap intC)) (hT : SlAt w v2 T.length (T.flatMap Tube.cells)) : Calls Try.prog 41 #[v1, v2] w (RetPh (phasesCode P T) (phasesL P T) w) := by
  have hT2 := hT
  obtain ⟨ao1, cap1, rfl, hm1, hc1⟩ := hP
  obtain ⟨ao2, cap2, rfl, hm2, hc2⟩ := hT
  unfold maxLen at hm1 hm2
  have HF := Lib.hid (fun w' (g : Grew w w') => r11Flight_any T _ w' (hT2.grew g))
  have HI := Lib.hid (fun k hk => int_cells hc1 k hk)
  have HT := Lib.hid (fun k hk => tube_two hc2 k hk)
  clear hc1 hc2 hT2
  by_cases l1 : 4096 < P.length
  · have HR := Lib.hid (ph_long (P := P) (T := T) (.inl l1))
    have l1' : decide ((4096 : Int) < P.length) = true := by simp; omega
    clear l1
    go_enter Try.func41, Try.ntmps41
    go_wp2_with (first | ((with_reducible refine wp_region_later ?_ ?_ ?_); (· kernel_rfl); (· kernel_rfl); (repeat (go_big_quiet_step (fail))); refine wpQuiet_nil ?_; rintro _ ⟨u, rfl⟩))
    go_ret2
    exact RetPh.nil HR.out (by decide) (by repeat (first | with_reducible exact Grew.refl _ | with_reducible apply Grew.alloc | with_reducible apply Grew.later | with_reducible apply Grew.drew | with_reducible apply Grew.store | with_reducible assumption))
  have l1' : decide ((4096 : Int) < P.length) = false := by simp; omega
  by_cases l2 : 4096 < T.length
  · have HR := Lib.hid (ph_long (P := P) (T := T) (.inr l2))
    have l2' : decide ((4096 : Int) < T.length) = true := by simp; omega
    clear l2
    go_enter Try.func41, Try.ntmps41
    go_wp2_with (first | ((with_reducible refine wp_region_later ?_ ?_ ?_); (· kernel_rfl); (· kernel_rfl); (repeat (go_big_quiet_step (fail))); refine wpQuiet_nil ?_; rintro _ ⟨u, rfl⟩))
    go_ret2
    exact RetPh.nil HR.out (by decide) (by repeat (first | with_reducible exact Grew.refl _ | with_reducible apply Grew.alloc | with_reducible apply Grew.later | with_reducible apply Grew.drew | with_reducible apply Grew.store | with_reducible assumption))
  have l2' : decide ((4096 : Int) < T.length) = false := by simp; omega
  cases hf : flownB T
  · have HR := Lib.hid (ph_arg (P := P) (T := T) (by omega) (by omega) (by rw [hf]; simp))
    go_enter Try.func41, Try.ntmps41
    go_wp2_with (first | (go_at_call 105; (with_reducible refine call_later (is_bool hf (HF.out _ (by repeat (first | with_reducible exact Grew.refl _ | with_reducible apply Grew.alloc | with_reducible apply Grew.later | with_reducible apply Grew.drew | with_reducible apply Grew.store | with_reducible assumption)))) ?_); intro u) | ((with_reducible refine wp_region_later ?_ ?_ ?_); (· kernel_rfl); (· kernel_rfl); (repeat (go_big_quiet_step ((first | (go_at_call 105; (with_reducible exact call_quiet (is_bool hf (HF.out _ (by repeat (first | with_reducible exact Grew.refl _ | with_reducible apply Grew.alloc | with_reducible apply Grew.later | with_reducible apply Grew.drew | with_reducible apply Grew.store | with_reducible assumption)))))))))); refine wpQuiet_nil ?_; rintro _ ⟨u, rfl⟩))
    go_ret2
    exact RetPh.nil HR.out (by decide) (by repeat (first | with_reducible exact Grew.refl _ | with_reducible apply Grew.alloc | with_reducible apply Grew.later | with_reducible apply Grew.drew | with_reducible apply Grew.store | with_reducible assumption))
  by_cases hl : P.length = T.length
  rotate_left
  · have HR := Lib.hid (ph_arg (P := P) (T := T) (by omega) (by omega) (by simp [hl]))
    have hl' : ((P.length : Int) != T.length) = true := by simp; omega
    clear hl
    go_enter Try.func41, Try.ntmps41
    go_wp2_with (first | (go_at_call 105; (with_reducible refine call_later (is_bool hf (HF.out _ (by repeat (first | with_reducible exact Grew.refl _ | with_reducible apply Grew.alloc | with_reducible apply Grew.later | with_reducible apply Grew.drew | with_reducible apply Grew.store | with_reducible assumption)))) ?_); intro u) | ((with_reducible refine wp_region_later ?_ ?_ ?_); (· kernel_rfl); (· kernel_rfl); (repeat (go_big_quiet_step ((first | (go_at_call 105; (with_reducible exact call_quiet (is_bool hf (HF.out _ (by repeat (first | with_reducible exact Grew.refl _ | with_reducible apply Grew.alloc | with_reducible apply Grew.later | with_reducible apply Grew.drew | with_reducible apply Grew.store | with_reducible assumption)))))))))); refine wpQuiet_nil ?_; rintro _ ⟨u, rfl⟩))
    go_ret2
    exact RetPh.nil HR.out (by decide) (by repeat (first | with_reducible exact Grew.refl _ | with_reducible apply Grew.alloc | with_reducible apply Grew.later | with_reducible apply Grew.drew | with_reducible apply Grew.store | with_reducible assumption))
  have hl' : ((P.length : Int) != T.length) = false := by simp [hl]
  have Hl := Lib.hid hl
  have HA := Lib.hid (fun h : P.all pickB = false => ph_arg (P := P) (T := T) (by omega) (by omega) (by rw [h]; simp))
  have HO := Lib.hid (fun h : P.all pickB = true => ph_ok (P := P) (T := T) (by omega) (by omega) ⟨hf, hl, h⟩)
  have hPl : P.length ≤ 4096 := by omega
  clear hl l1 l2
  go_enter Try.func41, Try.ntmps41
  go_wp2_with (first | (go_at_call 105; (with_reducible refine call_later (is_bool hf (HF.out _ (by repeat (first | with_reducible exact Grew.refl _ | with_reducible apply Grew.alloc | with_reducible apply Grew.later | with_reducible apply Grew.drew | with_reducible apply Grew.store | with_reducible assumption)))) ?_); intro u) | ((with_reducible refine wp_region_later ?_ ?_ ?_); (· kernel_rfl); (· kernel_rfl); (repeat (go_big_quiet_step ((first | (go_at_call 105; (with_reducible exact call_quiet (is_bool hf (HF.out _ (by repeat (first | with_reducible exact Grew.refl _ | with_reducible apply Grew.alloc | with_reducible apply Grew.later | with_reducible apply Grew.drew | with_reducible apply Grew.store | with_reducible assumption)))))))))); refine wpQuiet_nil ?_; rintro _ ⟨u, rfl⟩))
  go_loopw [7] (fun t wr => ∃ k : Nat, t = .int .i64 k ∧ k ≤ P.length ∧ (P.take k).all pickB = true ∧ Grew w wr) (fun t _ => P.length - (intOf t).toNat)
  case atStart => exact ⟨0, rfl, by omega, rfl, (by repeat (first | with_reducible exact Grew.refl _ | with_reducible apply Grew.alloc | with_reducible apply Grew.later | with_reducible apply Grew.drew | with_reducible apply Grew.store | with_reducible assumption))⟩
  case round =>
    obtain ⟨k, rfl, hk, hall, hg⟩ := hrel
    obtain ⟨x, rfl⟩ := later_of hg
    clear hg
    have Hall := Lib.hid hall
    clear hall
    by_cases hlt : k < P.length
    · obtain ⟨b1, o1, rfl, i1, hd⟩ := HI.out k hlt
      have Hno := Lib.hid (fun h : pickB P[k] = false => all_false pickB P k hlt h)
      have Hyes := Lib.hid (fun h : pickB P[k] = true => all_take_succ pickB P k hlt Hall.out h)
      rw [← plAt_is P k hlt] at Hno Hyes
      generalize plAt P k = n at *
      by_cases c1 : n < -1
      · have Hr := Lib.hid (HA.out (Hno.out (by unfold pickB; simp; omega)))
        go_wp2_with (first | ((with_reducible refine wp_region_later ?_ ?_ ?_); (· kernel_rfl); (· kernel_rfl); (repeat (go_big_quiet_step (fail))); refine wpQuiet_nil ?_; rintro _ ⟨u, rfl⟩))
        go_ret2
        exact RetPh.nil Hr.out (by decide) (by repeat (first | with_reducible exact Grew.refl _ | with_reducible apply Grew.alloc | with_reducible apply Grew.later | with_reducible apply Grew.drew | with_reducible apply Grew.store | with_reducible assumption))
      · by_cases c2 : 16 ≤ n
        · have Hr := Lib.hid (HA.out (Hno.out (by unfold pickB; simp; omega)))
          go_wp2_with (first | ((with_reducible refine wp_region_later ?_ ?_ ?_); (· kernel_rfl); (· kernel_rfl); (repeat (go_big_quiet_step (fail))); refine wpQuiet_nil ?_; rintro _ ⟨u, rfl⟩))
          go_ret2
          exact RetPh.nil Hr.out (by decide) (by repeat (first | with_reducible exact Grew.refl _ | with_reducible apply Grew.alloc | with_reducible apply Grew.later | with_reducible apply Grew.drew | with_reducible apply Grew.store | with_reducible assumption))
        · have Hr := Lib.hid (Hyes.out (by unfold pickB; simp; omega))
          go_wp2_with (first | ((with_reducible refine wp_region_later ?_ ?_ ?_); (· kernel_rfl); (· kernel_rfl); (repeat (go_big_quiet_step (fail))); refine wpQuiet_nil ?_; rintro _ ⟨u, rfl⟩))
          go_roundw
          case rel => exact ⟨k + 1, by go_num, by omega, Hr.out, (by repeat (first | with_reducible exact Grew.refl _ | with_reducible apply Grew.alloc | with_reducible apply Grew.later | with_reducible apply Grew.drew | with_reducible apply Grew.store | with_reducible assumption))⟩
          case measure => simp [intOf]; omega
    · have Hr := Lib.hid (HO.out (all_true pickB P k (by omega) Hall.out))
      clear HA HO Hall
      obtain rfl : k = P.length := by omega
      obtain ⟨i0, hi, hz0, hzz1, hzz2⟩ := info_parts infoPh
      have Hinf := Lib.hid (And.intro hi (And.intro hz0 (And.intro hzz1 hzz2)))
      clear hi hz0 hzz1 hzz2
      go_wp2
      go_loopw [8, 9] (fun v t wr => ∃ (k : Nat) (v8 : Value), t = .int .i64 k ∧ v8 = v ∧ k ≤ P.length ∧ wr.ownsRow w.heap.size 159 5 v8 (phAt P T k).length ((phAt P T k).flatMap Ph.cells) ∧ Grew w wr) (fun _ t _ => P.length - (intOf t).toNat)
      case atStart => exact ⟨0, _, rfl, rfl, by omega, World.ownsRow_nil _ _ _ _, (by repeat (first | with_reducible exact Grew.refl _ | with_reducible apply Grew.alloc | with_reducible apply Grew.later | with_reducible apply Grew.drew | with_reducible apply Grew.store | with_reducible assumption))⟩
      case round =>
        obtain ⟨k, v8, rfl, rfl, hk, hown, hg⟩ := hrel
        obtain ⟨y, rfl⟩ := later_of hg
        clear hg
        by_cases hlt : k < P.length
        · obtain ⟨b1, o1, rfl, i1, hd⟩ := HI.out k hlt
          obtain ⟨b2, o2, rfl, i2, he1, he2⟩ := HT.out k (by rw [← Hl.out]; exact hlt)
          have hlT : k < T.length := by rw [← Hl.out]; exact hlt
          by_cases hs : samB P k = true
          · have hk0 : 0 < k := by unfold samB at hs; simp at hs; exact hs.1
            obtain ⟨j, rfl⟩ : ∃ j, k = j + 1 := ⟨k - 1, by omega⟩
            obtain ⟨_, _, e1, _, hd2⟩ := HI.out j (by omega)
            cases e1
            have q1 : (j : Int) + 1 < P.length := by omega
            have q2 : (j : Int) + 1 < T.length := by omega
            have hsm : (plAt P (j + 1) == plAt P j) = true := by unfold samB at hs; simpa using hs
            obtain ⟨l, p, hlp⟩ := ph_last P T (j + 1) hk0
            have hnext : phAt P T (j + 1 + 1) = goOn T (j + 1) (phAt P T (j + 1)) := by rw [phAt, if_pos hs]
            have Hn1 := Lib.hid (show (phAt P T (j + 1 + 1)).flatMap Ph.cells = ((((phAt P T (j + 1)).flatMap Ph.cells).set (l.length * 5 + 2) (.int .i64 ((j + 1 : Nat) : Int))).set (l.length * 5 + 4) (.int .i64 (tuAt T (j + 1)).z)) by rw [hnext, hlp, goOn_cells])
            have Hn2 := Lib.hid (show (phAt P T (j + 1 + 1)).length = l.length + 1 by rw [hnext, hlp, goOn_len])
            have hll : (phAt P T (j + 1)).length = l.length + 1 := by rw [hlp]; simp
            have hlen := (phAt_len P T (j + 1)).1
            rw [hll] at hown hlen
            obtain ⟨g, cap, rfl, hg2, hg3⟩ := hown.form (by omega)
            have hh1 := hown.cellAt (l.length * 5 + 2) (by omega)
            have hh2 := hown.cellAt (l.length * 5 + 4) (by omega)
            have hf1 := hown.frozenAt (l.length * 5 + 2)
            have hf2 := hown.frozenAt (l.length * 5 + 4)
            have Hs2 := Lib.hid (fun u : Later y.world => ((((owns_grew hown u.grew).stored (l.length * 5 + 2) (.int .i64 ((j + 1 : Nat) : Int))).1).stored (l.length * 5 + 4) (.int .i64 (tuAt T (j + 1)).z)).1)
            have hxl : ((phAt P T (j + 1)).flatMap Ph.cells).length = (l.length + 1) * 5 := by rw [ph_cells_len, hll]
            have hh1' : ∃ q, y.world.cell? ⟨g, l.length * 5 + 2, none⟩ = some q := by rw [hh1]; exact ⟨_, List.getElem?_eq_getElem (by omega)⟩
            have hh2' : ∃ q, y.world.cell? ⟨g, l.length * 5 + 4, none⟩ = some q := by rw [hh2]; exact ⟨_, List.getElem?_eq_getElem (by omega)⟩
            obtain ⟨q1, hq1⟩ := hh1'
            obtain ⟨q2, hq2⟩ := hh2'
            have inw : NewFor w g := ⟨hg2⟩
            have ibg : BlockIn y.world g := ⟨hg3⟩
            have iap : Apart b2 g := ⟨by have := i2.lt; omega⟩
            have ihc1 : HasCell y.world g (l.length * 5 + 2) := ⟨_, hq1⟩
            have ihc2 : HasCell y.world g (l.length * 5 + 4) := ⟨_, hq2⟩
            clear hs hlp hnext hll hown hh1 hh2 hxl hk0
            generalize plAt P (j + 1) = x1 at *
            generalize plAt P j = x0 at *
            generalize (tuAt T (j + 1)).z = tz at *
            generalize (tuAt T (j + 1)).a = ta at *
            generalize l.length = m at *
            go_wp2_with (first | ((with_reducible refine wp_region_later ?_ ?_ ?_); (· kernel_rfl); (· kernel_rfl); (repeat (go_big_quiet_step (fail))); refine wpQuiet_nil ?_; rintro _ ⟨u, rfl⟩))
            go_roundw
            case rel => exact ⟨j + 1 + 1, _, by go_num, rfl, by omega, by rw [Hn1.out, Hn2.out]; exact Hs2.out u, (by repeat (first | with_reducible exact Grew.refl _ | with_reducible apply Grew.alloc | with_reducible apply Grew.later | with_reducible apply Grew.drew | with_reducible apply Grew.store | with_reducible assumption))⟩
            case measure => simp [intOf]; omega
          · have hs' : samB P k = false := by simpa using hs
            have hnext : phAt P T (k + 1) = phAt P T k ++ [phOf P T (k, k)] := by rw [phAt, if_neg hs]
            have Hn1 := Lib.hid (show (phAt P T (k + 1)).flatMap Ph.cells = (phAt P T k).flatMap Ph.cells ++ [.int .i64 (plAt P k), .int .i64 k, .int .i64 k, .int .i64 (tuAt T k).a, .int .i64 (tuAt T k).z] by rw [hnext, List.flatMap_append]; rfl)
            have Hn2 := Lib.hid (show (phAt P T (k + 1)).length = (phAt P T k).length + 1 by rw [hnext]; simp)
            have hlen : (phAt P T k).length ≤ 4096 := Nat.le_trans (phAt_len P T k).1 (by omega)
            have Hsam := Lib.hid hs'
            clear hs hs' hnext
            have io : Own y.world w.heap.size 159 5 v8 (phAt P T k).length ((phAt P T k).flatMap Ph.cells) := ⟨hown⟩
            have hbase : w.heap.size ≤ y.world.heap.size := Below.size y.grew
            obtain ⟨hi, hz0, hzz1, hzz2⟩ := Hinf.out
            generalize (phAt P T k).length = n at *
            by_cases hk0 : k = 0
            · subst hk0
              simp only [Nat.zero_mul, Nat.add_zero] at hd he1 he2
              generalize plAt P 0 = x1 at *
              generalize (tuAt T 0).z = tz at *
              generalize (tuAt T 0).a = ta at *
              go_wp2_with (first | ((with_reducible refine wp_region_later ?_ ?_ ?_); (· kernel_rfl); (· kernel_rfl); (repeat (go_big_quiet_step (fail))); refine wpQuiet_nil ?_; rintro _ ⟨u, rfl⟩))
              have hbu : w.heap.size ≤ u.world.heap.size := Nat.le_trans hbase u.grew.size
              have hm63 : n + 1 ≤ maxLen := by simp [maxLen]; omega
              have hm40 : (n + 1) * 40 ≤ 140737488355328 := by omega
              skip
              go_region_held3 (fun w' => w'.cell? ⟨b1, o1, none⟩ = some (.int .i64 x1) ∧ w'.cell? ⟨b2, o2, none⟩ = some (.int .i64 ta) ∧ w'.cell? ⟨b2, o2 + 1, none⟩ = some (.int .i64 tz))
                (exact ⟨by first | (go_simp; done) | exact hg1.cell hd, by first | (go_simp; done) | exact hg1.cell he1, by first | (go_simp; done) | exact hg1.cell he2⟩)
                ((refine step_append_lies _ (by rfl) _ _ 81 (by rfl) w.heap.size 159 i0 _ 5 40 Try.underlying81 hi hz0 hzz1 hzz2 (by rfl) (by decide) v8 _ _ (by rfl) Own.is ⟨_, 0, none⟩ 1 1 [.int .i64 x1, .int .i64 ((0 : Nat) : Int), .int .i64 ((0 : Nat) : Int), .int .i64 ta, .int .i64 tz] (by rfl) (by rfl) news_row (by simp [Value.oneCell']) (by decide) hm63 hm40 (Nat.le_trans hbu (by simp)) _ rfl ?_
                  intro g1 cap1 w1 hown1 hgrow1 hat1 hlt1
                  have hg1 : Grew w w1 := Grew.append (by repeat (first | with_reducible exact Grew.refl _ | with_reducible apply Grew.alloc | with_reducible apply Grew.later | with_reducible apply Grew.drew | with_reducible apply Grew.store | with_reducible assumption)) (Own.is (v := v8) (base := w.heap.size) (e := 159) (size := 5)) (Nat.le_refl _) hgrow1))
              all_goals go_wp2
              all_goals (skip)
              all_goals
                go_roundw
                case rel => exact ⟨0 + 1, _, by go_num, rfl, by omega, by rw [Hn1.out, Hn2.out]; exact hown1, hg1⟩
                case measure => simp [intOf]; omega
            · obtain ⟨j, rfl⟩ : ∃ j, k = j + 1 := ⟨k - 1, by omega⟩
              obtain ⟨_, _, e1, _, hd2⟩ := HI.out j (by omega)
              cases e1
              have q1 : (j : Int) + 1 < P.length := by omega
              have q2 : (j : Int) + 1 < T.length := by omega
              have hsm : (plAt P (j + 1) == plAt P j) = false := by have := Hsam.out; unfold samB at this; simpa using this
              clear hk0
              generalize plAt P (j + 1) = x1 at *
              generalize plAt P j = x0 at *
              generalize (tuAt T (j + 1)).z = tz at *
              generalize (tuAt T (j + 1)).a = ta at *
              go_wp2_with (first | ((with_reducible refine wp_region_later ?_ ?_ ?_); (· kernel_rfl); (· kernel_rfl); (repeat (go_big_quiet_step (fail))); refine wpQuiet_nil ?_; rintro _ ⟨u, rfl⟩))
              have hbu : w.heap.size ≤ u.world.heap.size := Nat.le_trans hbase u.grew.size
              have hm63 : n + 1 ≤ maxLen := by simp [maxLen]; omega
              have hm40 : (n + 1) * 40 ≤ 140737488355328 := by omega
              obtain ⟨p0, pt⟩ : (0 : Int) ≤ (j : Int) + 1 ∧ ((j : Int) + 1).toNat = j + 1 := ⟨by omega, by omega⟩
              go_region_held3 (fun w' => w'.cell? ⟨b1, o1 + (j + 1), none⟩ = some (.int .i64 x1) ∧ w'.cell? ⟨b2, o2 + (j + 1) * 16, none⟩ = some (.int .i64 ta) ∧ w'.cell? ⟨b2, o2 + (j + 1) * 16 + 1, none⟩ = some (.int .i64 tz))
                (exact ⟨by first | (go_simp; done) | exact hg1.cell hd, by first | (go_simp; done) | exact hg1.cell he1, by first | (go_simp; done) | exact hg1.cell he2⟩)
                ((refine step_append_lies _ (by rfl) _ _ 81 (by rfl) w.heap.size 159 i0 _ 5 40 Try.underlying81 hi hz0 hzz1 hzz2 (by rfl) (by decide) v8 _ _ (by rfl) Own.is ⟨_, 0, none⟩ 1 1 [.int .i64 x1, .int .i64 ((j : Int) + 1), .int .i64 ((j : Int) + 1), .int .i64 ta, .int .i64 tz] (by rfl) (by rfl) news_row (by simp [Value.oneCell']) (by decide) hm63 hm40 (Nat.le_trans hbu (by simp)) _ rfl ?_
                  intro g1 cap1 w1 hown1 hgrow1 hat1 hlt1
                  have hg1 : Grew w w1 := Grew.append (by repeat (first | with_reducible exact Grew.refl _ | with_reducible apply Grew.alloc | with_reducible apply Grew.later | with_reducible apply Grew.drew | with_reducible apply Grew.store | with_reducible assumption)) (Own.is (v := v8) (base := w.heap.size) (e := 159) (size := 5)) (Nat.le_refl _) hgrow1))
              all_goals go_wp2
              all_goals (clear p0 pt)
              all_goals
                go_roundw
                case rel => exact ⟨j + 1 + 1, _, by go_num, rfl, by omega, by rw [Hn1.out, Hn2.out]; exact hown1, hg1⟩
                case measure => simp [intOf]; omega
        · obtain rfl : k = P.length := by omega
          have Hs := Lib.hid (SlAt.of_owns hown)
          go_wp2
          go_ret2
          exact RetPh.full Hr.out Hs.out (by repeat (first | with_reducible exact Grew.refl _ | with_reducible apply Grew.alloc | with_reducible apply Grew.later | with_reducible apply Grew.drew | with_reducible apply Grew.store | with_reducible assumption))
end Go.Proofs.Ytdanaclplmacgaa
