/-
  Contract of ullageref13.legs.
-/
import Derived.Test.YtgjikdhidakloaaNodeLegsP
namespace Go.Proofs.Ytgjikdhidakloaa
open Go.RowKit
set_option maxRecDepth 100000
set_option maxHeartbeats 16000000
/-- What is left before step i of m + 1. -/
def leftZ (x : Arc × List Pt) (m i : Nat) : Int := if i ≤ m then x.1.time - x.1.step * i else 0
theorem left_on {x : Arc × List Pt} {m i : Nat} (h : i < m) (hs : 1 ≤ x.1.step) (h1 : x.1.step * (m : Int) ≤ x.1.time - 1) : x.1.step < leftZ x m i ∧ leftZ x m i - x.1.step = leftZ x m (i + 1) ∧ leftZ x m (i + 1) ≠ 0 ∧ leftZ x m i ≤ x.1.time := by
  unfold leftZ
  rw [if_pos (by omega), if_pos (by omega)]
  have h2 : x.1.step * ((i + 1 : Nat) : Int) ≤ x.1.step * (m : Int) := Int.mul_le_mul_of_nonneg_left (by omega) (by omega)
  have h3 : x.1.step * ((i + 1 : Nat) : Int) = x.1.step * (i : Int) + x.1.step := by rw [Int.natCast_add, Int.mul_add]; simp
  have h4 : 0 ≤ x.1.step * (i : Int) := Int.mul_nonneg (by omega) (by omega)
  generalize x.1.step * (i : Int) = A at *
  generalize x.1.step * ((i + 1 : Nat) : Int) = B at *
  generalize x.1.step * (m : Int) = C at *
  omega
theorem left_last {x : Arc × List Pt} {m : Nat} (h1 : x.1.step * (m : Int) ≤ x.1.time - 1) (h2 : x.1.time ≤ x.1.step * (m : Int) + x.1.step) : leftZ x m m = x.1.time - x.1.step * m ∧ 0 < leftZ x m m ∧ leftZ x m m ≤ x.1.step ∧ leftZ x m (m + 1) = 0 := by
  unfold leftZ
  rw [if_pos (Nat.le_refl _), if_neg (by omega)]
  omega
theorem left_start {x : Arc × List Pt} {m : Nat} : leftZ x m 0 = x.1.time := by
  unfold leftZ
  rw [if_pos (by omega)]
  simp
theorem r13Legs_any (L : Arcs) (v : Value) (w : World) (hd : ArcsAt w v L) (hc : arcsCode L = 0) : Calls Try.prog 40 #[v] w (RetLegs L w) := by
  obtain ⟨hco, hsum⟩ := arcs_fit hc
  obtain ⟨⟨ao0, cap0, e0, hm, hc⟩, hdr⟩ := hd
  unfold maxLen at hm
  have HcA := Lib.hid (SlAt.elem (f := arcCells) (c := 15) (fun _ => rfl) (by omega) hc)
  have Hdr := Lib.hid hdr
  have Hco := Lib.hid hco
  have Hsum := Lib.hid (fun k i hk hi => sum_le hsum k i hk hi)
  have HT := Lib.hid (fun k hk => legsL_take L k hk)
  clear hc hdr hco hsum
  subst e0
  go_enter Try.func40, Try.ntmps40
  go_wp2
  go_loopw [3, 4] (fun q t wr => ∃ (k : Nat) (v3 : Value), t = .int .i64 k ∧ v3 = q ∧ k ≤ L.length ∧ wr.ownsRow w.heap.size 115 17 v3 (legsL (L.take k)).length ((legsL (L.take k)).flatMap legC) ∧ Grew w wr) (fun _ t _ => L.length - (intOf t).toNat)
  case atStart => exact ⟨0, _, rfl, rfl, by omega, World.ownsRow_nil _ _ _ _, (by repeat (first | with_reducible exact Grew.refl _ | with_reducible apply Grew.alloc | with_reducible apply Grew.later | with_reducible apply Grew.drew | with_reducible apply Grew.store | with_reducible assumption))⟩
  case round =>
    obtain ⟨k, v3, rfl, rfl, hk, hown, hg⟩ := hrel
    obtain ⟨y, rfl⟩ := later_of hg
    clear hg
    by_cases hlt : k < L.length
    · skip
      obtain ⟨b1, o1, e1, i1, hd1, hd2⟩ := HcA.out k hlt
      have hc0 := hd1 _ rfl
      have hc1 := hd2 1 _ rfl
      have hc2 := hd2 2 _ rfl
      have hc3 := hd2 3 _ rfl
      have hc4 := hd2 4 _ rfl
      have hc5 := hd2 5 _ rfl
      have hc6 := hd2 6 _ rfl
      have hc7 := hd2 7 _ rfl
      have hc8 := hd2 8 _ rfl
      have hc9 := hd2 9 _ rfl
      have hc10 := hd2 10 _ rfl
      have hc11 := hd2 11 _ rfl
      have hc12 := hd2 12 _ rfl
      have hc13 := hd2 13 _ rfl
      have hc14 := hd2 14 _ rfl
      clear hd1 hd2
      have i1 : BlockIn w b1 := ⟨i1⟩
      obtain ⟨hdr, ht, hst⟩ := Hdr.out _ (List.getElem_mem hlt)
      have hcode := Hco.out k hlt
      obtain ⟨hn, hs1, ht1, hp1, hp2, hp0, hm4⟩ := steps_fit hcode
      have Hlen := Lib.hid (fun i hi => Hsum.out k i hlt hi)
      have Htk := Lib.hid (HT.out k hlt)
      have Hof := Lib.hid (show legsOf L[k] = legsTo L[k] (stepsM L[k] + 1) by unfold legsOf; rw [hn]; rfl)
      have Hsucc := Lib.hid (legsTo_succ L[k])
      clear hdr
      cases e1
      generalize L[k] = x at *
      have Hn := Lib.hid hn
      generalize hM : stepsM x = m at *
      have hlast := Lib.hid (fun i h => legAt_last x m i h)
      have hon := Lib.hid (fun i h => legAt_on x m i h)
      have Hl1 := Lib.hid (fun i (h : i < m) => left_on h hs1 hp1)
      have Hl2 := Lib.hid (left_last hp1 hp2)
      have Hl0 := Lib.hid (left_start (x := x) (m := m))
      clear hcode hp1 hp2 hp0 hn hM
      go_wp2
      go_loopw [3, 5] (fun q t wr => ∃ (i : Nat) (v3 : Value), t = .int .i64 (leftZ x m i) ∧ v3 = q ∧ i ≤ m + 1 ∧ wr.ownsRow w.heap.size 115 17 v3 (legsL (L.take k) ++ legsTo x i).length ((legsL (L.take k) ++ legsTo x i).flatMap legC) ∧ Grew w wr) (fun _ t _ => (intOf t).toNat)
      case atStart => exact ⟨0, _, by rw [Hl0.out], rfl, by omega, by simpa [legsTo] using hown, (by repeat (first | with_reducible exact Grew.refl _ | with_reducible apply Grew.alloc | with_reducible apply Grew.later | with_reducible apply Grew.drew | with_reducible apply Grew.store | with_reducible assumption))⟩
      case round =>
        clear hown
        obtain ⟨i, v3', rfl, rfl, hi, hown, hg⟩ := hrel
        obtain ⟨z, rfl⟩ := later_of hg
        clear hg
        by_cases him : i < m + 1
        · have hl := Hlen.out i (by rw [Hn.out]; omega)
          have Hs := Lib.hid (Hsucc.out i)
          by_cases hlq : i = m
          · subst hlq
            rw [hlast.out i rfl] at Hs
            obtain ⟨q1, q2, q3, q4⟩ := Hl2.out
            rw [← q1] at Hs
            have Hq4 := Lib.hid q4
            clear q1 q4
            generalize leftZ x i i = z0 at *
            have hmin : min z0 x.1.step = z0 := Int.min_eq_left q3
            have hmin2 : ¬ (x.1.step < z0) := by omega
            go_wp2_with (at_builtin; go_loud (refine wpList_app_rleg w _ (by repeat (first | with_reducible exact Grew.refl _ | with_reducible apply Grew.alloc | with_reducible apply Grew.later | with_reducible apply Grew.drew | with_reducible apply Grew.store | with_reducible assumption)) rfl _ _ rfl _ _ hown rfl (x, z0, true) _ rfl hl ?_; intro v' y1 hown'))
            go_roundw
            case rel => exact ⟨i + 1, _, by rw [Hq4.out], rfl, by omega, by rw [Hs.out, ← List.append_assoc]; exact hown', (by repeat (first | with_reducible exact Grew.refl _ | with_reducible apply Grew.alloc | with_reducible apply Grew.later | with_reducible apply Grew.drew | with_reducible apply Grew.store | with_reducible assumption))⟩
            case measure => first | (simp [intOf]; done) | (simp [intOf]; omega)
          · rw [hon.out i hlq] at Hs
            obtain ⟨q1, q2, q3, q4⟩ := Hl1.out i (by omega)
            have Hq2 := Lib.hid q2
            generalize leftZ x m i = z0 at *
            generalize hz1 : leftZ x m (i + 1) = z1 at *
            subst q2
            have Hz1 := Lib.hid hz1
            clear hz1
            have hmin2 : ¬ (z0 < x.1.step) := by omega
            have hq3 : (z0 - x.1.step == 0) = false := by simp; omega
            go_wp2_with (at_builtin; go_loud (refine wpList_app_rleg w _ (by repeat (first | with_reducible exact Grew.refl _ | with_reducible apply Grew.alloc | with_reducible apply Grew.later | with_reducible apply Grew.drew | with_reducible apply Grew.store | with_reducible assumption)) rfl _ _ rfl _ _ hown rfl (x, x.1.step, false) _ rfl hl ?_; intro v' y1 hown'))
            go_roundw
            case rel => exact ⟨i + 1, _, by rw [Hz1.out], rfl, by omega, by rw [Hs.out, ← List.append_assoc]; exact hown', (by repeat (first | with_reducible exact Grew.refl _ | with_reducible apply Grew.alloc | with_reducible apply Grew.later | with_reducible apply Grew.drew | with_reducible apply Grew.store | with_reducible assumption))⟩
            case measure => first | (simp [intOf]; done) | (simp [intOf]; omega)
        · obtain rfl : i = m + 1 := by omega
          rw [← Hof.out, ← Htk.out] at hown
          have q4 := Hl2.out.2.2.2
          rw [q4]
          go_wp2
          go_roundw
          case rel => exact ⟨k + 1, _, by go_num, rfl, by omega, hown, (by repeat (first | with_reducible exact Grew.refl _ | with_reducible apply Grew.alloc | with_reducible apply Grew.later | with_reducible apply Grew.drew | with_reducible apply Grew.store | with_reducible assumption))⟩
          case measure => first | (simp [intOf]; done) | (simp [intOf]; omega)
    · obtain rfl : k = L.length := by omega
      rw [List.take_length] at hown
      have Hs := Lib.hid (SlAt.of_owns hown)
      clear hown
      go_wp2
      go_ret
      exact ⟨_, rfl, Hs.out, (by repeat (first | with_reducible exact Grew.refl _ | with_reducible apply Grew.alloc | with_reducible apply Grew.later | with_reducible apply Grew.drew | with_reducible apply Grew.store | with_reducible assumption))⟩
end Go.Proofs.Ytgjikdhidakloaa
