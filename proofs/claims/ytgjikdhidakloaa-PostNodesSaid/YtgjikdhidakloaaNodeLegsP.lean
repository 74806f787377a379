/-
  Contract of post.legs.
-/
import Derived.Test.YtgjikdhidakloaaNodeLegs
namespace Go.Proofs.Ytgjikdhidakloaa
open Go.RowKit
set_option maxRecDepth 100000
set_option maxHeartbeats 16000000
def RetLegs (L : Arcs) (w : World) (e : Ending) (w' : World) : Prop := ∃ v', e = .returned v' ∧ SlAt w' v' (legsL L).length ((legsL L).flatMap legC) ∧ Grew w w'
theorem legAt_last (x : Arc × List Pt) (m i : Nat) (h : i = m) : legAt x m i = (x, x.1.time - x.1.step * m, true) := by unfold legAt; rw [if_pos h, decide_eq_true h]
theorem legAt_on (x : Arc × List Pt) (m i : Nat) (h : i ≠ m) : legAt x m i = (x, x.1.step, false) := by unfold legAt; rw [if_neg h, decide_eq_false h]
theorem sum_le {L : Arcs} (h : sumZ L ≤ 4096) (k i : Nat) (hk : k < L.length) (hi : i ≤ (stepsNum L[k].1 L[k].2).toNat) : (legsL (L.take k) ++ legsTo L[k] i).length ≤ 268435456 := by
  have h1 : (L.take (k + 1)) ++ L.drop (k + 1) = L := List.take_append_drop _ _
  have h2 : sumZ (L.take (k + 1)) ≤ sumZ L := by
    have key : ∀ A B : Arcs, sumZ A ≤ sumZ (A ++ B) := by
      intro A B
      induction A with
      | nil =>
        have := (sumZ_bd B B.length).1
        rw [List.take_length] at this
        simpa [sumZ] using this
      | cons x r ih => simp only [List.cons_append, sumZ]; omega
    have := key (L.take (k + 1)) (L.drop (k + 1))
    rwa [h1] at this
  rw [sumZ_take L k hk] at h2
  have h3 := legsL_len (L.take k)
  have h4 := (stepsNum_bd L[k].1 L[k].2).1
  rw [List.length_append, legsTo_len]
  omega
theorem owns_below {w : World} {base : Nat} {e : TypeId} {size : Nat} {v : Value} {n : Nat} {xs : List Value} (h : w.ownsRow base e size v n xs) : ∀ k, v.ownBlock = some k → k < w.heap.size := by
  intro k hk
  rcases h.2 with ⟨rfl, -⟩ | ⟨g, cap, cur, rfl, hg, hh, -⟩
  · cases hk
  · cases hk
    exact (Array.getElem?_eq_some_iff.1 hh).1
theorem far_next {w : World} {v : Value} {B g n cap : Nat} (i : BlockIn w B) (h : v.ownBlock ≠ some B) (hat : v.ownBlock = some g ∨ g = w.heap.size + 1) : (Value.slice (some ⟨g, 0, none⟩) n cap).ownBlock ≠ some B := by
  intro e
  have e : some g = some B := e
  cases e
  rcases hat with h' | h'
  · exact h h'
  · have := i.lt
    omega
theorem cell_grown {w w' : World} {o : Obj} {row : Option Nat} {c i : Nat} {x : Value} (hc : w.cell? ⟨c, i, none⟩ = some x) (g : (w.alloc o).grownBy w' row) (hne : row ≠ some c) : w'.cell? ⟨c, i, none⟩ = some x := by
  have h1 : (w.alloc o).cell? ⟨c, i, none⟩ = some x := by rw [World.cell?_alloc_past o c i (World.block_lt_of_cell? w _ hc), hc]
  rw [g.cell_far _ (World.block_lt_of_cell? _ _ h1) (fun e => hne e.symm), h1]
theorem postLegs_any (L : Arcs) (v : Value) (w : World) (hd : ArcsAt w v L) (hc : arcsCode L = 0) : Calls Try.prog 38 #[v] w (RetLegs L w) := by
  obtain ⟨hco, hsum⟩ := arcs_fit hc
  obtain ⟨⟨ao0, cap0, e0, hm, hc⟩, hdr⟩ := hd
  unfold maxLen at hm
  have HcA := Lib.hid (SlAt.elem (f := arcCells) (c := 15) (fun _ => rfl) (by omega) hc)
  have Hdr := Lib.hid hdr
  have Hco := Lib.hid hco
  have Hsum := Lib.hid (fun k i hk hi => sum_le hsum k i hk hi)
  have HT := Lib.hid (fun k hk => legsL_take L k hk)
  clear hc hdr hco hsum
  subst e0
  go_enter Try.func38, Try.ntmps38
  go_wp2
  go_loopw [3, 12] (fun q t wr => ∃ (k : Nat) (v3 : Value), t = .int .i64 k ∧ v3 = q ∧ k ≤ L.length ∧ wr.ownsRow w.heap.size 113 17 v3 (legsL (L.take k)).length ((legsL (L.take k)).flatMap legC) ∧ Grew w wr) (fun _ t _ => L.length - (intOf t).toNat)
  case atStart => exact ⟨0, _, rfl, rfl, by omega, World.ownsRow_nil _ _ _ _, (by repeat (first | with_reducible exact Grew.refl _ | with_reducible apply Grew.alloc | with_reducible apply Grew.later | with_reducible apply Grew.drew | with_reducible apply Grew.store | with_reducible assumption))⟩
  case round =>
    obtain ⟨k, v3, rfl, rfl, hk, hown, hg⟩ := hrel
    obtain ⟨y, rfl⟩ := later_of hg
    clear hg
    by_cases hlt : k < L.length
    · skip
      obtain ⟨b1, o1, e1, i1, hd1, hd2⟩ := HcA.out k hlt
      have hc0 := hd1 _ rfl
      have hc1 := hd2 1 _ rfl
      have hc2 := hd2 2 _ rfl
      have hc3 := hd2 3 _ rfl
      have hc4 := hd2 4 _ rfl
      have hc5 := hd2 5 _ rfl
      have hc6 := hd2 6 _ rfl
      have hc7 := hd2 7 _ rfl
      have hc8 := hd2 8 _ rfl
      have hc9 := hd2 9 _ rfl
      have hc10 := hd2 10 _ rfl
      have hc11 := hd2 11 _ rfl
      have hc12 := hd2 12 _ rfl
      have hc13 := hd2 13 _ rfl
      have hc14 := hd2 14 _ rfl
      clear hd1 hd2
      have i1 : BlockIn w b1 := ⟨i1⟩
      obtain ⟨hdr, ht, hst⟩ := Hdr.out _ (List.getElem_mem hlt)
      have hcode := Hco.out k hlt
      have HS := Lib.hid (fun w' (g : Grew w w') => flSteps_any L[k].1 L[k].2 w' (hdr.grew g) ht hst)
      obtain ⟨hn, hs1, ht1, hp1, hp2, hp0, hm4⟩ := steps_fit hcode
      have Hlen := Lib.hid (fun i hi => Hsum.out k i hlt hi)
      have Htk := Lib.hid (HT.out k hlt)
      have Hof := Lib.hid (show legsOf L[k] = legsTo L[k] (stepsM L[k] + 1) by unfold legsOf; rw [hn]; rfl)
      have Hsucc := Lib.hid (legsTo_succ L[k])
      clear hdr
      cases e1
      generalize L[k] = x at *
      rw [hcode, hn] at HS
      have Hn := Lib.hid hn
      generalize hM : stepsM x = m at *
      have hmul : wrap64 (x.1.step * (m : Int)) = x.1.step * (m : Int) := wrap_id _ (by omega) (by omega)
      have hsub : wrap64 (x.1.time - x.1.step * (m : Int)) = x.1.time - x.1.step * (m : Int) := wrap_id _ (by omega) (by omega)
      have hn1 : wrap64 ((m : Int) + 1 - 1) = m := by rw [show (m : Int) + 1 - 1 = m by omega]; exact wrap_id _ (by omega) (by omega)
      have hlast := Lib.hid (fun i h => legAt_last x m i h)
      have hon := Lib.hid (fun i h => legAt_on x m i h)
      clear hcode hp1 hp2 hp0 hn hM
      go_wp2_with (first | (go_at_call 65; (with_reducible refine call_later (HS.out _ (by repeat (first | with_reducible exact Grew.refl _ | with_reducible apply Grew.alloc | with_reducible apply Grew.later | with_reducible apply Grew.drew | with_reducible apply Grew.store | with_reducible assumption))) ?_); intro u) | ((with_reducible refine wp_region_later ?_ ?_ ?_); (· kernel_rfl); (· kernel_rfl); (repeat (go_big_quiet_step ((first | (go_at_call 65; (with_reducible exact call_quiet (HS.out _ (by repeat (first | with_reducible exact Grew.refl _ | with_reducible apply Grew.alloc | with_reducible apply Grew.later | with_reducible apply Grew.drew | with_reducible apply Grew.store | with_reducible assumption))))))))); refine wpQuiet_nil ?_; rintro _ ⟨u, rfl⟩))
      go_loopw [3, 22] (fun q t wr => ∃ (i : Nat) (v3 : Value), t = .int .i64 i ∧ v3 = q ∧ i ≤ m + 1 ∧ wr.ownsRow w.heap.size 113 17 v3 (legsL (L.take k) ++ legsTo x i).length ((legsL (L.take k) ++ legsTo x i).flatMap legC) ∧ v3.ownBlock ≠ some y.world.heap.size ∧ (∀ j x, u.world.cell? ⟨y.world.heap.size, j, none⟩ = some x → wr.cell? ⟨y.world.heap.size, j, none⟩ = some x) ∧ Grew w wr) (fun _ t _ => (m + 1) - (intOf t).toNat)
      case atStart => exact ⟨0, _, rfl, rfl, by omega, by simpa [legsTo] using owns_grew hown (show Grew y.world u.world from (by repeat (first | with_reducible exact Grew.refl _ | with_reducible apply Grew.alloc | with_reducible apply Grew.later | with_reducible apply Grew.drew | with_reducible apply Grew.store | with_reducible assumption))), fun e => absurd (owns_below hown _ e) (Nat.lt_irrefl _), fun _ _ h => h, (by repeat (first | with_reducible exact Grew.refl _ | with_reducible apply Grew.alloc | with_reducible apply Grew.later | with_reducible apply Grew.drew | with_reducible apply Grew.store | with_reducible assumption))⟩
      case round =>
        clear hown
        obtain ⟨i, v3', rfl, rfl, hi, hown, hfar, hbx, hg⟩ := hrel
        obtain ⟨z, rfl⟩ := later_of hg
        clear hg
        by_cases him : i < m + 1
        · have hl := Hlen.out i (by rw [Hn.out]; omega)
          have Hs := Lib.hid (Hsucc.out i)
          have bx0 := hbx 0 _ (show u.world.cell? ⟨y.world.heap.size, 0, none⟩ = some (.int .i64 x.1.time) by go_simp)
          have bx1 := hbx 1 _ (show u.world.cell? ⟨y.world.heap.size, 1, none⟩ = some (.int .i64 x.1.step) by go_simp)
          have bx2 := hbx 2 _ (show u.world.cell? ⟨y.world.heap.size, 2, none⟩ = some (.int .i64 x.1.thrust.lo) by go_simp)
          have bx3 := hbx 3 _ (show u.world.cell? ⟨y.world.heap.size, 3, none⟩ = some (.int .i64 x.1.thrust.hi) by go_simp)
          have bx4 := hbx 4 _ (show u.world.cell? ⟨y.world.heap.size, 4, none⟩ = some (.int .i64 x.1.flow.lo) by go_simp)
          have bx5 := hbx 5 _ (show u.world.cell? ⟨y.world.heap.size, 5, none⟩ = some (.int .i64 x.1.flow.hi) by go_simp)
          have bx6 := hbx 6 _ (show u.world.cell? ⟨y.world.heap.size, 6, none⟩ = some (.int .i64 x.1.dir.x.lo) by go_simp)
          have bx7 := hbx 7 _ (show u.world.cell? ⟨y.world.heap.size, 7, none⟩ = some (.int .i64 x.1.dir.x.hi) by go_simp)
          have bx8 := hbx 8 _ (show u.world.cell? ⟨y.world.heap.size, 8, none⟩ = some (.int .i64 x.1.dir.y.lo) by go_simp)
          have bx9 := hbx 9 _ (show u.world.cell? ⟨y.world.heap.size, 9, none⟩ = some (.int .i64 x.1.dir.y.hi) by go_simp)
          have bx10 := hbx 10 _ (show u.world.cell? ⟨y.world.heap.size, 10, none⟩ = some (.int .i64 x.1.dir.z.lo) by go_simp)
          have bx11 := hbx 11 _ (show u.world.cell? ⟨y.world.heap.size, 11, none⟩ = some (.int .i64 x.1.dir.z.hi) by go_simp)
          have bx12 := hbx 12 _ (show u.world.cell? ⟨y.world.heap.size, 12, none⟩ = some (.slice x.1.drag.ao x.1.drag.n x.1.drag.cap) by go_simp)
          have bx13 := hbx 13 _ (show u.world.cell? ⟨y.world.heap.size, 13, none⟩ = some (.int .i64 x.1.drop.lo) by go_simp)
          have bx14 := hbx 14 _ (show u.world.cell? ⟨y.world.heap.size, 14, none⟩ = some (.int .i64 x.1.drop.hi) by go_simp)
          have ibx : BlockIn z.world y.world.heap.size := BlockIn.of_cell bx0
          by_cases hlq : i = m
          · subst hlq
            rw [hlast.out i rfl] at Hs
            go_wp2_with (at_builtin; go_loud (refine wpList_app3_pleg _ w.heap.size (show Grew w _ from (by repeat (first | with_reducible exact Grew.refl _ | with_reducible apply Grew.alloc | with_reducible apply Grew.later | with_reducible apply Grew.drew | with_reducible apply Grew.store | with_reducible assumption))).size rfl _ _ rfl _ _ hown rfl (x, x.1.time - x.1.step * (i : Int), true) _ rfl hl ?_; intro g n3 cap3 w1 hown' hgrow hat))
            go_roundw
            case rel => exact ⟨i + 1, _, by go_num, rfl, by omega, by rw [Hs.out, ← List.append_assoc]; exact hown', far_next ibx hfar hat, fun j q h => cell_grown (hbx j q h) hgrow hfar, Grew.grown (by repeat (first | with_reducible exact Grew.refl _ | with_reducible apply Grew.alloc | with_reducible apply Grew.later | with_reducible apply Grew.drew | with_reducible apply Grew.store | with_reducible assumption)) hgrow (owns_base hown)⟩
            case measure => first | (simp [intOf]; done) | (simp [intOf]; omega)
          · rw [hon.out i hlq] at Hs
            have hne : ((i : Int) == (m : Int)) = false := by simp; omega
            go_wp2_with (at_builtin; go_loud (refine wpList_app3_pleg _ w.heap.size (show Grew w _ from (by repeat (first | with_reducible exact Grew.refl _ | with_reducible apply Grew.alloc | with_reducible apply Grew.later | with_reducible apply Grew.drew | with_reducible apply Grew.store | with_reducible assumption))).size rfl _ _ rfl _ _ hown rfl (x, x.1.step, false) _ rfl hl ?_; intro g n3 cap3 w1 hown' hgrow hat))
            go_roundw
            case rel => exact ⟨i + 1, _, by go_num, rfl, by omega, by rw [Hs.out, ← List.append_assoc]; exact hown', far_next ibx hfar hat, fun j q h => cell_grown (hbx j q h) hgrow hfar, Grew.grown (by repeat (first | with_reducible exact Grew.refl _ | with_reducible apply Grew.alloc | with_reducible apply Grew.later | with_reducible apply Grew.drew | with_reducible apply Grew.store | with_reducible assumption)) hgrow (owns_base hown)⟩
            case measure => first | (simp [intOf]; done) | (simp [intOf]; omega)
        · obtain rfl : i = m + 1 := by omega
          rw [← Hof.out, ← Htk.out] at hown
          go_wp2
          go_roundw
          case rel => exact ⟨k + 1, _, by go_num, rfl, by omega, hown, (by repeat (first | with_reducible exact Grew.refl _ | with_reducible apply Grew.alloc | with_reducible apply Grew.later | with_reducible apply Grew.drew | with_reducible apply Grew.store | with_reducible assumption))⟩
          case measure => first | (simp [intOf]; done) | (simp [intOf]; omega)
    · obtain rfl : k = L.length := by omega
      rw [List.take_length] at hown
      have Hs := Lib.hid (SlAt.of_owns hown)
      clear hown
      go_wp2
      go_ret
      exact ⟨_, rfl, Hs.out, (by repeat (first | with_reducible exact Grew.refl _ | with_reducible apply Grew.alloc | with_reducible apply Grew.later | with_reducible apply Grew.drew | with_reducible apply Grew.store | with_reducible assumption))⟩
end Go.Proofs.Ytgjikdhidakloaa
