/-
  Contract of post.Silent.
-/
import Derived.Test.YtgjikdhidakloaaNodeSil
import Derived.Test.YtgjikdhidakloaaNodeLegsP
import Derived.Deep.OwnRows
namespace Go.Proofs.Ytgjikdhidakloaa
open Go.RowKit
set_option maxRecDepth 100000
set_option maxHeartbeats 16000000
theorem rep_ok {n : Int} {R : List Report} (h : reportsCode n R = 0) : R.length ≤ 256 ∧ ∀ k (hk : k < R.length), 0 ≤ R[k].node ∧ R[k].node ≤ n := by
  unfold reportsCode at h
  split at h
  · cases h
  · refine ⟨by omega, fun k hk => ?_⟩
    cases ha : R.all (reportB n)
    · rw [ha] at h; cases h
    · rw [List.all_eq_true] at ha
      have := ha _ (List.getElem_mem hk)
      unfold reportB at this
      simp only [Bool.and_eq_true, decide_eq_true_eq] at this
      exact ⟨this.1.1.1.1, this.1.1.1.2⟩
theorem row_put {y W : World} {b n m : Nat} {T : TypeId} {F : Nat → Value} (hrow : y.rowIs b T n F) (g : Grew y W) (x : Value) : (W.setCell ⟨b, m, none⟩ x).rowIs b T n (fun j => if j = m then x else F j) :=
  (hrow.of_block (w' := W) (Below.block g b hrow.lt)).set m x
theorem infoBool : (Try.prog.info? 4).map (fun i => (i.zero, i.size, i.bytes)) = some (some (.bool false), 1, 1) := by kernel_rfl
theorem wp_later2 {P : Program} {c : Code} {Q : Exit → Act → World → Prop} {a : Act} {z w : World} (g : Grew z w) (h : ∀ y : Later z, y.world = w → c.wp P Q a y.world) : c.wp P Q a w := h ⟨w, g⟩ rfl
/-- The nodes that the first k reports name. -/
def heardTo (R : List Report) (k i : Nat) : Bool := (R.take k).any fun r => r.node == (i : Int)
theorem heardTo_zero (R : List Report) (i : Nat) : heardTo R 0 i = false := by simp [heardTo]
theorem heardTo_succ (R : List Report) (k i : Nat) (hk : k < R.length) : heardTo R (k + 1) i = (heardTo R k i || R[k].node == (i : Int)) := by
  unfold heardTo
  rw [List.take_succ_eq_append_getElem hk, List.any_append]
  simp
theorem heardTo_all (R : List Report) (i : Nat) : heardTo R R.length i = heardB R i := by
  unfold heardTo heardB
  rw [List.take_length]
theorem postSilent_any (L : Arcs) (R : List Report) (v1 v2 : Value) (w : World) (hd : ArcsAt w v1 L) (hr : ReportsAt w v2 R) : Calls Try.prog 15 #[v1, v2] w (RetSlC (silentL L R) (silentCode L R) w) := by
  have HA := Lib.hid (fun w' (g : Grew w w') => postArcs_any L v1 w' (hd.grew g))
  by_cases hc : arcsCode L = 0
  rotate_left
  · have HE := Lib.hid (show silentL L R = [] by unfold silentL; rw [if_neg (by rintro ⟨h, -⟩; exact hc h)])
    have HC := Lib.hid (show silentCode L R = arcsCode L by unfold silentCode; rw [if_neg hc])
    have hc' : (arcsCode L != 0) = true := by simp [hc]
    clear hc hd hr
    generalize silentL L R = sl at *
    generalize silentCode L R = sc at *
    generalize arcsCode L = c at *
    go_enter Try.func15, Try.ntmps15
    go_wp2_with (first | (go_at_call 37; (with_reducible refine call_later (HA.out _ (by repeat (first | with_reducible exact Grew.refl _ | with_reducible apply Grew.alloc | with_reducible apply Grew.later | with_reducible apply Grew.drew | with_reducible apply Grew.store | with_reducible assumption))) ?_); intro u))
    go_ret2
    exact RetSlC.full HE.out HC.out (SlAt.nil _) (by repeat (first | with_reducible exact Grew.refl _ | with_reducible apply Grew.alloc | with_reducible apply Grew.later | with_reducible apply Grew.drew | with_reducible apply Grew.store | with_reducible assumption))
  have HA2 := Lib.hid (fun w' g => is_int hc (HA.out w' g))
  have HRp := Lib.hid (fun w' (g : Grew w w') => postReports_any L R v1 v2 w' (hd.grew g) hc (hr.grew g))
  by_cases hk : reportsCode (sumZ L) R = 0
  rotate_left
  · have HE := Lib.hid (show silentL L R = [] by unfold silentL; rw [if_neg (by rintro ⟨-, h⟩; exact hk h)])
    have HC := Lib.hid (show silentCode L R = reportsCode (sumZ L) R by unfold silentCode; rw [if_pos hc])
    have hk' : (reportsCode (sumZ L) R != 0) = true := by simp [hk]
    clear hc hd hr hk HA
    generalize silentL L R = sl at *
    generalize silentCode L R = sc at *
    generalize reportsCode (sumZ L) R = c at *
    go_enter Try.func15, Try.ntmps15
    go_wp2_with (first | (go_at_call 37; (with_reducible refine call_later (HA2.out _ (by repeat (first | with_reducible exact Grew.refl _ | with_reducible apply Grew.alloc | with_reducible apply Grew.later | with_reducible apply Grew.drew | with_reducible apply Grew.store | with_reducible assumption))) ?_); intro u) | (go_at_call 41; (with_reducible refine call_later (HRp.out _ (by repeat (first | with_reducible exact Grew.refl _ | with_reducible apply Grew.alloc | with_reducible apply Grew.later | with_reducible apply Grew.drew | with_reducible apply Grew.store | with_reducible assumption))) ?_); intro u2))
    go_ret2
    exact RetSlC.full HE.out HC.out (SlAt.nil _) (by repeat (first | with_reducible exact Grew.refl _ | with_reducible apply Grew.alloc | with_reducible apply Grew.later | with_reducible apply Grew.drew | with_reducible apply Grew.store | with_reducible assumption))
  have HR2 := Lib.hid (fun w' g => is_int hk (HRp.out w' g))
  have HL := Lib.hid (fun w' (g : Grew w w') => postLegs_any L v1 w' (hd.grew g) hc)
  have HE := Lib.hid (show silentL L R = silAt (fun i => !heardB R i) ((legsL L).length + 1) by unfold silentL; rw [if_pos ⟨hc, hk⟩])
  have HC := Lib.hid (show silentCode L R = 0 by unfold silentCode; rw [if_pos hc, hk])
  have hsum := (arcs_fit hc).2
  have hll := legsL_len L
  obtain ⟨hrl, hok⟩ := rep_ok hk
  have hN : (legsL L).length ≤ 4096 := by omega
  have Hok := Lib.hid (fun k (hk : k < R.length) => show ∃ m : Nat, R[k].node = (m : Int) ∧ m < (legsL L).length + 1 from ⟨R[k].node.toNat, by have := hok k hk; omega, by have := hok k hk; omega⟩)
  obtain ⟨ao2, cap2, rfl, hm, hcc⟩ := hr
  unfold maxLen at hm
  have HEl := Lib.hid (SlAt.elem (f := repC) (c := 17) (fun _ => rfl) (by omega) hcc)
  have hmk2 := run_make_row' (P := Try.prog) 81 4 (.bool false) 1 Try.underlying81 infoBool rfl .i64 .i64 ((legsL L).length + 1) (by omega) (by omega)
  simp only [Int.natCast_add, Int.cast_ofNat_Int] at hmk2
  have hwp : IntKind.i64.wrap (((legsL L).length : Int) + 1) = ((legsL L).length : Int) + 1 := by simp [IntKind.wrap, IntKind.bits, IntKind.signed]; omega
  clear hcc hd HA HRp hk hok hsum hll hc
  go_enter Try.func15, Try.ntmps15
  go_wp2_with (first | (go_at_call 37; (with_reducible refine call_later (HA2.out _ (by repeat (first | with_reducible exact Grew.refl _ | with_reducible apply Grew.alloc | with_reducible apply Grew.later | with_reducible apply Grew.drew | with_reducible apply Grew.store | with_reducible assumption))) ?_); intro u) | (go_at_call 41; (with_reducible refine call_later (HR2.out _ (by repeat (first | with_reducible exact Grew.refl _ | with_reducible apply Grew.alloc | with_reducible apply Grew.later | with_reducible apply Grew.drew | with_reducible apply Grew.store | with_reducible assumption))) ?_); intro u2) | (go_at_call 38; go_loud (refine (HL.out _ (by repeat (first | with_reducible exact Grew.refl _ | with_reducible apply Grew.alloc | with_reducible apply Grew.later | with_reducible apply Grew.drew | with_reducible apply Grew.store | with_reducible assumption))).mono ?_; rintro e w1 ⟨v3, rfl, s1, g1⟩; obtain ⟨u1, rfl⟩ := later_of g1; clear g1; obtain ⟨ao1, cap1, rfl, hm1, -⟩ := s1)))
  refine wp_later2 (z := w) (by repeat (first | with_reducible exact Grew.refl _ | with_reducible apply Grew.alloc | with_reducible apply Grew.later | with_reducible apply Grew.drew | with_reducible apply Grew.store | with_reducible assumption)) ?_
  intro y0 hy0
  have q1 : y0.world.rowIs u1.world.heap.size 4 ((legsL L).length + 1) (fun _ => .bool false) := by rw [hy0]; exact World.rowIs_made _ _ _ _
  have inw : NewFor w u1.world.heap.size := ⟨(show Grew w u1.world from (by repeat (first | with_reducible exact Grew.refl _ | with_reducible apply Grew.alloc | with_reducible apply Grew.later | with_reducible apply Grew.drew | with_reducible apply Grew.store | with_reducible assumption))).size⟩
  clear hy0 hmk2
  generalize u1.world.heap.size = b at *
  generalize hNe : (legsL L).length = N at *
  clear hNe
  go_loopw [32] (fun t wr => ∃ k : Nat, t = .int .i64 k ∧ k ≤ R.length ∧ wr.rowIs b 4 (N + 1) (fun i => .bool (heardTo R k i)) ∧ Grew w wr) (fun t _ => R.length - (intOf t).toNat)
  case atStart => exact ⟨0, rfl, by omega, q1.congr fun i _ => by rw [heardTo_zero], y0.grew⟩
  case round =>
    obtain ⟨k, rfl, hk, hrow, hg⟩ := hrel
    obtain ⟨y, rfl⟩ := later_of hg
    clear hg
    have ib : BlockIn y.world b := ⟨hrow.lt⟩
    by_cases hlt : k < R.length
    · obtain ⟨b1, o1, e1, i1, hd1, hd2⟩ := HEl.out k hlt
      have hc0 := hd1 _ rfl
      have hc1 := hd2 1 _ rfl
      have hc2 := hd2 2 _ rfl
      have hc3 := hd2 3 _ rfl
      have hc4 := hd2 4 _ rfl
      have hc5 := hd2 5 _ rfl
      have hc6 := hd2 6 _ rfl
      have hc7 := hd2 7 _ rfl
      have hc8 := hd2 8 _ rfl
      have hc9 := hd2 9 _ rfl
      have hc10 := hd2 10 _ rfl
      have hc11 := hd2 11 _ rfl
      have hc12 := hd2 12 _ rfl
      have hc13 := hd2 13 _ rfl
      have hc14 := hd2 14 _ rfl
      have hc15 := hd2 15 _ rfl
      have hc16 := hd2 16 _ rfl
      clear hd1 hd2
      cases e1
      have i1 : BlockIn w b1 := ⟨i1⟩
      obtain ⟨m, hm1, hmN⟩ := Hok.out k hlt
      have Hs := Lib.hid (fun i => heardTo_succ R k i hlt)
      rw [hm1] at hc0 Hs
      clear hm1
      generalize R[k] = r at *
      have hcell := hrow.cell hmN
      have hfr := hrow.frozen m
      have ihc : HasCell y.world b m := ⟨_, hcell⟩
      have Hrow := Lib.hid hrow
      have hmi : (m : Int) < (N : Int) + 1 := by omega
      generalize heardTo R k m = hb at *
      clear hrow
      go_wp2
      go_roundw
      case rel =>
        refine ⟨k + 1, by go_num, by omega, (row_put Hrow.out (by repeat (first | with_reducible exact Grew.refl _ | with_reducible apply Grew.alloc | with_reducible apply Grew.later | with_reducible apply Grew.drew | with_reducible apply Grew.store | with_reducible assumption)) _).congr fun i hi => ?_, (by repeat (first | with_reducible exact Grew.refl _ | with_reducible apply Grew.alloc | with_reducible apply Grew.later | with_reducible apply Grew.drew | with_reducible apply Grew.store | with_reducible assumption))⟩
        rw [Hs.out i]
        by_cases e : i = m
        · subst e; simp
        · rw [if_neg e]; congr 1; simp; exact fun h => absurd (by omega) e
      case measure => simp [intOf]; omega
    · obtain rfl : k = R.length := by omega
      have hrow := hrow.congr fun i _ => by rw [heardTo_all]
      go_wp2
      have Hrow := Lib.hid hrow
      have hf : ∀ i, (fun i => !heardB R i) i = !heardB R i := fun _ => rfl
      generalize (fun i => !heardB R i) = f at *
      have Hf := Lib.hid hf
      clear hf
      have hgy : Grew w y.world := y.grew
      go_loopw [11, 43] (fun v t wr => ∃ (i : Nat) (v11 : Value), t = .int .i64 i ∧ v11 = v ∧ i ≤ N + 1 ∧ wr.ownsRow y.world.heap.size 87 2 v11 (silAt f i).length ((silAt f i).flatMap slC) ∧ Grew y.world wr) (fun _ t _ => N + 1 - (intOf t).toNat)
      case atStart => exact ⟨0, _, rfl, rfl, by omega, World.ownsRow_nil _ _ _ _, (by repeat (first | with_reducible exact Grew.refl _ | with_reducible apply Grew.alloc | with_reducible apply Grew.later | with_reducible apply Grew.drew | with_reducible apply Grew.store | with_reducible assumption))⟩
      case round =>
        clear hrow
        obtain ⟨i, v11, rfl, rfl, hi, hown, hg⟩ := hrel
        obtain ⟨z, rfl⟩ := later_of hg
        clear hg
        have hln := sil_len f i
        by_cases hlt : i < N + 1
        · have hci := Hrow.out.cell hlt
          have hlti : (i : Int) < (N : Int) + 1 := by omega
          have hl : (silAt f i).length ≤ 268435456 := by omega
          have hw1 : IntKind.i64.wrap ((i : Int) + 1) = (i : Int) + 1 := by simp [IntKind.wrap, IntKind.bits, IntKind.signed]; omega
          cases hh : heardB R i
          · rw [hh] at hci
            have hfi : f i = true := by rw [Hf.out, hh]; rfl
            by_cases hi0 : i = 0
            · have hb0 : ((i : Int) == 0) = true := by simp [hi0]
              have Hs := Lib.hid (sil_new hfi (.inl hi0))
              clear hi0 hfi hh
              go_wp2_with (at_builtin; go_loud (refine wpList_app_slotG y.world _ (by repeat (first | with_reducible exact Grew.refl _ | with_reducible apply Grew.alloc | with_reducible apply Grew.later | with_reducible apply Grew.drew | with_reducible apply Grew.store | with_reducible assumption)) rfl _ _ rfl _ _ hown rfl (_, _) _ rfl hl ?_; intro v' y1 hown'))
              go_roundw
              case rel => exact ⟨i + 1, _, by go_num, rfl, by omega, by rw [Hs.out]; exact hown', (by repeat (first | with_reducible exact Grew.refl _ | with_reducible apply Grew.alloc | with_reducible apply Grew.later | with_reducible apply Grew.drew | with_reducible apply Grew.store | with_reducible assumption))⟩
              case measure => simp [intOf]; omega
            · have hb0 : ((i : Int) == 0) = false := by rw [beq_eq_false_iff_ne]; omega
              obtain ⟨j, rfl⟩ : ∃ j, i = j + 1 := ⟨i - 1, by omega⟩
              have hcj := Hrow.out.cell (show j < N + 1 by omega)
              have hltj : (j : Int) < (N : Int) + 1 := by omega
              cases hj : heardB R j
              · rw [hj] at hcj
                have hfj : f j = true := by rw [Hf.out, hj]; rfl
                obtain ⟨M, q, hM, hq⟩ := sil_near (f := f) (i := j + 1) (by omega) hfj
                have hnext := sil_ext hfi (by omega) hfj hM
                have Hn2 := Lib.hid (show (silAt f (j + 1 + 1)).flatMap slC = ((M ++ [q]).flatMap slC).set (M.length * 2 + 1) (.int .i64 ((j : Int) + 1 + 1)) by rw [hnext, slC_last]; rfl)
                have Hn1 := Lib.hid (show (silAt f (j + 1 + 1)).length = M.length + 1 by rw [hnext]; simp)
                have hml : (silAt f (j + 1)).length = M.length + 1 := by rw [hM]; simp
                obtain ⟨g, cg, e11, hg2, hg3⟩ := hown.form (by omega)
                rw [hml] at e11
                subst e11
                have hownM : z.world.ownsRow y.world.heap.size 87 2 (.slice (some ⟨g, 0, none⟩) (M.length + 1) cg) (M.length + 1) ((M ++ [q]).flatMap slC) := by
                  have := hown
                  rw [hM] at this
                  simpa using this
                have hcl : z.world.cell? ⟨g, M.length * 2 + 1, none⟩ = some (.int .i64 q.2) := by
                  rw [hownM.cellAt (M.length * 2 + 1) (by omega), List.flatMap_append, List.getElem?_append_right (by rw [slC_len]; omega), slC_len, show M.length * 2 + 1 - M.length * 2 = 1 by omega]
                  rfl
                have hfr := hownM.frozenAt (M.length * 2 + 1)
                have ibg : BlockIn z.world g := BlockIn.of_cell hcl
                have q3 : (0 : Int) < (M.length : Int) + 1 := by omega
                have hmm : M.length < M.length + 1 := by omega
                have hmi : (M.length : Int) < (M.length : Int) + 1 := by omega
                have hMb : M.length ≤ 4097 := by omega
                have Hs2 := Lib.hid (fun W (k : Grew z.world W) => ((owns_grew hownM k).stored (M.length * 2 + 1) (.int .i64 ((j : Int) + 1 + 1))).1)
                have inw : NewFor y.world g := ⟨hg2⟩
                have ihc : HasCell z.world g (M.length * 2 + 1) := ⟨_, hcl⟩
                clear hown hM hml hownM hnext hfi hfj hh hj hi0 hq hln
                generalize M.length = ml at *
                go_wp2
                go_roundw
                case rel => exact ⟨j + 1 + 1, _, by go_num, rfl, by omega, by rw [Hn1.out, Hn2.out]; exact Hs2.out _ (by repeat (first | with_reducible exact Grew.refl _ | with_reducible apply Grew.alloc | with_reducible apply Grew.later | with_reducible apply Grew.drew | with_reducible apply Grew.store | with_reducible assumption)), (by repeat (first | with_reducible exact Grew.refl _ | with_reducible apply Grew.alloc | with_reducible apply Grew.later | with_reducible apply Grew.drew | with_reducible apply Grew.store | with_reducible assumption))⟩
                case measure => simp [intOf]; omega
              · rw [hj] at hcj
                have Hs := Lib.hid (sil_new hfi (.inr (show f j = false by rw [Hf.out, hj]; rfl)))
                clear hfi hh hj hi0
                go_wp2_with (at_builtin; go_loud (refine wpList_app_slotG y.world _ (by repeat (first | with_reducible exact Grew.refl _ | with_reducible apply Grew.alloc | with_reducible apply Grew.later | with_reducible apply Grew.drew | with_reducible apply Grew.store | with_reducible assumption)) rfl _ _ rfl _ _ hown rfl (_, _) _ rfl hl ?_; intro v' y1 hown'))
                go_roundw
                case rel => exact ⟨(j + 1) + 1, _, by go_num, rfl, by omega, by rw [Hs.out]; exact hown', (by repeat (first | with_reducible exact Grew.refl _ | with_reducible apply Grew.alloc | with_reducible apply Grew.later | with_reducible apply Grew.drew | with_reducible apply Grew.store | with_reducible assumption))⟩
                case measure => simp [intOf]; omega
          · rw [hh] at hci
            have Hs := Lib.hid (sil_no (show f i = false by rw [Hf.out, hh]; rfl))
            clear hh
            go_wp2
            go_roundw
            case rel => exact ⟨i + 1, _, by go_num, rfl, by omega, by rw [Hs.out]; exact owns_grew hown (by repeat (first | with_reducible exact Grew.refl _ | with_reducible apply Grew.alloc | with_reducible apply Grew.later | with_reducible apply Grew.drew | with_reducible apply Grew.store | with_reducible assumption)), (by repeat (first | with_reducible exact Grew.refl _ | with_reducible apply Grew.alloc | with_reducible apply Grew.later | with_reducible apply Grew.drew | with_reducible apply Grew.store | with_reducible assumption))⟩
            case measure => simp [intOf]; omega
        · obtain rfl : i = N + 1 := by omega
          have Hs := Lib.hid (SlAt.of_owns hown)
          clear hown
          generalize silAt f (N + 1) = sl at *
          go_wp2
          go_ret2
          exact RetSlC.full HE.out HC.out Hs.out (by repeat (first | with_reducible exact Grew.refl _ | with_reducible apply Grew.alloc | with_reducible apply Grew.later | with_reducible apply Grew.drew | with_reducible apply Grew.store | with_reducible assumption))
end Go.Proofs.Ytgjikdhidakloaa
