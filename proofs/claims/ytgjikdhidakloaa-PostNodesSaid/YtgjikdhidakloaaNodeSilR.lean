/-
  Contract of ullageref13.Silent.
-/
import Derived.Test.YtgjikdhidakloaaNodeSilP
import Derived.Test.YtgjikdhidakloaaNodeReportsR
namespace Go.Proofs.Ytgjikdhidakloaa
open Go.RowKit
set_option maxRecDepth 100000
set_option maxHeartbeats 16000000
theorem r13Silent_any (L : Arcs) (R : List Report) (v1 v2 : Value) (w : World) (hd : ArcsAt w v1 L) (hr : ReportsAt w v2 R) : Calls Try.prog 16 #[v1, v2] w (RetSlC (silentL L R) (silentCode L R) w) := by
  have HA := Lib.hid (fun w' (g : Grew w w') => r13Arcs_any L v1 w' (hd.grew g))
  by_cases hc : arcsCode L = 0
  rotate_left
  · have HE := Lib.hid (show silentL L R = [] by unfold silentL; rw [if_neg (by rintro ⟨h, -⟩; exact hc h)])
    have HC := Lib.hid (show silentCode L R = arcsCode L by unfold silentCode; rw [if_neg hc])
    have hc' : (arcsCode L != 0) = true := by simp [hc]
    clear hc hd hr
    generalize silentL L R = sl at *
    generalize silentCode L R = sc at *
    generalize arcsCode L = c at *
    go_enter Try.func16, Try.ntmps16
    go_wp2_with (first | (go_at_call 39; (with_reducible refine call_later (HA.out _ (by repeat (first | with_reducible exact Grew.refl _ | with_reducible apply Grew.alloc | with_reducible apply Grew.later | with_reducible apply Grew.drew | with_reducible apply Grew.store | with_reducible assumption))) ?_); intro u))
    go_ret2
    exact RetSlC.full HE.out HC.out (SlAt.nil _) (by repeat (first | with_reducible exact Grew.refl _ | with_reducible apply Grew.alloc | with_reducible apply Grew.later | with_reducible apply Grew.drew | with_reducible apply Grew.store | with_reducible assumption))
  have HA2 := Lib.hid (fun w' g => is_int hc (HA.out w' g))
  have HRp := Lib.hid (fun w' (g : Grew w w') => r13Reports_any L R v1 v2 w' (hd.grew g) hc (hr.grew g))
  by_cases hk : reportsCode (sumZ L) R = 0
  rotate_left
  · have HE := Lib.hid (show silentL L R = [] by unfold silentL; rw [if_neg (by rintro ⟨-, h⟩; exact hk h)])
    have HC := Lib.hid (show silentCode L R = reportsCode (sumZ L) R by unfold silentCode; rw [if_pos hc])
    have hk' : (reportsCode (sumZ L) R != 0) = true := by simp [hk]
    clear hc hd hr hk HA
    generalize silentL L R = sl at *
    generalize silentCode L R = sc at *
    generalize reportsCode (sumZ L) R = c at *
    go_enter Try.func16, Try.ntmps16
    go_wp2_with (first | (go_at_call 39; (with_reducible refine call_later (HA2.out _ (by repeat (first | with_reducible exact Grew.refl _ | with_reducible apply Grew.alloc | with_reducible apply Grew.later | with_reducible apply Grew.drew | with_reducible apply Grew.store | with_reducible assumption))) ?_); intro u) | (go_at_call 42; (with_reducible refine call_later (HRp.out _ (by repeat (first | with_reducible exact Grew.refl _ | with_reducible apply Grew.alloc | with_reducible apply Grew.later | with_reducible apply Grew.drew | with_reducible apply Grew.store | with_reducible assumption))) ?_); intro u2))
    go_ret2
    exact RetSlC.full HE.out HC.out (SlAt.nil _) (by repeat (first | with_reducible exact Grew.refl _ | with_reducible apply Grew.alloc | with_reducible apply Grew.later | with_reducible apply Grew.drew | with_reducible apply Grew.store | with_reducible assumption))
  have HR2 := Lib.hid (fun w' g => is_int hk (HRp.out w' g))
  have HL := Lib.hid (fun w' (g : Grew w w') => r13Legs_any L v1 w' (hd.grew g) hc)
  have HE := Lib.hid (show silentL L R = silAt (fun i => !heardB R i) ((legsL L).length + 1) by unfold silentL; rw [if_pos ⟨hc, hk⟩])
  have HC := Lib.hid (show silentCode L R = 0 by unfold silentCode; rw [if_pos hc, hk])
  have hsum := (arcs_fit hc).2
  have hll := legsL_len L
  obtain ⟨hrl, hok⟩ := rep_ok hk
  have hN : (legsL L).length ≤ 4096 := by omega
  obtain ⟨ao2, cap2, rfl, hm, hcc⟩ := hr
  unfold maxLen at hm
  have HEl := Lib.hid (SlAt.elem (f := repC) (c := 17) (fun _ => rfl) (by omega) hcc)
  clear hcc hd HA HRp hk hok hsum hll hc
  go_enter Try.func16, Try.ntmps16
  go_wp2_with (first | (go_at_call 39; (with_reducible refine call_later (HA2.out _ (by repeat (first | with_reducible exact Grew.refl _ | with_reducible apply Grew.alloc | with_reducible apply Grew.later | with_reducible apply Grew.drew | with_reducible apply Grew.store | with_reducible assumption))) ?_); intro u) | (go_at_call 42; (with_reducible refine call_later (HR2.out _ (by repeat (first | with_reducible exact Grew.refl _ | with_reducible apply Grew.alloc | with_reducible apply Grew.later | with_reducible apply Grew.drew | with_reducible apply Grew.store | with_reducible assumption))) ?_); intro u2) | (go_at_call 40; go_loud (refine (HL.out _ (by repeat (first | with_reducible exact Grew.refl _ | with_reducible apply Grew.alloc | with_reducible apply Grew.later | with_reducible apply Grew.drew | with_reducible apply Grew.store | with_reducible assumption))).mono ?_; rintro e w1 ⟨v3, rfl, s1, g1⟩; obtain ⟨u1, rfl⟩ := later_of g1; clear g1; obtain ⟨ao1, cap1, rfl, hm1, -⟩ := s1)))
  generalize hNe : (legsL L).length = N at *
  clear hNe
  have hf : ∀ i, (fun i => !heardB R i) i = !heardB R i := fun _ => rfl
  generalize (fun i => !heardB R i) = f at *
  have Hf := Lib.hid hf
  clear hf
  go_loopw [7, 9] (fun v t wr => ∃ (i : Nat) (v7 : Value), t = .int .i64 i ∧ v7 = v ∧ i ≤ N + 1 ∧ wr.ownsRow w.heap.size 87 2 v7 (silAt f i).length ((silAt f i).flatMap slC) ∧ Grew w wr) (fun _ t _ => N + 1 - (intOf t).toNat)
  case atStart => exact ⟨0, _, rfl, rfl, by omega, World.ownsRow_nil _ _ _ _, (by repeat (first | with_reducible exact Grew.refl _ | with_reducible apply Grew.alloc | with_reducible apply Grew.later | with_reducible apply Grew.drew | with_reducible apply Grew.store | with_reducible assumption))⟩
  case round =>
    obtain ⟨i, v7, rfl, rfl, hi, hown, hg⟩ := hrel
    obtain ⟨z, rfl⟩ := later_of hg
    clear hg
    have hln := sil_len f i
    by_cases hlt : i < N + 1
    · have hle : (i : Int) ≤ N := by omega
      have hl : (silAt f i).length ≤ 268435456 := by omega
      have hw1 : IntKind.i64.wrap ((i : Int) + 1) = (i : Int) + 1 := by simp [IntKind.wrap, IntKind.bits, IntKind.signed]; omega
      go_wp2
      go_loopw [10, 11] (fun v t wr => ∃ k : Nat, t = .int .i64 k ∧ v = .bool (heardTo R k i) ∧ k ≤ R.length ∧ Grew z.world wr) (fun _ t _ => R.length - (intOf t).toNat)
      case atStart => exact ⟨0, rfl, by rw [heardTo_zero], by omega, (by repeat (first | with_reducible exact Grew.refl _ | with_reducible apply Grew.alloc | with_reducible apply Grew.later | with_reducible apply Grew.drew | with_reducible apply Grew.store | with_reducible assumption))⟩
      case round =>
        obtain ⟨k, rfl, rfl, hk, hg⟩ := hrel
        obtain ⟨x, rfl⟩ := later_of hg
        clear hg
        by_cases hkt : k < R.length
        · obtain ⟨b1, o1, e1, i1, hd1, -⟩ := HEl.out k hkt
          have hc0 := hd1 _ rfl
          clear hd1
          cases e1
          have i1 : BlockIn w b1 := ⟨i1⟩
          have Hs := Lib.hid (heardTo_succ R k i hkt)
          generalize R[k] = r at *
          cases hb : heardTo R k i
          · rw [hb] at Hs
            by_cases hn : r.node = (i : Int)
            · have hn' : (r.node == (i : Int)) = true := by simp [hn]
              rw [hn'] at Hs
              clear hn hb
              go_wp2
              go_roundw
              case rel => exact ⟨k + 1, by go_num, by rw [Hs.out]; rfl, by omega, (by repeat (first | with_reducible exact Grew.refl _ | with_reducible apply Grew.alloc | with_reducible apply Grew.later | with_reducible apply Grew.drew | with_reducible apply Grew.store | with_reducible assumption))⟩
              case measure => simp [intOf]; omega
            · have hn' : (r.node == (i : Int)) = false := by simp [hn]
              rw [hn'] at Hs
              clear hn hb
              go_wp2
              go_roundw
              case rel => exact ⟨k + 1, by go_num, by rw [Hs.out]; rfl, by omega, (by repeat (first | with_reducible exact Grew.refl _ | with_reducible apply Grew.alloc | with_reducible apply Grew.later | with_reducible apply Grew.drew | with_reducible apply Grew.store | with_reducible assumption))⟩
              case measure => simp [intOf]; omega
          · rw [hb] at Hs
            clear hb
            go_wp2
            go_roundw
            case rel => exact ⟨k + 1, by go_num, by rw [Hs.out]; rfl, by omega, (by repeat (first | with_reducible exact Grew.refl _ | with_reducible apply Grew.alloc | with_reducible apply Grew.later | with_reducible apply Grew.drew | with_reducible apply Grew.store | with_reducible assumption))⟩
            case measure => simp [intOf]; omega
        · obtain rfl : k = R.length := by omega
          have hown2 := owns_grew hown x.grew
          rw [heardTo_all]
          clear hown
          cases hh : heardB R i
          · have hfi : f i = true := by rw [Hf.out, hh]; rfl
            by_cases hnear : 0 < i ∧ f (i - 1) = true
            · obtain ⟨M, q, hM, hq⟩ := sil_near (f := f) hnear.1 hnear.2
              have hnext := sil_ext hfi hnear.1 hnear.2 hM
              have Hn2 := Lib.hid (show (silAt f (i + 1)).flatMap slC = ((M ++ [q]).flatMap slC).set (M.length * 2 + 1) (.int .i64 ((i : Int) + 1)) by rw [hnext, slC_last])
              have Hn1 := Lib.hid (show (silAt f (i + 1)).length = M.length + 1 by rw [hnext]; simp)
              have hml : (silAt f i).length = M.length + 1 := by rw [hM]; simp
              obtain ⟨g, cg, e11, hg2, hg3⟩ := hown2.form (by omega)
              rw [hml] at e11
              subst e11
              have hownM : x.world.ownsRow w.heap.size 87 2 (.slice (some ⟨g, 0, none⟩) (M.length + 1) cg) (M.length + 1) ((M ++ [q]).flatMap slC) := by
                have := hown2
                rw [hM] at this
                simpa using this
              have hcl : x.world.cell? ⟨g, M.length * 2 + 1, none⟩ = some (.int .i64 q.2) := by
                rw [hownM.cellAt (M.length * 2 + 1) (by omega), List.flatMap_append, List.getElem?_append_right (by rw [slC_len]; omega), slC_len, show M.length * 2 + 1 - M.length * 2 = 1 by omega]
                rfl
              have hfr := hownM.frozenAt (M.length * 2 + 1)
              have ibg : BlockIn x.world g := BlockIn.of_cell hcl
              have hMb : M.length ≤ 4097 := by omega
              have q3 : (0 : Int) < (M.length : Int) + 1 := by omega
              have hmm : M.length < M.length + 1 := by omega
              have hmi : (M.length : Int) < (M.length : Int) + 1 := by omega
              have inw : NewFor w g := ⟨hg2⟩
              have ihc : HasCell x.world g (M.length * 2 + 1) := ⟨_, hcl⟩
              have hq' : (q.2 == (i : Int)) = true := by simp [hq]
              have Hs2 := Lib.hid (fun W (k : Grew x.world W) => ((owns_grew hownM k).stored (M.length * 2 + 1) (.int .i64 ((i : Int) + 1))).1)
              clear hown2 hM hml hownM hnext hfi hh hq hln hnear
              generalize M.length = ml at *
              generalize q.2 = q2 at *
              go_wp2
              go_roundw
              case rel => exact ⟨i + 1, _, by go_num, rfl, by omega, by rw [Hn1.out, Hn2.out]; exact Hs2.out _ (by repeat (first | with_reducible exact Grew.refl _ | with_reducible apply Grew.alloc | with_reducible apply Grew.later | with_reducible apply Grew.drew | with_reducible apply Grew.store | with_reducible assumption)), (by repeat (first | with_reducible exact Grew.refl _ | with_reducible apply Grew.alloc | with_reducible apply Grew.later | with_reducible apply Grew.drew | with_reducible apply Grew.store | with_reducible assumption))⟩
              case measure => simp [intOf]; omega
            · have hfar : i = 0 ∨ f (i - 1) = false := by
                rcases Nat.eq_zero_or_pos i with h | h
                · exact .inl h
                · exact .inr (by cases h2 : f (i - 1); · rfl
                                 · exact absurd ⟨h, h2⟩ hnear)
              have Hfar := Lib.hid hfar
              rcases sil_far hfar with hM | ⟨M, q, hM, hq⟩
              · have hl0 : (silAt f i).length = 0 := by rw [hM]; rfl
                obtain ⟨aon, capn, e7⟩ := owns_form hown2
                rw [hl0] at e7
                subst e7
                have hgt : ((0 : Int) < 0) = False := by simp
                clear hfar hnear hM hl0
                have Hs := Lib.hid (sil_new hfi Hfar.out)
                have hbq : w.heap.size ≤ x.world.heap.size := (show Grew w x.world from (by repeat (first | with_reducible exact Grew.refl _ | with_reducible apply Grew.alloc | with_reducible apply Grew.later | with_reducible apply Grew.drew | with_reducible apply Grew.store | with_reducible assumption))).size
                clear hfi hh
                go_wp2_with (at_builtin; go_loud (refine wpList_app_slotG w _ (by repeat (first | with_reducible exact Grew.refl _ | with_reducible apply Grew.alloc | with_reducible apply Grew.later | with_reducible apply Grew.drew | with_reducible apply Grew.store | with_reducible assumption)) rfl _ _ rfl _ _ hown2 rfl (_, _) _ rfl hl ?_; intro v' y1 hown'))
                go_roundw
                case rel => exact ⟨i + 1, _, by go_num, rfl, by omega, by rw [Hs.out]; exact hown', (by repeat (first | with_reducible exact Grew.refl _ | with_reducible apply Grew.alloc | with_reducible apply Grew.later | with_reducible apply Grew.drew | with_reducible apply Grew.store | with_reducible assumption))⟩
                case measure => simp [intOf]; omega
              · skip
                have hml : (silAt f i).length = M.length + 1 := by rw [hM]; simp
                obtain ⟨g, cg, e11, hg2, hg3⟩ := hown2.form (by omega)
                rw [hml] at e11
                subst e11
                have hownM : x.world.ownsRow w.heap.size 87 2 (.slice (some ⟨g, 0, none⟩) (M.length + 1) cg) (M.length + 1) ((M ++ [q]).flatMap slC) := by
                  have := hown2
                  rw [hM] at this
                  simpa using this
                have hcl : x.world.cell? ⟨g, M.length * 2 + 1, none⟩ = some (.int .i64 q.2) := by
                  rw [hownM.cellAt (M.length * 2 + 1) (by omega), List.flatMap_append, List.getElem?_append_right (by rw [slC_len]; omega), slC_len, show M.length * 2 + 1 - M.length * 2 = 1 by omega]
                  rfl
                have hfr := hownM.frozenAt (M.length * 2 + 1)
                have ibg : BlockIn x.world g := BlockIn.of_cell hcl
                have hMb : M.length ≤ 4097 := by omega
                have q3 : (0 : Int) < (M.length : Int) + 1 := by omega
                have hmm : M.length < M.length + 1 := by omega
                have hmi : (M.length : Int) < (M.length : Int) + 1 := by omega
                have hq' : (q.2 == (i : Int)) = false := by rw [beq_eq_false_iff_ne]; omega
                clear hfar hnear hq hownM hM hml
                generalize M.length = ml at *
                generalize q.2 = q2 at *
                have Hs := Lib.hid (sil_new hfi Hfar.out)
                have hbq : w.heap.size ≤ x.world.heap.size := (show Grew w x.world from (by repeat (first | with_reducible exact Grew.refl _ | with_reducible apply Grew.alloc | with_reducible apply Grew.later | with_reducible apply Grew.drew | with_reducible apply Grew.store | with_reducible assumption))).size
                clear hfi hh
                go_wp2_with (at_builtin; go_loud (refine wpList_app_slotG w _ (by repeat (first | with_reducible exact Grew.refl _ | with_reducible apply Grew.alloc | with_reducible apply Grew.later | with_reducible apply Grew.drew | with_reducible apply Grew.store | with_reducible assumption)) rfl _ _ rfl _ _ hown2 rfl (_, _) _ rfl hl ?_; intro v' y1 hown'))
                go_roundw
                case rel => exact ⟨i + 1, _, by go_num, rfl, by omega, by rw [Hs.out]; exact hown', (by repeat (first | with_reducible exact Grew.refl _ | with_reducible apply Grew.alloc | with_reducible apply Grew.later | with_reducible apply Grew.drew | with_reducible apply Grew.store | with_reducible assumption))⟩
                case measure => simp [intOf]; omega
          · have Hs := Lib.hid (sil_no (show f i = false by rw [Hf.out, hh]; rfl))
            clear hh
            go_wp2
            go_roundw
            case rel => exact ⟨i + 1, _, by go_num, rfl, by omega, by rw [Hs.out]; exact owns_grew hown2 (by repeat (first | with_reducible exact Grew.refl _ | with_reducible apply Grew.alloc | with_reducible apply Grew.later | with_reducible apply Grew.drew | with_reducible apply Grew.store | with_reducible assumption)), (by repeat (first | with_reducible exact Grew.refl _ | with_reducible apply Grew.alloc | with_reducible apply Grew.later | with_reducible apply Grew.drew | with_reducible apply Grew.store | with_reducible assumption))⟩
            case measure => simp [intOf]; omega
    · obtain rfl : i = N + 1 := by omega
      have Hs := Lib.hid (SlAt.of_owns hown)
      clear hown
      generalize silAt f (N + 1) = sl at *
      have hle : ¬ ((N : Int) + 1 ≤ N) := by omega
      go_wp2
      go_ret2
      exact RetSlC.full HE.out HC.out Hs.out (by repeat (first | with_reducible exact Grew.refl _ | with_reducible apply Grew.alloc | with_reducible apply Grew.later | with_reducible apply Grew.drew | with_reducible apply Grew.store | with_reducible assumption))
end Go.Proofs.Ytgjikdhidakloaa
