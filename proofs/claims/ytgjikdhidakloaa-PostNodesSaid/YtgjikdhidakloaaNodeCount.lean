/-
  Contracts of post.Nodes, ullageref13.Nodes.
-/
import Derived.Test.YtgjikdhidakloaaNodeLegsR
namespace Go.Proofs.Ytgjikdhidakloaa
open Go.RowKit
set_option maxRecDepth 100000
set_option maxHeartbeats 16000000
def nodesN (L : Arcs) : Int := if arcsCode L = 0 then sumZ L + 1 else 0
theorem postNodes_any (L : Arcs) (v : Value) (w : World) (hd : ArcsAt w v L) : Calls Try.prog 13 #[v] w fun e w' => e = .returned (.tuple #[.int .i64 (nodesN L), .int .i64 (arcsCode L)]) ∧ Grew w w' := by
  have HA := Lib.hid (fun w' (g : Grew w w') => postArcs_any L v w' (hd.grew g))
  by_cases hc : arcsCode L = 0
  · have HL := Lib.hid (fun w' (g : Grew w w') => postLegs_any L v w' (hd.grew g) hc)
    have HA2 := Lib.hid (fun w' g => is_int hc (HA.out w' g))
    have HN := Lib.hid (show nodesN L = sumZ L + 1 by unfold nodesN; rw [if_pos hc])
    have hs := (arcs_fit hc).2
    have hs0 := (sumZ_bd L L.length).1
    rw [List.take_length] at hs0
    have Hll := Lib.hid (legsL_len L)
    have HC := Lib.hid hc
    clear HA hc hd
    go_enter Try.func13, Try.ntmps13
    go_wp2_with (first | (go_at_call 37; (with_reducible refine call_later (HA2.out _ (by repeat (first | with_reducible exact Grew.refl _ | with_reducible apply Grew.alloc | with_reducible apply Grew.later | with_reducible apply Grew.drew | with_reducible apply Grew.store | with_reducible assumption))) ?_); intro u) | (go_at_call 38; go_loud (refine (HL.out _ (by repeat (first | with_reducible exact Grew.refl _ | with_reducible apply Grew.alloc | with_reducible apply Grew.later | with_reducible apply Grew.drew | with_reducible apply Grew.store | with_reducible assumption))).mono ?_; rintro e w1 ⟨v1, rfl, s1, g1⟩; obtain ⟨u1, rfl⟩ := later_of g1; clear g1; obtain ⟨ao1, cap1, rfl, hm1, -⟩ := s1)))
    go_ret2
    exact ⟨ret_two (by rw [HN.out, ← Hll.out]; have e := Hll.out; exact wrap_id _ (by omega) (by omega)) (by rw [HC.out]), (by repeat (first | with_reducible exact Grew.refl _ | with_reducible apply Grew.alloc | with_reducible apply Grew.later | with_reducible apply Grew.drew | with_reducible apply Grew.store | with_reducible assumption))⟩
  · have HN := Lib.hid (show nodesN L = 0 by unfold nodesN; rw [if_neg hc])
    have hc' : (arcsCode L != 0) = true := by simp [hc]
    clear hc hd
    generalize nodesN L = nn at *
    generalize arcsCode L = c at *
    go_enter Try.func13, Try.ntmps13
    go_wp2_with (first | (go_at_call 37; (with_reducible refine call_later (HA.out _ (by repeat (first | with_reducible exact Grew.refl _ | with_reducible apply Grew.alloc | with_reducible apply Grew.later | with_reducible apply Grew.drew | with_reducible apply Grew.store | with_reducible assumption))) ?_); intro u))
    go_ret2
    exact ⟨ret_two (by rw [HN.out]) rfl, (by repeat (first | with_reducible exact Grew.refl _ | with_reducible apply Grew.alloc | with_reducible apply Grew.later | with_reducible apply Grew.drew | with_reducible apply Grew.store | with_reducible assumption))⟩
theorem r13Nodes_any (L : Arcs) (v : Value) (w : World) (hd : ArcsAt w v L) : Calls Try.prog 14 #[v] w fun e w' => e = .returned (.tuple #[.int .i64 (nodesN L), .int .i64 (arcsCode L)]) ∧ Grew w w' := by
  have HA := Lib.hid (fun w' (g : Grew w w') => r13Arcs_any L v w' (hd.grew g))
  by_cases hc : arcsCode L = 0
  · have HL := Lib.hid (fun w' (g : Grew w w') => r13Legs_any L v w' (hd.grew g) hc)
    have HA2 := Lib.hid (fun w' g => is_int hc (HA.out w' g))
    have HN := Lib.hid (show nodesN L = sumZ L + 1 by unfold nodesN; rw [if_pos hc])
    have hs := (arcs_fit hc).2
    have hs0 := (sumZ_bd L L.length).1
    rw [List.take_length] at hs0
    have Hll := Lib.hid (legsL_len L)
    have HC := Lib.hid hc
    clear HA hc hd
    go_enter Try.func14, Try.ntmps14
    go_wp2_with (first | (go_at_call 39; (with_reducible refine call_later (HA2.out _ (by repeat (first | with_reducible exact Grew.refl _ | with_reducible apply Grew.alloc | with_reducible apply Grew.later | with_reducible apply Grew.drew | with_reducible apply Grew.store | with_reducible assumption))) ?_); intro u) | (go_at_call 40; go_loud (refine (HL.out _ (by repeat (first | with_reducible exact Grew.refl _ | with_reducible apply Grew.alloc | with_reducible apply Grew.later | with_reducible apply Grew.drew | with_reducible apply Grew.store | with_reducible assumption))).mono ?_; rintro e w1 ⟨v1, rfl, s1, g1⟩; obtain ⟨u1, rfl⟩ := later_of g1; clear g1; obtain ⟨ao1, cap1, rfl, hm1, -⟩ := s1)))
    go_ret2
    exact ⟨ret_two (by rw [HN.out, ← Hll.out]; have e := Hll.out; exact wrap_id _ (by omega) (by omega)) (by rw [HC.out]), (by repeat (first | with_reducible exact Grew.refl _ | with_reducible apply Grew.alloc | with_reducible apply Grew.later | with_reducible apply Grew.drew | with_reducible apply Grew.store | with_reducible assumption))⟩
  · have HN := Lib.hid (show nodesN L = 0 by unfold nodesN; rw [if_neg hc])
    have hc' : (arcsCode L != 0) = true := by simp [hc]
    clear hc hd
    generalize nodesN L = nn at *
    generalize arcsCode L = c at *
    go_enter Try.func14, Try.ntmps14
    go_wp2_with (first | (go_at_call 39; (with_reducible refine call_later (HA.out _ (by repeat (first | with_reducible exact Grew.refl _ | with_reducible apply Grew.alloc | with_reducible apply Grew.later | with_reducible apply Grew.drew | with_reducible apply Grew.store | with_reducible assumption))) ?_); intro u))
    go_ret2
    exact ⟨ret_two (by rw [HN.out]) rfl, (by repeat (first | with_reducible exact Grew.refl _ | with_reducible apply Grew.alloc | with_reducible apply Grew.later | with_reducible apply Grew.drew | with_reducible apply Grew.store | with_reducible assumption))⟩
end Go.Proofs.Ytgjikdhidakloaa
