/-
  Contract of ullageref06.both.
-/
import Derived.Test.YtohinapfpfjlkaaGreatNavSides
import Derived.Test.YtohinapfpfjlkaaGreatRefNavAll
namespace Go.Proofs.YtohinapfpfjlkaaGreat
open Go.RowKit Go.Shelf
set_option maxRecDepth 100000
set_option maxHeartbeats 8000000
theorem hullR_comm (a b : Sp) : hullR a b = hullR b a := by
  have h : hullS a b = hullS b a := by
    unfold hullS imin imax
    congr 1
    · (repeat' split) <;> omega
    · (repeat' split) <;> omega
  unfold hullR
  rw [Bool.and_comm, h]
theorem meet_seven {a b : Sp} (ha : a.okB = true) (hb : b.okB = true) (h : (meetR a b).e ≠ 0) : meetR a b = errR 7 := by
  unfold meetR at *
  rw [ha, hb] at *
  simp only [Bool.and_self, if_true] at *
  split at h
  · rename_i h1
    rw [if_pos h1]
  · exact absurd rfl h
theorem neg_ok {a : Sp} [hs : S64 a] (h : a.okB = true) : (negS a).okB = true := by
  have h1 := hs.lo.2
  have h2 := hs.hi.2
  unfold negS Sp.okB numB at *
  simp at *
  omega
theorem r6Both_any (c : Nat) (e : Int) (d g : Sp) [hgs : S64 g] (hok : e = 0 → d.okB = true ∧ g.okB = true) (w : World) (hc : w.cell? ⟨c, 0, none⟩ = some (.int .i64 e)) (hf : w.frozen? ⟨c, 0, none⟩ = false) :
    Calls Tryz.prog 139 #[.pointer (some ⟨c, 0, none⟩), .agg #[.int .i64 d.lo, .int .i64 d.hi], .agg #[.int .i64 g.lo, .int .i64 g.hi]] w (RetC c (.agg #[.int .i64 ((doR e (sidesR d g)).s).lo, .int .i64 ((doR e (sidesR d g)).s).hi]) (doR e (sidesR d g)).e w) := by
  have ib : BlockIn w c := BlockIn.of_cell hc
  have hci : HasCell w c 0 := ⟨_, hc⟩
  have Hb := Lib.hid (But.refl hc)
  have Hc := Lib.hid hc
  by_cases he : e = 0
  · obtain ⟨h1, h2⟩ := hok he
    subst he
    clear hok
    have HN := Lib.hid (fun w' => rNeg_any g w')
    rw [show negR g = ⟨negS g, 0⟩ by unfold negR; rw [h2]; rfl] at HN
    have HM1 := Lib.hid (fun w' => rMeet_any d g w')
    have HM2 := Lib.hid (fun w' => rMeet_any d (negS g) w')
    have H7b := Lib.hid (fun h => meet_seven h1 (neg_ok h2) h)
    have HS : doR 0 (sidesR d g) = if (meetR d g).e = 0 then (if (meetR d (negS g)).e = 0 then hullR (meetR d (negS g)).s (meetR d g).s else meetR d g) else meetR d (negS g) := rfl
    clear h1 h2
    generalize negS g = n at *
    generalize doR 0 (sidesR d g) = sr at *
    by_cases e1 : (meetR d g).e = 0
    · rw [if_pos e1] at HS
      by_cases e2 : (meetR d n).e = 0
      · rw [if_pos e2, hullR_comm] at HS
        replace HS := Lib.hid HS
        have e1' : ((meetR d g).e != 0) = false := by simp [e1]
        have e2' : ((meetR d n).e != 0) = false := by simp [e2]
        clear e1 e2 H7b
        generalize meetR d g = r1 at *
        generalize meetR d n = r2 at *
        go_enter Tryz.func139, Tryz.ntmps139
        go_wp2_with (first | (go_at_call 143; (with_reducible refine call_later (HN.out _) ?_); intro u0) | (go_at_call 174; (with_reducible refine call_later (HM1.out _) ?_); intro u1) | (go_at_call 174; (with_reducible refine call_later (HM2.out _) ?_); intro u2) | (go_at_call 175; (with_reducible refine call_calc (rcHull_any c 0 r1.s r2.s _ (by go_simp) (by go_simp)) ?_); intro u3))
        refine bodyPost_ret (by (simp [results, Tryz.results139, go_sem] <;> rfl)) rfl ?_
        refine ⟨ret_spS (by rw [HS.out]; rfl) (by rw [HS.out]; rfl), But.out (by repeat (first | with_reducible exact Hb.out | with_reducible apply But.alloc | with_reducible apply But.later | with_reducible apply But.drew | with_reducible apply But.put | with_reducible apply But.store)) Hc.out ?_⟩
        rw [HS.out]
        go_simp
        rfl
      · rw [if_neg e2] at HS
        replace HS := Lib.hid HS
        have e1' : ((meetR d g).e != 0) = false := by simp [e1]
        have e2' : ((meetR d n).e != 0) = true := by simp [e2]
        have He1 := Lib.hid e1
        clear e1 e2 H7b
        generalize meetR d g = r1 at *
        generalize meetR d n = r2 at *
        go_enter Tryz.func139, Tryz.ntmps139
        go_wp2_with (first | (go_at_call 143; (with_reducible refine call_later (HN.out _) ?_); intro u0) | (go_at_call 174; (with_reducible refine call_later (HM1.out _) ?_); intro u1) | (go_at_call 174; (with_reducible refine call_later (HM2.out _) ?_); intro u2))
        refine bodyPost_ret (by (simp [results, Tryz.results139, go_sem] <;> rfl)) rfl ?_
        refine ⟨ret_spS (by rw [HS.out]) (by rw [HS.out]), But.out (by repeat (first | with_reducible exact Hb.out | with_reducible apply But.alloc | with_reducible apply But.later | with_reducible apply But.drew | with_reducible apply But.put | with_reducible apply But.store)) Hc.out ?_⟩
        rw [HS.out, He1.out]
        go_simp
    · rw [if_neg e1] at HS
      by_cases e2 : (meetR d n).e = 0
      · replace HS := Lib.hid HS
        have e1' : ((meetR d g).e != 0) = true := by simp [e1]
        have e2' : ((meetR d n).e != 0) = false := by simp [e2]
        have He2 := Lib.hid e2
        clear e1 e2 H7b
        generalize meetR d g = r1 at *
        generalize meetR d n = r2 at *
        go_enter Tryz.func139, Tryz.ntmps139
        go_wp2_with (first | (go_at_call 143; (with_reducible refine call_later (HN.out _) ?_); intro u0) | (go_at_call 174; (with_reducible refine call_later (HM1.out _) ?_); intro u1) | (go_at_call 174; (with_reducible refine call_later (HM2.out _) ?_); intro u2))
        refine bodyPost_ret (by (simp [results, Tryz.results139, go_sem] <;> rfl)) rfl ?_
        refine ⟨ret_spS (by rw [HS.out]) (by rw [HS.out]), But.out (by repeat (first | with_reducible exact Hb.out | with_reducible apply But.alloc | with_reducible apply But.later | with_reducible apply But.drew | with_reducible apply But.put | with_reducible apply But.store)) Hc.out ?_⟩
        rw [HS.out, He2.out]
        go_simp
      · rw [H7b.out e2] at HS
        replace HS := Lib.hid HS
        have e1' : ((meetR d g).e != 0) = true := by simp [e1]
        have e2' : ((meetR d n).e != 0) = true := by simp [e2]
        clear e1 e2 H7b
        generalize meetR d g = r1 at *
        generalize meetR d n = r2 at *
        go_enter Tryz.func139, Tryz.ntmps139
        go_wp2_with (first | (go_at_call 143; (with_reducible refine call_later (HN.out _) ?_); intro u0) | (go_at_call 174; (with_reducible refine call_later (HM1.out _) ?_); intro u1) | (go_at_call 174; (with_reducible refine call_later (HM2.out _) ?_); intro u2))
        refine bodyPost_ret (by (simp [results, Tryz.results139, go_sem] <;> rfl)) rfl ?_
        refine ⟨ret_spS (by rw [HS.out]; rfl) (by rw [HS.out]; rfl), But.out (by repeat (first | with_reducible exact Hb.out | with_reducible apply But.alloc | with_reducible apply But.later | with_reducible apply But.drew | with_reducible apply But.put | with_reducible apply But.store)) Hc.out ?_⟩
        rw [HS.out]
        show _ = some (Value.int .i64 7)
        go_simp
  · have HD := Lib.hid (doR_bad (sidesR d g) he)
    have he' : (e != 0) = true := by simp [he]
    clear he hok
    go_enter Tryz.func139, Tryz.ntmps139
    go_wp2
    refine bodyPost_ret (by (simp [results, Tryz.results139, go_sem] <;> rfl)) rfl ?_
    refine ⟨ret_spS (by rw [HD.out]; rfl) (by rw [HD.out]; rfl), But.out (by repeat (first | with_reducible exact Hb.out | with_reducible apply But.alloc | with_reducible apply But.later | with_reducible apply But.drew | with_reducible apply But.put | with_reducible apply But.store)) Hc.out ?_⟩
    rw [HD.out]
    show _ = some (Value.int .i64 e)
    go_simp
end Go.Proofs.YtohinapfpfjlkaaGreat
