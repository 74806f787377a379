/-
  Contracts: the operations of ullageref01.Calc.
-/
import Derived.Test.YtochpnomfedhoaaGreatCalc
namespace Go.Proofs.YtochpnomfedhoaaGreat
open Go.RowKit Go.Shelf
set_option maxRecDepth 100000
set_option maxHeartbeats 2000000
theorem rKeep_res (c : Nat) (e : Int) (r : Res) (w : World) (hc : w.cell? ⟨c, 0, none⟩ = some (.int .i64 e)) (hf : w.frozen? ⟨c, 0, none⟩ = false) :
    Calls Tryz.prog 95 #[.pointer (some ⟨c, 0, none⟩), .agg #[.int .i64 r.s.lo, .int .i64 r.s.hi], .int .i64 r.e] w (RetC c (.agg #[.int .i64 ((doR e r).s).lo, .int .i64 ((doR e r).s).hi]) (doR e r).e w) := rKeep_any c e r.e r.s w hc hf
theorem rcSub_any (c : Nat) (e : Int) (a b : Sp) [ha : S64 a] [hb : S64 b] (w : World) (hc : w.cell? ⟨c, 0, none⟩ = some (.int .i64 e)) (hf : w.frozen? ⟨c, 0, none⟩ = false) :
    Calls Tryz.prog 45 #[.pointer (some ⟨c, 0, none⟩), .agg #[.int .i64 a.lo, .int .i64 a.hi], .agg #[.int .i64 b.lo, .int .i64 b.hi]] w (RetC c (.agg #[.int .i64 ((doR e (subR a b)).s).lo, .int .i64 ((doR e (subR a b)).s).hi]) (doR e (subR a b)).e w) := by
  have ib : BlockIn w c := BlockIn.of_cell hc
  have hci : HasCell w c 0 := ⟨_, hc⟩
  have Hb := Lib.hid (But.refl hc)
  have Hc := Lib.hid hc
  go_enter Tryz.func45, Tryz.ntmps45
  go_wp2_with (first | (go_at_call 94; (with_reducible refine call_later (rSub_any a b _) ?_); intro u) | (go_at_call 95; refine call_calc (rKeep_res c e (subR a b) _ (by go_simp) (by go_simp)) ?_; intro u) | ((with_reducible refine wp_region_later ?_ ?_ ?_); (· kernel_rfl); (· kernel_rfl); (repeat (go_big_quiet_step ((first | (go_at_call 94; (with_reducible exact call_quiet (rSub_any a b _))))))); refine wpQuiet_nil ?_; rintro _ ⟨u, rfl⟩))
  refine bodyPost_ret (by (simp [results, Tryz.results45, go_sem] <;> rfl)) rfl ?_
  exact ⟨rfl, But.out (by repeat (first | with_reducible exact Hb.out | with_reducible apply But.alloc | with_reducible apply But.later | with_reducible apply But.drew | with_reducible apply But.put | with_reducible apply But.store)) Hc.out (by go_simp)⟩
theorem rcMeet_any (c : Nat) (e : Int) (a b : Sp) (w : World) (hc : w.cell? ⟨c, 0, none⟩ = some (.int .i64 e)) (hf : w.frozen? ⟨c, 0, none⟩ = false) :
    Calls Tryz.prog 125 #[.pointer (some ⟨c, 0, none⟩), .agg #[.int .i64 a.lo, .int .i64 a.hi], .agg #[.int .i64 b.lo, .int .i64 b.hi]] w (RetC c (.agg #[.int .i64 ((doR e (meetR a b)).s).lo, .int .i64 ((doR e (meetR a b)).s).hi]) (doR e (meetR a b)).e w) := by
  have ib : BlockIn w c := BlockIn.of_cell hc
  have hci : HasCell w c 0 := ⟨_, hc⟩
  have Hb := Lib.hid (But.refl hc)
  have Hc := Lib.hid hc
  go_enter Tryz.func125, Tryz.ntmps125
  go_wp2_with (first | (go_at_call 163; (with_reducible refine call_later (rMeet_any a b _) ?_); intro u) | (go_at_call 95; refine call_calc (rKeep_res c e (meetR a b) _ (by go_simp) (by go_simp)) ?_; intro u) | ((with_reducible refine wp_region_later ?_ ?_ ?_); (· kernel_rfl); (· kernel_rfl); (repeat (go_big_quiet_step ((first | (go_at_call 163; (with_reducible exact call_quiet (rMeet_any a b _))))))); refine wpQuiet_nil ?_; rintro _ ⟨u, rfl⟩))
  refine bodyPost_ret (by (simp [results, Tryz.results125, go_sem] <;> rfl)) rfl ?_
  exact ⟨rfl, But.out (by repeat (first | with_reducible exact Hb.out | with_reducible apply But.alloc | with_reducible apply But.later | with_reducible apply But.drew | with_reducible apply But.put | with_reducible apply But.store)) Hc.out (by go_simp)⟩
def Bx.list (b : Bx) : List Sp := [b.x, b.y, b.z]
def boxS (b : Bx) [h : B64 b] : List Sx := [⟨b.x, h.x⟩, ⟨b.y, h.y⟩, ⟨b.z, h.z⟩]
theorem rNorm_box (b : Bx) [h : B64 b] (ao : Option Addr) (w : World) (hs : SlAt w (.slice ao 3 3) 3 [.int .i64 b.x.lo, .int .i64 b.x.hi, .int .i64 b.y.lo, .int .i64 b.y.hi, .int .i64 b.z.lo, .int .i64 b.z.hi]) : Calls Tryz.prog 48 #[.slice ao 3 3] w fun e w' => e = .returned (.tuple #[.agg #[.int .i64 (normR b.list).s.lo, .int .i64 (normR b.list).s.hi], .int .i64 (normR b.list).e]) ∧ Grew w w' := rNorm_any (boxS b) ao 3 w hs
theorem rcNorm_any (c : Nat) (e : Int) (b : Bx) [hb : B64 b] (w : World) (hc : w.cell? ⟨c, 0, none⟩ = some (.int .i64 e)) (hf : w.frozen? ⟨c, 0, none⟩ = false) :
    Calls Tryz.prog 46 #[.pointer (some ⟨c, 0, none⟩), .agg #[.int .i64 b.x.lo, .int .i64 b.x.hi, .int .i64 b.y.lo, .int .i64 b.y.hi, .int .i64 b.z.lo, .int .i64 b.z.hi]] w (RetC c (.agg #[.int .i64 ((doR e (normR b.list)).s).lo, .int .i64 ((doR e (normR b.list)).s).hi]) (doR e (normR b.list)).e w) := by
  have ib : BlockIn w c := BlockIn.of_cell hc
  have hci : HasCell w c 0 := ⟨_, hc⟩
  have Hb := Lib.hid (But.refl hc)
  have Hc := Lib.hid hc
  go_enter Tryz.func46, Tryz.ntmps46
  go_wp2_with (first | (go_at_call 48; (with_reducible refine call_later (rNorm_box b _ _ (SlAt.fresh _ _ _ _ (by simp [maxLen]))) ?_); intro u) | (go_at_call 95; refine call_calc (rKeep_res c e (normR b.list) _ (by go_simp) (by go_simp)) ?_; intro u) | ((with_reducible refine wp_region_later ?_ ?_ ?_); (· kernel_rfl); (· kernel_rfl); (repeat (go_big_quiet_step ((first | (go_at_call 48; (with_reducible exact call_quiet (rNorm_box b _ _ (SlAt.fresh _ _ _ _ (by simp [maxLen]))))))))); refine wpQuiet_nil ?_; rintro _ ⟨u, rfl⟩))
  refine bodyPost_ret (by (simp [results, Tryz.results46, go_sem] <;> rfl)) rfl ?_
  exact ⟨rfl, But.out (by repeat (first | with_reducible exact Hb.out | with_reducible apply But.alloc | with_reducible apply But.later | with_reducible apply But.drew | with_reducible apply But.put | with_reducible apply But.store)) Hc.out (by go_simp)⟩
instance s64_root (a : Sp) : S64 (rootR a).s := by
  unfold rootR
  split
  · split
    · exact s64_err 4
    · have h1 := rootZ_bd (imax a.lo 0 * 4294967296)
      have h2 := rootZ_bd (a.hi * 4294967296)
      refine ⟨by unfold I64; simp only []; omega, ?_⟩
      unfold I64 rootUp
      simp only []
      split <;> omega
  · exact s64_err 2
instance s64_norm (l : List Sp) : S64 (normR l).s := by
  unfold normR
  split
  · split
    · split
      · exact s64_root _
      · exact s64_err _
    · exact s64_err _
  · exact s64_err _
end Go.Proofs.YtochpnomfedhoaaGreat
