/-
  Contracts: widths (span, ullageref01), growing (ullageref01), what is reached (flight).
  Contracts: what is reached (flight).
  Contracts: widths and growing in ullageref01's calculation.
-/
import Derived.Test.YtkeifgcncmilmaaGreatForceABCS
import Derived.Test.YtkeifgcncmilmaaGreatStepLawsS
import Derived.Test.YtkeifgcncmilmaaGreatRefDivsS
namespace Go.Proofs.YtkeifgcncmilmaaGreat
open Go.RowKit Go.Shelf
set_option maxRecDepth 100000
set_option maxHeartbeats 8000000
theorem ret_wide {n e : Int} {r : NRes} (h : (⟨n, e⟩ : NRes) = r) : Ending.returned (.tuple #[.int .i64 n, .int .i64 e]) = .returned (.tuple #[.int .i64 r.n, .int .i64 r.e]) := by subst h; rfl
theorem spWide_any (a : Sp) [ha : S64 a] (w : World) : Calls Tryz.prog 202 #[.agg #[.int .i64 a.lo, .int .i64 a.hi]] w fun e w' => e = .returned (.tuple #[.int .i64 (wideR a).n, .int .i64 (wideR a).e]) ∧ Grew w w' := by
  cases hk : a.okB
  · have HR := Lib.hid (show (⟨0, 2⟩ : NRes) = wideR a by unfold wideR; rw [hk]; rfl)
    have HC := Lib.hid (fun w' => is_int (show codeB a.okB 2 = 2 by rw [hk]; rfl) (spCheck_any a w'))
    generalize wideR a = R at *
    clear hk
    go_enter Tryz.func202, Tryz.ntmps202
    go_wp2_with (first | (go_at_call 90; (with_reducible refine call_later (HC.out _) ?_); intro u))
    first | go_ret | go_ret2
    exact ⟨ret_wide HR.out, gw⟩
  · have HC := Lib.hid (fun w' => is_int (show codeB a.okB 2 = 0 by rw [hk]; rfl) (spCheck_any a w'))
    obtain ⟨k1, k2, k3⟩ := okB_num hk
    have k4 := ha.hi.2
    by_cases h : 9223372036854775807 < a.hi - a.lo
    · have HR := Lib.hid (show (⟨0, 4⟩ : NRes) = wideR a by unfold wideR; rw [hk, if_pos rfl, if_pos h])
      generalize wideR a = R at *
      have h0 : a.lo < 0 := by omega
      have h1 : 9223372036854775807 + a.lo < a.hi := by omega
      clear hk h
      go_enter Tryz.func202, Tryz.ntmps202
      go_wp2_with (first | (go_at_call 90; (with_reducible refine call_later (HC.out _) ?_); intro u))
      first | go_ret | go_ret2
      exact ⟨ret_wide HR.out, gw⟩
    · have HR := Lib.hid (show (⟨a.hi - a.lo, 0⟩ : NRes) = wideR a by unfold wideR; rw [hk, if_pos rfl, if_neg h])
      generalize wideR a = R at *
      by_cases h0 : a.lo < 0
      · have h1 : ¬ 9223372036854775807 + a.lo < a.hi := by omega
        clear hk
        go_enter Tryz.func202, Tryz.ntmps202
        go_wp2_with (first | (go_at_call 90; (with_reducible refine call_later (HC.out _) ?_); intro u))
        first | go_ret | go_ret2
        exact ⟨ret_wide HR.out, gw⟩
      · clear hk
        go_enter Tryz.func202, Tryz.ntmps202
        go_wp2_with (first | (go_at_call 90; (with_reducible refine call_later (HC.out _) ?_); intro u))
        first | go_ret | go_ret2
        exact ⟨ret_wide HR.out, gw⟩
end Go.Proofs.YtkeifgcncmilmaaGreat
namespace Go.Proofs.YtkeifgcncmilmaaGreat
open Go.RowKit Go.Shelf
set_option maxRecDepth 100000
set_option maxHeartbeats 8000000
theorem flOf_any2 (p v : Bx) (w : World) : Calls Tryz.prog 119 #[.agg #[.int .i64 p.x.lo, .int .i64 p.x.hi, .int .i64 p.y.lo, .int .i64 p.y.hi, .int .i64 p.z.lo, .int .i64 p.z.hi], .agg #[.int .i64 v.x.lo, .int .i64 v.x.hi, .int .i64 v.y.lo, .int .i64 v.y.hi, .int .i64 v.z.lo, .int .i64 v.z.hi]] w fun e w' => e = .returned (.agg #[.int .i64 p.x.lo, .int .i64 p.x.hi, .int .i64 p.y.lo, .int .i64 p.y.hi, .int .i64 p.z.lo, .int .i64 p.z.hi, .int .i64 v.x.lo, .int .i64 v.x.hi, .int .i64 v.y.lo, .int .i64 v.y.hi, .int .i64 v.z.lo, .int .i64 v.z.hi]) ∧ Grew w w' := by
  go_enter Tryz.func119, Tryz.ntmps119
  go_wp2
  refine bodyPost_ret (by (simp [results, Tryz.results119, go_sem] <;> rfl)) rfl ?_
  exact ⟨rfl, gw⟩
theorem reached_any (P V : Bx) (d : Sp) (v f : Bx) [hP : B64 P] [hV : B64 V] [hd : S64 d] [hv : B64 v] [hf' : B64 f] (c : Nat) (e : Int) (w : World) (hc : w.cell? ⟨c, 0, none⟩ = some (.int .i64 e)) (hf : w.frozen? ⟨c, 0, none⟩ = false) :
    Calls Tryz.prog 168 #[.pointer (some ⟨c, 0, none⟩), .agg #[.int .i64 P.x.lo, .int .i64 P.x.hi, .int .i64 P.y.lo, .int .i64 P.y.hi, .int .i64 P.z.lo, .int .i64 P.z.hi, .int .i64 V.x.lo, .int .i64 V.x.hi, .int .i64 V.y.lo, .int .i64 V.y.hi, .int .i64 V.z.lo, .int .i64 V.z.hi], .agg #[.int .i64 d.lo, .int .i64 d.hi], .agg #[.int .i64 v.x.lo, .int .i64 v.x.hi, .int .i64 v.y.lo, .int .i64 v.y.hi, .int .i64 v.z.lo, .int .i64 v.z.hi], .agg #[.int .i64 f.x.lo, .int .i64 f.x.hi, .int .i64 f.y.lo, .int .i64 f.y.hi, .int .i64 f.z.lo, .int .i64 f.z.hi]] w (RetC c (.agg #[.int .i64 ((reachF P V d v f e).p).x.lo, .int .i64 ((reachF P V d v f e).p).x.hi, .int .i64 ((reachF P V d v f e).p).y.lo, .int .i64 ((reachF P V d v f e).p).y.hi, .int .i64 ((reachF P V d v f e).p).z.lo, .int .i64 ((reachF P V d v f e).p).z.hi, .int .i64 ((reachF P V d v f e).v).x.lo, .int .i64 ((reachF P V d v f e).v).x.hi, .int .i64 ((reachF P V d v f e).v).y.lo, .int .i64 ((reachF P V d v f e).v).y.hi, .int .i64 ((reachF P V d v f e).v).z.lo, .int .i64 ((reachF P V d v f e).v).z.hi]) (reachF P V d v f e).e w) := by
  have ib : BlockIn w c := BlockIn.of_cell hc
  have hci : HasCell w c 0 := ⟨_, hc⟩
  have Hb := Lib.hid (But.refl hc)
  have Hc := Lib.hid hc
  have b1 : B64 (rcM d v e).b := b64_eachR _ _ _ _
  have b2 : B64 (rcM d f (rcP P d v e).e).b := b64_eachR _ _ _ _
  have K1 := Lib.hid (fun w hc hf => show Calls Tryz.prog 175 #[.pointer (some ⟨c, 0, none⟩), .func (.func 118) #[.pointer (some ⟨c, 0, none⟩)] #[], .agg #[.int .i64 d.lo, .int .i64 d.hi], .agg #[.int .i64 v.x.lo, .int .i64 v.x.hi, .int .i64 v.y.lo, .int .i64 v.y.hi, .int .i64 v.z.lo, .int .i64 v.z.hi]] w (RetC c (.agg #[.int .i64 ((rcM d v e).b).x.lo, .int .i64 ((rcM d v e).b).x.hi, .int .i64 ((rcM d v e).b).y.lo, .int .i64 ((rcM d v e).b).y.hi, .int .i64 ((rcM d v e).b).z.lo, .int .i64 ((rcM d v e).b).z.hi]) (rcM d v e).e w) from cByM_any 118 mulR (enters_of Tryz.func118 (by kernel_rfl) rfl) opm_mul c e d v w hc hf)
  have K2 := Lib.hid (fun w hc hf => show Calls Tryz.prog 171 #[.pointer (some ⟨c, 0, none⟩), .func (.func 116) #[.pointer (some ⟨c, 0, none⟩)] #[], .agg #[.int .i64 P.x.lo, .int .i64 P.x.hi, .int .i64 P.y.lo, .int .i64 P.y.hi, .int .i64 P.z.lo, .int .i64 P.z.hi], .agg #[.int .i64 ((rcM d v e).b).x.lo, .int .i64 ((rcM d v e).b).x.hi, .int .i64 ((rcM d v e).b).y.lo, .int .i64 ((rcM d v e).b).y.hi, .int .i64 ((rcM d v e).b).z.lo, .int .i64 ((rcM d v e).b).z.hi]] w (RetC c (.agg #[.int .i64 ((rcP P d v e).b).x.lo, .int .i64 ((rcP P d v e).b).x.hi, .int .i64 ((rcP P d v e).b).y.lo, .int .i64 ((rcP P d v e).b).y.hi, .int .i64 ((rcP P d v e).b).z.lo, .int .i64 ((rcP P d v e).b).z.hi]) (rcP P d v e).e w) from cEachM_any 116 addR (enters_of Tryz.func116 (by kernel_rfl) rfl) opm_add c (rcM d v e).e P (rcM d v e).b w hc hf)
  have K3 := Lib.hid (fun w hc hf => show Calls Tryz.prog 175 #[.pointer (some ⟨c, 0, none⟩), .func (.func 118) #[.pointer (some ⟨c, 0, none⟩)] #[], .agg #[.int .i64 d.lo, .int .i64 d.hi], .agg #[.int .i64 f.x.lo, .int .i64 f.x.hi, .int .i64 f.y.lo, .int .i64 f.y.hi, .int .i64 f.z.lo, .int .i64 f.z.hi]] w (RetC c (.agg #[.int .i64 ((rcM d f (rcP P d v e).e).b).x.lo, .int .i64 ((rcM d f (rcP P d v e).e).b).x.hi, .int .i64 ((rcM d f (rcP P d v e).e).b).y.lo, .int .i64 ((rcM d f (rcP P d v e).e).b).y.hi, .int .i64 ((rcM d f (rcP P d v e).e).b).z.lo, .int .i64 ((rcM d f (rcP P d v e).e).b).z.hi]) (rcM d f (rcP P d v e).e).e w) from cByM_any 118 mulR (enters_of Tryz.func118 (by kernel_rfl) rfl) opm_mul c (rcP P d v e).e d f w hc hf)
  have K4 := Lib.hid (fun w hc hf => show Calls Tryz.prog 171 #[.pointer (some ⟨c, 0, none⟩), .func (.func 116) #[.pointer (some ⟨c, 0, none⟩)] #[], .agg #[.int .i64 V.x.lo, .int .i64 V.x.hi, .int .i64 V.y.lo, .int .i64 V.y.hi, .int .i64 V.z.lo, .int .i64 V.z.hi], .agg #[.int .i64 ((rcM d f (rcP P d v e).e).b).x.lo, .int .i64 ((rcM d f (rcP P d v e).e).b).x.hi, .int .i64 ((rcM d f (rcP P d v e).e).b).y.lo, .int .i64 ((rcM d f (rcP P d v e).e).b).y.hi, .int .i64 ((rcM d f (rcP P d v e).e).b).z.lo, .int .i64 ((rcM d f (rcP P d v e).e).b).z.hi]] w (RetC c (.agg #[.int .i64 ((rcP V d f (rcP P d v e).e).b).x.lo, .int .i64 ((rcP V d f (rcP P d v e).e).b).x.hi, .int .i64 ((rcP V d f (rcP P d v e).e).b).y.lo, .int .i64 ((rcP V d f (rcP P d v e).e).b).y.hi, .int .i64 ((rcP V d f (rcP P d v e).e).b).z.lo, .int .i64 ((rcP V d f (rcP P d v e).e).b).z.hi]) (rcP V d f (rcP P d v e).e).e w) from cEachM_any 116 addR (enters_of Tryz.func116 (by kernel_rfl) rfl) opm_add c (rcM d f (rcP P d v e).e).e V (rcM d f (rcP P d v e).e).b w hc hf)
  clear b1 b2
  unfold reachF
  generalize rcP V d f (rcP P d v e).e = R4 at *
  generalize rcM d f (rcP P d v e).e = R3 at *
  generalize rcP P d v e = R2 at *
  generalize rcM d v e = R1 at *
  go_enter Tryz.func168, Tryz.ntmps168
  go_wp2
  refine wp_region_calc c [e, e, R1.e, R2.e] 13 [12] [4, 10, 11] [] (fun W0 => [(12, BoxR W0 [.int .i64 0, .int .i64 0, .int .i64 0, .int .i64 0, .int .i64 0, .int .i64 0])]) [.agg #[.int .i64 P.x.lo, .int .i64 P.x.hi, .int .i64 P.y.lo, .int .i64 P.y.hi, .int .i64 P.z.lo, .int .i64 P.z.hi], .agg #[.int .i64 R1.b.x.lo, .int .i64 R1.b.x.hi, .int .i64 R1.b.y.lo, .int .i64 R1.b.y.hi, .int .i64 R1.b.z.lo, .int .i64 R1.b.z.hi], .agg #[.int .i64 R2.b.x.lo, .int .i64 R2.b.x.hi, .int .i64 R2.b.y.lo, .int .i64 R2.b.y.hi, .int .i64 R2.b.z.lo, .int .i64 R2.b.z.hi]] [13] (by rfl) (by go_simp) (by go_simp) (by intro W0 hW0 x hx; simp only [List.mem_cons, List.not_mem_nil, or_false] at hx; rcases hx with rfl <;> first | exact goodc_box _ _ hW0 _) (by kernel_rfl) (by kernel_rfl) (by kernel_rfl) ?_
  intro pz hd0
  apply Exists.intro
  apply And.intro
  iterate 4 (apply lexc_pure hd0 (by kernel_rfl); (· intro uz xc; unfold opPure; go_simp; rfl))
  apply lexc_call hd0 0 (by kernel_rfl) (by rfl) (by decide)
  · intro uz hfz hF; clear hF; unfold opCall; go_simp; exact retc_of (flPlace_any P V _) (by go_simp)
  iterate 5 (apply lexc_pure hd0 (by kernel_rfl); (· intro uz xc; unfold opPure; go_simp; rfl))
  apply lexc_call hd0 1 (by kernel_rfl) (by rfl) (by decide)
  · intro uz hfz hF; clear hF; unfold opCall; go_simp; exact K1.out _ (by go_simp) hfz
  apply lexc_call hd0 2 (by kernel_rfl) (by rfl) (by decide)
  · intro uz hfz hF; clear hF; unfold opCall; go_simp; exact K2.out _ (by go_simp) hfz
  apply lexc_make hd0 (by kernel_rfl)
  · intro uz xc hF; clear hF; unfold opMake; go_simp; refine (show Made (BoxR _ [.int .i64 0, .int .i64 0, .int .i64 0, .int .i64 0, .int .i64 0, .int .i64 0]) _ _ _ from ?_); exact madec_box _ _ _ _
  apply lexc_end
  rotate_left
  · rfl
  intro uz hR hD hfz
  obtain ⟨q12, e12, hB12, kB12, nB12⟩ := (show BoxR _ [.int .i64 0, .int .i64 0, .int .i64 0, .int .i64 0, .int .i64 0, .int .i64 0] (pz 12) _ from hR 12 (by decide))
  clear hR hD
  rw [e12]
  clear e12
  have oB12 := apart_oldL nB12
  have oC12 := apart_oldR nB12
  have hB12 := boxAt_cw hB12 hd0 nB12
  have kB12 := blockIn_cw kB12
  have hB12_0 := (hB12 0 _ rfl).1
  have hB12f0 := (hB12 0 _ rfl).2
  have hB12i0 : HasCell (uz.world) (q12) 0 := ⟨_, hB12_0⟩
  have hB12_1 := (hB12 1 _ rfl).1
  have hB12f1 := (hB12 1 _ rfl).2
  have hB12i1 : HasCell (uz.world) (q12) 1 := ⟨_, hB12_1⟩
  have hB12_2 := (hB12 2 _ rfl).1
  have hB12f2 := (hB12 2 _ rfl).2
  have hB12i2 : HasCell (uz.world) (q12) 2 := ⟨_, hB12_2⟩
  have hB12_3 := (hB12 3 _ rfl).1
  have hB12f3 := (hB12 3 _ rfl).2
  have hB12i3 : HasCell (uz.world) (q12) 3 := ⟨_, hB12_3⟩
  have hB12_4 := (hB12 4 _ rfl).1
  have hB12f4 := (hB12 4 _ rfl).2
  have hB12i4 : HasCell (uz.world) (q12) 4 := ⟨_, hB12_4⟩
  have hB12_5 := (hB12 5 _ rfl).1
  have hB12f5 := (hB12 5 _ rfl).2
  have hB12i5 : HasCell (uz.world) (q12) 5 := ⟨_, hB12_5⟩
  have hB12b : BlockIn (uz.world) (q12) := BlockIn.of_cell hB12_0
  clear hB12
  refine tail_store (by rfl) ?_; unfold opStore; go_simp
  refine tail_end ?_
  have nw12 : NewFor w q12 := newFor_of nB12
  go_wp2
  refine wp_region_calc c [R2.e, R2.e, R3.e, R4.e, R4.e] 14 [] [5, 11, 12, 13] [] (fun W0 => []) [.agg #[.int .i64 V.x.lo, .int .i64 V.x.hi, .int .i64 V.y.lo, .int .i64 V.y.hi, .int .i64 V.z.lo, .int .i64 V.z.hi], .agg #[.int .i64 R3.b.x.lo, .int .i64 R3.b.x.hi, .int .i64 R3.b.y.lo, .int .i64 R3.b.y.hi, .int .i64 R3.b.z.lo, .int .i64 R3.b.z.hi], .agg #[.int .i64 R4.b.x.lo, .int .i64 R4.b.x.hi, .int .i64 R4.b.y.lo, .int .i64 R4.b.y.hi, .int .i64 R4.b.z.lo, .int .i64 R4.b.z.hi], .agg #[.int .i64 R2.b.x.lo, .int .i64 R2.b.x.hi, .int .i64 R2.b.y.lo, .int .i64 R2.b.y.hi, .int .i64 R2.b.z.lo, .int .i64 R2.b.z.hi, .int .i64 R4.b.x.lo, .int .i64 R4.b.x.hi, .int .i64 R4.b.y.lo, .int .i64 R4.b.y.hi, .int .i64 R4.b.z.lo, .int .i64 R4.b.z.hi]] [14] (by rfl) (by go_simp) (by go_simp) (fun _ _ x hx => absurd hx (List.not_mem_nil)) (by kernel_rfl) (by kernel_rfl) (by kernel_rfl) ?_
  intro pz hd0
  apply Exists.intro
  apply And.intro
  iterate 5 (apply lexc_pure hd0 (by kernel_rfl); (· intro uz xc; unfold opPure; go_simp; rfl))
  apply lexc_call hd0 0 (by kernel_rfl) (by rfl) (by decide)
  · intro uz hfz hF; clear hF; unfold opCall; go_simp; exact retc_of (flSpeedOf_any P V _) (by go_simp)
  iterate 5 (apply lexc_pure hd0 (by kernel_rfl); (· intro uz xc; unfold opPure; go_simp; rfl))
  apply lexc_call hd0 1 (by kernel_rfl) (by rfl) (by decide)
  · intro uz hfz hF; clear hF; unfold opCall; go_simp; exact K3.out _ (by go_simp) hfz
  apply lexc_call hd0 2 (by kernel_rfl) (by rfl) (by decide)
  · intro uz hfz hF; clear hF; unfold opCall; go_simp; exact K4.out _ (by go_simp) hfz
  apply lexc_call hd0 3 (by kernel_rfl) (by rfl) (by decide)
  · intro uz hfz hF; clear hF; unfold opCall; go_simp; exact retc_of (flOf_any2 R2.b R4.b _) (by go_simp)
  apply lexc_end
  rotate_left
  · rfl
  intro uz hR hD hfz
  clear hR hD
  refine tail_store (by rfl) ?_; unfold opStore; go_simp
  refine tail_end ?_
  go_wp2
  refine bodyPost_ret (by (simp [results, Tryz.results168, go_sem] <;> rfl)) rfl ?_
  exact ⟨rfl, But.out (by repeat (first | with_reducible exact Hb.out | with_reducible apply But.alloc | with_reducible apply But.later | with_reducible apply But.drew | with_reducible apply But.put | with_reducible apply But.store)) Hc.out (by go_simp)⟩
end Go.Proofs.YtkeifgcncmilmaaGreat
namespace Go.Proofs.YtkeifgcncmilmaaGreat
open Go.RowKit Go.Shelf
set_option maxRecDepth 100000
set_option maxHeartbeats 8000000
/-- A width, if nothing was wrong before. -/
def wcN (e : Int) (r : NRes) : Int := if e = 0 then r.n else 0
end Go.Proofs.YtkeifgcncmilmaaGreat
