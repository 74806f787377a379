/-
  Contract: ullageref01's Dot of two boxes; its calculation's Dot.
  Contracts: flight.calc's mul, div, square; Speed, Climb (flight, ullageref03).
  FlightNames: the walk.
-/
import Derived.Test.YtkeifgcncmilmaaFolds2
import Derived.Deep.RegionHeld3
import Derived.Test.YtkeifgcncmilmaaCalcF
import Derived.Test.YtkeifgcncmilmaaRefDivs
import Derived.Test.YtkeifgcncmilmaaFlightOks
import Derived.Test.YtkeifgcncmilmaaFlyFly
import Derived.Deep.DeepCutAuto
import Derived.LoopN
import Derived.Deep.QuietTactic
import Derived.BigQuiet
namespace Go.Proofs.Ytkeifgcncmilmaa
open Go.RowKit Go.Shelf
set_option maxRecDepth 100000
set_option maxHeartbeats 2000000
/-- The sum of the first k terms. -/
def dotTo (a b : Bx) (k : Nat) : Res := foldR mul2 z0 ((a.terms b).take k)
theorem dot_step (a b : Bx) (k : Nat) (hk : k < 3) (s : Sp) (h : dotTo a b k = ⟨s, 0⟩) :
    dotTo a b (k + 1) = if (mulR (a.at k) (b.at k)).e = 0 then (if (addR s (mulR (a.at k) (b.at k)).s).e = 0 then ⟨(addR s (mulR (a.at k) (b.at k)).s).s, 0⟩ else errR (addR s (mulR (a.at k) (b.at k)).s).e) else errR (mulR (a.at k) (b.at k)).e := by
  have hl : k < (a.terms b).length := by simpa [Bx.terms] using hk
  have e : (a.terms b)[k] = (a.at k, b.at k) := by
    match k, hk with
    | 0, _ => rfl
    | 1, _ => rfl
    | 2, _ => rfl
  unfold dotTo at *
  rw [List.take_succ_eq_append_getElem hl, foldR_snoc, h, if_pos rfl, e]
  rfl
theorem dot_fail (a b : Bx) (k : Nat) (c : Int) (hc : c ≠ 0) (h : dotTo a b k = errR c) : foldR mul2 z0 (a.terms b) = errR c := by
  unfold dotTo at h
  have e : a.terms b = (a.terms b).take k ++ (a.terms b).drop k := (List.take_append_drop _ _).symm
  rw [e, foldR_err mul2 z0 _ _ (by rw [h]; exact hc), h]
def elemOf (a : Bx) : List Sp := a.list
theorem fewE_box (a : Bx) : fewE a.list = codeB a.okB 2 := by
  unfold fewE
  rw [if_pos (by simp [Bx.list]), list_ok]
theorem at_list (a : Bx) (k : Nat) (hk : k < a.list.length) : a.list[k] = a.at k := by
  have : k < 3 := by simpa [Bx.list] using hk
  match k, this with
  | 0, _ => rfl
  | 1, _ => rfl
  | 2, _ => rfl
theorem SlAt.fresh2 {w : World} {m : Nat} [h : SizeAt w m] (l : List Value) (t : TypeId) (n cap : Nat) (o : Obj) (hn : n ≤ maxLen) : SlAt ((w.alloc (.cells l.toArray t)).alloc o) (.slice (some ⟨m, 0, none⟩) n cap) n l := (SlAt.fresh l t n cap hn).grew ((Grew.refl _).alloc _)
end Go.Proofs.Ytkeifgcncmilmaa
namespace Go.Proofs.Ytkeifgcncmilmaa
open Go.RowKit Go.Shelf
set_option maxRecDepth 100000
set_option maxHeartbeats 8000000
def clN (p v : Bx) : Res := doR (dotBR p v).e (normR p.list)
def climbV (p v : Bx) : Res := doR (clN p v).e (divR (dotBR p v).s (clN p v).s)
def climbR (p v : Bx) : Res := if p.okB && v.okB then climbV p v else errR 2
theorem fit_z {x y : Int} (h : (fitR x y).e ≠ 0) : (fitR x y).s = z0 := by
  unfold fitR at h ⊢
  split
  · rename_i h1; rw [if_pos h1] at h; exact absurd rfl h
  · rfl
theorem divR_z (a b : Sp) (h : (divR a b).e ≠ 0) : (divR a b).s = z0 := by
  unfold divR at h ⊢
  split
  · rename_i h1
    rw [if_pos h1] at h
    split
    · rfl
    · rename_i h2
      rw [if_neg h2] at h
      exact fit_z h
  · rfl
theorem climbV_z (p v : Bx) (h : (climbV p v).e ≠ 0) : climbV p v = errR (climbV p v).e := by
  unfold climbV at h ⊢
  generalize hr : divR (dotBR p v).s (clN p v).s = r at *
  by_cases he : (clN p v).e = 0
  · rw [he, doR_ok] at h ⊢
    have := divR_z (dotBR p v).s (clN p v).s (by rw [hr]; exact h)
    rw [hr] at this
    obtain ⟨s, x⟩ := r
    simp only at this
    rw [this]
    rfl
  · rw [doR_bad r he]; rfl
theorem s64_dotS (a b : Bx) : S64 (dotBR a b).s := by
  unfold dotBR
  split
  · exact s64_foldR mul2 (fun x => by unfold mul2; infer_instance) _ _ inferInstance
  · exact s64_err _
instance s64_clN (p v : Bx) : S64 (clN p v).s := by unfold clN; infer_instance
theorem flClimb_any (p v : Bx) [hp : B64 p] [hv : B64 v] (w : World) : Calls Try.prog 22 #[.agg #[.int .i64 p.x.lo, .int .i64 p.x.hi, .int .i64 p.y.lo, .int .i64 p.y.hi, .int .i64 p.z.lo, .int .i64 p.z.hi], .agg #[.int .i64 v.x.lo, .int .i64 v.x.hi, .int .i64 v.y.lo, .int .i64 v.y.hi, .int .i64 v.z.lo, .int .i64 v.z.hi]] w fun e w' => e = .returned (.tuple #[.agg #[.int .i64 (climbR p v).s.lo, .int .i64 (climbR p v).s.hi], .int .i64 (climbR p v).e]) ∧ Grew w w' := by
  cases h1 : (p.okB && v.okB)
  · have HR := Lib.hid (show errR 2 = climbR p v by unfold climbR; rw [h1]; rfl)
    go_enter Try.func22, Try.ntmps22
    go_wp2_with (first | (go_at_call 53; (with_reducible refine call_later (is_bool h1 (flBoxes_two p v _ _ (SlAt.fresh _ _ _ _ (by simp [maxLen])))) ?_); intro u) | ((with_reducible refine wp_region_later ?_ ?_ ?_); (· kernel_rfl); (· kernel_rfl); (try simp only [List.append_eq, List.cons_append, List.nil_append]); (repeat (go_big_quiet_step ((first | (go_at_call 53; (with_reducible exact call_quiet (is_bool h1 (flBoxes_two p v _ _ (SlAt.fresh _ _ _ _ (by simp [maxLen])))))))))); refine wpQuiet_nil ?_; rintro _ ⟨u, rfl⟩))
    refine bodyPost_ret (by (simp [results, Try.results22, go_sem] <;> rfl)) rfl ?_
    exact ⟨ret_err HR.out rfl, gw⟩
  · have HR := Lib.hid (show climbV p v = climbR p v by unfold climbR; rw [h1]; rfl)
    have S1 := Lib.hid (SlAt.fresh (w := w) (m := w.heap.size) [.int .i64 p.x.lo, .int .i64 p.x.hi, .int .i64 p.y.lo, .int .i64 p.y.hi, .int .i64 p.z.lo, .int .i64 p.z.hi] 41 3 3 (by simp [maxLen]))
    have S2 := Lib.hid (SlAt.fresh (w := w.alloc (.cells [.int .i64 p.x.lo, .int .i64 p.x.hi, .int .i64 p.y.lo, .int .i64 p.y.hi, .int .i64 p.z.lo, .int .i64 p.z.hi].toArray 41)) (m := w.heap.size + 1) [.int .i64 v.x.lo, .int .i64 v.x.hi, .int .i64 v.y.lo, .int .i64 v.y.hi, .int .i64 v.z.lo, .int .i64 v.z.hi] 41 3 3 (by simp [maxLen]))
    have K1 := Lib.hid (fun w h1 h2 => spDot_box p v (some ⟨w.heap.size, 0, none⟩) (some ⟨w.heap.size, 0, none⟩) w h1 h2)
    clear K1
    have sdt : S64 (dotBR p v).s := s64_dotS p v
    have K2 := Lib.hid (fun c w hc hf => show Calls Try.prog 55 #[.pointer (some ⟨c, 0, none⟩), .agg #[.int .i64 ((dotBR p v).s).lo, .int .i64 ((dotBR p v).s).hi], .int .i64 (dotBR p v).e] w (RetC c (.agg #[.int .i64 ((dotBR p v).s).lo, .int .i64 ((dotBR p v).s).hi]) (dotBR p v).e w) from cKeep_any c 0 (dotBR p v) w hc hf)
    have K3 := Lib.hid (fun c w hc hf => show Calls Try.prog 57 #[.pointer (some ⟨c, 0, none⟩), .agg #[.int .i64 p.x.lo, .int .i64 p.x.hi, .int .i64 p.y.lo, .int .i64 p.y.hi, .int .i64 p.z.lo, .int .i64 p.z.hi]] w (RetC c (.agg #[.int .i64 ((clN p v).s).lo, .int .i64 ((clN p v).s).hi]) (clN p v).e w) from cNorm_any c (dotBR p v).e p w hc hf)
    have K4 := Lib.hid (fun c w hc hf => show Calls Try.prog 54 #[.pointer (some ⟨c, 0, none⟩), .agg #[.int .i64 ((dotBR p v).s).lo, .int .i64 ((dotBR p v).s).hi], .agg #[.int .i64 ((clN p v).s).lo, .int .i64 ((clN p v).s).hi]] w (RetC c (.agg #[.int .i64 ((climbV p v).s).lo, .int .i64 ((climbV p v).s).hi]) (climbV p v).e w) from cDiv_any c (clN p v).e (dotBR p v).s (clN p v).s w hc hf)
    go_enter Try.func22, Try.ntmps22
    go_wp2_with (first | (go_at_call 53; (with_reducible refine call_later (is_bool h1 (flBoxes_two p v _ _ (SlAt.fresh _ _ _ _ (by simp [maxLen])))) ?_); intro u) | ((with_reducible refine wp_region_later ?_ ?_ ?_); (· kernel_rfl); (· kernel_rfl); (try simp only [List.append_eq, List.cons_append, List.nil_append]); (repeat (go_big_quiet_step ((first | (go_at_call 53; (with_reducible exact call_quiet (is_bool h1 (flBoxes_two p v _ _ (SlAt.fresh _ _ _ _ (by simp [maxLen])))))))))); refine wpQuiet_nil ?_; rintro _ ⟨u, rfl⟩))
    have nwc : NewFor w u.world.heap.size := inferInstance
    refine wp_region_calc (u.world.heap.size) [0, 0, (dotBR p v).e, (clN p v).e, (climbV p v).e] 13 [12] [4, 7, 10, 11] [] (fun W0 => [(12, BoxR W0 [.int .i64 0, .int .i64 0])]) [.tuple #[.agg #[.int .i64 ((dotBR p v).s).lo, .int .i64 ((dotBR p v).s).hi], .int .i64 (dotBR p v).e], .agg #[.int .i64 ((dotBR p v).s).lo, .int .i64 ((dotBR p v).s).hi], .agg #[.int .i64 ((clN p v).s).lo, .int .i64 ((clN p v).s).hi], .agg #[.int .i64 ((climbV p v).s).lo, .int .i64 ((climbV p v).s).hi]] [13] (by rfl) (by go_simp) (by go_simp) (by intro W0 hW0 x hx; simp only [List.mem_cons, List.not_mem_nil, or_false] at hx; rcases hx with rfl <;> first | exact goodc_box _ _ hW0 _) (by kernel_rfl) (by kernel_rfl) (by kernel_rfl) ?_
    intro pz hd0
    apply Exists.intro
    apply And.intro
    iterate 4 (apply lexc_pure hd0 (by kernel_rfl); (· intro uz xc; unfold opPure; go_simp; rfl))
    apply lexc_call hd0 0 (by kernel_rfl) (by rfl) (by decide)
    · intro uz hfz hF; clear hF; unfold opCall; go_simp; exact retc_of (spDot_box p v _ _ _ (S1.out.grew gw) (S2.out.grew gw)) (by go_simp)
    iterate 2 (apply lexc_pure hd0 (by kernel_rfl); (· intro uz xc; unfold opPure; go_simp; rfl))
    apply lexc_call hd0 1 (by kernel_rfl) (by rfl) (by decide)
    · intro uz hfz hF; clear hF; unfold opCall; go_simp; exact K2.out _ _ (by go_simp) hfz
    iterate 2 (apply lexc_pure hd0 (by kernel_rfl); (· intro uz xc; unfold opPure; go_simp; rfl))
    apply lexc_call hd0 2 (by kernel_rfl) (by rfl) (by decide)
    · intro uz hfz hF; clear hF; unfold opCall; go_simp; exact K3.out _ _ (by go_simp) hfz
    apply lexc_call hd0 3 (by kernel_rfl) (by rfl) (by decide)
    · intro uz hfz hF; clear hF; unfold opCall; go_simp; exact K4.out _ _ (by go_simp) hfz
    apply lexc_make hd0 (by kernel_rfl)
    · intro uz xc hF; clear hF; unfold opMake; go_simp; refine (show Made (BoxR _ [.int .i64 0, .int .i64 0]) _ _ _ from ?_); exact madec_box _ _ _ _
    apply lexc_end
    rotate_left
    · rfl
    intro uz hR hD hfz
    obtain ⟨q12, e12, hB12, kB12, nB12⟩ := (show BoxR _ [.int .i64 0, .int .i64 0] (pz 12) _ from hR 12 (by decide))
    clear hR hD
    rw [e12]
    clear e12
    have oB12 := apart_oldL nB12
    have oC12 := apart_oldR nB12
    have hB12 := boxAt_cw hB12 hd0 nB12
    have kB12 := blockIn_cw kB12
    have hB12_0 := (hB12 0 _ rfl).1
    have hB12f0 := (hB12 0 _ rfl).2
    have hB12i0 : HasCell (uz.world) (q12) 0 := ⟨_, hB12_0⟩
    have hB12_1 := (hB12 1 _ rfl).1
    have hB12f1 := (hB12 1 _ rfl).2
    have hB12i1 : HasCell (uz.world) (q12) 1 := ⟨_, hB12_1⟩
    have hB12b : BlockIn (uz.world) (q12) := BlockIn.of_cell hB12_0
    clear hB12
    refine tail_store (by rfl) ?_; unfold opStore; go_simp
    refine tail_end ?_
    have nw12 : NewFor w q12 := ⟨Nat.le_trans nwc.le (by have := nB12.le; simp at this; omega)⟩
    go_wp2
    go_region
    all_goals go_wp2
    all_goals
      refine bodyPost_ret (by (simp [results, Try.results22, go_sem] <;> rfl)) rfl ?_
      exact ⟨ret_res (by rw [← HR.out]), gw⟩
end Go.Proofs.Ytkeifgcncmilmaa
namespace Go.Proofs.Ytkeifgcncmilmaa
open Go.RowKit Go.Shelf
set_option maxRecDepth 100000
set_option maxHeartbeats 800000000
set_option linter.unusedSimpArgs false
/-- An arc of a time and steps alone. -/
def timeA (t d : Int) : Arc := ⟨t, d, ⟨0, 0⟩, ⟨0, 0⟩, zBx, ⟨none, 0, 0⟩, ⟨0, 0⟩⟩
theorem built_timeA (t d : Int) : Try.prog.built 58 [(0, .int .i64 t), (1, .int .i64 d)] = some (timeA t d).cells.toArray := by kernel_rfl
instance built_ta (t d : Int) : Built 58 [(0, .int .i64 t), (1, .int .i64 d)] (timeA t d).cells := ⟨built_timeA t d⟩
/-- An arc that only has a flow. -/
def flowA : Arc := ⟨68719476736, 68719476736, ⟨0, 0⟩, ⟨4294967296, 4294967296⟩, zBx, ⟨none, 0, 0⟩, ⟨0, 0⟩⟩
/-- A planet of a mass alone. -/
def muP : Planet := ⟨⟨1, 1⟩, ⟨0, 0⟩, ⟨0, 0⟩, ⟨0, 0⟩, zBx⟩
theorem built_muP : Try.prog.built 55 [(0, .agg #[.int .i64 1, .int .i64 1])] = some muP.cells.toArray := by kernel_rfl
instance built_mup : Built 55 [(0, .agg #[.int .i64 1, .int .i64 1])] muP.cells := ⟨built_muP⟩
theorem muP64 : Pl64 muP := ⟨⟨i64c rfl, i64c rfl⟩, ⟨i64c rfl, i64c rfl⟩, ⟨i64c rfl, i64c rfl⟩, ⟨i64c rfl, i64c rfl⟩, ⟨⟨i64c rfl, i64c rfl⟩, ⟨i64c rfl, i64c rfl⟩, ⟨i64c rfl, i64c rfl⟩⟩⟩
theorem timeA64 (t d : Int) : S64 (timeA t d).thrust ∧ S64 (timeA t d).flow ∧ B64 (timeA t d).dir := ⟨⟨i64c rfl, i64c rfl⟩, ⟨i64c rfl, i64c rfl⟩, ⟨⟨i64c rfl, i64c rfl⟩, ⟨i64c rfl, i64c rfl⟩, ⟨i64c rfl, i64c rfl⟩⟩⟩
theorem flowA64 : S64 flowA.thrust ∧ S64 flowA.flow ∧ B64 flowA.dir := ⟨⟨i64c rfl, i64c rfl⟩, ⟨i64c rfl, i64c rfl⟩, ⟨⟨i64c rfl, i64c rfl⟩, ⟨i64c rfl, i64c rfl⟩, ⟨i64c rfl, i64c rfl⟩⟩⟩
theorem nm_force : forceR exPl freeA [] exSt = ⟨exPull, 0⟩ := by kernel_rfl
theorem nm_force2 : forceR muP (timeA 1 1) [] exSt = ⟨zBx, 10⟩ := by kernel_rfl
theorem nm_step1 : stepRR exPl freeA [] exSt 0 = stErr 2 := by kernel_rfl
theorem nm_step2 : stepRR exPl freeA [] zState 1 = stErr 2 := by kernel_rfl
theorem nm_step3 : stepRR exPl flowA [] exSt 4294967296 = stErr 4 := by kernel_rfl
def nmA : Bx := ⟨⟨12884901888, 12884901888⟩, ⟨17179869184, 17179869184⟩, ⟨0, 0⟩⟩
def nmB : Bx := ⟨⟨12884901888, 12884901888⟩, ⟨17179869184, 17179869184⟩, ⟨21474836480, 21474836480⟩⟩
def nmC : Bx := ⟨⟨1, 1⟩, ⟨0, 0⟩, ⟨0, 0⟩⟩
theorem nm_climb : climbR nmA nmB = ⟨⟨21474836480, 21474836480⟩, 0⟩ := by kernel_rfl
theorem nm_climb2 : climbR zBx nmC = errR 10 := by kernel_rfl
theorem nmForce_any (w : World) : Calls Try.prog 20 #[.agg exPl.cells.toArray, .agg freeA.cells.toArray, .agg exSt.cells.toArray] w (fun e w' => e = .returned (.tuple #[.agg #[.int .i64 0, .int .i64 0, .int .i64 0, .int .i64 0, .int .i64 (-33554432), .int .i64 (-33554432)], .int .i64 0]) ∧ Grew w w') := by
  have hp := exPl64
  have hs := exSt64
  obtain ⟨h1, h2, h3⟩ := freeA64
  have h := flForceE_any look_any exPl freeA [] exSt w (SlAt.nil w)
  rw [nm_force] at h
  exact h
theorem nmForce2_any (w : World) : Calls Try.prog 20 #[.agg muP.cells.toArray, .agg (timeA 1 1).cells.toArray, .agg exSt.cells.toArray] w (fun e w' => e = .returned (.tuple #[.agg #[.int .i64 0, .int .i64 0, .int .i64 0, .int .i64 0, .int .i64 0, .int .i64 0], .int .i64 10]) ∧ Grew w w') := by
  have hp := muP64
  have hs := exSt64
  obtain ⟨h1, h2, h3⟩ := timeA64 1 1
  have h := flForceE_any look_any muP (timeA 1 1) [] exSt w (SlAt.nil w)
  rw [nm_force2] at h
  exact h
theorem nmStep1_any (w : World) : Calls Try.prog 23 #[.agg exPl.cells.toArray, .agg freeA.cells.toArray, .agg exSt.cells.toArray, .int .i64 0] w (fun e w' => e = .returned (.tuple #[.agg zState.cells.toArray, .agg zTube.cells.toArray, .int .i64 2]) ∧ Grew w w') := by
  have hp := exPl64
  have hs := exSt64
  obtain ⟨h1, h2, h3⟩ := freeA64
  have hh : S64 (⟨0, 0⟩ : Sp) := ⟨i64c rfl, i64c rfl⟩
  have h := flStepE_any look_any exPl freeA [] exSt 0 w (SlAt.nil w)
  rw [nm_step1] at h
  exact h
theorem nmStep2_any (w : World) : Calls Try.prog 23 #[.agg exPl.cells.toArray, .agg freeA.cells.toArray, .agg zState.cells.toArray, .int .i64 1] w (fun e w' => e = .returned (.tuple #[.agg zState.cells.toArray, .agg zTube.cells.toArray, .int .i64 2]) ∧ Grew w w') := by
  have hp := exPl64
  have hs := st64_z
  obtain ⟨h1, h2, h3⟩ := freeA64
  have hh : S64 (⟨1, 1⟩ : Sp) := ⟨i64c rfl, i64c rfl⟩
  have h := flStepE_any look_any exPl freeA [] zState 1 w (SlAt.nil w)
  rw [nm_step2] at h
  exact h
theorem nmStep3_any (w : World) : Calls Try.prog 23 #[.agg exPl.cells.toArray, .agg flowA.cells.toArray, .agg exSt.cells.toArray, .int .i64 4294967296] w (fun e w' => e = .returned (.tuple #[.agg zState.cells.toArray, .agg zTube.cells.toArray, .int .i64 4]) ∧ Grew w w') := by
  have hp := exPl64
  have hs := exSt64
  obtain ⟨h1, h2, h3⟩ := flowA64
  have hh : S64 (⟨4294967296, 4294967296⟩ : Sp) := ⟨i64c rfl, i64c rfl⟩
  have h := flStepE_any look_any exPl flowA [] exSt 4294967296 w (SlAt.nil w)
  rw [nm_step3] at h
  exact h
theorem nmClimb_any (w : World) : Calls Try.prog 22 #[.agg #[.int .i64 nmA.x.lo, .int .i64 nmA.x.hi, .int .i64 nmA.y.lo, .int .i64 nmA.y.hi, .int .i64 nmA.z.lo, .int .i64 nmA.z.hi], .agg #[.int .i64 nmB.x.lo, .int .i64 nmB.x.hi, .int .i64 nmB.y.lo, .int .i64 nmB.y.hi, .int .i64 nmB.z.lo, .int .i64 nmB.z.hi]] w fun e w' => e = .returned (.tuple #[.agg #[.int .i64 21474836480, .int .i64 21474836480], .int .i64 0]) ∧ Grew w w' := by
  have hp : B64 nmA := ⟨⟨i64c rfl, i64c rfl⟩, ⟨i64c rfl, i64c rfl⟩, ⟨i64c rfl, i64c rfl⟩⟩
  have hq : B64 nmB := ⟨⟨i64c rfl, i64c rfl⟩, ⟨i64c rfl, i64c rfl⟩, ⟨i64c rfl, i64c rfl⟩⟩
  have h := flClimb_any nmA nmB w
  rw [nm_climb] at h
  exact h
theorem nmClimb2_any (w : World) : Calls Try.prog 22 #[.agg #[.int .i64 zBx.x.lo, .int .i64 zBx.x.hi, .int .i64 zBx.y.lo, .int .i64 zBx.y.hi, .int .i64 zBx.z.lo, .int .i64 zBx.z.hi], .agg #[.int .i64 nmC.x.lo, .int .i64 nmC.x.hi, .int .i64 nmC.y.lo, .int .i64 nmC.y.hi, .int .i64 nmC.z.lo, .int .i64 nmC.z.hi]] w fun e w' => e = .returned (.tuple #[.agg #[.int .i64 0, .int .i64 0], .int .i64 10]) ∧ Grew w w' := by
  have hp : B64 zBx := ⟨⟨i64c rfl, i64c rfl⟩, ⟨i64c rfl, i64c rfl⟩, ⟨i64c rfl, i64c rfl⟩⟩
  have hq : B64 nmC := ⟨⟨i64c rfl, i64c rfl⟩, ⟨i64c rfl, i64c rfl⟩, ⟨i64c rfl, i64c rfl⟩⟩
  have h := flClimb_any zBx nmC w
  rw [nm_climb2] at h
  exact h
theorem nmSteps_any (w : World) : Calls Try.prog 21 #[.agg (timeA 21474836480 8589934592).cells.toArray] w fun e w' => e = .returned (.tuple #[.int .i64 3, .int .i64 0]) ∧ Grew w w' := by
  have h := flSteps_any (timeA 21474836480 8589934592) [] w (SlAt.nil w) (by decide) (by decide)
  rw [show stepsNum (timeA 21474836480 8589934592) [] = 3 by kernel_rfl, show stepsCode (timeA 21474836480 8589934592) [] = 0 by kernel_rfl] at h
  exact h
theorem nmSteps2_any (w : World) : Calls Try.prog 21 #[.agg (timeA 4097 1).cells.toArray] w fun e w' => e = .returned (.tuple #[.int .i64 0, .int .i64 3]) ∧ Grew w w' := by
  have h := flSteps_any (timeA 4097 1) [] w (SlAt.nil w) (by decide) (by decide)
  rw [show stepsNum (timeA 4097 1) [] = 0 by kernel_rfl, show stepsCode (timeA 4097 1) [] = 3 by kernel_rfl] at h
  exact h
/-! Thirty-three arcs that are zero. -/
def zArc : Arc := ⟨0, 0, ⟨0, 0⟩, ⟨0, 0⟩, zBx, ⟨none, 0, 0⟩, ⟨0, 0⟩⟩
def zArcs : Arcs := List.replicate 33 (zArc, [])
theorem nm_flown : flyR exPl zArcs exSt = flyErr 2 := by kernel_rfl
theorem nm_check : checkE exPl zArcs exSt ≠ 0 := by
  rw [show checkE exPl zArcs exSt = 2 by kernel_rfl]
  decide
theorem nmFly_any (v : Value) (w : World) (h : SlAt w v 33 (zArcs.flatMap arcCells)) : Calls Try.prog 24 #[.agg exPl.cells.toArray, v, .agg exSt.cells.toArray] w (RetFl (flyErr 2) w) := by
  rw [← nm_flown]
  refine flFly_bad exPl zArcs exSt v w ⟨h, fun x hx => ?_⟩ nm_check
  obtain rfl := List.eq_of_mem_replicate hx
  exact ⟨SlAt.nil _, by decide, by decide⟩
theorem infoArc : (Try.prog.info? 58).map (fun i => (i.zero, i.size, i.bytes)) = some (some (.agg zArc.cells.toArray), 15, 136) := by kernel_rfl
theorem make_arcs (w : World) : (Instr.makeSlice 76 (.int .i64 33) (.int .i64 33)).run Try.prog w = .ok (.slice (some ⟨w.heap.size, 0, none⟩) 33 33) (w.alloc (.cells (zArcs.flatMap arcCells).toArray 58)) := by
  obtain ⟨i0, hi, hz0, hz1, hz2⟩ := info_parts infoArc
  have := run_make (P := Try.prog) w 76 58 i0 _ Try.underlying76 hi hz0 .i64 .i64 33 33 (by omega) (by omega) (by rw [hz2]; decide) (by omega)
  rw [hz1] at this
  refine this.trans ?_
  kernel_rfl
theorem slAt_row {W : World} {m n cap : Nat} {t : TypeId} {l : List Value} (h : RowIs W m t l) (hn : n ≤ maxLen) : SlAt W (.slice (some ⟨m, 0, none⟩) n cap) n l := ⟨_, cap, rfl, hn, fun i x hx => ⟨m, 0, rfl, by simpa using cell_is h i hx⟩⟩
theorem rows_apart {W : World} {b b2 : Nat} {t t2 : TypeId} {l l2 : List Value} (h : RowIs W b t l) (h2 : RowIs W b2 t2 l2) (ht : t ≠ t2) : Apart b b2 := ⟨by
  rintro rfl
  have := h.is.symm.trans h2.is
  simp at this
  exact ht this.2⟩
theorem names_walk (w : World) : Calls Try.prog 5 #[] w fun e w' => e = .returned (.bool true) ∧ Grew w w' := by
  go_enter Try.func5, Try.ntmps5
  go_upto_region 4 with (first | (go_at_call 18; (with_reducible refine call_later (l3Of_any _ _ _ _) ?_); intro uo) | (go_at_call 19; (with_reducible refine call_later (l3Point_any _ _) ?_); intro up) | (go_at_call 17; (with_reducible refine call_later (exFree_any _) ?_); intro uf) | (go_at_call 20; go_loud (refine (nmForce_any _).mono ?_; rintro en w2 ⟨rfl, hg⟩; obtain ⟨u1, rfl⟩ := later_of hg; clear hg)) | (go_at_call 21; go_loud (refine call_later (nmSteps_any _) ?_; intro us)) | (go_at_call 22; go_loud (refine call_later (nmClimb_any _) ?_; intro uc)) | (go_at_call 23; go_loud (refine (nmStep1_any _).mono ?_; rintro en w2 ⟨rfl, hg⟩; obtain ⟨u2, rfl⟩ := later_of hg; clear hg)) | (go_at_call 23; go_loud (refine (nmStep2_any _).mono ?_; rintro en w2 ⟨rfl, hg⟩; obtain ⟨u3, rfl⟩ := later_of hg; clear hg)) | ((with_reducible refine wpList_built ?_ ?_ ?_ ?_ ?_ ?_ ?_ ?_ ?_); rotate_left 4; (· rfl); (· rfl); (· rfl); (· infer_instance)) | ((with_reducible refine wpList_load_rng ?_ ?_ ?_ ?_ ?_ ?_ ?_ ?_ ?_ ?_ ?_ ?_); rotate_left 6; (· rfl); (· rfl); (· rfl); (· infer_instance); (· infer_instance)) | ((with_reducible refine wpList_load_is ?_ ?_ ?_ ?_ ?_ ?_ ?_ ?_ ?_ ?_ ?_ ?_ ?_); rotate_left 6; (· rfl); (· rfl); (· rfl); (· infer_instance); (· infer_instance); (· rfl)) | ((with_reducible refine wpList_store_fresh ?_ ?_ ?_ ?_ ?_ ?_ ?_ ?_ ?_ ?_ ?_ ?_ ?_ ?_ ?_ ?_ ?_); rotate_left 5; (· rfl); (· rfl); (· rfl); (· rfl); (· rfl); (· infer_instance); (· infer_instance); (· infer_instance); (· infer_instance)) | ((with_reducible refine wpList_store_is ?_ ?_ ?_ ?_ ?_ ?_ ?_ ?_ ?_ ?_ ?_ ?_ ?_ ?_ ?_ ?_ ?_); rotate_left 7; (· rfl); (· rfl); (· rfl); (· rfl); (· rfl); (· infer_instance); (· infer_instance); (· infer_instance); (· infer_instance)))
  have nP : NewFor w uf.world.heap.size := inferInstance
  have nS : NewFor w up.world.heap.size := inferInstance
  have nF : NewFor w u1.world.heap.size := inferInstance
  refine wp_named (fun Y => RowIs Y uf.world.heap.size 55 exPl.cells ∧ RowIs Y (uf.world.heap.size + 1) 58 freeA.cells ∧ RowIs Y up.world.heap.size 43 [.int .i64 0, .int .i64 0, .int .i64 0, .int .i64 0, .int .i64 0, .int .i64 0, .int .i64 0, .int .i64 4294967296, .int .i64 4294967296, .int .i64 0, .int .i64 0, .int .i64 4294967296, .int .i64 4294967296, .int .i64 4294967296, .int .i64 4294967296] ∧ RowIs Y u1.world.heap.size 41 [.int .i64 0, .int .i64 0, .int .i64 0, .int .i64 0, .int .i64 (-33554432), .int .i64 (-33554432)] ∧ Grew w Y) ⟨inferInstance, inferInstance, inferInstance, inferInstance, gwr⟩ ?_
  rintro Yw ⟨rP, rA, rS, rF, gY⟩
  obtain ⟨Y, rfl⟩ := later_of gY
  clear gY
  generalize uf.world.heap.size = bP at *
  generalize up.world.heap.size = bS at *
  generalize u1.world.heap.size = bF at *
  clear u1 up uo uf
  have iP := rP.blockIn
  have iA := rA.blockIn
  have iS := rS.blockIn
  have iF := rF.blockIn
  go_upto_region 6 with (first | (go_at_call 18; (with_reducible refine call_later (l3Of_any _ _ _ _) ?_); intro uo) | (go_at_call 19; (with_reducible refine call_later (l3Point_any _ _) ?_); intro up) | (go_at_call 17; (with_reducible refine call_later (exFree_any _) ?_); intro uf) | (go_at_call 20; go_loud (refine (nmForce_any _).mono ?_; rintro en w2 ⟨rfl, hg⟩; obtain ⟨u1, rfl⟩ := later_of hg; clear hg)) | (go_at_call 21; go_loud (refine call_later (nmSteps_any _) ?_; intro us)) | (go_at_call 22; go_loud (refine call_later (nmClimb_any _) ?_; intro uc)) | (go_at_call 23; go_loud (refine (nmStep1_any _).mono ?_; rintro en w2 ⟨rfl, hg⟩; obtain ⟨u2, rfl⟩ := later_of hg; clear hg)) | (go_at_call 23; go_loud (refine (nmStep2_any _).mono ?_; rintro en w2 ⟨rfl, hg⟩; obtain ⟨u3, rfl⟩ := later_of hg; clear hg)) | ((with_reducible refine wpList_built ?_ ?_ ?_ ?_ ?_ ?_ ?_ ?_ ?_); rotate_left 4; (· rfl); (· rfl); (· rfl); (· infer_instance)) | ((with_reducible refine wpList_load_rng ?_ ?_ ?_ ?_ ?_ ?_ ?_ ?_ ?_ ?_ ?_ ?_); rotate_left 6; (· rfl); (· rfl); (· rfl); (· infer_instance); (· infer_instance)) | ((with_reducible refine wpList_load_is ?_ ?_ ?_ ?_ ?_ ?_ ?_ ?_ ?_ ?_ ?_ ?_ ?_); rotate_left 6; (· rfl); (· rfl); (· rfl); (· infer_instance); (· infer_instance); (· rfl)) | ((with_reducible refine wpList_store_fresh ?_ ?_ ?_ ?_ ?_ ?_ ?_ ?_ ?_ ?_ ?_ ?_ ?_ ?_ ?_ ?_ ?_); rotate_left 5; (· rfl); (· rfl); (· rfl); (· rfl); (· rfl); (· infer_instance); (· infer_instance); (· infer_instance); (· infer_instance)) | ((with_reducible refine wpList_store_is ?_ ?_ ?_ ?_ ?_ ?_ ?_ ?_ ?_ ?_ ?_ ?_ ?_ ?_ ?_ ?_ ?_); rotate_left 7; (· rfl); (· rfl); (· rfl); (· rfl); (· rfl); (· infer_instance); (· infer_instance); (· infer_instance); (· infer_instance)))
  refine wp_named (fun Y => RowIs Y bP 55 exPl.cells ∧ RowIs Y (bP + 1) 58 freeA.cells ∧ RowIs Y bS 43 [.int .i64 0, .int .i64 0, .int .i64 0, .int .i64 0, .int .i64 0, .int .i64 0, .int .i64 0, .int .i64 4294967296, .int .i64 4294967296, .int .i64 0, .int .i64 0, .int .i64 4294967296, .int .i64 4294967296, .int .i64 4294967296, .int .i64 4294967296] ∧ RowIs Y bF 41 [.int .i64 0, .int .i64 0, .int .i64 0, .int .i64 0, .int .i64 (-33554432), .int .i64 (-33554432)] ∧ RowIs Y uc.world.heap.size 39 [.int .i64 21474836480, .int .i64 21474836480] ∧ Grew w Y) ⟨inferInstance, inferInstance, inferInstance, inferInstance, inferInstance, gwr⟩ ?_
  generalize uc.world.heap.size = bC at *
  clear iP iA iS iF rP rA rS rF
  rintro Yw ⟨rP, rA, rS, rF, rC, gY⟩
  obtain ⟨Y2, rfl⟩ := later_of gY
  clear gY
  have iP := rP.blockIn
  have iA := rA.blockIn
  have iS := rS.blockIn
  have iF := rF.blockIn
  have iC := rC.blockIn
  go_upto_region 7 with (first | (go_at_call 18; (with_reducible refine call_later (l3Of_any _ _ _ _) ?_); intro uo) | (go_at_call 19; (with_reducible refine call_later (l3Point_any _ _) ?_); intro up) | (go_at_call 17; (with_reducible refine call_later (exFree_any _) ?_); intro uf) | (go_at_call 20; go_loud (refine (nmForce_any _).mono ?_; rintro en w2 ⟨rfl, hg⟩; obtain ⟨u1, rfl⟩ := later_of hg; clear hg)) | (go_at_call 21; go_loud (refine call_later (nmSteps_any _) ?_; intro us)) | (go_at_call 22; go_loud (refine call_later (nmClimb_any _) ?_; intro uc)) | (go_at_call 23; go_loud (refine (nmStep1_any _).mono ?_; rintro en w2 ⟨rfl, hg⟩; obtain ⟨u2, rfl⟩ := later_of hg; clear hg)) | (go_at_call 23; go_loud (refine (nmStep2_any _).mono ?_; rintro en w2 ⟨rfl, hg⟩; obtain ⟨u3, rfl⟩ := later_of hg; clear hg)) | ((with_reducible refine wpList_built ?_ ?_ ?_ ?_ ?_ ?_ ?_ ?_ ?_); rotate_left 4; (· rfl); (· rfl); (· rfl); (· infer_instance)) | ((with_reducible refine wpList_load_rng ?_ ?_ ?_ ?_ ?_ ?_ ?_ ?_ ?_ ?_ ?_ ?_); rotate_left 6; (· rfl); (· rfl); (· rfl); (· infer_instance); (· infer_instance)) | ((with_reducible refine wpList_load_is ?_ ?_ ?_ ?_ ?_ ?_ ?_ ?_ ?_ ?_ ?_ ?_ ?_); rotate_left 6; (· rfl); (· rfl); (· rfl); (· infer_instance); (· infer_instance); (· rfl)) | ((with_reducible refine wpList_store_fresh ?_ ?_ ?_ ?_ ?_ ?_ ?_ ?_ ?_ ?_ ?_ ?_ ?_ ?_ ?_ ?_ ?_); rotate_left 5; (· rfl); (· rfl); (· rfl); (· rfl); (· rfl); (· infer_instance); (· infer_instance); (· infer_instance); (· infer_instance)) | ((with_reducible refine wpList_store_is ?_ ?_ ?_ ?_ ?_ ?_ ?_ ?_ ?_ ?_ ?_ ?_ ?_ ?_ ?_ ?_ ?_); rotate_left 7; (· rfl); (· rfl); (· rfl); (· rfl); (· rfl); (· infer_instance); (· infer_instance); (· infer_instance); (· infer_instance)))
  refine wp_named (fun Y => RowIs Y bP 55 exPl.cells ∧ RowIs Y (bP + 1) 58 freeA.cells ∧ RowIs Y bS 43 [.int .i64 0, .int .i64 0, .int .i64 0, .int .i64 0, .int .i64 0, .int .i64 0, .int .i64 0, .int .i64 4294967296, .int .i64 4294967296, .int .i64 0, .int .i64 0, .int .i64 4294967296, .int .i64 4294967296, .int .i64 4294967296, .int .i64 4294967296] ∧ RowIs Y bF 41 [.int .i64 0, .int .i64 0, .int .i64 0, .int .i64 0, .int .i64 (-33554432), .int .i64 (-33554432)] ∧ RowIs Y bC 39 [.int .i64 21474836480, .int .i64 21474836480] ∧ Grew w Y) ⟨inferInstance, inferInstance, inferInstance, inferInstance, inferInstance, gwr⟩ ?_
  clear iP iA iS iF iC rP rA rS rF rC
  rintro Yw ⟨rP, rA, rS, rF, rC, gY⟩
  obtain ⟨Y3, rfl⟩ := later_of gY
  clear gY
  have iP := rP.blockIn
  have iA := rA.blockIn
  have iS := rS.blockIn
  have iF := rF.blockIn
  have iC := rC.blockIn
  go_upto_region 8 with (first | (go_at_call 18; (with_reducible refine call_later (l3Of_any _ _ _ _) ?_); intro uo) | (go_at_call 19; (with_reducible refine call_later (l3Point_any _ _) ?_); intro up) | (go_at_call 17; (with_reducible refine call_later (exFree_any _) ?_); intro uf) | (go_at_call 20; go_loud (refine (nmForce_any _).mono ?_; rintro en w2 ⟨rfl, hg⟩; obtain ⟨u1, rfl⟩ := later_of hg; clear hg)) | (go_at_call 21; go_loud (refine call_later (nmSteps_any _) ?_; intro us)) | (go_at_call 22; go_loud (refine call_later (nmClimb_any _) ?_; intro uc)) | (go_at_call 23; go_loud (refine (nmStep2_any _).mono ?_; rintro en w2 ⟨rfl, hg⟩; obtain ⟨u3, rfl⟩ := later_of hg; clear hg)) | ((with_reducible refine wpList_built ?_ ?_ ?_ ?_ ?_ ?_ ?_ ?_ ?_); rotate_left 4; (· rfl); (· rfl); (· rfl); (· infer_instance)) | ((with_reducible refine wpList_load_rng ?_ ?_ ?_ ?_ ?_ ?_ ?_ ?_ ?_ ?_ ?_ ?_); rotate_left 6; (· rfl); (· rfl); (· rfl); (· infer_instance); (· infer_instance)) | ((with_reducible refine wpList_load_is ?_ ?_ ?_ ?_ ?_ ?_ ?_ ?_ ?_ ?_ ?_ ?_ ?_); rotate_left 6; (· rfl); (· rfl); (· rfl); (· infer_instance); (· infer_instance); (· rfl)) | ((with_reducible refine wpList_store_fresh ?_ ?_ ?_ ?_ ?_ ?_ ?_ ?_ ?_ ?_ ?_ ?_ ?_ ?_ ?_ ?_ ?_); rotate_left 5; (· rfl); (· rfl); (· rfl); (· rfl); (· rfl); (· infer_instance); (· infer_instance); (· infer_instance); (· infer_instance)) | ((with_reducible refine wpList_store_is ?_ ?_ ?_ ?_ ?_ ?_ ?_ ?_ ?_ ?_ ?_ ?_ ?_ ?_ ?_ ?_ ?_); rotate_left 7; (· rfl); (· rfl); (· rfl); (· rfl); (· rfl); (· infer_instance); (· infer_instance); (· infer_instance); (· infer_instance)))
  refine wp_named (fun Y => RowIs Y bP 55 exPl.cells ∧ RowIs Y (bP + 1) 58 freeA.cells ∧ RowIs Y bS 43 [.int .i64 0, .int .i64 0, .int .i64 0, .int .i64 0, .int .i64 0, .int .i64 0, .int .i64 0, .int .i64 4294967296, .int .i64 4294967296, .int .i64 0, .int .i64 0, .int .i64 4294967296, .int .i64 4294967296, .int .i64 4294967296, .int .i64 4294967296] ∧ RowIs Y bF 41 [.int .i64 0, .int .i64 0, .int .i64 0, .int .i64 0, .int .i64 (-33554432), .int .i64 (-33554432)] ∧ RowIs Y bC 39 [.int .i64 21474836480, .int .i64 21474836480] ∧ Grew w Y) ⟨inferInstance, inferInstance, inferInstance, inferInstance, inferInstance, gwr⟩ ?_
  clear iP iA iS iF iC rP rA rS rF rC
  rintro Yw ⟨rP, rA, rS, rF, rC, gY⟩
  obtain ⟨Y4, rfl⟩ := later_of gY
  clear gY
  have iP := rP.blockIn
  have iA := rA.blockIn
  have iS := rS.blockIn
  have iF := rF.blockIn
  have iC := rC.blockIn
  go_cut [18] (fun j wx => j = .int .i64 2 ∧ RowIs wx bP 55 exPl.cells ∧ RowIs wx (bP + 1) 58 freeA.cells ∧ RowIs wx bS 43 [.int .i64 0, .int .i64 0, .int .i64 0, .int .i64 0, .int .i64 0, .int .i64 0, .int .i64 0, .int .i64 4294967296, .int .i64 4294967296, .int .i64 0, .int .i64 0, .int .i64 4294967296, .int .i64 4294967296, .int .i64 4294967296, .int .i64 4294967296] ∧ RowIs wx bF 41 [.int .i64 0, .int .i64 0, .int .i64 0, .int .i64 0, .int .i64 (-33554432), .int .i64 (-33554432)] ∧ RowIs wx bC 39 [.int .i64 21474836480, .int .i64 21474836480] ∧ Grew w wx)
  case first =>
    as_aux_lemma =>
      have hmk := make_arcs
      go_region_with (first | (go_at_call 24; go_loud (refine (nmFly_any _ _ (slAt_row (t := 58) inferInstance (by simp [maxLen]))).mono ?_; rintro en w2 ⟨v1, v2, rfl, hs1, hs2, hg⟩; obtain ⟨uy, rfl⟩ := later_of hg; clear hg)) | ((with_reducible refine wpList_load_is ?_ ?_ ?_ ?_ ?_ ?_ ?_ ?_ ?_ ?_ ?_ ?_ ?_); rotate_left 6; (· rfl); (· rfl); (· rfl); (· infer_instance); (· infer_instance); (· rfl)))
      all_goals (as_aux_lemma => go_wp2; go_meet; (case rel => exact ⟨rfl, inferInstance, inferInstance, inferInstance, inferInstance, inferInstance, gwr⟩))
  case rest =>
    as_aux_lemma =>
      clear iP iA iS iF iC rP rA rS rF rC
      obtain ⟨rfl, rP, rA, rS, rF, rC, gY⟩ := hcut
      obtain ⟨Y5, rfl⟩ := later_of gY
      clear gY
      have iP := rP.blockIn
      have iA := rA.blockIn
      have iS := rS.blockIn
      have iF := rF.blockIn
      have iC := rC.blockIn
      go_upto_region 11 with (first | (go_at_call 21; go_loud (refine call_later (nmSteps2_any _) ?_; intro us)) | (go_at_call 22; go_loud (refine call_later (nmClimb2_any _) ?_; intro uc)) | (go_at_call 18; (with_reducible refine call_later (l3Of_any _ _ _ _) ?_); intro uo) | (go_at_call 19; (with_reducible refine call_later (l3Point_any _ _) ?_); intro up) | ((with_reducible refine wpList_built ?_ ?_ ?_ ?_ ?_ ?_ ?_ ?_ ?_); rotate_left 4; (· rfl); (· rfl); (· rfl); (· infer_instance)) | ((with_reducible refine wpList_load_rng ?_ ?_ ?_ ?_ ?_ ?_ ?_ ?_ ?_ ?_ ?_ ?_); rotate_left 6; (· rfl); (· rfl); (· rfl); (· infer_instance); (· infer_instance)) | ((with_reducible refine wpList_load_is ?_ ?_ ?_ ?_ ?_ ?_ ?_ ?_ ?_ ?_ ?_ ?_ ?_); rotate_left 6; (· rfl); (· rfl); (· rfl); (· infer_instance); (· infer_instance); (· rfl)) | ((with_reducible refine wpList_store_fresh ?_ ?_ ?_ ?_ ?_ ?_ ?_ ?_ ?_ ?_ ?_ ?_ ?_ ?_ ?_ ?_ ?_); rotate_left 5; (· rfl); (· rfl); (· rfl); (· rfl); (· rfl); (· infer_instance); (· infer_instance); (· infer_instance); (· infer_instance)) | ((with_reducible refine wpList_store_is ?_ ?_ ?_ ?_ ?_ ?_ ?_ ?_ ?_ ?_ ?_ ?_ ?_ ?_ ?_ ?_ ?_); rotate_left 7; (· rfl); (· rfl); (· rfl); (· rfl); (· rfl); (· infer_instance); (· infer_instance); (· infer_instance); (· infer_instance)))
      refine wp_named (fun Y => RowIs Y bP 55 exPl.cells ∧ RowIs Y (bP + 1) 58 freeA.cells ∧ RowIs Y bS 43 [.int .i64 0, .int .i64 0, .int .i64 0, .int .i64 0, .int .i64 0, .int .i64 0, .int .i64 0, .int .i64 4294967296, .int .i64 4294967296, .int .i64 0, .int .i64 0, .int .i64 4294967296, .int .i64 4294967296, .int .i64 4294967296, .int .i64 4294967296] ∧ RowIs Y bF 41 [.int .i64 0, .int .i64 0, .int .i64 0, .int .i64 0, .int .i64 (-33554432), .int .i64 (-33554432)] ∧ RowIs Y bC 39 [.int .i64 21474836480, .int .i64 21474836480] ∧ Grew w Y) ⟨inferInstance, inferInstance, inferInstance, inferInstance, inferInstance, gwr⟩ ?_
      clear iP iA iS iF iC rP rA rS rF rC
      rintro Yw ⟨rP, rA, rS, rF, rC, gY⟩
      obtain ⟨Y6, rfl⟩ := later_of gY
      clear gY
      have iP := rP.blockIn
      have iA := rA.blockIn
      have iS := rS.blockIn
      have iF := rF.blockIn
      have iC := rC.blockIn
      have p1 := rows_apart rS rA (by decide)
      have p2 := rows_apart rA rS (by decide)
      have p3 := rows_apart rF rA (by decide)
      have p4 := rows_apart rA rF (by decide)
      have p5 := rows_apart rC rA (by decide)
      have p6 := rows_apart rA rC (by decide)
      go_upto_region 12 with (first | (fail) | (go_at_call 18; (with_reducible refine call_later (l3Of_any _ _ _ _) ?_); intro uo) | (go_at_call 19; (with_reducible refine call_later (l3Point_any _ _) ?_); intro up) | ((with_reducible refine wpList_built ?_ ?_ ?_ ?_ ?_ ?_ ?_ ?_ ?_); rotate_left 4; (· rfl); (· rfl); (· rfl); (· infer_instance)) | ((with_reducible refine wpList_load_rng ?_ ?_ ?_ ?_ ?_ ?_ ?_ ?_ ?_ ?_ ?_ ?_); rotate_left 6; (· rfl); (· rfl); (· rfl); (· infer_instance); (· infer_instance)) | ((with_reducible refine wpList_load_is ?_ ?_ ?_ ?_ ?_ ?_ ?_ ?_ ?_ ?_ ?_ ?_ ?_); rotate_left 6; (· rfl); (· rfl); (· rfl); (· infer_instance); (· infer_instance); (· rfl)) | ((with_reducible refine wpList_store_fresh ?_ ?_ ?_ ?_ ?_ ?_ ?_ ?_ ?_ ?_ ?_ ?_ ?_ ?_ ?_ ?_ ?_); rotate_left 5; (· rfl); (· rfl); (· rfl); (· rfl); (· rfl); (· infer_instance); (· infer_instance); (· infer_instance); (· infer_instance)) | ((with_reducible refine wpList_store_is ?_ ?_ ?_ ?_ ?_ ?_ ?_ ?_ ?_ ?_ ?_ ?_ ?_ ?_ ?_ ?_ ?_); rotate_left 7; (· rfl); (· rfl); (· rfl); (· rfl); (· rfl); (· infer_instance); (· infer_instance); (· infer_instance); (· infer_instance)))
      refine wp_named (fun Y => RowIs Y bP 55 exPl.cells ∧ RowIs Y (bP + 1) 58 flowA.cells ∧ RowIs Y bS 43 [.int .i64 0, .int .i64 0, .int .i64 0, .int .i64 0, .int .i64 0, .int .i64 0, .int .i64 0, .int .i64 4294967296, .int .i64 4294967296, .int .i64 0, .int .i64 0, .int .i64 4294967296, .int .i64 4294967296, .int .i64 4294967296, .int .i64 4294967296] ∧ RowIs Y bF 41 [.int .i64 0, .int .i64 0, .int .i64 0, .int .i64 0, .int .i64 (-33554432), .int .i64 (-33554432)] ∧ RowIs Y bC 39 [.int .i64 21474836480, .int .i64 21474836480] ∧ Grew w Y) ⟨inferInstance, row_as inferInstance rfl, inferInstance, inferInstance, inferInstance, gwr⟩ ?_
      clear iP iA iS iF iC rP rA rS rF rC
      rintro Yw ⟨rP, rA, rS, rF, rC, gY⟩
      obtain ⟨Y7, rfl⟩ := later_of gY
      clear gY
      have iP := rP.blockIn
      have iA := rA.blockIn
      have iS := rS.blockIn
      have iF := rF.blockIn
      have iC := rC.blockIn
      go_upto_region 13 with (first | (go_at_call 23; go_loud (refine (nmStep3_any _).mono ?_; rintro en w2 ⟨rfl, hg⟩; obtain ⟨u2, rfl⟩ := later_of hg; clear hg)) | (go_at_call 18; (with_reducible refine call_later (l3Of_any _ _ _ _) ?_); intro uo) | (go_at_call 19; (with_reducible refine call_later (l3Point_any _ _) ?_); intro up) | ((with_reducible refine wpList_built ?_ ?_ ?_ ?_ ?_ ?_ ?_ ?_ ?_); rotate_left 4; (· rfl); (· rfl); (· rfl); (· infer_instance)) | ((with_reducible refine wpList_load_rng ?_ ?_ ?_ ?_ ?_ ?_ ?_ ?_ ?_ ?_ ?_ ?_); rotate_left 6; (· rfl); (· rfl); (· rfl); (· infer_instance); (· infer_instance)) | ((with_reducible refine wpList_load_is ?_ ?_ ?_ ?_ ?_ ?_ ?_ ?_ ?_ ?_ ?_ ?_ ?_); rotate_left 6; (· rfl); (· rfl); (· rfl); (· infer_instance); (· infer_instance); (· rfl)) | ((with_reducible refine wpList_store_fresh ?_ ?_ ?_ ?_ ?_ ?_ ?_ ?_ ?_ ?_ ?_ ?_ ?_ ?_ ?_ ?_ ?_); rotate_left 5; (· rfl); (· rfl); (· rfl); (· rfl); (· rfl); (· infer_instance); (· infer_instance); (· infer_instance); (· infer_instance)) | ((with_reducible refine wpList_store_is ?_ ?_ ?_ ?_ ?_ ?_ ?_ ?_ ?_ ?_ ?_ ?_ ?_ ?_ ?_ ?_ ?_); rotate_left 7; (· rfl); (· rfl); (· rfl); (· rfl); (· rfl); (· infer_instance); (· infer_instance); (· infer_instance); (· infer_instance)))
      refine wp_named (fun Y => RowIs Y bP 55 exPl.cells ∧ RowIs Y (bP + 1) 58 flowA.cells ∧ RowIs Y bS 43 [.int .i64 0, .int .i64 0, .int .i64 0, .int .i64 0, .int .i64 0, .int .i64 0, .int .i64 0, .int .i64 4294967296, .int .i64 4294967296, .int .i64 0, .int .i64 0, .int .i64 4294967296, .int .i64 4294967296, .int .i64 4294967296, .int .i64 4294967296] ∧ RowIs Y bF 41 [.int .i64 0, .int .i64 0, .int .i64 0, .int .i64 0, .int .i64 (-33554432), .int .i64 (-33554432)] ∧ RowIs Y bC 39 [.int .i64 21474836480, .int .i64 21474836480] ∧ Grew w Y) ⟨inferInstance, inferInstance, inferInstance, inferInstance, inferInstance, gwr⟩ ?_
      clear iP iA iS iF iC rP rA rS rF rC
      rintro Yw ⟨rP, rA, rS, rF, rC, gY⟩
      obtain ⟨Y8, rfl⟩ := later_of gY
      clear gY
      have iP := rP.blockIn
      have iA := rA.blockIn
      have iS := rS.blockIn
      have iF := rF.blockIn
      have iC := rC.blockIn
      go_cut [27] (fun q wx => q = .int .i64 10 ∧ RowIs wx bF 41 [.int .i64 0, .int .i64 0, .int .i64 0, .int .i64 0, .int .i64 (-33554432), .int .i64 (-33554432)] ∧ RowIs wx bC 39 [.int .i64 21474836480, .int .i64 21474836480] ∧ Grew w wx)
      case first =>
        as_aux_lemma =>
          go_region_with (first | (go_at_call 19; (with_reducible refine call_later (l3Point_any _ _) ?_); intro up) | (go_at_call 20; go_loud (refine (nmForce2_any _).mono ?_; rintro en w2 ⟨rfl, hg⟩; obtain ⟨u2, rfl⟩ := later_of hg; clear hg)))
          all_goals (as_aux_lemma => go_wp2; go_meet; (case rel => exact ⟨rfl, inferInstance, inferInstance, gwr⟩))
      case rest =>
        as_aux_lemma =>
          clear iP iA iS iF iC rP rA rS rF rC
          obtain ⟨rfl, rF, rC, gY⟩ := hcut
          obtain ⟨Y9, rfl⟩ := later_of gY
          clear gY
          have iF := rF.blockIn
          have iC := rC.blockIn
          have hEq := eqBoxT
          go_wp2_with (first | (go_at_call 18; (with_reducible refine call_later (l3Of_any _ _ _ _) ?_); intro u) | (go_at_call 19; (with_reducible refine call_later (l3Point_any _ _) ?_); intro u) | (go_at_call 25; (with_reducible refine call_later (l3Alive_any _) ?_); intro u) | ((with_reducible refine wp_region_later ?_ ?_ ?_); (· kernel_rfl); (· kernel_rfl); (try simp only [List.append_eq, List.cons_append, List.nil_append]); (repeat (go_big_quiet_step ((first | (go_at_call 18; (with_reducible exact call_quiet (l3Of_any _ _ _ _))) | (go_at_call 19; (with_reducible exact call_quiet (l3Point_any _ _))) | (go_at_call 25; (with_reducible exact call_quiet (l3Alive_any _))))))); refine wpQuiet_nil ?_; rintro _ ⟨u, rfl⟩))
          go_ret
          exact ⟨rfl, gwr⟩
end Go.Proofs.Ytkeifgcncmilmaa
