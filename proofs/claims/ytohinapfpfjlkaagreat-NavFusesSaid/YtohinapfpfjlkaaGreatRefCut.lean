/-
  Contracts of ullageref06.cut, Cut.
-/
import Derived.Test.YtohinapfpfjlkaaGreatRefDist
import Derived.Test.YtohinapfpfjlkaaGreatNavCutAll
namespace Go.Proofs.YtohinapfpfjlkaaGreat
open Go.RowKit Go.Shelf
set_option maxRecDepth 100000
set_option maxHeartbeats 16000000
def rfN (s : State) (m : Radio) : Res := doR (aw2 0 s.p m.place).e (normR (awC 0 s.p m.place).list)
def rfM (s : State) (m : Radio) : Res := doR (rfN s m).e (mulR m.value (rfN s m).s)
theorem sum_first {e : Int} (a x : Bx) (r : Sp) (h : e ≠ 0) : (sumM e a x r).e = e := sumM_round (e := e) (a := a) (x := x) (r := r) 0 (by omega) h
/-- A cut by a rate: both say the same. -/
theorem rate_same (s : State) (m : Radio) : (sumM (rfM s m).e (awC 0 s.p m.place) s.v (rfM s m).s).e = rateE s m ∧
    (rateE s m = 0 → (sumTo (rfM s m).e (awC 0 s.p m.place) s.v (rfM s m).s 3).1 = (sumTo 0 (rateD s m) s.v (rateM s m).s 3).1) := by
  by_cases h0 : awayE s.p m.place = 0
  · obtain ⟨g1, g2⟩ := aw_good h0
    have eN : rfN s m = rateN s m := by unfold rfN rateN rateD; rw [g1, g2]; rfl
    by_cases h1 : (rateN s m).e = 0
    · have eM : rfM s m = rateM s m := by unfold rfM rateM; rw [eN, h1]; rfl
      by_cases h2 : (rateM s m).e = 0
      · have eE : rateE s m = (sumM 0 (rateD s m) s.v (rateM s m).s).e := by unfold rateE; rw [if_neg (fun k => k h0), if_neg (fun k => k h1), if_neg (fun k => k h2)]
        rw [eM, g2, h2, eE]
        exact ⟨rfl, fun _ => rfl⟩
      · have eE : rateE s m = (rateM s m).e := by unfold rateE; rw [if_neg (fun k => k h0), if_neg (fun k => k h1), if_pos h2]
        rw [eM, eE]
        exact ⟨sum_first _ _ _ h2, fun h => absurd h h2⟩
    · have eE : rateE s m = (rateN s m).e := by unfold rateE; rw [if_neg (fun k => k h0), if_pos h1]
      have eM : (rfM s m).e = (rateN s m).e := by unfold rfM; rw [eN]; exact doR_keep _ h1
      rw [eM, eE]
      exact ⟨sum_first _ _ _ h1, fun h => absurd h h1⟩
  · have eE : rateE s m = awayE s.p m.place := by unfold rateE; rw [if_pos h0]
    have eA : (aw2 0 s.p m.place).e = awayE s.p m.place := aw_e _ _
    have eN : (rfN s m).e = awayE s.p m.place := by unfold rfN; rw [eA]; exact doR_keep _ h0
    have eM : (rfM s m).e = awayE s.p m.place := by unfold rfM; rw [doR_keep _ (by rw [eN]; exact h0), eN]
    rw [eM, eE]
    exact ⟨sum_first _ _ _ h0, fun h => absurd h h0⟩
theorem r6Cut0_any (s : State) (m : Radio) [hp : B64 s.p] [hf : B64 m.place] [hv : S64 m.value] (hk : m.kind = 0) (w : World) : Calls Tryz.prog 32 #[.agg #[.int .i64 s.t, .int .i64 s.p.x.lo, .int .i64 s.p.x.hi, .int .i64 s.p.y.lo, .int .i64 s.p.y.hi, .int .i64 s.p.z.lo, .int .i64 s.p.z.hi, .int .i64 s.v.x.lo, .int .i64 s.v.x.hi, .int .i64 s.v.y.lo, .int .i64 s.v.y.hi, .int .i64 s.v.z.lo, .int .i64 s.v.z.hi, .int .i64 s.m.lo, .int .i64 s.m.hi], .agg #[.int .i64 m.kind, .int .i64 m.place.x.lo, .int .i64 m.place.x.hi, .int .i64 m.place.y.lo, .int .i64 m.place.y.hi, .int .i64 m.place.z.lo, .int .i64 m.place.z.hi, .int .i64 m.dir.x.lo, .int .i64 m.dir.x.hi, .int .i64 m.dir.y.lo, .int .i64 m.dir.y.hi, .int .i64 m.dir.z.lo, .int .i64 m.dir.z.hi, .int .i64 m.value.lo, .int .i64 m.value.hi]] w (RetT (cutR s m) w) := by
  have hE : cutE s m = (diTo s.p m.place m.value 3).e := by unfold cutE; rw [if_pos hk]
  have hS : (diTo s.p m.place m.value 3).e = 0 → cutS s m = { s with p := (diTo s.p m.place m.value 3).pl } := fun _ => by unfold cutS; rw [if_pos hk]
  have H1 := Lib.hid (fun w' hc hf => r6Distance_any (w.heap.size + 1 + 1 + 1) s.p m.place m.value w' hc hf)
  by_cases hz : (diTo s.p m.place m.value 3).e = 0
  · have HQ := Lib.hid (show (⟨{ s with p := (diTo s.p m.place m.value 3).pl }, 0⟩ : ResT) = cutR s m by rw [← cutR_ok (by rw [hE]; exact hz), hS hz])
    have hz' : ((diTo s.p m.place m.value 3).e != 0) = false := by simp [hz]
    clear hz hE hS
    go_enter Tryz.func32, Tryz.ntmps32
    go_wp2_with (go_at_call 91; (with_reducible refine call_calc (H1.out _ ?_ ?_) ?_); (· go_simp); (· go_simp); intro u1)
    refine bodyPost_ret (by (simp [results, Tryz.results32, go_sem] <;> rfl)) rfl ?_
    exact ⟨ret_t HQ.out, (by repeat (first | with_reducible exact Grew.refl _ | with_reducible apply Grew.alloc | with_reducible apply Grew.later | with_reducible apply Grew.drew | with_reducible apply Grew.store | with_reducible assumption))⟩
  · have HQ := Lib.hid (show errT (diTo s.p m.place m.value 3).e = cutR s m by rw [← hE]; exact cutR_no (by rw [hE]; exact hz))
    have hz' : ((diTo s.p m.place m.value 3).e != 0) = true := by simp [hz]
    clear hz hE hS
    go_enter Tryz.func32, Tryz.ntmps32
    go_wp2_with (go_at_call 91; (with_reducible refine call_calc (H1.out _ ?_ ?_) ?_); (· go_simp); (· go_simp); intro u1)
    go_region
    all_goals go_wp2
    all_goals
      refine bodyPost_ret (by (simp [results, Tryz.results32, go_sem] <;> rfl)) rfl ?_
      exact ⟨ret_t HQ.out, (by repeat (first | with_reducible exact Grew.refl _ | with_reducible apply Grew.alloc | with_reducible apply Grew.later | with_reducible apply Grew.drew | with_reducible apply Grew.store | with_reducible assumption))⟩
theorem r6Cut2_any (s : State) (m : Radio) [hp : B64 s.p] [hf : B64 m.dir] [hv : S64 m.value] (hk : m.kind = 2) (w : World) : Calls Tryz.prog 32 #[.agg #[.int .i64 s.t, .int .i64 s.p.x.lo, .int .i64 s.p.x.hi, .int .i64 s.p.y.lo, .int .i64 s.p.y.hi, .int .i64 s.p.z.lo, .int .i64 s.p.z.hi, .int .i64 s.v.x.lo, .int .i64 s.v.x.hi, .int .i64 s.v.y.lo, .int .i64 s.v.y.hi, .int .i64 s.v.z.lo, .int .i64 s.v.z.hi, .int .i64 s.m.lo, .int .i64 s.m.hi], .agg #[.int .i64 m.kind, .int .i64 m.place.x.lo, .int .i64 m.place.x.hi, .int .i64 m.place.y.lo, .int .i64 m.place.y.hi, .int .i64 m.place.z.lo, .int .i64 m.place.z.hi, .int .i64 m.dir.x.lo, .int .i64 m.dir.x.hi, .int .i64 m.dir.y.lo, .int .i64 m.dir.y.hi, .int .i64 m.dir.z.lo, .int .i64 m.dir.z.hi, .int .i64 m.value.lo, .int .i64 m.value.hi]] w (RetT (cutR s m) w) := by
  have hE : cutE s m = (sumM 0 m.dir s.p m.value).e := by unfold cutE; rw [if_neg (by omega), if_neg (by omega), if_pos hk]
  have hS : (sumM 0 m.dir s.p m.value).e = 0 → cutS s m = { s with p := (sumTo 0 m.dir s.p m.value 3).1 } := fun _ => by unfold cutS; rw [if_neg (by omega), if_neg (by omega), if_pos hk]
  have H1 := Lib.hid (fun w' hc hf => r6Sum_any (w.heap.size + 1 + 1 + 1) 0 m.dir s.p m.value w' hc hf)
  by_cases hz : (sumM 0 m.dir s.p m.value).e = 0
  · have HQ := Lib.hid (show (⟨{ s with p := (sumTo 0 m.dir s.p m.value 3).1 }, 0⟩ : ResT) = cutR s m by rw [← cutR_ok (by rw [hE]; exact hz), hS hz])
    have hz' : ((sumM 0 m.dir s.p m.value).e != 0) = false := by simp [hz]
    clear hz hE hS
    go_enter Tryz.func32, Tryz.ntmps32
    go_wp2_with (go_at_call 93; (with_reducible refine call_calc (H1.out _ ?_ ?_) ?_); (· go_simp); (· go_simp); intro u1)
    refine bodyPost_ret (by (simp [results, Tryz.results32, go_sem] <;> rfl)) rfl ?_
    exact ⟨ret_t HQ.out, (by repeat (first | with_reducible exact Grew.refl _ | with_reducible apply Grew.alloc | with_reducible apply Grew.later | with_reducible apply Grew.drew | with_reducible apply Grew.store | with_reducible assumption))⟩
  · have HQ := Lib.hid (show errT (sumM 0 m.dir s.p m.value).e = cutR s m by rw [← hE]; exact cutR_no (by rw [hE]; exact hz))
    have hz' : ((sumM 0 m.dir s.p m.value).e != 0) = true := by simp [hz]
    clear hz hE hS
    go_enter Tryz.func32, Tryz.ntmps32
    go_wp2_with (go_at_call 93; (with_reducible refine call_calc (H1.out _ ?_ ?_) ?_); (· go_simp); (· go_simp); intro u1)
    go_region
    all_goals go_wp2
    all_goals
      refine bodyPost_ret (by (simp [results, Tryz.results32, go_sem] <;> rfl)) rfl ?_
      exact ⟨ret_t HQ.out, (by repeat (first | with_reducible exact Grew.refl _ | with_reducible apply Grew.alloc | with_reducible apply Grew.later | with_reducible apply Grew.drew | with_reducible apply Grew.store | with_reducible assumption))⟩
theorem r6Cut3_any (s : State) (m : Radio) [hp : B64 s.v] [hf : B64 m.dir] [hv : S64 m.value] (hk : m.kind = 3) (w : World) : Calls Tryz.prog 32 #[.agg #[.int .i64 s.t, .int .i64 s.p.x.lo, .int .i64 s.p.x.hi, .int .i64 s.p.y.lo, .int .i64 s.p.y.hi, .int .i64 s.p.z.lo, .int .i64 s.p.z.hi, .int .i64 s.v.x.lo, .int .i64 s.v.x.hi, .int .i64 s.v.y.lo, .int .i64 s.v.y.hi, .int .i64 s.v.z.lo, .int .i64 s.v.z.hi, .int .i64 s.m.lo, .int .i64 s.m.hi], .agg #[.int .i64 m.kind, .int .i64 m.place.x.lo, .int .i64 m.place.x.hi, .int .i64 m.place.y.lo, .int .i64 m.place.y.hi, .int .i64 m.place.z.lo, .int .i64 m.place.z.hi, .int .i64 m.dir.x.lo, .int .i64 m.dir.x.hi, .int .i64 m.dir.y.lo, .int .i64 m.dir.y.hi, .int .i64 m.dir.z.lo, .int .i64 m.dir.z.hi, .int .i64 m.value.lo, .int .i64 m.value.hi]] w (RetT (cutR s m) w) := by
  have hE : cutE s m = (sumM 0 m.dir s.v m.value).e := by unfold cutE; rw [if_neg (by omega), if_neg (by omega), if_neg (by omega)]
  have hS : (sumM 0 m.dir s.v m.value).e = 0 → cutS s m = { s with v := (sumTo 0 m.dir s.v m.value 3).1 } := fun _ => by unfold cutS; rw [if_neg (by omega), if_neg (by omega), if_neg (by omega)]
  have H1 := Lib.hid (fun w' hc hf => r6Sum_any (w.heap.size + 1 + 1 + 1) 0 m.dir s.v m.value w' hc hf)
  by_cases hz : (sumM 0 m.dir s.v m.value).e = 0
  · have HQ := Lib.hid (show (⟨{ s with v := (sumTo 0 m.dir s.v m.value 3).1 }, 0⟩ : ResT) = cutR s m by rw [← cutR_ok (by rw [hE]; exact hz), hS hz])
    have hz' : ((sumM 0 m.dir s.v m.value).e != 0) = false := by simp [hz]
    clear hz hE hS
    go_enter Tryz.func32, Tryz.ntmps32
    go_wp2_with (go_at_call 93; (with_reducible refine call_calc (H1.out _ ?_ ?_) ?_); (· go_simp); (· go_simp); intro u1)
    refine bodyPost_ret (by (simp [results, Tryz.results32, go_sem] <;> rfl)) rfl ?_
    exact ⟨ret_t HQ.out, (by repeat (first | with_reducible exact Grew.refl _ | with_reducible apply Grew.alloc | with_reducible apply Grew.later | with_reducible apply Grew.drew | with_reducible apply Grew.store | with_reducible assumption))⟩
  · have HQ := Lib.hid (show errT (sumM 0 m.dir s.v m.value).e = cutR s m by rw [← hE]; exact cutR_no (by rw [hE]; exact hz))
    have hz' : ((sumM 0 m.dir s.v m.value).e != 0) = true := by simp [hz]
    clear hz hE hS
    go_enter Tryz.func32, Tryz.ntmps32
    go_wp2_with (go_at_call 93; (with_reducible refine call_calc (H1.out _ ?_ ?_) ?_); (· go_simp); (· go_simp); intro u1)
    go_region
    all_goals go_wp2
    all_goals
      refine bodyPost_ret (by (simp [results, Tryz.results32, go_sem] <;> rfl)) rfl ?_
      exact ⟨ret_t HQ.out, (by repeat (first | with_reducible exact Grew.refl _ | with_reducible apply Grew.alloc | with_reducible apply Grew.later | with_reducible apply Grew.drew | with_reducible apply Grew.store | with_reducible assumption))⟩
theorem r6Cut1_any (s : State) (m : Radio) [hp : B64 s.p] [hq : B64 s.v] [hf : B64 m.place] [hv : S64 m.value] (hk : m.kind = 1) (w : World) : Calls Tryz.prog 32 #[.agg #[.int .i64 s.t, .int .i64 s.p.x.lo, .int .i64 s.p.x.hi, .int .i64 s.p.y.lo, .int .i64 s.p.y.hi, .int .i64 s.p.z.lo, .int .i64 s.p.z.hi, .int .i64 s.v.x.lo, .int .i64 s.v.x.hi, .int .i64 s.v.y.lo, .int .i64 s.v.y.hi, .int .i64 s.v.z.lo, .int .i64 s.v.z.hi, .int .i64 s.m.lo, .int .i64 s.m.hi], .agg #[.int .i64 m.kind, .int .i64 m.place.x.lo, .int .i64 m.place.x.hi, .int .i64 m.place.y.lo, .int .i64 m.place.y.hi, .int .i64 m.place.z.lo, .int .i64 m.place.z.hi, .int .i64 m.dir.x.lo, .int .i64 m.dir.x.hi, .int .i64 m.dir.y.lo, .int .i64 m.dir.y.hi, .int .i64 m.dir.z.lo, .int .i64 m.dir.z.hi, .int .i64 m.value.lo, .int .i64 m.value.hi]] w (RetT (cutR s m) w) := by
  have hr := rate_same s m
  have hE : cutE s m = (sumM (rfM s m).e (awC 0 s.p m.place) s.v (rfM s m).s).e := by rw [hr.1]; unfold cutE; rw [if_neg (by omega), if_pos hk]
  have hS : (sumM (rfM s m).e (awC 0 s.p m.place) s.v (rfM s m).s).e = 0 → cutS s m = { s with v := (sumTo (rfM s m).e (awC 0 s.p m.place) s.v (rfM s m).s 3).1 } := fun h => by rw [hr.2 (by rw [← hr.1]; exact h)]; unfold cutS; rw [if_neg (by omega), if_pos hk]
  have sN : S64 (rfN s m).s := by unfold rfN; infer_instance
  have sM : S64 (rfM s m).s := by unfold rfM; infer_instance
  have H0 := Lib.hid (fun w' hc hf => r6Away_any (w.heap.size + 1 + 1 + 1) 0 s.p m.place w' hc hf)
  have H2 := Lib.hid (fun w' hc hf => show Calls Tryz.prog 40 #[.pointer (some ⟨w.heap.size + 1 + 1 + 1, 0, none⟩), .agg #[.int .i64 ((awC 0 s.p m.place)).x.lo, .int .i64 ((awC 0 s.p m.place)).x.hi, .int .i64 ((awC 0 s.p m.place)).y.lo, .int .i64 ((awC 0 s.p m.place)).y.hi, .int .i64 ((awC 0 s.p m.place)).z.lo, .int .i64 ((awC 0 s.p m.place)).z.hi]] w' (RetC (w.heap.size + 1 + 1 + 1) (.agg #[.int .i64 ((rfN s m).s).lo, .int .i64 ((rfN s m).s).hi]) (rfN s m).e w') from rcNorm_any _ (aw2 0 s.p m.place).e (awC 0 s.p m.place) w' hc hf)
  have H3 := Lib.hid (fun w' hc hf => show Calls Tryz.prog 56 #[.pointer (some ⟨w.heap.size + 1 + 1 + 1, 0, none⟩), .agg #[.int .i64 m.value.lo, .int .i64 m.value.hi], .agg #[.int .i64 ((rfN s m).s).lo, .int .i64 ((rfN s m).s).hi]] w' (RetC (w.heap.size + 1 + 1 + 1) (.agg #[.int .i64 ((rfM s m).s).lo, .int .i64 ((rfM s m).s).hi]) (rfM s m).e w') from rcMul_any _ (rfN s m).e m.value (rfN s m).s w' hc hf)
  have H4 := Lib.hid (fun w' hc hf => r6Sum_any (w.heap.size + 1 + 1 + 1) (rfM s m).e (awC 0 s.p m.place) s.v (rfM s m).s w' hc hf)
  clear hr
  by_cases hz : (sumM (rfM s m).e (awC 0 s.p m.place) s.v (rfM s m).s).e = 0
  · have HQ := Lib.hid (show (⟨{ s with v := (sumTo (rfM s m).e (awC 0 s.p m.place) s.v (rfM s m).s 3).1 }, 0⟩ : ResT) = cutR s m by rw [← cutR_ok (by rw [hE]; exact hz), hS hz])
    have hz' : ((sumM (rfM s m).e (awC 0 s.p m.place) s.v (rfM s m).s).e != 0) = false := by simp [hz]
    clear hz hE hS
    go_enter Tryz.func32, Tryz.ntmps32
    go_wp2_with (go_at_call 92; (with_reducible refine call_calc (H0.out _ ?_ ?_) ?_); (· go_simp); (· go_simp); intro u0)
    refine wp_region_calc (w.heap.size + 1 + 1 + 1) [(aw2 0 s.p m.place).e, (rfN s m).e, (rfM s m).e, (sumM (rfM s m).e (awC 0 s.p m.place) s.v (rfM s m).s).e] 13 [] [9, 10, 11] [] (fun W0 => []) [.agg #[.int .i64 ((rfN s m).s).lo, .int .i64 ((rfN s m).s).hi], .agg #[.int .i64 ((rfM s m).s).lo, .int .i64 ((rfM s m).s).hi], .agg #[.int .i64 ((sumTo (rfM s m).e (awC 0 s.p m.place) s.v (rfM s m).s 3).1).x.lo, .int .i64 ((sumTo (rfM s m).e (awC 0 s.p m.place) s.v (rfM s m).s 3).1).x.hi, .int .i64 ((sumTo (rfM s m).e (awC 0 s.p m.place) s.v (rfM s m).s 3).1).y.lo, .int .i64 ((sumTo (rfM s m).e (awC 0 s.p m.place) s.v (rfM s m).s 3).1).y.hi, .int .i64 ((sumTo (rfM s m).e (awC 0 s.p m.place) s.v (rfM s m).s 3).1).z.lo, .int .i64 ((sumTo (rfM s m).e (awC 0 s.p m.place) s.v (rfM s m).s 3).1).z.hi]] [13] (by rfl) (by go_simp) (by go_simp) (fun _ _ x hx => absurd hx (List.not_mem_nil)) (by kernel_rfl) (by kernel_rfl) (by kernel_rfl) ?_
    intro pz hd0
    apply Exists.intro
    apply And.intro
    apply lexc_pure hd0 (by kernel_rfl)
    · intro uz xc; unfold opPure; go_simp; rfl
    apply lexc_pure hd0 (by kernel_rfl)
    · intro uz xc; unfold opPure; go_simp; rfl
    apply lexc_pure hd0 (by kernel_rfl)
    · intro uz xc; unfold opPure; go_simp; rfl
    apply lexc_pure hd0 (by kernel_rfl)
    · intro uz xc; unfold opPure; go_simp; rfl
    apply lexc_pure hd0 (by kernel_rfl)
    · intro uz xc; unfold opPure; go_simp; rfl
    apply lexc_pure hd0 (by kernel_rfl)
    · intro uz xc; unfold opPure; go_simp; rfl
    apply lexc_pure hd0 (by kernel_rfl)
    · intro uz xc; unfold opPure; go_simp; rfl
    apply lexc_pure hd0 (by kernel_rfl)
    · intro uz xc; unfold opPure; go_simp; rfl
    apply lexc_pure hd0 (by kernel_rfl)
    · intro uz xc; unfold opPure; go_simp; rfl
    apply lexc_call hd0 0 (by kernel_rfl) (by rfl) (by decide)
    · intro uz hfz hF; clear hF; unfold opCall; go_simp; exact H2.out _ (by go_simp) hfz
    apply lexc_call hd0 1 (by kernel_rfl) (by rfl) (by decide)
    · intro uz hfz hF; clear hF; unfold opCall; go_simp; exact H3.out _ (by go_simp) hfz
    apply lexc_call hd0 2 (by kernel_rfl) (by rfl) (by decide)
    · intro uz hfz hF; clear hF; unfold opCall; go_simp; exact H4.out _ (by go_simp) hfz
    apply lexc_pure hd0 (by kernel_rfl)
    · intro uz xc; unfold opPure; go_simp; rfl
    apply lexc_end
    rotate_left
    · rfl
    intro uz hR hD hfz
    clear hR hD
    refine tail_store (by rfl) ?_; unfold opStore; go_simp
    refine tail_end ?_
    go_wp2
    refine bodyPost_ret (by (simp [results, Tryz.results32, go_sem] <;> rfl)) rfl ?_
    exact ⟨ret_t HQ.out, (by repeat (first | with_reducible exact Grew.refl _ | with_reducible apply Grew.alloc | with_reducible apply Grew.later | with_reducible apply Grew.drew | with_reducible apply Grew.store | with_reducible assumption))⟩
  · have HQ := Lib.hid (show errT (sumM (rfM s m).e (awC 0 s.p m.place) s.v (rfM s m).s).e = cutR s m by rw [← hE]; exact cutR_no (by rw [hE]; exact hz))
    have hz' : ((sumM (rfM s m).e (awC 0 s.p m.place) s.v (rfM s m).s).e != 0) = true := by simp [hz]
    clear hz hE hS
    go_enter Tryz.func32, Tryz.ntmps32
    go_wp2_with (go_at_call 92; (with_reducible refine call_calc (H0.out _ ?_ ?_) ?_); (· go_simp); (· go_simp); intro u0)
    refine wp_region_calc (w.heap.size + 1 + 1 + 1) [(aw2 0 s.p m.place).e, (rfN s m).e, (rfM s m).e, (sumM (rfM s m).e (awC 0 s.p m.place) s.v (rfM s m).s).e] 13 [] [9, 10, 11] [] (fun W0 => []) [.agg #[.int .i64 ((rfN s m).s).lo, .int .i64 ((rfN s m).s).hi], .agg #[.int .i64 ((rfM s m).s).lo, .int .i64 ((rfM s m).s).hi], .agg #[.int .i64 ((sumTo (rfM s m).e (awC 0 s.p m.place) s.v (rfM s m).s 3).1).x.lo, .int .i64 ((sumTo (rfM s m).e (awC 0 s.p m.place) s.v (rfM s m).s 3).1).x.hi, .int .i64 ((sumTo (rfM s m).e (awC 0 s.p m.place) s.v (rfM s m).s 3).1).y.lo, .int .i64 ((sumTo (rfM s m).e (awC 0 s.p m.place) s.v (rfM s m).s 3).1).y.hi, .int .i64 ((sumTo (rfM s m).e (awC 0 s.p m.place) s.v (rfM s m).s 3).1).z.lo, .int .i64 ((sumTo (rfM s m).e (awC 0 s.p m.place) s.v (rfM s m).s 3).1).z.hi]] [13] (by rfl) (by go_simp) (by go_simp) (fun _ _ x hx => absurd hx (List.not_mem_nil)) (by kernel_rfl) (by kernel_rfl) (by kernel_rfl) ?_
    intro pz hd0
    apply Exists.intro
    apply And.intro
    apply lexc_pure hd0 (by kernel_rfl)
    · intro uz xc; unfold opPure; go_simp; rfl
    apply lexc_pure hd0 (by kernel_rfl)
    · intro uz xc; unfold opPure; go_simp; rfl
    apply lexc_pure hd0 (by kernel_rfl)
    · intro uz xc; unfold opPure; go_simp; rfl
    apply lexc_pure hd0 (by kernel_rfl)
    · intro uz xc; unfold opPure; go_simp; rfl
    apply lexc_pure hd0 (by kernel_rfl)
    · intro uz xc; unfold opPure; go_simp; rfl
    apply lexc_pure hd0 (by kernel_rfl)
    · intro uz xc; unfold opPure; go_simp; rfl
    apply lexc_pure hd0 (by kernel_rfl)
    · intro uz xc; unfold opPure; go_simp; rfl
    apply lexc_pure hd0 (by kernel_rfl)
    · intro uz xc; unfold opPure; go_simp; rfl
    apply lexc_pure hd0 (by kernel_rfl)
    · intro uz xc; unfold opPure; go_simp; rfl
    apply lexc_call hd0 0 (by kernel_rfl) (by rfl) (by decide)
    · intro uz hfz hF; clear hF; unfold opCall; go_simp; exact H2.out _ (by go_simp) hfz
    apply lexc_call hd0 1 (by kernel_rfl) (by rfl) (by decide)
    · intro uz hfz hF; clear hF; unfold opCall; go_simp; exact H3.out _ (by go_simp) hfz
    apply lexc_call hd0 2 (by kernel_rfl) (by rfl) (by decide)
    · intro uz hfz hF; clear hF; unfold opCall; go_simp; exact H4.out _ (by go_simp) hfz
    apply lexc_pure hd0 (by kernel_rfl)
    · intro uz xc; unfold opPure; go_simp; rfl
    apply lexc_end
    rotate_left
    · rfl
    intro uz hR hD hfz
    clear hR hD
    refine tail_store (by rfl) ?_; unfold opStore; go_simp
    refine tail_end ?_
    go_wp2
    go_region
    all_goals go_wp2
    all_goals
      refine bodyPost_ret (by (simp [results, Tryz.results32, go_sem] <;> rfl)) rfl ?_
      exact ⟨ret_t HQ.out, (by repeat (first | with_reducible exact Grew.refl _ | with_reducible apply Grew.alloc | with_reducible apply Grew.later | with_reducible apply Grew.drew | with_reducible apply Grew.store | with_reducible assumption))⟩
theorem r6Cut_any (s : State) (m : Radio) [hp : B64 s.p] [hq : B64 s.v] [hf : B64 m.place] [hd : B64 m.dir] [hv : S64 m.value] (h0 : 0 ≤ m.kind) (h1 : m.kind ≤ 3) (w : World) : Calls Tryz.prog 32 #[.agg #[.int .i64 s.t, .int .i64 s.p.x.lo, .int .i64 s.p.x.hi, .int .i64 s.p.y.lo, .int .i64 s.p.y.hi, .int .i64 s.p.z.lo, .int .i64 s.p.z.hi, .int .i64 s.v.x.lo, .int .i64 s.v.x.hi, .int .i64 s.v.y.lo, .int .i64 s.v.y.hi, .int .i64 s.v.z.lo, .int .i64 s.v.z.hi, .int .i64 s.m.lo, .int .i64 s.m.hi], .agg #[.int .i64 m.kind, .int .i64 m.place.x.lo, .int .i64 m.place.x.hi, .int .i64 m.place.y.lo, .int .i64 m.place.y.hi, .int .i64 m.place.z.lo, .int .i64 m.place.z.hi, .int .i64 m.dir.x.lo, .int .i64 m.dir.x.hi, .int .i64 m.dir.y.lo, .int .i64 m.dir.y.hi, .int .i64 m.dir.z.lo, .int .i64 m.dir.z.hi, .int .i64 m.value.lo, .int .i64 m.value.hi]] w (RetT (cutR s m) w) := by
  rcases kind_four h0 h1 with hk | hk | hk | hk
  · exact r6Cut0_any s m hk w
  · exact r6Cut1_any s m hk w
  · exact r6Cut2_any s m hk w
  · exact r6Cut3_any s m hk w
theorem r6CutT_bad1 (s : State) (m : Radio) (h1 : s.okB = false) (w : World) : Calls Tryz.prog 8 #[.agg #[.int .i64 s.t, .int .i64 s.p.x.lo, .int .i64 s.p.x.hi, .int .i64 s.p.y.lo, .int .i64 s.p.y.hi, .int .i64 s.p.z.lo, .int .i64 s.p.z.hi, .int .i64 s.v.x.lo, .int .i64 s.v.x.hi, .int .i64 s.v.y.lo, .int .i64 s.v.y.hi, .int .i64 s.v.z.lo, .int .i64 s.v.z.hi, .int .i64 s.m.lo, .int .i64 s.m.hi], .agg #[.int .i64 m.kind, .int .i64 m.place.x.lo, .int .i64 m.place.x.hi, .int .i64 m.place.y.lo, .int .i64 m.place.y.hi, .int .i64 m.place.z.lo, .int .i64 m.place.z.hi, .int .i64 m.dir.x.lo, .int .i64 m.dir.x.hi, .int .i64 m.dir.y.lo, .int .i64 m.dir.y.hi, .int .i64 m.dir.z.lo, .int .i64 m.dir.z.hi, .int .i64 m.value.lo, .int .i64 m.value.hi]] w (RetT (cutRR s m) w) := by
  have HF := Lib.hid (cutting_no (s := s) (m := m) (by rw [h1]; rfl))
  have HS2 := Lib.hid (fun w' => is_int (show codeB s.okB 2 = 2 by rw [h1]; rfl) (r3State_any s w'))
  clear h1
  generalize cutRR s m = R at *
  go_enter Tryz.func8, Tryz.ntmps8
  go_wp2_with (first | (go_at_call 30; (with_reducible refine call_later (HS2.out _) ?_); intro u) | ((with_reducible refine wp_region_later ?_ ?_ ?_); (· kernel_rfl); (· kernel_rfl); (try simp only [List.append_eq, List.cons_append, List.nil_append]); (repeat (go_big_quiet_step ((first | (go_at_call 30; (with_reducible exact call_quiet (HS2.out _))))))); refine wpQuiet_nil ?_; rintro _ ⟨u, rfl⟩))
  refine bodyPost_ret (by (simp [results, Tryz.results8, go_sem] <;> rfl)) rfl ?_
  exact ⟨ret_t HF.out, (by repeat (first | with_reducible exact Grew.refl _ | with_reducible apply Grew.alloc | with_reducible apply Grew.later | with_reducible apply Grew.drew | with_reducible apply Grew.store | with_reducible assumption))⟩
theorem r6CutT_bad2 (s : State) (m : Radio) (h1 : s.okB = true) (h2 : m.okB = false) (w : World) : Calls Tryz.prog 8 #[.agg #[.int .i64 s.t, .int .i64 s.p.x.lo, .int .i64 s.p.x.hi, .int .i64 s.p.y.lo, .int .i64 s.p.y.hi, .int .i64 s.p.z.lo, .int .i64 s.p.z.hi, .int .i64 s.v.x.lo, .int .i64 s.v.x.hi, .int .i64 s.v.y.lo, .int .i64 s.v.y.hi, .int .i64 s.v.z.lo, .int .i64 s.v.z.hi, .int .i64 s.m.lo, .int .i64 s.m.hi], .agg #[.int .i64 m.kind, .int .i64 m.place.x.lo, .int .i64 m.place.x.hi, .int .i64 m.place.y.lo, .int .i64 m.place.y.hi, .int .i64 m.place.z.lo, .int .i64 m.place.z.hi, .int .i64 m.dir.x.lo, .int .i64 m.dir.x.hi, .int .i64 m.dir.y.lo, .int .i64 m.dir.y.hi, .int .i64 m.dir.z.lo, .int .i64 m.dir.z.hi, .int .i64 m.value.lo, .int .i64 m.value.hi]] w (RetT (cutRR s m) w) := by
  have HF := Lib.hid (cutting_no (s := s) (m := m) (by rw [h2, Bool.and_false]))
  have HS2 := Lib.hid (fun w' => is_int (show codeB s.okB 2 = 0 by rw [h1]; rfl) (r3State_any s w'))
  have HR2 := Lib.hid (fun w' => is_int (show codeB m.okB 2 = 2 by rw [h2]; rfl) (r6Radio_any m w'))
  clear h1 h2
  generalize cutRR s m = R at *
  go_enter Tryz.func8, Tryz.ntmps8
  go_wp2_with (first | (go_at_call 30; (with_reducible refine call_later (HS2.out _) ?_); intro u) | (go_at_call 31; (with_reducible refine call_later (HR2.out _) ?_); intro u) | ((with_reducible refine wp_region_later ?_ ?_ ?_); (· kernel_rfl); (· kernel_rfl); (try simp only [List.append_eq, List.cons_append, List.nil_append]); (repeat (go_big_quiet_step ((first | (go_at_call 30; (with_reducible exact call_quiet (HS2.out _))) | (go_at_call 31; (with_reducible exact call_quiet (HR2.out _))))))); refine wpQuiet_nil ?_; rintro _ ⟨u, rfl⟩))
  refine bodyPost_ret (by (simp [results, Tryz.results8, go_sem] <;> rfl)) rfl ?_
  exact ⟨ret_t HF.out, (by repeat (first | with_reducible exact Grew.refl _ | with_reducible apply Grew.alloc | with_reducible apply Grew.later | with_reducible apply Grew.drew | with_reducible apply Grew.store | with_reducible assumption))⟩
theorem r6CutT_good (s : State) (m : Radio) [hp : B64 s.p] [hq : B64 s.v] [hf : B64 m.place] [hd : B64 m.dir] [hv : S64 m.value] (h1 : s.okB = true) (h2 : m.okB = true) (w : World) : Calls Tryz.prog 8 #[.agg #[.int .i64 s.t, .int .i64 s.p.x.lo, .int .i64 s.p.x.hi, .int .i64 s.p.y.lo, .int .i64 s.p.y.hi, .int .i64 s.p.z.lo, .int .i64 s.p.z.hi, .int .i64 s.v.x.lo, .int .i64 s.v.x.hi, .int .i64 s.v.y.lo, .int .i64 s.v.y.hi, .int .i64 s.v.z.lo, .int .i64 s.v.z.hi, .int .i64 s.m.lo, .int .i64 s.m.hi], .agg #[.int .i64 m.kind, .int .i64 m.place.x.lo, .int .i64 m.place.x.hi, .int .i64 m.place.y.lo, .int .i64 m.place.y.hi, .int .i64 m.place.z.lo, .int .i64 m.place.z.hi, .int .i64 m.dir.x.lo, .int .i64 m.dir.x.hi, .int .i64 m.dir.y.lo, .int .i64 m.dir.y.hi, .int .i64 m.dir.z.lo, .int .i64 m.dir.z.hi, .int .i64 m.value.lo, .int .i64 m.value.hi]] w (RetT (cutRR s m) w) := by
  have HS2 := Lib.hid (fun w' => is_int (show codeB s.okB 2 = 0 by rw [h1]; rfl) (r3State_any s w'))
  have HR2 := Lib.hid (fun w' => is_int (show codeB m.okB 2 = 0 by rw [h2]; rfl) (r6Radio_any m w'))
  have hk := radio_kind h2
  have HC := Lib.hid (fun w => show Calls Tryz.prog 32 #[.agg #[.int .i64 s.t, .int .i64 s.p.x.lo, .int .i64 s.p.x.hi, .int .i64 s.p.y.lo, .int .i64 s.p.y.hi, .int .i64 s.p.z.lo, .int .i64 s.p.z.hi, .int .i64 s.v.x.lo, .int .i64 s.v.x.hi, .int .i64 s.v.y.lo, .int .i64 s.v.y.hi, .int .i64 s.v.z.lo, .int .i64 s.v.z.hi, .int .i64 s.m.lo, .int .i64 s.m.hi], .agg #[.int .i64 m.kind, .int .i64 m.place.x.lo, .int .i64 m.place.x.hi, .int .i64 m.place.y.lo, .int .i64 m.place.y.hi, .int .i64 m.place.z.lo, .int .i64 m.place.z.hi, .int .i64 m.dir.x.lo, .int .i64 m.dir.x.hi, .int .i64 m.dir.y.lo, .int .i64 m.dir.y.hi, .int .i64 m.dir.z.lo, .int .i64 m.dir.z.hi, .int .i64 m.value.lo, .int .i64 m.value.hi]] w fun e w' => e = .returned (.tuple #[.agg #[.int .i64 ((cutR s m).s).t, .int .i64 ((cutR s m).s).p.x.lo, .int .i64 ((cutR s m).s).p.x.hi, .int .i64 ((cutR s m).s).p.y.lo, .int .i64 ((cutR s m).s).p.y.hi, .int .i64 ((cutR s m).s).p.z.lo, .int .i64 ((cutR s m).s).p.z.hi, .int .i64 ((cutR s m).s).v.x.lo, .int .i64 ((cutR s m).s).v.x.hi, .int .i64 ((cutR s m).s).v.y.lo, .int .i64 ((cutR s m).s).v.y.hi, .int .i64 ((cutR s m).s).v.z.lo, .int .i64 ((cutR s m).s).v.z.hi, .int .i64 ((cutR s m).s).m.lo, .int .i64 ((cutR s m).s).m.hi], .int .i64 (cutR s m).e]) ∧ Grew w w' from r6Cut_any s m hk.1 hk.2 w)
  rw [cutting_yes h1 h2]
  clear h1 h2 hk
  generalize cutR s m = R at *
  go_enter Tryz.func8, Tryz.ntmps8
  go_wp2_with (first | (go_at_call 30; (with_reducible refine call_later (HS2.out _) ?_); intro u) | (go_at_call 31; (with_reducible refine call_later (HR2.out _) ?_); intro u) | (go_at_call 32; (with_reducible refine call_later (HC.out _) ?_); intro u) | ((with_reducible refine wp_region_later ?_ ?_ ?_); (· kernel_rfl); (· kernel_rfl); (try simp only [List.append_eq, List.cons_append, List.nil_append]); (repeat (go_big_quiet_step ((first | (go_at_call 30; (with_reducible exact call_quiet (HS2.out _))) | (go_at_call 31; (with_reducible exact call_quiet (HR2.out _))) | (go_at_call 32; (with_reducible exact call_quiet (HC.out _))))))); refine wpQuiet_nil ?_; rintro _ ⟨u, rfl⟩))
  refine bodyPost_ret (by (simp [results, Tryz.results8, go_sem] <;> rfl)) rfl ?_
  exact ⟨rfl, (by repeat (first | with_reducible exact Grew.refl _ | with_reducible apply Grew.alloc | with_reducible apply Grew.later | with_reducible apply Grew.drew | with_reducible apply Grew.store | with_reducible assumption))⟩
theorem r6CutT_any (s : State) (m : Radio) [hp : B64 s.p] [hq : B64 s.v] [hf : B64 m.place] [hd : B64 m.dir] [hv : S64 m.value] (w : World) : Calls Tryz.prog 8 #[.agg #[.int .i64 s.t, .int .i64 s.p.x.lo, .int .i64 s.p.x.hi, .int .i64 s.p.y.lo, .int .i64 s.p.y.hi, .int .i64 s.p.z.lo, .int .i64 s.p.z.hi, .int .i64 s.v.x.lo, .int .i64 s.v.x.hi, .int .i64 s.v.y.lo, .int .i64 s.v.y.hi, .int .i64 s.v.z.lo, .int .i64 s.v.z.hi, .int .i64 s.m.lo, .int .i64 s.m.hi], .agg #[.int .i64 m.kind, .int .i64 m.place.x.lo, .int .i64 m.place.x.hi, .int .i64 m.place.y.lo, .int .i64 m.place.y.hi, .int .i64 m.place.z.lo, .int .i64 m.place.z.hi, .int .i64 m.dir.x.lo, .int .i64 m.dir.x.hi, .int .i64 m.dir.y.lo, .int .i64 m.dir.y.hi, .int .i64 m.dir.z.lo, .int .i64 m.dir.z.hi, .int .i64 m.value.lo, .int .i64 m.value.hi]] w (RetT (cutRR s m) w) := by
  cases h1 : s.okB
  · exact r6CutT_bad1 s m h1 w
  cases h2 : m.okB
  · exact r6CutT_bad2 s m h1 h2 w
  · exact r6CutT_good s m h1 h2 w
end Go.Proofs.YtohinapfpfjlkaaGreat
