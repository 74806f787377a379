/-
  Contracts: ullageref11's Separates.
-/
import Derived.Test.YtdanaclplmacgaaRefClear
import Derived.Test.YtdanaclplmacgaaRowIs
namespace Go.Proofs.Ytdanaclplmacgaa
open Go.RowKit Go.Shelf
set_option maxRecDepth 100000
set_option maxHeartbeats 16000000
def ns1 (e : Int) (m : Mo) (k : Int) : Res := doR e (momentR m k)
def ns2 (e : Int) (m : Mo) (k : Int) : Res := doR (ns1 e m k).e (lengthR m (ns1 e m k).s)
instance s64_ns1 (e : Int) (m : Mo) (k : Int) : S64 (ns1 e m k).s := s64_do _ _
instance s64_ns2 (e : Int) (m : Mo) (k : Int) : S64 (ns2 e m k).s := s64_do _ _
theorem ns_ok (m : Mo) (k : Int) : ns2 0 m k = nearR m k := by
  unfold ns2 nearR
  rw [show ns1 0 m k = momentR m k from doR_ok _]
theorem ns_bad {e : Int} (m : Mo) (k : Int) (h : e ≠ 0) : (ns2 e m k).e = e := by
  have h1 : (ns1 e m k).e = e := doR_e_ne _ h
  unfold ns2
  rw [h1]
  exact doR_e_ne _ h
/-- Where the rounds stand: without an error so far, or with the one that stays. -/
def SepIn (m : Mo) (keep : Int) (k : Nat) (e : Int) (b : Bool) : Prop :=
  (e = 0 → nearScan (fun k => nearR m k) keep (m.n.toNat + 1) 0 false = nearScan (fun k => nearR m k) keep (m.n.toNat + 1 - k) k b) ∧
  (e ≠ 0 → (nearScan (fun k => nearR m k) keep (m.n.toNat + 1) 0 false).2 = e)
theorem SepIn.zero (m : Mo) (keep : Int) : SepIn m keep 0 0 false := ⟨fun _ => rfl, fun h => absurd rfl h⟩
theorem nearScan_err (f : Nat → Res) (keep : Int) : ∀ (j k : Nat) (b c : Bool), (nearScan f keep j k b).2 = (nearScan f keep j k c).2
  | 0, _, _, _ => rfl
  | j + 1, k, b, c => by
    unfold nearScan
    split
    · exact nearScan_err f keep j (k + 1) _ _
    · rfl
theorem SepIn.step {m : Mo} {keep : Int} {k : Nat} {e : Int} {b : Bool} (h : SepIn m keep k e b) (hk : k < m.n.toNat + 1) : SepIn m keep (k + 1) (ns2 e m k).e (b || decide ((ns2 e m k).s.hi < keep)) := by
  have hst : nearScan (fun k => nearR m k) keep (m.n.toNat + 1 - k) k b = if (nearR m k).e = 0 then nearScan (fun k => nearR m k) keep (m.n.toNat + 1 - (k + 1)) (k + 1) (b || decide ((nearR m k).s.hi < keep)) else (false, (nearR m k).e) := by
    rw [show m.n.toNat + 1 - k = (m.n.toNat + 1 - (k + 1)) + 1 by omega]
    rfl
  by_cases he : e = 0
  · subst he
    rw [ns_ok]
    rw [← h.1 rfl] at hst
    refine ⟨fun h1 => ?_, fun h1 => ?_⟩
    · rw [hst, if_pos h1]
    · rw [hst, if_neg h1]
  · have h2 := ns_bad m k he
    exact ⟨fun h1 => absurd (h2.symm.trans h1) he, fun _ => by rw [h2]; exact h.2 he⟩
theorem rSep_end {m : Mo} {keep : Int} {k : Nat} {e : Int} {b : Bool} (h : SepIn m keep k e b) (hk : k = m.n.toNat + 1) (hok : m.okB = true) (hkp : numB keep = true) (hc : (clearR m).2 = 0) :
    sepR m keep = if e = 0 then (if keep ≤ (clearR m).1 then 1 else if b = true then -1 else 0, 0) else (0, e) := by
  unfold sepR
  rw [hok, hkp]
  simp only [Bool.and_self, if_true, if_pos hc]
  by_cases he : e = 0
  · have h1 := h.1 he
    rw [hk, show m.n.toNat + 1 - (m.n.toNat + 1) = 0 by omega] at h1
    rw [h1, if_pos he]
    show (if (0 : Int) = 0 then ((if keep ≤ (clearR m).1 then 1 else if b = true then -1 else 0 : Int), (0 : Int)) else (0, 0)) = _
    rw [if_pos rfl]
  · rw [h.2 he, if_neg he, if_neg he]
theorem rSep_any (m : Mo) (keep : Int) [hM : Mo64 m] (ht : I64 m.t) (w : World) : Calls Try.prog 65 #[.agg #[.int .i64 m.d.x.lo, .int .i64 m.d.x.hi, .int .i64 m.d.y.lo, .int .i64 m.d.y.hi, .int .i64 m.d.z.lo, .int .i64 m.d.z.hi], .agg #[.int .i64 m.w.x.lo, .int .i64 m.w.x.hi, .int .i64 m.w.y.lo, .int .i64 m.w.y.hi, .int .i64 m.w.z.lo, .int .i64 m.w.z.hi], .agg #[.int .i64 m.a.x.lo, .int .i64 m.a.x.hi, .int .i64 m.a.y.lo, .int .i64 m.a.y.hi, .int .i64 m.a.z.lo, .int .i64 m.a.z.hi], .int .i64 m.t, .int .i64 keep, .int .i64 m.n] w (RetCl (sepR m keep) w) := by
  cases hok : m.okB
  · have HR := Lib.hid (show ((0, 2) : Int × Int) = sepR m keep by unfold sepR; rw [hok]; rfl)
    go_enter Try.func65, Try.ntmps65
    go_wp2_with (first | ((with_reducible refine wpList_load_is ?_ ?_ ?_ ?_ ?_ ?_ ?_ ?_ ?_ ?_ ?_ ?_ ?_); rotate_left 6; (· rfl); (· rfl); (· rfl); (· infer_instance); (· infer_instance); (· rfl)) | (go_at_call 138; (with_reducible refine call_later (is_bool hok (rMoves_any m _)) ?_); intro u1))
    go_ret2
    exact ⟨ret_cl HR.out, (by repeat (first | with_reducible exact Grew.refl _ | with_reducible apply Grew.alloc | with_reducible apply Grew.later | with_reducible apply Grew.drew | with_reducible apply Grew.store | with_reducible assumption))⟩
  cases hk : numB keep
  · have HR := Lib.hid (show ((0, 2) : Int × Int) = sepR m keep by unfold sepR; rw [hok, hk]; rfl)
    go_enter Try.func65, Try.ntmps65
    go_wp2_with (first | ((with_reducible refine wpList_load_is ?_ ?_ ?_ ?_ ?_ ?_ ?_ ?_ ?_ ?_ ?_ ?_ ?_); rotate_left 6; (· rfl); (· rfl); (· rfl); (· infer_instance); (· infer_instance); (· rfl)) | (go_at_call 138; (with_reducible refine call_later (is_bool hok (rMoves_any m _)) ?_); intro u1) | (go_at_call 90; (with_reducible refine call_later (is_bool hk (rNumber_any keep _)) ?_); intro u2))
    go_ret2
    exact ⟨ret_cl HR.out, (by repeat (first | with_reducible exact Grew.refl _ | with_reducible apply Grew.alloc | with_reducible apply Grew.later | with_reducible apply Grew.drew | with_reducible apply Grew.store | with_reducible assumption))⟩
  have HC := Lib.hid (fun w => (show Calls Try.prog 63 #[.agg #[.int .i64 m.d.x.lo, .int .i64 m.d.x.hi, .int .i64 m.d.y.lo, .int .i64 m.d.y.hi, .int .i64 m.d.z.lo, .int .i64 m.d.z.hi], .agg #[.int .i64 m.w.x.lo, .int .i64 m.w.x.hi, .int .i64 m.w.y.lo, .int .i64 m.w.y.hi, .int .i64 m.w.z.lo, .int .i64 m.w.z.hi], .agg #[.int .i64 m.a.x.lo, .int .i64 m.a.x.hi, .int .i64 m.a.y.lo, .int .i64 m.a.y.hi, .int .i64 m.a.z.lo, .int .i64 m.a.z.hi], .int .i64 m.t, .int .i64 m.n] w fun e w' => e = .returned (.tuple #[.int .i64 (clearR m).1, .int .i64 (clearR m).2]) ∧ Grew w w' from rClear_any m ht w))
  by_cases hc : (clearR m).2 = 0
  rotate_left
  · have HR := Lib.hid (show ((0, (clearR m).2) : Int × Int) = sepR m keep by unfold sepR; rw [hok, hk]; simp only [Bool.and_self, if_true, if_neg hc])
    have t1 : ((clearR m).2 != 0) = true := by simp [hc]
    clear hc
    go_enter Try.func65, Try.ntmps65
    go_wp2_with (first | ((with_reducible refine wpList_load_is ?_ ?_ ?_ ?_ ?_ ?_ ?_ ?_ ?_ ?_ ?_ ?_ ?_); rotate_left 6; (· rfl); (· rfl); (· rfl); (· infer_instance); (· infer_instance); (· rfl)) | (go_at_call 138; (with_reducible refine call_later (is_bool hok (rMoves_any m _)) ?_); intro u1) | (go_at_call 90; (with_reducible refine call_later (is_bool hk (rNumber_any keep _)) ?_); intro u2) | (go_at_call 63; (with_reducible refine call_later (HC.out _) ?_); intro u3))
    go_ret2
    exact ⟨ret_cl HR.out, (by repeat (first | with_reducible exact Grew.refl _ | with_reducible apply Grew.alloc | with_reducible apply Grew.later | with_reducible apply Grew.drew | with_reducible apply Grew.store | with_reducible assumption))⟩
  have Hm := Lib.hid (show m.fair by
    have h := hok
    unfold Mo.okB at h
    rw [Bool.and_eq_true] at h
    exact Mo.fair_of h.2 ht)
  have HE := Lib.hid (fun (k : Nat) (e : Int) (b : Bool) (h : SepIn m keep k e b) (h1 : k = m.n.toNat + 1) => rSep_end h h1 hok hk hc)
  have t1 : ((clearR m).2 != 0) = false := by simp [hc]
  have hn1 : 1 ≤ m.n := Hm.out.2.2.1
  have hn2 : m.n ≤ 1024 := Hm.out.2.2.2
  clear hc
  go_enter Try.func65, Try.ntmps65
  go_wp2_with (first | ((with_reducible refine wpList_load_is ?_ ?_ ?_ ?_ ?_ ?_ ?_ ?_ ?_ ?_ ?_ ?_ ?_); rotate_left 6; (· rfl); (· rfl); (· rfl); (· infer_instance); (· infer_instance); (· rfl)) | (go_at_call 138; (with_reducible refine call_later (is_bool hok (rMoves_any m _)) ?_); intro u1) | (go_at_call 90; (with_reducible refine call_later (is_bool hk (rNumber_any keep _)) ?_); intro u2) | (go_at_call 63; (with_reducible refine call_later (HC.out _) ?_); intro u3))
  have nwc : NewFor w u3.world.heap.size := inferInstance
  go_loopw [18, 19] (fun v t wr => ∃ (k : Nat) (e : Int) (b : Bool), t = .int .i64 k ∧ v = .bool b ∧ (k : Int) ≤ m.n + 1 ∧ Hid (SepIn m keep k e b) ∧ Grew u3.world wr ∧ BoxAt wr u3.world.heap.size [.int .i64 e]) (fun _ t _ => m.n.toNat + 1 - (intOf t).toNat)
  case atStart => exact ⟨0, 0, false, rfl, rfl, by omega, Lib.hid (SepIn.zero m keep), (by repeat (first | with_reducible exact Grew.refl _ | with_reducible apply Grew.alloc | with_reducible apply Grew.later | with_reducible apply Grew.drew | with_reducible apply Grew.store | with_reducible assumption)), boxAt_one (by go_simp) (by go_simp)⟩
  case round =>
    obtain ⟨k, e, b, rfl, rfl, hkn, Hsc, hg, hC⟩ := hrel
    obtain ⟨z, rfl⟩ := later_of hg
    clear hg
    have hC_0 := (hC 0 _ rfl).1
    have hCf0 := (hC 0 _ rfl).2
    have hCi0 : HasCell (z.world) (u3.world.heap.size) 0 := ⟨_, hC_0⟩
    have hCb : BlockIn (z.world) (u3.world.heap.size) := BlockIn.of_cell hC_0
    clear hC
    by_cases hlt : (k : Int) < m.n + 1
    · have hN : N64 (k : Int) := ⟨by unfold I64; omega⟩
      have HA := Lib.hid (fun w hc hf => (show Calls Try.prog 140 #[.pointer (some ⟨u3.world.heap.size, 0, none⟩), .int .i64 m.t, .int .i64 (k : Int), .int .i64 m.n] w (RetC u3.world.heap.size (.agg #[.int .i64 ((ns1 e m k).s).lo, .int .i64 ((ns1 e m k).s).hi]) (ns1 e m k).e w) from rMoment_any _ e m k Hm.out w hc hf))
      have HL := Lib.hid (fun w hc hf => (show Calls Try.prog 141 #[.pointer (some ⟨u3.world.heap.size, 0, none⟩), .agg #[.int .i64 m.d.x.lo, .int .i64 m.d.x.hi, .int .i64 m.d.y.lo, .int .i64 m.d.y.hi, .int .i64 m.d.z.lo, .int .i64 m.d.z.hi], .agg #[.int .i64 m.w.x.lo, .int .i64 m.w.x.hi, .int .i64 m.w.y.lo, .int .i64 m.w.y.hi, .int .i64 m.w.z.lo, .int .i64 m.w.z.hi], .agg #[.int .i64 m.a.x.lo, .int .i64 m.a.x.hi, .int .i64 m.a.y.lo, .int .i64 m.a.y.hi, .int .i64 m.a.z.lo, .int .i64 m.a.z.hi], .agg #[.int .i64 ((ns1 e m k).s).lo, .int .i64 ((ns1 e m k).s).hi]] w (RetC u3.world.heap.size (.agg #[.int .i64 ((ns2 e m k).s).lo, .int .i64 ((ns2 e m k).s).hi]) (ns2 e m k).e w) from rLength_any _ (ns1 e m k).e m (ns1 e m k).s w hc hf))
      have Hst := Lib.hid (Hsc.out.step (by omega))
      go_wp2
      refine wp_region_calc (u3.world.heap.size) [e, (ns1 e m k).e, (ns2 e m k).e] 11 [10] [8, 9] [] (fun W0 => [(10, BoxR W0 [.int .i64 0, .int .i64 0])]) [.agg #[.int .i64 ((ns1 e m k).s).lo, .int .i64 ((ns1 e m k).s).hi], .agg #[.int .i64 ((ns2 e m k).s).lo, .int .i64 ((ns2 e m k).s).hi]] [11] (by rfl) (by go_simp) (by go_simp) (by intro W0 hW0 x hx; simp only [List.mem_cons, List.not_mem_nil, or_false] at hx; rcases hx with rfl <;> first | exact goodc_box _ _ hW0 _) (by kernel_rfl) (by kernel_rfl) (by kernel_rfl) ?_
      intro pz hd0
      apply Exists.intro
      apply And.intro
      apply lexc_pure hd0 (by kernel_rfl)
      · intro uz xc; unfold opPure; go_simp; rfl
      apply lexc_pure hd0 (by kernel_rfl)
      · intro uz xc; unfold opPure; go_simp; rfl
      apply lexc_pure hd0 (by kernel_rfl)
      · intro uz xc; unfold opPure; go_simp; rfl
      apply lexc_pure hd0 (by kernel_rfl)
      · intro uz xc; unfold opPure; go_simp; rfl
      apply lexc_pure hd0 (by kernel_rfl)
      · intro uz xc; unfold opPure; go_simp; rfl
      apply lexc_pure hd0 (by kernel_rfl)
      · intro uz xc; unfold opPure; go_simp; rfl
      apply lexc_pure hd0 (by kernel_rfl)
      · intro uz xc; unfold opPure; go_simp; rfl
      apply lexc_pure hd0 (by kernel_rfl)
      · intro uz xc; unfold opPure; go_simp; rfl
      apply lexc_call hd0 0 (by kernel_rfl) (by rfl) (by decide)
      · intro uz hfz hF; clear hF; unfold opCall; go_simp; exact HA.out _ (by go_simp) hfz
      apply lexc_call hd0 1 (by kernel_rfl) (by rfl) (by decide)
      · intro uz hfz hF; clear hF; unfold opCall; go_simp; exact HL.out _ (by go_simp) hfz
      apply lexc_make hd0 (by kernel_rfl)
      · intro uz xc hF; clear hF; unfold opMake; go_simp; refine (show Made (BoxR _ [.int .i64 0, .int .i64 0]) _ _ _ from ?_); exact madec_box _ _ _ _
      apply lexc_end
      rotate_left
      · rfl
      intro uz hR hD hfz
      obtain ⟨q10, e10, hB10, kB10, nB10⟩ := (show BoxR _ [.int .i64 0, .int .i64 0] (pz 10) _ from hR 10 (by decide))
      clear hR hD
      rw [e10]
      clear e10
      have oB10 := apart_oldL nB10
      have oC10 := apart_oldR nB10
      have hB10 := boxAt_cw hB10 hd0 nB10
      have kB10 := blockIn_cw kB10
      have hB10_0 := (hB10 0 _ rfl).1
      have hB10f0 := (hB10 0 _ rfl).2
      have hB10i0 : HasCell (uz.world) (q10) 0 := ⟨_, hB10_0⟩
      have hB10_1 := (hB10 1 _ rfl).1
      have hB10f1 := (hB10 1 _ rfl).2
      have hB10i1 : HasCell (uz.world) (q10) 1 := ⟨_, hB10_1⟩
      have hB10b : BlockIn (uz.world) (q10) := BlockIn.of_cell hB10_0
      clear hB10
      refine tail_store (by rfl) ?_; unfold opStore; go_simp
      refine tail_end ?_
      have nw10 : NewFor u3.world q10 := ⟨by have h1 := nB10.le; have h2 := Grew.size z.grew; simp at h1; omega⟩
      cases b
      · go_wp2
        all_goals
          go_roundw
          case rel => exact ⟨k + 1, (ns2 e m k).e, _, by go_num, rfl, by omega, Lib.hid (by have := Hst.out; simpa [*] using this), (by repeat (first | with_reducible exact Grew.refl _ | with_reducible apply Grew.alloc | with_reducible apply Grew.later | with_reducible apply Grew.drew | with_reducible apply Grew.store | with_reducible assumption)), boxAt_one (by go_simp) (by go_simp)⟩
          case measure => simp [intOf]; omega
      · go_wp2
        go_roundw
        case rel => exact ⟨k + 1, (ns2 e m k).e, true, by go_num, rfl, by omega, Hst, (by repeat (first | with_reducible exact Grew.refl _ | with_reducible apply Grew.alloc | with_reducible apply Grew.later | with_reducible apply Grew.drew | with_reducible apply Grew.store | with_reducible assumption)), boxAt_one (by go_simp) (by go_simp)⟩
        case measure => simp [intOf]; omega
    · have Hend := Lib.hid (HE.out k e b Hsc.out (by omega))
      by_cases he : e = 0
      · subst he
        by_cases hkk : keep ≤ (clearR m).1
        · have HR := Lib.hid (show ((1, 0) : Int × Int) = sepR m keep by rw [Hend.out, if_pos rfl, if_pos hkk])
          go_wp2
          go_ret2
          exact ⟨ret_cl HR.out, (by repeat (first | with_reducible exact Grew.refl _ | with_reducible apply Grew.alloc | with_reducible apply Grew.later | with_reducible apply Grew.drew | with_reducible apply Grew.store | with_reducible assumption))⟩
        · cases b
          · have HR := Lib.hid (show ((0, 0) : Int × Int) = sepR m keep by rw [Hend.out, if_pos rfl, if_neg hkk]; rfl)
            go_wp2
            go_ret2
            exact ⟨ret_cl HR.out, (by repeat (first | with_reducible exact Grew.refl _ | with_reducible apply Grew.alloc | with_reducible apply Grew.later | with_reducible apply Grew.drew | with_reducible apply Grew.store | with_reducible assumption))⟩
          · have HR := Lib.hid (show ((-1, 0) : Int × Int) = sepR m keep by rw [Hend.out, if_pos rfl, if_neg hkk]; rfl)
            go_wp2
            go_ret2
            exact ⟨ret_cl HR.out, (by repeat (first | with_reducible exact Grew.refl _ | with_reducible apply Grew.alloc | with_reducible apply Grew.later | with_reducible apply Grew.drew | with_reducible apply Grew.store | with_reducible assumption))⟩
      · have HR := Lib.hid (show ((0, e) : Int × Int) = sepR m keep by rw [Hend.out, if_neg he])
        have t2 : (e != 0) = true := by simp [he]
        clear he
        go_wp2
        go_region
        all_goals go_wp2
        all_goals go_ret2
        all_goals exact ⟨ret_cl HR.out, (by repeat (first | with_reducible exact Grew.refl _ | with_reducible apply Grew.alloc | with_reducible apply Grew.later | with_reducible apply Grew.drew | with_reducible apply Grew.store | with_reducible assumption))⟩
end Go.Proofs.Ytdanaclplmacgaa
