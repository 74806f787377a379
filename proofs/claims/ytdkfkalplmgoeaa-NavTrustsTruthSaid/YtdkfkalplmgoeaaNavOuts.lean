/-
  Contracts of the helpers of layer 6's outright statements: of, wide, point, has, within.
  Contract: the examples that the outright statements of layer 6 begin with (alive).
  Contract: a state about a true place and velocity (about of layer 6's outright statements).
  Contract: what is heard of a true state (heard of layer 6's outright statements).
-/
import Derived.Test.YtdkfkalplmgoeaaFuseNav
import Derived.Test.YtdkfkalplmgoeaaNavTruly
import Derived.LoopN
import Derived.BigRegion
import Derived.Test.YtdkfkalplmgoeaaRow
namespace Go.Proofs.Ytdkfkalplmgoeaa
open Go.RowKit Go.Shelf
set_option maxRecDepth 100000
set_option maxHeartbeats 8000000
theorem l6Point_any (n : Int) (w : World) : Calls Try.prog 31 #[.int .i64 n] w fun e w' => e = .returned (.agg #[.int .i64 ((⟨n, n⟩ : Sp)).lo, .int .i64 ((⟨n, n⟩ : Sp)).hi]) ∧ Grew w w' := by
  go_enter Try.func31, Try.ntmps31
  go_wp2
  refine bodyPost_ret (by (simp [results, Try.results31, go_sem] <;> rfl)) rfl ?_
  exact ⟨rfl, gw⟩
theorem l6Wide_any (a b : Int) (h1 : -1000 ≤ a) (h2 : a ≤ 1000) (h3 : -1000 ≤ b) (h4 : b ≤ 1000) (w : World) : Calls Try.prog 28 #[.int .i64 a, .int .i64 b] w fun e w' => e = .returned (.agg #[.int .i64 ((⟨a * 4294967296, b * 4294967296⟩ : Sp)).lo, .int .i64 ((⟨a * 4294967296, b * 4294967296⟩ : Sp)).hi]) ∧ Grew w w' := by
  have w1 : IntKind.i64.wrap (a * 4294967296) = a * 4294967296 := by simp [IntKind.wrap, IntKind.bits, IntKind.signed]; omega
  have w2 : IntKind.i64.wrap (b * 4294967296) = b * 4294967296 := by simp [IntKind.wrap, IntKind.bits, IntKind.signed]; omega
  go_enter Try.func28, Try.ntmps28
  go_wp2
  refine bodyPost_ret (by (simp [results, Try.results28, go_sem] <;> rfl)) rfl ?_
  exact ⟨rfl, gw⟩
theorem l6Of_any (a b c : Int) (h1 : -1000 ≤ a) (h2 : a ≤ 1000) (h3 : -1000 ≤ b) (h4 : b ≤ 1000) (h5 : -1000 ≤ c) (h6 : c ≤ 1000) (w : World) : Calls Try.prog 27 #[.int .i64 a, .int .i64 b, .int .i64 c] w fun e w' => e = .returned (.agg #[.int .i64 ((⟨⟨a * 4294967296, a * 4294967296⟩, ⟨b * 4294967296, b * 4294967296⟩, ⟨c * 4294967296, c * 4294967296⟩⟩ : Bx)).x.lo, .int .i64 ((⟨⟨a * 4294967296, a * 4294967296⟩, ⟨b * 4294967296, b * 4294967296⟩, ⟨c * 4294967296, c * 4294967296⟩⟩ : Bx)).x.hi, .int .i64 ((⟨⟨a * 4294967296, a * 4294967296⟩, ⟨b * 4294967296, b * 4294967296⟩, ⟨c * 4294967296, c * 4294967296⟩⟩ : Bx)).y.lo, .int .i64 ((⟨⟨a * 4294967296, a * 4294967296⟩, ⟨b * 4294967296, b * 4294967296⟩, ⟨c * 4294967296, c * 4294967296⟩⟩ : Bx)).y.hi, .int .i64 ((⟨⟨a * 4294967296, a * 4294967296⟩, ⟨b * 4294967296, b * 4294967296⟩, ⟨c * 4294967296, c * 4294967296⟩⟩ : Bx)).z.lo, .int .i64 ((⟨⟨a * 4294967296, a * 4294967296⟩, ⟨b * 4294967296, b * 4294967296⟩, ⟨c * 4294967296, c * 4294967296⟩⟩ : Bx)).z.hi]) ∧ Grew w w' := by
  have w1 : IntKind.i64.wrap (a * 4294967296) = a * 4294967296 := by simp [IntKind.wrap, IntKind.bits, IntKind.signed]; omega
  have w2 : IntKind.i64.wrap (b * 4294967296) = b * 4294967296 := by simp [IntKind.wrap, IntKind.bits, IntKind.signed]; omega
  have w3 : IntKind.i64.wrap (c * 4294967296) = c * 4294967296 := by simp [IntKind.wrap, IntKind.bits, IntKind.signed]; omega
  go_enter Try.func27, Try.ntmps27
  go_wp2_with (first | (go_at_call 31; (with_reducible refine call_later (l6Point_any _ _) ?_); intro u))
  refine bodyPost_ret (by (simp [results, Try.results27, go_sem] <;> rfl)) rfl ?_
  exact ⟨rfl, gw⟩
/-- Has a state all numbers of another one? -/
def hasTo (s t : State) (k : Nat) : Prop := ∀ i, i < k → (t.p.at i).inB (s.p.at i) = true ∧ (t.v.at i).inB (s.v.at i) = true
theorem hasB_to {s t : State} : hasTo s t 3 → hasB s t = true := fun h => by
  have h0 : t.p.x.inB s.p.x = true ∧ t.v.x.inB s.v.x = true := h 0 (by omega)
  have h1 : t.p.y.inB s.p.y = true ∧ t.v.y.inB s.v.y = true := h 1 (by omega)
  have h2 : t.p.z.inB s.p.z = true ∧ t.v.z.inB s.v.z = true := h 2 (by omega)
  unfold hasB
  rw [h0.1, h0.2, h1.1, h1.2, h2.1, h2.2]
  rfl
theorem hasB_no {s t : State} {k : Nat} (hk : k < 3) (h : (t.p.at k).inB (s.p.at k) = false ∨ (t.v.at k).inB (s.v.at k) = false) : hasB s t = false := by
  unfold hasB
  rcases (show k = 0 ∨ k = 1 ∨ k = 2 by omega) with rfl | rfl | rfl
  · rcases h with h | h
    · rw [show t.p.x.inB s.p.x = false from h]; simp
    · rw [show t.v.x.inB s.v.x = false from h]; simp
  · rcases h with h | h
    · rw [show t.p.y.inB s.p.y = false from h]; simp
    · rw [show t.v.y.inB s.v.y = false from h]; simp
  · rcases h with h | h
    · rw [show t.p.z.inB s.p.z = false from h]; simp
    · rw [show t.v.z.inB s.v.z = false from h]; simp
theorem stateAt (s : State) (k : Nat) (h : k < 3) : s.cells[1 + k * 2]? = some (.int .i64 (s.p.at k).lo) ∧ s.cells[1 + k * 2 + 1]? = some (.int .i64 (s.p.at k).hi) ∧ s.cells[7 + k * 2]? = some (.int .i64 (s.v.at k).lo) ∧ s.cells[7 + k * 2 + 1]? = some (.int .i64 (s.v.at k).hi) := by
  rcases (show k = 0 ∨ k = 1 ∨ k = 2 by omega) with rfl | rfl | rfl <;> exact ⟨rfl, rfl, rfl, rfl⟩
theorem l6Has_any (s t : State) (w : World) : Calls Try.prog 14 #[.agg s.cells.toArray, .agg t.cells.toArray] w fun e w' => e = .returned (.bool (hasB s t)) ∧ Grew w w' := by
  have HT := Lib.hid (@hasB_to s t)
  have HN := Lib.hid (fun k hk h => @hasB_no s t k hk h)
  have HS := Lib.hid (stateAt s)
  have HU := Lib.hid (stateAt t)
  generalize hasB s t = R at *
  go_enter Try.func14, Try.ntmps14
  go_wp2
  go_loopw [6] (fun j wr => ∃ k : Nat, j = .int .i64 k ∧ k ≤ 3 ∧ Hid (hasTo s t k) ∧ Grew w wr ∧ RowIs wr w.heap.size 43 s.cells ∧ RowIs wr (w.heap.size + 1) 43 t.cells) (fun j _ => 3 - (intOf j).toNat)
  case atStart => exact ⟨0, rfl, by omega, Lib.hid (fun i hi => by omega), gw, inferInstance, inferInstance⟩
  case round =>
    obtain ⟨k, rfl, hk, hh, hg, r2, r3⟩ := hrel
    have i2 := r2.blockIn
    have i3 := r3.blockIn
    have n2 : NewFor w w.heap.size := inferInstance
    have n3 : NewFor w (w.heap.size + 1) := inferInstance
    obtain ⟨z, rfl⟩ := later_of hg
    clear hg
    by_cases hlt : k < 3
    · obtain ⟨s1, s2, s3, s4⟩ := HS.out k hlt
      obtain ⟨t1, t2, t3, t4⟩ := HU.out k hlt
      have c1 : z.world.cell? ⟨w.heap.size, 1 + k * 2, none⟩ = some (.int .i64 (s.p.at k).lo) := (cell_rowIs _ _ _ _ _).trans s1
      have c2 : z.world.cell? ⟨w.heap.size, 1 + k * 2 + 1, none⟩ = some (.int .i64 (s.p.at k).hi) := (cell_rowIs _ _ _ _ _).trans s2
      have c3 : z.world.cell? ⟨w.heap.size, 7 + k * 2, none⟩ = some (.int .i64 (s.v.at k).lo) := (cell_rowIs _ _ _ _ _).trans s3
      have c4 : z.world.cell? ⟨w.heap.size, 7 + k * 2 + 1, none⟩ = some (.int .i64 (s.v.at k).hi) := (cell_rowIs _ _ _ _ _).trans s4
      have d1 : z.world.cell? ⟨w.heap.size + 1, 1 + k * 2, none⟩ = some (.int .i64 (t.p.at k).lo) := (cell_rowIs _ _ _ _ _).trans t1
      have d2 : z.world.cell? ⟨w.heap.size + 1, 1 + k * 2 + 1, none⟩ = some (.int .i64 (t.p.at k).hi) := (cell_rowIs _ _ _ _ _).trans t2
      have d3 : z.world.cell? ⟨w.heap.size + 1, 7 + k * 2, none⟩ = some (.int .i64 (t.v.at k).lo) := (cell_rowIs _ _ _ _ _).trans t3
      have d4 : z.world.cell? ⟨w.heap.size + 1, 7 + k * 2 + 1, none⟩ = some (.int .i64 (t.v.at k).hi) := (cell_rowIs _ _ _ _ _).trans t4
      clear s1 s2 s3 s4 t1 t2 t3 t4
      have HP := Lib.hid (fun h => HN.out k hlt (.inl h))
      have HV := Lib.hid (fun h => HN.out k hlt (.inr h))
      have HH := Lib.hid (fun (h1 : (t.p.at k).inB (s.p.at k) = true) (h2 : (t.v.at k).inB (s.v.at k) = true) => show hasTo s t (k + 1) from fun i hi => by
        by_cases e : i = k
        · subst e; exact ⟨h1, h2⟩
        · exact hh.out i (by omega))
      generalize s.p.at k = sp at *
      generalize s.v.at k = sv at *
      generalize t.p.at k = tp at *
      generalize t.v.at k = tv at *
      have hk3 : (k : Int) < 3 := by omega
      have R2 := Lib.hid r2
      have R3 := Lib.hid r3
      clear HS HU HT HN hh r2 r3
      cases h1 : tp.inB sp
      · have W1 := Lib.hid (fun w => is_bool h1 (spWithin_any tp sp w))
        have E1 := Lib.hid (HP.out h1)
        clear h1
        go_wp2_with (first | (go_at_call 37; (with_reducible refine call_later (W1.out _) ?_); intro u) | ((with_reducible refine wp_region_later ?_ ?_ ?_); (· kernel_rfl); (· kernel_rfl); (try simp only [List.append_eq, List.cons_append, List.nil_append]); (repeat (go_big_quiet_step ((first | (go_at_call 37; (with_reducible exact call_quiet (W1.out _))))))); refine wpQuiet_nil ?_; rintro _ ⟨u, rfl⟩))
        go_ret
        exact ⟨by rw [E1.out]; rfl, gw⟩
      · have W1 := Lib.hid (fun w => is_bool h1 (spWithin_any tp sp w))
        cases h2 : tv.inB sv
        · have W2 := Lib.hid (fun w => is_bool h2 (spWithin_any tv sv w))
          have E1 := Lib.hid (HV.out h2)
          clear h1 h2
          go_wp2_with (first | (go_at_call 37; (with_reducible refine call_later (W1.out _) ?_); intro u) | (go_at_call 37; (with_reducible refine call_later (W2.out _) ?_); intro u) | ((with_reducible refine wp_region_later ?_ ?_ ?_); (· kernel_rfl); (· kernel_rfl); (try simp only [List.append_eq, List.cons_append, List.nil_append]); (repeat (go_big_quiet_step ((first | (go_at_call 37; (with_reducible exact call_quiet (W1.out _))) | (go_at_call 37; (with_reducible exact call_quiet (W2.out _))))))); refine wpQuiet_nil ?_; rintro _ ⟨u, rfl⟩))
          go_ret
          exact ⟨by rw [E1.out]; rfl, gw⟩
        · have W2 := Lib.hid (fun w => is_bool h2 (spWithin_any tv sv w))
          have E1 := Lib.hid (HH.out h1 h2)
          clear h1 h2
          go_wp2_with (first | (go_at_call 37; (with_reducible refine call_later (W1.out _) ?_); intro u) | (go_at_call 37; (with_reducible refine call_later (W2.out _) ?_); intro u) | ((with_reducible refine wp_region_later ?_ ?_ ?_); (· kernel_rfl); (· kernel_rfl); (try simp only [List.append_eq, List.cons_append, List.nil_append]); (repeat (go_big_quiet_step ((first | (go_at_call 37; (with_reducible exact call_quiet (W1.out _))) | (go_at_call 37; (with_reducible exact call_quiet (W2.out _))))))); refine wpQuiet_nil ?_; rintro _ ⟨u, rfl⟩))
          go_roundw
          case rel => exact ⟨k + 1, by go_num, by omega, E1, gw, R2.out.grew gw, R3.out.grew gw⟩
          case measure => simp [intOf]; omega
    · obtain rfl : k = 3 := by omega
      have E1 := Lib.hid (HT.out hh.out)
      go_wp2
      go_ret
      exact ⟨by rw [E1.out]; rfl, gw⟩
@[go_sem] theorem stGet0 (s : State) : s.cells[0]? = some (.int .i64 s.t) := rfl
@[go_sem] theorem stGet1 (s : State) : s.cells[1]? = some (.int .i64 s.p.x.lo) := rfl
@[go_sem] theorem stGet2 (s : State) : s.cells[2]? = some (.int .i64 s.p.x.hi) := rfl
@[go_sem] theorem stGet3 (s : State) : s.cells[3]? = some (.int .i64 s.p.y.lo) := rfl
@[go_sem] theorem stGet4 (s : State) : s.cells[4]? = some (.int .i64 s.p.y.hi) := rfl
@[go_sem] theorem stGet5 (s : State) : s.cells[5]? = some (.int .i64 s.p.z.lo) := rfl
@[go_sem] theorem stGet6 (s : State) : s.cells[6]? = some (.int .i64 s.p.z.hi) := rfl
@[go_sem] theorem stGet7 (s : State) : s.cells[7]? = some (.int .i64 s.v.x.lo) := rfl
@[go_sem] theorem stGet8 (s : State) : s.cells[8]? = some (.int .i64 s.v.x.hi) := rfl
@[go_sem] theorem stGet9 (s : State) : s.cells[9]? = some (.int .i64 s.v.y.lo) := rfl
@[go_sem] theorem stGet10 (s : State) : s.cells[10]? = some (.int .i64 s.v.y.hi) := rfl
@[go_sem] theorem stGet11 (s : State) : s.cells[11]? = some (.int .i64 s.v.z.lo) := rfl
@[go_sem] theorem stGet12 (s : State) : s.cells[12]? = some (.int .i64 s.v.z.hi) := rfl
@[go_sem] theorem stGet13 (s : State) : s.cells[13]? = some (.int .i64 s.m.lo) := rfl
@[go_sem] theorem stGet14 (s : State) : s.cells[14]? = some (.int .i64 s.m.hi) := rfl
theorem l6Within_any (a b : State) (w : World) : Calls Try.prog 15 #[.agg a.cells.toArray, .agg b.cells.toArray] w fun e w' => e = .returned (.bool (withinB a b)) ∧ Grew w w' := by
  have HW := Lib.hid (show withinB a b = (hasB b a && decide (a.t = b.t) && (decide (a.m.lo = b.m.lo) && decide (a.m.hi = b.m.hi))) from rfl)
  have HH := Lib.hid (fun w => l6Has_any b a w)
  generalize withinB a b = R at *
  have e1 : (a.t == b.t) = decide (a.t = b.t) := rfl
  have e2 : (a.m.lo == b.m.lo) = decide (a.m.lo = b.m.lo) := rfl
  have e3 : (a.m.hi == b.m.hi) = decide (a.m.hi = b.m.hi) := rfl
  cases h1 : hasB b a
  · have H1 := Lib.hid (fun w => is_bool h1 (HH.out w))
    have HR := Lib.hid (show R = false by rw [HW.out, h1]; rfl)
    clear h1 HH HW e1 e2 e3
    go_enter Try.func15, Try.ntmps15
    go_wp2_with (first | (go_at_call 14; (with_reducible refine call_later (H1.out _) ?_); intro u) | (with_reducible refine wLr ?_) | (with_reducible refine wLi ?_) | (with_reducible refine wSf ?_) | (with_reducible refine wSi ?_))
    go_ret
    exact ⟨by rw [HR.out]; rfl, gw⟩
  · have H1 := Lib.hid (fun w => is_bool h1 (HH.out w))
    cases h2 : decide (a.t = b.t)
    · have HR := Lib.hid (show R = false by rw [HW.out, h1, h2]; rfl)
      rw [h2] at e1
      simp only [decide_eq_false_iff_not] at h2
      clear h1 HH HW e2 e3
      go_enter Try.func15, Try.ntmps15
      go_wp2_with (first | (go_at_call 14; (with_reducible refine call_later (H1.out _) ?_); intro u) | (with_reducible refine wLr ?_) | (with_reducible refine wLi ?_) | (with_reducible refine wSf ?_) | (with_reducible refine wSi ?_))
      go_ret
      exact ⟨by rw [HR.out]; rfl, gw⟩
    · have HR := Lib.hid (show R = (decide (a.m.lo = b.m.lo) && decide (a.m.hi = b.m.hi)) by rw [HW.out, h1, h2]; rfl)
      rw [h2] at e1
      simp only [decide_eq_true_eq] at h2
      have H2 := Lib.hid h2
      clear h1 h2 HH HW
      cases h3 : decide (a.m.lo = b.m.lo) <;> cases h4 : decide (a.m.hi = b.m.hi)
      all_goals
        rw [h3] at e2 HR
        rw [h4] at e3 HR
        simp only [decide_eq_true_eq, decide_eq_false_iff_not] at h3 h4
        have H3 := Lib.hid h3
        have H4 := Lib.hid h4
        clear h3 h4
        go_enter Try.func15, Try.ntmps15
        go_wp2_with (first | (go_at_call 14; (with_reducible refine call_later (H1.out _) ?_); intro u) | (with_reducible refine wLr ?_) | (with_reducible refine wLi ?_) | (with_reducible refine wSf ?_) | (with_reducible refine wSi ?_))
        go_ret
        exact ⟨by rw [HR.out]; rfl, gw⟩
end Go.Proofs.Ytdkfkalplmgoeaa
namespace Go.Proofs.Ytdkfkalplmgoeaa
open Go.RowKit Go.Shelf
set_option maxRecDepth 100000
set_option maxHeartbeats 8000000
def aS0 : State := ⟨0, ⟨⟨12884901888, 12884901888⟩, ⟨17179869184, 17179869184⟩, ⟨51539607552, 51539607552⟩⟩, ⟨⟨0, 0⟩, ⟨0, 0⟩, ⟨55834574848, 55834574848⟩⟩, ⟨4294967296, 4294967296⟩⟩
def aS2 : State := ⟨0, ⟨⟨-42949672960, 42949672960⟩, ⟨0, 0⟩, ⟨0, 0⟩⟩, ⟨⟨0, 0⟩, ⟨0, 0⟩, ⟨55834574848, 55834574848⟩⟩, ⟨4294967296, 4294967296⟩⟩
def aS3 : State := ⟨0, ⟨⟨-21474836480, 21474836480⟩, ⟨0, 0⟩, ⟨0, 0⟩⟩, ⟨⟨0, 0⟩, ⟨0, 0⟩, ⟨55834574848, 55834574848⟩⟩, ⟨4294967296, 4294967296⟩⟩
def aM0 : Radio := ⟨0, ⟨⟨0, 0⟩, ⟨0, 0⟩, ⟨0, 0⟩⟩, ⟨⟨0, 0⟩, ⟨0, 0⟩, ⟨0, 0⟩⟩, ⟨0, 0⟩⟩
def aM1 : Radio := ⟨1, ⟨⟨0, 0⟩, ⟨0, 0⟩, ⟨0, 0⟩⟩, ⟨⟨0, 0⟩, ⟨0, 0⟩, ⟨0, 0⟩⟩, ⟨0, 0⟩⟩
def aM2 : Radio := ⟨0, ⟨⟨0, 0⟩, ⟨0, 0⟩, ⟨0, 0⟩⟩, ⟨⟨0, 0⟩, ⟨0, 0⟩, ⟨0, 0⟩⟩, ⟨12884901888, 21474836480⟩⟩
theorem aR0 : readingR aS0 aM0 = ⟨⟨55834574848, 55834574848⟩, 0⟩ := by kernel_rfl
theorem aR1 : readingR aS0 aM1 = ⟨⟨51539607552, 51539607552⟩, 0⟩ := by kernel_rfl
theorem aC2 : cutRR aS2 aM2 = ⟨aS3, 0⟩ := by kernel_rfl
instance : Pv64 aS0 := ⟨⟨⟨by unfold I64 aS0; decide, by unfold I64 aS0; decide⟩, ⟨by unfold I64 aS0; decide, by unfold I64 aS0; decide⟩, ⟨by unfold I64 aS0; decide, by unfold I64 aS0; decide⟩⟩, ⟨⟨by unfold I64 aS0; decide, by unfold I64 aS0; decide⟩, ⟨by unfold I64 aS0; decide, by unfold I64 aS0; decide⟩, ⟨by unfold I64 aS0; decide, by unfold I64 aS0; decide⟩⟩⟩
instance : Pv64 aS2 := ⟨⟨⟨by unfold I64 aS2; decide, by unfold I64 aS2; decide⟩, ⟨by unfold I64 aS2; decide, by unfold I64 aS2; decide⟩, ⟨by unfold I64 aS2; decide, by unfold I64 aS2; decide⟩⟩, ⟨⟨by unfold I64 aS2; decide, by unfold I64 aS2; decide⟩, ⟨by unfold I64 aS2; decide, by unfold I64 aS2; decide⟩, ⟨by unfold I64 aS2; decide, by unfold I64 aS2; decide⟩⟩⟩
instance : Pv64 aS3 := ⟨⟨⟨by unfold I64 aS3; decide, by unfold I64 aS3; decide⟩, ⟨by unfold I64 aS3; decide, by unfold I64 aS3; decide⟩, ⟨by unfold I64 aS3; decide, by unfold I64 aS3; decide⟩⟩, ⟨⟨by unfold I64 aS3; decide, by unfold I64 aS3; decide⟩, ⟨by unfold I64 aS3; decide, by unfold I64 aS3; decide⟩, ⟨by unfold I64 aS3; decide, by unfold I64 aS3; decide⟩⟩⟩
instance : Ra64 aM0 := ⟨⟨⟨by unfold I64 aM0; decide, by unfold I64 aM0; decide⟩, ⟨by unfold I64 aM0; decide, by unfold I64 aM0; decide⟩, ⟨by unfold I64 aM0; decide, by unfold I64 aM0; decide⟩⟩, ⟨⟨by unfold I64 aM0; decide, by unfold I64 aM0; decide⟩, ⟨by unfold I64 aM0; decide, by unfold I64 aM0; decide⟩, ⟨by unfold I64 aM0; decide, by unfold I64 aM0; decide⟩⟩, ⟨by unfold I64 aM0; decide, by unfold I64 aM0; decide⟩⟩
instance : Ra64 aM1 := ⟨⟨⟨by unfold I64 aM1; decide, by unfold I64 aM1; decide⟩, ⟨by unfold I64 aM1; decide, by unfold I64 aM1; decide⟩, ⟨by unfold I64 aM1; decide, by unfold I64 aM1; decide⟩⟩, ⟨⟨by unfold I64 aM1; decide, by unfold I64 aM1; decide⟩, ⟨by unfold I64 aM1; decide, by unfold I64 aM1; decide⟩, ⟨by unfold I64 aM1; decide, by unfold I64 aM1; decide⟩⟩, ⟨by unfold I64 aM1; decide, by unfold I64 aM1; decide⟩⟩
instance : Ra64 aM2 := ⟨⟨⟨by unfold I64 aM2; decide, by unfold I64 aM2; decide⟩, ⟨by unfold I64 aM2; decide, by unfold I64 aM2; decide⟩, ⟨by unfold I64 aM2; decide, by unfold I64 aM2; decide⟩⟩, ⟨⟨by unfold I64 aM2; decide, by unfold I64 aM2; decide⟩, ⟨by unfold I64 aM2; decide, by unfold I64 aM2; decide⟩, ⟨by unfold I64 aM2; decide, by unfold I64 aM2; decide⟩⟩, ⟨by unfold I64 aM2; decide, by unfold I64 aM2; decide⟩⟩
theorem eqBoxTop6 (x0 x1 x2 x3 x4 x5 : Int) (w : World) :
    (Op.equalIn 10000 41 (.agg #[.int .i64 x0, .int .i64 x1, .int .i64 x2, .int .i64 x3, .int .i64 x4, .int .i64 x5]) (.agg #[.int .i64 x0, .int .i64 x1, .int .i64 x2, .int .i64 x3, .int .i64 x4, .int .i64 x5])).run Try.prog w = .ok true w := by
  obtain ⟨i, hi⟩ := Option.isSome_iff_exists.1 spanInfo
  rw [run_equalIn_array w 9999 _ _ Try.underlying41 hi]
  have hC : Try.prog.cellsOf 39 = 2 := by kernel_rfl
  rw [hC]
  have hr : List.range 3 = [0, 1, 2] := rfl
  rw [hr]
  simp [go_sem, Op.eqItems]
theorem l6Alive_any (w : World) : Calls Try.prog 9 #[] w fun e w' => e = .returned (.bool true) ∧ Grew w w' := by
  have W1 := Lib.hid (fun w => show Calls Try.prog 28 #[.int .i64 1, .int .i64 1] w (fun e w' => e = .returned (.agg #[.int .i64 4294967296, .int .i64 4294967296]) ∧ Grew w w') from l6Wide_any 1 1 (by decide) (by decide) (by decide) (by decide) w)
  have W2 := Lib.hid (fun w => show Calls Try.prog 28 #[.int .i64 (-10), .int .i64 10] w (fun e w' => e = .returned (.agg #[.int .i64 (-42949672960), .int .i64 42949672960]) ∧ Grew w w') from l6Wide_any (-10) 10 (by decide) (by decide) (by decide) (by decide) w)
  have W3 := Lib.hid (fun w => show Calls Try.prog 28 #[.int .i64 0, .int .i64 0] w (fun e w' => e = .returned (.agg #[.int .i64 0, .int .i64 0]) ∧ Grew w w') from l6Wide_any 0 0 (by decide) (by decide) (by decide) (by decide) w)
  have W4 := Lib.hid (fun w => show Calls Try.prog 28 #[.int .i64 3, .int .i64 5] w (fun e w' => e = .returned (.agg #[.int .i64 12884901888, .int .i64 21474836480]) ∧ Grew w w') from l6Wide_any 3 5 (by decide) (by decide) (by decide) (by decide) w)
  have W5 := Lib.hid (fun w => show Calls Try.prog 28 #[.int .i64 13, .int .i64 13] w (fun e w' => e = .returned (.agg #[.int .i64 55834574848, .int .i64 55834574848]) ∧ Grew w w') from l6Wide_any 13 13 (by decide) (by decide) (by decide) (by decide) w)
  have W6 := Lib.hid (fun w => show Calls Try.prog 28 #[.int .i64 12, .int .i64 12] w (fun e w' => e = .returned (.agg #[.int .i64 51539607552, .int .i64 51539607552]) ∧ Grew w w') from l6Wide_any 12 12 (by decide) (by decide) (by decide) (by decide) w)
  have W7 := Lib.hid (fun w => show Calls Try.prog 28 #[.int .i64 (-5), .int .i64 5] w (fun e w' => e = .returned (.agg #[.int .i64 (-21474836480), .int .i64 21474836480]) ∧ Grew w w') from l6Wide_any (-5) 5 (by decide) (by decide) (by decide) (by decide) w)
  have O1 := Lib.hid (fun w => show Calls Try.prog 27 #[.int .i64 3, .int .i64 4, .int .i64 12] w (fun e w' => e = .returned (.agg #[.int .i64 12884901888, .int .i64 12884901888, .int .i64 17179869184, .int .i64 17179869184, .int .i64 51539607552, .int .i64 51539607552]) ∧ Grew w w') from l6Of_any 3 4 12 (by decide) (by decide) (by decide) (by decide) (by decide) (by decide) w)
  have O2 := Lib.hid (fun w => show Calls Try.prog 27 #[.int .i64 0, .int .i64 0, .int .i64 13] w (fun e w' => e = .returned (.agg #[.int .i64 0, .int .i64 0, .int .i64 0, .int .i64 0, .int .i64 55834574848, .int .i64 55834574848]) ∧ Grew w w') from l6Of_any 0 0 13 (by decide) (by decide) (by decide) (by decide) (by decide) (by decide) w)
  have R0 := Lib.hid (fun w => show Calls Try.prog 29 #[.agg #[.int .i64 0, .int .i64 12884901888, .int .i64 12884901888, .int .i64 17179869184, .int .i64 17179869184, .int .i64 51539607552, .int .i64 51539607552, .int .i64 0, .int .i64 0, .int .i64 0, .int .i64 0, .int .i64 55834574848, .int .i64 55834574848, .int .i64 4294967296, .int .i64 4294967296], .agg #[.int .i64 0, .int .i64 0, .int .i64 0, .int .i64 0, .int .i64 0, .int .i64 0, .int .i64 0, .int .i64 0, .int .i64 0, .int .i64 0, .int .i64 0, .int .i64 0, .int .i64 0, .int .i64 0, .int .i64 0]] w (fun e w' => e = .returned (.tuple #[.agg #[.int .i64 55834574848, .int .i64 55834574848], .int .i64 0]) ∧ Grew w w') from by have h := navReading_any aS0 aM0 w; rw [aR0] at h; exact h)
  have R1 := Lib.hid (fun w => show Calls Try.prog 29 #[.agg #[.int .i64 0, .int .i64 12884901888, .int .i64 12884901888, .int .i64 17179869184, .int .i64 17179869184, .int .i64 51539607552, .int .i64 51539607552, .int .i64 0, .int .i64 0, .int .i64 0, .int .i64 0, .int .i64 55834574848, .int .i64 55834574848, .int .i64 4294967296, .int .i64 4294967296], .agg #[.int .i64 1, .int .i64 0, .int .i64 0, .int .i64 0, .int .i64 0, .int .i64 0, .int .i64 0, .int .i64 0, .int .i64 0, .int .i64 0, .int .i64 0, .int .i64 0, .int .i64 0, .int .i64 0, .int .i64 0]] w (fun e w' => e = .returned (.tuple #[.agg #[.int .i64 51539607552, .int .i64 51539607552], .int .i64 0]) ∧ Grew w w') from by have h := navReading_any aS0 aM1 w; rw [aR1] at h; exact h)
  have C2 := Lib.hid (fun w => show Calls Try.prog 30 #[.agg #[.int .i64 0, .int .i64 (-42949672960), .int .i64 42949672960, .int .i64 0, .int .i64 0, .int .i64 0, .int .i64 0, .int .i64 0, .int .i64 0, .int .i64 0, .int .i64 0, .int .i64 55834574848, .int .i64 55834574848, .int .i64 4294967296, .int .i64 4294967296], .agg #[.int .i64 0, .int .i64 0, .int .i64 0, .int .i64 0, .int .i64 0, .int .i64 0, .int .i64 0, .int .i64 0, .int .i64 0, .int .i64 0, .int .i64 0, .int .i64 0, .int .i64 0, .int .i64 12884901888, .int .i64 21474836480]] w (fun e w' => e = .returned (.tuple #[.agg #[.int .i64 0, .int .i64 (-21474836480), .int .i64 21474836480, .int .i64 0, .int .i64 0, .int .i64 0, .int .i64 0, .int .i64 0, .int .i64 0, .int .i64 0, .int .i64 0, .int .i64 55834574848, .int .i64 55834574848, .int .i64 4294967296, .int .i64 4294967296], .int .i64 0]) ∧ Grew w w') from by have h := navCutT_any aS2 aM2 w; rw [aC2] at h; exact h)
  go_enter Try.func9, Try.ntmps9
  go_wp2_with (first | (go_at_call 27; (with_reducible refine call_later (O1.out _) ?_); intro uo1) | (go_at_call 27; (with_reducible refine call_later (O2.out _) ?_); intro uo2) | (go_at_call 29; (with_reducible refine call_later (R0.out _) ?_); intro ur0) | (go_at_call 29; (with_reducible refine call_later (R1.out _) ?_); intro ur1) | (go_at_call 28; (with_reducible refine call_later (W1.out _) ?_); intro uW1) | (go_at_call 28; (with_reducible refine call_later (W2.out _) ?_); intro uW2) | (go_at_call 28; (with_reducible refine call_later (W3.out _) ?_); intro uW3) | (go_at_call 28; (with_reducible refine call_later (W4.out _) ?_); intro uW4) | (go_at_call 28; (with_reducible refine call_later (W5.out _) ?_); intro uW5) | (go_at_call 28; (with_reducible refine call_later (W6.out _) ?_); intro uW6) | (go_at_call 28; (with_reducible refine call_later (W7.out _) ?_); intro uW7))
  skip
  go_region_held3 (fun w' => w'.cell? ⟨uW1.world.heap.size, 0, none⟩ = some (.int .i64 0) ∧ w'.cell? ⟨uW1.world.heap.size, 1, none⟩ = some (.int .i64 (-42949672960)) ∧ w'.cell? ⟨uW1.world.heap.size, 2, none⟩ = some (.int .i64 42949672960) ∧ w'.cell? ⟨uW1.world.heap.size, 3, none⟩ = some (.int .i64 0) ∧ w'.cell? ⟨uW1.world.heap.size, 4, none⟩ = some (.int .i64 0) ∧ w'.cell? ⟨uW1.world.heap.size, 5, none⟩ = some (.int .i64 0) ∧ w'.cell? ⟨uW1.world.heap.size, 6, none⟩ = some (.int .i64 0) ∧ w'.cell? ⟨uW1.world.heap.size, 7, none⟩ = some (.int .i64 0) ∧ w'.cell? ⟨uW1.world.heap.size, 8, none⟩ = some (.int .i64 0) ∧ w'.cell? ⟨uW1.world.heap.size, 9, none⟩ = some (.int .i64 0) ∧ w'.cell? ⟨uW1.world.heap.size, 10, none⟩ = some (.int .i64 0) ∧ w'.cell? ⟨uW1.world.heap.size, 11, none⟩ = some (.int .i64 55834574848) ∧ w'.cell? ⟨uW1.world.heap.size, 12, none⟩ = some (.int .i64 55834574848) ∧ w'.cell? ⟨uW1.world.heap.size, 13, none⟩ = some (.int .i64 4294967296) ∧ w'.cell? ⟨uW1.world.heap.size, 14, none⟩ = some (.int .i64 4294967296)) (first | exact ⟨(by go_simp), (by go_simp), (by go_simp), (by go_simp), (by go_simp), (by go_simp), (by go_simp), (by go_simp), (by go_simp), (by go_simp), (by go_simp), (by go_simp), (by go_simp), (by go_simp), (by go_simp)⟩) (first | (go_at_call 28; (with_reducible refine call_later (W4.out _) ?_); intro uw4) | (go_at_call 30; (with_reducible refine call_later (C2.out _) ?_); intro uc2))
  all_goals
    have hEq := eqBoxTop6
    go_wp2_with (first | (go_at_call 28; (with_reducible refine call_later (W5.out _) ?_); intro u) | (go_at_call 28; (with_reducible refine call_later (W6.out _) ?_); intro u) | (go_at_call 28; (with_reducible refine call_later (W7.out _) ?_); intro u) | (go_at_call 28; (with_reducible refine call_later (W3.out _) ?_); intro u) | ((with_reducible refine wp_region_later ?_ ?_ ?_); (· kernel_rfl); (· kernel_rfl); (try simp only [List.append_eq, List.cons_append, List.nil_append]); (repeat (go_big_quiet_step ((first | (go_at_call 28; (with_reducible exact call_quiet (W5.out _))) | (go_at_call 28; (with_reducible exact call_quiet (W6.out _))) | (go_at_call 28; (with_reducible exact call_quiet (W7.out _))) | (go_at_call 28; (with_reducible exact call_quiet (W3.out _))))))); refine wpQuiet_nil ?_; rintro _ ⟨u, rfl⟩))
    go_ret
    exact ⟨rfl, gw⟩
end Go.Proofs.Ytdkfkalplmgoeaa
namespace Go.Proofs.Ytdkfkalplmgoeaa
open Go.RowKit Go.Shelf
set_option maxRecDepth 100000
set_option maxHeartbeats 8000000
/-- A true place and velocity, and widths, as they are given. -/
structure Tr where
  p : Nat → Int
  v : Nat → Int
  w : Nat → Int
def Tr.cells (x : Tr) : List Value := [.int .i32 (x.p 0), .int .i32 (x.p 1), .int .i32 (x.p 2), .int .i32 (x.v 0), .int .i32 (x.v 1), .int .i32 (x.v 2), .int .u16 (x.w 0), .int .u16 (x.w 1), .int .u16 (x.w 2), .int .u16 (x.w 3), .int .u16 (x.w 4), .int .u16 (x.w 5)]
structure Tr.Ok (x : Tr) : Prop where
  p : ∀ i, -2147483648 ≤ x.p i ∧ x.p i ≤ 2147483647
  v : ∀ i, -2147483648 ≤ x.v i ∧ x.v i ≤ 2147483647
  w : ∀ i, 0 ≤ x.w i ∧ x.w i ≤ 65535
theorem trAt (x : Tr) (k : Nat) (h : k < 3) : x.cells[k]? = some (.int .i32 (x.p k)) ∧ x.cells[3 + k]? = some (.int .i32 (x.v k)) ∧ x.cells[6 + k]? = some (.int .u16 (x.w k)) ∧ x.cells[6 + (k + 2) % 6]? = some (.int .u16 (x.w ((k + 2) % 6))) ∧ x.cells[6 + (3 + k)]? = some (.int .u16 (x.w (3 + k))) ∧ x.cells[6 + (k + 4) % 6]? = some (.int .u16 (x.w ((k + 4) % 6))) := by
  rcases (show k = 0 ∨ k = 1 ∨ k = 2 by omega) with rfl | rfl | rfl <;> exact ⟨rfl, rfl, rfl, rfl, rfl, rfl⟩
/-- A span about a point. -/
structure GoodP (s t : Sp) : Prop where
  pt : t = ⟨t.lo, t.lo⟩
  lo : -1152921504606846976 ≤ t.lo
  hi : t.lo ≤ 1152921504606846976
  has : s.lo ≤ t.lo ∧ t.lo ≤ s.hi
  num : -4611686018427387904 ≤ s.lo ∧ s.hi ≤ 4611686018427387904
structure AbTo (S T : State) (k : Nat) : Prop where
  st : S.t = 0
  tt : T.t = 0
  sm : S.m = oneS
  tm : T.m = oneS
  p : ∀ i, i < k → GoodP (S.p.at i) (T.p.at i)
  v : ∀ i, i < k → GoodP (S.v.at i) (T.v.at i)
theorem stPut_p (s : State) (k : Nat) (h : k < 3) (x y : Int) : (s.cells.set (1 + k * 2) (.int .i64 x)).set (1 + k * 2 + 1) (.int .i64 y) = ({ s with p := s.p.put k ⟨x, y⟩ } : State).cells := by
  rcases (show k = 0 ∨ k = 1 ∨ k = 2 by omega) with rfl | rfl | rfl <;> rfl
theorem stPut_v (s : State) (k : Nat) (h : k < 3) (x y : Int) : (s.cells.set (7 + k * 2) (.int .i64 x)).set (7 + k * 2 + 1) (.int .i64 y) = ({ s with v := s.v.put k ⟨x, y⟩ } : State).cells := by
  rcases (show k = 0 ∨ k = 1 ∨ k = 2 by omega) with rfl | rfl | rfl <;> rfl
theorem put_at (b : Bx) (k i : Nat) (hk : k < 3) (hi : i ≤ k) (s : Sp) : (b.put k s).at i = if i = k then s else b.at i := by
  rcases (show k = 0 ∨ k = 1 ∨ k = 2 by omega) with rfl | rfl | rfl
  · obtain rfl : i = 0 := by omega
    rfl
  · rcases (show i = 0 ∨ i = 1 by omega) with rfl | rfl <;> rfl
  · rcases (show i = 0 ∨ i = 1 ∨ i = 2 by omega) with rfl | rfl | rfl <;> rfl
theorem abTo_next {S T : State} {k : Nat} (hk : k < 3) (h : AbTo S T k) {s t u v : Sp} (hp : GoodP s t) (hv : GoodP u v) : AbTo { S with p := S.p.put k s, v := S.v.put k u } { T with p := T.p.put k t, v := T.v.put k v } (k + 1) where
  st := h.st
  tt := h.tt
  sm := h.sm
  tm := h.tm
  p := fun i hi => by
    show GoodP ((S.p.put k s).at i) ((T.p.put k t).at i)
    rw [put_at _ k i hk (by omega), put_at _ k i hk (by omega)]
    split
    · exact hp
    · exact h.p i (by omega)
  v := fun i hi => by
    show GoodP ((S.v.put k u).at i) ((T.v.put k v).at i)
    rw [put_at _ k i hk (by omega), put_at _ k i hk (by omega)]
    split
    · exact hv
    · exact h.v i (by omega)
theorem GoodP.has1 {s t : Sp} (h : GoodP s t) : Has1 s t.lo := h.has
theorem GoodP.ok {s t : Sp} (h : GoodP s t) : s.okB = true := nw_ok (by have := h.num.1; omega) (by have := h.has; omega)
theorem GoodP.s64 {s t : Sp} (h : GoodP s t) : S64 s := ⟨⟨by have := h.num.1; omega, by have := h.num; have := h.has; omega⟩, ⟨by have := h.num; have := h.has; omega, by have := h.num.2; omega⟩⟩
theorem GoodP.t64 {s t : Sp} (h : GoodP s t) : S64 t := by
  rw [h.pt]
  exact ⟨⟨by have := h.lo; show _ ≤ t.lo; omega, by have := h.hi; show t.lo ≤ _; omega⟩, ⟨by have := h.lo; show _ ≤ t.lo; omega, by have := h.hi; show t.lo ≤ _; omega⟩⟩
theorem ab_end {S T : State} (h : AbTo S T 3) : About S T (low T.p) (low T.v) ∧ Pv64 S ∧ Pv64 T := by
  have p0 : GoodP S.p.x T.p.x := h.p 0 (by omega)
  have p1 : GoodP S.p.y T.p.y := h.p 1 (by omega)
  have p2 : GoodP S.p.z T.p.z := h.p 2 (by omega)
  have v0 : GoodP S.v.x T.v.x := h.v 0 (by omega)
  have v1 : GoodP S.v.y T.v.y := h.v 1 (by omega)
  have v2 : GoodP S.v.z T.v.z := h.v 2 (by omega)
  have ok : ∀ {b : Bx}, b.x.okB = true → b.y.okB = true → b.z.okB = true → b.okB = true := fun {b} h1 h2 h3 => by unfold Bx.okB; rw [h1, h2, h3]; rfl
  have ep : T.p = pts (low T.p) := by
    have e0 := p0.pt
    have e1 := p1.pt
    have e2 := p2.pt
    generalize T.p = b at *
    obtain ⟨x, y, z⟩ := b
    simp only at e0 e1 e2
    rw [e0, e1, e2]
    rfl
  have ev : T.v = pts (low T.v) := by
    have e0 := v0.pt
    have e1 := v1.pt
    have e2 := v2.pt
    generalize T.v = b at *
    obtain ⟨x, y, z⟩ := b
    simp only at e0 e1 e2
    rw [e0, e1, e2]
    rfl
  refine ⟨⟨h.st, h.sm, ?_, ⟨⟨p0.lo, p0.hi⟩, ⟨p1.lo, p1.hi⟩, p2.lo, p2.hi⟩, ⟨⟨v0.lo, v0.hi⟩, ⟨v1.lo, v1.hi⟩, v2.lo, v2.hi⟩, ⟨⟨p0.has1, p1.has1, p2.has1⟩, ⟨v0.has1, v1.has1, v2.has1⟩⟩, ⟨ok p0.ok p1.ok p2.ok, ok v0.ok v1.ok v2.ok⟩⟩, ⟨⟨p0.s64, p1.s64, p2.s64⟩, ⟨v0.s64, v1.s64, v2.s64⟩⟩, ⟨⟨p0.t64, p1.t64, p2.t64⟩, ⟨v0.t64, v1.t64, v2.t64⟩⟩⟩
  have e1 := h.tt
  have e2 := h.tm
  generalize hl : low T.p = l at *
  generalize hm : low T.v = m at *
  obtain ⟨t, p, v, m⟩ := T
  simp only at e1 e2 ep ev
  rw [e1, e2, ep, ev]
instance cLen_set6 (l : List Value) (i : Nat) (v : Value) (n : Nat) [h : CLen l n] : CLen (l.set i v) n := ⟨by rw [List.length_set]; exact h.len⟩
theorem res_two_c {fn : Func} {tmps : Array Value} {W : World} {p q : Tmp} {ty ty2 t t2 : TypeId} {b b2 n n2 : Nat} {l l2 : List Value} (h : fn.results = #[.cell p ty, .cell q ty2]) (hp : tmps.getD p undef = .pointer (some ⟨b, 0, none⟩)) (hq : tmps.getD q undef = .pointer (some ⟨b2, 0, none⟩)) (hs : StructTy ty n) (hs2 : StructTy ty2 n2) (hr : RowIs W b t l) (hr2 : RowIs W b2 t2 l2) (hl : CLen l n) (hl2 : CLen l2 n2) :
    (results fn tmps).run Try.prog W = .ok (.tuple #[.agg l.toArray, .agg l2.toArray]) W := by
  have h3 := loadVar_is (ty := ty) hs hr hl.len
  have h4 := loadVar_is (ty := ty2) hs2 hr2 hl2.len
  simp only [Array.getD_eq_getD_getElem?] at hp hq
  simp [results, h, asAddr, hp, hq, h3, h4]
def RetAb (w : World) (e : Ending) (w' : World) : Prop := ∃ (s t : State) (u v : V3), About s t u v ∧ Pv64 s ∧ Pv64 t ∧ e = .returned (.tuple #[.agg s.cells.toArray, .agg t.cells.toArray]) ∧ Grew w w'
instance : StructTy 35 12 := ⟨⟨_, Try.underlying35, rfl⟩, by kernel_rfl⟩
instance cLen_tr (x : Tr) : CLen x.cells 12 := ⟨rfl⟩
@[go_sem] theorem trGet0 (x : Tr) : x.cells[0]? = some (.int .i32 (x.p 0)) := rfl
@[go_sem] theorem trGet1 (x : Tr) : x.cells[1]? = some (.int .i32 (x.p 1)) := rfl
@[go_sem] theorem trGet2 (x : Tr) : x.cells[2]? = some (.int .i32 (x.p 2)) := rfl
@[go_sem] theorem trGet3 (x : Tr) : x.cells[3]? = some (.int .i32 (x.v 0)) := rfl
@[go_sem] theorem trGet4 (x : Tr) : x.cells[4]? = some (.int .i32 (x.v 1)) := rfl
@[go_sem] theorem trGet5 (x : Tr) : x.cells[5]? = some (.int .i32 (x.v 2)) := rfl
@[go_sem] theorem trGet6 (x : Tr) : x.cells[6]? = some (.int .u16 (x.w 0)) := rfl
@[go_sem] theorem trGet7 (x : Tr) : x.cells[7]? = some (.int .u16 (x.w 1)) := rfl
@[go_sem] theorem trGet8 (x : Tr) : x.cells[8]? = some (.int .u16 (x.w 2)) := rfl
@[go_sem] theorem trGet9 (x : Tr) : x.cells[9]? = some (.int .u16 (x.w 3)) := rfl
@[go_sem] theorem trGet10 (x : Tr) : x.cells[10]? = some (.int .u16 (x.w 4)) := rfl
@[go_sem] theorem trGet11 (x : Tr) : x.cells[11]? = some (.int .u16 (x.w 5)) := rfl
theorem row_cast {w : World} {b : Nat} {t : TypeId} {l l' : List Value} (h : RowIs w b t l) (e : l = l') : RowIs w b t l' := e ▸ h
def pLo (P w : Int) : Int := IntKind.i64.wrap (P - IntKind.i64.wrap (IntKind.i64.wrap w * 67108864))
def pHi (P w : Int) : Int := IntKind.i64.wrap (P + IntKind.i64.wrap (IntKind.i64.wrap w * 33554432))
def vLo (P w : Int) : Int := wrap64 (P - wrap64 (wrap64 w * 524288))
def vHi (P w : Int) : Int := wrap64 (P + wrap64 (wrap64 w * 1048576))
theorem goodp (P w w' : Int) (h1 : -36028797018963968 ≤ P) (h2 : P ≤ 36028797018963968) (h3 : 0 ≤ w) (h4 : w ≤ 65535) (h5 : 0 ≤ w') (h6 : w' ≤ 65535) : GoodP ⟨pLo P w, pHi P w'⟩ ⟨P, P⟩ := by
  unfold pLo pHi
  simp only [IntKind.wrap_i64]
  try unfold wrap64
  exact ⟨rfl, by simp only; omega, by simp only; omega, by simp only; omega, by simp only; omega⟩
theorem goodv (P w w' : Int) (h1 : -2251799813685248 ≤ P) (h2 : P ≤ 2251799813685248) (h3 : 0 ≤ w) (h4 : w ≤ 65535) (h5 : 0 ≤ w') (h6 : w' ≤ 65535) : GoodP ⟨vLo P w, vHi P w'⟩ ⟨P, P⟩ := by
  unfold vLo vHi wrap64
  exact ⟨rfl, by simp only; omega, by simp only; omega, by simp only; omega, by simp only; omega⟩
theorem pBd (q : Int) : -36028797018963968 ≤ wrap64 (wrap64 (wrap32 q) * 16777216) ∧ wrap64 (wrap64 (wrap32 q) * 16777216) ≤ 36028797018963968 := by
  unfold wrap64 wrap32
  omega
theorem vBd (q : Int) : -2251799813685248 ≤ wrap64 (wrap64 (wrap32 q) * 1048576) ∧ wrap64 (wrap64 (wrap32 q) * 1048576) ≤ 2251799813685248 := by
  unfold wrap64 wrap32
  omega
theorem l6About_any (x : Tr) (hx : x.Ok) (w : World) : Calls Try.prog 10 #[.agg x.cells.toArray] w (RetAb w) := by
  have HX := Lib.hid hx
  have HT := Lib.hid (trAt x)
  clear hx
  have W1 := Lib.hid (fun w => show Calls Try.prog 28 #[.int .i64 1, .int .i64 1] w (fun e w' => e = .returned (.agg #[.int .i64 4294967296, .int .i64 4294967296]) ∧ Grew w w') from l6Wide_any 1 1 (by decide) (by decide) (by decide) (by decide) w)
  go_enter Try.func10, Try.ntmps10
  go_wp2_with (first | (go_at_call 28; (with_reducible refine call_later (W1.out _) ?_); intro u1) | (with_reducible refine wLr ?_) | (with_reducible refine wLi ?_) | (with_reducible refine wSf ?_) | (with_reducible refine wSi ?_))
  have n1 : NewFor w w.heap.size := inferInstance
  have n2 : NewFor w (w.heap.size + 1) := inferInstance
  have n3 : NewFor w (w.heap.size + 1 + 1) := inferInstance
  have n4 : NewFor w u1.world.heap.size := inferInstance
  have n5 : NewFor w (u1.world.heap.size + 1) := inferInstance
  have hl : w.heap.size + 1 + 1 < u1.world.heap.size := by have := Grew.size u1.grew; simp at this; omega
  go_loopw [12] (fun j wr => ∃ (k : Nat) (S T : State), j = .int .i64 k ∧ k ≤ 3 ∧ Hid (AbTo S T k) ∧ Grew w wr ∧ RowIs wr w.heap.size 35 x.cells ∧ RowIs wr (w.heap.size + 1) 43 zeros15 ∧ RowIs wr (w.heap.size + 1 + 1) 43 zeros15 ∧ RowIs wr u1.world.heap.size 43 S.cells ∧ RowIs wr (u1.world.heap.size + 1) 43 T.cells) (fun j _ => 3 - (intOf j).toNat)
  case atStart =>
    exact ⟨0, ⟨0, ⟨⟨0, 0⟩, ⟨0, 0⟩, ⟨0, 0⟩⟩, ⟨⟨0, 0⟩, ⟨0, 0⟩, ⟨0, 0⟩⟩, oneS⟩, ⟨0, ⟨⟨0, 0⟩, ⟨0, 0⟩, ⟨0, 0⟩⟩, ⟨⟨0, 0⟩, ⟨0, 0⟩, ⟨0, 0⟩⟩, oneS⟩, rfl, by omega, Lib.hid ⟨rfl, rfl, rfl, rfl, fun i hi => by omega, fun i hi => by omega⟩, gw, inferInstance, inferInstance, inferInstance, row_cast inferInstance rfl, row_cast inferInstance rfl⟩
  case round =>
    obtain ⟨k, S, T, rfl, hk, hA, hg, r1, r2, r3, r4, r5⟩ := hrel
    have i1 := r1.blockIn
    have i2 := r2.blockIn
    have i3 := r3.blockIn
    have i4 := r4.blockIn
    have i5 := r5.blockIn
    have : Apart (w.heap.size) (u1.world.heap.size) := ⟨by omega⟩
    have : Apart (w.heap.size) (u1.world.heap.size + 1) := ⟨by omega⟩
    have : Apart (w.heap.size + 1) (u1.world.heap.size) := ⟨by omega⟩
    have : Apart (w.heap.size + 1) (u1.world.heap.size + 1) := ⟨by omega⟩
    have : Apart (w.heap.size + 1 + 1) (u1.world.heap.size) := ⟨by omega⟩
    have : Apart (w.heap.size + 1 + 1) (u1.world.heap.size + 1) := ⟨by omega⟩
    have : Apart (u1.world.heap.size) (w.heap.size) := ⟨by omega⟩
    have : Apart (u1.world.heap.size) (w.heap.size + 1) := ⟨by omega⟩
    have : Apart (u1.world.heap.size) (w.heap.size + 1 + 1) := ⟨by omega⟩
    have : Apart (u1.world.heap.size + 1) (w.heap.size) := ⟨by omega⟩
    have : Apart (u1.world.heap.size + 1) (w.heap.size + 1) := ⟨by omega⟩
    have : Apart (u1.world.heap.size + 1) (w.heap.size + 1 + 1) := ⟨by omega⟩
    generalize u1.world.heap.size = q4 at *
    rcases (show k = 0 ∨ k = 1 ∨ k = 2 ∨ k = 3 by omega) with rfl | rfl | rfl | rfl
    · skip
      obtain ⟨p1, p2⟩ := HX.out.p 0
      obtain ⟨v1, v2⟩ := HX.out.v 0
      obtain ⟨a1, a2⟩ := HX.out.w 0
      obtain ⟨b1, b2⟩ := HX.out.w ((0 + 2) % 6)
      obtain ⟨d1, d2⟩ := HX.out.w (3 + 0)
      obtain ⟨e1, e2⟩ := HX.out.w ((0 + 4) % 6)
      go_wp2
      ((with_reducible refine wp_region_later ?_ ?_ ?_); (· kernel_rfl); (· kernel_rfl); (try simp only [List.append_eq, List.cons_append, List.nil_append]); (repeat (go_big_quiet_step (fail))); refine wpQuiet_nil ?_; rintro _ ⟨u, rfl⟩)
      go_wp2
      obtain ⟨P1, P2⟩ := pBd ((x.p 0).tdiv 16)
      obtain ⟨V1, V2⟩ := vBd ((x.v 0).tdiv 4096)
      generalize wrap64 (wrap64 (wrap32 ((x.p 0).tdiv 16)) * 16777216) = P at *
      generalize wrap64 (wrap64 (wrap32 ((x.v 0).tdiv 4096)) * 1048576) = V at *
      go_region_with (go_at_call 31; refine call_later (l6Point_any _ _) ?_; intro u2)
      have f1 : (IntKind.i64.wrap 2).tmod 6 = 2 := by decide
      have f2 : IntKind.i64.wrap 3 = 3 := by decide
      have f3 : (IntKind.i64.wrap 4).tmod 6 = 4 := by decide
      go_wp2
      refine wp_region_grown 22 [] [] [] (fun W0 => []) [] [22] (by rfl) (fun _ x hx => absurd hx (List.not_mem_nil)) (by kernel_rfl) (by kernel_rfl) (by kernel_rfl) ?_
      intro p
      apply Exists.intro
      apply And.intro
      iterate 22 (apply lexg_pure (by kernel_rfl); (· intro u; unfold opPure; go_simp; rfl))
      apply lexg_end
      rotate_left
      · rfl
      intro u hR hD
      clear hR hD
      refine tail_store (by rfl) ?_; unfold opStore; go_simp
      refine tail_end ?_
      go_wp2
      refine wp_region_grown 23 [] [] [] (fun W0 => []) [] [23] (by rfl) (fun _ x hx => absurd hx (List.not_mem_nil)) (by kernel_rfl) (by kernel_rfl) (by kernel_rfl) ?_
      intro p
      apply Exists.intro
      apply And.intro
      iterate 23 (apply lexg_pure (by kernel_rfl); (· intro u; unfold opPure; go_simp; rfl))
      apply lexg_end
      rotate_left
      · rfl
      intro u hR hD
      clear hR hD
      refine tail_store (by rfl) ?_; unfold opStore; go_simp
      refine tail_end ?_
      go_wp2
      have HG1 := Lib.hid (goodp P (x.w 0) (x.w 2) P1 P2 a1 a2 b1 b2)
      have HG2 := Lib.hid (goodv V (x.w 3) (x.w 4) V1 V2 d1 d2 e1 e2)
      go_roundw
      case rel => exact ⟨0 + 1, { S with p := S.p.put 0 ⟨pLo P (x.w 0), pHi P (x.w 2)⟩, v := S.v.put 0 ⟨vLo V (x.w 3), vHi V (x.w 4)⟩ }, { T with p := T.p.put 0 ⟨P, P⟩, v := T.v.put 0 ⟨V, V⟩ }, rfl, by omega, Lib.hid (abTo_next (by decide) hA.out HG1.out HG2.out), gw, inferInstance, inferInstance, inferInstance, row_cast inferInstance rfl, row_cast inferInstance rfl⟩
      case measure => simp [intOf]
    · skip
      obtain ⟨p1, p2⟩ := HX.out.p 1
      obtain ⟨v1, v2⟩ := HX.out.v 1
      obtain ⟨a1, a2⟩ := HX.out.w 1
      obtain ⟨b1, b2⟩ := HX.out.w ((1 + 2) % 6)
      obtain ⟨d1, d2⟩ := HX.out.w (3 + 1)
      obtain ⟨e1, e2⟩ := HX.out.w ((1 + 4) % 6)
      go_wp2
      ((with_reducible refine wp_region_later ?_ ?_ ?_); (· kernel_rfl); (· kernel_rfl); (try simp only [List.append_eq, List.cons_append, List.nil_append]); (repeat (go_big_quiet_step (fail))); refine wpQuiet_nil ?_; rintro _ ⟨u, rfl⟩)
      go_wp2
      obtain ⟨P1, P2⟩ := pBd ((x.p 1).tdiv 16)
      obtain ⟨V1, V2⟩ := vBd ((x.v 1).tdiv 4096)
      generalize wrap64 (wrap64 (wrap32 ((x.p 1).tdiv 16)) * 16777216) = P at *
      generalize wrap64 (wrap64 (wrap32 ((x.v 1).tdiv 4096)) * 1048576) = V at *
      go_region_with (go_at_call 31; refine call_later (l6Point_any _ _) ?_; intro u2)
      have f1 : (IntKind.i64.wrap 3).tmod 6 = 3 := by decide
      have f2 : IntKind.i64.wrap 4 = 4 := by decide
      have f3 : (IntKind.i64.wrap 5).tmod 6 = 5 := by decide
      go_wp2
      refine wp_region_grown 22 [] [] [] (fun W0 => []) [] [22] (by rfl) (fun _ x hx => absurd hx (List.not_mem_nil)) (by kernel_rfl) (by kernel_rfl) (by kernel_rfl) ?_
      intro p
      apply Exists.intro
      apply And.intro
      iterate 22 (apply lexg_pure (by kernel_rfl); (· intro u; unfold opPure; go_simp; rfl))
      apply lexg_end
      rotate_left
      · rfl
      intro u hR hD
      clear hR hD
      refine tail_store (by rfl) ?_; unfold opStore; go_simp
      refine tail_end ?_
      go_wp2
      refine wp_region_grown 23 [] [] [] (fun W0 => []) [] [23] (by rfl) (fun _ x hx => absurd hx (List.not_mem_nil)) (by kernel_rfl) (by kernel_rfl) (by kernel_rfl) ?_
      intro p
      apply Exists.intro
      apply And.intro
      iterate 23 (apply lexg_pure (by kernel_rfl); (· intro u; unfold opPure; go_simp; rfl))
      apply lexg_end
      rotate_left
      · rfl
      intro u hR hD
      clear hR hD
      refine tail_store (by rfl) ?_; unfold opStore; go_simp
      refine tail_end ?_
      go_wp2
      have HG1 := Lib.hid (goodp P (x.w 1) (x.w 3) P1 P2 a1 a2 b1 b2)
      have HG2 := Lib.hid (goodv V (x.w 4) (x.w 5) V1 V2 d1 d2 e1 e2)
      go_roundw
      case rel => exact ⟨1 + 1, { S with p := S.p.put 1 ⟨pLo P (x.w 1), pHi P (x.w 3)⟩, v := S.v.put 1 ⟨vLo V (x.w 4), vHi V (x.w 5)⟩ }, { T with p := T.p.put 1 ⟨P, P⟩, v := T.v.put 1 ⟨V, V⟩ }, rfl, by omega, Lib.hid (abTo_next (by decide) hA.out HG1.out HG2.out), gw, inferInstance, inferInstance, inferInstance, row_cast inferInstance rfl, row_cast inferInstance rfl⟩
      case measure => simp [intOf]
    · skip
      obtain ⟨p1, p2⟩ := HX.out.p 2
      obtain ⟨v1, v2⟩ := HX.out.v 2
      obtain ⟨a1, a2⟩ := HX.out.w 2
      obtain ⟨b1, b2⟩ := HX.out.w ((2 + 2) % 6)
      obtain ⟨d1, d2⟩ := HX.out.w (3 + 2)
      obtain ⟨e1, e2⟩ := HX.out.w ((2 + 4) % 6)
      go_wp2
      ((with_reducible refine wp_region_later ?_ ?_ ?_); (· kernel_rfl); (· kernel_rfl); (try simp only [List.append_eq, List.cons_append, List.nil_append]); (repeat (go_big_quiet_step (fail))); refine wpQuiet_nil ?_; rintro _ ⟨u, rfl⟩)
      go_wp2
      obtain ⟨P1, P2⟩ := pBd ((x.p 2).tdiv 16)
      obtain ⟨V1, V2⟩ := vBd ((x.v 2).tdiv 4096)
      generalize wrap64 (wrap64 (wrap32 ((x.p 2).tdiv 16)) * 16777216) = P at *
      generalize wrap64 (wrap64 (wrap32 ((x.v 2).tdiv 4096)) * 1048576) = V at *
      go_region_with (go_at_call 31; refine call_later (l6Point_any _ _) ?_; intro u2)
      have f1 : (IntKind.i64.wrap 4).tmod 6 = 4 := by decide
      have f2 : IntKind.i64.wrap 5 = 5 := by decide
      have f3 : (IntKind.i64.wrap 6).tmod 6 = 0 := by decide
      go_wp2
      refine wp_region_grown 22 [] [] [] (fun W0 => []) [] [22] (by rfl) (fun _ x hx => absurd hx (List.not_mem_nil)) (by kernel_rfl) (by kernel_rfl) (by kernel_rfl) ?_
      intro p
      apply Exists.intro
      apply And.intro
      iterate 22 (apply lexg_pure (by kernel_rfl); (· intro u; unfold opPure; go_simp; rfl))
      apply lexg_end
      rotate_left
      · rfl
      intro u hR hD
      clear hR hD
      refine tail_store (by rfl) ?_; unfold opStore; go_simp
      refine tail_end ?_
      go_wp2
      refine wp_region_grown 23 [] [] [] (fun W0 => []) [] [23] (by rfl) (fun _ x hx => absurd hx (List.not_mem_nil)) (by kernel_rfl) (by kernel_rfl) (by kernel_rfl) ?_
      intro p
      apply Exists.intro
      apply And.intro
      iterate 23 (apply lexg_pure (by kernel_rfl); (· intro u; unfold opPure; go_simp; rfl))
      apply lexg_end
      rotate_left
      · rfl
      intro u hR hD
      clear hR hD
      refine tail_store (by rfl) ?_; unfold opStore; go_simp
      refine tail_end ?_
      go_wp2
      have HG1 := Lib.hid (goodp P (x.w 2) (x.w 4) P1 P2 a1 a2 b1 b2)
      have HG2 := Lib.hid (goodv V (x.w 5) (x.w 0) V1 V2 d1 d2 e1 e2)
      go_roundw
      case rel => exact ⟨2 + 1, { S with p := S.p.put 2 ⟨pLo P (x.w 2), pHi P (x.w 4)⟩, v := S.v.put 2 ⟨vLo V (x.w 5), vHi V (x.w 0)⟩ }, { T with p := T.p.put 2 ⟨P, P⟩, v := T.v.put 2 ⟨V, V⟩ }, rfl, by omega, Lib.hid (abTo_next (by decide) hA.out HG1.out HG2.out), gw, inferInstance, inferInstance, inferInstance, row_cast inferInstance rfl, row_cast inferInstance rfl⟩
      case measure => simp [intOf]
    · go_wp2
      go_region
      all_goals go_wp2
      refine bodyPost_ret (res_two_c Try.results10 rfl rfl inferInstance inferInstance inferInstance inferInstance inferInstance inferInstance) rfl ?_
      obtain ⟨g1, g2, g3⟩ := ab_end hA.out
      exact ⟨S, T, low T.p, low T.v, g1, g2, g3, rfl, gw⟩
end Go.Proofs.Ytdkfkalplmgoeaa
