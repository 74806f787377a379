/-
  Contracts of ullageref03.inside, Inside.
-/
import Derived.Test.YtnedbhdokljpcaaGreatInside
namespace Go.Proofs.YtnedbhdokljpcaaGreat
open Go.RowKit Go.Shelf
set_option maxRecDepth 100000
set_option maxHeartbeats 8000000
def boxAtI (b : Bx) (i : Nat) : Sp := b.list.getD i z0
theorem three_at {w : World} {q : Nat} {b : Bx} (h : BoxAt w q [.int .i64 b.x.lo, .int .i64 b.x.hi, .int .i64 b.y.lo, .int .i64 b.y.hi, .int .i64 b.z.lo, .int .i64 b.z.hi]) (i : Nat) (hi : i < 3) : w.cell? ⟨q, i * 2, none⟩ = some (.int .i64 (boxAtI b i).lo) ∧ w.cell? ⟨q, i * 2 + 1, none⟩ = some (.int .i64 (boxAtI b i).hi) := by
  match i, hi with
  | 0, _ => exact ⟨(h 0 _ rfl).1, (h 1 _ rfl).1⟩
  | 1, _ => exact ⟨(h 2 _ rfl).1, (h 3 _ rfl).1⟩
  | 2, _ => exact ⟨(h 4 _ rfl).1, (h 5 _ rfl).1⟩
theorem state_at {w : World} {q : Nat} {s : State} (h : BoxAt w q [.int .i64 s.t, .int .i64 s.p.x.lo, .int .i64 s.p.x.hi, .int .i64 s.p.y.lo, .int .i64 s.p.y.hi, .int .i64 s.p.z.lo, .int .i64 s.p.z.hi, .int .i64 s.v.x.lo, .int .i64 s.v.x.hi, .int .i64 s.v.y.lo, .int .i64 s.v.y.hi, .int .i64 s.v.z.lo, .int .i64 s.v.z.hi, .int .i64 s.m.lo, .int .i64 s.m.hi]) (i : Nat) (hi : i < 3) : (w.cell? ⟨q, 1 + i * 2, none⟩ = some (.int .i64 (boxAtI s.p i).lo) ∧ w.cell? ⟨q, 1 + i * 2 + 1, none⟩ = some (.int .i64 (boxAtI s.p i).hi)) ∧ w.cell? ⟨q, 7 + i * 2, none⟩ = some (.int .i64 (boxAtI s.v i).lo) ∧ w.cell? ⟨q, 7 + i * 2 + 1, none⟩ = some (.int .i64 (boxAtI s.v i).hi) := by
  match i, hi with
  | 0, _ => exact ⟨⟨(h 1 _ rfl).1, (h 2 _ rfl).1⟩, (h 7 _ rfl).1, (h 8 _ rfl).1⟩
  | 1, _ => exact ⟨⟨(h 3 _ rfl).1, (h 4 _ rfl).1⟩, (h 9 _ rfl).1, (h 10 _ rfl).1⟩
  | 2, _ => exact ⟨⟨(h 5 _ rfl).1, (h 6 _ rfl).1⟩, (h 11 _ rfl).1, (h 12 _ rfl).1⟩
def insB (a b : Bx) (i : Nat) : Bool := (boxAtI a i).inB (boxAtI b i)
theorem allTo_false {f : Nat → Bool} {k n : Nat} (h : f k = false) (hk : k < n) : allTo f n = false := by
  induction n with
  | zero => omega
  | succ n ih =>
    show (allTo f n && f n) = false
    by_cases e : k = n
    · rw [← e, h, Bool.and_false]
    · rw [ih (by omega), Bool.false_and]
theorem r3InsideB_any (aA bB : Bx) (w : World) : Calls Tryz.prog 67 #[.agg #[.int .i64 aA.x.lo, .int .i64 aA.x.hi, .int .i64 aA.y.lo, .int .i64 aA.y.hi, .int .i64 aA.z.lo, .int .i64 aA.z.hi], .agg #[.int .i64 bB.x.lo, .int .i64 bB.x.hi, .int .i64 bB.y.lo, .int .i64 bB.y.hi, .int .i64 bB.z.lo, .int .i64 bB.z.hi]] w fun e w' => e = .returned (.bool (allTo (insB aA bB) 3)) ∧ Grew w w' := by
  have B1 := (BoxAt.grew (boxAt_new w [.int .i64 aA.x.lo, .int .i64 aA.x.hi, .int .i64 aA.y.lo, .int .i64 aA.y.hi, .int .i64 aA.z.lo, .int .i64 aA.z.hi] 26) (by simp) ((Grew.refl _).alloc (.cells #[.int .i64 bB.x.lo, .int .i64 bB.x.hi, .int .i64 bB.y.lo, .int .i64 bB.y.hi, .int .i64 bB.z.lo, .int .i64 bB.z.hi] 26)))
  have B2 := boxAt_new (w.alloc (.cells #[.int .i64 aA.x.lo, .int .i64 aA.x.hi, .int .i64 aA.y.lo, .int .i64 aA.y.hi, .int .i64 aA.z.lo, .int .i64 aA.z.hi] 26)) [.int .i64 bB.x.lo, .int .i64 bB.x.hi, .int .i64 bB.y.lo, .int .i64 bB.y.hi, .int .i64 bB.z.lo, .int .i64 bB.z.hi] 26
  rw [show (w.alloc (.cells ([.int .i64 aA.x.lo, .int .i64 aA.x.hi, .int .i64 aA.y.lo, .int .i64 aA.y.hi, .int .i64 aA.z.lo, .int .i64 aA.z.hi] : List Value).toArray 26)).heap.size = w.heap.size + 1 by simp] at B2
  have H1 := Lib.hid (three_at B1)
  have H2 := Lib.hid (three_at B2)
  have HW := Lib.hid (fun i w => show Calls Tryz.prog 125 #[.agg #[.int .i64 (boxAtI aA i).lo, .int .i64 (boxAtI aA i).hi], .agg #[.int .i64 (boxAtI bB i).lo, .int .i64 (boxAtI bB i).hi]] w fun e w' => e = .returned (.bool (insB aA bB i)) ∧ Grew w w' from rWithin_any _ _ w)
  clear B1 B2
  generalize hf : insB aA bB = f at *
  go_enter Tryz.func67, Tryz.ntmps67
  go_wp2
  go_loopw [5] (fun t wr => ∃ i : Nat, t = .int .i64 i ∧ i ≤ 3 ∧ allTo f i = true ∧ Grew ((w.alloc (.cells #[.int .i64 aA.x.lo, .int .i64 aA.x.hi, .int .i64 aA.y.lo, .int .i64 aA.y.hi, .int .i64 aA.z.lo, .int .i64 aA.z.hi] 26)).alloc (.cells #[.int .i64 bB.x.lo, .int .i64 bB.x.hi, .int .i64 bB.y.lo, .int .i64 bB.y.hi, .int .i64 bB.z.lo, .int .i64 bB.z.hi] 26)) wr) (fun t _ => 3 - (intOf t).toNat)
  case atStart => exact ⟨0, rfl, by omega, rfl, (by repeat (first | with_reducible exact Grew.refl _ | with_reducible apply Grew.alloc | with_reducible apply Grew.later | with_reducible apply Grew.drew | with_reducible apply Grew.store | with_reducible assumption))⟩
  case round =>
    obtain ⟨i, rfl, hi, hall, hg⟩ := hrel
    obtain ⟨z, rfl⟩ := later_of hg
    clear hg
    have Hall := Lib.hid hall
    clear hall
    by_cases hlt : i < 3
    · obtain ⟨c0, c1⟩ := H1.out i hlt
      obtain ⟨d0, d1⟩ := H2.out i hlt
      have t1 : ((i : Nat) : Int) < 3 := by omega
      have W1 := Lib.hid (HW.out i)
      have hno := Lib.hid (fun h : f i = false => allTo_false h hlt)
      have hyes := Lib.hid (fun h : f i = true => show allTo f (i + 1) = true by show (allTo f i && f i) = true; rw [Hall.out, h]; rfl)
      generalize boxAtI aA i = a1 at *
      generalize boxAtI bB i = a2 at *
      cases hx : f i
      · rw [hx] at W1
        have hn := Lib.hid (hno.out hx)
        clear hx hno hyes
        go_wp2_with (first | (go_at_call 125; (with_reducible refine call_later (W1.out _) ?_); intro u) | ((with_reducible refine wp_region_later ?_ ?_ ?_); (· kernel_rfl); (· kernel_rfl); (try simp only [List.append_eq, List.cons_append, List.nil_append]); (repeat (go_big_quiet_step ((first | (go_at_call 125; (with_reducible exact call_quiet (W1.out _))))))); refine wpQuiet_nil ?_; rintro _ ⟨u, rfl⟩))
        go_ret
        exact ⟨by rw [hn.out]; rfl, (by repeat (first | with_reducible exact Grew.refl _ | with_reducible apply Grew.alloc | with_reducible apply Grew.later | with_reducible apply Grew.drew | with_reducible apply Grew.store | with_reducible assumption))⟩
      · rw [hx] at W1
        have hn := Lib.hid (hyes.out hx)
        clear hx hno hyes
        go_wp2_with (first | (go_at_call 125; (with_reducible refine call_later (W1.out _) ?_); intro u) | ((with_reducible refine wp_region_later ?_ ?_ ?_); (· kernel_rfl); (· kernel_rfl); (try simp only [List.append_eq, List.cons_append, List.nil_append]); (repeat (go_big_quiet_step ((first | (go_at_call 125; (with_reducible exact call_quiet (W1.out _))))))); refine wpQuiet_nil ?_; rintro _ ⟨u, rfl⟩))
        go_roundw
        case rel => exact ⟨i + 1, by go_num, by omega, hn.out, (by repeat (first | with_reducible exact Grew.refl _ | with_reducible apply Grew.alloc | with_reducible apply Grew.later | with_reducible apply Grew.drew | with_reducible apply Grew.store | with_reducible assumption))⟩
        case measure => simp [intOf]; omega
    · have hi3 : i = 3 := by omega
      have t1 : decide ((i : Int) < 3) = false := by simp; omega
      have HQ := Lib.hid (show allTo f 3 = true by rw [← hi3]; exact Hall.out)
      clear hi3 hi hlt
      go_wp2
      go_ret
      exact ⟨by rw [HQ.out]; rfl, (by repeat (first | with_reducible exact Grew.refl _ | with_reducible apply Grew.alloc | with_reducible apply Grew.later | with_reducible apply Grew.drew | with_reducible apply Grew.store | with_reducible assumption))⟩
theorem r3Inside_no (s : State) (pP vV : Bx) (h : insideOk s pP vV = false) (w : World) : Calls Tryz.prog 17 #[.agg #[.int .i64 s.t, .int .i64 s.p.x.lo, .int .i64 s.p.x.hi, .int .i64 s.p.y.lo, .int .i64 s.p.y.hi, .int .i64 s.p.z.lo, .int .i64 s.p.z.hi, .int .i64 s.v.x.lo, .int .i64 s.v.x.hi, .int .i64 s.v.y.lo, .int .i64 s.v.y.hi, .int .i64 s.v.z.lo, .int .i64 s.v.z.hi, .int .i64 s.m.lo, .int .i64 s.m.hi], .agg #[.int .i64 pP.x.lo, .int .i64 pP.x.hi, .int .i64 pP.y.lo, .int .i64 pP.y.hi, .int .i64 pP.z.lo, .int .i64 pP.z.hi], .agg #[.int .i64 vV.x.lo, .int .i64 vV.x.hi, .int .i64 vV.y.lo, .int .i64 vV.y.hi, .int .i64 vV.z.lo, .int .i64 vV.z.hi]] w fun e w' => e = .returned (.tuple #[.bool (sureR s pP vV), .bool (mayR s pP vV)]) ∧ Grew w w' := by
  have HR := Lib.hid (show sureR s pP vV = false ∧ mayR s pP vV = false by unfold sureR mayR; rw [h]; exact ⟨rfl, rfl⟩)
  unfold insideOk at h
  cases h1 : s.okB
  all_goals
    cases h2 : pP.okB
    all_goals
      cases h3 : vV.okB
      all_goals
        first
          | (rw [h1, h2, h3] at h; cases h; done)
          | (have HS := Lib.hid (fun w' => is_int (congrArg (fun b => codeB b 2) h1) (r3State_any s w'))
             have HB := Lib.hid (fun w' => is_bool h2 (r3Box_any pP w'))
             have HV := Lib.hid (fun w' => is_bool h3 (r3Box_any vV w'))
             simp only [codeB] at HS
             clear h h1 h2 h3
             go_enter Tryz.func17, Tryz.ntmps17
             go_wp2_with (first | (go_at_call 66; (with_reducible refine call_later (HS.out _) ?_); intro u) | (go_at_call 39; (with_reducible refine call_later (HB.out _) ?_); intro u) | (go_at_call 39; (with_reducible refine call_later (HV.out _) ?_); intro u) | ((with_reducible refine wp_region_later ?_ ?_ ?_); (· kernel_rfl); (· kernel_rfl); (try simp only [List.append_eq, List.cons_append, List.nil_append]); (repeat (go_big_quiet_step ((first | (go_at_call 66; (with_reducible exact call_quiet (HS.out _))) | (go_at_call 39; (with_reducible exact call_quiet (HB.out _))) | (go_at_call 39; (with_reducible exact call_quiet (HV.out _))))))); refine wpQuiet_nil ?_; rintro _ ⟨u, rfl⟩))
             go_ret2
             exact ⟨by rw [HR.out.1, HR.out.2]; rfl, (by repeat (first | with_reducible exact Grew.refl _ | with_reducible apply Grew.alloc | with_reducible apply Grew.later | with_reducible apply Grew.drew | with_reducible apply Grew.store | with_reducible assumption))⟩)
theorem sure_is (s : State) (p v : Bx) : allTo (inF s p v) 6 = (allTo (insB s.p p) 3 && allTo (insB s.v v) 3) := by
  show (((((((true && (s.p.x).inB p.x) && (s.p.y).inB p.y) && (s.p.z).inB p.z) && (s.v.x).inB v.x) && (s.v.y).inB v.y) && (s.v.z).inB v.z)) = ((((true && (s.p.x).inB p.x) && (s.p.y).inB p.y) && (s.p.z).inB p.z) && (((true && (s.v.x).inB v.x) && (s.v.y).inB v.y) && (s.v.z).inB v.z))
  simp [Bool.and_assoc]
def ordB (a b : Bx) (i : Nat) : Bool := orderN (boxAtI a i) (boxAtI b i) == 0
theorem may_is (s : State) (p v : Bx) : allTo (mayF s p v) 6 = allTo (fun i => ordB s.p p i && ordB s.v v i) 3 := by
  show (((((((true && (orderN s.p.x p.x == 0)) && (orderN s.p.y p.y == 0)) && (orderN s.p.z p.z == 0)) && (orderN s.v.x v.x == 0)) && (orderN s.v.y v.y == 0)) && (orderN s.v.z v.z == 0))) = ((((true && ((orderN s.p.x p.x == 0) && (orderN s.v.x v.x == 0))) && ((orderN s.p.y p.y == 0) && (orderN s.v.y v.y == 0))) && ((orderN s.p.z p.z == 0) && (orderN s.v.z v.z == 0))))
  generalize (orderN s.p.x p.x == 0) = a
  generalize (orderN s.p.y p.y == 0) = b
  generalize (orderN s.p.z p.z == 0) = c
  generalize (orderN s.v.x v.x == 0) = d
  generalize (orderN s.v.y v.y == 0) = e
  generalize (orderN s.v.z v.z == 0) = f
  cases a <;> cases b <;> cases c <;> cases d <;> cases e <;> cases f <;> rfl
theorem r3Inside_yes (s : State) (pP vV : Bx) (h : insideOk s pP vV = true) (w : World) : Calls Tryz.prog 17 #[.agg #[.int .i64 s.t, .int .i64 s.p.x.lo, .int .i64 s.p.x.hi, .int .i64 s.p.y.lo, .int .i64 s.p.y.hi, .int .i64 s.p.z.lo, .int .i64 s.p.z.hi, .int .i64 s.v.x.lo, .int .i64 s.v.x.hi, .int .i64 s.v.y.lo, .int .i64 s.v.y.hi, .int .i64 s.v.z.lo, .int .i64 s.v.z.hi, .int .i64 s.m.lo, .int .i64 s.m.hi], .agg #[.int .i64 pP.x.lo, .int .i64 pP.x.hi, .int .i64 pP.y.lo, .int .i64 pP.y.hi, .int .i64 pP.z.lo, .int .i64 pP.z.hi], .agg #[.int .i64 vV.x.lo, .int .i64 vV.x.hi, .int .i64 vV.y.lo, .int .i64 vV.y.hi, .int .i64 vV.z.lo, .int .i64 vV.z.hi]] w fun e w' => e = .returned (.tuple #[.bool (sureR s pP vV), .bool (mayR s pP vV)]) ∧ Grew w w' := by
  have HR := Lib.hid (show sureR s pP vV = (allTo (insB s.p pP) 3 && allTo (insB s.v vV) 3) ∧ mayR s pP vV = allTo (fun i => ordB s.p pP i && ordB s.v vV i) 3 by unfold sureR mayR; rw [h, sure_is, may_is]; exact ⟨rfl, rfl⟩)
  unfold insideOk at h
  simp only [Bool.and_eq_true] at h
  obtain ⟨h1, h2, h3⟩ := h
  have HS := Lib.hid (fun w' => is_int (show codeB s.okB 2 = 0 by rw [h1]; rfl) (r3State_any s w'))
  have HB := Lib.hid (fun w' => is_bool h2 (r3Box_any pP w'))
  have HV := Lib.hid (fun w' => is_bool h3 (r3Box_any vV w'))
  have HI1 := Lib.hid (fun w' => r3InsideB_any s.p pP w')
  have HI2 := Lib.hid (fun w' => r3InsideB_any s.v vV w')
  clear h1 h2 h3
  have A0 := (Grew.refl ((w.alloc (.cells #[.int .i64 s.t, .int .i64 s.p.x.lo, .int .i64 s.p.x.hi, .int .i64 s.p.y.lo, .int .i64 s.p.y.hi, .int .i64 s.p.z.lo, .int .i64 s.p.z.hi, .int .i64 s.v.x.lo, .int .i64 s.v.x.hi, .int .i64 s.v.y.lo, .int .i64 s.v.y.hi, .int .i64 s.v.z.lo, .int .i64 s.v.z.hi, .int .i64 s.m.lo, .int .i64 s.m.hi] 33)).alloc (.cells #[.int .i64 pP.x.lo, .int .i64 pP.x.hi, .int .i64 pP.y.lo, .int .i64 pP.y.hi, .int .i64 pP.z.lo, .int .i64 pP.z.hi] 26))).alloc (.cells #[.int .i64 vV.x.lo, .int .i64 vV.x.hi, .int .i64 vV.y.lo, .int .i64 vV.y.hi, .int .i64 vV.z.lo, .int .i64 vV.z.hi] 26)
  have B1 := (boxAt_new w [.int .i64 s.t, .int .i64 s.p.x.lo, .int .i64 s.p.x.hi, .int .i64 s.p.y.lo, .int .i64 s.p.y.hi, .int .i64 s.p.z.lo, .int .i64 s.p.z.hi, .int .i64 s.v.x.lo, .int .i64 s.v.x.hi, .int .i64 s.v.y.lo, .int .i64 s.v.y.hi, .int .i64 s.v.z.lo, .int .i64 s.v.z.hi, .int .i64 s.m.lo, .int .i64 s.m.hi] 33).grew (by simp) (((Grew.refl _).alloc (.cells #[.int .i64 pP.x.lo, .int .i64 pP.x.hi, .int .i64 pP.y.lo, .int .i64 pP.y.hi, .int .i64 pP.z.lo, .int .i64 pP.z.hi] 26)).alloc (.cells #[.int .i64 vV.x.lo, .int .i64 vV.x.hi, .int .i64 vV.y.lo, .int .i64 vV.y.hi, .int .i64 vV.z.lo, .int .i64 vV.z.hi] 26))
  have B2 := (boxAt_new (w.alloc (.cells #[.int .i64 s.t, .int .i64 s.p.x.lo, .int .i64 s.p.x.hi, .int .i64 s.p.y.lo, .int .i64 s.p.y.hi, .int .i64 s.p.z.lo, .int .i64 s.p.z.hi, .int .i64 s.v.x.lo, .int .i64 s.v.x.hi, .int .i64 s.v.y.lo, .int .i64 s.v.y.hi, .int .i64 s.v.z.lo, .int .i64 s.v.z.hi, .int .i64 s.m.lo, .int .i64 s.m.hi] 33)) [.int .i64 pP.x.lo, .int .i64 pP.x.hi, .int .i64 pP.y.lo, .int .i64 pP.y.hi, .int .i64 pP.z.lo, .int .i64 pP.z.hi] 26).grew (by simp) ((Grew.refl _).alloc (.cells #[.int .i64 vV.x.lo, .int .i64 vV.x.hi, .int .i64 vV.y.lo, .int .i64 vV.y.hi, .int .i64 vV.z.lo, .int .i64 vV.z.hi] 26))
  have B3 := boxAt_new ((w.alloc (.cells #[.int .i64 s.t, .int .i64 s.p.x.lo, .int .i64 s.p.x.hi, .int .i64 s.p.y.lo, .int .i64 s.p.y.hi, .int .i64 s.p.z.lo, .int .i64 s.p.z.hi, .int .i64 s.v.x.lo, .int .i64 s.v.x.hi, .int .i64 s.v.y.lo, .int .i64 s.v.y.hi, .int .i64 s.v.z.lo, .int .i64 s.v.z.hi, .int .i64 s.m.lo, .int .i64 s.m.hi] 33)).alloc (.cells #[.int .i64 pP.x.lo, .int .i64 pP.x.hi, .int .i64 pP.y.lo, .int .i64 pP.y.hi, .int .i64 pP.z.lo, .int .i64 pP.z.hi] 26)) [.int .i64 vV.x.lo, .int .i64 vV.x.hi, .int .i64 vV.y.lo, .int .i64 vV.y.hi, .int .i64 vV.z.lo, .int .i64 vV.z.hi] 26
  rw [show (w.alloc (.cells (#[.int .i64 s.t, .int .i64 s.p.x.lo, .int .i64 s.p.x.hi, .int .i64 s.p.y.lo, .int .i64 s.p.y.hi, .int .i64 s.p.z.lo, .int .i64 s.p.z.hi, .int .i64 s.v.x.lo, .int .i64 s.v.x.hi, .int .i64 s.v.y.lo, .int .i64 s.v.y.hi, .int .i64 s.v.z.lo, .int .i64 s.v.z.hi, .int .i64 s.m.lo, .int .i64 s.m.hi] : Array Value) 33)).heap.size = w.heap.size + 1 by simp] at B2
  rw [show ((w.alloc (.cells (#[.int .i64 s.t, .int .i64 s.p.x.lo, .int .i64 s.p.x.hi, .int .i64 s.p.y.lo, .int .i64 s.p.y.hi, .int .i64 s.p.z.lo, .int .i64 s.p.z.hi, .int .i64 s.v.x.lo, .int .i64 s.v.x.hi, .int .i64 s.v.y.lo, .int .i64 s.v.y.hi, .int .i64 s.v.z.lo, .int .i64 s.v.z.hi, .int .i64 s.m.lo, .int .i64 s.m.hi] : Array Value) 33)).alloc (.cells (#[.int .i64 pP.x.lo, .int .i64 pP.x.hi, .int .i64 pP.y.lo, .int .i64 pP.y.hi, .int .i64 pP.z.lo, .int .i64 pP.z.hi] : Array Value) 26)).heap.size = w.heap.size + 1 + 1 by simp] at B3
  have H1 := Lib.hid (state_at B1)
  have H2 := Lib.hid (three_at B2)
  have H3 := Lib.hid (three_at B3)
  clear B1 B2 B3 A0
  have HO := Lib.hid (fun a b w => rOrder_any a b w)
  generalize hf : (fun i => ordB s.p pP i && ordB s.v vV i) = g at *
  have HF := Lib.hid (fun i => show g i = ((orderN (boxAtI s.p i) (boxAtI pP i) == 0) && (orderN (boxAtI s.v i) (boxAtI vV i) == 0)) by rw [← hf]; rfl)
  clear hf
  generalize allTo (insB s.v vV) 3 = y2 at *
  cases hy : allTo (insB s.p pP) 3
  all_goals
    rw [hy] at HI1 HR
    clear hy
    go_enter Tryz.func17, Tryz.ntmps17
    go_wp2_with (first | (go_at_call 66; (with_reducible refine call_later (HS.out _) ?_); intro u) | (go_at_call 39; (with_reducible refine call_later (HB.out _) ?_); intro u) | (go_at_call 39; (with_reducible refine call_later (HV.out _) ?_); intro u) | (go_at_call 67; (with_reducible refine call_later (HI1.out _) ?_); intro u) | (go_at_call 67; (with_reducible refine call_later (HI2.out _) ?_); intro u) | ((with_reducible refine wp_region_later ?_ ?_ ?_); (· kernel_rfl); (· kernel_rfl); (try simp only [List.append_eq, List.cons_append, List.nil_append]); (repeat (go_big_quiet_step ((first | (go_at_call 66; (with_reducible exact call_quiet (HS.out _))) | (go_at_call 39; (with_reducible exact call_quiet (HB.out _))) | (go_at_call 39; (with_reducible exact call_quiet (HV.out _))) | (go_at_call 67; (with_reducible exact call_quiet (HI1.out _))) | (go_at_call 67; (with_reducible exact call_quiet (HI2.out _))))))); refine wpQuiet_nil ?_; rintro _ ⟨u, rfl⟩))
    go_loopw [10, 11] (fun m t wr => ∃ i : Nat, t = .int .i64 i ∧ m = .bool (allTo g i) ∧ i ≤ 3 ∧ Grew (((w.alloc (.cells #[.int .i64 s.t, .int .i64 s.p.x.lo, .int .i64 s.p.x.hi, .int .i64 s.p.y.lo, .int .i64 s.p.y.hi, .int .i64 s.p.z.lo, .int .i64 s.p.z.hi, .int .i64 s.v.x.lo, .int .i64 s.v.x.hi, .int .i64 s.v.y.lo, .int .i64 s.v.y.hi, .int .i64 s.v.z.lo, .int .i64 s.v.z.hi, .int .i64 s.m.lo, .int .i64 s.m.hi] 33)).alloc (.cells #[.int .i64 pP.x.lo, .int .i64 pP.x.hi, .int .i64 pP.y.lo, .int .i64 pP.y.hi, .int .i64 pP.z.lo, .int .i64 pP.z.hi] 26)).alloc (.cells #[.int .i64 vV.x.lo, .int .i64 vV.x.hi, .int .i64 vV.y.lo, .int .i64 vV.y.hi, .int .i64 vV.z.lo, .int .i64 vV.z.hi] 26)) wr) (fun _ t _ => 3 - (intOf t).toNat)
    case atStart => exact ⟨0, rfl, rfl, by omega, (by repeat (first | with_reducible exact Grew.refl _ | with_reducible apply Grew.alloc | with_reducible apply Grew.later | with_reducible apply Grew.drew | with_reducible apply Grew.store | with_reducible assumption))⟩
    case round =>
      obtain ⟨i, rfl, rfl, hi, hg⟩ := hrel
      obtain ⟨z, rfl⟩ := later_of hg
      clear hg
      by_cases hlt : i < 3
      · obtain ⟨⟨c0, c1⟩, c2, c3⟩ := H1.out i hlt
        obtain ⟨d0, d1⟩ := H2.out i hlt
        obtain ⟨f0, f1⟩ := H3.out i hlt
        have t1 : ((i : Nat) : Int) < 3 := by omega
        have e1 : allTo g (i + 1) = (allTo g i && ((orderN (boxAtI s.p i) (boxAtI pP i) == 0) && (orderN (boxAtI s.v i) (boxAtI vV i) == 0))) := by rw [← HF.out i]; rfl
        generalize boxAtI s.p i = a1 at *
        generalize boxAtI pP i = a2 at *
        generalize boxAtI s.v i = a3 at *
        generalize boxAtI vV i = a4 at *
        have O1 := Lib.hid (fun w => HO.out a1 a2 w)
        have O2 := Lib.hid (fun w => HO.out a3 a4 w)
        generalize orderN a1 a2 = n1 at *
        generalize orderN a3 a4 = n2 at *
        by_cases k1 : n1 = 0
        · by_cases k2 : n2 = 0
          · have q1 : (n1 != 0) = false := by simp [k1]
            have q2 : (n2 != 0) = false := by simp [k2]
            have E1 := Lib.hid (show allTo g (i + 1) = allTo g i by rw [e1, k1, k2]; simp)
            clear e1 k1 k2 HO
            go_wp2_with (first | (go_at_call 68; (with_reducible refine call_later (O1.out _) ?_); intro u) | (go_at_call 68; (with_reducible refine call_later (O2.out _) ?_); intro u) | ((with_reducible refine wp_region_later ?_ ?_ ?_); (· kernel_rfl); (· kernel_rfl); (try simp only [List.append_eq, List.cons_append, List.nil_append]); (repeat (go_big_quiet_step ((first | (go_at_call 68; (with_reducible exact call_quiet (O1.out _))) | (go_at_call 68; (with_reducible exact call_quiet (O2.out _))))))); refine wpQuiet_nil ?_; rintro _ ⟨u, rfl⟩))
            go_roundw
            case rel => exact ⟨i + 1, by go_num, by rw [E1.out], by omega, (by repeat (first | with_reducible exact Grew.refl _ | with_reducible apply Grew.alloc | with_reducible apply Grew.later | with_reducible apply Grew.drew | with_reducible apply Grew.store | with_reducible assumption))⟩
            case measure => simp [intOf]; omega
          · have q1 : (n1 != 0) = false := by simp [k1]
            have q2 : (n2 != 0) = true := by simp [k2]
            have E1 := Lib.hid (show allTo g (i + 1) = false by rw [e1, show (n2 == 0) = false by simp [k2]]; simp)
            clear e1 k1 k2 HO
            go_wp2_with (first | (go_at_call 68; (with_reducible refine call_later (O1.out _) ?_); intro u) | (go_at_call 68; (with_reducible refine call_later (O2.out _) ?_); intro u) | ((with_reducible refine wp_region_later ?_ ?_ ?_); (· kernel_rfl); (· kernel_rfl); (try simp only [List.append_eq, List.cons_append, List.nil_append]); (repeat (go_big_quiet_step ((first | (go_at_call 68; (with_reducible exact call_quiet (O1.out _))) | (go_at_call 68; (with_reducible exact call_quiet (O2.out _))))))); refine wpQuiet_nil ?_; rintro _ ⟨u, rfl⟩))
            go_roundw
            case rel => exact ⟨i + 1, by go_num, by rw [E1.out], by omega, (by repeat (first | with_reducible exact Grew.refl _ | with_reducible apply Grew.alloc | with_reducible apply Grew.later | with_reducible apply Grew.drew | with_reducible apply Grew.store | with_reducible assumption))⟩
            case measure => simp [intOf]; omega
        · have q1 : (n1 != 0) = true := by simp [k1]
          have E1 := Lib.hid (show allTo g (i + 1) = false by rw [e1, show (n1 == 0) = false by simp [k1]]; simp)
          clear e1 k1 HO
          go_wp2_with (first | (go_at_call 68; (with_reducible refine call_later (O1.out _) ?_); intro u) | ((with_reducible refine wp_region_later ?_ ?_ ?_); (· kernel_rfl); (· kernel_rfl); (try simp only [List.append_eq, List.cons_append, List.nil_append]); (repeat (go_big_quiet_step ((first | (go_at_call 68; (with_reducible exact call_quiet (O1.out _))))))); refine wpQuiet_nil ?_; rintro _ ⟨u, rfl⟩))
          go_roundw
          case rel => exact ⟨i + 1, by go_num, by rw [E1.out], by omega, (by repeat (first | with_reducible exact Grew.refl _ | with_reducible apply Grew.alloc | with_reducible apply Grew.later | with_reducible apply Grew.drew | with_reducible apply Grew.store | with_reducible assumption))⟩
          case measure => simp [intOf]; omega
      · have hi6 : i = 3 := by omega
        have t1 : decide ((i : Int) < 3) = false := by simp; omega
        have HQ := Lib.hid (show allTo g i = allTo g 3 by rw [hi6])
        clear hi6 hi hlt
        go_wp2
        go_ret2
        exact ⟨by rw [HR.out.1, HR.out.2, ← HQ.out]; rfl, (by repeat (first | with_reducible exact Grew.refl _ | with_reducible apply Grew.alloc | with_reducible apply Grew.later | with_reducible apply Grew.drew | with_reducible apply Grew.store | with_reducible assumption))⟩
theorem r3Inside_any (s : State) (pP vV : Bx) (w : World) : Calls Tryz.prog 17 #[.agg #[.int .i64 s.t, .int .i64 s.p.x.lo, .int .i64 s.p.x.hi, .int .i64 s.p.y.lo, .int .i64 s.p.y.hi, .int .i64 s.p.z.lo, .int .i64 s.p.z.hi, .int .i64 s.v.x.lo, .int .i64 s.v.x.hi, .int .i64 s.v.y.lo, .int .i64 s.v.y.hi, .int .i64 s.v.z.lo, .int .i64 s.v.z.hi, .int .i64 s.m.lo, .int .i64 s.m.hi], .agg #[.int .i64 pP.x.lo, .int .i64 pP.x.hi, .int .i64 pP.y.lo, .int .i64 pP.y.hi, .int .i64 pP.z.lo, .int .i64 pP.z.hi], .agg #[.int .i64 vV.x.lo, .int .i64 vV.x.hi, .int .i64 vV.y.lo, .int .i64 vV.y.hi, .int .i64 vV.z.lo, .int .i64 vV.z.hi]] w fun e w' => e = .returned (.tuple #[.bool (sureR s pP vV), .bool (mayR s pP vV)]) ∧ Grew w w' := by
  cases h : insideOk s pP vV
  · exact r3Inside_no s pP vV h w
  · exact r3Inside_yes s pP vV h w
end Go.Proofs.YtnedbhdokljpcaaGreat
