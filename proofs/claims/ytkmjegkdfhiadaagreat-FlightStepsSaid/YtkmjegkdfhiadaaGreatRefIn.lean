/-
  Contract of ullageref03.inside.
-/
import Derived.Test.YtkmjegkdfhiadaaGreatCalcs
namespace Go.Proofs.YtkmjegkdfhiadaaGreat
open Go.RowKit
set_option maxRecDepth 100000
set_option maxHeartbeats 8000000
def allTo (f : Nat → Bool) : Nat → Bool
  | 0 => true
  | k + 1 => allTo f k && f k
def boxAtI (b : Bx) (i : Nat) : Sp := b.list.getD i z0
theorem three_at {w : World} {q : Nat} {b : Bx} (h : BoxAt w q [.int .i64 b.x.lo, .int .i64 b.x.hi, .int .i64 b.y.lo, .int .i64 b.y.hi, .int .i64 b.z.lo, .int .i64 b.z.hi]) (i : Nat) (hi : i < 3) : w.cell? ⟨q, i * 2, none⟩ = some (.int .i64 (boxAtI b i).lo) ∧ w.cell? ⟨q, i * 2 + 1, none⟩ = some (.int .i64 (boxAtI b i).hi) := by
  match i, hi with
  | 0, _ => exact ⟨(h 0 _ rfl).1, (h 1 _ rfl).1⟩
  | 1, _ => exact ⟨(h 2 _ rfl).1, (h 3 _ rfl).1⟩
  | 2, _ => exact ⟨(h 4 _ rfl).1, (h 5 _ rfl).1⟩
def insB (a b : Bx) (i : Nat) : Bool := (boxAtI a i).inB (boxAtI b i)
theorem allTo_false {f : Nat → Bool} {k n : Nat} (h : f k = false) (hk : k < n) : allTo f n = false := by
  induction n with
  | zero => omega
  | succ n ih =>
    show (allTo f n && f n) = false
    by_cases e : k = n
    · rw [← e, h, Bool.and_false]
    · rw [ih (by omega), Bool.false_and]
theorem r3InsideB_any (aA bB : Bx) (w : World) : Calls Tryz.prog 44 #[.agg #[.int .i64 aA.x.lo, .int .i64 aA.x.hi, .int .i64 aA.y.lo, .int .i64 aA.y.hi, .int .i64 aA.z.lo, .int .i64 aA.z.hi], .agg #[.int .i64 bB.x.lo, .int .i64 bB.x.hi, .int .i64 bB.y.lo, .int .i64 bB.y.hi, .int .i64 bB.z.lo, .int .i64 bB.z.hi]] w fun e w' => e = .returned (.bool (allTo (insB aA bB) 3)) ∧ Grew w w' := by
  have B1 := (BoxAt.grew (boxAt_new w [.int .i64 aA.x.lo, .int .i64 aA.x.hi, .int .i64 aA.y.lo, .int .i64 aA.y.hi, .int .i64 aA.z.lo, .int .i64 aA.z.hi] 26) (by simp) ((Grew.refl _).alloc (.cells #[.int .i64 bB.x.lo, .int .i64 bB.x.hi, .int .i64 bB.y.lo, .int .i64 bB.y.hi, .int .i64 bB.z.lo, .int .i64 bB.z.hi] 26)))
  have B2 := boxAt_new (w.alloc (.cells #[.int .i64 aA.x.lo, .int .i64 aA.x.hi, .int .i64 aA.y.lo, .int .i64 aA.y.hi, .int .i64 aA.z.lo, .int .i64 aA.z.hi] 26)) [.int .i64 bB.x.lo, .int .i64 bB.x.hi, .int .i64 bB.y.lo, .int .i64 bB.y.hi, .int .i64 bB.z.lo, .int .i64 bB.z.hi] 26
  rw [show (w.alloc (.cells ([.int .i64 aA.x.lo, .int .i64 aA.x.hi, .int .i64 aA.y.lo, .int .i64 aA.y.hi, .int .i64 aA.z.lo, .int .i64 aA.z.hi] : List Value).toArray 26)).heap.size = w.heap.size + 1 by simp] at B2
  have H1 := Lib.hid (three_at B1)
  have H2 := Lib.hid (three_at B2)
  have HW := Lib.hid (fun i w => show Calls Tryz.prog 78 #[.agg #[.int .i64 (boxAtI aA i).lo, .int .i64 (boxAtI aA i).hi], .agg #[.int .i64 (boxAtI bB i).lo, .int .i64 (boxAtI bB i).hi]] w fun e w' => e = .returned (.bool (insB aA bB i)) ∧ Grew w w' from rWithin_any _ _ w)
  clear B1 B2
  generalize hf : insB aA bB = f at *
  go_enter Tryz.func44, Tryz.ntmps44
  go_wp2
  go_loopw [5] (fun t wr => ∃ i : Nat, t = .int .i64 i ∧ i ≤ 3 ∧ allTo f i = true ∧ Grew ((w.alloc (.cells #[.int .i64 aA.x.lo, .int .i64 aA.x.hi, .int .i64 aA.y.lo, .int .i64 aA.y.hi, .int .i64 aA.z.lo, .int .i64 aA.z.hi] 26)).alloc (.cells #[.int .i64 bB.x.lo, .int .i64 bB.x.hi, .int .i64 bB.y.lo, .int .i64 bB.y.hi, .int .i64 bB.z.lo, .int .i64 bB.z.hi] 26)) wr) (fun t _ => 3 - (intOf t).toNat)
  case atStart => exact ⟨0, rfl, by omega, rfl, gw⟩
  case round =>
    obtain ⟨i, rfl, hi, hall, hg⟩ := hrel
    obtain ⟨z, rfl⟩ := later_of hg
    clear hg
    have Hall := Lib.hid hall
    clear hall
    by_cases hlt : i < 3
    · obtain ⟨c0, c1⟩ := H1.out i hlt
      obtain ⟨d0, d1⟩ := H2.out i hlt
      have t1 : ((i : Nat) : Int) < 3 := by omega
      have W1 := Lib.hid (HW.out i)
      have hno := Lib.hid (fun h : f i = false => allTo_false h hlt)
      have hyes := Lib.hid (fun h : f i = true => show allTo f (i + 1) = true by show (allTo f i && f i) = true; rw [Hall.out, h]; rfl)
      generalize boxAtI aA i = a1 at *
      generalize boxAtI bB i = a2 at *
      cases hx : f i
      · rw [hx] at W1
        have hn := Lib.hid (hno.out hx)
        clear hx hno hyes
        go_wp2_with (first | (go_at_call 78; (with_reducible refine call_later (W1.out _) ?_); intro u) | ((with_reducible refine wp_region_later ?_ ?_ ?_); (· kernel_rfl); (· kernel_rfl); (try simp only [List.append_eq, List.cons_append, List.nil_append]); (repeat (go_big_quiet_step ((first | (go_at_call 78; (with_reducible exact call_quiet (W1.out _))))))); refine wpQuiet_nil ?_; rintro _ ⟨u, rfl⟩))
        go_ret
        exact ⟨by rw [hn.out]; rfl, gw⟩
      · rw [hx] at W1
        have hn := Lib.hid (hyes.out hx)
        clear hx hno hyes
        go_wp2_with (first | (go_at_call 78; (with_reducible refine call_later (W1.out _) ?_); intro u) | ((with_reducible refine wp_region_later ?_ ?_ ?_); (· kernel_rfl); (· kernel_rfl); (try simp only [List.append_eq, List.cons_append, List.nil_append]); (repeat (go_big_quiet_step ((first | (go_at_call 78; (with_reducible exact call_quiet (W1.out _))))))); refine wpQuiet_nil ?_; rintro _ ⟨u, rfl⟩))
        go_roundw
        case rel => exact ⟨i + 1, by go_num, by omega, hn.out, gw⟩
        case measure => simp [intOf]; omega
    · have hi3 : i = 3 := by omega
      have t1 : decide ((i : Int) < 3) = false := by simp; omega
      have HQ := Lib.hid (show allTo f 3 = true by rw [← hi3]; exact Hall.out)
      clear hi3 hi hlt
      go_wp2
      go_ret
      exact ⟨by rw [HQ.out]; rfl, gw⟩
end Go.Proofs.YtkmjegkdfhiadaaGreat
