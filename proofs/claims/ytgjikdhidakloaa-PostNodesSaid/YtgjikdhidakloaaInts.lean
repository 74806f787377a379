/-
  Lists of int that grow by append; contracts: SameInts, the errors of masks, the choices of a mask, Gaps.
-/
import Derived.Test.YtgjikdhidakloaaEvery
import Derived.Maps.AppendAt
namespace Go.Proofs.Ytgjikdhidakloaa
open Go.RowKit
set_option maxRecDepth 100000
set_option maxHeartbeats 2000000
theorem infoInt : (Try.prog.info? 3).map (fun i => (i.zero, i.size, i.bytes)) = some (some (.int .i64 0), 1, 8) := by kernel_rfl
theorem intC_snoc (l : List Int) (k : Int) : l.flatMap intC ++ [.int .i64 k] = (l ++ [k]).flatMap intC := by simp [intC]
theorem intC_len (l : List Int) : (l.flatMap intC).length = l.length := by
  induction l with
  | nil => rfl
  | cons a l ih => rw [List.flatMap_cons, List.length_append, ih]; simp [intC]; omega
/-- An int is appended to a row of one's own. -/
theorem wpList_app_int {ops : Array Oper} {rest : List Oper} {o : Oper} {a : Act} {Q : Exit → Act → World → Prop} (a0 w : World) (g0 : Grew a0 w) {m : Nat} [hm : SizeAt w m] (hgd : o.guard = none) (s x : Operand)
    (ho : o.op = .call { callee := .builtin .append, args := #[s, x], argTypes := #[22, 22] }) (v : Value) (l : List Int) (hown : w.ownsRow a0.heap.size 3 1 v l.length (l.flatMap intC)) (hs : a.eval s = v) (k : Int) (ty : TypeId)
    (hx : a.eval x = .slice (some ⟨m, 0, none⟩) 1 1) (hn : l.length ≤ 1099511627776)
    (h : ∀ v' (y : Later a0), y.world.ownsRow a0.heap.size 3 1 v' (l ++ [k]).length ((l ++ [k]).flatMap intC) → wpList Try.prog ops Q rest (a.put o.dst v') y.world) :
    wpList Try.prog ops Q (o :: rest) a (w.alloc (.cells #[.int .i64 k] ty)) := by
  obtain rfl := hm.eq
  obtain ⟨i0, hi, hz0, hzz1, hzz2⟩ := info_parts infoInt
  refine wpList_append_own _ hgd s x 22 ho a0.heap.size 3 i0 (.int .i64 0) 1 8 Try.underlying22 hi hz0 hzz1 hzz2 rfl (by decide) v _ _ hs (hown.alloc _) ⟨w.heap.size, 0, none⟩ 1 1 [.int .i64 k] hx rfl (by simpa using cells_new w [.int .i64 k] ty) (by simp [Value.oneCell']) (by simp [maxLen]; omega) (by omega) (by have := g0.size; simp; omega) ?_
  intro v' w1 hown' hgrow _
  obtain ⟨y, rfl⟩ := later_of (Grew.append (g0.alloc (.cells #[.int .i64 k] ty)) (hown.alloc (.cells #[.int .i64 k] ty)) (Nat.le_refl _) hgrow)
  refine h v' y ?_
  rw [← intC_snoc, List.length_append]
  exact hown'
/-- What a function hands back that returns a list of int. -/
def RetInts (l : List Int) (w : World) (e : Ending) (w' : World) : Prop :=
  ∃ v, e = .returned v ∧ SlAt w' v l.length (l.flatMap intC) ∧ Grew w w'
/-- .. with a code. -/
def RetIntsC (l : List Int) (c : Int) (w : World) (e : Ending) (w' : World) : Prop :=
  ∃ v, e = .returned (.tuple #[v, .int .i64 c]) ∧ SlAt w' v l.length (l.flatMap intC) ∧ Grew w w'
theorem int_cell {w : World} {v : Value} {l : List Int} (h : SlAt w v l.length (l.flatMap intC)) (k : Nat) (hk : k < l.length) :
    ∃ b off cap, v = .slice (some ⟨b, off, none⟩) l.length cap ∧ BlockIn w b ∧ w.cell? ⟨b, off + k, none⟩ = some (.int .i64 l[k]) := by
  obtain ⟨ao, cap, rfl, hm, hc⟩ := h
  obtain ⟨b, off, rfl, hb, h1, -⟩ := SlAt.elem (f := intC) (c := 1) (fun _ => rfl) (by omega) hc k hk
  refine ⟨b, off, cap, rfl, ⟨hb⟩, ?_⟩
  have := h1 _ rfl
  rwa [Nat.mul_one] at this
theorem sl_form {w : World} {v : Value} {n : Nat} {xs : List Value} (h : SlAt w v n xs) : ∃ ao cap, v = .slice ao n cap ∧ n ≤ 2 ^ 63 - 1 := by
  obtain ⟨ao, cap, rfl, hm, -⟩ := h
  exact ⟨ao, cap, rfl, by unfold maxLen at hm; exact hm⟩
theorem sameInts11_any (l : List Int) (v1 v2 : Value) (w : World) (h1 : SlAt w v1 l.length (l.flatMap intC)) (h2 : SlAt w v2 l.length (l.flatMap intC)) : Calls Try.prog 11 #[v1, v2] w fun e w' => e = .returned (.bool true) ∧ Grew w w' := by
  have Hc1 := Lib.hid (fun k hk => int_cell h1 k hk)
  have Hc2 := Lib.hid (fun k hk => int_cell h2 k hk)
  obtain ⟨ao1, cap1, rfl, hm⟩ := sl_form h1
  obtain ⟨ao2, cap2, rfl, -⟩ := sl_form h2
  clear h1 h2
  go_enter Try.func11, Try.ntmps11
  go_wp2
  go_loopw [5] (fun t wr => ∃ k : Nat, t = .int .i64 k ∧ k ≤ l.length ∧ Grew w wr) (fun t _ => l.length - (intOf t).toNat)
  case atStart => exact ⟨0, rfl, by omega, Grew.refl _⟩
  case round =>
    obtain ⟨k, rfl, hk, hg⟩ := hrel
    obtain ⟨x, rfl⟩ := later_of hg
    clear hg
    by_cases hlt : k < l.length
    · obtain ⟨b1, o1, c1, e1, i1, hd⟩ := Hc1.out k hlt
      obtain ⟨b2, o2, c2, e2, i2, he⟩ := Hc2.out k hlt
      cases e1
      cases e2
      generalize l[k] = p at *
      go_wp2_with (first | ((with_reducible refine wp_region_later ?_ ?_ ?_); (· kernel_rfl); (· kernel_rfl); (repeat (go_big_quiet_step (fail))); refine wpQuiet_nil ?_; rintro _ ⟨u, rfl⟩))
      go_roundw
      case rel => exact ⟨k + 1, by go_num, by omega, x.grew.later _⟩
      case measure => simp [intOf]; omega
    · go_wp2
      go_ret
      exact ⟨rfl, x.grew⟩
theorem sameInts13_any (l : List Int) (v1 v2 : Value) (w : World) (h1 : SlAt w v1 l.length (l.flatMap intC)) (h2 : SlAt w v2 l.length (l.flatMap intC)) : Calls Try.prog 27 #[v1, v2] w fun e w' => e = .returned (.bool true) ∧ Grew w w' := by
  have Hc1 := Lib.hid (fun k hk => int_cell h1 k hk)
  have Hc2 := Lib.hid (fun k hk => int_cell h2 k hk)
  obtain ⟨ao1, cap1, rfl, hm⟩ := sl_form h1
  obtain ⟨ao2, cap2, rfl, -⟩ := sl_form h2
  clear h1 h2
  go_enter Try.func27, Try.ntmps27
  go_wp2
  go_loopw [5] (fun t wr => ∃ k : Nat, t = .int .i64 k ∧ k ≤ l.length ∧ Grew w wr) (fun t _ => l.length - (intOf t).toNat)
  case atStart => exact ⟨0, rfl, by omega, Grew.refl _⟩
  case round =>
    obtain ⟨k, rfl, hk, hg⟩ := hrel
    obtain ⟨x, rfl⟩ := later_of hg
    clear hg
    by_cases hlt : k < l.length
    · obtain ⟨b1, o1, c1, e1, i1, hd⟩ := Hc1.out k hlt
      obtain ⟨b2, o2, c2, e2, i2, he⟩ := Hc2.out k hlt
      cases e1
      cases e2
      generalize l[k] = p at *
      go_wp2_with (first | ((with_reducible refine wp_region_later ?_ ?_ ?_); (· kernel_rfl); (· kernel_rfl); (repeat (go_big_quiet_step (fail))); refine wpQuiet_nil ?_; rintro _ ⟨u, rfl⟩))
      go_roundw
      case rel => exact ⟨k + 1, by go_num, by omega, x.grew.later _⟩
      case measure => simp [intOf]; omega
    · go_wp2
      go_ret
      exact ⟨rfl, x.grew⟩
end Go.Proofs.Ytgjikdhidakloaa
