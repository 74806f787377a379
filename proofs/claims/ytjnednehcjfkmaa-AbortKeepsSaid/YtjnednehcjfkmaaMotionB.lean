/-
  Contracts: abort's length.
-/
import Derived.Test.YtjnednehcjfkmaaMotionA
import Derived.Test.YtjnednehcjfkmaaCore
import Derived.LoopN
import Derived.Test.YtjnednehcjfkmaaRow
namespace Go.Proofs.Ytjnednehcjfkmaa
open Go.RowKit
set_option maxRecDepth 100000
set_option maxHeartbeats 8000000
instance own_nil (w : World) (base : Nat) (e : TypeId) (size : Nat) : Own w base e size (.slice none 0 0) 0 [] := ⟨World.ownsRow_nil _ _ _ _⟩
theorem infoSpan : (Try.prog.info? 36).map (fun i => (i.zero, i.size, i.bytes)) = some (some (.agg #[.int .i64 0, .int .i64 0]), 2, 16) := by kernel_rfl
theorem len_err (m : Mo) (u : Sp) : ((ln1 m u).e ≠ 0 → lengthR m u = errR (ln1 m u).e) ∧ ((ln2 m u).e ≠ 0 → lengthR m u = errR (ln2 m u).e) ∧ ((ln3 m u).e ≠ 0 → lengthR m u = errR (ln3 m u).e) := by
  have k3 : (ln3 m u).e ≠ 0 → lengthR m u = errR (ln3 m u).e := fun h => doR_bad _ h
  have k2 : (ln2 m u).e ≠ 0 → lengthR m u = errR (ln2 m u).e := fun h => by
    have e : (ln3 m u).e = (ln2 m u).e := doR_e_ne _ h
    rw [k3 (by rw [e]; exact h), e]
  have k1 : (ln1 m u).e ≠ 0 → lengthR m u = errR (ln1 m u).e := fun h => by
    have e : (ln2 m u).e = (ln1 m u).e := doR_e_ne _ h
    rw [k2 (by rw [e]; exact h), e]
  exact ⟨k1, k2, k3⟩
theorem abLength_any (m : Mo) (u : Sp) [hm : Mo64 m] [hu : S64 u] (w : World) : Calls Try.prog 43 #[.agg #[.int .i64 m.d.x.lo, .int .i64 m.d.x.hi, .int .i64 m.w.x.lo, .int .i64 m.w.x.hi, .int .i64 m.a.x.lo, .int .i64 m.a.x.hi, .int .i64 m.d.y.lo, .int .i64 m.d.y.hi, .int .i64 m.w.y.lo, .int .i64 m.w.y.hi, .int .i64 m.a.y.lo, .int .i64 m.a.y.hi, .int .i64 m.d.z.lo, .int .i64 m.d.z.hi, .int .i64 m.w.z.lo, .int .i64 m.w.z.hi, .int .i64 m.a.z.lo, .int .i64 m.a.z.hi, .int .i64 m.t, .int .i64 m.n], .agg #[.int .i64 u.lo, .int .i64 u.hi]] w fun e w' => e = .returned (.tuple #[.agg #[.int .i64 (lengthR m u).s.lo, .int .i64 (lengthR m u).s.hi], .int .i64 (lengthR m u).e]) ∧ Grew w w' := by
  obtain ⟨k1, k2, k3⟩ := len_err m u
  have H1 := Lib.hid (fun w => (show Calls Try.prog 65 #[.agg #[.int .i64 ((⟨m.d.x, m.w.x, m.a.x⟩ : Bx)).x.lo, .int .i64 ((⟨m.d.x, m.w.x, m.a.x⟩ : Bx)).x.hi, .int .i64 ((⟨m.d.x, m.w.x, m.a.x⟩ : Bx)).y.lo, .int .i64 ((⟨m.d.x, m.w.x, m.a.x⟩ : Bx)).y.hi, .int .i64 ((⟨m.d.x, m.w.x, m.a.x⟩ : Bx)).z.lo, .int .i64 ((⟨m.d.x, m.w.x, m.a.x⟩ : Bx)).z.hi], .agg #[.int .i64 u.lo, .int .i64 u.hi]] w fun e w' => e = .returned (.tuple #[.agg #[.int .i64 (ln1 m u).s.lo, .int .i64 (ln1 m u).s.hi], .int .i64 (ln1 m u).e]) ∧ Grew w w' from abAlong_any m.d.x m.w.x m.a.x u w))
  have H2 := Lib.hid (fun (h : (ln1 m u).e = 0) w => is_res (show alongR m.d.y m.w.y m.a.y u = ln2 m u by unfold ln2; rw [h, doR_ok]) (abAlong_any m.d.y m.w.y m.a.y u w))
  have H3 := Lib.hid (fun (h : (ln2 m u).e = 0) w => is_res (show alongR m.d.z m.w.z m.a.z u = ln3 m u by unfold ln3; rw [h, doR_ok]) (abAlong_any m.d.z m.w.z m.a.z u w))
  have H4 := Lib.hid (fun (h : (ln3 m u).e = 0) (ao : Option Addr) (cap : Nat) w (hs : SlAt w (.slice ao 3 cap) 3 [.int .i64 ((ln1 m u).s).lo, .int .i64 ((ln1 m u).s).hi, .int .i64 ((ln2 m u).s).lo, .int .i64 ((ln2 m u).s).hi, .int .i64 ((ln3 m u).s).lo, .int .i64 ((ln3 m u).s).hi]) => is_res (show normR [(ln1 m u).s, (ln2 m u).s, (ln3 m u).s] = lengthR m u by unfold lengthR; rw [h, doR_ok]) (spNorm_any [⟨(ln1 m u).s, inferInstance⟩, ⟨(ln2 m u).s, inferInstance⟩, ⟨(ln3 m u).s, inferInstance⟩] ao cap w hs))
  have K1 := Lib.hid k1
  have K2 := Lib.hid k2
  have K3 := Lib.hid k3
  clear k1 k2 k3
  obtain ⟨i0, hi, hz0, hzz1, hzz2⟩ := info_parts infoSpan
  have i0x : ∀ w, (Instr.index 72 (.agg #[.int .i64 m.d.x.lo, .int .i64 m.d.x.hi, .int .i64 m.w.x.lo, .int .i64 m.w.x.hi, .int .i64 m.a.x.lo, .int .i64 m.a.x.hi, .int .i64 m.d.y.lo, .int .i64 m.d.y.hi, .int .i64 m.w.y.lo, .int .i64 m.w.y.hi, .int .i64 m.a.y.lo, .int .i64 m.a.y.hi, .int .i64 m.d.z.lo, .int .i64 m.d.z.hi, .int .i64 m.w.z.lo, .int .i64 m.w.z.hi, .int .i64 m.a.z.lo, .int .i64 m.a.z.hi]) (.int .i64 0)).run Try.prog w = .ok (.agg #[.int .i64 ((⟨m.d.x, m.w.x, m.a.x⟩ : Bx)).x.lo, .int .i64 ((⟨m.d.x, m.w.x, m.a.x⟩ : Bx)).x.hi, .int .i64 ((⟨m.d.x, m.w.x, m.a.x⟩ : Bx)).y.lo, .int .i64 ((⟨m.d.x, m.w.x, m.a.x⟩ : Bx)).y.hi, .int .i64 ((⟨m.d.x, m.w.x, m.a.x⟩ : Bx)).z.lo, .int .i64 ((⟨m.d.x, m.w.x, m.a.x⟩ : Bx)).z.hi]) w := fun _ => by kernel_rfl
  have i1x : ∀ w, (Instr.index 72 (.agg #[.int .i64 m.d.x.lo, .int .i64 m.d.x.hi, .int .i64 m.w.x.lo, .int .i64 m.w.x.hi, .int .i64 m.a.x.lo, .int .i64 m.a.x.hi, .int .i64 m.d.y.lo, .int .i64 m.d.y.hi, .int .i64 m.w.y.lo, .int .i64 m.w.y.hi, .int .i64 m.a.y.lo, .int .i64 m.a.y.hi, .int .i64 m.d.z.lo, .int .i64 m.d.z.hi, .int .i64 m.w.z.lo, .int .i64 m.w.z.hi, .int .i64 m.a.z.lo, .int .i64 m.a.z.hi]) (.int .i64 1)).run Try.prog w = .ok (.agg #[.int .i64 ((⟨m.d.y, m.w.y, m.a.y⟩ : Bx)).x.lo, .int .i64 ((⟨m.d.y, m.w.y, m.a.y⟩ : Bx)).x.hi, .int .i64 ((⟨m.d.y, m.w.y, m.a.y⟩ : Bx)).y.lo, .int .i64 ((⟨m.d.y, m.w.y, m.a.y⟩ : Bx)).y.hi, .int .i64 ((⟨m.d.y, m.w.y, m.a.y⟩ : Bx)).z.lo, .int .i64 ((⟨m.d.y, m.w.y, m.a.y⟩ : Bx)).z.hi]) w := fun _ => by kernel_rfl
  have i2x : ∀ w, (Instr.index 72 (.agg #[.int .i64 m.d.x.lo, .int .i64 m.d.x.hi, .int .i64 m.w.x.lo, .int .i64 m.w.x.hi, .int .i64 m.a.x.lo, .int .i64 m.a.x.hi, .int .i64 m.d.y.lo, .int .i64 m.d.y.hi, .int .i64 m.w.y.lo, .int .i64 m.w.y.hi, .int .i64 m.a.y.lo, .int .i64 m.a.y.hi, .int .i64 m.d.z.lo, .int .i64 m.d.z.hi, .int .i64 m.w.z.lo, .int .i64 m.w.z.hi, .int .i64 m.a.z.lo, .int .i64 m.a.z.hi]) (.int .i64 2)).run Try.prog w = .ok (.agg #[.int .i64 ((⟨m.d.z, m.w.z, m.a.z⟩ : Bx)).x.lo, .int .i64 ((⟨m.d.z, m.w.z, m.a.z⟩ : Bx)).x.hi, .int .i64 ((⟨m.d.z, m.w.z, m.a.z⟩ : Bx)).y.lo, .int .i64 ((⟨m.d.z, m.w.z, m.a.z⟩ : Bx)).y.hi, .int .i64 ((⟨m.d.z, m.w.z, m.a.z⟩ : Bx)).z.lo, .int .i64 ((⟨m.d.z, m.w.z, m.a.z⟩ : Bx)).z.hi]) w := fun _ => by kernel_rfl
  by_cases e1 : (ln1 m u).e = 0
  rotate_left
  · have HR := Lib.hid (K1.out e1).symm
    have f1 : ((ln1 m u).e != 0) = true := by simp [e1]
    clear e1
    go_enter Try.func43, Try.ntmps43
    go_wp2
    refine wp_to_later (z := w) (by repeat (first | with_reducible exact Grew.refl _ | with_reducible apply Grew.alloc | with_reducible apply Grew.later | with_reducible apply Grew.drew | with_reducible apply Grew.store | with_reducible assumption)) ?_
    intro W hW
    have bM : BoxAt W.world w.heap.size [.int .i64 m.d.x.lo, .int .i64 m.d.x.hi, .int .i64 m.w.x.lo, .int .i64 m.w.x.hi, .int .i64 m.a.x.lo, .int .i64 m.a.x.hi, .int .i64 m.d.y.lo, .int .i64 m.d.y.hi, .int .i64 m.w.y.lo, .int .i64 m.w.y.hi, .int .i64 m.a.y.lo, .int .i64 m.a.y.hi, .int .i64 m.d.z.lo, .int .i64 m.d.z.hi, .int .i64 m.w.z.lo, .int .i64 m.w.z.hi, .int .i64 m.a.z.lo, .int .i64 m.a.z.hi, .int .i64 m.t, .int .i64 m.n] := by rw [hW]; exact (boxAt_new w [.int .i64 m.d.x.lo, .int .i64 m.d.x.hi, .int .i64 m.w.x.lo, .int .i64 m.w.x.hi, .int .i64 m.a.x.lo, .int .i64 m.a.x.hi, .int .i64 m.d.y.lo, .int .i64 m.d.y.hi, .int .i64 m.w.y.lo, .int .i64 m.w.y.hi, .int .i64 m.a.y.lo, .int .i64 m.a.y.hi, .int .i64 m.d.z.lo, .int .i64 m.d.z.hi, .int .i64 m.w.z.lo, .int .i64 m.w.z.hi, .int .i64 m.a.z.lo, .int .i64 m.a.z.hi, .int .i64 m.t, .int .i64 m.n] _).grew (by simp) (((Grew.refl _).alloc _).alloc _)
    have bU : BoxAt W.world (w.heap.size + 1) [.int .i64 u.lo, .int .i64 u.hi] := by rw [hW]; exact boxAt_two (by go_simp) (by go_simp) (by go_simp) (by go_simp)
    have bR : BoxAt W.world (w.heap.size + 1 + 1) [.int .i64 0, .int .i64 0] := by rw [hW]; exact boxAt_two (by go_simp) (by go_simp) (by go_simp) (by go_simp)
    clear hW
    have bM_0 := (bM 0 _ rfl).1
    have bMf0 := (bM 0 _ rfl).2
    have bMi0 : HasCell (W.world) (w.heap.size) 0 := ⟨_, bM_0⟩
    have bM_1 := (bM 1 _ rfl).1
    have bMf1 := (bM 1 _ rfl).2
    have bMi1 : HasCell (W.world) (w.heap.size) 1 := ⟨_, bM_1⟩
    have bM_2 := (bM 2 _ rfl).1
    have bMf2 := (bM 2 _ rfl).2
    have bMi2 : HasCell (W.world) (w.heap.size) 2 := ⟨_, bM_2⟩
    have bM_3 := (bM 3 _ rfl).1
    have bMf3 := (bM 3 _ rfl).2
    have bMi3 : HasCell (W.world) (w.heap.size) 3 := ⟨_, bM_3⟩
    have bM_4 := (bM 4 _ rfl).1
    have bMf4 := (bM 4 _ rfl).2
    have bMi4 : HasCell (W.world) (w.heap.size) 4 := ⟨_, bM_4⟩
    have bM_5 := (bM 5 _ rfl).1
    have bMf5 := (bM 5 _ rfl).2
    have bMi5 : HasCell (W.world) (w.heap.size) 5 := ⟨_, bM_5⟩
    have bM_6 := (bM 6 _ rfl).1
    have bMf6 := (bM 6 _ rfl).2
    have bMi6 : HasCell (W.world) (w.heap.size) 6 := ⟨_, bM_6⟩
    have bM_7 := (bM 7 _ rfl).1
    have bMf7 := (bM 7 _ rfl).2
    have bMi7 : HasCell (W.world) (w.heap.size) 7 := ⟨_, bM_7⟩
    have bM_8 := (bM 8 _ rfl).1
    have bMf8 := (bM 8 _ rfl).2
    have bMi8 : HasCell (W.world) (w.heap.size) 8 := ⟨_, bM_8⟩
    have bM_9 := (bM 9 _ rfl).1
    have bMf9 := (bM 9 _ rfl).2
    have bMi9 : HasCell (W.world) (w.heap.size) 9 := ⟨_, bM_9⟩
    have bM_10 := (bM 10 _ rfl).1
    have bMf10 := (bM 10 _ rfl).2
    have bMi10 : HasCell (W.world) (w.heap.size) 10 := ⟨_, bM_10⟩
    have bM_11 := (bM 11 _ rfl).1
    have bMf11 := (bM 11 _ rfl).2
    have bMi11 : HasCell (W.world) (w.heap.size) 11 := ⟨_, bM_11⟩
    have bM_12 := (bM 12 _ rfl).1
    have bMf12 := (bM 12 _ rfl).2
    have bMi12 : HasCell (W.world) (w.heap.size) 12 := ⟨_, bM_12⟩
    have bM_13 := (bM 13 _ rfl).1
    have bMf13 := (bM 13 _ rfl).2
    have bMi13 : HasCell (W.world) (w.heap.size) 13 := ⟨_, bM_13⟩
    have bM_14 := (bM 14 _ rfl).1
    have bMf14 := (bM 14 _ rfl).2
    have bMi14 : HasCell (W.world) (w.heap.size) 14 := ⟨_, bM_14⟩
    have bM_15 := (bM 15 _ rfl).1
    have bMf15 := (bM 15 _ rfl).2
    have bMi15 : HasCell (W.world) (w.heap.size) 15 := ⟨_, bM_15⟩
    have bM_16 := (bM 16 _ rfl).1
    have bMf16 := (bM 16 _ rfl).2
    have bMi16 : HasCell (W.world) (w.heap.size) 16 := ⟨_, bM_16⟩
    have bM_17 := (bM 17 _ rfl).1
    have bMf17 := (bM 17 _ rfl).2
    have bMi17 : HasCell (W.world) (w.heap.size) 17 := ⟨_, bM_17⟩
    have bM_18 := (bM 18 _ rfl).1
    have bMf18 := (bM 18 _ rfl).2
    have bMi18 : HasCell (W.world) (w.heap.size) 18 := ⟨_, bM_18⟩
    have bM_19 := (bM 19 _ rfl).1
    have bMf19 := (bM 19 _ rfl).2
    have bMi19 : HasCell (W.world) (w.heap.size) 19 := ⟨_, bM_19⟩
    have bMb : BlockIn (W.world) (w.heap.size) := BlockIn.of_cell bM_0
    clear bM
    have bU_0 := (bU 0 _ rfl).1
    have bUf0 := (bU 0 _ rfl).2
    have bUi0 : HasCell (W.world) (w.heap.size + 1) 0 := ⟨_, bU_0⟩
    have bU_1 := (bU 1 _ rfl).1
    have bUf1 := (bU 1 _ rfl).2
    have bUi1 : HasCell (W.world) (w.heap.size + 1) 1 := ⟨_, bU_1⟩
    have bUb : BlockIn (W.world) (w.heap.size + 1) := BlockIn.of_cell bU_0
    clear bU
    have bR_0 := (bR 0 _ rfl).1
    have bRf0 := (bR 0 _ rfl).2
    have bRi0 : HasCell (W.world) (w.heap.size + 1 + 1) 0 := ⟨_, bR_0⟩
    have bR_1 := (bR 1 _ rfl).1
    have bRf1 := (bR 1 _ rfl).2
    have bRi1 : HasCell (W.world) (w.heap.size + 1 + 1) 1 := ⟨_, bR_1⟩
    have bRb : BlockIn (W.world) (w.heap.size + 1 + 1) := BlockIn.of_cell bR_0
    clear bR
    refine wp_loop_rounds 4 ?_
    rw [rounds_succ]
    go_wp2_with (first | (go_at_call 65; (with_reducible refine call_later (H1.out _) ?_); intro u1))
    refine bodyPost_ret (by (simp [results, Try.results43, go_sem] <;> rfl)) rfl ?_
    exact ⟨ret_err HR.out rfl, (by repeat (first | with_reducible exact Grew.refl _ | with_reducible apply Grew.alloc | with_reducible apply Grew.later | with_reducible apply Grew.drew | with_reducible apply Grew.store | with_reducible assumption))⟩
  have f1 : ((ln1 m u).e != 0) = false := by simp [e1]
  have J2 := Lib.hid (H2.out e1)
  clear e1
  by_cases e2 : (ln2 m u).e = 0
  rotate_left
  · have HR := Lib.hid (K2.out e2).symm
    have f2 : ((ln2 m u).e != 0) = true := by simp [e2]
    clear e2
    go_enter Try.func43, Try.ntmps43
    go_wp2
    refine wp_to_later (z := w) (by repeat (first | with_reducible exact Grew.refl _ | with_reducible apply Grew.alloc | with_reducible apply Grew.later | with_reducible apply Grew.drew | with_reducible apply Grew.store | with_reducible assumption)) ?_
    intro W hW
    have bM : BoxAt W.world w.heap.size [.int .i64 m.d.x.lo, .int .i64 m.d.x.hi, .int .i64 m.w.x.lo, .int .i64 m.w.x.hi, .int .i64 m.a.x.lo, .int .i64 m.a.x.hi, .int .i64 m.d.y.lo, .int .i64 m.d.y.hi, .int .i64 m.w.y.lo, .int .i64 m.w.y.hi, .int .i64 m.a.y.lo, .int .i64 m.a.y.hi, .int .i64 m.d.z.lo, .int .i64 m.d.z.hi, .int .i64 m.w.z.lo, .int .i64 m.w.z.hi, .int .i64 m.a.z.lo, .int .i64 m.a.z.hi, .int .i64 m.t, .int .i64 m.n] := by rw [hW]; exact (boxAt_new w [.int .i64 m.d.x.lo, .int .i64 m.d.x.hi, .int .i64 m.w.x.lo, .int .i64 m.w.x.hi, .int .i64 m.a.x.lo, .int .i64 m.a.x.hi, .int .i64 m.d.y.lo, .int .i64 m.d.y.hi, .int .i64 m.w.y.lo, .int .i64 m.w.y.hi, .int .i64 m.a.y.lo, .int .i64 m.a.y.hi, .int .i64 m.d.z.lo, .int .i64 m.d.z.hi, .int .i64 m.w.z.lo, .int .i64 m.w.z.hi, .int .i64 m.a.z.lo, .int .i64 m.a.z.hi, .int .i64 m.t, .int .i64 m.n] _).grew (by simp) (((Grew.refl _).alloc _).alloc _)
    have bU : BoxAt W.world (w.heap.size + 1) [.int .i64 u.lo, .int .i64 u.hi] := by rw [hW]; exact boxAt_two (by go_simp) (by go_simp) (by go_simp) (by go_simp)
    have bR : BoxAt W.world (w.heap.size + 1 + 1) [.int .i64 0, .int .i64 0] := by rw [hW]; exact boxAt_two (by go_simp) (by go_simp) (by go_simp) (by go_simp)
    clear hW
    have bM_0 := (bM 0 _ rfl).1
    have bMf0 := (bM 0 _ rfl).2
    have bMi0 : HasCell (W.world) (w.heap.size) 0 := ⟨_, bM_0⟩
    have bM_1 := (bM 1 _ rfl).1
    have bMf1 := (bM 1 _ rfl).2
    have bMi1 : HasCell (W.world) (w.heap.size) 1 := ⟨_, bM_1⟩
    have bM_2 := (bM 2 _ rfl).1
    have bMf2 := (bM 2 _ rfl).2
    have bMi2 : HasCell (W.world) (w.heap.size) 2 := ⟨_, bM_2⟩
    have bM_3 := (bM 3 _ rfl).1
    have bMf3 := (bM 3 _ rfl).2
    have bMi3 : HasCell (W.world) (w.heap.size) 3 := ⟨_, bM_3⟩
    have bM_4 := (bM 4 _ rfl).1
    have bMf4 := (bM 4 _ rfl).2
    have bMi4 : HasCell (W.world) (w.heap.size) 4 := ⟨_, bM_4⟩
    have bM_5 := (bM 5 _ rfl).1
    have bMf5 := (bM 5 _ rfl).2
    have bMi5 : HasCell (W.world) (w.heap.size) 5 := ⟨_, bM_5⟩
    have bM_6 := (bM 6 _ rfl).1
    have bMf6 := (bM 6 _ rfl).2
    have bMi6 : HasCell (W.world) (w.heap.size) 6 := ⟨_, bM_6⟩
    have bM_7 := (bM 7 _ rfl).1
    have bMf7 := (bM 7 _ rfl).2
    have bMi7 : HasCell (W.world) (w.heap.size) 7 := ⟨_, bM_7⟩
    have bM_8 := (bM 8 _ rfl).1
    have bMf8 := (bM 8 _ rfl).2
    have bMi8 : HasCell (W.world) (w.heap.size) 8 := ⟨_, bM_8⟩
    have bM_9 := (bM 9 _ rfl).1
    have bMf9 := (bM 9 _ rfl).2
    have bMi9 : HasCell (W.world) (w.heap.size) 9 := ⟨_, bM_9⟩
    have bM_10 := (bM 10 _ rfl).1
    have bMf10 := (bM 10 _ rfl).2
    have bMi10 : HasCell (W.world) (w.heap.size) 10 := ⟨_, bM_10⟩
    have bM_11 := (bM 11 _ rfl).1
    have bMf11 := (bM 11 _ rfl).2
    have bMi11 : HasCell (W.world) (w.heap.size) 11 := ⟨_, bM_11⟩
    have bM_12 := (bM 12 _ rfl).1
    have bMf12 := (bM 12 _ rfl).2
    have bMi12 : HasCell (W.world) (w.heap.size) 12 := ⟨_, bM_12⟩
    have bM_13 := (bM 13 _ rfl).1
    have bMf13 := (bM 13 _ rfl).2
    have bMi13 : HasCell (W.world) (w.heap.size) 13 := ⟨_, bM_13⟩
    have bM_14 := (bM 14 _ rfl).1
    have bMf14 := (bM 14 _ rfl).2
    have bMi14 : HasCell (W.world) (w.heap.size) 14 := ⟨_, bM_14⟩
    have bM_15 := (bM 15 _ rfl).1
    have bMf15 := (bM 15 _ rfl).2
    have bMi15 : HasCell (W.world) (w.heap.size) 15 := ⟨_, bM_15⟩
    have bM_16 := (bM 16 _ rfl).1
    have bMf16 := (bM 16 _ rfl).2
    have bMi16 : HasCell (W.world) (w.heap.size) 16 := ⟨_, bM_16⟩
    have bM_17 := (bM 17 _ rfl).1
    have bMf17 := (bM 17 _ rfl).2
    have bMi17 : HasCell (W.world) (w.heap.size) 17 := ⟨_, bM_17⟩
    have bM_18 := (bM 18 _ rfl).1
    have bMf18 := (bM 18 _ rfl).2
    have bMi18 : HasCell (W.world) (w.heap.size) 18 := ⟨_, bM_18⟩
    have bM_19 := (bM 19 _ rfl).1
    have bMf19 := (bM 19 _ rfl).2
    have bMi19 : HasCell (W.world) (w.heap.size) 19 := ⟨_, bM_19⟩
    have bMb : BlockIn (W.world) (w.heap.size) := BlockIn.of_cell bM_0
    clear bM
    have bU_0 := (bU 0 _ rfl).1
    have bUf0 := (bU 0 _ rfl).2
    have bUi0 : HasCell (W.world) (w.heap.size + 1) 0 := ⟨_, bU_0⟩
    have bU_1 := (bU 1 _ rfl).1
    have bUf1 := (bU 1 _ rfl).2
    have bUi1 : HasCell (W.world) (w.heap.size + 1) 1 := ⟨_, bU_1⟩
    have bUb : BlockIn (W.world) (w.heap.size + 1) := BlockIn.of_cell bU_0
    clear bU
    have bR_0 := (bR 0 _ rfl).1
    have bRf0 := (bR 0 _ rfl).2
    have bRi0 : HasCell (W.world) (w.heap.size + 1 + 1) 0 := ⟨_, bR_0⟩
    have bR_1 := (bR 1 _ rfl).1
    have bRf1 := (bR 1 _ rfl).2
    have bRi1 : HasCell (W.world) (w.heap.size + 1 + 1) 1 := ⟨_, bR_1⟩
    have bRb : BlockIn (W.world) (w.heap.size + 1 + 1) := BlockIn.of_cell bR_0
    clear bR
    refine wp_loop_rounds 4 ?_
    rw [rounds_succ]
    go_wp2_with (first | (go_at_call 65; (with_reducible refine call_later (H1.out _) ?_); intro u1) | (at_builtin; refine wpList_append_lies _ rfl _ _ 47 rfl W.world.heap.size 36 i0 _ 2 16 Try.underlying47 hi hz0 hzz1 hzz2 rfl (by decide) (.slice none 0 0) _ _ rfl Own.is ⟨_, 0, none⟩ 1 1 [.int .i64 ((ln1 m u).s).lo, .int .i64 ((ln1 m u).s).hi] rfl rfl news_row (by simp [Value.oneCell']) (by decide) (by simp [maxLen]) (by decide) (NewFor.le (a := W.world)) _ rfl ?_; intro g1 cap1 w1 hown1 hgrow1 hat1 hlt1; obtain ⟨x1, rfl⟩ := later_of (Grew.append (show Grew W.world _ from (by repeat (first | with_reducible exact Grew.refl _ | with_reducible apply Grew.alloc | with_reducible apply Grew.later | with_reducible apply Grew.drew | with_reducible apply Grew.store | with_reducible assumption))) (Own.is (v := (.slice none 0 0)) (base := W.world.heap.size) (e := 36) (size := 2)) (Nat.le_refl _) hgrow1)))
    have io1 : Own x1.world W.world.heap.size 36 2 (.slice (some ⟨g1, 0, none⟩) 1 cap1) 1 [.int .i64 ((ln1 m u).s).lo, .int .i64 ((ln1 m u).s).hi] := ⟨hown1⟩
    rw [rounds_succ]
    go_wp2_with (first | (go_at_call 65; (with_reducible refine call_later (J2.out _) ?_); intro u2))
    refine bodyPost_ret (by (simp [results, Try.results43, go_sem] <;> rfl)) rfl ?_
    exact ⟨ret_err HR.out rfl, (by repeat (first | with_reducible exact Grew.refl _ | with_reducible apply Grew.alloc | with_reducible apply Grew.later | with_reducible apply Grew.drew | with_reducible apply Grew.store | with_reducible assumption))⟩
  have f2 : ((ln2 m u).e != 0) = false := by simp [e2]
  have J3 := Lib.hid (H3.out e2)
  clear e2
  by_cases e3 : (ln3 m u).e = 0
  rotate_left
  · have HR := Lib.hid (K3.out e3).symm
    have f3 : ((ln3 m u).e != 0) = true := by simp [e3]
    clear e3
    go_enter Try.func43, Try.ntmps43
    go_wp2
    refine wp_to_later (z := w) (by repeat (first | with_reducible exact Grew.refl _ | with_reducible apply Grew.alloc | with_reducible apply Grew.later | with_reducible apply Grew.drew | with_reducible apply Grew.store | with_reducible assumption)) ?_
    intro W hW
    have bM : BoxAt W.world w.heap.size [.int .i64 m.d.x.lo, .int .i64 m.d.x.hi, .int .i64 m.w.x.lo, .int .i64 m.w.x.hi, .int .i64 m.a.x.lo, .int .i64 m.a.x.hi, .int .i64 m.d.y.lo, .int .i64 m.d.y.hi, .int .i64 m.w.y.lo, .int .i64 m.w.y.hi, .int .i64 m.a.y.lo, .int .i64 m.a.y.hi, .int .i64 m.d.z.lo, .int .i64 m.d.z.hi, .int .i64 m.w.z.lo, .int .i64 m.w.z.hi, .int .i64 m.a.z.lo, .int .i64 m.a.z.hi, .int .i64 m.t, .int .i64 m.n] := by rw [hW]; exact (boxAt_new w [.int .i64 m.d.x.lo, .int .i64 m.d.x.hi, .int .i64 m.w.x.lo, .int .i64 m.w.x.hi, .int .i64 m.a.x.lo, .int .i64 m.a.x.hi, .int .i64 m.d.y.lo, .int .i64 m.d.y.hi, .int .i64 m.w.y.lo, .int .i64 m.w.y.hi, .int .i64 m.a.y.lo, .int .i64 m.a.y.hi, .int .i64 m.d.z.lo, .int .i64 m.d.z.hi, .int .i64 m.w.z.lo, .int .i64 m.w.z.hi, .int .i64 m.a.z.lo, .int .i64 m.a.z.hi, .int .i64 m.t, .int .i64 m.n] _).grew (by simp) (((Grew.refl _).alloc _).alloc _)
    have bU : BoxAt W.world (w.heap.size + 1) [.int .i64 u.lo, .int .i64 u.hi] := by rw [hW]; exact boxAt_two (by go_simp) (by go_simp) (by go_simp) (by go_simp)
    have bR : BoxAt W.world (w.heap.size + 1 + 1) [.int .i64 0, .int .i64 0] := by rw [hW]; exact boxAt_two (by go_simp) (by go_simp) (by go_simp) (by go_simp)
    clear hW
    have bM_0 := (bM 0 _ rfl).1
    have bMf0 := (bM 0 _ rfl).2
    have bMi0 : HasCell (W.world) (w.heap.size) 0 := ⟨_, bM_0⟩
    have bM_1 := (bM 1 _ rfl).1
    have bMf1 := (bM 1 _ rfl).2
    have bMi1 : HasCell (W.world) (w.heap.size) 1 := ⟨_, bM_1⟩
    have bM_2 := (bM 2 _ rfl).1
    have bMf2 := (bM 2 _ rfl).2
    have bMi2 : HasCell (W.world) (w.heap.size) 2 := ⟨_, bM_2⟩
    have bM_3 := (bM 3 _ rfl).1
    have bMf3 := (bM 3 _ rfl).2
    have bMi3 : HasCell (W.world) (w.heap.size) 3 := ⟨_, bM_3⟩
    have bM_4 := (bM 4 _ rfl).1
    have bMf4 := (bM 4 _ rfl).2
    have bMi4 : HasCell (W.world) (w.heap.size) 4 := ⟨_, bM_4⟩
    have bM_5 := (bM 5 _ rfl).1
    have bMf5 := (bM 5 _ rfl).2
    have bMi5 : HasCell (W.world) (w.heap.size) 5 := ⟨_, bM_5⟩
    have bM_6 := (bM 6 _ rfl).1
    have bMf6 := (bM 6 _ rfl).2
    have bMi6 : HasCell (W.world) (w.heap.size) 6 := ⟨_, bM_6⟩
    have bM_7 := (bM 7 _ rfl).1
    have bMf7 := (bM 7 _ rfl).2
    have bMi7 : HasCell (W.world) (w.heap.size) 7 := ⟨_, bM_7⟩
    have bM_8 := (bM 8 _ rfl).1
    have bMf8 := (bM 8 _ rfl).2
    have bMi8 : HasCell (W.world) (w.heap.size) 8 := ⟨_, bM_8⟩
    have bM_9 := (bM 9 _ rfl).1
    have bMf9 := (bM 9 _ rfl).2
    have bMi9 : HasCell (W.world) (w.heap.size) 9 := ⟨_, bM_9⟩
    have bM_10 := (bM 10 _ rfl).1
    have bMf10 := (bM 10 _ rfl).2
    have bMi10 : HasCell (W.world) (w.heap.size) 10 := ⟨_, bM_10⟩
    have bM_11 := (bM 11 _ rfl).1
    have bMf11 := (bM 11 _ rfl).2
    have bMi11 : HasCell (W.world) (w.heap.size) 11 := ⟨_, bM_11⟩
    have bM_12 := (bM 12 _ rfl).1
    have bMf12 := (bM 12 _ rfl).2
    have bMi12 : HasCell (W.world) (w.heap.size) 12 := ⟨_, bM_12⟩
    have bM_13 := (bM 13 _ rfl).1
    have bMf13 := (bM 13 _ rfl).2
    have bMi13 : HasCell (W.world) (w.heap.size) 13 := ⟨_, bM_13⟩
    have bM_14 := (bM 14 _ rfl).1
    have bMf14 := (bM 14 _ rfl).2
    have bMi14 : HasCell (W.world) (w.heap.size) 14 := ⟨_, bM_14⟩
    have bM_15 := (bM 15 _ rfl).1
    have bMf15 := (bM 15 _ rfl).2
    have bMi15 : HasCell (W.world) (w.heap.size) 15 := ⟨_, bM_15⟩
    have bM_16 := (bM 16 _ rfl).1
    have bMf16 := (bM 16 _ rfl).2
    have bMi16 : HasCell (W.world) (w.heap.size) 16 := ⟨_, bM_16⟩
    have bM_17 := (bM 17 _ rfl).1
    have bMf17 := (bM 17 _ rfl).2
    have bMi17 : HasCell (W.world) (w.heap.size) 17 := ⟨_, bM_17⟩
    have bM_18 := (bM 18 _ rfl).1
    have bMf18 := (bM 18 _ rfl).2
    have bMi18 : HasCell (W.world) (w.heap.size) 18 := ⟨_, bM_18⟩
    have bM_19 := (bM 19 _ rfl).1
    have bMf19 := (bM 19 _ rfl).2
    have bMi19 : HasCell (W.world) (w.heap.size) 19 := ⟨_, bM_19⟩
    have bMb : BlockIn (W.world) (w.heap.size) := BlockIn.of_cell bM_0
    clear bM
    have bU_0 := (bU 0 _ rfl).1
    have bUf0 := (bU 0 _ rfl).2
    have bUi0 : HasCell (W.world) (w.heap.size + 1) 0 := ⟨_, bU_0⟩
    have bU_1 := (bU 1 _ rfl).1
    have bUf1 := (bU 1 _ rfl).2
    have bUi1 : HasCell (W.world) (w.heap.size + 1) 1 := ⟨_, bU_1⟩
    have bUb : BlockIn (W.world) (w.heap.size + 1) := BlockIn.of_cell bU_0
    clear bU
    have bR_0 := (bR 0 _ rfl).1
    have bRf0 := (bR 0 _ rfl).2
    have bRi0 : HasCell (W.world) (w.heap.size + 1 + 1) 0 := ⟨_, bR_0⟩
    have bR_1 := (bR 1 _ rfl).1
    have bRf1 := (bR 1 _ rfl).2
    have bRi1 : HasCell (W.world) (w.heap.size + 1 + 1) 1 := ⟨_, bR_1⟩
    have bRb : BlockIn (W.world) (w.heap.size + 1 + 1) := BlockIn.of_cell bR_0
    clear bR
    refine wp_loop_rounds 4 ?_
    rw [rounds_succ]
    go_wp2_with (first | (go_at_call 65; (with_reducible refine call_later (H1.out _) ?_); intro u1) | (at_builtin; refine wpList_append_lies _ rfl _ _ 47 rfl W.world.heap.size 36 i0 _ 2 16 Try.underlying47 hi hz0 hzz1 hzz2 rfl (by decide) (.slice none 0 0) _ _ rfl Own.is ⟨_, 0, none⟩ 1 1 [.int .i64 ((ln1 m u).s).lo, .int .i64 ((ln1 m u).s).hi] rfl rfl news_row (by simp [Value.oneCell']) (by decide) (by simp [maxLen]) (by decide) (NewFor.le (a := W.world)) _ rfl ?_; intro g1 cap1 w1 hown1 hgrow1 hat1 hlt1; obtain ⟨x1, rfl⟩ := later_of (Grew.append (show Grew W.world _ from (by repeat (first | with_reducible exact Grew.refl _ | with_reducible apply Grew.alloc | with_reducible apply Grew.later | with_reducible apply Grew.drew | with_reducible apply Grew.store | with_reducible assumption))) (Own.is (v := (.slice none 0 0)) (base := W.world.heap.size) (e := 36) (size := 2)) (Nat.le_refl _) hgrow1)))
    have io1 : Own x1.world W.world.heap.size 36 2 (.slice (some ⟨g1, 0, none⟩) 1 cap1) 1 [.int .i64 ((ln1 m u).s).lo, .int .i64 ((ln1 m u).s).hi] := ⟨hown1⟩
    rw [rounds_succ]
    go_wp2_with (first | (go_at_call 65; (with_reducible refine call_later (J2.out _) ?_); intro u2) | (at_builtin; refine wpList_append_lies _ rfl _ _ 47 rfl W.world.heap.size 36 i0 _ 2 16 Try.underlying47 hi hz0 hzz1 hzz2 rfl (by decide) (.slice (some ⟨g1, 0, none⟩) 1 cap1) _ _ rfl Own.is ⟨_, 0, none⟩ 1 1 [.int .i64 ((ln2 m u).s).lo, .int .i64 ((ln2 m u).s).hi] rfl rfl news_row (by simp [Value.oneCell']) (by decide) (by simp [maxLen]) (by decide) (NewFor.le (a := W.world)) _ rfl ?_; intro g2 cap2 w2 hown2 hgrow2 hat2 hlt2; obtain ⟨x2, rfl⟩ := later_of (Grew.append (show Grew W.world _ from (by repeat (first | with_reducible exact Grew.refl _ | with_reducible apply Grew.alloc | with_reducible apply Grew.later | with_reducible apply Grew.drew | with_reducible apply Grew.store | with_reducible assumption))) (Own.is (v := (.slice (some ⟨g1, 0, none⟩) 1 cap1)) (base := W.world.heap.size) (e := 36) (size := 2)) (Nat.le_refl _) hgrow2)))
    have io2 : Own x2.world W.world.heap.size 36 2 (.slice (some ⟨g2, 0, none⟩) 2 cap2) 2 [.int .i64 ((ln1 m u).s).lo, .int .i64 ((ln1 m u).s).hi, .int .i64 ((ln2 m u).s).lo, .int .i64 ((ln2 m u).s).hi] := ⟨hown2⟩
    rw [rounds_succ]
    go_wp2_with (first | (go_at_call 65; (with_reducible refine call_later (J3.out _) ?_); intro u3))
    refine bodyPost_ret (by (simp [results, Try.results43, go_sem] <;> rfl)) rfl ?_
    exact ⟨ret_err HR.out rfl, (by repeat (first | with_reducible exact Grew.refl _ | with_reducible apply Grew.alloc | with_reducible apply Grew.later | with_reducible apply Grew.drew | with_reducible apply Grew.store | with_reducible assumption))⟩
  have f3 : ((ln3 m u).e != 0) = false := by simp [e3]
  have J4 := Lib.hid (H4.out e3)
  clear e3
  go_enter Try.func43, Try.ntmps43
  go_wp2
  refine wp_to_later (z := w) (by repeat (first | with_reducible exact Grew.refl _ | with_reducible apply Grew.alloc | with_reducible apply Grew.later | with_reducible apply Grew.drew | with_reducible apply Grew.store | with_reducible assumption)) ?_
  intro W hW
  have bM : BoxAt W.world w.heap.size [.int .i64 m.d.x.lo, .int .i64 m.d.x.hi, .int .i64 m.w.x.lo, .int .i64 m.w.x.hi, .int .i64 m.a.x.lo, .int .i64 m.a.x.hi, .int .i64 m.d.y.lo, .int .i64 m.d.y.hi, .int .i64 m.w.y.lo, .int .i64 m.w.y.hi, .int .i64 m.a.y.lo, .int .i64 m.a.y.hi, .int .i64 m.d.z.lo, .int .i64 m.d.z.hi, .int .i64 m.w.z.lo, .int .i64 m.w.z.hi, .int .i64 m.a.z.lo, .int .i64 m.a.z.hi, .int .i64 m.t, .int .i64 m.n] := by rw [hW]; exact (boxAt_new w [.int .i64 m.d.x.lo, .int .i64 m.d.x.hi, .int .i64 m.w.x.lo, .int .i64 m.w.x.hi, .int .i64 m.a.x.lo, .int .i64 m.a.x.hi, .int .i64 m.d.y.lo, .int .i64 m.d.y.hi, .int .i64 m.w.y.lo, .int .i64 m.w.y.hi, .int .i64 m.a.y.lo, .int .i64 m.a.y.hi, .int .i64 m.d.z.lo, .int .i64 m.d.z.hi, .int .i64 m.w.z.lo, .int .i64 m.w.z.hi, .int .i64 m.a.z.lo, .int .i64 m.a.z.hi, .int .i64 m.t, .int .i64 m.n] _).grew (by simp) (((Grew.refl _).alloc _).alloc _)
  have bU : BoxAt W.world (w.heap.size + 1) [.int .i64 u.lo, .int .i64 u.hi] := by rw [hW]; exact boxAt_two (by go_simp) (by go_simp) (by go_simp) (by go_simp)
  have bR : BoxAt W.world (w.heap.size + 1 + 1) [.int .i64 0, .int .i64 0] := by rw [hW]; exact boxAt_two (by go_simp) (by go_simp) (by go_simp) (by go_simp)
  clear hW
  have bM_0 := (bM 0 _ rfl).1
  have bMf0 := (bM 0 _ rfl).2
  have bMi0 : HasCell (W.world) (w.heap.size) 0 := ⟨_, bM_0⟩
  have bM_1 := (bM 1 _ rfl).1
  have bMf1 := (bM 1 _ rfl).2
  have bMi1 : HasCell (W.world) (w.heap.size) 1 := ⟨_, bM_1⟩
  have bM_2 := (bM 2 _ rfl).1
  have bMf2 := (bM 2 _ rfl).2
  have bMi2 : HasCell (W.world) (w.heap.size) 2 := ⟨_, bM_2⟩
  have bM_3 := (bM 3 _ rfl).1
  have bMf3 := (bM 3 _ rfl).2
  have bMi3 : HasCell (W.world) (w.heap.size) 3 := ⟨_, bM_3⟩
  have bM_4 := (bM 4 _ rfl).1
  have bMf4 := (bM 4 _ rfl).2
  have bMi4 : HasCell (W.world) (w.heap.size) 4 := ⟨_, bM_4⟩
  have bM_5 := (bM 5 _ rfl).1
  have bMf5 := (bM 5 _ rfl).2
  have bMi5 : HasCell (W.world) (w.heap.size) 5 := ⟨_, bM_5⟩
  have bM_6 := (bM 6 _ rfl).1
  have bMf6 := (bM 6 _ rfl).2
  have bMi6 : HasCell (W.world) (w.heap.size) 6 := ⟨_, bM_6⟩
  have bM_7 := (bM 7 _ rfl).1
  have bMf7 := (bM 7 _ rfl).2
  have bMi7 : HasCell (W.world) (w.heap.size) 7 := ⟨_, bM_7⟩
  have bM_8 := (bM 8 _ rfl).1
  have bMf8 := (bM 8 _ rfl).2
  have bMi8 : HasCell (W.world) (w.heap.size) 8 := ⟨_, bM_8⟩
  have bM_9 := (bM 9 _ rfl).1
  have bMf9 := (bM 9 _ rfl).2
  have bMi9 : HasCell (W.world) (w.heap.size) 9 := ⟨_, bM_9⟩
  have bM_10 := (bM 10 _ rfl).1
  have bMf10 := (bM 10 _ rfl).2
  have bMi10 : HasCell (W.world) (w.heap.size) 10 := ⟨_, bM_10⟩
  have bM_11 := (bM 11 _ rfl).1
  have bMf11 := (bM 11 _ rfl).2
  have bMi11 : HasCell (W.world) (w.heap.size) 11 := ⟨_, bM_11⟩
  have bM_12 := (bM 12 _ rfl).1
  have bMf12 := (bM 12 _ rfl).2
  have bMi12 : HasCell (W.world) (w.heap.size) 12 := ⟨_, bM_12⟩
  have bM_13 := (bM 13 _ rfl).1
  have bMf13 := (bM 13 _ rfl).2
  have bMi13 : HasCell (W.world) (w.heap.size) 13 := ⟨_, bM_13⟩
  have bM_14 := (bM 14 _ rfl).1
  have bMf14 := (bM 14 _ rfl).2
  have bMi14 : HasCell (W.world) (w.heap.size) 14 := ⟨_, bM_14⟩
  have bM_15 := (bM 15 _ rfl).1
  have bMf15 := (bM 15 _ rfl).2
  have bMi15 : HasCell (W.world) (w.heap.size) 15 := ⟨_, bM_15⟩
  have bM_16 := (bM 16 _ rfl).1
  have bMf16 := (bM 16 _ rfl).2
  have bMi16 : HasCell (W.world) (w.heap.size) 16 := ⟨_, bM_16⟩
  have bM_17 := (bM 17 _ rfl).1
  have bMf17 := (bM 17 _ rfl).2
  have bMi17 : HasCell (W.world) (w.heap.size) 17 := ⟨_, bM_17⟩
  have bM_18 := (bM 18 _ rfl).1
  have bMf18 := (bM 18 _ rfl).2
  have bMi18 : HasCell (W.world) (w.heap.size) 18 := ⟨_, bM_18⟩
  have bM_19 := (bM 19 _ rfl).1
  have bMf19 := (bM 19 _ rfl).2
  have bMi19 : HasCell (W.world) (w.heap.size) 19 := ⟨_, bM_19⟩
  have bMb : BlockIn (W.world) (w.heap.size) := BlockIn.of_cell bM_0
  clear bM
  have bU_0 := (bU 0 _ rfl).1
  have bUf0 := (bU 0 _ rfl).2
  have bUi0 : HasCell (W.world) (w.heap.size + 1) 0 := ⟨_, bU_0⟩
  have bU_1 := (bU 1 _ rfl).1
  have bUf1 := (bU 1 _ rfl).2
  have bUi1 : HasCell (W.world) (w.heap.size + 1) 1 := ⟨_, bU_1⟩
  have bUb : BlockIn (W.world) (w.heap.size + 1) := BlockIn.of_cell bU_0
  clear bU
  have bR_0 := (bR 0 _ rfl).1
  have bRf0 := (bR 0 _ rfl).2
  have bRi0 : HasCell (W.world) (w.heap.size + 1 + 1) 0 := ⟨_, bR_0⟩
  have bR_1 := (bR 1 _ rfl).1
  have bRf1 := (bR 1 _ rfl).2
  have bRi1 : HasCell (W.world) (w.heap.size + 1 + 1) 1 := ⟨_, bR_1⟩
  have bRb : BlockIn (W.world) (w.heap.size + 1 + 1) := BlockIn.of_cell bR_0
  clear bR
  refine wp_loop_rounds 4 ?_
  rw [rounds_succ]
  go_wp2_with (first | (go_at_call 65; (with_reducible refine call_later (H1.out _) ?_); intro u1) | (at_builtin; refine wpList_append_lies _ rfl _ _ 47 rfl W.world.heap.size 36 i0 _ 2 16 Try.underlying47 hi hz0 hzz1 hzz2 rfl (by decide) (.slice none 0 0) _ _ rfl Own.is ⟨_, 0, none⟩ 1 1 [.int .i64 ((ln1 m u).s).lo, .int .i64 ((ln1 m u).s).hi] rfl rfl news_row (by simp [Value.oneCell']) (by decide) (by simp [maxLen]) (by decide) (NewFor.le (a := W.world)) _ rfl ?_; intro g1 cap1 w1 hown1 hgrow1 hat1 hlt1; obtain ⟨x1, rfl⟩ := later_of (Grew.append (show Grew W.world _ from (by repeat (first | with_reducible exact Grew.refl _ | with_reducible apply Grew.alloc | with_reducible apply Grew.later | with_reducible apply Grew.drew | with_reducible apply Grew.store | with_reducible assumption))) (Own.is (v := (.slice none 0 0)) (base := W.world.heap.size) (e := 36) (size := 2)) (Nat.le_refl _) hgrow1)))
  have io1 : Own x1.world W.world.heap.size 36 2 (.slice (some ⟨g1, 0, none⟩) 1 cap1) 1 [.int .i64 ((ln1 m u).s).lo, .int .i64 ((ln1 m u).s).hi] := ⟨hown1⟩
  rw [rounds_succ]
  go_wp2_with (first | (go_at_call 65; (with_reducible refine call_later (J2.out _) ?_); intro u2) | (at_builtin; refine wpList_append_lies _ rfl _ _ 47 rfl W.world.heap.size 36 i0 _ 2 16 Try.underlying47 hi hz0 hzz1 hzz2 rfl (by decide) (.slice (some ⟨g1, 0, none⟩) 1 cap1) _ _ rfl Own.is ⟨_, 0, none⟩ 1 1 [.int .i64 ((ln2 m u).s).lo, .int .i64 ((ln2 m u).s).hi] rfl rfl news_row (by simp [Value.oneCell']) (by decide) (by simp [maxLen]) (by decide) (NewFor.le (a := W.world)) _ rfl ?_; intro g2 cap2 w2 hown2 hgrow2 hat2 hlt2; obtain ⟨x2, rfl⟩ := later_of (Grew.append (show Grew W.world _ from (by repeat (first | with_reducible exact Grew.refl _ | with_reducible apply Grew.alloc | with_reducible apply Grew.later | with_reducible apply Grew.drew | with_reducible apply Grew.store | with_reducible assumption))) (Own.is (v := (.slice (some ⟨g1, 0, none⟩) 1 cap1)) (base := W.world.heap.size) (e := 36) (size := 2)) (Nat.le_refl _) hgrow2)))
  have io2 : Own x2.world W.world.heap.size 36 2 (.slice (some ⟨g2, 0, none⟩) 2 cap2) 2 [.int .i64 ((ln1 m u).s).lo, .int .i64 ((ln1 m u).s).hi, .int .i64 ((ln2 m u).s).lo, .int .i64 ((ln2 m u).s).hi] := ⟨hown2⟩
  rw [rounds_succ]
  go_wp2_with (first | (go_at_call 65; (with_reducible refine call_later (J3.out _) ?_); intro u3) | (at_builtin; refine wpList_append_lies _ rfl _ _ 47 rfl W.world.heap.size 36 i0 _ 2 16 Try.underlying47 hi hz0 hzz1 hzz2 rfl (by decide) (.slice (some ⟨g2, 0, none⟩) 2 cap2) _ _ rfl Own.is ⟨_, 0, none⟩ 1 1 [.int .i64 ((ln3 m u).s).lo, .int .i64 ((ln3 m u).s).hi] rfl rfl news_row (by simp [Value.oneCell']) (by decide) (by simp [maxLen]) (by decide) (NewFor.le (a := W.world)) _ rfl ?_; intro g3 cap3 w3 hown3 hgrow3 hat3 hlt3; obtain ⟨x3, rfl⟩ := later_of (Grew.append (show Grew W.world _ from (by repeat (first | with_reducible exact Grew.refl _ | with_reducible apply Grew.alloc | with_reducible apply Grew.later | with_reducible apply Grew.drew | with_reducible apply Grew.store | with_reducible assumption))) (Own.is (v := (.slice (some ⟨g2, 0, none⟩) 2 cap2)) (base := W.world.heap.size) (e := 36) (size := 2)) (Nat.le_refl _) hgrow3)))
  have io3 : Own x3.world W.world.heap.size 36 2 (.slice (some ⟨g3, 0, none⟩) 3 cap3) 3 [.int .i64 ((ln1 m u).s).lo, .int .i64 ((ln1 m u).s).hi, .int .i64 ((ln2 m u).s).lo, .int .i64 ((ln2 m u).s).hi, .int .i64 ((ln3 m u).s).lo, .int .i64 ((ln3 m u).s).hi] := ⟨hown3⟩
  rw [rounds_succ]
  have hs := SlAt.of_owns io3.is
  go_wp2_with (first | (go_at_call 18; (with_reducible refine call_later (J4.out _ _ _ hs) ?_); intro u4))
  refine bodyPost_ret (by (simp [results, Try.results43, go_sem] <;> rfl)) rfl ?_
  exact ⟨rfl, (by repeat (first | with_reducible exact Grew.refl _ | with_reducible apply Grew.alloc | with_reducible apply Grew.later | with_reducible apply Grew.drew | with_reducible apply Grew.store | with_reducible assumption))⟩
end Go.Proofs.Ytjnednehcjfkmaa
