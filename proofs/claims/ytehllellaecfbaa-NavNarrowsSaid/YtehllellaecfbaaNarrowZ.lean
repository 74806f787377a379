/-
  NavNarrows: of any true place and velocity, any list of measurements, one more, and any numbers of rounds: the walk of ullagelaw06.NavNarrows.
  The True struct of layer 6's outright statements, and a list of measurements, opened.
  NavNarrows: of any true place and velocity, any list of measurements, one more, and any numbers of rounds: no condition.
-/
import Derived.Test.YtehllellaecfbaaNarrowY
import Derived.Test.YtehllellaecfbaaNavTruly
import Derived.Test.YtehllellaecfbaaNavOuts
import Derived.Deep.DeepCutAuto
import Derived.Test.YtehllellaecfbaaOpenAll
import Derived.Test.YtehllellaecfbaaRows
namespace Go.Proofs.Ytehllellaecfbaa
open Go.RowKit Go.Shelf
set_option maxRecDepth 100000
set_option maxHeartbeats 16000000
theorem narrows_walk (x : Tr) (hx : x.Ok) (l : List Radio) (m : Radio) (a b : Int) (a0 : 0 ≤ a) (a1 : a ≤ 255) (b0 : 0 ≤ b) (b1 : b ≤ 255) (hT : ∀ m ∈ l, Ra64 m) (hM : Ra64 m) (ao : Option Addr) (cap : Nat) (w : World) (hs : SlAt w (.slice ao l.length cap) l.length (l.flatMap Radio.cells)) :
    Calls Try.prog 4 #[.agg x.cells.toArray, .slice ao l.length cap, .agg m.cells.toArray, .int .u8 a, .int .u8 b] w fun e w' => e = .returned (.bool true) ∧ Grew w w' := by
  have hm := hs.len_le
  unfold maxLen at hm
  have Hs := Lib.hid hs
  have HA := Lib.hid (fun w => l6About_any x hx w)
  clear hs hx
  by_cases hl : 6 < l.length
  · have hl' : (6 : Int) < l.length := by omega
    clear hl
    go_enter Try.func4, Try.ntmps4
    go_wp2_with (first | (go_at_call 12; (with_reducible refine call_later (l6Alive_any _) ?_); intro u) | ((with_reducible refine wpList_load_rng ?_ ?_ ?_ ?_ ?_ ?_ ?_ ?_ ?_ ?_ ?_ ?_); rotate_left 6; (· rfl); (· rfl); (· rfl); (· infer_instance); (· infer_instance)) | ((with_reducible refine wpList_load_is ?_ ?_ ?_ ?_ ?_ ?_ ?_ ?_ ?_ ?_ ?_ ?_ ?_); rotate_left 6; (· rfl); (· rfl); (· rfl); (· infer_instance); (· infer_instance); (· rfl)) | ((with_reducible refine wpList_store_fresh ?_ ?_ ?_ ?_ ?_ ?_ ?_ ?_ ?_ ?_ ?_ ?_ ?_ ?_ ?_ ?_ ?_); rotate_left 5; (· rfl); (· rfl); (· rfl); (· rfl); (· rfl); (· infer_instance); (· infer_instance); (· infer_instance); (· infer_instance)) | ((with_reducible refine wpList_store_is ?_ ?_ ?_ ?_ ?_ ?_ ?_ ?_ ?_ ?_ ?_ ?_ ?_ ?_ ?_ ?_ ?_); rotate_left 7; (· rfl); (· rfl); (· rfl); (· rfl); (· rfl); (· infer_instance); (· infer_instance); (· infer_instance); (· infer_instance)) | ((with_reducible refine wp_region_later ?_ ?_ ?_); (· kernel_rfl); (· kernel_rfl); (try simp only [List.append_eq, List.cons_append, List.nil_append]); (repeat (go_big_quiet_step ((first | (go_at_call 12; (with_reducible exact call_quiet (l6Alive_any _))))))); refine wpQuiet_nil ?_; rintro _ ⟨u, rfl⟩))
    go_ret
    exact ⟨rfl, gw⟩
  have hl' : ¬ ((6 : Int) < l.length) := by omega
  have hT2 : ∀ r ∈ l ++ [m], Ra64 r := fun r hr => by
    rcases List.mem_append.1 hr with h | h
    · exact hT r h
    · rw [List.mem_singleton.1 h]
      exact hM
  have HF := Lib.hid (fun (s : State) (hp : Pv64 s) (n : Int) w' (g : Grew w w') => show Calls Try.prog 14 #[.agg s.cells.toArray, .slice ao l.length cap, .int .i64 n] w' (fun e w'' => e = .returned (.tuple #[.agg (fuseRR s l n).s.cells.toArray, .int .i64 (fuseRR s l n).n, .int .i64 (fuseRR s l n).e]) ∧ Grew w' w'') from navFuseT_any s l n hT ao cap w' (Hs.out.grew g))
  have HD := Lib.hid (fun (s : State) (hp : Pv64 s) ao cap w (hs : SlAt w (.slice ao (l.length + 1) cap) (l.length + 1) ((l ++ [m]).flatMap Radio.cells)) => show Calls Try.prog 14 #[.agg #[.int .i64 s.t, .int .i64 s.p.x.lo, .int .i64 s.p.x.hi, .int .i64 s.p.y.lo, .int .i64 s.p.y.hi, .int .i64 s.p.z.lo, .int .i64 s.p.z.hi, .int .i64 s.v.x.lo, .int .i64 s.v.x.hi, .int .i64 s.v.y.lo, .int .i64 s.v.y.hi, .int .i64 s.v.z.lo, .int .i64 s.v.z.hi, .int .i64 s.m.lo, .int .i64 s.m.hi], .slice ao (l.length + 1) cap, .int .i64 1] w fun e w' => e = .returned (.tuple #[.agg #[.int .i64 ((fuseRR s (l ++ [m]) 1).s).t, .int .i64 ((fuseRR s (l ++ [m]) 1).s).p.x.lo, .int .i64 ((fuseRR s (l ++ [m]) 1).s).p.x.hi, .int .i64 ((fuseRR s (l ++ [m]) 1).s).p.y.lo, .int .i64 ((fuseRR s (l ++ [m]) 1).s).p.y.hi, .int .i64 ((fuseRR s (l ++ [m]) 1).s).p.z.lo, .int .i64 ((fuseRR s (l ++ [m]) 1).s).p.z.hi, .int .i64 ((fuseRR s (l ++ [m]) 1).s).v.x.lo, .int .i64 ((fuseRR s (l ++ [m]) 1).s).v.x.hi, .int .i64 ((fuseRR s (l ++ [m]) 1).s).v.y.lo, .int .i64 ((fuseRR s (l ++ [m]) 1).s).v.y.hi, .int .i64 ((fuseRR s (l ++ [m]) 1).s).v.z.lo, .int .i64 ((fuseRR s (l ++ [m]) 1).s).v.z.hi, .int .i64 ((fuseRR s (l ++ [m]) 1).s).m.lo, .int .i64 ((fuseRR s (l ++ [m]) 1).s).m.hi], .int .i64 (fuseRR s (l ++ [m]) 1).n, .int .i64 (fuseRR s (l ++ [m]) 1).e]) ∧ Grew w w' from by
    have e : l.length + 1 = (l ++ [m]).length := by simp
    rw [e] at hs ⊢
    exact navFuseT_any s (l ++ [m]) 1 hT2 ao cap w hs)
  have HL := Lib.hid hl
  clear hl hT hT2 hM
  go_enter Try.func4, Try.ntmps4
  go_upto_region 5 with (first | (go_at_call 12; (with_reducible refine call_later (l6Alive_any _) ?_); intro ua) | (go_at_call 13; refine (HA.out _).mono ?_; rintro e w' ⟨s, t, u, v, hA, hs64, ht64, rfl, hg1⟩; obtain ⟨z1, rfl⟩ := later_of hg1; have hA' := Lib.hid hA; have ap1 : Apart z1.world.heap.size (z1.world.heap.size + 1) := ⟨by omega⟩; have ap2 : Apart (z1.world.heap.size + 1) z1.world.heap.size := ⟨by omega⟩; clear hg1 hA) | ((with_reducible refine wpList_load_rng ?_ ?_ ?_ ?_ ?_ ?_ ?_ ?_ ?_ ?_ ?_ ?_); rotate_left 6; (· rfl); (· rfl); (· rfl); (· infer_instance); (· infer_instance)) | ((with_reducible refine wpList_load_is ?_ ?_ ?_ ?_ ?_ ?_ ?_ ?_ ?_ ?_ ?_ ?_ ?_); rotate_left 6; (· rfl); (· rfl); (· rfl); (· infer_instance); (· infer_instance); (· rfl)) | ((with_reducible refine wpList_store_fresh ?_ ?_ ?_ ?_ ?_ ?_ ?_ ?_ ?_ ?_ ?_ ?_ ?_ ?_ ?_ ?_ ?_); rotate_left 5; (· rfl); (· rfl); (· rfl); (· rfl); (· rfl); (· infer_instance); (· infer_instance); (· infer_instance); (· infer_instance)) | ((with_reducible refine wpList_store_is ?_ ?_ ?_ ?_ ?_ ?_ ?_ ?_ ?_ ?_ ?_ ?_ ?_ ?_ ?_ ?_ ?_); rotate_left 7; (· rfl); (· rfl); (· rfl); (· rfl); (· rfl); (· infer_instance); (· infer_instance); (· infer_instance); (· infer_instance)))
  refine wp_to_later (z := w) (by repeat (first | with_reducible exact Grew.refl _ | with_reducible apply Grew.alloc | with_reducible apply Grew.later | with_reducible apply Grew.drew | with_reducible apply Grew.setRow | with_reducible apply Grew.store | with_reducible assumption)) ?_
  intro W hW
  have r7 : RowIs W.world (w.heap.size + 1) 43 m.cells := by rw [hW]; infer_instance
  have r12 : RowIs W.world z1.world.heap.size 45 s.cells := by rw [hW]; infer_instance
  have r13 : RowIs W.world (z1.world.heap.size + 1) 45 t.cells := by rw [hW]; infer_instance
  clear hW HA ap1 ap2
  have i7 := r7.blockIn
  have i12 := r12.blockIn
  have i13 := r13.blockIn
  generalize z1.world.heap.size = q12 at *
  have hl := HL.out
  obtain ⟨o1, o2⟩ := narrows_one hA'.out.sokB hA'.out.ok (l := l) (by omega) (n := a % 9) (k := b % 8) (by omega) (by omega) (by omega)
  have o3 := fun h => narrows_two (m := m) hA'.out.ok (l := l) h hA'.out.sokB (by omega)
  obtain ⟨o4, o5⟩ := narrows_three hA'.out (l := l) (n := a % 9) (by omega) (by omega)
  have HK := Lib.hid (fun wx (g : Grew W.world wx) x1 x2 x3 => narrows_b s t _ _ _ _ m _ _ _ _ _ _ _ _ (a % 9) l (by omega) (w.heap.size + 1) q12 cap ao w wx (W.grew.trans g) x1 x2 x3 (Hs.out.grew (W.grew.trans g)) (fun w' g' => HF.out t ht64 (a % 9) w' (W.grew.trans (g.trans g'))) (fun w' g' => HF.out s hs64 (a % 9) w' (W.grew.trans (g.trans g'))) (fun w' g' => HF.out s hs64 1 w' (W.grew.trans (g.trans g'))) (HD.out s hs64) o4 (fun p q w => is_bool (o5 p q) (l6Within_any _ _ w)) (fun p => (o3 p).1) (fun p q r w => is_bool ((o3 p).2 q r) (l6Within_any _ _ w)))
  have H1 := Lib.hid (fun w' (g : Grew W.world w') => HF.out s hs64 (a % 9) w' (W.grew.trans g))
  have H2 := Lib.hid (fun w' (g : Grew W.world w') => HF.out s hs64 (a % 9 + b % 8) w' (W.grew.trans g))
  clear HD HF o3 o4 o5 HL
  generalize (fuseRR s l (a % 9)).s = sA at *
  generalize (fuseRR s l (a % 9)).n = an at *
  generalize (fuseRR s l (a % 9)).e = ae at *
  generalize (fuseRR s l (a % 9 + b % 8)).s = bs at *
  generalize (fuseRR s l (a % 9 + b % 8)).n = bn at *
  generalize (fuseRR s l (a % 9 + b % 8)).e = be at *
  by_cases c1 : ae = 2
  · obtain rfl := o1 c1
    subst c1
    clear o2 HK
    go_wp2_with (first | (go_at_call 14; (with_reducible refine call_later (H1.out _ gw) ?_); intro u1) | (go_at_call 14; (with_reducible refine call_later (H2.out _ gw) ?_); intro u2) | ((with_reducible refine wpList_load_rng ?_ ?_ ?_ ?_ ?_ ?_ ?_ ?_ ?_ ?_ ?_ ?_); rotate_left 6; (· rfl); (· rfl); (· rfl); (· infer_instance); (· infer_instance)) | ((with_reducible refine wpList_load_is ?_ ?_ ?_ ?_ ?_ ?_ ?_ ?_ ?_ ?_ ?_ ?_ ?_); rotate_left 6; (· rfl); (· rfl); (· rfl); (· infer_instance); (· infer_instance); (· rfl)) | ((with_reducible refine wpList_store_fresh ?_ ?_ ?_ ?_ ?_ ?_ ?_ ?_ ?_ ?_ ?_ ?_ ?_ ?_ ?_ ?_ ?_); rotate_left 5; (· rfl); (· rfl); (· rfl); (· rfl); (· rfl); (· infer_instance); (· infer_instance); (· infer_instance); (· infer_instance)) | ((with_reducible refine wpList_store_is ?_ ?_ ?_ ?_ ?_ ?_ ?_ ?_ ?_ ?_ ?_ ?_ ?_ ?_ ?_ ?_ ?_); rotate_left 7; (· rfl); (· rfl); (· rfl); (· rfl); (· rfl); (· infer_instance); (· infer_instance); (· infer_instance); (· infer_instance)))
    go_ret
    exact ⟨rfl, gw⟩
  obtain ⟨p1, p2⟩ := o2 c1
  clear o1 o2
  have t1 : (ae == 2) = false := by simp [c1]
  go_upto_region 10 with (first | (go_at_call 14; (with_reducible refine call_later (H1.out _ gw) ?_); intro u1) | (go_at_call 14; (with_reducible refine call_later (H2.out _ gw) ?_); intro u2) | ((with_reducible refine wpList_load_rng ?_ ?_ ?_ ?_ ?_ ?_ ?_ ?_ ?_ ?_ ?_ ?_); rotate_left 6; (· rfl); (· rfl); (· rfl); (· infer_instance); (· infer_instance)) | ((with_reducible refine wpList_load_is ?_ ?_ ?_ ?_ ?_ ?_ ?_ ?_ ?_ ?_ ?_ ?_ ?_); rotate_left 6; (· rfl); (· rfl); (· rfl); (· infer_instance); (· infer_instance); (· rfl)) | ((with_reducible refine wpList_store_fresh ?_ ?_ ?_ ?_ ?_ ?_ ?_ ?_ ?_ ?_ ?_ ?_ ?_ ?_ ?_ ?_ ?_); rotate_left 5; (· rfl); (· rfl); (· rfl); (· rfl); (· rfl); (· infer_instance); (· infer_instance); (· infer_instance); (· infer_instance)) | ((with_reducible refine wpList_store_is ?_ ?_ ?_ ?_ ?_ ?_ ?_ ?_ ?_ ?_ ?_ ?_ ?_ ?_ ?_ ?_ ?_); rotate_left 7; (· rfl); (· rfl); (· rfl); (· rfl); (· rfl); (· infer_instance); (· infer_instance); (· infer_instance); (· infer_instance)))
  refine wp_to_later (z := W.world) (by repeat (first | with_reducible exact Grew.refl _ | with_reducible apply Grew.alloc | with_reducible apply Grew.later | with_reducible apply Grew.drew | with_reducible apply Grew.setRow | with_reducible apply Grew.store | with_reducible assumption)) ?_
  intro Y hY
  have ra : RowIs Y.world u1.world.heap.size 45 sA.cells := by rw [hY]; infer_instance
  have rb : RowIs Y.world u2.world.heap.size 45 bs.cells := by rw [hY]; infer_instance
  clear hY
  have ia := ra.blockIn
  have ib := rb.blockIn
  generalize u1.world.heap.size = q15 at *
  generalize u2.world.heap.size = q18 at *
  clear u2 u1 H1 H2
  go_cut [101] (fun cd wx => cd = .bool false ∧ Grew Y.world wx)
  case first =>
    by_cases c2 : ae = 0
    · by_cases c3 : be = 0
      · have HW := Lib.hid (fun w => show Calls Try.prog 15 #[.agg #[.int .i64 bs.t, .int .i64 bs.p.x.lo, .int .i64 bs.p.x.hi, .int .i64 bs.p.y.lo, .int .i64 bs.p.y.hi, .int .i64 bs.p.z.lo, .int .i64 bs.p.z.hi, .int .i64 bs.v.x.lo, .int .i64 bs.v.x.hi, .int .i64 bs.v.y.lo, .int .i64 bs.v.y.hi, .int .i64 bs.v.z.lo, .int .i64 bs.v.z.hi, .int .i64 bs.m.lo, .int .i64 bs.m.hi], .agg #[.int .i64 sA.t, .int .i64 sA.p.x.lo, .int .i64 sA.p.x.hi, .int .i64 sA.p.y.lo, .int .i64 sA.p.y.hi, .int .i64 sA.p.z.lo, .int .i64 sA.p.z.hi, .int .i64 sA.v.x.lo, .int .i64 sA.v.x.hi, .int .i64 sA.v.y.lo, .int .i64 sA.v.y.hi, .int .i64 sA.v.z.lo, .int .i64 sA.v.z.hi, .int .i64 sA.m.lo, .int .i64 sA.m.hi]] w fun e w' => e = .returned (.bool true) ∧ Grew w w' from is_bool (p1 c2 c3) (l6Within_any _ _ w))
        subst c2 c3
        clear p1 p2 HK
        go_wp2_with (first | (go_at_call 15; (with_reducible refine call_later (HW.out _) ?_); intro u3) | ((with_reducible refine wpList_load_rng ?_ ?_ ?_ ?_ ?_ ?_ ?_ ?_ ?_ ?_ ?_ ?_); rotate_left 6; (· rfl); (· rfl); (· rfl); (· infer_instance); (· infer_instance)) | ((with_reducible refine wpList_load_is ?_ ?_ ?_ ?_ ?_ ?_ ?_ ?_ ?_ ?_ ?_ ?_ ?_); rotate_left 6; (· rfl); (· rfl); (· rfl); (· infer_instance); (· infer_instance); (· rfl)) | ((with_reducible refine wpList_store_fresh ?_ ?_ ?_ ?_ ?_ ?_ ?_ ?_ ?_ ?_ ?_ ?_ ?_ ?_ ?_ ?_ ?_); rotate_left 5; (· rfl); (· rfl); (· rfl); (· rfl); (· rfl); (· infer_instance); (· infer_instance); (· infer_instance); (· infer_instance)) | ((with_reducible refine wpList_store_is ?_ ?_ ?_ ?_ ?_ ?_ ?_ ?_ ?_ ?_ ?_ ?_ ?_ ?_ ?_ ?_ ?_); rotate_left 7; (· rfl); (· rfl); (· rfl); (· rfl); (· rfl); (· infer_instance); (· infer_instance); (· infer_instance); (· infer_instance)))
        go_meet
        case rel => exact ⟨rfl, gw⟩
      · have t3 : (be == 0) = false := by simp [c3]
        subst c2
        clear p1 p2 HK
        go_wp2
        go_meet
        case rel => exact ⟨rfl, gw⟩
    · obtain rfl := p2 c2
      have t3 : (be == 0) = false := by simp [c2]
      have t4 : (be != 0) = true := by simp [c2]
      have t5 : (be != be) = false := by simp
      clear p1 p2 HK
      go_wp2
      go_meet
      case rel => exact ⟨rfl, gw⟩
  case rest =>
  obtain ⟨rfl, hcut⟩ := hcut
  obtain ⟨z4, rfl⟩ := later_of hcut
  clear hcut p1 p2
  go_step
  go_step
  go_step
  go_step
  go_step
  exact HK.out _ gw inferInstance inferInstance inferInstance _ _ _ _ _ _ _ _ _ _ _ _ _ _ _ _ _ _ _ _ _ _ _ _ _ _ _ _ _ _ _ _ _ _ _ _ _ _ _ _ _ _ _ _ _ _ _ _ _ _ _ _ _ _ _ _ _ _ _ _ _ _ _ _ _ _ _ _ _ _ _ _ _ _ _ _ _ _ _ _ _ _ _ _ _ _ _ _ _ _ _ _ _ _ _ _ _ _ _ _ _ _ _ _ _ _ _ _ _ _ _ _ _ _ _ _ _ _ _ _ _ _ _ _ _ _ _ _ _ _ _ _ _ _ _ _ _ _ _ _ _ _ _ _ _ _ _ _ _ _ _ _ _ _ _ _ _ _ _ _ _ _ _ _ _ _ _ _ _ _ _ _ _ _ _ _ _ 
end Go.Proofs.Ytehllellaecfbaa
namespace Go.Proofs.Ytehllellaecfbaa
open Go.RowKit Go.ChangeShapes Go.WideShapes Go.ChangeAt Go.Deep
set_option maxRecDepth 100000
set_option maxHeartbeats 8000000
section
variable {H : Type} {enc : TypeId × Value → H} {P : Program} {w : World} {base : Nat} {spare : Nat → Bool} {held : Bool}
theorem ints_trod {fuel : Nat} {cs : List Value} {x : DataW H × List MemPlace} {t e : TypeId} {n : Nat} {k : IntKind} (ht : P.underlying t = some (.array n e)) (he : P.underlying e = some (.int k)) (hc : P.cellsOf t = n) (h1 : P.cellsOf e = 1)
    (h0 : (Lit.int k 0).wf = true) (h : DataW.trod enc P w base spare held fuel t cs = some x) : ∃ f : Nat → Int, cs = (List.range n).map (fun j => .int k (f j)) ∧ ∀ j, (Lit.int k (f j)).wf = true := by
  obtain ⟨xs, m, rfl, -, hl, hxl, hf⟩ := DataW.trod_array ht h
  rw [hc] at hl
  have H : ∀ j, ∃ y : Int, (j < n → cs[j]? = some (.int k y)) ∧ (Lit.int k y).wf = true := by
    intro j
    by_cases hj : j < n
    · have hj' := hf j hj
      rw [h1, Nat.mul_one, List.getElem?_eq_getElem (by omega)] at hj'
      obtain ⟨y, e1, -, hw⟩ := DataW.trod_int he hj'
      refine ⟨y, fun _ => ?_, hw⟩
      have : ((cs.drop j).take 1)[0]? = some (.int k y) := by rw [e1]; rfl
      simpa [List.getElem?_take, List.getElem?_drop] using this
    · exact ⟨0, fun h => absurd h hj, h0⟩
  refine ⟨fun j => Classical.choose (H j), ?_, fun j => (Classical.choose_spec (H j)).2⟩
  apply List.ext_getElem?
  intro i
  by_cases hi : i < n
  · rw [(Classical.choose_spec (H i)).1 hi]
    simp [hi]
  · rw [List.getElem?_eq_none (by omega), List.getElem?_eq_none (by simp; omega)]
end
theorem b64_of {b : Bx} (h1 : I64 b.x.lo) (h2 : I64 b.x.hi) (h3 : I64 b.y.lo) (h4 : I64 b.y.hi) (h5 : I64 b.z.lo) (h6 : I64 b.z.hi) : B64 b := ⟨⟨h1, h2⟩, ⟨h3, h4⟩, ⟨h5, h6⟩⟩
section
variable {H : Type} {enc : TypeId × Value → H} {w : World} {base : Nat} {spare : Nat → Bool} {held : Bool}
theorem vals12 {cs : List Value} (h : cs.length = 12) : ∃ c0 c1 c2 c3 c4 c5 c6 c7 c8 c9 c10 c11, cs = [c0, c1, c2, c3, c4, c5, c6, c7, c8, c9, c10, c11] := by
  match cs, h with | [c0, c1, c2, c3, c4, c5, c6, c7, c8, c9, c10, c11], _ => exact ⟨c0, c1, c2, c3, c4, c5, c6, c7, c8, c9, c10, c11, rfl⟩
theorem true_trod {fuel : Nat} {cs : List Value} {x : DataW H × List MemPlace} (h : DataW.trod enc Try.prog w base spare held fuel 35 cs = some x) :
    ∃ x : Tr, cs = x.cells ∧ x.Ok := by
  obtain ⟨xs, n, rfl, -, hl, hxl, hf⟩ := DataW.trod_struct Try.underlying35 h
  have hxl : xs.length = 3 := hxl
  have hC : Try.prog.cellsOf 35 = 12 := by kernel_rfl
  have hA : Try.prog.cellsOf 31 = 3 := by kernel_rfl
  have hB : Try.prog.cellsOf 33 = 6 := by kernel_rfl
  obtain ⟨c0, c1, c2, c3, c4, c5, c6, c7, c8, c9, c10, c11, rfl⟩ := vals12 (hl.trans hC)
  have f0 : DataW.trod enc Try.prog w base spare held n 31 (([c0, c1, c2, c3, c4, c5, c6, c7, c8, c9, c10, c11].drop 0).take (Try.prog.cellsOf 31)) = xs[0]? := hf 0 _ rfl
  have f1 : DataW.trod enc Try.prog w base spare held n 31 (([c0, c1, c2, c3, c4, c5, c6, c7, c8, c9, c10, c11].drop 3).take (Try.prog.cellsOf 31)) = xs[1]? := hf 1 _ rfl
  have f2 : DataW.trod enc Try.prog w base spare held n 33 (([c0, c1, c2, c3, c4, c5, c6, c7, c8, c9, c10, c11].drop 6).take (Try.prog.cellsOf 33)) = xs[2]? := hf 2 _ rfl
  rw [List.getElem?_eq_getElem (by omega), hA] at f0 f1
  rw [List.getElem?_eq_getElem (by omega), hB] at f2
  obtain ⟨p, e0, b0⟩ := ints_trod Try.underlying31 Try.underlying21 hA (by kernel_rfl) (by decide) f0
  obtain ⟨v, e1, b1⟩ := ints_trod Try.underlying31 Try.underlying21 hA (by kernel_rfl) (by decide) f1
  obtain ⟨d, e2, b2⟩ := ints_trod Try.underlying33 Try.underlying32 hB (by kernel_rfl) (by decide) f2
  simp [List.range, List.range.loop] at e0 e1 e2
  refine ⟨⟨p, v, d⟩, ?_, ?_, ?_, ?_⟩
  · simp [Tr.cells, e0, e1, e2]
  · intro i
    simpa [Lit.wf, IntKind.min, IntKind.max, IntKind.signed, IntKind.bits] using b0 i
  · intro i
    simpa [Lit.wf, IntKind.min, IntKind.max, IntKind.signed, IntKind.bits] using b1 i
  · intro i
    simpa [Lit.wf, IntKind.min, IntKind.max, IntKind.signed, IntKind.bits] using b2 i
theorem radios_trod {fuel : Nat} {cs : List Value} {x : DataW H × List MemPlace} (h : DataW.trod enc Try.prog w base spare held fuel 36 cs = some x) :
    ∃ (ao : Option Addr) (cap : Nat) (l : List Radio), cs = [.slice ao l.length cap] ∧ SlAt w (.slice ao l.length cap) l.length (l.flatMap Radio.cells) ∧ ∀ m ∈ l, Ra64 m := by
  obtain ⟨ao, n, cap, l, e, hn, h1, h2⟩ := slice_trod Radio.cells (c := 15) (fun _ => rfl) Ra64 Try.underlying36 (by kernel_rfl) (fun m cs' x' h' => by
    obtain ⟨hl, hi⟩ := flat_trod Try.prog 12 43 15 m cs' x' (by kernel_rfl) h'
    obtain ⟨ns, e, hb⟩ := allInt_list cs' hi
    rw [e, List.length_map] at hl
    obtain ⟨c0, c1, c2, c3, c4, c5, c6, c7, c8, c9, c10, c11, c12, c13, c14, rfl⟩ : ∃ c0 c1 c2 c3 c4 c5 c6 c7 c8 c9 c10 c11 c12 c13 c14, ns = [c0, c1, c2, c3, c4, c5, c6, c7, c8, c9, c10, c11, c12, c13, c14] := by
      match ns, hl with | [c0, c1, c2, c3, c4, c5, c6, c7, c8, c9, c10, c11, c12, c13, c14], _ => exact ⟨c0, c1, c2, c3, c4, c5, c6, c7, c8, c9, c10, c11, c12, c13, c14, rfl⟩
    exact ⟨⟨c0, ⟨⟨c1, c2⟩, ⟨c3, c4⟩, ⟨c5, c6⟩⟩, ⟨⟨c7, c8⟩, ⟨c9, c10⟩, ⟨c11, c12⟩⟩, ⟨c13, c14⟩⟩, e, ⟨b64_of (hb c1 (by simp)) (hb c2 (by simp)) (hb c3 (by simp)) (hb c4 (by simp)) (hb c5 (by simp)) (hb c6 (by simp)), b64_of (hb c7 (by simp)) (hb c8 (by simp)) (hb c9 (by simp)) (hb c10 (by simp)) (hb c11 (by simp)) (hb c12 (by simp)), ⟨hb c13 (by simp), hb c14 (by simp)⟩⟩⟩) h
  subst hn
  exact ⟨ao, cap, l, e, h1, h2⟩
end
theorem open_byte {H : Type} {enc : TypeId × Value → H} {P : Program} {w : World} {base : Nat} {spare : Nat → Bool} {held : Bool} {r : Reach} {b0 : Nat} {t : TypeId} {v : Value} {d : DataW H} {p : List MemPlace} (hs : P.underlying t = some (.int .u8))
    (hv : Value.okWide P w r b0 t v) (h : DataW.Trod enc P w base spare held t v d p) : ∃ k : Int, v = .int .u8 k ∧ 0 ≤ k ∧ k ≤ 255 := by
  obtain ⟨k, rfl, -, -, hw⟩ := open_int hs hv h
  exact ⟨k, rfl, by simpa [Lit.wf, IntKind.min, IntKind.max, IntKind.signed, IntKind.bits] using hw⟩
end Go.Proofs.Ytehllellaecfbaa
namespace Go.Proofs.Ytehllellaecfbaa
open Go.RowKit Go.ChangeShapes Go.WideShapes Go.ChangeAt Go.Deep
set_option maxRecDepth 100000
set_option maxHeartbeats 8000000
namespace navNarrowsRow
open Go.ChangeShapes Go.WideShapes Go.ChangeAt Go.RowKit
theorem own : ownKnob Try.prog.godebug = none := by kernel_rfl
theorem lifted (os : Os) (started : os.Started) (H : Type) (enc : TypeId × Value → H) :
    ReturnsInHanded {} Try.checked os 4 .any (Rows.navNarrowsSpec.pre6 enc Try.prog Try.f4 Rows.navNarrowsRow.domain false) (Rows.navNarrowsSpec.post enc Try.prog Try.f4 false true false false) := by
  refine returnsInHanded_of_change (C := Try.checked) own started (by kernel_rfl) Try.func4
    (ChangeSpec.witness6 (enc := enc) (C := Try.checked) false ⟨#[], #[.agg #[.int .i32 0, .int .i32 0, .int .i32 0, .int .i32 0, .int .i32 0, .int .i32 0, .int .u16 0, .int .u16 0, .int .u16 0, .int .u16 0, .int .u16 0, .int .u16 0], .slice none 0 0, .agg #[.int .i64 0, .int .i64 0, .int .i64 0, .int .i64 0, .int .i64 0, .int .i64 0, .int .i64 0, .int .i64 0, .int .i64 0, .int .i64 0, .int .i64 0, .int .i64 0, .int .i64 0, .int .i64 0, .int .i64 0], .int .u8 0, .int .u8 0], []⟩ 8 (by as_aux_lemma => kernel_rfl) (by as_aux_lemma => kernel_rfl) (by as_aux_lemma => kernel_rfl) (by as_aux_lemma => kernel_rfl)) ?_
  intro W base args ds gs before hval0 hW _ _
  have hval : ∀ (j : Nat) t v, Try.f4.params[j]? = some t → args[j]? = some v → Value.okWide Try.prog W .any base t v := hval0
  have hW' := hW
  obtain ⟨p, q, hA0, hV, rfl, hfz, hnd⟩ := hW
  have hA : DataW.TrodAll enc Try.prog W 0 (fun _ => true) true Try.f4.params.toList args.toList ds p := hA0
  rw [Try.params4] at hA hval
  obtain ⟨v0, vs0, d0, ds0, p0, q0, hargs, rfl, rfl, h0, r0⟩ := trodAll_cons hA
  obtain ⟨v1, vs1, d1, ds1, p1, q1, rfl, rfl, rfl, h1, r1⟩ := trodAll_cons r0
  obtain ⟨v2, vs2, d2, ds2, p2, q2, rfl, rfl, rfl, h2, r2⟩ := trodAll_cons r1
  obtain ⟨v3, vs3, d3, ds3, p3, q3, rfl, rfl, rfl, h3, r3⟩ := trodAll_cons r2
  obtain ⟨v4, vs4, d4, ds4, p4, q4, rfl, rfl, rfl, h4, r4⟩ := trodAll_cons r3
  obtain ⟨rfl, rfl, rfl⟩ := trodAll_nil r4
  obtain rfl : args = #[v0, v1, v2, v3, v4] := by cases args; simp_all
  obtain ⟨rfl, rfl⟩ := trodVars_none hV
  obtain ⟨cs0, rfl, -⟩ := okWide_struct Try.underlying35 (hval 0 35 v0 rfl rfl)
  obtain ⟨ao1, n1, cap1, rfl⟩ := okWide_slice Try.underlying36 (hval 1 36 v1 rfl rfl)
  obtain ⟨ns, hv1, hn, hb⟩ := open_flat 15 (by kernel_rfl) Try.underlying43 (hval 2 43 v2 rfl rfl) h2
  obtain ⟨a2, rfl, g0, g1⟩ := open_byte Try.underlying5 (hval 3 5 v3 rfl rfl) h3
  obtain ⟨a4, rfl, g2, g3⟩ := open_byte Try.underlying5 (hval 4 5 v4 rfl rfl) h4
  obtain ⟨_, h0⟩ := h0
  obtain ⟨_, h1⟩ := h1
  obtain ⟨x, e3, hx⟩ := true_trod h0
  obtain ⟨ao, cap, l, e1, hl, hT⟩ := radios_trod h1
  obtain rfl : cs0 = x.cells.toArray := Array.ext' (by simpa [Value.cells] using e3)
  obtain ⟨rfl, rfl, rfl⟩ : ao1 = ao ∧ n1 = l.length ∧ cap1 = cap := by simpa [Value.cells] using e1
  obtain ⟨c0, c1, c2, c3, c4, c5, c6, c7, c8, c9, c10, c11, c12, c13, c14, rfl⟩ : ∃ c0 c1 c2 c3 c4 c5 c6 c7 c8 c9 c10 c11 c12 c13 c14, ns = [c0, c1, c2, c3, c4, c5, c6, c7, c8, c9, c10, c11, c12, c13, c14] := by
    match ns, hn with | [c0, c1, c2, c3, c4, c5, c6, c7, c8, c9, c10, c11, c12, c13, c14], _ => exact ⟨c0, c1, c2, c3, c4, c5, c6, c7, c8, c9, c10, c11, c12, c13, c14, rfl⟩
  obtain rfl : v2 = Value.agg #[.int .i64 c0, .int .i64 c1, .int .i64 c2, .int .i64 c3, .int .i64 c4, .int .i64 c5, .int .i64 c6, .int .i64 c7, .int .i64 c8, .int .i64 c9, .int .i64 c10, .int .i64 c11, .int .i64 c12, .int .i64 c13, .int .i64 c14] := hv1
  have hB1 : B64 (⟨⟨c1, c2⟩, ⟨c3, c4⟩, ⟨c5, c6⟩⟩ : Bx) := b64_of (hb c1 (by simp)) (hb c2 (by simp)) (hb c3 (by simp)) (hb c4 (by simp)) (hb c5 (by simp)) (hb c6 (by simp))
  have hB2 : B64 (⟨⟨c7, c8⟩, ⟨c9, c10⟩, ⟨c11, c12⟩⟩ : Bx) := b64_of (hb c7 (by simp)) (hb c8 (by simp)) (hb c9 (by simp)) (hb c10 (by simp)) (hb c11 (by simp)) (hb c12 (by simp))
  have hM : Ra64 (⟨c0, ⟨⟨c1, c2⟩, ⟨c3, c4⟩, ⟨c5, c6⟩⟩, ⟨⟨c7, c8⟩, ⟨c9, c10⟩, ⟨c11, c12⟩⟩, ⟨c13, c14⟩⟩ : Radio) := ⟨hB1, hB2, ⟨hb c13 (by simp), hb c14 (by simp)⟩⟩
  refine (narrows_walk x hx l ⟨c0, ⟨⟨c1, c2⟩, ⟨c3, c4⟩, ⟨c5, c6⟩⟩, ⟨⟨c7, c8⟩, ⟨c9, c10⟩, ⟨c11, c12⟩⟩, ⟨c13, c14⟩⟩ a2 a4 g0 g1 g2 g3 hT hM ao1 cap1 W hl).mono fun e W' ⟨he, hg⟩ => ?_
  subst he
  exact ⟨_, rfl, law_post (by kernel_rfl) (by kernel_rfl) rfl rfl Try.underlying4 hW' rfl hg⟩
theorem proved : Rows.NavNarrowsSaid :=
  OpenClaim.holds_of_wide 4 Try.f4 rfl rfl rfl rfl rfl rfl rfl ⟨rfl, rfl, rfl, rfl, rfl⟩ rfl rfl rfl rfl rfl (by as_aux_lemma => kernel_rfl) Try.func4 (by as_aux_lemma => kernel_rfl)
    (of_decide_eq_true (by as_aux_lemma => kernel_rfl)) (by unfold Func.isWrapper; first | (rw [if_pos (by decide +kernel)]; kernel_rfl) | (rw [if_neg (by decide +kernel)]; exact ⟨rfl, rfl⟩))
    (fun os started H enc _ => lifted os started H enc)
end navNarrowsRow
end Go.Proofs.Ytehllellaecfbaa
