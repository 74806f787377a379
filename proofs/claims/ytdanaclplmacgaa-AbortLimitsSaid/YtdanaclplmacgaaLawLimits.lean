/-
  AbortLimits: for every mode, the validity that abort finds is ullageref11's. No condition.
-/
import Derived.Test.YtdanaclplmacgaaModeOk
import Derived.Test.YtdanaclplmacgaaOpenApi
import Derived.Test.YtdanaclplmacgaaRows
namespace Go.Proofs.Ytdanaclplmacgaa
open Go.RowKit Go.ChangeShapes Go.WideShapes Go.ChangeAt Go.Deep
set_option maxRecDepth 100000
set_option maxHeartbeats 1000000

section
variable {H : Type} {enc : TypeId × Value → H} {w : World} {base : Nat} {spare : Nat → Bool} {held : Bool}
theorem arcs_trod {fuel : Nat} {cs : List Value} {x : DataW H × List MemPlace} (h : DataW.trod enc Try.prog w base spare held fuel 55 cs = some x) :
    ∃ (ao : Option Addr) (m cap : Nat) (l : Arcs), cs = [.slice ao m cap] ∧ ArcsAt w (.slice ao m cap) l := by
  obtain ⟨ao, n, cap, l, e, -, h1, h2⟩ := slice_trod arcCells (c := 15) (fun _ => rfl) (fun x => DragAt w x.1 x.2 ∧ x.1.time ≤ 9223372036854775807 ∧ x.1.step ≤ 9223372036854775807) Try.underlying55 (by kernel_rfl) (fun m cs' x' h' => by obtain ⟨a, l, e, hd, i1, i2, -⟩ := arc_trod h'; exact ⟨(a, l), e, hd, i1.2, i2.2⟩) h
  exact ⟨ao, n, cap, l, e, h1, h2⟩
theorem mode_trod {fuel : Nat} {cs : List Value} {x : DataW H × List MemPlace} (h : DataW.trod enc Try.prog w base spare held fuel 57 cs = some x) :
    ∃ (a : Mode) (l0 : List (Arc × List Pt)), cs = a.cells ∧ ModeArcs w a l0 ∧ I64 a.height.lo ∧ I64 a.height.hi ∧ I64 a.speed.lo ∧ I64 a.speed.hi ∧ I64 a.pressure.lo ∧ I64 a.pressure.hi ∧ I64 a.a ∧ I64 a.z ∧ I64 a.failures ∧ I64 a.delay ∧ I64 a.load ∧ I64 a.floor ∧ I64 a.touch := by
  obtain ⟨xs, n, rfl, -, hl, hxl, hf⟩ := DataW.trod_struct Try.underlying57 h
  have hxl : xs.length = 11 := hxl
  have hC : Try.prog.cellsOf 57 = 14 := by kernel_rfl
  obtain ⟨c0, c1, c2, c3, c4, c5, c6, c7, c8, c9, c10, c11, c12, c13, rfl⟩ := vals14 (hl.trans hC)
  have f0 : DataW.trod enc Try.prog w base spare held n 54 (([c0, c1, c2, c3, c4, c5, c6, c7, c8, c9, c10, c11, c12, c13].drop 0).take (Try.prog.cellsOf 54)) = xs[0]? := hf 0 _ rfl
  rw [List.getElem?_eq_getElem (by omega)] at f0
  simp only [show Try.prog.cellsOf 54 = 2 by kernel_rfl] at f0
  have f1 : DataW.trod enc Try.prog w base spare held n 54 (([c0, c1, c2, c3, c4, c5, c6, c7, c8, c9, c10, c11, c12, c13].drop 2).take (Try.prog.cellsOf 54)) = xs[1]? := hf 1 _ rfl
  rw [List.getElem?_eq_getElem (by omega)] at f1
  simp only [show Try.prog.cellsOf 54 = 2 by kernel_rfl] at f1
  have f2 : DataW.trod enc Try.prog w base spare held n 54 (([c0, c1, c2, c3, c4, c5, c6, c7, c8, c9, c10, c11, c12, c13].drop 4).take (Try.prog.cellsOf 54)) = xs[2]? := hf 2 _ rfl
  rw [List.getElem?_eq_getElem (by omega)] at f2
  simp only [show Try.prog.cellsOf 54 = 2 by kernel_rfl] at f2
  have f3 : DataW.trod enc Try.prog w base spare held n 52 (([c0, c1, c2, c3, c4, c5, c6, c7, c8, c9, c10, c11, c12, c13].drop 6).take (Try.prog.cellsOf 52)) = xs[3]? := hf 3 _ rfl
  rw [List.getElem?_eq_getElem (by omega)] at f3
  simp only [show Try.prog.cellsOf 52 = 1 by kernel_rfl] at f3
  have f4 : DataW.trod enc Try.prog w base spare held n 52 (([c0, c1, c2, c3, c4, c5, c6, c7, c8, c9, c10, c11, c12, c13].drop 7).take (Try.prog.cellsOf 52)) = xs[4]? := hf 4 _ rfl
  rw [List.getElem?_eq_getElem (by omega)] at f4
  simp only [show Try.prog.cellsOf 52 = 1 by kernel_rfl] at f4
  have f5 : DataW.trod enc Try.prog w base spare held n 3 (([c0, c1, c2, c3, c4, c5, c6, c7, c8, c9, c10, c11, c12, c13].drop 8).take (Try.prog.cellsOf 3)) = xs[5]? := hf 5 _ rfl
  rw [List.getElem?_eq_getElem (by omega)] at f5
  simp only [show Try.prog.cellsOf 3 = 1 by kernel_rfl] at f5
  have f6 : DataW.trod enc Try.prog w base spare held n 52 (([c0, c1, c2, c3, c4, c5, c6, c7, c8, c9, c10, c11, c12, c13].drop 9).take (Try.prog.cellsOf 52)) = xs[6]? := hf 6 _ rfl
  rw [List.getElem?_eq_getElem (by omega)] at f6
  simp only [show Try.prog.cellsOf 52 = 1 by kernel_rfl] at f6
  have f7 : DataW.trod enc Try.prog w base spare held n 55 (([c0, c1, c2, c3, c4, c5, c6, c7, c8, c9, c10, c11, c12, c13].drop 10).take (Try.prog.cellsOf 55)) = xs[7]? := hf 7 _ rfl
  rw [List.getElem?_eq_getElem (by omega)] at f7
  simp only [show Try.prog.cellsOf 55 = 1 by kernel_rfl] at f7
  have f8 : DataW.trod enc Try.prog w base spare held n 52 (([c0, c1, c2, c3, c4, c5, c6, c7, c8, c9, c10, c11, c12, c13].drop 11).take (Try.prog.cellsOf 52)) = xs[8]? := hf 8 _ rfl
  rw [List.getElem?_eq_getElem (by omega)] at f8
  simp only [show Try.prog.cellsOf 52 = 1 by kernel_rfl] at f8
  have f9 : DataW.trod enc Try.prog w base spare held n 52 (([c0, c1, c2, c3, c4, c5, c6, c7, c8, c9, c10, c11, c12, c13].drop 12).take (Try.prog.cellsOf 52)) = xs[9]? := hf 9 _ rfl
  rw [List.getElem?_eq_getElem (by omega)] at f9
  simp only [show Try.prog.cellsOf 52 = 1 by kernel_rfl] at f9
  have f10 : DataW.trod enc Try.prog w base spare held n 52 (([c0, c1, c2, c3, c4, c5, c6, c7, c8, c9, c10, c11, c12, c13].drop 13).take (Try.prog.cellsOf 52)) = xs[10]? := hf 10 _ rfl
  rw [List.getElem?_eq_getElem (by omega)] at f10
  simp only [show Try.prog.cellsOf 52 = 1 by kernel_rfl] at f10
  have s0 := (flat_trod Try.prog 12 54 2 _ _ _ (by kernel_rfl) f0).2
  obtain ⟨k0, rfl, b0⟩ := s0 0 c0 rfl
  obtain ⟨k1, rfl, b1⟩ := s0 1 c1 rfl
  have s1 := (flat_trod Try.prog 12 54 2 _ _ _ (by kernel_rfl) f1).2
  obtain ⟨k2, rfl, b2⟩ := s1 0 c2 rfl
  obtain ⟨k3, rfl, b3⟩ := s1 1 c3 rfl
  have s2 := (flat_trod Try.prog 12 54 2 _ _ _ (by kernel_rfl) f2).2
  obtain ⟨k4, rfl, b4⟩ := s2 0 c4 rfl
  obtain ⟨k5, rfl, b5⟩ := s2 1 c5 rfl
  have s3 := (flat_trod Try.prog 12 52 1 _ _ _ (by kernel_rfl) f3).2
  obtain ⟨k6, rfl, b6⟩ := s3 0 c6 rfl
  have s4 := (flat_trod Try.prog 12 52 1 _ _ _ (by kernel_rfl) f4).2
  obtain ⟨k7, rfl, b7⟩ := s4 0 c7 rfl
  have s5 := (flat_trod Try.prog 12 3 1 _ _ _ (by kernel_rfl) f5).2
  obtain ⟨k8, rfl, b8⟩ := s5 0 c8 rfl
  have s6 := (flat_trod Try.prog 12 52 1 _ _ _ (by kernel_rfl) f6).2
  obtain ⟨k9, rfl, b9⟩ := s6 0 c9 rfl
  obtain ⟨ao0, m0, cap0, l0, e0, at0⟩ := arcs_trod f7
  obtain rfl : c10 = .slice ao0 m0 cap0 := by simpa using e0
  have s8 := (flat_trod Try.prog 12 52 1 _ _ _ (by kernel_rfl) f8).2
  obtain ⟨k11, rfl, b11⟩ := s8 0 c11 rfl
  have s9 := (flat_trod Try.prog 12 52 1 _ _ _ (by kernel_rfl) f9).2
  obtain ⟨k12, rfl, b12⟩ := s9 0 c12 rfl
  have s10 := (flat_trod Try.prog 12 52 1 _ _ _ (by kernel_rfl) f10).2
  obtain ⟨k13, rfl, b13⟩ := s10 0 c13 rfl
  exact ⟨⟨⟨k0, k1⟩, ⟨k2, k3⟩, ⟨k4, k5⟩, k6, k7, k8, k9, ⟨ao0, m0, cap0⟩, k11, k12, k13⟩, l0, rfl, at0, i64_of b0, i64_of b1, i64_of b2, i64_of b3, i64_of b4, i64_of b5, i64_of b6, i64_of b7, i64_of b8, i64_of b9, i64_of b11, i64_of b12, i64_of b13⟩
end

theorem ModeArcs.grew {w w' : World} {m : Mode} {L : Arcs} (h : ModeArcs w m L) (g : Grew w w') : ModeArcs w' m L := ArcsAt.grew h g
theorem limits_walk (m : Mode) (L : Arcs) (w : World) (hd : ModeArcs w m L) : Calls Try.prog 6 #[.agg #[.int .i64 m.height.lo, .int .i64 m.height.hi, .int .i64 m.speed.lo, .int .i64 m.speed.hi, .int .i64 m.pressure.lo, .int .i64 m.pressure.hi, .int .i64 m.a, .int .i64 m.z, .int .i64 m.failures, .int .i64 m.delay, .slice m.arcs.ao m.arcs.n m.arcs.cap, .int .i64 m.load, .int .i64 m.floor, .int .i64 m.touch]] w fun e w' => e = .returned (.bool true) ∧ Grew w w' := by
  have hn : m.arcs.n = L.length := by
    obtain ⟨⟨ao, cap, e, -⟩, -⟩ := hd
    simp at e
    exact e.2.1
  have Hn := Lib.hid hn
  have Hd := Lib.hid hd
  obtain ⟨⟨ao, cap, e, hm, hc⟩, hdr⟩ := hd
  obtain ⟨e1, -, -⟩ := by simpa using e
  rw [← e1] at hc
  clear e e1 hn hdr
  unfold maxLen at hm
  have HcA := Lib.hid (SlAt.elem (f := arcCells) (c := 15) (fun _ => rfl) (by omega) hc)
  clear hc
  by_cases h40 : 40 < m.arcs.n
  · go_enter Try.func6, Try.ntmps6
    go_wp2
    go_ret
    exact ⟨rfl, (by repeat (first | with_reducible exact Grew.refl _ | with_reducible apply Grew.alloc | with_reducible apply Grew.later | with_reducible apply Grew.drew | with_reducible apply Grew.store | with_reducible assumption))⟩
  · go_enter Try.func6, Try.ntmps6
    go_wp2
    go_loopw [11] (fun t wr => ∃ k : Nat, t = .int .i64 k ∧ k ≤ L.length ∧ Grew (w.alloc (.cells #[.int .i64 m.height.lo, .int .i64 m.height.hi, .int .i64 m.speed.lo, .int .i64 m.speed.hi, .int .i64 m.pressure.lo, .int .i64 m.pressure.hi, .int .i64 m.a, .int .i64 m.z, .int .i64 m.failures, .int .i64 m.delay, .slice m.arcs.ao m.arcs.n m.arcs.cap, .int .i64 m.load, .int .i64 m.floor, .int .i64 m.touch] 57)) wr) (fun t _ => L.length - (intOf t).toNat)
    case atStart => exact ⟨0, rfl, by omega, Grew.refl _⟩
    case round =>
      obtain ⟨k, rfl, hk, hg⟩ := hrel
      obtain ⟨x, rfl⟩ := later_of hg
      clear hg
      by_cases hlt : k < L.length
      · obtain ⟨b1, o1, e1, i1, hd1, hd2⟩ := HcA.out k hlt
        have hd3 := hd2 12 _ rfl
        clear hd1 hd2
        have i1 : BlockIn w b1 := ⟨i1⟩
        have hlt' : k < m.arcs.n := by rw [Hn.out]; exact hlt
        have Hlt := Lib.hid hlt
        by_cases h : 70 < L[k].1.drag.n
        · go_wp2
          go_ret
          exact ⟨rfl, (by repeat (first | with_reducible exact Grew.refl _ | with_reducible apply Grew.alloc | with_reducible apply Grew.later | with_reducible apply Grew.drew | with_reducible apply Grew.store | with_reducible assumption))⟩
        · go_wp2
          go_roundw
          case rel => exact ⟨k + 1, by go_num, by omega, (by repeat (first | with_reducible exact Grew.refl _ | with_reducible apply Grew.alloc | with_reducible apply Grew.later | with_reducible apply Grew.drew | with_reducible apply Grew.store | with_reducible assumption))⟩
          case measure => simp [intOf]; omega
      · have hk' : m.arcs.n ≤ k := by rw [Hn.out]; omega
        go_wp2_with (first | (go_at_call 29; (with_reducible refine call_later (abMode_any m L _ (Hd.out.grew (by repeat (first | with_reducible exact Grew.refl _ | with_reducible apply Grew.alloc | with_reducible apply Grew.later | with_reducible apply Grew.drew | with_reducible apply Grew.store | with_reducible assumption)))) ?_); intro u) | (go_at_call 30; (with_reducible refine call_later (r11Mode_any m L _ (Hd.out.grew (by repeat (first | with_reducible exact Grew.refl _ | with_reducible apply Grew.alloc | with_reducible apply Grew.later | with_reducible apply Grew.drew | with_reducible apply Grew.store | with_reducible assumption)))) ?_); intro u) | ((with_reducible refine wp_region_later ?_ ?_ ?_); (· kernel_rfl); (· kernel_rfl); (repeat (go_big_quiet_step ((first | (go_at_call 29; (with_reducible exact call_quiet (abMode_any m L _ (Hd.out.grew (by repeat (first | with_reducible exact Grew.refl _ | with_reducible apply Grew.alloc | with_reducible apply Grew.later | with_reducible apply Grew.drew | with_reducible apply Grew.store | with_reducible assumption)))))) | (go_at_call 30; (with_reducible exact call_quiet (r11Mode_any m L _ (Hd.out.grew (by repeat (first | with_reducible exact Grew.refl _ | with_reducible apply Grew.alloc | with_reducible apply Grew.later | with_reducible apply Grew.drew | with_reducible apply Grew.store | with_reducible assumption)))))))))); refine wpQuiet_nil ?_; rintro _ ⟨u, rfl⟩))
        all_goals go_ret
        all_goals exact ⟨rfl, (by repeat (first | with_reducible exact Grew.refl _ | with_reducible apply Grew.alloc | with_reducible apply Grew.later | with_reducible apply Grew.drew | with_reducible apply Grew.store | with_reducible assumption))⟩

namespace abortLimitsRow
open Go.ChangeShapes Go.WideShapes Go.ChangeAt Go.RowKit
theorem own : ownKnob Try.prog.godebug = none := by kernel_rfl
theorem lifted (os : Os) (started : os.Started) (H : Type) (enc : TypeId × Value → H) :
    ReturnsInHanded {} Try.checked os 6 .any (Rows.abortLimitsSpec.pre6 enc Try.prog Try.f6 Rows.abortLimitsRow.domain false) (Rows.abortLimitsSpec.post enc Try.prog Try.f6 false true false false) := by
  refine returnsInHanded_of_change (C := Try.checked) own started (by kernel_rfl) Try.func6
    (ChangeSpec.witness6 (enc := enc) (C := Try.checked) false ⟨#[], #[.agg #[.int .i64 0, .int .i64 0, .int .i64 0, .int .i64 0, .int .i64 0, .int .i64 0, .int .i64 0, .int .i64 0, .int .i64 0, .int .i64 0, .slice none 0 0, .int .i64 0, .int .i64 0, .int .i64 0]], []⟩ 8 (by kernel_rfl) (by kernel_rfl) (by kernel_rfl) (by kernel_rfl)) ?_
  intro W base args ds gs before hval0 hW _ _
  have hval : ∀ (j : Nat) t v, Try.f6.params[j]? = some t → args[j]? = some v → Value.okWide Try.prog W .any base t v := hval0
  have hW' := hW
  obtain ⟨p, q, hA0, hV, rfl, hfz, hnd⟩ := hW
  have hA : DataW.TrodAll enc Try.prog W 0 (fun _ => true) true Try.f6.params.toList args.toList ds p := hA0
  rw [Try.params6] at hA hval
  obtain ⟨v0, vs0, d0, ds0, p0, q0, hargs, rfl, rfl, h0, r0⟩ := trodAll_cons hA
  obtain ⟨rfl, rfl, rfl⟩ := trodAll_nil r0
  obtain rfl : args = #[v0] := by cases args; simp_all
  obtain ⟨rfl, rfl⟩ := trodVars_none hV
  obtain ⟨cs0, rfl, -⟩ := okWide_struct Try.underlying57 (hval 0 57 v0 rfl rfl)
  obtain ⟨_, h0⟩ := h0
  obtain ⟨a0, l0, e0, hd, -⟩ := mode_trod h0
  obtain rfl : cs0 = a0.cells.toArray := Array.ext' (by simpa [Value.cells] using e0)
  refine (limits_walk a0 l0 W hd).mono fun e W' ⟨he, hg⟩ => ?_
  subst he
  exact ⟨_, rfl, law_post (by kernel_rfl) (by kernel_rfl) rfl rfl Try.underlying4 hW' rfl hg⟩
theorem proved : Rows.AbortLimitsSaid :=
  OpenClaim.holds_of_wide 6 Try.f6 rfl rfl rfl rfl rfl rfl rfl ⟨rfl, rfl, rfl, rfl, rfl⟩ rfl rfl rfl rfl rfl (by kernel_rfl) Try.func6 (by kernel_rfl)
    (of_decide_eq_true (by kernel_rfl)) (by unfold Func.isWrapper; first | (rw [if_pos (by decide +kernel)]; kernel_rfl) | (rw [if_neg (by decide +kernel)]; exact ⟨rfl, rfl⟩))
    (fun os started H enc _ => lifted os started H enc)
end abortLimitsRow
end Go.Proofs.Ytdanaclplmacgaa
