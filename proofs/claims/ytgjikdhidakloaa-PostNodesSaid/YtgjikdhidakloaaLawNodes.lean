/-
  PostNodes: for every flight and reports, the number of nodes, the nodes without a report, and the errors that post finds are ullageref13's. No condition.
-/
import Derived.Test.YtgjikdhidakloaaNodeSilR
import Derived.Test.YtgjikdhidakloaaOpenApi
import Derived.Test.YtgjikdhidakloaaRows
namespace Go.Proofs.Ytgjikdhidakloaa
open Go.RowKit Go.ChangeShapes Go.WideShapes Go.ChangeAt Go.Deep
set_option maxRecDepth 100000
set_option maxHeartbeats 8000000
section
variable {H : Type} {enc : TypeId × Value → H} {w : World} {base : Nat} {spare : Nat → Bool} {held : Bool}
theorem arcs_trod {fuel : Nat} {cs : List Value} {x : DataW H × List MemPlace} (h : DataW.trod enc Try.prog w base spare held fuel 34 cs = some x) :
    ∃ (ao : Option Addr) (m cap : Nat) (l : Arcs), cs = [.slice ao m cap] ∧ ArcsAt w (.slice ao m cap) l := by
  obtain ⟨ao, n, cap, l, e, -, h1, h2⟩ := slice_trod arcCells (c := 15) (fun _ => rfl) (fun x => DragAt w x.1 x.2 ∧ x.1.time ≤ 9223372036854775807 ∧ x.1.step ≤ 9223372036854775807) Try.underlying34 (by kernel_rfl) (fun m cs' x' h' => by obtain ⟨a, l, e, hd, i1, i2, -⟩ := arc_trod h'; exact ⟨(a, l), e, hd, i1.2, i2.2⟩) h
  exact ⟨ao, n, cap, l, e, h1, h2⟩
theorem reports_trod {fuel : Nat} {cs : List Value} {x : DataW H × List MemPlace} (h : DataW.trod enc Try.prog w base spare held fuel 35 cs = some x) : ∃ (ao : Option Addr) (cap : Nat) (l : List Report), cs = [.slice ao l.length cap] ∧ ReportsAt w (.slice ao l.length cap) l := by
  obtain ⟨ao, n, cap, l, e, hn, h1, h2⟩ := slice_trod repC (c := 17) (fun _ => rfl) (fun _ => True) Try.underlying35 (by kernel_rfl) (fun m cs' x' h' => by
    obtain ⟨hl, hi⟩ := flat_trod Try.prog 12 85 17 m cs' x' (by kernel_rfl) h'
    obtain ⟨ns, e, -⟩ := allInt_list cs' hi
    rw [e, List.length_map] at hl
    obtain ⟨c0, c1, c2, c3, c4, c5, c6, c7, c8, c9, c10, c11, c12, c13, c14, c15, c16, rfl⟩ : ∃ c0 c1 c2 c3 c4 c5 c6 c7 c8 c9 c10 c11 c12 c13 c14 c15 c16, ns = [c0, c1, c2, c3, c4, c5, c6, c7, c8, c9, c10, c11, c12, c13, c14, c15, c16] := by
      match ns, hl with | [c0, c1, c2, c3, c4, c5, c6, c7, c8, c9, c10, c11, c12, c13, c14, c15, c16], _ => exact ⟨c0, c1, c2, c3, c4, c5, c6, c7, c8, c9, c10, c11, c12, c13, c14, c15, c16, rfl⟩
    exact ⟨⟨c0, c1, ⟨c2, ⟨⟨c3, c4⟩, ⟨c5, c6⟩, ⟨c7, c8⟩⟩, ⟨⟨c9, c10⟩, ⟨c11, c12⟩, ⟨c13, c14⟩⟩, ⟨c15, c16⟩⟩⟩, e, trivial⟩) h
  subst hn
  exact ⟨ao, cap, l, e, h1⟩
end
theorem sameSlots13_any (l : List (Int × Int)) (v1 v2 : Value) (w : World) (h1 : SlAt w v1 l.length (l.flatMap slC)) (h2 : SlAt w v2 l.length (l.flatMap slC)) : Calls Try.prog 17 #[v1, v2] w fun e w' => e = .returned (.bool true) ∧ Grew w w' := by
  have Hc1 := Lib.hid (fun k hk => sl_two h1 k hk)
  have Hc2 := Lib.hid (fun k hk => sl_two h2 k hk)
  obtain ⟨ao1, cap1, rfl, hm⟩ := sl2_form h1
  obtain ⟨ao2, cap2, rfl, -⟩ := sl2_form h2
  clear h1 h2
  go_enter Try.func17, Try.ntmps17
  go_wp2
  go_loopw [5] (fun t wr => ∃ k : Nat, t = .int .i64 k ∧ k ≤ l.length ∧ Grew w wr) (fun t _ => l.length - (intOf t).toNat)
  case atStart => exact ⟨0, rfl, by omega, Grew.refl _⟩
  case round =>
    obtain ⟨k, rfl, hk, hg⟩ := hrel
    obtain ⟨x, rfl⟩ := later_of hg
    clear hg
    by_cases hlt : k < l.length
    · obtain ⟨b1, o1, c1, e1, i1, hd1, hd2⟩ := Hc1.out k hlt
      obtain ⟨b2, o2, c2, e2, i2, hd3, hd4⟩ := Hc2.out k hlt
      cases e1
      cases e2
      generalize l[k].1 = a at *
      generalize l[k].2 = z at *
      go_wp2_with (first | ((with_reducible refine wp_region_later ?_ ?_ ?_); (· kernel_rfl); (· kernel_rfl); (repeat (go_big_quiet_step (fail))); refine wpQuiet_nil ?_; rintro _ ⟨u, rfl⟩))
      go_roundw
      case rel => exact ⟨k + 1, by go_num, by omega, x.grew.later _⟩
      case measure => simp [intOf]; omega
    · go_wp2
      go_ret
      exact ⟨rfl, x.grew⟩
theorem nodes_walk (L : Arcs) (R : List Report) (v1 v2 : Value) (w : World) (hd : ArcsAt w v1 L) (hr : ReportsAt w v2 R) : Calls Try.prog 4 #[v1, v2] w fun e w' => e = .returned (.bool true) ∧ Grew w w' := by
  have HLo := Lib.hid (fun w' (g : Grew w w') => lawLong_any 4200 L v1 w' (hd.grew g))
  have HN1 := Lib.hid (fun w' (g : Grew w w') => postNodes_any L v1 w' (hd.grew g))
  have HN2 := Lib.hid (fun w' (g : Grew w w') => r13Nodes_any L v1 w' (hd.grew g))
  have HS1 := Lib.hid (fun w' (g : Grew w w') => postSilent_any L R v1 v2 w' (hd.grew g) (hr.grew g))
  have HS2 := Lib.hid (fun w' (g : Grew w w') => r13Silent_any L R v1 v2 w' (hd.grew g) (hr.grew g))
  obtain ⟨ao2, cap2, rfl, hm⟩ := sl2_form hr
  clear hd hr
  generalize nodesN L = nn at *
  generalize arcsCode L = ac at *
  generalize silentCode L R = sc at *
  generalize silentL L R = sl at *
  cases hlo : longB 4200 L
  · have HLo2 := Lib.hid (fun w' g => is_bool hlo (HLo.out w' g))
    clear HLo hlo
    by_cases hl : 300 < R.length
    · have hl' : (300 : Int) < R.length := by omega
      go_enter Try.func4, Try.ntmps4
      go_wp2_with (first | (go_at_call 12; (with_reducible refine call_later (HLo2.out _ (by repeat (first | with_reducible exact Grew.refl _ | with_reducible apply Grew.alloc | with_reducible apply Grew.later | with_reducible apply Grew.drew | with_reducible apply Grew.store | with_reducible assumption))) ?_); intro u) | ((with_reducible refine wp_region_later ?_ ?_ ?_); (· kernel_rfl); (· kernel_rfl); (repeat (go_big_quiet_step ((first | (go_at_call 12; (with_reducible exact call_quiet (HLo2.out _ (by repeat (first | with_reducible exact Grew.refl _ | with_reducible apply Grew.alloc | with_reducible apply Grew.later | with_reducible apply Grew.drew | with_reducible apply Grew.store | with_reducible assumption))))))))); refine wpQuiet_nil ?_; rintro _ ⟨u, rfl⟩))
      go_ret
      exact ⟨rfl, (by repeat (first | with_reducible exact Grew.refl _ | with_reducible apply Grew.alloc | with_reducible apply Grew.later | with_reducible apply Grew.drew | with_reducible apply Grew.store | with_reducible assumption))⟩
    · have hl' : ¬ ((300 : Int) < R.length) := by omega
      go_enter Try.func4, Try.ntmps4
      go_wp2_with (first | (go_at_call 12; (with_reducible refine call_later (HLo2.out _ (by repeat (first | with_reducible exact Grew.refl _ | with_reducible apply Grew.alloc | with_reducible apply Grew.later | with_reducible apply Grew.drew | with_reducible apply Grew.store | with_reducible assumption))) ?_); intro u) | (go_at_call 13; (with_reducible refine call_later (HN1.out _ (by repeat (first | with_reducible exact Grew.refl _ | with_reducible apply Grew.alloc | with_reducible apply Grew.later | with_reducible apply Grew.drew | with_reducible apply Grew.store | with_reducible assumption))) ?_); intro u) | (go_at_call 14; (with_reducible refine call_later (HN2.out _ (by repeat (first | with_reducible exact Grew.refl _ | with_reducible apply Grew.alloc | with_reducible apply Grew.later | with_reducible apply Grew.drew | with_reducible apply Grew.store | with_reducible assumption))) ?_); intro u) | (first | (go_at_call 15; (with_reducible refine (HS1.out _ (by repeat (first | with_reducible exact Grew.refl _ | with_reducible apply Grew.alloc | with_reducible apply Grew.later | with_reducible apply Grew.drew | with_reducible apply Grew.store | with_reducible assumption))).mono ?_); rintro e w1 ⟨va, rfl, sa, ga⟩; obtain ⟨u1, rfl⟩ := later_of ga; clear ga) | (go_at_call 16; (with_reducible refine (HS2.out _ (by repeat (first | with_reducible exact Grew.refl _ | with_reducible apply Grew.alloc | with_reducible apply Grew.later | with_reducible apply Grew.drew | with_reducible apply Grew.store | with_reducible assumption))).mono ?_); rintro e w1 ⟨vb, rfl, sb, gb⟩; obtain ⟨u2, rfl⟩ := later_of gb; clear gb) | (go_at_call 17; (with_reducible refine call_later (sameSlots13_any sl va vb _ (sa.grew (by repeat (first | with_reducible exact Grew.refl _ | with_reducible apply Grew.alloc | with_reducible apply Grew.later | with_reducible apply Grew.drew | with_reducible apply Grew.store | with_reducible assumption))) (sb.grew (by repeat (first | with_reducible exact Grew.refl _ | with_reducible apply Grew.alloc | with_reducible apply Grew.later | with_reducible apply Grew.drew | with_reducible apply Grew.store | with_reducible assumption)))) ?_); intro u9)) | ((with_reducible refine wp_region_later ?_ ?_ ?_); (· kernel_rfl); (· kernel_rfl); (repeat (go_big_quiet_step ((first | (go_at_call 12; (with_reducible exact call_quiet (HLo2.out _ (by repeat (first | with_reducible exact Grew.refl _ | with_reducible apply Grew.alloc | with_reducible apply Grew.later | with_reducible apply Grew.drew | with_reducible apply Grew.store | with_reducible assumption))))) | (go_at_call 13; (with_reducible exact call_quiet (HN1.out _ (by repeat (first | with_reducible exact Grew.refl _ | with_reducible apply Grew.alloc | with_reducible apply Grew.later | with_reducible apply Grew.drew | with_reducible apply Grew.store | with_reducible assumption))))) | (go_at_call 14; (with_reducible exact call_quiet (HN2.out _ (by repeat (first | with_reducible exact Grew.refl _ | with_reducible apply Grew.alloc | with_reducible apply Grew.later | with_reducible apply Grew.drew | with_reducible apply Grew.store | with_reducible assumption))))))))); refine wpQuiet_nil ?_; rintro _ ⟨u, rfl⟩))
      all_goals go_ret
      all_goals exact ⟨rfl, (by repeat (first | with_reducible exact Grew.refl _ | with_reducible apply Grew.alloc | with_reducible apply Grew.later | with_reducible apply Grew.drew | with_reducible apply Grew.store | with_reducible assumption))⟩
  · have HLo2 := Lib.hid (fun w' g => is_bool hlo (HLo.out w' g))
    clear HLo hlo
    go_enter Try.func4, Try.ntmps4
    go_wp2_with (first | (go_at_call 12; (with_reducible refine call_later (HLo2.out _ (by repeat (first | with_reducible exact Grew.refl _ | with_reducible apply Grew.alloc | with_reducible apply Grew.later | with_reducible apply Grew.drew | with_reducible apply Grew.store | with_reducible assumption))) ?_); intro u) | ((with_reducible refine wp_region_later ?_ ?_ ?_); (· kernel_rfl); (· kernel_rfl); (repeat (go_big_quiet_step ((first | (go_at_call 12; (with_reducible exact call_quiet (HLo2.out _ (by repeat (first | with_reducible exact Grew.refl _ | with_reducible apply Grew.alloc | with_reducible apply Grew.later | with_reducible apply Grew.drew | with_reducible apply Grew.store | with_reducible assumption))))))))); refine wpQuiet_nil ?_; rintro _ ⟨u, rfl⟩))
    go_ret
    exact ⟨rfl, (by repeat (first | with_reducible exact Grew.refl _ | with_reducible apply Grew.alloc | with_reducible apply Grew.later | with_reducible apply Grew.drew | with_reducible apply Grew.store | with_reducible assumption))⟩
namespace postNodesRow
open Go.ChangeShapes Go.WideShapes Go.ChangeAt Go.RowKit
theorem own : ownKnob Try.prog.godebug = none := by kernel_rfl
theorem lifted (os : Os) (started : os.Started) (H : Type) (enc : TypeId × Value → H) :
    ReturnsInHanded {} Try.checked os 4 .any (Rows.postNodesSpec.pre6 enc Try.prog Try.f4 Rows.postNodesRow.domain false) (Rows.postNodesSpec.post enc Try.prog Try.f4 false true false false) := by
  refine returnsInHanded_of_change (C := Try.checked) own started (by kernel_rfl) Try.func4
    (ChangeSpec.witness6 (enc := enc) (C := Try.checked) false ⟨#[], #[.slice none 0 0, .slice none 0 0], []⟩ 8 (by as_aux_lemma => kernel_rfl) (by as_aux_lemma => kernel_rfl) (by as_aux_lemma => kernel_rfl) (by as_aux_lemma => kernel_rfl)) ?_
  intro W base args ds gs before hval0 hW _ _
  have hval : ∀ (j : Nat) t v, Try.f4.params[j]? = some t → args[j]? = some v → Value.okWide Try.prog W .any base t v := hval0
  have hW' := hW
  obtain ⟨p, q, hA0, hV, rfl, hfz, hnd⟩ := hW
  have hA : DataW.TrodAll enc Try.prog W 0 (fun _ => true) true Try.f4.params.toList args.toList ds p := hA0
  rw [Try.params4] at hA hval
  obtain ⟨v0, vs0, d0, ds0, p0, q0, hargs, rfl, rfl, h0, r0⟩ := trodAll_cons hA
  obtain ⟨v1, vs1, d1, ds1, p1, q1, rfl, rfl, rfl, h1, r1⟩ := trodAll_cons r0
  obtain ⟨rfl, rfl, rfl⟩ := trodAll_nil r1
  obtain rfl : args = #[v0, v1] := by cases args; simp_all
  obtain ⟨rfl, rfl⟩ := trodVars_none hV
  obtain ⟨ao0, n0, cap0, rfl⟩ := okWide_slice Try.underlying34 (hval 0 34 v0 rfl rfl)
  obtain ⟨ao1, n1, cap1, rfl⟩ := okWide_slice Try.underlying35 (hval 1 35 v1 rfl rfl)
  obtain ⟨_, h0⟩ := h0
  obtain ⟨_, h1⟩ := h1
  obtain ⟨aoP, mP, capP, P, eP, hP⟩ := arcs_trod h0
  obtain ⟨aoT, capT, T, eT, hT⟩ := reports_trod h1
  rw [← (by simpa [Value.cells] using eP : Value.slice ao0 n0 cap0 = .slice aoP mP capP)] at hP
  rw [← (by simpa [Value.cells] using eT : Value.slice ao1 n1 cap1 = .slice aoT T.length capT)] at hT
  refine (nodes_walk P T _ _ W hP hT).mono fun e W' ⟨he, hg⟩ => ?_
  subst he
  exact ⟨_, rfl, law_post (by kernel_rfl) (by kernel_rfl) rfl rfl Try.underlying4 hW' rfl hg⟩
theorem proved : Rows.PostNodesSaid :=
  OpenClaim.holds_of_wide 4 Try.f4 rfl rfl rfl rfl rfl rfl rfl ⟨rfl, rfl, rfl, rfl, rfl⟩ rfl rfl rfl rfl rfl (by as_aux_lemma => kernel_rfl) Try.func4 (by as_aux_lemma => kernel_rfl)
    (of_decide_eq_true (by as_aux_lemma => kernel_rfl)) (by unfold Func.isWrapper; first | (rw [if_pos (by decide +kernel)]; kernel_rfl) | (rw [if_neg (by decide +kernel)]; exact ⟨rfl, rfl⟩))
    (fun os started H enc _ => lifted os started H enc)
end postNodesRow
end Go.Proofs.Ytgjikdhidakloaa
