/-
  NavFuses: for every state, list of at most 20 measurements and number of rounds, what nav.Fuse hands back is ullageref06.Fuse's; the measurements stay. No condition.
-/
import Derived.Test.YtohinapfpfjlkaaGreatFuseWalks
import Derived.Test.YtohinapfpfjlkaaGreatCopy
import Derived.Test.YtohinapfpfjlkaaGreatOpenAll
import Derived.Test.YtohinapfpfjlkaaGreatRows
namespace Go.Proofs.YtohinapfpfjlkaaGreat
open Go.RowKit Go.ChangeShapes Go.WideShapes Go.ChangeAt Go.Deep
set_option maxRecDepth 100000
set_option maxHeartbeats 8000000
theorem b64_of {b : Bx} (h1 : I64 b.x.lo) (h2 : I64 b.x.hi) (h3 : I64 b.y.lo) (h4 : I64 b.y.hi) (h5 : I64 b.z.lo) (h6 : I64 b.z.hi) : B64 b := ⟨⟨h1, h2⟩, ⟨h3, h4⟩, ⟨h5, h6⟩⟩
section
variable {H : Type} {enc : TypeId × Value → H} {w : World} {base : Nat} {spare : Nat → Bool} {held : Bool}
theorem radios_trod {fuel : Nat} {cs : List Value} {x : DataW H × List MemPlace} (h : DataW.trod enc Tryz.prog w base spare held fuel 55 cs = some x) :
    ∃ (ao : Option Addr) (cap : Nat) (l : List Radio), cs = [.slice ao l.length cap] ∧ SlAt w (.slice ao l.length cap) l.length (l.flatMap Radio.cells) ∧ ∀ m ∈ l, Ra64 m := by
  obtain ⟨ao, n, cap, l, e, hn, h1, h2⟩ := slice_trod Radio.cells (c := 15) (fun _ => rfl) Ra64 Tryz.underlying55 (by kernel_rfl) (fun m cs' x' h' => by
    obtain ⟨hl, hi⟩ := flat_trod Tryz.prog 12 30 15 m cs' x' (by kernel_rfl) h'
    obtain ⟨ns, e, hb⟩ := allInt_list cs' hi
    rw [e, List.length_map] at hl
    obtain ⟨c0, c1, c2, c3, c4, c5, c6, c7, c8, c9, c10, c11, c12, c13, c14, rfl⟩ : ∃ c0 c1 c2 c3 c4 c5 c6 c7 c8 c9 c10 c11 c12 c13 c14, ns = [c0, c1, c2, c3, c4, c5, c6, c7, c8, c9, c10, c11, c12, c13, c14] := by
      match ns, hl with | [c0, c1, c2, c3, c4, c5, c6, c7, c8, c9, c10, c11, c12, c13, c14], _ => exact ⟨c0, c1, c2, c3, c4, c5, c6, c7, c8, c9, c10, c11, c12, c13, c14, rfl⟩
    exact ⟨⟨c0, ⟨⟨c1, c2⟩, ⟨c3, c4⟩, ⟨c5, c6⟩⟩, ⟨⟨c7, c8⟩, ⟨c9, c10⟩, ⟨c11, c12⟩⟩, ⟨c13, c14⟩⟩, e, ⟨b64_of (hb c1 (by simp)) (hb c2 (by simp)) (hb c3 (by simp)) (hb c4 (by simp)) (hb c5 (by simp)) (hb c6 (by simp)), b64_of (hb c7 (by simp)) (hb c8 (by simp)) (hb c9 (by simp)) (hb c10 (by simp)) (hb c11 (by simp)) (hb c12 (by simp)), ⟨hb c13 (by simp), hb c14 (by simp)⟩⟩⟩) h
  subst hn
  exact ⟨ao, cap, l, e, h1, h2⟩
end
theorem infoRadio : (Tryz.prog.info? 30).map (fun i => (i.zero, i.size, i.bytes)) = some (some (.agg zeros15.toArray), 15, 120) := by kernel_rfl
theorem same06_any (l : List Radio) (ao1 ao2 : Option Addr) (cap1 cap2 : Nat) (w : World) (h1 : SlAt w (.slice ao1 l.length cap1) l.length (l.flatMap Radio.cells)) (h2 : SlAt w (.slice ao2 l.length cap2) l.length (l.flatMap Radio.cells)) :
    Calls Tryz.prog 21 #[.slice ao1 l.length cap1, .slice ao2 l.length cap2] w fun e w' => e = .returned (.bool true) ∧ Grew w w' := by
  have hm := h1.len_le
  unfold maxLen at hm
  obtain ⟨ao', cap', e1, -, hx⟩ := h1
  cases e1
  obtain ⟨ao', cap', e1, -, hy⟩ := h2
  cases e1
  have HE1 := Lib.hid (SlAt.elem (f := Radio.cells) (c := 15) (fun _ => rfl) (by omega) hx)
  have HE2 := Lib.hid (SlAt.elem (f := Radio.cells) (c := 15) (fun _ => rfl) (by omega) hy)
  clear hx hy
  have hEq := eqBox
  go_enter Tryz.func21, Tryz.ntmps21
  go_wp2
  go_loopw [8] (fun t wr => ∃ k : Nat, t = .int .i64 k ∧ k ≤ l.length ∧ Grew w wr) (fun t _ => l.length - (intOf t).toNat)
  case atStart => exact ⟨0, rfl, by omega, (by repeat (first | with_reducible exact Grew.refl _ | with_reducible apply Grew.alloc | with_reducible apply Grew.later | with_reducible apply Grew.drew | with_reducible apply Grew.store | with_reducible assumption))⟩
  case round =>
    obtain ⟨k, rfl, hk, hg⟩ := hrel
    obtain ⟨z, rfl⟩ := later_of hg
    clear hg
    by_cases hlt : k < l.length
    · obtain ⟨b1, o1, e1, i1, d1, d2⟩ := HE1.out k hlt
      obtain ⟨b2, o2, e2, i2, d3, d4⟩ := HE2.out k hlt
      have hc0 := d1 _ rfl
      have hc1 := d2 1 _ rfl
      have hc2 := d2 2 _ rfl
      have hc3 := d2 3 _ rfl
      have hc4 := d2 4 _ rfl
      have hc5 := d2 5 _ rfl
      have hc6 := d2 6 _ rfl
      have hc7 := d2 7 _ rfl
      have hc8 := d2 8 _ rfl
      have hc9 := d2 9 _ rfl
      have hc10 := d2 10 _ rfl
      have hc11 := d2 11 _ rfl
      have hc12 := d2 12 _ rfl
      have hc13 := d2 13 _ rfl
      have hc14 := d2 14 _ rfl
      clear d1 d2
      have kc0 := d3 _ rfl
      have kc1 := d4 1 _ rfl
      have kc2 := d4 2 _ rfl
      have kc3 := d4 3 _ rfl
      have kc4 := d4 4 _ rfl
      have kc5 := d4 5 _ rfl
      have kc6 := d4 6 _ rfl
      have kc7 := d4 7 _ rfl
      have kc8 := d4 8 _ rfl
      have kc9 := d4 9 _ rfl
      have kc10 := d4 10 _ rfl
      have kc11 := d4 11 _ rfl
      have kc12 := d4 12 _ rfl
      have kc13 := d4 13 _ rfl
      have kc14 := d4 14 _ rfl
      clear d3 d4
      cases e1
      cases e2
      have j1 : BlockIn w b1 := ⟨i1⟩
      have j2 : BlockIn w b2 := ⟨i2⟩
      generalize l[k] = m at *
      go_wp2_with (first | ((with_reducible refine wp_region_later ?_ ?_ ?_); (· kernel_rfl); (· kernel_rfl); (try simp only [List.append_eq, List.cons_append, List.nil_append]); (repeat (go_big_quiet_step (fail))); refine wpQuiet_nil ?_; rintro _ ⟨u, rfl⟩))
      go_roundw
      case rel => exact ⟨k + 1, by go_num, by omega, (by repeat (first | with_reducible exact Grew.refl _ | with_reducible apply Grew.alloc | with_reducible apply Grew.later | with_reducible apply Grew.drew | with_reducible apply Grew.store | with_reducible assumption))⟩
      case measure => simp [intOf]; omega
    · obtain rfl : k = l.length := by omega
      go_wp2
      go_ret
      exact ⟨rfl, (by repeat (first | with_reducible exact Grew.refl _ | with_reducible apply Grew.alloc | with_reducible apply Grew.later | with_reducible apply Grew.drew | with_reducible apply Grew.store | with_reducible assumption))⟩
theorem fuses_walk (s : State) (l : List Radio) (n : Int) [hp : Pv64 s] (hT : ∀ m ∈ l, Ra64 m) (ao : Option Addr) (cap : Nat) (w : World) (hs : SlAt w (.slice ao l.length cap) l.length (l.flatMap Radio.cells)) :
    Calls Tryz.prog 5 #[.agg s.cells.toArray, .slice ao l.length cap, .int .i64 n] w fun e w' => e = .returned (.bool true) ∧ Grew w w' := by
  have hm := hs.len_le
  unfold maxLen at hm
  have Hs := Lib.hid hs
  have H1 := Lib.hid (fun ao' cap' w' h => show Calls Tryz.prog 19 #[.agg s.cells.toArray, .slice ao' l.length cap', .int .i64 n] w' (fun e w'' => e = .returned (.tuple #[.agg (fuseRR s l n).s.cells.toArray, .int .i64 (fuseRR s l n).n, .int .i64 (fuseRR s l n).e]) ∧ Grew w' w'') from navFuseT_any s l n hT ao' cap' w' h)
  have H2 := Lib.hid (fun w' (g : Grew w w') => show Calls Tryz.prog 20 #[.agg s.cells.toArray, .slice ao l.length cap, .int .i64 n] w' (fun e w'' => e = .returned (.tuple #[.agg (fuseRR s l n).s.cells.toArray, .int .i64 (fuseRR s l n).n, .int .i64 (fuseRR s l n).e]) ∧ Grew w' w'') from r6FuseT_any s l n hT ao cap w' (hs.grew g))
  have hone : ∀ u ∈ l.flatMap Radio.cells, u.oneCell' = true := by
    intro u hu
    obtain ⟨x, -, hx⟩ := List.mem_flatMap.1 hu
    simp only [Radio.cells, List.mem_cons, List.not_mem_nil, or_false] at hx
    rcases hx with rfl | rfl | rfl | rfl | rfl | rfl | rfl | rfl | rfl | rfl | rfl | rfl | rfl | rfl | rfl <;> rfl
  have hlen : (l.flatMap Radio.cells).length = l.length * 15 := by
    clear hT hs Hs H1 H2 hone hm
    induction l with
    | nil => rfl
    | cons x l ih => rw [List.flatMap_cons, List.length_append, ih, List.length_cons]; show 15 + _ = _; omega
  clear hs hT
  generalize fuseRR s l n = r at *
  by_cases hl : 20 < l.length
  · have hl' : (20 : Int) < l.length := by omega
    go_enter Tryz.func5, Tryz.ntmps5
    go_wp2
    go_ret
    exact ⟨rfl, (by repeat (first | with_reducible exact Grew.refl _ | with_reducible apply Grew.alloc | with_reducible apply Grew.later | with_reducible apply Grew.drew | with_reducible apply Grew.store | with_reducible assumption))⟩
  have hl' : ¬ ((20 : Int) < l.length) := by omega
  have hby : l.length * 120 ≤ 140737488355328 := by omega
  have hEq : ∀ (a : State) (w : World), (Op.equalIn 10000 28 (.agg a.cells.toArray) (.agg a.cells.toArray)).run Tryz.prog w = .ok true w := fun a w => by rw [eqState, sameSt_iff.2 rfl]
  clear hl
  go_enter Tryz.func5, Tryz.ntmps5
  go_wp2_with (first | (first | (at_builtin; go_loud (refine wpList_copy _ rfl _ _ 55 rfl 30 15 120 _ Tryz.underlying55 infoRadio rfl (by omega) rfl _ _ _ (Hs.out.grew (by repeat (first | with_reducible exact Grew.refl _ | with_reducible apply Grew.alloc | with_reducible apply Grew.later | with_reducible apply Grew.drew | with_reducible apply Grew.store | with_reducible assumption))) rfl hlen hone hby ?_; intro aox capx y1 hx)) | (go_at_call 19; refine call_later (H1.out _ _ _ (hx.grew (by repeat (first | with_reducible exact Grew.refl _ | with_reducible apply Grew.alloc | with_reducible apply Grew.later | with_reducible apply Grew.drew | with_reducible apply Grew.store | with_reducible assumption)))) ?_; intro u1) | (go_at_call 20; (with_reducible refine call_later (H2.out _ (by repeat (first | with_reducible exact Grew.refl _ | with_reducible apply Grew.alloc | with_reducible apply Grew.later | with_reducible apply Grew.drew | with_reducible apply Grew.store | with_reducible assumption))) ?_); intro u2) | (go_at_call 21; refine call_later (same06_any l _ _ _ _ _ (hx.grew (by repeat (first | with_reducible exact Grew.refl _ | with_reducible apply Grew.alloc | with_reducible apply Grew.later | with_reducible apply Grew.drew | with_reducible apply Grew.store | with_reducible assumption))) (Hs.out.grew (by repeat (first | with_reducible exact Grew.refl _ | with_reducible apply Grew.alloc | with_reducible apply Grew.later | with_reducible apply Grew.drew | with_reducible apply Grew.store | with_reducible assumption)))) ?_; intro u3) | ((with_reducible refine wpList_load_is ?_ ?_ ?_ ?_ ?_ ?_ ?_ ?_ ?_ ?_ ?_ ?_ ?_); rotate_left 6; (· rfl); (· rfl); (· rfl); (· infer_instance); (· infer_instance); (· rfl)) | ((with_reducible refine wpList_store_fresh ?_ ?_ ?_ ?_ ?_ ?_ ?_ ?_ ?_ ?_ ?_ ?_ ?_ ?_ ?_ ?_ ?_); rotate_left 5; (· rfl); (· rfl); (· rfl); (· rfl); (· rfl); (· infer_instance); (· infer_instance); (· infer_instance); (· infer_instance)) | ((with_reducible refine wpList_store_is ?_ ?_ ?_ ?_ ?_ ?_ ?_ ?_ ?_ ?_ ?_ ?_ ?_ ?_ ?_ ?_ ?_); rotate_left 7; (· rfl); (· rfl); (· rfl); (· rfl); (· rfl); (· infer_instance); (· infer_instance); (· infer_instance); (· infer_instance))) | ((with_reducible refine wp_region_later ?_ ?_ ?_); (· kernel_rfl); (· kernel_rfl); (try simp only [List.append_eq, List.cons_append, List.nil_append]); (repeat (go_big_quiet_step (fail))); refine wpQuiet_nil ?_; rintro _ ⟨u, rfl⟩))
  all_goals go_ret
  all_goals exact ⟨rfl, (by repeat (first | with_reducible exact Grew.refl _ | with_reducible apply Grew.alloc | with_reducible apply Grew.later | with_reducible apply Grew.drew | with_reducible apply Grew.store | with_reducible assumption))⟩
namespace navFusesRow
open Go.ChangeShapes Go.WideShapes Go.ChangeAt Go.RowKit
theorem own : ownKnob Tryz.prog.godebug = none := by kernel_rfl
theorem lifted (os : Os) (started : os.Started) (H : Type) (enc : TypeId × Value → H) :
    ReturnsInHanded {} Tryz.checked os 5 .any (Rows.navFusesSpec.pre6 enc Tryz.prog Tryz.f5 Rows.navFusesRow.domain false) (Rows.navFusesSpec.post enc Tryz.prog Tryz.f5 false true false false) := by
  refine returnsInHanded_of_change (C := Tryz.checked) own started (by kernel_rfl) Tryz.func5
    (ChangeSpec.witness6 (enc := enc) (C := Tryz.checked) false ⟨#[], #[.agg #[.int .i64 0, .int .i64 0, .int .i64 0, .int .i64 0, .int .i64 0, .int .i64 0, .int .i64 0, .int .i64 0, .int .i64 0, .int .i64 0, .int .i64 0, .int .i64 0, .int .i64 0, .int .i64 0, .int .i64 0], .slice none 0 0, .int .i64 0], []⟩ 8 (by as_aux_lemma => kernel_rfl) (by as_aux_lemma => kernel_rfl) (by as_aux_lemma => kernel_rfl) (by as_aux_lemma => kernel_rfl)) ?_
  intro W base args ds gs before hval0 hW _ _
  have hval : ∀ (j : Nat) t v, Tryz.f5.params[j]? = some t → args[j]? = some v → Value.okWide Tryz.prog W .any base t v := hval0
  have hW' := hW
  obtain ⟨p, q, hA0, hV, rfl, hfz, hnd⟩ := hW
  have hA : DataW.TrodAll enc Tryz.prog W 0 (fun _ => true) true Tryz.f5.params.toList args.toList ds p := hA0
  rw [Tryz.params5] at hA hval
  obtain ⟨v0, vs0, d0, ds0, p0, q0, hargs, rfl, rfl, h0, r0⟩ := trodAll_cons hA
  obtain ⟨v1, vs1, d1, ds1, p1, q1, rfl, rfl, rfl, h1, r1⟩ := trodAll_cons r0
  obtain ⟨v2, vs2, d2, ds2, p2, q2, rfl, rfl, rfl, h2, r2⟩ := trodAll_cons r1
  obtain ⟨rfl, rfl, rfl⟩ := trodAll_nil r2
  obtain rfl : args = #[v0, v1, v2] := by cases args; simp_all
  obtain ⟨rfl, rfl⟩ := trodVars_none hV
  obtain ⟨cs0, rfl, -⟩ := okWide_struct Tryz.underlying28 (hval 0 28 v0 rfl rfl)
  obtain ⟨ao1, n1, cap1, rfl⟩ := okWide_slice Tryz.underlying55 (hval 1 55 v1 rfl rfl)
  obtain ⟨a2, rfl, -, -⟩ := open_num Tryz.underlying3 (hval 2 3 v2 rfl rfl) h2
  obtain ⟨_, h0⟩ := h0
  obtain ⟨_, h1⟩ := h1
  obtain ⟨a3, e3, s1, s2, s3, s4, s5, s6, s7, s8, s9, s10, s11, s12, s13, s14, s15⟩ := state_trod h0
  obtain ⟨ao, cap, l, e1, hl, hT⟩ := radios_trod h1
  obtain rfl : cs0 = a3.cells.toArray := Array.ext' (by simpa [Value.cells] using e3)
  obtain ⟨rfl, rfl, rfl⟩ : ao1 = ao ∧ n1 = l.length ∧ cap1 = cap := by simpa [Value.cells] using e1
  have hA : Pv64 a3 := ⟨b64_of s2 s3 s4 s5 s6 s7, b64_of s8 s9 s10 s11 s12 s13⟩
  refine (fuses_walk a3 l a2 hT ao1 cap1 W hl).mono fun e W' ⟨he, hg⟩ => ?_
  subst he
  exact ⟨_, rfl, law_post (by kernel_rfl) (by kernel_rfl) rfl rfl Tryz.underlying4 hW' rfl hg⟩
theorem proved : Rows.NavFusesSaid :=
  OpenClaim.holds_of_wide 5 Tryz.f5 rfl rfl rfl rfl rfl rfl rfl ⟨rfl, rfl, rfl, rfl, rfl⟩ rfl rfl rfl rfl rfl (by as_aux_lemma => kernel_rfl) Tryz.func5 (by as_aux_lemma => kernel_rfl)
    (of_decide_eq_true (by as_aux_lemma => kernel_rfl)) (by unfold Func.isWrapper; first | (rw [if_pos (by decide +kernel)]; kernel_rfl) | (rw [if_neg (by decide +kernel)]; exact ⟨rfl, rfl⟩))
    (fun os started H enc _ => lifted os started H enc)
end navFusesRow
end Go.Proofs.YtohinapfpfjlkaaGreat
