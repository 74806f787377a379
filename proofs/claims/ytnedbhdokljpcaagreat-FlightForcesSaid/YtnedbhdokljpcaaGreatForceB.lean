/-
  Contracts: the factors of an oblate planet's attraction (ullageref03), a planet's attraction (flight).
-/
import Derived.Test.YtnedbhdokljpcaaGreatForceA
namespace Go.Proofs.YtnedbhdokljpcaaGreat
open Go.RowKit Go.Shelf
set_option maxRecDepth 100000
set_option maxHeartbeats 16000000
theorem newFor_of {a w : World} {q : Nat} [h : NewFor a w.heap.size] (n : NewFor w q) : NewFor a q := ⟨Nat.le_trans h.le n.le⟩
instance s64_whole1 : S64 (wholeS 1) := ⟨⟨by unfold wholeS; simp only []; omega, by unfold wholeS; simp only []; omega⟩, ⟨by unfold wholeS; simp only []; omega, by unfold wholeS; simp only []; omega⟩⟩
instance s64_whole2 : S64 (wholeS 2) := ⟨⟨by unfold wholeS; simp only []; omega, by unfold wholeS; simp only []; omega⟩, ⟨by unfold wholeS; simp only []; omega, by unfold wholeS; simp only []; omega⟩⟩
instance s64_whole3 : S64 (wholeS 3) := ⟨⟨by unfold wholeS; simp only []; omega, by unfold wholeS; simp only []; omega⟩, ⟨by unfold wholeS; simp only []; omega, by unfold wholeS; simp only []; omega⟩⟩
instance n64_five : N64 5 := ⟨by unfold I64; omega⟩
instance n64_two : N64 2 := ⟨by unfold I64; omega⟩
instance s64_sh3 (p : Planet) (r : Sp) (e : Int) : S64 (sh3 p r e).s := s64_do _ _
instance s64_sh5 (p : Planet) (r up : Sp) (e : Int) : S64 (sh5 p r up e).s := s64_do _ _
instance b64_eachR (f : Sp → Sp → Res) (e : Int) (a b : Bx) [hf : ∀ x y, S64 (f x y).s] : B64 (eachR f e a b).b := ⟨s64_do _ _, s64_do _ _, s64_do _ _⟩
instance b64_shape (p : Planet) (r up : Sp) (e : Int) : B64 (shapeR p r up e).b := by
  unfold shapeR
  split
  · exact ⟨s64_whole1, s64_whole1, s64_whole1⟩
  · exact ⟨s64_do _ _, s64_do _ _, s64_do _ _⟩
theorem r3Shape_any (p : Planet) (r up : Sp) [hp : Pl64 p] [hr : S64 r] [hu : S64 up] (c : Nat) (e : Int) (w : World) (hc : w.cell? ⟨c, 0, none⟩ = some (.int .i64 e)) (hf : w.frozen? ⟨c, 0, none⟩ = false) :
    Calls Tryz.prog 136 #[.pointer (some ⟨c, 0, none⟩), .agg #[.int .i64 p.mu.lo, .int .i64 p.mu.hi, .int .i64 p.radius.lo, .int .i64 p.radius.hi, .int .i64 p.oblate.lo, .int .i64 p.oblate.hi, .int .i64 p.spin.lo, .int .i64 p.spin.hi, .int .i64 p.pull.x.lo, .int .i64 p.pull.x.hi, .int .i64 p.pull.y.lo, .int .i64 p.pull.y.hi, .int .i64 p.pull.z.lo, .int .i64 p.pull.z.hi], .agg #[.int .i64 r.lo, .int .i64 r.hi], .agg #[.int .i64 up.lo, .int .i64 up.hi]] w (RetC c (.agg #[.int .i64 ((shapeR p r up e).b).x.lo, .int .i64 ((shapeR p r up e).b).x.hi, .int .i64 ((shapeR p r up e).b).y.lo, .int .i64 ((shapeR p r up e).b).y.hi, .int .i64 ((shapeR p r up e).b).z.lo, .int .i64 ((shapeR p r up e).b).z.hi]) (shapeR p r up e).e w) := by
  have ib : BlockIn w c := BlockIn.of_cell hc
  have hci : HasCell w c 0 := ⟨_, hc⟩
  have Hb := Lib.hid (But.refl hc)
  have Hc := Lib.hid hc
  have hlt := ib.lt
  have KW1 := Lib.hid (fun w => rWhole_any 1 (by omega) (by omega) w)
  have KW3 := Lib.hid (fun w => rWhole_any 3 (by omega) (by omega) w)
  cases hz : zeroB p.oblate
  · have HZ := Lib.hid (fun w' => is_bool hz (r3Point0_any p.oblate w'))
    have HR := Lib.hid (show shapeR p r up e = ⟨⟨(sh8 p r up e).s, (sh8 p r up e).s, (sh11 p r up e).s⟩, (sh11 p r up e).e⟩ by unfold shapeR; rw [hz]; rfl)
    have s1 : S64 (sh1 p r e).s := s64_do _ _
    have s2 : S64 (sh2 p r e).s := s64_do _ _
    have s3 : S64 (sh3 p r e).s := s64_do _ _
    have s4 : S64 (sh4 p r up e).s := s64_do _ _
    have s5 : S64 (sh5 p r up e).s := s64_do _ _
    have s6 : S64 (sh6 p r up e).s := s64_do _ _
    have s7 : S64 (sh7 p r up e).s := s64_do _ _
    have s9 : S64 (sh9 p r up e).s := s64_do _ _
    have s10 : S64 (sh10 p r up e).s := s64_do _ _
    have K1 := Lib.hid (fun w hc hf => show Calls Tryz.prog 48 #[.pointer (some ⟨c, 0, none⟩), .agg #[.int .i64 p.radius.lo, .int .i64 p.radius.hi], .agg #[.int .i64 r.lo, .int .i64 r.hi]] w (RetC c (.agg #[.int .i64 ((sh1 p r e).s).lo, .int .i64 ((sh1 p r e).s).hi]) (sh1 p r e).e w) from rcDiv_any c e p.radius r w hc hf)
    have K2 := Lib.hid (fun w hc hf => show Calls Tryz.prog 60 #[.pointer (some ⟨c, 0, none⟩), .agg #[.int .i64 ((sh1 p r e).s).lo, .int .i64 ((sh1 p r e).s).hi]] w (RetC c (.agg #[.int .i64 ((sh2 p r e).s).lo, .int .i64 ((sh2 p r e).s).hi]) (sh2 p r e).e w) from rcSquare_any c (sh1 p r e).e (sh1 p r e).s w hc hf)
    have K3 := Lib.hid (fun w hc hf => show Calls Tryz.prog 58 #[.pointer (some ⟨c, 0, none⟩), .agg #[.int .i64 p.oblate.lo, .int .i64 p.oblate.hi], .agg #[.int .i64 ((sh2 p r e).s).lo, .int .i64 ((sh2 p r e).s).hi]] w (RetC c (.agg #[.int .i64 ((sh3 p r e).s).lo, .int .i64 ((sh3 p r e).s).hi]) (sh3 p r e).e w) from rcMul_any c (sh2 p r e).e p.oblate (sh2 p r e).s w hc hf)
    have K4 := Lib.hid (fun w hc hf => show Calls Tryz.prog 60 #[.pointer (some ⟨c, 0, none⟩), .agg #[.int .i64 up.lo, .int .i64 up.hi]] w (RetC c (.agg #[.int .i64 ((sh4 p r up e).s).lo, .int .i64 ((sh4 p r up e).s).hi]) (sh4 p r up e).e w) from rcSquare_any c (sh3 p r e).e up w hc hf)
    have K5 := Lib.hid (fun w hc hf => show Calls Tryz.prog 137 #[.pointer (some ⟨c, 0, none⟩), .agg #[.int .i64 ((sh4 p r up e).s).lo, .int .i64 ((sh4 p r up e).s).hi], .int .i64 5] w (RetC c (.agg #[.int .i64 ((sh5 p r up e).s).lo, .int .i64 ((sh5 p r up e).s).hi]) (sh5 p r up e).e w) from rcScale_any c (sh4 p r up e).e (sh4 p r up e).s 5 w hc hf)
    have K6 := Lib.hid (fun w hc hf => show Calls Tryz.prog 41 #[.pointer (some ⟨c, 0, none⟩), .agg #[.int .i64 ((wholeS 1)).lo, .int .i64 ((wholeS 1)).hi], .agg #[.int .i64 ((sh5 p r up e).s).lo, .int .i64 ((sh5 p r up e).s).hi]] w (RetC c (.agg #[.int .i64 ((sh6 p r up e).s).lo, .int .i64 ((sh6 p r up e).s).hi]) (sh6 p r up e).e w) from rcSub_any c (sh5 p r up e).e (wholeS 1) (sh5 p r up e).s w hc hf)
    have K7 := Lib.hid (fun w hc hf => show Calls Tryz.prog 58 #[.pointer (some ⟨c, 0, none⟩), .agg #[.int .i64 ((sh3 p r e).s).lo, .int .i64 ((sh3 p r e).s).hi], .agg #[.int .i64 ((sh6 p r up e).s).lo, .int .i64 ((sh6 p r up e).s).hi]] w (RetC c (.agg #[.int .i64 ((sh7 p r up e).s).lo, .int .i64 ((sh7 p r up e).s).hi]) (sh7 p r up e).e w) from rcMul_any c (sh6 p r up e).e (sh3 p r e).s (sh6 p r up e).s w hc hf)
    have K8 := Lib.hid (fun w hc hf => show Calls Tryz.prog 86 #[.pointer (some ⟨c, 0, none⟩), .agg #[.int .i64 ((wholeS 1)).lo, .int .i64 ((wholeS 1)).hi], .agg #[.int .i64 ((sh7 p r up e).s).lo, .int .i64 ((sh7 p r up e).s).hi]] w (RetC c (.agg #[.int .i64 ((sh8 p r up e).s).lo, .int .i64 ((sh8 p r up e).s).hi]) (sh8 p r up e).e w) from rcAdd_any c (sh7 p r up e).e (wholeS 1) (sh7 p r up e).s w hc hf)
    have K9 := Lib.hid (fun w hc hf => show Calls Tryz.prog 41 #[.pointer (some ⟨c, 0, none⟩), .agg #[.int .i64 ((wholeS 3)).lo, .int .i64 ((wholeS 3)).hi], .agg #[.int .i64 ((sh5 p r up e).s).lo, .int .i64 ((sh5 p r up e).s).hi]] w (RetC c (.agg #[.int .i64 ((sh9 p r up e).s).lo, .int .i64 ((sh9 p r up e).s).hi]) (sh9 p r up e).e w) from rcSub_any c (sh8 p r up e).e (wholeS 3) (sh5 p r up e).s w hc hf)
    have K10 := Lib.hid (fun w hc hf => show Calls Tryz.prog 58 #[.pointer (some ⟨c, 0, none⟩), .agg #[.int .i64 ((sh3 p r e).s).lo, .int .i64 ((sh3 p r e).s).hi], .agg #[.int .i64 ((sh9 p r up e).s).lo, .int .i64 ((sh9 p r up e).s).hi]] w (RetC c (.agg #[.int .i64 ((sh10 p r up e).s).lo, .int .i64 ((sh10 p r up e).s).hi]) (sh10 p r up e).e w) from rcMul_any c (sh9 p r up e).e (sh3 p r e).s (sh9 p r up e).s w hc hf)
    have K11 := Lib.hid (fun w hc hf => show Calls Tryz.prog 86 #[.pointer (some ⟨c, 0, none⟩), .agg #[.int .i64 ((wholeS 1)).lo, .int .i64 ((wholeS 1)).hi], .agg #[.int .i64 ((sh10 p r up e).s).lo, .int .i64 ((sh10 p r up e).s).hi]] w (RetC c (.agg #[.int .i64 ((sh11 p r up e).s).lo, .int .i64 ((sh11 p r up e).s).hi]) (sh11 p r up e).e w) from rcAdd_any c (sh10 p r up e).e (wholeS 1) (sh10 p r up e).s w hc hf)
    clear s1 s2 s3 s4 s5 s6 s7 s9 s10
    clear hz
    generalize shapeR p r up e = R at *
    generalize wholeS 1 = W1 at *
    generalize wholeS 3 = W3 at *
    generalize sh1 p r e = r1 at *
    generalize sh2 p r e = r2 at *
    generalize sh3 p r e = r3 at *
    generalize sh4 p r up e = r4 at *
    generalize sh5 p r up e = r5 at *
    generalize sh6 p r up e = r6 at *
    generalize sh7 p r up e = r7 at *
    generalize sh8 p r up e = r8 at *
    generalize sh9 p r up e = r9 at *
    generalize sh10 p r up e = r10 at *
    generalize sh11 p r up e = r11 at *
    go_enter Tryz.func136, Tryz.ntmps136
    go_wp2_with (first | (go_at_call 61; (with_reducible refine call_later (KW1.out _) ?_); intro u) | (go_at_call 135; (with_reducible refine call_later (HZ.out _) ?_); intro u) | ((with_reducible refine wp_region_later ?_ ?_ ?_); (· kernel_rfl); (· kernel_rfl); (try simp only [List.append_eq, List.cons_append, List.nil_append]); (repeat (go_big_quiet_step ((first | (go_at_call 61; (with_reducible exact call_quiet (KW1.out _))) | (go_at_call 135; (with_reducible exact call_quiet (HZ.out _))))))); refine wpQuiet_nil ?_; rintro _ ⟨u, rfl⟩))
    refine wp_region_calc c [e, r1.e, r2.e, r3.e] 12 [11] [8, 9, 10] [] (fun W0 => [(11, BoxR W0 [.int .i64 0, .int .i64 0])]) [.agg #[.int .i64 r1.s.lo, .int .i64 r1.s.hi], .agg #[.int .i64 r2.s.lo, .int .i64 r2.s.hi], .agg #[.int .i64 r3.s.lo, .int .i64 r3.s.hi]] [12] (by rfl) (by go_simp) (by go_simp) (by intro W0 hW0 x hx; simp only [List.mem_cons, List.not_mem_nil, or_false] at hx; rcases hx with rfl <;> first | exact goodc_box _ _ hW0 _) (by kernel_rfl) (by kernel_rfl) (by kernel_rfl) ?_
    intro pz hd0
    apply Exists.intro
    apply And.intro
    apply lexc_pure hd0 (by kernel_rfl)
    · intro uz xc; unfold opPure; go_simp; rfl
    apply lexc_pure hd0 (by kernel_rfl)
    · intro uz xc; unfold opPure; go_simp; rfl
    apply lexc_pure hd0 (by kernel_rfl)
    · intro uz xc; unfold opPure; go_simp; rfl
    apply lexc_pure hd0 (by kernel_rfl)
    · intro uz xc; unfold opPure; go_simp; rfl
    apply lexc_pure hd0 (by kernel_rfl)
    · intro uz xc; unfold opPure; go_simp; rfl
    apply lexc_pure hd0 (by kernel_rfl)
    · intro uz xc; unfold opPure; go_simp; rfl
    apply lexc_pure hd0 (by kernel_rfl)
    · intro uz xc; unfold opPure; go_simp; rfl
    apply lexc_pure hd0 (by kernel_rfl)
    · intro uz xc; unfold opPure; go_simp; rfl
    apply lexc_call hd0 0 (by kernel_rfl) (by rfl) (by decide)
    · intro uz hfz hF; clear hF; unfold opCall; go_simp; exact K1.out _ (by go_simp) hfz
    apply lexc_call hd0 1 (by kernel_rfl) (by rfl) (by decide)
    · intro uz hfz hF; clear hF; unfold opCall; go_simp; exact K2.out _ (by go_simp) hfz
    apply lexc_call hd0 2 (by kernel_rfl) (by rfl) (by decide)
    · intro uz hfz hF; clear hF; unfold opCall; go_simp; exact K3.out _ (by go_simp) hfz
    apply lexc_make hd0 (by kernel_rfl)
    · intro uz xc hF; clear hF; unfold opMake; go_simp; refine (show Made (BoxR _ [.int .i64 0, .int .i64 0]) _ _ _ from ?_); exact madec_box _ _ _ _
    apply lexc_end
    rotate_left
    · rfl
    intro uz hR hD hfz
    obtain ⟨q11, e11, hB11, kB11, nB11⟩ := (show BoxR _ [.int .i64 0, .int .i64 0] (pz 11) _ from hR 11 (by decide))
    clear hR hD
    rw [e11]
    clear e11
    have oB11 := apart_oldL nB11
    have oC11 := apart_oldR nB11
    have hB11 := boxAt_cw hB11 hd0 nB11
    have kB11 := blockIn_cw kB11
    have hB11_0 := (hB11 0 _ rfl).1
    have hB11f0 := (hB11 0 _ rfl).2
    have hB11i0 : HasCell (uz.world) (q11) 0 := ⟨_, hB11_0⟩
    have hB11_1 := (hB11 1 _ rfl).1
    have hB11f1 := (hB11 1 _ rfl).2
    have hB11i1 : HasCell (uz.world) (q11) 1 := ⟨_, hB11_1⟩
    have hB11b : BlockIn (uz.world) (q11) := BlockIn.of_cell hB11_0
    clear hB11
    refine tail_store (by rfl) ?_; unfold opStore; go_simp
    refine tail_end ?_
    have nw11 : NewFor w q11 := newFor_of nB11
    go_wp2_with (first | (go_at_call 60; (with_reducible refine call_calc (K4.out _ ?_ ?_) ?_); (· go_simp); (· go_simp); intro u4) | (go_at_call 137; (with_reducible refine call_calc (K5.out _ ?_ ?_) ?_); (· go_simp); (· go_simp); intro u5))
    refine wp_region_calc c [r5.e, r6.e, r7.e, r8.e] 11 [10] [7, 8, 9] [] (fun W0 => [(10, BoxR W0 [.int .i64 0, .int .i64 0])]) [.agg #[.int .i64 r6.s.lo, .int .i64 r6.s.hi], .agg #[.int .i64 r7.s.lo, .int .i64 r7.s.hi], .agg #[.int .i64 r8.s.lo, .int .i64 r8.s.hi]] [11] (by rfl) (by go_simp) (by go_simp) (by intro W0 hW0 x hx; simp only [List.mem_cons, List.not_mem_nil, or_false] at hx; rcases hx with rfl <;> first | exact goodc_box _ _ hW0 _) (by kernel_rfl) (by kernel_rfl) (by kernel_rfl) ?_
    intro pz hd0
    apply Exists.intro
    apply And.intro
    apply lexc_pure hd0 (by kernel_rfl)
    · intro uz xc; unfold opPure; go_simp; rfl
    apply lexc_pure hd0 (by kernel_rfl)
    · intro uz xc; unfold opPure; go_simp; rfl
    apply lexc_pure hd0 (by kernel_rfl)
    · intro uz xc; unfold opPure; go_simp; rfl
    apply lexc_pure hd0 (by kernel_rfl)
    · intro uz xc; unfold opPure; go_simp; rfl
    apply lexc_pure hd0 (by kernel_rfl)
    · intro uz xc; unfold opPure; go_simp; rfl
    apply lexc_pure hd0 (by kernel_rfl)
    · intro uz xc; unfold opPure; go_simp; rfl
    apply lexc_pure hd0 (by kernel_rfl)
    · intro uz xc; unfold opPure; go_simp; rfl
    apply lexc_call hd0 0 (by kernel_rfl) (by rfl) (by decide)
    · intro uz hfz hF; clear hF; unfold opCall; go_simp; exact K6.out _ (by go_simp) hfz
    apply lexc_call hd0 1 (by kernel_rfl) (by rfl) (by decide)
    · intro uz hfz hF; clear hF; unfold opCall; go_simp; exact K7.out _ (by go_simp) hfz
    apply lexc_call hd0 2 (by kernel_rfl) (by rfl) (by decide)
    · intro uz hfz hF; clear hF; unfold opCall; go_simp; exact K8.out _ (by go_simp) hfz
    apply lexc_make hd0 (by kernel_rfl)
    · intro uz xc hF; clear hF; unfold opMake; go_simp; refine (show Made (BoxR _ [.int .i64 0, .int .i64 0]) _ _ _ from ?_); exact madec_box _ _ _ _
    apply lexc_end
    rotate_left
    · rfl
    intro uz hR hD hfz
    obtain ⟨q10, e10, hB10, kB10, nB10⟩ := (show BoxR _ [.int .i64 0, .int .i64 0] (pz 10) _ from hR 10 (by decide))
    clear hR hD
    rw [e10]
    clear e10
    have oB10 := apart_oldL nB10
    have oC10 := apart_oldR nB10
    have hB10 := boxAt_cw hB10 hd0 nB10
    have kB10 := blockIn_cw kB10
    have hB10_0 := (hB10 0 _ rfl).1
    have hB10f0 := (hB10 0 _ rfl).2
    have hB10i0 : HasCell (uz.world) (q10) 0 := ⟨_, hB10_0⟩
    have hB10_1 := (hB10 1 _ rfl).1
    have hB10f1 := (hB10 1 _ rfl).2
    have hB10i1 : HasCell (uz.world) (q10) 1 := ⟨_, hB10_1⟩
    have hB10b : BlockIn (uz.world) (q10) := BlockIn.of_cell hB10_0
    clear hB10
    refine tail_store (by rfl) ?_; unfold opStore; go_simp
    refine tail_end ?_
    have nw10 : NewFor w q10 := newFor_of nB10
    go_wp2
    refine wp_region_calc c [r8.e, r8.e, r9.e, r10.e, r11.e] 11 [10] [5, 7, 8, 9] [] (fun W0 => [(10, BoxR W0 [.int .i64 0, .int .i64 0])]) [.agg #[.int .i64 W3.lo, .int .i64 W3.hi], .agg #[.int .i64 r9.s.lo, .int .i64 r9.s.hi], .agg #[.int .i64 r10.s.lo, .int .i64 r10.s.hi], .agg #[.int .i64 r11.s.lo, .int .i64 r11.s.hi]] [11] (by rfl) (by go_simp) (by go_simp) (by intro W0 hW0 x hx; simp only [List.mem_cons, List.not_mem_nil, or_false] at hx; rcases hx with rfl <;> first | exact goodc_box _ _ hW0 _) (by kernel_rfl) (by kernel_rfl) (by kernel_rfl) ?_
    intro pz hd0
    apply Exists.intro
    apply And.intro
    apply lexc_pure hd0 (by kernel_rfl)
    · intro uz xc; unfold opPure; go_simp; rfl
    apply lexc_pure hd0 (by kernel_rfl)
    · intro uz xc; unfold opPure; go_simp; rfl
    apply lexc_pure hd0 (by kernel_rfl)
    · intro uz xc; unfold opPure; go_simp; rfl
    apply lexc_pure hd0 (by kernel_rfl)
    · intro uz xc; unfold opPure; go_simp; rfl
    apply lexc_pure hd0 (by kernel_rfl)
    · intro uz xc; unfold opPure; go_simp; rfl
    apply lexc_call hd0 0 (by kernel_rfl) (by rfl) (by decide)
    · intro uz hfz hF; clear hF; unfold opCall; go_simp; exact retc_of (KW3.out _) (by go_simp)
    apply lexc_pure hd0 (by kernel_rfl)
    · intro uz xc; unfold opPure; go_simp; rfl
    apply lexc_call hd0 1 (by kernel_rfl) (by rfl) (by decide)
    · intro uz hfz hF; clear hF; unfold opCall; go_simp; exact K9.out _ (by go_simp) hfz
    apply lexc_call hd0 2 (by kernel_rfl) (by rfl) (by decide)
    · intro uz hfz hF; clear hF; unfold opCall; go_simp; exact K10.out _ (by go_simp) hfz
    apply lexc_call hd0 3 (by kernel_rfl) (by rfl) (by decide)
    · intro uz hfz hF; clear hF; unfold opCall; go_simp; exact K11.out _ (by go_simp) hfz
    apply lexc_make hd0 (by kernel_rfl)
    · intro uz xc hF; clear hF; unfold opMake; go_simp; refine (show Made (BoxR _ [.int .i64 0, .int .i64 0]) _ _ _ from ?_); exact madec_box _ _ _ _
    apply lexc_end
    rotate_left
    · rfl
    intro uz hR hD hfz
    obtain ⟨q10, e10, hB10, kB10, nB10⟩ := (show BoxR _ [.int .i64 0, .int .i64 0] (pz 10) _ from hR 10 (by decide))
    clear hR hD
    rw [e10]
    clear e10
    have oB10 := apart_oldL nB10
    have oC10 := apart_oldR nB10
    have hB10 := boxAt_cw hB10 hd0 nB10
    have kB10 := blockIn_cw kB10
    have hB10_0 := (hB10 0 _ rfl).1
    have hB10f0 := (hB10 0 _ rfl).2
    have hB10i0 : HasCell (uz.world) (q10) 0 := ⟨_, hB10_0⟩
    have hB10_1 := (hB10 1 _ rfl).1
    have hB10f1 := (hB10 1 _ rfl).2
    have hB10i1 : HasCell (uz.world) (q10) 1 := ⟨_, hB10_1⟩
    have hB10b : BlockIn (uz.world) (q10) := BlockIn.of_cell hB10_0
    clear hB10
    refine tail_store (by rfl) ?_; unfold opStore; go_simp
    refine tail_end ?_
    have nw12 : NewFor w q10 := newFor_of nB10
    go_wp2
    refine bodyPost_ret (by (simp [results, Tryz.results136, go_sem] <;> rfl)) rfl ?_
    exact ⟨by rw [HR.out], But.out (by repeat (first | with_reducible exact Hb.out | with_reducible apply But.alloc | with_reducible apply But.later | with_reducible apply But.drew | with_reducible apply But.put | with_reducible apply But.store)) Hc.out (by rw [HR.out]; go_simp)⟩
  · have HZ := Lib.hid (fun w' => is_bool hz (r3Point0_any p.oblate w'))
    have HR := Lib.hid (show shapeR p r up e = ⟨⟨wholeS 1, wholeS 1, wholeS 1⟩, e⟩ by unfold shapeR; rw [hz]; rfl)
    clear hz
    generalize shapeR p r up e = R at *
    generalize wholeS 1 = W1 at *
    go_enter Tryz.func136, Tryz.ntmps136
    go_wp2_with (first | (go_at_call 61; (with_reducible refine call_later (KW1.out _) ?_); intro u) | (go_at_call 135; (with_reducible refine call_later (HZ.out _) ?_); intro u) | ((with_reducible refine wp_region_later ?_ ?_ ?_); (· kernel_rfl); (· kernel_rfl); (try simp only [List.append_eq, List.cons_append, List.nil_append]); (repeat (go_big_quiet_step ((first | (go_at_call 61; (with_reducible exact call_quiet (KW1.out _))) | (go_at_call 135; (with_reducible exact call_quiet (HZ.out _))))))); refine wpQuiet_nil ?_; rintro _ ⟨u, rfl⟩))
    refine bodyPost_ret (by (simp [results, Tryz.results136, go_sem] <;> rfl)) rfl ?_
    exact ⟨by rw [HR.out], But.out (by repeat (first | with_reducible exact Hb.out | with_reducible apply But.alloc | with_reducible apply But.later | with_reducible apply But.drew | with_reducible apply But.put | with_reducible apply But.store)) Hc.out (by rw [HR.out]; go_simp)⟩
end Go.Proofs.YtnedbhdokljpcaaGreat
