/-
  Contract: a planet's attraction (flight).
-/
import Derived.Test.YtnedbhdokljpcaaGreatForceB
namespace Go.Proofs.YtnedbhdokljpcaaGreat
open Go.RowKit Go.Shelf
set_option maxRecDepth 100000
set_option maxHeartbeats 16000000
theorem cAttr_any (p : Planet) (x : Arc) (place : Bx) (r : Sp) [hp : Pl64 p] [hpl : B64 place] [hr : S64 r] (c : Nat) (e : Int) (w : World) (hc : w.cell? ⟨c, 0, none⟩ = some (.int .i64 e)) (hf : w.frozen? ⟨c, 0, none⟩ = false) :
    Calls Tryz.prog 131 #[.agg #[.int .i64 p.mu.lo, .int .i64 p.mu.hi, .int .i64 p.radius.lo, .int .i64 p.radius.hi, .int .i64 p.oblate.lo, .int .i64 p.oblate.hi, .int .i64 p.spin.lo, .int .i64 p.spin.hi, .int .i64 p.pull.x.lo, .int .i64 p.pull.x.hi, .int .i64 p.pull.y.lo, .int .i64 p.pull.y.hi, .int .i64 p.pull.z.lo, .int .i64 p.pull.z.hi, .int .i64 x.time, .int .i64 x.step, .int .i64 x.thrust.lo, .int .i64 x.thrust.hi, .int .i64 x.flow.lo, .int .i64 x.flow.hi, .int .i64 x.dir.x.lo, .int .i64 x.dir.x.hi, .int .i64 x.dir.y.lo, .int .i64 x.dir.y.hi, .int .i64 x.dir.z.lo, .int .i64 x.dir.z.hi, .slice x.drag.ao x.drag.n x.drag.cap, .int .i64 x.drop.lo, .int .i64 x.drop.hi], .pointer (some ⟨c, 0, none⟩), .agg #[.int .i64 place.x.lo, .int .i64 place.x.hi, .int .i64 place.y.lo, .int .i64 place.y.hi, .int .i64 place.z.lo, .int .i64 place.z.hi], .agg #[.int .i64 r.lo, .int .i64 r.hi]] w (RetC c (.agg #[.int .i64 ((attR p place r e).b).x.lo, .int .i64 ((attR p place r e).b).x.hi, .int .i64 ((attR p place r e).b).y.lo, .int .i64 ((attR p place r e).b).y.hi, .int .i64 ((attR p place r e).b).z.lo, .int .i64 ((attR p place r e).b).z.hi]) (attR p place r e).e w) := by
  have ib : BlockIn w c := BlockIn.of_cell hc
  have hci : HasCell w c 0 := ⟨_, hc⟩
  have Hb := Lib.hid (But.refl hc)
  have Hc := Lib.hid hc
  have KW1 := Lib.hid flWhole_one
  have KW3 := Lib.hid flWhole_three
  have a1 : B64 (atU place r e).b := b64_eachR _ _ _ _
  have a3 : S64 (atT p place r e).s := s64_do _ _
  have a2 : S64 (atS p place r e).s := s64_do _ _
  have a4 : B64 (atN p place r e).b := b64_shape _ _ _ _
  have a5 : B64 (atM p place r e).b := b64_eachR _ _ _ _
  have J1 := Lib.hid (fun w hc hf => show Calls Tryz.prog 130 #[.pointer (some ⟨c, 0, none⟩), .func (.func 45) #[.pointer (some ⟨c, 0, none⟩)] #[], .agg #[.int .i64 place.x.lo, .int .i64 place.x.hi, .int .i64 place.y.lo, .int .i64 place.y.hi, .int .i64 place.z.lo, .int .i64 place.z.hi], .agg #[.int .i64 r.lo, .int .i64 r.hi, .int .i64 r.lo, .int .i64 r.hi, .int .i64 r.lo, .int .i64 r.hi]] w (RetC c (.agg #[.int .i64 ((atU place r e).b).x.lo, .int .i64 ((atU place r e).b).x.hi, .int .i64 ((atU place r e).b).y.lo, .int .i64 ((atU place r e).b).y.hi, .int .i64 ((atU place r e).b).z.lo, .int .i64 ((atU place r e).b).z.hi]) (atU place r e).e w) from cEachM_any 45 divR (enters_of Tryz.func45 (by kernel_rfl) rfl) opm_div c e place (ones r) (ha := inferInstance) (hb := ⟨hr, hr, hr⟩) w hc hf)
  have J2 := Lib.hid (fun w hc hf => show Calls Tryz.prog 45 #[.pointer (some ⟨c, 0, none⟩), .agg #[.int .i64 p.mu.lo, .int .i64 p.mu.hi], .agg #[.int .i64 r.lo, .int .i64 r.hi]] w (RetC c (.agg #[.int .i64 ((atS p place r e).s).lo, .int .i64 ((atS p place r e).s).hi]) (atS p place r e).e w) from cDiv_any c (atU place r e).e p.mu r w hc hf)
  have J3 := Lib.hid (fun w hc hf => show Calls Tryz.prog 45 #[.pointer (some ⟨c, 0, none⟩), .agg #[.int .i64 ((atS p place r e).s).lo, .int .i64 ((atS p place r e).s).hi], .agg #[.int .i64 r.lo, .int .i64 r.hi]] w (RetC c (.agg #[.int .i64 ((atT p place r e).s).lo, .int .i64 ((atT p place r e).s).hi]) (atT p place r e).e w) from cDiv_any c (atS p place r e).e (atS p place r e).s r w hc hf)
  have J4 := Lib.hid (fun w hc hf => show Calls Tryz.prog 134 #[.pointer (some ⟨c, 0, none⟩), .func (.func 53) #[.pointer (some ⟨c, 0, none⟩)] #[], .agg #[.int .i64 ((atT p place r e).s).lo, .int .i64 ((atT p place r e).s).hi], .agg #[.int .i64 ((atU place r e).b).x.lo, .int .i64 ((atU place r e).b).x.hi, .int .i64 ((atU place r e).b).y.lo, .int .i64 ((atU place r e).b).y.hi, .int .i64 ((atU place r e).b).z.lo, .int .i64 ((atU place r e).b).z.hi]] w (RetC c (.agg #[.int .i64 ((atM p place r e).b).x.lo, .int .i64 ((atM p place r e).b).x.hi, .int .i64 ((atM p place r e).b).y.lo, .int .i64 ((atM p place r e).b).y.hi, .int .i64 ((atM p place r e).b).z.lo, .int .i64 ((atM p place r e).b).z.hi]) (atM p place r e).e w) from cByM_any 53 mulR (enters_of Tryz.func53 (by kernel_rfl) rfl) opm_mul c (atN p place r e).e (atT p place r e).s (atU place r e).b w hc hf)
  have J5 := Lib.hid (fun w hc hf => show Calls Tryz.prog 130 #[.pointer (some ⟨c, 0, none⟩), .func (.func 53) #[.pointer (some ⟨c, 0, none⟩)] #[], .agg #[.int .i64 ((atM p place r e).b).x.lo, .int .i64 ((atM p place r e).b).x.hi, .int .i64 ((atM p place r e).b).y.lo, .int .i64 ((atM p place r e).b).y.hi, .int .i64 ((atM p place r e).b).z.lo, .int .i64 ((atM p place r e).b).z.hi], .agg #[.int .i64 ((atN p place r e).b).x.lo, .int .i64 ((atN p place r e).b).x.hi, .int .i64 ((atN p place r e).b).y.lo, .int .i64 ((atN p place r e).b).y.hi, .int .i64 ((atN p place r e).b).z.lo, .int .i64 ((atN p place r e).b).z.hi]] w (RetC c (.agg #[.int .i64 ((attR p place r e).b).x.lo, .int .i64 ((attR p place r e).b).x.hi, .int .i64 ((attR p place r e).b).y.lo, .int .i64 ((attR p place r e).b).y.hi, .int .i64 ((attR p place r e).b).z.lo, .int .i64 ((attR p place r e).b).z.hi]) (attR p place r e).e w) from cEachM_any 53 mulR (enters_of Tryz.func53 (by kernel_rfl) rfl) opm_mul c (atM p place r e).e (atM p place r e).b (atN p place r e).b w hc hf)
  clear a2 a5
  cases hz : zeroB p.oblate
  · have HZ := Lib.hid (fun w' => is_bool hz (flZero_any p.oblate w'))
    have su : S64 (atU place r e).b.z := a1.z
    have HN := Lib.hid (show atN p place r e = ⟨⟨(sh8 p r (atU place r e).b.z (atT p place r e).e).s, (sh8 p r (atU place r e).b.z (atT p place r e).e).s, (sh11 p r (atU place r e).b.z (atT p place r e).e).s⟩, (sh11 p r (atU place r e).b.z (atT p place r e).e).e⟩ by unfold atN shapeR; rw [hz]; rfl)
    rw [HN.out] at J4 J5
    clear HN
    generalize atM p place r e = M at *
    generalize attR p place r e = R at *
    generalize atS p place r e = S at *
    generalize atT p place r e = T at *
    generalize atU place r e = U at *
    clear hz a4
    generalize U.b.z = up at *
    generalize T.e = e at *
    have s1 : S64 (sh1 p r e).s := s64_do _ _
    have s2 : S64 (sh2 p r e).s := s64_do _ _
    have s3 : S64 (sh3 p r e).s := s64_do _ _
    have s4 : S64 (sh4 p r up e).s := s64_do _ _
    have s5 : S64 (sh5 p r up e).s := s64_do _ _
    have s6 : S64 (sh6 p r up e).s := s64_do _ _
    have s7 : S64 (sh7 p r up e).s := s64_do _ _
    have s9 : S64 (sh9 p r up e).s := s64_do _ _
    have s10 : S64 (sh10 p r up e).s := s64_do _ _
    have K1 := Lib.hid (fun w hc hf => show Calls Tryz.prog 45 #[.pointer (some ⟨c, 0, none⟩), .agg #[.int .i64 p.radius.lo, .int .i64 p.radius.hi], .agg #[.int .i64 r.lo, .int .i64 r.hi]] w (RetC c (.agg #[.int .i64 ((sh1 p r e).s).lo, .int .i64 ((sh1 p r e).s).hi]) (sh1 p r e).e w) from cDiv_any c e p.radius r w hc hf)
    have K2 := Lib.hid (fun w hc hf => show Calls Tryz.prog 54 #[.pointer (some ⟨c, 0, none⟩), .agg #[.int .i64 ((sh1 p r e).s).lo, .int .i64 ((sh1 p r e).s).hi]] w (RetC c (.agg #[.int .i64 ((sh2 p r e).s).lo, .int .i64 ((sh2 p r e).s).hi]) (sh2 p r e).e w) from cSquare_any c (sh1 p r e).e (sh1 p r e).s w hc hf)
    have K3 := Lib.hid (fun w hc hf => show Calls Tryz.prog 53 #[.pointer (some ⟨c, 0, none⟩), .agg #[.int .i64 p.oblate.lo, .int .i64 p.oblate.hi], .agg #[.int .i64 ((sh2 p r e).s).lo, .int .i64 ((sh2 p r e).s).hi]] w (RetC c (.agg #[.int .i64 ((sh3 p r e).s).lo, .int .i64 ((sh3 p r e).s).hi]) (sh3 p r e).e w) from cMul_any c (sh2 p r e).e p.oblate (sh2 p r e).s w hc hf)
    have K4 := Lib.hid (fun w hc hf => show Calls Tryz.prog 54 #[.pointer (some ⟨c, 0, none⟩), .agg #[.int .i64 up.lo, .int .i64 up.hi]] w (RetC c (.agg #[.int .i64 ((sh4 p r up e).s).lo, .int .i64 ((sh4 p r up e).s).hi]) (sh4 p r up e).e w) from cSquare_any c (sh3 p r e).e up w hc hf)
    have K5 := Lib.hid (fun w hc hf => show Calls Tryz.prog 133 #[.pointer (some ⟨c, 0, none⟩), .agg #[.int .i64 ((sh4 p r up e).s).lo, .int .i64 ((sh4 p r up e).s).hi], .int .i64 5] w (RetC c (.agg #[.int .i64 ((sh5 p r up e).s).lo, .int .i64 ((sh5 p r up e).s).hi]) (sh5 p r up e).e w) from cScale_any c (sh4 p r up e).e (sh4 p r up e).s 5 w hc hf)
    have K6 := Lib.hid (fun w hc hf => show Calls Tryz.prog 37 #[.pointer (some ⟨c, 0, none⟩), .agg #[.int .i64 ((wholeS 1)).lo, .int .i64 ((wholeS 1)).hi], .agg #[.int .i64 ((sh5 p r up e).s).lo, .int .i64 ((sh5 p r up e).s).hi]] w (RetC c (.agg #[.int .i64 ((sh6 p r up e).s).lo, .int .i64 ((sh6 p r up e).s).hi]) (sh6 p r up e).e w) from cSub_any c (sh5 p r up e).e (wholeS 1) (sh5 p r up e).s w hc hf)
    have K7 := Lib.hid (fun w hc hf => show Calls Tryz.prog 53 #[.pointer (some ⟨c, 0, none⟩), .agg #[.int .i64 ((sh3 p r e).s).lo, .int .i64 ((sh3 p r e).s).hi], .agg #[.int .i64 ((sh6 p r up e).s).lo, .int .i64 ((sh6 p r up e).s).hi]] w (RetC c (.agg #[.int .i64 ((sh7 p r up e).s).lo, .int .i64 ((sh7 p r up e).s).hi]) (sh7 p r up e).e w) from cMul_any c (sh6 p r up e).e (sh3 p r e).s (sh6 p r up e).s w hc hf)
    have K8 := Lib.hid (fun w hc hf => show Calls Tryz.prog 132 #[.pointer (some ⟨c, 0, none⟩), .agg #[.int .i64 ((wholeS 1)).lo, .int .i64 ((wholeS 1)).hi], .agg #[.int .i64 ((sh7 p r up e).s).lo, .int .i64 ((sh7 p r up e).s).hi]] w (RetC c (.agg #[.int .i64 ((sh8 p r up e).s).lo, .int .i64 ((sh8 p r up e).s).hi]) (sh8 p r up e).e w) from cAdd_any c (sh7 p r up e).e (wholeS 1) (sh7 p r up e).s w hc hf)
    have K9 := Lib.hid (fun w hc hf => show Calls Tryz.prog 37 #[.pointer (some ⟨c, 0, none⟩), .agg #[.int .i64 ((wholeS 3)).lo, .int .i64 ((wholeS 3)).hi], .agg #[.int .i64 ((sh5 p r up e).s).lo, .int .i64 ((sh5 p r up e).s).hi]] w (RetC c (.agg #[.int .i64 ((sh9 p r up e).s).lo, .int .i64 ((sh9 p r up e).s).hi]) (sh9 p r up e).e w) from cSub_any c (sh8 p r up e).e (wholeS 3) (sh5 p r up e).s w hc hf)
    have K10 := Lib.hid (fun w hc hf => show Calls Tryz.prog 53 #[.pointer (some ⟨c, 0, none⟩), .agg #[.int .i64 ((sh3 p r e).s).lo, .int .i64 ((sh3 p r e).s).hi], .agg #[.int .i64 ((sh9 p r up e).s).lo, .int .i64 ((sh9 p r up e).s).hi]] w (RetC c (.agg #[.int .i64 ((sh10 p r up e).s).lo, .int .i64 ((sh10 p r up e).s).hi]) (sh10 p r up e).e w) from cMul_any c (sh9 p r up e).e (sh3 p r e).s (sh9 p r up e).s w hc hf)
    have K11 := Lib.hid (fun w hc hf => show Calls Tryz.prog 132 #[.pointer (some ⟨c, 0, none⟩), .agg #[.int .i64 ((wholeS 1)).lo, .int .i64 ((wholeS 1)).hi], .agg #[.int .i64 ((sh10 p r up e).s).lo, .int .i64 ((sh10 p r up e).s).hi]] w (RetC c (.agg #[.int .i64 ((sh11 p r up e).s).lo, .int .i64 ((sh11 p r up e).s).hi]) (sh11 p r up e).e w) from cAdd_any c (sh10 p r up e).e (wholeS 1) (sh10 p r up e).s w hc hf)
    clear s1 s2 s3 s4 s5 s6 s7 s9 s10
    generalize sh1 p r e = r1 at *
    generalize sh2 p r e = r2 at *
    generalize sh3 p r e = r3 at *
    generalize sh4 p r up e = r4 at *
    generalize sh5 p r up e = r5 at *
    generalize sh6 p r up e = r6 at *
    generalize sh7 p r up e = r7 at *
    generalize sh8 p r up e = r8 at *
    generalize sh9 p r up e = r9 at *
    generalize sh10 p r up e = r10 at *
    generalize sh11 p r up e = r11 at *
    generalize wholeS 1 = W1 at *
    generalize wholeS 3 = W3 at *
    go_enter Tryz.func131, Tryz.ntmps131
    go_wp2_with (first | (go_at_call 130; (with_reducible refine call_calc (J1.out _ ?_ ?_) ?_); (· go_simp); (· go_simp); intro u1) | (go_at_call 55; (with_reducible refine call_later (KW1.out _) ?_); intro u2) | (go_at_call 129; (with_reducible refine call_later (HZ.out _) ?_); intro u3))
    refine wp_region_calc c [U.e, S.e, e] 10 [9] [6, 8] [] (fun W0 => [(9, BoxR W0 [.int .i64 0, .int .i64 0])]) [.agg #[.int .i64 S.s.lo, .int .i64 S.s.hi], .agg #[.int .i64 T.s.lo, .int .i64 T.s.hi]] [10] (by rfl) (by go_simp) (by go_simp) (by intro W0 hW0 x hx; simp only [List.mem_cons, List.not_mem_nil, or_false] at hx; rcases hx with rfl <;> first | exact goodc_box _ _ hW0 _) (by kernel_rfl) (by kernel_rfl) (by kernel_rfl) ?_
    intro pz hd0
    apply Exists.intro
    apply And.intro
    apply lexc_pure hd0 (by kernel_rfl)
    · intro uz xc; unfold opPure; go_simp; rfl
    apply lexc_pure hd0 (by kernel_rfl)
    · intro uz xc; unfold opPure; go_simp; rfl
    apply lexc_pure hd0 (by kernel_rfl)
    · intro uz xc; unfold opPure; go_simp; rfl
    apply lexc_pure hd0 (by kernel_rfl)
    · intro uz xc; unfold opPure; go_simp; rfl
    apply lexc_pure hd0 (by kernel_rfl)
    · intro uz xc; unfold opPure; go_simp; rfl
    apply lexc_pure hd0 (by kernel_rfl)
    · intro uz xc; unfold opPure; go_simp; rfl
    apply lexc_call hd0 0 (by kernel_rfl) (by rfl) (by decide)
    · intro uz hfz hF; clear hF; unfold opCall; go_simp; exact J2.out _ (by go_simp) hfz
    apply lexc_pure hd0 (by kernel_rfl)
    · intro uz xc; unfold opPure; go_simp; rfl
    apply lexc_call hd0 1 (by kernel_rfl) (by rfl) (by decide)
    · intro uz hfz hF; clear hF; unfold opCall; go_simp; exact J3.out _ (by go_simp) hfz
    apply lexc_make hd0 (by kernel_rfl)
    · intro uz xc hF; clear hF; unfold opMake; go_simp; refine (show Made (BoxR _ [.int .i64 0, .int .i64 0]) _ _ _ from ?_); exact madec_box _ _ _ _
    apply lexc_end
    rotate_left
    · rfl
    intro uz hR hD hfz
    obtain ⟨q9, e9, hB9, kB9, nB9⟩ := (show BoxR _ [.int .i64 0, .int .i64 0] (pz 9) _ from hR 9 (by decide))
    clear hR hD
    rw [e9]
    clear e9
    have oB9 := apart_oldL nB9
    have oC9 := apart_oldR nB9
    have hB9 := boxAt_cw hB9 hd0 nB9
    have kB9 := blockIn_cw kB9
    have hB9_0 := (hB9 0 _ rfl).1
    have hB9f0 := (hB9 0 _ rfl).2
    have hB9i0 : HasCell (uz.world) (q9) 0 := ⟨_, hB9_0⟩
    have hB9_1 := (hB9 1 _ rfl).1
    have hB9f1 := (hB9 1 _ rfl).2
    have hB9i1 : HasCell (uz.world) (q9) 1 := ⟨_, hB9_1⟩
    have hB9b : BlockIn (uz.world) (q9) := BlockIn.of_cell hB9_0
    clear hB9
    refine tail_store (by rfl) ?_; unfold opStore; go_simp
    refine tail_end ?_
    have nw9 : NewFor w q9 := newFor_of nB9
    go_wp2_with (first | (go_at_call 55; (with_reducible refine call_later (KW1.out _) ?_); intro u2) | (go_at_call 129; (with_reducible refine call_later (HZ.out _) ?_); intro u3))
    refine wp_region_calc c [e, r1.e, r2.e, r3.e] 14 [13] [10, 11, 12] [] (fun W0 => [(13, BoxR W0 [.int .i64 0, .int .i64 0])]) [.agg #[.int .i64 r1.s.lo, .int .i64 r1.s.hi], .agg #[.int .i64 r2.s.lo, .int .i64 r2.s.hi], .agg #[.int .i64 r3.s.lo, .int .i64 r3.s.hi]] [14] (by rfl) (by go_simp) (by go_simp) (by intro W0 hW0 x hx; simp only [List.mem_cons, List.not_mem_nil, or_false] at hx; rcases hx with rfl <;> first | exact goodc_box _ _ hW0 _) (by kernel_rfl) (by kernel_rfl) (by kernel_rfl) ?_
    intro pz hd0
    apply Exists.intro
    apply And.intro
    apply lexc_pure hd0 (by kernel_rfl)
    · intro uz xc; unfold opPure; go_simp; rfl
    apply lexc_pure hd0 (by kernel_rfl)
    · intro uz xc; unfold opPure; go_simp; rfl
    apply lexc_pure hd0 (by kernel_rfl)
    · intro uz xc; unfold opPure; go_simp; rfl
    apply lexc_pure hd0 (by kernel_rfl)
    · intro uz xc; unfold opPure; go_simp; rfl
    apply lexc_pure hd0 (by kernel_rfl)
    · intro uz xc; unfold opPure; go_simp; rfl
    apply lexc_pure hd0 (by kernel_rfl)
    · intro uz xc; unfold opPure; go_simp; rfl
    apply lexc_pure hd0 (by kernel_rfl)
    · intro uz xc; unfold opPure; go_simp; rfl
    apply lexc_pure hd0 (by kernel_rfl)
    · intro uz xc; unfold opPure; go_simp; rfl
    apply lexc_pure hd0 (by kernel_rfl)
    · intro uz xc; unfold opPure; go_simp; rfl
    apply lexc_pure hd0 (by kernel_rfl)
    · intro uz xc; unfold opPure; go_simp; rfl
    apply lexc_call hd0 0 (by kernel_rfl) (by rfl) (by decide)
    · intro uz hfz hF; clear hF; unfold opCall; go_simp; exact K1.out _ (by go_simp) hfz
    apply lexc_call hd0 1 (by kernel_rfl) (by rfl) (by decide)
    · intro uz hfz hF; clear hF; unfold opCall; go_simp; exact K2.out _ (by go_simp) hfz
    apply lexc_call hd0 2 (by kernel_rfl) (by rfl) (by decide)
    · intro uz hfz hF; clear hF; unfold opCall; go_simp; exact K3.out _ (by go_simp) hfz
    apply lexc_make hd0 (by kernel_rfl)
    · intro uz xc hF; clear hF; unfold opMake; go_simp; refine (show Made (BoxR _ [.int .i64 0, .int .i64 0]) _ _ _ from ?_); exact madec_box _ _ _ _
    apply lexc_end
    rotate_left
    · rfl
    intro uz hR hD hfz
    obtain ⟨q13, e13, hB13, kB13, nB13⟩ := (show BoxR _ [.int .i64 0, .int .i64 0] (pz 13) _ from hR 13 (by decide))
    clear hR hD
    rw [e13]
    clear e13
    have oB13 := apart_oldL nB13
    have oC13 := apart_oldR nB13
    have hB13 := boxAt_cw hB13 hd0 nB13
    have kB13 := blockIn_cw kB13
    have hB13_0 := (hB13 0 _ rfl).1
    have hB13f0 := (hB13 0 _ rfl).2
    have hB13i0 : HasCell (uz.world) (q13) 0 := ⟨_, hB13_0⟩
    have hB13_1 := (hB13 1 _ rfl).1
    have hB13f1 := (hB13 1 _ rfl).2
    have hB13i1 : HasCell (uz.world) (q13) 1 := ⟨_, hB13_1⟩
    have hB13b : BlockIn (uz.world) (q13) := BlockIn.of_cell hB13_0
    clear hB13
    refine tail_store (by rfl) ?_; unfold opStore; go_simp
    refine tail_end ?_
    have nw13 : NewFor w q13 := newFor_of nB13
    go_wp2_with (first | (go_at_call 54; (with_reducible refine call_calc (K4.out _ ?_ ?_) ?_); (· go_simp); (· go_simp); intro u4) | (go_at_call 133; (with_reducible refine call_calc (K5.out _ ?_ ?_) ?_); (· go_simp); (· go_simp); intro u5))
    refine wp_region_calc c [r5.e, r6.e, r7.e, r8.e] 11 [10] [7, 8, 9] [] (fun W0 => [(10, BoxR W0 [.int .i64 0, .int .i64 0])]) [.agg #[.int .i64 r6.s.lo, .int .i64 r6.s.hi], .agg #[.int .i64 r7.s.lo, .int .i64 r7.s.hi], .agg #[.int .i64 r8.s.lo, .int .i64 r8.s.hi]] [11] (by rfl) (by go_simp) (by go_simp) (by intro W0 hW0 x hx; simp only [List.mem_cons, List.not_mem_nil, or_false] at hx; rcases hx with rfl <;> first | exact goodc_box _ _ hW0 _) (by kernel_rfl) (by kernel_rfl) (by kernel_rfl) ?_
    intro pz hd0
    apply Exists.intro
    apply And.intro
    apply lexc_pure hd0 (by kernel_rfl)
    · intro uz xc; unfold opPure; go_simp; rfl
    apply lexc_pure hd0 (by kernel_rfl)
    · intro uz xc; unfold opPure; go_simp; rfl
    apply lexc_pure hd0 (by kernel_rfl)
    · intro uz xc; unfold opPure; go_simp; rfl
    apply lexc_pure hd0 (by kernel_rfl)
    · intro uz xc; unfold opPure; go_simp; rfl
    apply lexc_pure hd0 (by kernel_rfl)
    · intro uz xc; unfold opPure; go_simp; rfl
    apply lexc_pure hd0 (by kernel_rfl)
    · intro uz xc; unfold opPure; go_simp; rfl
    apply lexc_pure hd0 (by kernel_rfl)
    · intro uz xc; unfold opPure; go_simp; rfl
    apply lexc_call hd0 0 (by kernel_rfl) (by rfl) (by decide)
    · intro uz hfz hF; clear hF; unfold opCall; go_simp; exact K6.out _ (by go_simp) hfz
    apply lexc_call hd0 1 (by kernel_rfl) (by rfl) (by decide)
    · intro uz hfz hF; clear hF; unfold opCall; go_simp; exact K7.out _ (by go_simp) hfz
    apply lexc_call hd0 2 (by kernel_rfl) (by rfl) (by decide)
    · intro uz hfz hF; clear hF; unfold opCall; go_simp; exact K8.out _ (by go_simp) hfz
    apply lexc_make hd0 (by kernel_rfl)
    · intro uz xc hF; clear hF; unfold opMake; go_simp; refine (show Made (BoxR _ [.int .i64 0, .int .i64 0]) _ _ _ from ?_); exact madec_box _ _ _ _
    apply lexc_end
    rotate_left
    · rfl
    intro uz hR hD hfz
    obtain ⟨q10, e10, hB10, kB10, nB10⟩ := (show BoxR _ [.int .i64 0, .int .i64 0] (pz 10) _ from hR 10 (by decide))
    clear hR hD
    rw [e10]
    clear e10
    have oB10 := apart_oldL nB10
    have oC10 := apart_oldR nB10
    have hB10 := boxAt_cw hB10 hd0 nB10
    have kB10 := blockIn_cw kB10
    have hB10_0 := (hB10 0 _ rfl).1
    have hB10f0 := (hB10 0 _ rfl).2
    have hB10i0 : HasCell (uz.world) (q10) 0 := ⟨_, hB10_0⟩
    have hB10_1 := (hB10 1 _ rfl).1
    have hB10f1 := (hB10 1 _ rfl).2
    have hB10i1 : HasCell (uz.world) (q10) 1 := ⟨_, hB10_1⟩
    have hB10b : BlockIn (uz.world) (q10) := BlockIn.of_cell hB10_0
    clear hB10
    refine tail_store (by rfl) ?_; unfold opStore; go_simp
    refine tail_end ?_
    have nw10 : NewFor w q10 := newFor_of nB10
    go_wp2
    refine wp_region_calc c [r8.e, r8.e, r9.e, r10.e, r11.e] 13 [] [7, 9, 10, 11] [] (fun W0 => []) [.agg #[.int .i64 W3.lo, .int .i64 W3.hi], .agg #[.int .i64 r9.s.lo, .int .i64 r9.s.hi], .agg #[.int .i64 r10.s.lo, .int .i64 r10.s.hi], .agg #[.int .i64 r11.s.lo, .int .i64 r11.s.hi]] [13] (by rfl) (by go_simp) (by go_simp) (fun _ _ x hx => absurd hx (List.not_mem_nil)) (by kernel_rfl) (by kernel_rfl) (by kernel_rfl) ?_
    intro pz hd0
    apply Exists.intro
    apply And.intro
    apply lexc_pure hd0 (by kernel_rfl)
    · intro uz xc; unfold opPure; go_simp; rfl
    apply lexc_pure hd0 (by kernel_rfl)
    · intro uz xc; unfold opPure; go_simp; rfl
    apply lexc_pure hd0 (by kernel_rfl)
    · intro uz xc; unfold opPure; go_simp; rfl
    apply lexc_pure hd0 (by kernel_rfl)
    · intro uz xc; unfold opPure; go_simp; rfl
    apply lexc_pure hd0 (by kernel_rfl)
    · intro uz xc; unfold opPure; go_simp; rfl
    apply lexc_pure hd0 (by kernel_rfl)
    · intro uz xc; unfold opPure; go_simp; rfl
    apply lexc_pure hd0 (by kernel_rfl)
    · intro uz xc; unfold opPure; go_simp; rfl
    apply lexc_call hd0 0 (by kernel_rfl) (by rfl) (by decide)
    · intro uz hfz hF; clear hF; unfold opCall; go_simp; exact retc_of (KW3.out _) (by go_simp)
    apply lexc_pure hd0 (by kernel_rfl)
    · intro uz xc; unfold opPure; go_simp; rfl
    apply lexc_call hd0 1 (by kernel_rfl) (by rfl) (by decide)
    · intro uz hfz hF; clear hF; unfold opCall; go_simp; exact K9.out _ (by go_simp) hfz
    apply lexc_call hd0 2 (by kernel_rfl) (by rfl) (by decide)
    · intro uz hfz hF; clear hF; unfold opCall; go_simp; exact K10.out _ (by go_simp) hfz
    apply lexc_call hd0 3 (by kernel_rfl) (by rfl) (by decide)
    · intro uz hfz hF; clear hF; unfold opCall; go_simp; exact K11.out _ (by go_simp) hfz
    apply lexc_pure hd0 (by kernel_rfl)
    · intro uz xc; unfold opPure; go_simp; rfl
    apply lexc_end
    rotate_left
    · rfl
    intro uz hR hD hfz
    clear hR hD
    refine tail_store (by rfl) ?_; unfold opStore; go_simp
    refine tail_end ?_
    go_wp2
    refine wp_region_calc c [r11.e, M.e, R.e] 11 [] [8, 10] [] (fun W0 => []) [.agg #[.int .i64 M.b.x.lo, .int .i64 M.b.x.hi, .int .i64 M.b.y.lo, .int .i64 M.b.y.hi, .int .i64 M.b.z.lo, .int .i64 M.b.z.hi], .agg #[.int .i64 R.b.x.lo, .int .i64 R.b.x.hi, .int .i64 R.b.y.lo, .int .i64 R.b.y.hi, .int .i64 R.b.z.lo, .int .i64 R.b.z.hi]] [11] (by rfl) (by go_simp) (by go_simp) (fun _ _ x hx => absurd hx (List.not_mem_nil)) (by kernel_rfl) (by kernel_rfl) (by kernel_rfl) ?_
    intro pz hd0
    apply Exists.intro
    apply And.intro
    apply lexc_pure hd0 (by kernel_rfl)
    · intro uz xc; unfold opPure; go_simp; rfl
    apply lexc_pure hd0 (by kernel_rfl)
    · intro uz xc; unfold opPure; go_simp; rfl
    apply lexc_pure hd0 (by kernel_rfl)
    · intro uz xc; unfold opPure; go_simp; rfl
    apply lexc_pure hd0 (by kernel_rfl)
    · intro uz xc; unfold opPure; go_simp; rfl
    apply lexc_pure hd0 (by kernel_rfl)
    · intro uz xc; unfold opPure; go_simp; rfl
    apply lexc_pure hd0 (by kernel_rfl)
    · intro uz xc; unfold opPure; go_simp; rfl
    apply lexc_pure hd0 (by kernel_rfl)
    · intro uz xc; unfold opPure; go_simp; rfl
    apply lexc_pure hd0 (by kernel_rfl)
    · intro uz xc; unfold opPure; go_simp; rfl
    apply lexc_call hd0 0 (by kernel_rfl) (by rfl) (by decide)
    · intro uz hfz hF; clear hF; unfold opCall; go_simp; exact J4.out _ (by go_simp) hfz
    apply lexc_pure hd0 (by kernel_rfl)
    · intro uz xc; unfold opPure; go_simp; rfl
    apply lexc_call hd0 1 (by kernel_rfl) (by rfl) (by decide)
    · intro uz hfz hF; clear hF; unfold opCall; go_simp; exact J5.out _ (by go_simp) hfz
    apply lexc_end
    rotate_left
    · rfl
    intro uz hR hD hfz
    clear hR hD
    refine tail_store (by rfl) ?_; unfold opStore; go_simp
    refine tail_end ?_
    go_wp2
    refine bodyPost_ret (by (simp [results, Tryz.results131, go_sem] <;> rfl)) rfl ?_
    exact ⟨rfl, But.out (by repeat (first | with_reducible exact Hb.out | with_reducible apply But.alloc | with_reducible apply But.later | with_reducible apply But.drew | with_reducible apply But.put | with_reducible apply But.store)) Hc.out (by go_simp)⟩
  · have HZ := Lib.hid (fun w' => is_bool hz (flZero_any p.oblate w'))
    have HN := Lib.hid (show atN p place r e = ⟨⟨wholeS 1, wholeS 1, wholeS 1⟩, (atT p place r e).e⟩ by unfold atN shapeR; rw [hz]; rfl)
    rw [HN.out] at J4 J5
    clear hz HN a4
    generalize atM p place r e = M at *
    generalize attR p place r e = R at *
    generalize atS p place r e = S at *
    generalize atT p place r e = T at *
    generalize atU place r e = U at *
    generalize wholeS 1 = W1 at *
    go_enter Tryz.func131, Tryz.ntmps131
    go_wp2_with (first | (go_at_call 130; (with_reducible refine call_calc (J1.out _ ?_ ?_) ?_); (· go_simp); (· go_simp); intro u1) | (go_at_call 55; (with_reducible refine call_later (KW1.out _) ?_); intro u2) | (go_at_call 129; (with_reducible refine call_later (HZ.out _) ?_); intro u3))
    refine wp_region_calc c [U.e, S.e, T.e] 10 [9] [6, 8] [] (fun W0 => [(9, BoxR W0 [.int .i64 0, .int .i64 0])]) [.agg #[.int .i64 S.s.lo, .int .i64 S.s.hi], .agg #[.int .i64 T.s.lo, .int .i64 T.s.hi]] [10] (by rfl) (by go_simp) (by go_simp) (by intro W0 hW0 x hx; simp only [List.mem_cons, List.not_mem_nil, or_false] at hx; rcases hx with rfl <;> first | exact goodc_box _ _ hW0 _) (by kernel_rfl) (by kernel_rfl) (by kernel_rfl) ?_
    intro pz hd0
    apply Exists.intro
    apply And.intro
    apply lexc_pure hd0 (by kernel_rfl)
    · intro uz xc; unfold opPure; go_simp; rfl
    apply lexc_pure hd0 (by kernel_rfl)
    · intro uz xc; unfold opPure; go_simp; rfl
    apply lexc_pure hd0 (by kernel_rfl)
    · intro uz xc; unfold opPure; go_simp; rfl
    apply lexc_pure hd0 (by kernel_rfl)
    · intro uz xc; unfold opPure; go_simp; rfl
    apply lexc_pure hd0 (by kernel_rfl)
    · intro uz xc; unfold opPure; go_simp; rfl
    apply lexc_pure hd0 (by kernel_rfl)
    · intro uz xc; unfold opPure; go_simp; rfl
    apply lexc_call hd0 0 (by kernel_rfl) (by rfl) (by decide)
    · intro uz hfz hF; clear hF; unfold opCall; go_simp; exact J2.out _ (by go_simp) hfz
    apply lexc_pure hd0 (by kernel_rfl)
    · intro uz xc; unfold opPure; go_simp; rfl
    apply lexc_call hd0 1 (by kernel_rfl) (by rfl) (by decide)
    · intro uz hfz hF; clear hF; unfold opCall; go_simp; exact J3.out _ (by go_simp) hfz
    apply lexc_make hd0 (by kernel_rfl)
    · intro uz xc hF; clear hF; unfold opMake; go_simp; refine (show Made (BoxR _ [.int .i64 0, .int .i64 0]) _ _ _ from ?_); exact madec_box _ _ _ _
    apply lexc_end
    rotate_left
    · rfl
    intro uz hR hD hfz
    obtain ⟨q9, e9, hB9, kB9, nB9⟩ := (show BoxR _ [.int .i64 0, .int .i64 0] (pz 9) _ from hR 9 (by decide))
    clear hR hD
    rw [e9]
    clear e9
    have oB9 := apart_oldL nB9
    have oC9 := apart_oldR nB9
    have hB9 := boxAt_cw hB9 hd0 nB9
    have kB9 := blockIn_cw kB9
    have hB9_0 := (hB9 0 _ rfl).1
    have hB9f0 := (hB9 0 _ rfl).2
    have hB9i0 : HasCell (uz.world) (q9) 0 := ⟨_, hB9_0⟩
    have hB9_1 := (hB9 1 _ rfl).1
    have hB9f1 := (hB9 1 _ rfl).2
    have hB9i1 : HasCell (uz.world) (q9) 1 := ⟨_, hB9_1⟩
    have hB9b : BlockIn (uz.world) (q9) := BlockIn.of_cell hB9_0
    clear hB9
    refine tail_store (by rfl) ?_; unfold opStore; go_simp
    refine tail_end ?_
    have nw9 : NewFor w q9 := newFor_of nB9
    go_wp2_with (first | (go_at_call 55; (with_reducible refine call_later (KW1.out _) ?_); intro u2) | (go_at_call 129; (with_reducible refine call_later (HZ.out _) ?_); intro u3))
    refine wp_region_calc c [T.e, M.e, R.e] 11 [] [8, 10] [] (fun W0 => []) [.agg #[.int .i64 M.b.x.lo, .int .i64 M.b.x.hi, .int .i64 M.b.y.lo, .int .i64 M.b.y.hi, .int .i64 M.b.z.lo, .int .i64 M.b.z.hi], .agg #[.int .i64 R.b.x.lo, .int .i64 R.b.x.hi, .int .i64 R.b.y.lo, .int .i64 R.b.y.hi, .int .i64 R.b.z.lo, .int .i64 R.b.z.hi]] [11] (by rfl) (by go_simp) (by go_simp) (fun _ _ x hx => absurd hx (List.not_mem_nil)) (by kernel_rfl) (by kernel_rfl) (by kernel_rfl) ?_
    intro pz hd0
    apply Exists.intro
    apply And.intro
    apply lexc_pure hd0 (by kernel_rfl)
    · intro uz xc; unfold opPure; go_simp; rfl
    apply lexc_pure hd0 (by kernel_rfl)
    · intro uz xc; unfold opPure; go_simp; rfl
    apply lexc_pure hd0 (by kernel_rfl)
    · intro uz xc; unfold opPure; go_simp; rfl
    apply lexc_pure hd0 (by kernel_rfl)
    · intro uz xc; unfold opPure; go_simp; rfl
    apply lexc_pure hd0 (by kernel_rfl)
    · intro uz xc; unfold opPure; go_simp; rfl
    apply lexc_pure hd0 (by kernel_rfl)
    · intro uz xc; unfold opPure; go_simp; rfl
    apply lexc_pure hd0 (by kernel_rfl)
    · intro uz xc; unfold opPure; go_simp; rfl
    apply lexc_pure hd0 (by kernel_rfl)
    · intro uz xc; unfold opPure; go_simp; rfl
    apply lexc_call hd0 0 (by kernel_rfl) (by rfl) (by decide)
    · intro uz hfz hF; clear hF; unfold opCall; go_simp; exact J4.out _ (by go_simp) hfz
    apply lexc_pure hd0 (by kernel_rfl)
    · intro uz xc; unfold opPure; go_simp; rfl
    apply lexc_call hd0 1 (by kernel_rfl) (by rfl) (by decide)
    · intro uz hfz hF; clear hF; unfold opCall; go_simp; exact J5.out _ (by go_simp) hfz
    apply lexc_end
    rotate_left
    · rfl
    intro uz hR hD hfz
    clear hR hD
    refine tail_store (by rfl) ?_; unfold opStore; go_simp
    refine tail_end ?_
    go_wp2
    refine bodyPost_ret (by (simp [results, Tryz.results131, go_sem] <;> rfl)) rfl ?_
    exact ⟨rfl, But.out (by repeat (first | with_reducible exact Hb.out | with_reducible apply But.alloc | with_reducible apply But.later | with_reducible apply But.drew | with_reducible apply But.put | with_reducible apply But.store)) Hc.out (by go_simp)⟩
end Go.Proofs.YtnedbhdokljpcaaGreat
