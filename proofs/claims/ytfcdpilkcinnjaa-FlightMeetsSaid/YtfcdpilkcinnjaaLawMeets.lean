/-
  FlightMeets: for every planet, arc (a table of at most 70 points), length, state and part: where one step, and two steps that are as long together, end without an error, they come to states that have something in common. No condition.
-/
import Derived.Test.YtfcdpilkcinnjaaLaw03W
import Derived.Deep.DeepCutAuto
import Derived.LoopN
import Derived.Test.YtfcdpilkcinnjaaRows
namespace Go.Proofs.Ytfcdpilkcinnjaa
open Go.RowKit Go.ChangeShapes Go.WideShapes Go.ChangeAt Go.Deep
set_option maxRecDepth 100000
set_option maxHeartbeats 16000000
set_option linter.unusedSimpArgs false
theorem tdiv_half (h : Int) : (0 < h ∧ 0 ≤ h.tdiv 2 ∧ h.tdiv 2 < h) ∨ (h < 0 ∧ h < h.tdiv 2 ∧ h.tdiv 2 ≤ 0) ∨ (h = 0 ∧ h.tdiv 2 = 0) := by
  rcases Int.lt_trichotomy h 0 with k | k | k
  · right; left
    rw [show h.tdiv 2 = -((-h).tdiv 2) by rw [Int.neg_tdiv]; omega, Int.tdiv_eq_ediv_of_nonneg (by omega)]
    omega
  · subst k
    exact .inr (.inr ⟨rfl, rfl⟩)
  · left
    rw [Int.tdiv_eq_ediv_of_nonneg (by omega)]
    omega
theorem wrap_i64 (x : Int) (h1 : -9223372036854775808 ≤ x) (h2 : x ≤ 9223372036854775807) : IntKind.i64.wrap x = x := by simp [IntKind.wrap, IntKind.bits, IntKind.signed]; omega
theorem wp_raw {P : Program} {c : Code} {Q : Exit → Act → World → Prop} {a : Act} {w : World} (k : ∀ Y, Y = w → c.wp P Q a Y) : c.wp P Q a w := k w rfl
theorem meets_rest (p : Planet) (a : Arc) (s : State) (h part q : Int) (N Q R : StRes) (J J2 : SRes) (w wc : World) (bP bM bS bN : Nat) (g : Grew w wc) (rP : RowIs wc bP 28 [.int .i64 p.mu.lo, .int .i64 p.mu.hi, .int .i64 p.radius.lo, .int .i64 p.radius.hi, .int .i64 p.oblate.lo, .int .i64 p.oblate.hi, .int .i64 p.spin.lo, .int .i64 p.spin.hi, .int .i64 p.pull.x.lo, .int .i64 p.pull.x.hi, .int .i64 p.pull.y.lo, .int .i64 p.pull.y.hi, .int .i64 p.pull.z.lo, .int .i64 p.pull.z.hi]) (rM : RowIs wc bM 33 [.int .i64 a.time, .int .i64 a.step, .int .i64 a.thrust.lo, .int .i64 a.thrust.hi, .int .i64 a.flow.lo, .int .i64 a.flow.hi, .int .i64 a.dir.x.lo, .int .i64 a.dir.x.hi, .int .i64 a.dir.y.lo, .int .i64 a.dir.y.hi, .int .i64 a.dir.z.lo, .int .i64 a.dir.z.hi, .slice a.drag.ao a.drag.n a.drag.cap, .int .i64 a.drop.lo, .int .i64 a.drop.hi, .int .i64 h]) (rS : RowIs wc bS 35 [.int .i64 s.t, .int .i64 s.p.x.lo, .int .i64 s.p.x.hi, .int .i64 s.p.y.lo, .int .i64 s.p.y.hi, .int .i64 s.p.z.lo, .int .i64 s.p.z.hi, .int .i64 s.v.x.lo, .int .i64 s.v.x.hi, .int .i64 s.v.y.lo, .int .i64 s.v.y.hi, .int .i64 s.v.z.lo, .int .i64 s.v.z.hi, .int .i64 s.m.lo, .int .i64 s.m.hi]) (rN : RowIs wc bN 35 [.int .i64 N.s.t, .int .i64 N.s.p.x.lo, .int .i64 N.s.p.x.hi, .int .i64 N.s.p.y.lo, .int .i64 N.s.p.y.hi, .int .i64 N.s.p.z.lo, .int .i64 N.s.p.z.hi, .int .i64 N.s.v.x.lo, .int .i64 N.s.v.x.hi, .int .i64 N.s.v.y.lo, .int .i64 N.s.v.y.hi, .int .i64 N.s.v.z.lo, .int .i64 N.s.v.z.hi, .int .i64 N.s.m.lo, .int .i64 N.s.m.hi])
    (wq : IntKind.i64.wrap (part.tdiv 2) = q) (_wq2 : IntKind.i64.wrap q = q) (wdq : IntKind.i64.wrap (h - q) = h - q) (tj : (J.e == 0) = true) (HF0 : Q.e = 0 → R.e = 0 → J2.e = 0)
    (H4' : ∀ w', Grew w w' → Calls Try.prog 9 #[.agg #[.int .i64 p.mu.lo, .int .i64 p.mu.hi, .int .i64 p.radius.lo, .int .i64 p.radius.hi, .int .i64 p.oblate.lo, .int .i64 p.oblate.hi, .int .i64 p.spin.lo, .int .i64 p.spin.hi, .int .i64 p.pull.x.lo, .int .i64 p.pull.x.hi, .int .i64 p.pull.y.lo, .int .i64 p.pull.y.hi, .int .i64 p.pull.z.lo, .int .i64 p.pull.z.hi], .agg #[.int .i64 a.time, .int .i64 a.step, .int .i64 a.thrust.lo, .int .i64 a.thrust.hi, .int .i64 a.flow.lo, .int .i64 a.flow.hi, .int .i64 a.dir.x.lo, .int .i64 a.dir.x.hi, .int .i64 a.dir.y.lo, .int .i64 a.dir.y.hi, .int .i64 a.dir.z.lo, .int .i64 a.dir.z.hi, .slice a.drag.ao a.drag.n a.drag.cap, .int .i64 a.drop.lo, .int .i64 a.drop.hi], .agg #[.int .i64 s.t, .int .i64 s.p.x.lo, .int .i64 s.p.x.hi, .int .i64 s.p.y.lo, .int .i64 s.p.y.hi, .int .i64 s.p.z.lo, .int .i64 s.p.z.hi, .int .i64 s.v.x.lo, .int .i64 s.v.x.hi, .int .i64 s.v.y.lo, .int .i64 s.v.y.hi, .int .i64 s.v.z.lo, .int .i64 s.v.z.hi, .int .i64 s.m.lo, .int .i64 s.m.hi], .int .i64 q] w' (RetS3 Q w'))
    (H5' : ∀ w', Grew w w' → Calls Try.prog 9 #[.agg #[.int .i64 p.mu.lo, .int .i64 p.mu.hi, .int .i64 p.radius.lo, .int .i64 p.radius.hi, .int .i64 p.oblate.lo, .int .i64 p.oblate.hi, .int .i64 p.spin.lo, .int .i64 p.spin.hi, .int .i64 p.pull.x.lo, .int .i64 p.pull.x.hi, .int .i64 p.pull.y.lo, .int .i64 p.pull.y.hi, .int .i64 p.pull.z.lo, .int .i64 p.pull.z.hi], .agg #[.int .i64 a.time, .int .i64 a.step, .int .i64 a.thrust.lo, .int .i64 a.thrust.hi, .int .i64 a.flow.lo, .int .i64 a.flow.hi, .int .i64 a.dir.x.lo, .int .i64 a.dir.x.hi, .int .i64 a.dir.y.lo, .int .i64 a.dir.y.hi, .int .i64 a.dir.z.lo, .int .i64 a.dir.z.hi, .slice a.drag.ao a.drag.n a.drag.cap, .int .i64 a.drop.lo, .int .i64 a.drop.hi], .agg #[.int .i64 Q.s.t, .int .i64 Q.s.p.x.lo, .int .i64 Q.s.p.x.hi, .int .i64 Q.s.p.y.lo, .int .i64 Q.s.p.y.hi, .int .i64 Q.s.p.z.lo, .int .i64 Q.s.p.z.hi, .int .i64 Q.s.v.x.lo, .int .i64 Q.s.v.x.hi, .int .i64 Q.s.v.y.lo, .int .i64 Q.s.v.y.hi, .int .i64 Q.s.v.z.lo, .int .i64 Q.s.v.z.hi, .int .i64 Q.s.m.lo, .int .i64 Q.s.m.hi], .int .i64 (h - q)] w' (RetS3 R w'))
    (HJ2' : ∀ w', Calls Try.prog 11 #[.agg #[.int .i64 N.s.t, .int .i64 N.s.p.x.lo, .int .i64 N.s.p.x.hi, .int .i64 N.s.p.y.lo, .int .i64 N.s.p.y.hi, .int .i64 N.s.p.z.lo, .int .i64 N.s.p.z.hi, .int .i64 N.s.v.x.lo, .int .i64 N.s.v.x.hi, .int .i64 N.s.v.y.lo, .int .i64 N.s.v.y.hi, .int .i64 N.s.v.z.lo, .int .i64 N.s.v.z.hi, .int .i64 N.s.m.lo, .int .i64 N.s.m.hi], .agg #[.int .i64 R.s.t, .int .i64 R.s.p.x.lo, .int .i64 R.s.p.x.hi, .int .i64 R.s.p.y.lo, .int .i64 R.s.p.y.hi, .int .i64 R.s.p.z.lo, .int .i64 R.s.p.z.hi, .int .i64 R.s.v.x.lo, .int .i64 R.s.v.x.hi, .int .i64 R.s.v.y.lo, .int .i64 R.s.v.y.hi, .int .i64 R.s.v.z.lo, .int .i64 R.s.v.z.hi, .int .i64 R.s.m.lo, .int .i64 R.s.m.hi]] w' (RetSt J2 w'))
    (u0 u1 u2 u7 u8 u11 u12 u13 u14 u15 u16 u17 u18 u19 u21 u22 u23 u24 u25 u26 u27 u28 u29 u30 u31 u32 u33 u34 u35 u36 u37 u38 u39 u40 u41 u42 u43 u44 u45 u46 u47 u48 u49 u50 u51 u52 u53 u54 u55 u56 u57 u58 u59 u60 u61 u62 u63 u64 u65 u66 u67 u68 u69 u70 u71 u72 u73 u74 u75 u76 u77 u78 u79 u80 u81 u82 u83 u84 u85 u86 u87 u88 u89 u90 u91 u92 u93 u94 u95 u96 u97 u98 u99 u100 u101 u102 u103 u104 u105 u106 u107 u108 u109 u110 u111 u112 u113 u114 u115 u116 u117 u118 u119 u120 u121 u122 u123 u124 u125 u126 u127 u128 u129 u130 u131 u132 u133 u134 u135 u136 u137 u138 u139 u140 u141 u142 u143 u144 u145 u146 u147 u148 u149 u150 u151 u152 u153 u154 u155 u156 u157 u158 u159 u160 u161 u162 u163 u164 u165 u166 u167 u168 u169 u170 u171 u172 u173 u174 u175 u176 u177 u178 u179 u180 u181 u182 u183 u184 u185 u186 u187 u188 u189 u190 u191 u192 u193 u194 u195 : Value) :
    (tlC (tlC (tlC (tlC (tlC (tlC (tlC (tlC (tlC (tlC (Try.f4.body.getD .skip))))))))))).wp Try.prog (bodyPost Try.prog Try.f4 (fun e w' => e = .returned (.bool true) ∧ Grew w w')) { tmps := #[u0, u1, u2, .int .i64 part, .pointer (some ⟨bP, 0, none⟩), .pointer (some ⟨bM, 0, none⟩), .pointer (some ⟨bS, 0, none⟩), u7, u8, .bool true, .pointer (some ⟨bN, 0, none⟩), u11, u12, u13, u14, u15, u16, u17, u18, u19, .int .i64 J.e, u21, u22, u23, u24, u25, u26, u27, u28, u29, u30, u31, u32, u33, u34, u35, u36, u37, u38, u39, u40, u41, u42, u43, u44, u45, u46, u47, u48, u49, u50, u51, u52, u53, u54, u55, u56, u57, u58, u59, u60, u61, u62, u63, u64, u65, u66, u67, u68, u69, u70, u71, u72, u73, u74, u75, u76, u77, u78, u79, u80, u81, u82, u83, u84, u85, u86, u87, u88, u89, u90, u91, u92, u93, u94, u95, u96, u97, u98, u99, u100, u101, u102, u103, u104, u105, u106, u107, u108, u109, u110, u111, u112, u113, u114, u115, u116, u117, u118, u119, u120, u121, u122, u123, u124, u125, u126, u127, u128, u129, u130, u131, u132, u133, u134, u135, u136, u137, u138, u139, u140, u141, u142, u143, u144, u145, u146, u147, u148, u149, u150, u151, u152, u153, u154, u155, u156, u157, u158, u159, u160, u161, u162, u163, u164, u165, u166, u167, u168, u169, u170, u171, u172, u173, u174, u175, u176, u177, u178, u179, u180, u181, u182, u183, u184, u185, u186, u187, u188, u189, u190, u191, u192, u193, u194, u195], defers := [] } wc := by
  have H4 := Lib.hid H4'
  have H5 := Lib.hid H5'
  have HJ2 := Lib.hid HJ2'
  have HF := Lib.hid HF0
  have iP := rP.blockIn
  have iM := rM.blockIn
  have iS := rS.blockIn
  have iN := rN.blockIn
  clear H4' H5' HJ2' HF0
  obtain ⟨Y, rfl⟩ := later_of g
  clear g
  conv => arg 2; dsimp only [tlC, Try.f4, Option.getD]
  by_cases z1 : Q.e = 0
  rotate_left
  · have y1 : (Q.e != 0) = true := by simp [z1]
    clear z1 HF
    go_wp2_with (first | (go_at_call 9; (with_reducible refine (H4.out _ ?_).mono ?_); (· exact gwr); rintro en w8 ⟨rfl, hg⟩; obtain ⟨u4, rfl⟩ := later_of hg; clear hg) | (go_at_call 9; (with_reducible refine (H5.out _ ?_).mono ?_); (· exact gwr); rintro en w9 ⟨rfl, hg⟩; obtain ⟨u5, rfl⟩ := later_of hg; clear hg) | (go_at_call 11; (with_reducible refine (HJ2.out _).mono ?_); rintro en wj ⟨rfl, hg⟩; obtain ⟨uj2, rfl⟩ := later_of hg; clear hg) | ((with_reducible refine wpList_load_rng ?_ ?_ ?_ ?_ ?_ ?_ ?_ ?_ ?_ ?_ ?_ ?_); rotate_left 6; (· rfl); (· rfl); (· rfl); (· infer_instance); (· infer_instance)) | ((with_reducible refine wpList_load_is ?_ ?_ ?_ ?_ ?_ ?_ ?_ ?_ ?_ ?_ ?_ ?_ ?_); rotate_left 6; (· rfl); (· rfl); (· rfl); (· infer_instance); (· infer_instance); (· rfl)) | ((with_reducible refine wpList_store_fresh ?_ ?_ ?_ ?_ ?_ ?_ ?_ ?_ ?_ ?_ ?_ ?_ ?_ ?_ ?_ ?_ ?_); rotate_left 5; (· rfl); (· rfl); (· rfl); (· rfl); (· rfl); (· infer_instance); (· infer_instance); (· infer_instance); (· infer_instance)) | ((with_reducible refine wpList_store_is ?_ ?_ ?_ ?_ ?_ ?_ ?_ ?_ ?_ ?_ ?_ ?_ ?_ ?_ ?_ ?_ ?_); rotate_left 7; (· rfl); (· rfl); (· rfl); (· rfl); (· rfl); (· infer_instance); (· infer_instance); (· infer_instance); (· infer_instance)))
    go_ret
    exact ⟨rfl, gwr⟩
  have y1 : (Q.e != 0) = false := by simp [z1]
  by_cases z2 : R.e = 0
  rotate_left
  · have y2 : (R.e != 0) = true := by simp [z2]
    clear z1 z2 HF
    go_wp2_with (first | (go_at_call 9; (with_reducible refine (H4.out _ ?_).mono ?_); (· exact gwr); rintro en w8 ⟨rfl, hg⟩; obtain ⟨u4, rfl⟩ := later_of hg; clear hg) | (go_at_call 9; (with_reducible refine (H5.out _ ?_).mono ?_); (· exact gwr); rintro en w9 ⟨rfl, hg⟩; obtain ⟨u5, rfl⟩ := later_of hg; clear hg) | (go_at_call 11; (with_reducible refine (HJ2.out _).mono ?_); rintro en wj ⟨rfl, hg⟩; obtain ⟨uj2, rfl⟩ := later_of hg; clear hg) | ((with_reducible refine wpList_load_rng ?_ ?_ ?_ ?_ ?_ ?_ ?_ ?_ ?_ ?_ ?_ ?_); rotate_left 6; (· rfl); (· rfl); (· rfl); (· infer_instance); (· infer_instance)) | ((with_reducible refine wpList_load_is ?_ ?_ ?_ ?_ ?_ ?_ ?_ ?_ ?_ ?_ ?_ ?_ ?_); rotate_left 6; (· rfl); (· rfl); (· rfl); (· infer_instance); (· infer_instance); (· rfl)) | ((with_reducible refine wpList_store_fresh ?_ ?_ ?_ ?_ ?_ ?_ ?_ ?_ ?_ ?_ ?_ ?_ ?_ ?_ ?_ ?_ ?_); rotate_left 5; (· rfl); (· rfl); (· rfl); (· rfl); (· rfl); (· infer_instance); (· infer_instance); (· infer_instance); (· infer_instance)) | ((with_reducible refine wpList_store_is ?_ ?_ ?_ ?_ ?_ ?_ ?_ ?_ ?_ ?_ ?_ ?_ ?_ ?_ ?_ ?_ ?_); rotate_left 7; (· rfl); (· rfl); (· rfl); (· rfl); (· rfl); (· infer_instance); (· infer_instance); (· infer_instance); (· infer_instance)))
    go_ret
    exact ⟨rfl, gwr⟩
  have y2 : (R.e != 0) = false := by simp [z2]
  have y3 : (J2.e == 0) = true := by simp [HF.out z1 z2]
  clear z1 z2 HF
  go_wp2_with (first | (go_at_call 9; (with_reducible refine (H4.out _ ?_).mono ?_); (· exact gwr); rintro en w8 ⟨rfl, hg⟩; obtain ⟨u4, rfl⟩ := later_of hg; clear hg) | (go_at_call 9; (with_reducible refine (H5.out _ ?_).mono ?_); (· exact gwr); rintro en w9 ⟨rfl, hg⟩; obtain ⟨u5, rfl⟩ := later_of hg; clear hg) | (go_at_call 11; (with_reducible refine (HJ2.out _).mono ?_); rintro en wj ⟨rfl, hg⟩; obtain ⟨uj2, rfl⟩ := later_of hg; clear hg) | ((with_reducible refine wpList_load_rng ?_ ?_ ?_ ?_ ?_ ?_ ?_ ?_ ?_ ?_ ?_ ?_); rotate_left 6; (· rfl); (· rfl); (· rfl); (· infer_instance); (· infer_instance)) | ((with_reducible refine wpList_load_is ?_ ?_ ?_ ?_ ?_ ?_ ?_ ?_ ?_ ?_ ?_ ?_ ?_); rotate_left 6; (· rfl); (· rfl); (· rfl); (· infer_instance); (· infer_instance); (· rfl)) | ((with_reducible refine wpList_store_fresh ?_ ?_ ?_ ?_ ?_ ?_ ?_ ?_ ?_ ?_ ?_ ?_ ?_ ?_ ?_ ?_ ?_); rotate_left 5; (· rfl); (· rfl); (· rfl); (· rfl); (· rfl); (· infer_instance); (· infer_instance); (· infer_instance); (· infer_instance)) | ((with_reducible refine wpList_store_is ?_ ?_ ?_ ?_ ?_ ?_ ?_ ?_ ?_ ?_ ?_ ?_ ?_ ?_ ?_ ?_ ?_); rotate_left 7; (· rfl); (· rfl); (· rfl); (· rfl); (· rfl); (· infer_instance); (· infer_instance); (· infer_instance); (· infer_instance)))
  go_ret
  exact ⟨rfl, gwr⟩
theorem meets_l (p : Planet) (a : Arc) (h : Int) (l : List Pt) (s : State) (part : Int) (_hpt : I64 part) [hp : Pl64 p] [hs : St64 s] [hh : S64 (⟨h, h⟩ : Sp)] [hat : S64 a.thrust] [haf : S64 a.flow] [had : B64 a.dir] (w : World) (hd : DragAt w a l) (hl : a.longB = true) :
    Calls Try.prog 4 #[.agg #[.int .i64 p.mu.lo, .int .i64 p.mu.hi, .int .i64 p.radius.lo, .int .i64 p.radius.hi, .int .i64 p.oblate.lo, .int .i64 p.oblate.hi, .int .i64 p.spin.lo, .int .i64 p.spin.hi, .int .i64 p.pull.x.lo, .int .i64 p.pull.x.hi, .int .i64 p.pull.y.lo, .int .i64 p.pull.y.hi, .int .i64 p.pull.z.lo, .int .i64 p.pull.z.hi], .agg #[.int .i64 a.time, .int .i64 a.step, .int .i64 a.thrust.lo, .int .i64 a.thrust.hi, .int .i64 a.flow.lo, .int .i64 a.flow.hi, .int .i64 a.dir.x.lo, .int .i64 a.dir.x.hi, .int .i64 a.dir.y.lo, .int .i64 a.dir.y.hi, .int .i64 a.dir.z.lo, .int .i64 a.dir.z.hi, .slice a.drag.ao a.drag.n a.drag.cap, .int .i64 a.drop.lo, .int .i64 a.drop.hi, .int .i64 h], .agg #[.int .i64 s.t, .int .i64 s.p.x.lo, .int .i64 s.p.x.hi, .int .i64 s.p.y.lo, .int .i64 s.p.y.hi, .int .i64 s.p.z.lo, .int .i64 s.p.z.hi, .int .i64 s.v.x.lo, .int .i64 s.v.x.hi, .int .i64 s.v.y.lo, .int .i64 s.v.y.hi, .int .i64 s.v.z.lo, .int .i64 s.v.z.hi, .int .i64 s.m.lo, .int .i64 s.m.hi], .int .i64 part] w fun e w' => e = .returned (.bool true) ∧ Grew w w' := by
  have H1 := Lib.hid (fun w' (g : Grew w w') => show Calls Try.prog 9 #[.agg #[.int .i64 p.mu.lo, .int .i64 p.mu.hi, .int .i64 p.radius.lo, .int .i64 p.radius.hi, .int .i64 p.oblate.lo, .int .i64 p.oblate.hi, .int .i64 p.spin.lo, .int .i64 p.spin.hi, .int .i64 p.pull.x.lo, .int .i64 p.pull.x.hi, .int .i64 p.pull.y.lo, .int .i64 p.pull.y.hi, .int .i64 p.pull.z.lo, .int .i64 p.pull.z.hi], .agg #[.int .i64 a.time, .int .i64 a.step, .int .i64 a.thrust.lo, .int .i64 a.thrust.hi, .int .i64 a.flow.lo, .int .i64 a.flow.hi, .int .i64 a.dir.x.lo, .int .i64 a.dir.x.hi, .int .i64 a.dir.y.lo, .int .i64 a.dir.y.hi, .int .i64 a.dir.z.lo, .int .i64 a.dir.z.hi, .slice a.drag.ao a.drag.n a.drag.cap, .int .i64 a.drop.lo, .int .i64 a.drop.hi], .agg #[.int .i64 s.t, .int .i64 s.p.x.lo, .int .i64 s.p.x.hi, .int .i64 s.p.y.lo, .int .i64 s.p.y.hi, .int .i64 s.p.z.lo, .int .i64 s.p.z.hi, .int .i64 s.v.x.lo, .int .i64 s.v.x.hi, .int .i64 s.v.y.lo, .int .i64 s.v.y.hi, .int .i64 s.v.z.lo, .int .i64 s.v.z.hi, .int .i64 s.m.lo, .int .i64 s.m.hi], .int .i64 h] w' (RetS3 (stepRR p a l s h) w') from flStepE_any look_any p a l s h w' (hd.grew g))
  have HLong := Lib.hid (fun v w h => l3Long_one a v w h)
  have hi := hh.lo
  unfold I64 at hi _hpt
  simp only at hi
  obtain ⟨g, hgd⟩ : ∃ g, h.tdiv 2 = g := ⟨_, rfl⟩
  have ht := tdiv_half h
  rw [hgd] at ht
  have wg : IntKind.i64.wrap (h.tdiv 2) = g := by rw [hgd]; exact wrap_i64 _ (by omega) (by omega)
  have wg2 : IntKind.i64.wrap g = g := wrap_i64 _ (by omega) (by omega)
  have wd : IntKind.i64.wrap (h - g) = h - g := wrap_i64 _ (by omega) (by omega)
  have hG : S64 (⟨g, g⟩ : Sp) := ⟨by unfold I64; simp only; omega, by unfold I64; simp only; omega⟩
  have hR : S64 (⟨h - g, h - g⟩ : Sp) := ⟨by unfold I64; simp only; omega, by unfold I64; simp only; omega⟩
  have H2 := Lib.hid (fun w' (g' : Grew w w') => show Calls Try.prog 9 #[.agg #[.int .i64 p.mu.lo, .int .i64 p.mu.hi, .int .i64 p.radius.lo, .int .i64 p.radius.hi, .int .i64 p.oblate.lo, .int .i64 p.oblate.hi, .int .i64 p.spin.lo, .int .i64 p.spin.hi, .int .i64 p.pull.x.lo, .int .i64 p.pull.x.hi, .int .i64 p.pull.y.lo, .int .i64 p.pull.y.hi, .int .i64 p.pull.z.lo, .int .i64 p.pull.z.hi], .agg #[.int .i64 a.time, .int .i64 a.step, .int .i64 a.thrust.lo, .int .i64 a.thrust.hi, .int .i64 a.flow.lo, .int .i64 a.flow.hi, .int .i64 a.dir.x.lo, .int .i64 a.dir.x.hi, .int .i64 a.dir.y.lo, .int .i64 a.dir.y.hi, .int .i64 a.dir.z.lo, .int .i64 a.dir.z.hi, .slice a.drag.ao a.drag.n a.drag.cap, .int .i64 a.drop.lo, .int .i64 a.drop.hi], .agg #[.int .i64 s.t, .int .i64 s.p.x.lo, .int .i64 s.p.x.hi, .int .i64 s.p.y.lo, .int .i64 s.p.y.hi, .int .i64 s.p.z.lo, .int .i64 s.p.z.hi, .int .i64 s.v.x.lo, .int .i64 s.v.x.hi, .int .i64 s.v.y.lo, .int .i64 s.v.y.hi, .int .i64 s.v.z.lo, .int .i64 s.v.z.hi, .int .i64 s.m.lo, .int .i64 s.m.hi], .int .i64 g] w' (RetS3 (stepRR p a l s g) w') from flStepE_any look_any p a l s g w' (hd.grew g'))
  have H3 := Lib.hid (fun w' (g' : Grew w w') => show Calls Try.prog 9 #[.agg #[.int .i64 p.mu.lo, .int .i64 p.mu.hi, .int .i64 p.radius.lo, .int .i64 p.radius.hi, .int .i64 p.oblate.lo, .int .i64 p.oblate.hi, .int .i64 p.spin.lo, .int .i64 p.spin.hi, .int .i64 p.pull.x.lo, .int .i64 p.pull.x.hi, .int .i64 p.pull.y.lo, .int .i64 p.pull.y.hi, .int .i64 p.pull.z.lo, .int .i64 p.pull.z.hi], .agg #[.int .i64 a.time, .int .i64 a.step, .int .i64 a.thrust.lo, .int .i64 a.thrust.hi, .int .i64 a.flow.lo, .int .i64 a.flow.hi, .int .i64 a.dir.x.lo, .int .i64 a.dir.x.hi, .int .i64 a.dir.y.lo, .int .i64 a.dir.y.hi, .int .i64 a.dir.z.lo, .int .i64 a.dir.z.hi, .slice a.drag.ao a.drag.n a.drag.cap, .int .i64 a.drop.lo, .int .i64 a.drop.hi], .agg #[.int .i64 ((stepRR p a l s g).s).t, .int .i64 ((stepRR p a l s g).s).p.x.lo, .int .i64 ((stepRR p a l s g).s).p.x.hi, .int .i64 ((stepRR p a l s g).s).p.y.lo, .int .i64 ((stepRR p a l s g).s).p.y.hi, .int .i64 ((stepRR p a l s g).s).p.z.lo, .int .i64 ((stepRR p a l s g).s).p.z.hi, .int .i64 ((stepRR p a l s g).s).v.x.lo, .int .i64 ((stepRR p a l s g).s).v.x.hi, .int .i64 ((stepRR p a l s g).s).v.y.lo, .int .i64 ((stepRR p a l s g).s).v.y.hi, .int .i64 ((stepRR p a l s g).s).v.z.lo, .int .i64 ((stepRR p a l s g).s).v.z.hi, .int .i64 ((stepRR p a l s g).s).m.lo, .int .i64 ((stepRR p a l s g).s).m.hi], .int .i64 (h - g)] w' (RetS3 (stepRR p a l (stepRR p a l s g).s (h - g)) w') from flStepE_any look_any p a l (stepRR p a l s g).s (h - g) w' (hd.grew g'))
  rw [hl] at HLong
  generalize stepRR p a l (stepRR p a l s g).s (h - g) = O at *
  generalize stepRR p a l s g = G at *
  generalize stepRR p a l s h = N at *
  go_enter Try.func4, Try.ntmps4
  go_wp2_with (first | (go_at_call 7; (with_reducible refine call_later (l3Alive_any _) ?_); intro ua) | (go_at_call 8; (with_reducible refine call_later (HLong.out _ _ (SlAt.fresh _ _ _ _ (by simp [maxLen]))) ?_); intro ul) | ((with_reducible refine wpList_load_rng ?_ ?_ ?_ ?_ ?_ ?_ ?_ ?_ ?_ ?_ ?_ ?_); rotate_left 6; (· rfl); (· rfl); (· rfl); (· infer_instance); (· infer_instance)) | ((with_reducible refine wpList_load_is ?_ ?_ ?_ ?_ ?_ ?_ ?_ ?_ ?_ ?_ ?_ ?_ ?_); rotate_left 6; (· rfl); (· rfl); (· rfl); (· infer_instance); (· infer_instance); (· rfl)) | ((with_reducible refine wpList_store_fresh ?_ ?_ ?_ ?_ ?_ ?_ ?_ ?_ ?_ ?_ ?_ ?_ ?_ ?_ ?_ ?_ ?_); rotate_left 5; (· rfl); (· rfl); (· rfl); (· rfl); (· rfl); (· infer_instance); (· infer_instance); (· infer_instance); (· infer_instance)) | ((with_reducible refine wpList_store_is ?_ ?_ ?_ ?_ ?_ ?_ ?_ ?_ ?_ ?_ ?_ ?_ ?_ ?_ ?_ ?_ ?_); rotate_left 7; (· rfl); (· rfl); (· rfl); (· rfl); (· rfl); (· infer_instance); (· infer_instance); (· infer_instance); (· infer_instance)))
  go_ret
  exact ⟨rfl, gwr⟩
theorem meets_0 (p : Planet) (a : Arc) (h : Int) (l : List Pt) (s : State) (part : Int) (_hpt : I64 part) [hp : Pl64 p] [hs : St64 s] [hh : S64 (⟨h, h⟩ : Sp)] [hat : S64 a.thrust] [haf : S64 a.flow] [had : B64 a.dir] (w : World) (hd : DragAt w a l) (hl : a.longB = false) (h0 : h = 0) :
    Calls Try.prog 4 #[.agg #[.int .i64 p.mu.lo, .int .i64 p.mu.hi, .int .i64 p.radius.lo, .int .i64 p.radius.hi, .int .i64 p.oblate.lo, .int .i64 p.oblate.hi, .int .i64 p.spin.lo, .int .i64 p.spin.hi, .int .i64 p.pull.x.lo, .int .i64 p.pull.x.hi, .int .i64 p.pull.y.lo, .int .i64 p.pull.y.hi, .int .i64 p.pull.z.lo, .int .i64 p.pull.z.hi], .agg #[.int .i64 a.time, .int .i64 a.step, .int .i64 a.thrust.lo, .int .i64 a.thrust.hi, .int .i64 a.flow.lo, .int .i64 a.flow.hi, .int .i64 a.dir.x.lo, .int .i64 a.dir.x.hi, .int .i64 a.dir.y.lo, .int .i64 a.dir.y.hi, .int .i64 a.dir.z.lo, .int .i64 a.dir.z.hi, .slice a.drag.ao a.drag.n a.drag.cap, .int .i64 a.drop.lo, .int .i64 a.drop.hi, .int .i64 h], .agg #[.int .i64 s.t, .int .i64 s.p.x.lo, .int .i64 s.p.x.hi, .int .i64 s.p.y.lo, .int .i64 s.p.y.hi, .int .i64 s.p.z.lo, .int .i64 s.p.z.hi, .int .i64 s.v.x.lo, .int .i64 s.v.x.hi, .int .i64 s.v.y.lo, .int .i64 s.v.y.hi, .int .i64 s.v.z.lo, .int .i64 s.v.z.hi, .int .i64 s.m.lo, .int .i64 s.m.hi], .int .i64 part] w fun e w' => e = .returned (.bool true) ∧ Grew w w' := by
  have H1 := Lib.hid (fun w' (g : Grew w w') => show Calls Try.prog 9 #[.agg #[.int .i64 p.mu.lo, .int .i64 p.mu.hi, .int .i64 p.radius.lo, .int .i64 p.radius.hi, .int .i64 p.oblate.lo, .int .i64 p.oblate.hi, .int .i64 p.spin.lo, .int .i64 p.spin.hi, .int .i64 p.pull.x.lo, .int .i64 p.pull.x.hi, .int .i64 p.pull.y.lo, .int .i64 p.pull.y.hi, .int .i64 p.pull.z.lo, .int .i64 p.pull.z.hi], .agg #[.int .i64 a.time, .int .i64 a.step, .int .i64 a.thrust.lo, .int .i64 a.thrust.hi, .int .i64 a.flow.lo, .int .i64 a.flow.hi, .int .i64 a.dir.x.lo, .int .i64 a.dir.x.hi, .int .i64 a.dir.y.lo, .int .i64 a.dir.y.hi, .int .i64 a.dir.z.lo, .int .i64 a.dir.z.hi, .slice a.drag.ao a.drag.n a.drag.cap, .int .i64 a.drop.lo, .int .i64 a.drop.hi], .agg #[.int .i64 s.t, .int .i64 s.p.x.lo, .int .i64 s.p.x.hi, .int .i64 s.p.y.lo, .int .i64 s.p.y.hi, .int .i64 s.p.z.lo, .int .i64 s.p.z.hi, .int .i64 s.v.x.lo, .int .i64 s.v.x.hi, .int .i64 s.v.y.lo, .int .i64 s.v.y.hi, .int .i64 s.v.z.lo, .int .i64 s.v.z.hi, .int .i64 s.m.lo, .int .i64 s.m.hi], .int .i64 h] w' (RetS3 (stepRR p a l s h) w') from flStepE_any look_any p a l s h w' (hd.grew g))
  have HLong := Lib.hid (fun v w h => l3Long_one a v w h)
  have hi := hh.lo
  unfold I64 at hi _hpt
  simp only at hi
  obtain ⟨g, hgd⟩ : ∃ g, h.tdiv 2 = g := ⟨_, rfl⟩
  have ht := tdiv_half h
  rw [hgd] at ht
  have wg : IntKind.i64.wrap (h.tdiv 2) = g := by rw [hgd]; exact wrap_i64 _ (by omega) (by omega)
  have wg2 : IntKind.i64.wrap g = g := wrap_i64 _ (by omega) (by omega)
  have wd : IntKind.i64.wrap (h - g) = h - g := wrap_i64 _ (by omega) (by omega)
  have hG : S64 (⟨g, g⟩ : Sp) := ⟨by unfold I64; simp only; omega, by unfold I64; simp only; omega⟩
  have hR : S64 (⟨h - g, h - g⟩ : Sp) := ⟨by unfold I64; simp only; omega, by unfold I64; simp only; omega⟩
  have H2 := Lib.hid (fun w' (g' : Grew w w') => show Calls Try.prog 9 #[.agg #[.int .i64 p.mu.lo, .int .i64 p.mu.hi, .int .i64 p.radius.lo, .int .i64 p.radius.hi, .int .i64 p.oblate.lo, .int .i64 p.oblate.hi, .int .i64 p.spin.lo, .int .i64 p.spin.hi, .int .i64 p.pull.x.lo, .int .i64 p.pull.x.hi, .int .i64 p.pull.y.lo, .int .i64 p.pull.y.hi, .int .i64 p.pull.z.lo, .int .i64 p.pull.z.hi], .agg #[.int .i64 a.time, .int .i64 a.step, .int .i64 a.thrust.lo, .int .i64 a.thrust.hi, .int .i64 a.flow.lo, .int .i64 a.flow.hi, .int .i64 a.dir.x.lo, .int .i64 a.dir.x.hi, .int .i64 a.dir.y.lo, .int .i64 a.dir.y.hi, .int .i64 a.dir.z.lo, .int .i64 a.dir.z.hi, .slice a.drag.ao a.drag.n a.drag.cap, .int .i64 a.drop.lo, .int .i64 a.drop.hi], .agg #[.int .i64 s.t, .int .i64 s.p.x.lo, .int .i64 s.p.x.hi, .int .i64 s.p.y.lo, .int .i64 s.p.y.hi, .int .i64 s.p.z.lo, .int .i64 s.p.z.hi, .int .i64 s.v.x.lo, .int .i64 s.v.x.hi, .int .i64 s.v.y.lo, .int .i64 s.v.y.hi, .int .i64 s.v.z.lo, .int .i64 s.v.z.hi, .int .i64 s.m.lo, .int .i64 s.m.hi], .int .i64 g] w' (RetS3 (stepRR p a l s g) w') from flStepE_any look_any p a l s g w' (hd.grew g'))
  have H3 := Lib.hid (fun w' (g' : Grew w w') => show Calls Try.prog 9 #[.agg #[.int .i64 p.mu.lo, .int .i64 p.mu.hi, .int .i64 p.radius.lo, .int .i64 p.radius.hi, .int .i64 p.oblate.lo, .int .i64 p.oblate.hi, .int .i64 p.spin.lo, .int .i64 p.spin.hi, .int .i64 p.pull.x.lo, .int .i64 p.pull.x.hi, .int .i64 p.pull.y.lo, .int .i64 p.pull.y.hi, .int .i64 p.pull.z.lo, .int .i64 p.pull.z.hi], .agg #[.int .i64 a.time, .int .i64 a.step, .int .i64 a.thrust.lo, .int .i64 a.thrust.hi, .int .i64 a.flow.lo, .int .i64 a.flow.hi, .int .i64 a.dir.x.lo, .int .i64 a.dir.x.hi, .int .i64 a.dir.y.lo, .int .i64 a.dir.y.hi, .int .i64 a.dir.z.lo, .int .i64 a.dir.z.hi, .slice a.drag.ao a.drag.n a.drag.cap, .int .i64 a.drop.lo, .int .i64 a.drop.hi], .agg #[.int .i64 ((stepRR p a l s g).s).t, .int .i64 ((stepRR p a l s g).s).p.x.lo, .int .i64 ((stepRR p a l s g).s).p.x.hi, .int .i64 ((stepRR p a l s g).s).p.y.lo, .int .i64 ((stepRR p a l s g).s).p.y.hi, .int .i64 ((stepRR p a l s g).s).p.z.lo, .int .i64 ((stepRR p a l s g).s).p.z.hi, .int .i64 ((stepRR p a l s g).s).v.x.lo, .int .i64 ((stepRR p a l s g).s).v.x.hi, .int .i64 ((stepRR p a l s g).s).v.y.lo, .int .i64 ((stepRR p a l s g).s).v.y.hi, .int .i64 ((stepRR p a l s g).s).v.z.lo, .int .i64 ((stepRR p a l s g).s).v.z.hi, .int .i64 ((stepRR p a l s g).s).m.lo, .int .i64 ((stepRR p a l s g).s).m.hi], .int .i64 (h - g)] w' (RetS3 (stepRR p a l (stepRR p a l s g).s (h - g)) w') from flStepE_any look_any p a l (stepRR p a l s g).s (h - g) w' (hd.grew g'))
  rw [hl] at HLong
  have t0 : (h == 0) = true := by simp [h0]
  generalize stepRR p a l (stepRR p a l s g).s (h - g) = O at *
  generalize stepRR p a l s g = G at *
  generalize stepRR p a l s h = N at *
  clear h0 ht
  go_enter Try.func4, Try.ntmps4
  go_wp2_with (first | (go_at_call 7; (with_reducible refine call_later (l3Alive_any _) ?_); intro ua) | (go_at_call 8; (with_reducible refine call_later (HLong.out _ _ (SlAt.fresh _ _ _ _ (by simp [maxLen]))) ?_); intro ul) | ((with_reducible refine wpList_load_rng ?_ ?_ ?_ ?_ ?_ ?_ ?_ ?_ ?_ ?_ ?_ ?_); rotate_left 6; (· rfl); (· rfl); (· rfl); (· infer_instance); (· infer_instance)) | ((with_reducible refine wpList_load_is ?_ ?_ ?_ ?_ ?_ ?_ ?_ ?_ ?_ ?_ ?_ ?_ ?_); rotate_left 6; (· rfl); (· rfl); (· rfl); (· infer_instance); (· infer_instance); (· rfl)) | ((with_reducible refine wpList_store_fresh ?_ ?_ ?_ ?_ ?_ ?_ ?_ ?_ ?_ ?_ ?_ ?_ ?_ ?_ ?_ ?_ ?_); rotate_left 5; (· rfl); (· rfl); (· rfl); (· rfl); (· rfl); (· infer_instance); (· infer_instance); (· infer_instance); (· infer_instance)) | ((with_reducible refine wpList_store_is ?_ ?_ ?_ ?_ ?_ ?_ ?_ ?_ ?_ ?_ ?_ ?_ ?_ ?_ ?_ ?_ ?_); rotate_left 7; (· rfl); (· rfl); (· rfl); (· rfl); (· rfl); (· infer_instance); (· infer_instance); (· infer_instance); (· infer_instance)))
  go_ret
  exact ⟨rfl, gwr⟩
theorem meets_1 (p : Planet) (a : Arc) (h : Int) (l : List Pt) (s : State) (part : Int) (_hpt : I64 part) [hp : Pl64 p] [hs : St64 s] [hh : S64 (⟨h, h⟩ : Sp)] [hat : S64 a.thrust] [haf : S64 a.flow] [had : B64 a.dir] (w : World) (hd : DragAt w a l) (hl : a.longB = false) (h0 : h ≠ 0) (e1 : (stepRR p a l s h).e ≠ 0) :
    Calls Try.prog 4 #[.agg #[.int .i64 p.mu.lo, .int .i64 p.mu.hi, .int .i64 p.radius.lo, .int .i64 p.radius.hi, .int .i64 p.oblate.lo, .int .i64 p.oblate.hi, .int .i64 p.spin.lo, .int .i64 p.spin.hi, .int .i64 p.pull.x.lo, .int .i64 p.pull.x.hi, .int .i64 p.pull.y.lo, .int .i64 p.pull.y.hi, .int .i64 p.pull.z.lo, .int .i64 p.pull.z.hi], .agg #[.int .i64 a.time, .int .i64 a.step, .int .i64 a.thrust.lo, .int .i64 a.thrust.hi, .int .i64 a.flow.lo, .int .i64 a.flow.hi, .int .i64 a.dir.x.lo, .int .i64 a.dir.x.hi, .int .i64 a.dir.y.lo, .int .i64 a.dir.y.hi, .int .i64 a.dir.z.lo, .int .i64 a.dir.z.hi, .slice a.drag.ao a.drag.n a.drag.cap, .int .i64 a.drop.lo, .int .i64 a.drop.hi, .int .i64 h], .agg #[.int .i64 s.t, .int .i64 s.p.x.lo, .int .i64 s.p.x.hi, .int .i64 s.p.y.lo, .int .i64 s.p.y.hi, .int .i64 s.p.z.lo, .int .i64 s.p.z.hi, .int .i64 s.v.x.lo, .int .i64 s.v.x.hi, .int .i64 s.v.y.lo, .int .i64 s.v.y.hi, .int .i64 s.v.z.lo, .int .i64 s.v.z.hi, .int .i64 s.m.lo, .int .i64 s.m.hi], .int .i64 part] w fun e w' => e = .returned (.bool true) ∧ Grew w w' := by
  have H1 := Lib.hid (fun w' (g : Grew w w') => show Calls Try.prog 9 #[.agg #[.int .i64 p.mu.lo, .int .i64 p.mu.hi, .int .i64 p.radius.lo, .int .i64 p.radius.hi, .int .i64 p.oblate.lo, .int .i64 p.oblate.hi, .int .i64 p.spin.lo, .int .i64 p.spin.hi, .int .i64 p.pull.x.lo, .int .i64 p.pull.x.hi, .int .i64 p.pull.y.lo, .int .i64 p.pull.y.hi, .int .i64 p.pull.z.lo, .int .i64 p.pull.z.hi], .agg #[.int .i64 a.time, .int .i64 a.step, .int .i64 a.thrust.lo, .int .i64 a.thrust.hi, .int .i64 a.flow.lo, .int .i64 a.flow.hi, .int .i64 a.dir.x.lo, .int .i64 a.dir.x.hi, .int .i64 a.dir.y.lo, .int .i64 a.dir.y.hi, .int .i64 a.dir.z.lo, .int .i64 a.dir.z.hi, .slice a.drag.ao a.drag.n a.drag.cap, .int .i64 a.drop.lo, .int .i64 a.drop.hi], .agg #[.int .i64 s.t, .int .i64 s.p.x.lo, .int .i64 s.p.x.hi, .int .i64 s.p.y.lo, .int .i64 s.p.y.hi, .int .i64 s.p.z.lo, .int .i64 s.p.z.hi, .int .i64 s.v.x.lo, .int .i64 s.v.x.hi, .int .i64 s.v.y.lo, .int .i64 s.v.y.hi, .int .i64 s.v.z.lo, .int .i64 s.v.z.hi, .int .i64 s.m.lo, .int .i64 s.m.hi], .int .i64 h] w' (RetS3 (stepRR p a l s h) w') from flStepE_any look_any p a l s h w' (hd.grew g))
  have HLong := Lib.hid (fun v w h => l3Long_one a v w h)
  have hi := hh.lo
  unfold I64 at hi _hpt
  simp only at hi
  obtain ⟨g, hgd⟩ : ∃ g, h.tdiv 2 = g := ⟨_, rfl⟩
  have ht := tdiv_half h
  rw [hgd] at ht
  have wg : IntKind.i64.wrap (h.tdiv 2) = g := by rw [hgd]; exact wrap_i64 _ (by omega) (by omega)
  have wg2 : IntKind.i64.wrap g = g := wrap_i64 _ (by omega) (by omega)
  have wd : IntKind.i64.wrap (h - g) = h - g := wrap_i64 _ (by omega) (by omega)
  have hG : S64 (⟨g, g⟩ : Sp) := ⟨by unfold I64; simp only; omega, by unfold I64; simp only; omega⟩
  have hR : S64 (⟨h - g, h - g⟩ : Sp) := ⟨by unfold I64; simp only; omega, by unfold I64; simp only; omega⟩
  have H2 := Lib.hid (fun w' (g' : Grew w w') => show Calls Try.prog 9 #[.agg #[.int .i64 p.mu.lo, .int .i64 p.mu.hi, .int .i64 p.radius.lo, .int .i64 p.radius.hi, .int .i64 p.oblate.lo, .int .i64 p.oblate.hi, .int .i64 p.spin.lo, .int .i64 p.spin.hi, .int .i64 p.pull.x.lo, .int .i64 p.pull.x.hi, .int .i64 p.pull.y.lo, .int .i64 p.pull.y.hi, .int .i64 p.pull.z.lo, .int .i64 p.pull.z.hi], .agg #[.int .i64 a.time, .int .i64 a.step, .int .i64 a.thrust.lo, .int .i64 a.thrust.hi, .int .i64 a.flow.lo, .int .i64 a.flow.hi, .int .i64 a.dir.x.lo, .int .i64 a.dir.x.hi, .int .i64 a.dir.y.lo, .int .i64 a.dir.y.hi, .int .i64 a.dir.z.lo, .int .i64 a.dir.z.hi, .slice a.drag.ao a.drag.n a.drag.cap, .int .i64 a.drop.lo, .int .i64 a.drop.hi], .agg #[.int .i64 s.t, .int .i64 s.p.x.lo, .int .i64 s.p.x.hi, .int .i64 s.p.y.lo, .int .i64 s.p.y.hi, .int .i64 s.p.z.lo, .int .i64 s.p.z.hi, .int .i64 s.v.x.lo, .int .i64 s.v.x.hi, .int .i64 s.v.y.lo, .int .i64 s.v.y.hi, .int .i64 s.v.z.lo, .int .i64 s.v.z.hi, .int .i64 s.m.lo, .int .i64 s.m.hi], .int .i64 g] w' (RetS3 (stepRR p a l s g) w') from flStepE_any look_any p a l s g w' (hd.grew g'))
  have H3 := Lib.hid (fun w' (g' : Grew w w') => show Calls Try.prog 9 #[.agg #[.int .i64 p.mu.lo, .int .i64 p.mu.hi, .int .i64 p.radius.lo, .int .i64 p.radius.hi, .int .i64 p.oblate.lo, .int .i64 p.oblate.hi, .int .i64 p.spin.lo, .int .i64 p.spin.hi, .int .i64 p.pull.x.lo, .int .i64 p.pull.x.hi, .int .i64 p.pull.y.lo, .int .i64 p.pull.y.hi, .int .i64 p.pull.z.lo, .int .i64 p.pull.z.hi], .agg #[.int .i64 a.time, .int .i64 a.step, .int .i64 a.thrust.lo, .int .i64 a.thrust.hi, .int .i64 a.flow.lo, .int .i64 a.flow.hi, .int .i64 a.dir.x.lo, .int .i64 a.dir.x.hi, .int .i64 a.dir.y.lo, .int .i64 a.dir.y.hi, .int .i64 a.dir.z.lo, .int .i64 a.dir.z.hi, .slice a.drag.ao a.drag.n a.drag.cap, .int .i64 a.drop.lo, .int .i64 a.drop.hi], .agg #[.int .i64 ((stepRR p a l s g).s).t, .int .i64 ((stepRR p a l s g).s).p.x.lo, .int .i64 ((stepRR p a l s g).s).p.x.hi, .int .i64 ((stepRR p a l s g).s).p.y.lo, .int .i64 ((stepRR p a l s g).s).p.y.hi, .int .i64 ((stepRR p a l s g).s).p.z.lo, .int .i64 ((stepRR p a l s g).s).p.z.hi, .int .i64 ((stepRR p a l s g).s).v.x.lo, .int .i64 ((stepRR p a l s g).s).v.x.hi, .int .i64 ((stepRR p a l s g).s).v.y.lo, .int .i64 ((stepRR p a l s g).s).v.y.hi, .int .i64 ((stepRR p a l s g).s).v.z.lo, .int .i64 ((stepRR p a l s g).s).v.z.hi, .int .i64 ((stepRR p a l s g).s).m.lo, .int .i64 ((stepRR p a l s g).s).m.hi], .int .i64 (h - g)] w' (RetS3 (stepRR p a l (stepRR p a l s g).s (h - g)) w') from flStepE_any look_any p a l (stepRR p a l s g).s (h - g) w' (hd.grew g'))
  rw [hl] at HLong
  have t0 : (h == 0) = false := by simp [h0]
  have te1 : ((stepRR p a l s h).e != 0) = true := by simp [e1]
  clear ht
  generalize stepRR p a l (stepRR p a l s g).s (h - g) = O at *
  generalize stepRR p a l s g = G at *
  generalize stepRR p a l s h = N at *
  clear h0 e1 hgd
  go_enter Try.func4, Try.ntmps4
  go_wp2_with (first | (go_at_call 7; (with_reducible refine call_later (l3Alive_any _) ?_); intro ua) | (go_at_call 8; (with_reducible refine call_later (HLong.out _ _ (SlAt.fresh _ _ _ _ (by simp [maxLen]))) ?_); intro ul) | (go_at_call 9; (with_reducible refine (H1.out _ ?_).mono ?_); (· exact gwr); rintro en w5 ⟨rfl, hg⟩; obtain ⟨u1, rfl⟩ := later_of hg; clear hg) | (go_at_call 9; (with_reducible refine (H2.out _ ?_).mono ?_); (· exact gwr); rintro en w6 ⟨rfl, hg⟩; obtain ⟨u2, rfl⟩ := later_of hg; clear hg) | ((with_reducible refine wpList_load_rng ?_ ?_ ?_ ?_ ?_ ?_ ?_ ?_ ?_ ?_ ?_ ?_); rotate_left 6; (· rfl); (· rfl); (· rfl); (· infer_instance); (· infer_instance)) | ((with_reducible refine wpList_load_is ?_ ?_ ?_ ?_ ?_ ?_ ?_ ?_ ?_ ?_ ?_ ?_ ?_); rotate_left 6; (· rfl); (· rfl); (· rfl); (· infer_instance); (· infer_instance); (· rfl)) | ((with_reducible refine wpList_store_fresh ?_ ?_ ?_ ?_ ?_ ?_ ?_ ?_ ?_ ?_ ?_ ?_ ?_ ?_ ?_ ?_ ?_); rotate_left 5; (· rfl); (· rfl); (· rfl); (· rfl); (· rfl); (· infer_instance); (· infer_instance); (· infer_instance); (· infer_instance)) | ((with_reducible refine wpList_store_is ?_ ?_ ?_ ?_ ?_ ?_ ?_ ?_ ?_ ?_ ?_ ?_ ?_ ?_ ?_ ?_ ?_); rotate_left 7; (· rfl); (· rfl); (· rfl); (· rfl); (· rfl); (· infer_instance); (· infer_instance); (· infer_instance); (· infer_instance)))
  go_ret
  exact ⟨rfl, gwr⟩
theorem meets_2 (p : Planet) (a : Arc) (h : Int) (l : List Pt) (s : State) (part : Int) (_hpt : I64 part) [hp : Pl64 p] [hs : St64 s] [hh : S64 (⟨h, h⟩ : Sp)] [hat : S64 a.thrust] [haf : S64 a.flow] [had : B64 a.dir] (w : World) (hd : DragAt w a l) (hl : a.longB = false) (h0 : h ≠ 0) (e1 : (stepRR p a l s h).e = 0) (e2 : (stepRR p a l s (h.tdiv 2)).e ≠ 0) :
    Calls Try.prog 4 #[.agg #[.int .i64 p.mu.lo, .int .i64 p.mu.hi, .int .i64 p.radius.lo, .int .i64 p.radius.hi, .int .i64 p.oblate.lo, .int .i64 p.oblate.hi, .int .i64 p.spin.lo, .int .i64 p.spin.hi, .int .i64 p.pull.x.lo, .int .i64 p.pull.x.hi, .int .i64 p.pull.y.lo, .int .i64 p.pull.y.hi, .int .i64 p.pull.z.lo, .int .i64 p.pull.z.hi], .agg #[.int .i64 a.time, .int .i64 a.step, .int .i64 a.thrust.lo, .int .i64 a.thrust.hi, .int .i64 a.flow.lo, .int .i64 a.flow.hi, .int .i64 a.dir.x.lo, .int .i64 a.dir.x.hi, .int .i64 a.dir.y.lo, .int .i64 a.dir.y.hi, .int .i64 a.dir.z.lo, .int .i64 a.dir.z.hi, .slice a.drag.ao a.drag.n a.drag.cap, .int .i64 a.drop.lo, .int .i64 a.drop.hi, .int .i64 h], .agg #[.int .i64 s.t, .int .i64 s.p.x.lo, .int .i64 s.p.x.hi, .int .i64 s.p.y.lo, .int .i64 s.p.y.hi, .int .i64 s.p.z.lo, .int .i64 s.p.z.hi, .int .i64 s.v.x.lo, .int .i64 s.v.x.hi, .int .i64 s.v.y.lo, .int .i64 s.v.y.hi, .int .i64 s.v.z.lo, .int .i64 s.v.z.hi, .int .i64 s.m.lo, .int .i64 s.m.hi], .int .i64 part] w fun e w' => e = .returned (.bool true) ∧ Grew w w' := by
  have H1 := Lib.hid (fun w' (g : Grew w w') => show Calls Try.prog 9 #[.agg #[.int .i64 p.mu.lo, .int .i64 p.mu.hi, .int .i64 p.radius.lo, .int .i64 p.radius.hi, .int .i64 p.oblate.lo, .int .i64 p.oblate.hi, .int .i64 p.spin.lo, .int .i64 p.spin.hi, .int .i64 p.pull.x.lo, .int .i64 p.pull.x.hi, .int .i64 p.pull.y.lo, .int .i64 p.pull.y.hi, .int .i64 p.pull.z.lo, .int .i64 p.pull.z.hi], .agg #[.int .i64 a.time, .int .i64 a.step, .int .i64 a.thrust.lo, .int .i64 a.thrust.hi, .int .i64 a.flow.lo, .int .i64 a.flow.hi, .int .i64 a.dir.x.lo, .int .i64 a.dir.x.hi, .int .i64 a.dir.y.lo, .int .i64 a.dir.y.hi, .int .i64 a.dir.z.lo, .int .i64 a.dir.z.hi, .slice a.drag.ao a.drag.n a.drag.cap, .int .i64 a.drop.lo, .int .i64 a.drop.hi], .agg #[.int .i64 s.t, .int .i64 s.p.x.lo, .int .i64 s.p.x.hi, .int .i64 s.p.y.lo, .int .i64 s.p.y.hi, .int .i64 s.p.z.lo, .int .i64 s.p.z.hi, .int .i64 s.v.x.lo, .int .i64 s.v.x.hi, .int .i64 s.v.y.lo, .int .i64 s.v.y.hi, .int .i64 s.v.z.lo, .int .i64 s.v.z.hi, .int .i64 s.m.lo, .int .i64 s.m.hi], .int .i64 h] w' (RetS3 (stepRR p a l s h) w') from flStepE_any look_any p a l s h w' (hd.grew g))
  have HLong := Lib.hid (fun v w h => l3Long_one a v w h)
  have hi := hh.lo
  unfold I64 at hi _hpt
  simp only at hi
  obtain ⟨g, hgd⟩ : ∃ g, h.tdiv 2 = g := ⟨_, rfl⟩
  have ht := tdiv_half h
  rw [hgd] at ht
  have wg : IntKind.i64.wrap (h.tdiv 2) = g := by rw [hgd]; exact wrap_i64 _ (by omega) (by omega)
  have wg2 : IntKind.i64.wrap g = g := wrap_i64 _ (by omega) (by omega)
  have wd : IntKind.i64.wrap (h - g) = h - g := wrap_i64 _ (by omega) (by omega)
  have hG : S64 (⟨g, g⟩ : Sp) := ⟨by unfold I64; simp only; omega, by unfold I64; simp only; omega⟩
  have hR : S64 (⟨h - g, h - g⟩ : Sp) := ⟨by unfold I64; simp only; omega, by unfold I64; simp only; omega⟩
  have H2 := Lib.hid (fun w' (g' : Grew w w') => show Calls Try.prog 9 #[.agg #[.int .i64 p.mu.lo, .int .i64 p.mu.hi, .int .i64 p.radius.lo, .int .i64 p.radius.hi, .int .i64 p.oblate.lo, .int .i64 p.oblate.hi, .int .i64 p.spin.lo, .int .i64 p.spin.hi, .int .i64 p.pull.x.lo, .int .i64 p.pull.x.hi, .int .i64 p.pull.y.lo, .int .i64 p.pull.y.hi, .int .i64 p.pull.z.lo, .int .i64 p.pull.z.hi], .agg #[.int .i64 a.time, .int .i64 a.step, .int .i64 a.thrust.lo, .int .i64 a.thrust.hi, .int .i64 a.flow.lo, .int .i64 a.flow.hi, .int .i64 a.dir.x.lo, .int .i64 a.dir.x.hi, .int .i64 a.dir.y.lo, .int .i64 a.dir.y.hi, .int .i64 a.dir.z.lo, .int .i64 a.dir.z.hi, .slice a.drag.ao a.drag.n a.drag.cap, .int .i64 a.drop.lo, .int .i64 a.drop.hi], .agg #[.int .i64 s.t, .int .i64 s.p.x.lo, .int .i64 s.p.x.hi, .int .i64 s.p.y.lo, .int .i64 s.p.y.hi, .int .i64 s.p.z.lo, .int .i64 s.p.z.hi, .int .i64 s.v.x.lo, .int .i64 s.v.x.hi, .int .i64 s.v.y.lo, .int .i64 s.v.y.hi, .int .i64 s.v.z.lo, .int .i64 s.v.z.hi, .int .i64 s.m.lo, .int .i64 s.m.hi], .int .i64 g] w' (RetS3 (stepRR p a l s g) w') from flStepE_any look_any p a l s g w' (hd.grew g'))
  have H3 := Lib.hid (fun w' (g' : Grew w w') => show Calls Try.prog 9 #[.agg #[.int .i64 p.mu.lo, .int .i64 p.mu.hi, .int .i64 p.radius.lo, .int .i64 p.radius.hi, .int .i64 p.oblate.lo, .int .i64 p.oblate.hi, .int .i64 p.spin.lo, .int .i64 p.spin.hi, .int .i64 p.pull.x.lo, .int .i64 p.pull.x.hi, .int .i64 p.pull.y.lo, .int .i64 p.pull.y.hi, .int .i64 p.pull.z.lo, .int .i64 p.pull.z.hi], .agg #[.int .i64 a.time, .int .i64 a.step, .int .i64 a.thrust.lo, .int .i64 a.thrust.hi, .int .i64 a.flow.lo, .int .i64 a.flow.hi, .int .i64 a.dir.x.lo, .int .i64 a.dir.x.hi, .int .i64 a.dir.y.lo, .int .i64 a.dir.y.hi, .int .i64 a.dir.z.lo, .int .i64 a.dir.z.hi, .slice a.drag.ao a.drag.n a.drag.cap, .int .i64 a.drop.lo, .int .i64 a.drop.hi], .agg #[.int .i64 ((stepRR p a l s g).s).t, .int .i64 ((stepRR p a l s g).s).p.x.lo, .int .i64 ((stepRR p a l s g).s).p.x.hi, .int .i64 ((stepRR p a l s g).s).p.y.lo, .int .i64 ((stepRR p a l s g).s).p.y.hi, .int .i64 ((stepRR p a l s g).s).p.z.lo, .int .i64 ((stepRR p a l s g).s).p.z.hi, .int .i64 ((stepRR p a l s g).s).v.x.lo, .int .i64 ((stepRR p a l s g).s).v.x.hi, .int .i64 ((stepRR p a l s g).s).v.y.lo, .int .i64 ((stepRR p a l s g).s).v.y.hi, .int .i64 ((stepRR p a l s g).s).v.z.lo, .int .i64 ((stepRR p a l s g).s).v.z.hi, .int .i64 ((stepRR p a l s g).s).m.lo, .int .i64 ((stepRR p a l s g).s).m.hi], .int .i64 (h - g)] w' (RetS3 (stepRR p a l (stepRR p a l s g).s (h - g)) w') from flStepE_any look_any p a l (stepRR p a l s g).s (h - g) w' (hd.grew g'))
  rw [hl] at HLong
  have t0 : (h == 0) = false := by simp [h0]
  have te1 : ((stepRR p a l s h).e != 0) = false := by simp [e1]
  rw [hgd] at e2
  have te2 : ((stepRR p a l s g).e != 0) = true := by simp [e2]
  clear ht
  generalize stepRR p a l (stepRR p a l s g).s (h - g) = O at *
  generalize stepRR p a l s g = G at *
  generalize stepRR p a l s h = N at *
  clear h0 e1 e2 hgd
  go_enter Try.func4, Try.ntmps4
  go_wp2_with (first | (go_at_call 7; (with_reducible refine call_later (l3Alive_any _) ?_); intro ua) | (go_at_call 8; (with_reducible refine call_later (HLong.out _ _ (SlAt.fresh _ _ _ _ (by simp [maxLen]))) ?_); intro ul) | (go_at_call 9; (with_reducible refine (H1.out _ ?_).mono ?_); (· exact gwr); rintro en w5 ⟨rfl, hg⟩; obtain ⟨u1, rfl⟩ := later_of hg; clear hg) | (go_at_call 9; (with_reducible refine (H2.out _ ?_).mono ?_); (· exact gwr); rintro en w6 ⟨rfl, hg⟩; obtain ⟨u2, rfl⟩ := later_of hg; clear hg) | ((with_reducible refine wpList_load_rng ?_ ?_ ?_ ?_ ?_ ?_ ?_ ?_ ?_ ?_ ?_ ?_); rotate_left 6; (· rfl); (· rfl); (· rfl); (· infer_instance); (· infer_instance)) | ((with_reducible refine wpList_load_is ?_ ?_ ?_ ?_ ?_ ?_ ?_ ?_ ?_ ?_ ?_ ?_ ?_); rotate_left 6; (· rfl); (· rfl); (· rfl); (· infer_instance); (· infer_instance); (· rfl)) | ((with_reducible refine wpList_store_fresh ?_ ?_ ?_ ?_ ?_ ?_ ?_ ?_ ?_ ?_ ?_ ?_ ?_ ?_ ?_ ?_ ?_); rotate_left 5; (· rfl); (· rfl); (· rfl); (· rfl); (· rfl); (· infer_instance); (· infer_instance); (· infer_instance); (· infer_instance)) | ((with_reducible refine wpList_store_is ?_ ?_ ?_ ?_ ?_ ?_ ?_ ?_ ?_ ?_ ?_ ?_ ?_ ?_ ?_ ?_ ?_); rotate_left 7; (· rfl); (· rfl); (· rfl); (· rfl); (· rfl); (· infer_instance); (· infer_instance); (· infer_instance); (· infer_instance)))
  go_ret
  exact ⟨rfl, gwr⟩
theorem meets_3 (p : Planet) (a : Arc) (h : Int) (l : List Pt) (s : State) (part : Int) (_hpt : I64 part) [hp : Pl64 p] [hs : St64 s] [hh : S64 (⟨h, h⟩ : Sp)] [hat : S64 a.thrust] [haf : S64 a.flow] [had : B64 a.dir] (w : World) (hd : DragAt w a l) (hl : a.longB = false) (h0 : h ≠ 0) (e1 : (stepRR p a l s h).e = 0) (e2 : (stepRR p a l s (h.tdiv 2)).e = 0) (e3 : (stepRR p a l (stepRR p a l s (h.tdiv 2)).s (h - h.tdiv 2)).e ≠ 0) :
    Calls Try.prog 4 #[.agg #[.int .i64 p.mu.lo, .int .i64 p.mu.hi, .int .i64 p.radius.lo, .int .i64 p.radius.hi, .int .i64 p.oblate.lo, .int .i64 p.oblate.hi, .int .i64 p.spin.lo, .int .i64 p.spin.hi, .int .i64 p.pull.x.lo, .int .i64 p.pull.x.hi, .int .i64 p.pull.y.lo, .int .i64 p.pull.y.hi, .int .i64 p.pull.z.lo, .int .i64 p.pull.z.hi], .agg #[.int .i64 a.time, .int .i64 a.step, .int .i64 a.thrust.lo, .int .i64 a.thrust.hi, .int .i64 a.flow.lo, .int .i64 a.flow.hi, .int .i64 a.dir.x.lo, .int .i64 a.dir.x.hi, .int .i64 a.dir.y.lo, .int .i64 a.dir.y.hi, .int .i64 a.dir.z.lo, .int .i64 a.dir.z.hi, .slice a.drag.ao a.drag.n a.drag.cap, .int .i64 a.drop.lo, .int .i64 a.drop.hi, .int .i64 h], .agg #[.int .i64 s.t, .int .i64 s.p.x.lo, .int .i64 s.p.x.hi, .int .i64 s.p.y.lo, .int .i64 s.p.y.hi, .int .i64 s.p.z.lo, .int .i64 s.p.z.hi, .int .i64 s.v.x.lo, .int .i64 s.v.x.hi, .int .i64 s.v.y.lo, .int .i64 s.v.y.hi, .int .i64 s.v.z.lo, .int .i64 s.v.z.hi, .int .i64 s.m.lo, .int .i64 s.m.hi], .int .i64 part] w fun e w' => e = .returned (.bool true) ∧ Grew w w' := by
  have H1 := Lib.hid (fun w' (g : Grew w w') => show Calls Try.prog 9 #[.agg #[.int .i64 p.mu.lo, .int .i64 p.mu.hi, .int .i64 p.radius.lo, .int .i64 p.radius.hi, .int .i64 p.oblate.lo, .int .i64 p.oblate.hi, .int .i64 p.spin.lo, .int .i64 p.spin.hi, .int .i64 p.pull.x.lo, .int .i64 p.pull.x.hi, .int .i64 p.pull.y.lo, .int .i64 p.pull.y.hi, .int .i64 p.pull.z.lo, .int .i64 p.pull.z.hi], .agg #[.int .i64 a.time, .int .i64 a.step, .int .i64 a.thrust.lo, .int .i64 a.thrust.hi, .int .i64 a.flow.lo, .int .i64 a.flow.hi, .int .i64 a.dir.x.lo, .int .i64 a.dir.x.hi, .int .i64 a.dir.y.lo, .int .i64 a.dir.y.hi, .int .i64 a.dir.z.lo, .int .i64 a.dir.z.hi, .slice a.drag.ao a.drag.n a.drag.cap, .int .i64 a.drop.lo, .int .i64 a.drop.hi], .agg #[.int .i64 s.t, .int .i64 s.p.x.lo, .int .i64 s.p.x.hi, .int .i64 s.p.y.lo, .int .i64 s.p.y.hi, .int .i64 s.p.z.lo, .int .i64 s.p.z.hi, .int .i64 s.v.x.lo, .int .i64 s.v.x.hi, .int .i64 s.v.y.lo, .int .i64 s.v.y.hi, .int .i64 s.v.z.lo, .int .i64 s.v.z.hi, .int .i64 s.m.lo, .int .i64 s.m.hi], .int .i64 h] w' (RetS3 (stepRR p a l s h) w') from flStepE_any look_any p a l s h w' (hd.grew g))
  have HLong := Lib.hid (fun v w h => l3Long_one a v w h)
  have hi := hh.lo
  unfold I64 at hi _hpt
  simp only at hi
  obtain ⟨g, hgd⟩ : ∃ g, h.tdiv 2 = g := ⟨_, rfl⟩
  have ht := tdiv_half h
  rw [hgd] at ht
  have wg : IntKind.i64.wrap (h.tdiv 2) = g := by rw [hgd]; exact wrap_i64 _ (by omega) (by omega)
  have wg2 : IntKind.i64.wrap g = g := wrap_i64 _ (by omega) (by omega)
  have wd : IntKind.i64.wrap (h - g) = h - g := wrap_i64 _ (by omega) (by omega)
  have hG : S64 (⟨g, g⟩ : Sp) := ⟨by unfold I64; simp only; omega, by unfold I64; simp only; omega⟩
  have hR : S64 (⟨h - g, h - g⟩ : Sp) := ⟨by unfold I64; simp only; omega, by unfold I64; simp only; omega⟩
  have H2 := Lib.hid (fun w' (g' : Grew w w') => show Calls Try.prog 9 #[.agg #[.int .i64 p.mu.lo, .int .i64 p.mu.hi, .int .i64 p.radius.lo, .int .i64 p.radius.hi, .int .i64 p.oblate.lo, .int .i64 p.oblate.hi, .int .i64 p.spin.lo, .int .i64 p.spin.hi, .int .i64 p.pull.x.lo, .int .i64 p.pull.x.hi, .int .i64 p.pull.y.lo, .int .i64 p.pull.y.hi, .int .i64 p.pull.z.lo, .int .i64 p.pull.z.hi], .agg #[.int .i64 a.time, .int .i64 a.step, .int .i64 a.thrust.lo, .int .i64 a.thrust.hi, .int .i64 a.flow.lo, .int .i64 a.flow.hi, .int .i64 a.dir.x.lo, .int .i64 a.dir.x.hi, .int .i64 a.dir.y.lo, .int .i64 a.dir.y.hi, .int .i64 a.dir.z.lo, .int .i64 a.dir.z.hi, .slice a.drag.ao a.drag.n a.drag.cap, .int .i64 a.drop.lo, .int .i64 a.drop.hi], .agg #[.int .i64 s.t, .int .i64 s.p.x.lo, .int .i64 s.p.x.hi, .int .i64 s.p.y.lo, .int .i64 s.p.y.hi, .int .i64 s.p.z.lo, .int .i64 s.p.z.hi, .int .i64 s.v.x.lo, .int .i64 s.v.x.hi, .int .i64 s.v.y.lo, .int .i64 s.v.y.hi, .int .i64 s.v.z.lo, .int .i64 s.v.z.hi, .int .i64 s.m.lo, .int .i64 s.m.hi], .int .i64 g] w' (RetS3 (stepRR p a l s g) w') from flStepE_any look_any p a l s g w' (hd.grew g'))
  have H3 := Lib.hid (fun w' (g' : Grew w w') => show Calls Try.prog 9 #[.agg #[.int .i64 p.mu.lo, .int .i64 p.mu.hi, .int .i64 p.radius.lo, .int .i64 p.radius.hi, .int .i64 p.oblate.lo, .int .i64 p.oblate.hi, .int .i64 p.spin.lo, .int .i64 p.spin.hi, .int .i64 p.pull.x.lo, .int .i64 p.pull.x.hi, .int .i64 p.pull.y.lo, .int .i64 p.pull.y.hi, .int .i64 p.pull.z.lo, .int .i64 p.pull.z.hi], .agg #[.int .i64 a.time, .int .i64 a.step, .int .i64 a.thrust.lo, .int .i64 a.thrust.hi, .int .i64 a.flow.lo, .int .i64 a.flow.hi, .int .i64 a.dir.x.lo, .int .i64 a.dir.x.hi, .int .i64 a.dir.y.lo, .int .i64 a.dir.y.hi, .int .i64 a.dir.z.lo, .int .i64 a.dir.z.hi, .slice a.drag.ao a.drag.n a.drag.cap, .int .i64 a.drop.lo, .int .i64 a.drop.hi], .agg #[.int .i64 ((stepRR p a l s g).s).t, .int .i64 ((stepRR p a l s g).s).p.x.lo, .int .i64 ((stepRR p a l s g).s).p.x.hi, .int .i64 ((stepRR p a l s g).s).p.y.lo, .int .i64 ((stepRR p a l s g).s).p.y.hi, .int .i64 ((stepRR p a l s g).s).p.z.lo, .int .i64 ((stepRR p a l s g).s).p.z.hi, .int .i64 ((stepRR p a l s g).s).v.x.lo, .int .i64 ((stepRR p a l s g).s).v.x.hi, .int .i64 ((stepRR p a l s g).s).v.y.lo, .int .i64 ((stepRR p a l s g).s).v.y.hi, .int .i64 ((stepRR p a l s g).s).v.z.lo, .int .i64 ((stepRR p a l s g).s).v.z.hi, .int .i64 ((stepRR p a l s g).s).m.lo, .int .i64 ((stepRR p a l s g).s).m.hi], .int .i64 (h - g)] w' (RetS3 (stepRR p a l (stepRR p a l s g).s (h - g)) w') from flStepE_any look_any p a l (stepRR p a l s g).s (h - g) w' (hd.grew g'))
  rw [hl] at HLong
  have t0 : (h == 0) = false := by simp [h0]
  have te1 : ((stepRR p a l s h).e != 0) = false := by simp [e1]
  rw [hgd] at e2 e3
  have te2 : ((stepRR p a l s g).e != 0) = false := by simp [e2]
  have te3 : ((stepRR p a l (stepRR p a l s g).s (h - g)).e != 0) = true := by simp [e3]
  clear ht
  generalize stepRR p a l (stepRR p a l s g).s (h - g) = O at *
  generalize stepRR p a l s g = G at *
  generalize stepRR p a l s h = N at *
  clear h0 e1 e2 e3 hgd
  go_enter Try.func4, Try.ntmps4
  go_wp2_with (first | (go_at_call 7; (with_reducible refine call_later (l3Alive_any _) ?_); intro ua) | (go_at_call 8; (with_reducible refine call_later (HLong.out _ _ (SlAt.fresh _ _ _ _ (by simp [maxLen]))) ?_); intro ul) | (go_at_call 9; (with_reducible refine (H1.out _ ?_).mono ?_); (· exact gwr); rintro en w5 ⟨rfl, hg⟩; obtain ⟨u1, rfl⟩ := later_of hg; clear hg) | (go_at_call 9; (with_reducible refine (H2.out _ ?_).mono ?_); (· exact gwr); rintro en w6 ⟨rfl, hg⟩; obtain ⟨u2, rfl⟩ := later_of hg; clear hg) | (go_at_call 9; (with_reducible refine (H3.out _ ?_).mono ?_); (· exact gwr); rintro en w7 ⟨rfl, hg⟩; obtain ⟨u3, rfl⟩ := later_of hg; clear hg) | ((with_reducible refine wpList_load_rng ?_ ?_ ?_ ?_ ?_ ?_ ?_ ?_ ?_ ?_ ?_ ?_); rotate_left 6; (· rfl); (· rfl); (· rfl); (· infer_instance); (· infer_instance)) | ((with_reducible refine wpList_load_is ?_ ?_ ?_ ?_ ?_ ?_ ?_ ?_ ?_ ?_ ?_ ?_ ?_); rotate_left 6; (· rfl); (· rfl); (· rfl); (· infer_instance); (· infer_instance); (· rfl)) | ((with_reducible refine wpList_store_fresh ?_ ?_ ?_ ?_ ?_ ?_ ?_ ?_ ?_ ?_ ?_ ?_ ?_ ?_ ?_ ?_ ?_); rotate_left 5; (· rfl); (· rfl); (· rfl); (· rfl); (· rfl); (· infer_instance); (· infer_instance); (· infer_instance); (· infer_instance)) | ((with_reducible refine wpList_store_is ?_ ?_ ?_ ?_ ?_ ?_ ?_ ?_ ?_ ?_ ?_ ?_ ?_ ?_ ?_ ?_ ?_); rotate_left 7; (· rfl); (· rfl); (· rfl); (· rfl); (· rfl); (· infer_instance); (· infer_instance); (· infer_instance); (· infer_instance)))
  go_ret
  exact ⟨rfl, gwr⟩
theorem meets_4 (p : Planet) (a : Arc) (h : Int) (l : List Pt) (s : State) (part : Int) (_hpt : I64 part) [hp : Pl64 p] [hs : St64 s] [hh : S64 (⟨h, h⟩ : Sp)] [hat : S64 a.thrust] [haf : S64 a.flow] [had : B64 a.dir] (w : World) (hd : DragAt w a l) (hl : a.longB = false) (h0 : h ≠ 0) (e1 : (stepRR p a l s h).e = 0) (e2 : (stepRR p a l s (h.tdiv 2)).e = 0) (e3 : (stepRR p a l (stepRR p a l s (h.tdiv 2)).s (h - h.tdiv 2)).e = 0) :
    Calls Try.prog 4 #[.agg #[.int .i64 p.mu.lo, .int .i64 p.mu.hi, .int .i64 p.radius.lo, .int .i64 p.radius.hi, .int .i64 p.oblate.lo, .int .i64 p.oblate.hi, .int .i64 p.spin.lo, .int .i64 p.spin.hi, .int .i64 p.pull.x.lo, .int .i64 p.pull.x.hi, .int .i64 p.pull.y.lo, .int .i64 p.pull.y.hi, .int .i64 p.pull.z.lo, .int .i64 p.pull.z.hi], .agg #[.int .i64 a.time, .int .i64 a.step, .int .i64 a.thrust.lo, .int .i64 a.thrust.hi, .int .i64 a.flow.lo, .int .i64 a.flow.hi, .int .i64 a.dir.x.lo, .int .i64 a.dir.x.hi, .int .i64 a.dir.y.lo, .int .i64 a.dir.y.hi, .int .i64 a.dir.z.lo, .int .i64 a.dir.z.hi, .slice a.drag.ao a.drag.n a.drag.cap, .int .i64 a.drop.lo, .int .i64 a.drop.hi, .int .i64 h], .agg #[.int .i64 s.t, .int .i64 s.p.x.lo, .int .i64 s.p.x.hi, .int .i64 s.p.y.lo, .int .i64 s.p.y.hi, .int .i64 s.p.z.lo, .int .i64 s.p.z.hi, .int .i64 s.v.x.lo, .int .i64 s.v.x.hi, .int .i64 s.v.y.lo, .int .i64 s.v.y.hi, .int .i64 s.v.z.lo, .int .i64 s.v.z.hi, .int .i64 s.m.lo, .int .i64 s.m.hi], .int .i64 part] w fun e w' => e = .returned (.bool true) ∧ Grew w w' := by
  have H1 := Lib.hid (fun w' (g : Grew w w') => show Calls Try.prog 9 #[.agg #[.int .i64 p.mu.lo, .int .i64 p.mu.hi, .int .i64 p.radius.lo, .int .i64 p.radius.hi, .int .i64 p.oblate.lo, .int .i64 p.oblate.hi, .int .i64 p.spin.lo, .int .i64 p.spin.hi, .int .i64 p.pull.x.lo, .int .i64 p.pull.x.hi, .int .i64 p.pull.y.lo, .int .i64 p.pull.y.hi, .int .i64 p.pull.z.lo, .int .i64 p.pull.z.hi], .agg #[.int .i64 a.time, .int .i64 a.step, .int .i64 a.thrust.lo, .int .i64 a.thrust.hi, .int .i64 a.flow.lo, .int .i64 a.flow.hi, .int .i64 a.dir.x.lo, .int .i64 a.dir.x.hi, .int .i64 a.dir.y.lo, .int .i64 a.dir.y.hi, .int .i64 a.dir.z.lo, .int .i64 a.dir.z.hi, .slice a.drag.ao a.drag.n a.drag.cap, .int .i64 a.drop.lo, .int .i64 a.drop.hi], .agg #[.int .i64 s.t, .int .i64 s.p.x.lo, .int .i64 s.p.x.hi, .int .i64 s.p.y.lo, .int .i64 s.p.y.hi, .int .i64 s.p.z.lo, .int .i64 s.p.z.hi, .int .i64 s.v.x.lo, .int .i64 s.v.x.hi, .int .i64 s.v.y.lo, .int .i64 s.v.y.hi, .int .i64 s.v.z.lo, .int .i64 s.v.z.hi, .int .i64 s.m.lo, .int .i64 s.m.hi], .int .i64 h] w' (RetS3 (stepRR p a l s h) w') from flStepE_any look_any p a l s h w' (hd.grew g))
  have HLong := Lib.hid (fun v w h => l3Long_one a v w h)
  have hi := hh.lo
  unfold I64 at hi _hpt
  simp only at hi
  obtain ⟨g, hgd⟩ : ∃ g, h.tdiv 2 = g := ⟨_, rfl⟩
  have ht := tdiv_half h
  rw [hgd] at ht
  have wg : IntKind.i64.wrap (h.tdiv 2) = g := by rw [hgd]; exact wrap_i64 _ (by omega) (by omega)
  have wg2 : IntKind.i64.wrap g = g := wrap_i64 _ (by omega) (by omega)
  have wd : IntKind.i64.wrap (h - g) = h - g := wrap_i64 _ (by omega) (by omega)
  have hG : S64 (⟨g, g⟩ : Sp) := ⟨by unfold I64; simp only; omega, by unfold I64; simp only; omega⟩
  have hR : S64 (⟨h - g, h - g⟩ : Sp) := ⟨by unfold I64; simp only; omega, by unfold I64; simp only; omega⟩
  have H2 := Lib.hid (fun w' (g' : Grew w w') => show Calls Try.prog 9 #[.agg #[.int .i64 p.mu.lo, .int .i64 p.mu.hi, .int .i64 p.radius.lo, .int .i64 p.radius.hi, .int .i64 p.oblate.lo, .int .i64 p.oblate.hi, .int .i64 p.spin.lo, .int .i64 p.spin.hi, .int .i64 p.pull.x.lo, .int .i64 p.pull.x.hi, .int .i64 p.pull.y.lo, .int .i64 p.pull.y.hi, .int .i64 p.pull.z.lo, .int .i64 p.pull.z.hi], .agg #[.int .i64 a.time, .int .i64 a.step, .int .i64 a.thrust.lo, .int .i64 a.thrust.hi, .int .i64 a.flow.lo, .int .i64 a.flow.hi, .int .i64 a.dir.x.lo, .int .i64 a.dir.x.hi, .int .i64 a.dir.y.lo, .int .i64 a.dir.y.hi, .int .i64 a.dir.z.lo, .int .i64 a.dir.z.hi, .slice a.drag.ao a.drag.n a.drag.cap, .int .i64 a.drop.lo, .int .i64 a.drop.hi], .agg #[.int .i64 s.t, .int .i64 s.p.x.lo, .int .i64 s.p.x.hi, .int .i64 s.p.y.lo, .int .i64 s.p.y.hi, .int .i64 s.p.z.lo, .int .i64 s.p.z.hi, .int .i64 s.v.x.lo, .int .i64 s.v.x.hi, .int .i64 s.v.y.lo, .int .i64 s.v.y.hi, .int .i64 s.v.z.lo, .int .i64 s.v.z.hi, .int .i64 s.m.lo, .int .i64 s.m.hi], .int .i64 g] w' (RetS3 (stepRR p a l s g) w') from flStepE_any look_any p a l s g w' (hd.grew g'))
  have H3 := Lib.hid (fun w' (g' : Grew w w') => show Calls Try.prog 9 #[.agg #[.int .i64 p.mu.lo, .int .i64 p.mu.hi, .int .i64 p.radius.lo, .int .i64 p.radius.hi, .int .i64 p.oblate.lo, .int .i64 p.oblate.hi, .int .i64 p.spin.lo, .int .i64 p.spin.hi, .int .i64 p.pull.x.lo, .int .i64 p.pull.x.hi, .int .i64 p.pull.y.lo, .int .i64 p.pull.y.hi, .int .i64 p.pull.z.lo, .int .i64 p.pull.z.hi], .agg #[.int .i64 a.time, .int .i64 a.step, .int .i64 a.thrust.lo, .int .i64 a.thrust.hi, .int .i64 a.flow.lo, .int .i64 a.flow.hi, .int .i64 a.dir.x.lo, .int .i64 a.dir.x.hi, .int .i64 a.dir.y.lo, .int .i64 a.dir.y.hi, .int .i64 a.dir.z.lo, .int .i64 a.dir.z.hi, .slice a.drag.ao a.drag.n a.drag.cap, .int .i64 a.drop.lo, .int .i64 a.drop.hi], .agg #[.int .i64 ((stepRR p a l s g).s).t, .int .i64 ((stepRR p a l s g).s).p.x.lo, .int .i64 ((stepRR p a l s g).s).p.x.hi, .int .i64 ((stepRR p a l s g).s).p.y.lo, .int .i64 ((stepRR p a l s g).s).p.y.hi, .int .i64 ((stepRR p a l s g).s).p.z.lo, .int .i64 ((stepRR p a l s g).s).p.z.hi, .int .i64 ((stepRR p a l s g).s).v.x.lo, .int .i64 ((stepRR p a l s g).s).v.x.hi, .int .i64 ((stepRR p a l s g).s).v.y.lo, .int .i64 ((stepRR p a l s g).s).v.y.hi, .int .i64 ((stepRR p a l s g).s).v.z.lo, .int .i64 ((stepRR p a l s g).s).v.z.hi, .int .i64 ((stepRR p a l s g).s).m.lo, .int .i64 ((stepRR p a l s g).s).m.hi], .int .i64 (h - g)] w' (RetS3 (stepRR p a l (stepRR p a l s g).s (h - g)) w') from flStepE_any look_any p a l (stepRR p a l s g).s (h - g) w' (hd.grew g'))
  have HM := Lib.hid (fun (h1 h2 : Int) hs hd z z1 z2 => meets_facts (p := p) (x := a) (l := l) (s := s) (h := h) (h1 := h1) (h2 := h2) hs hd z z1 z2)
  rw [hl] at HLong
  have t0 : (h == 0) = false := by simp [h0]
  have te1 : ((stepRR p a l s h).e != 0) = false := by simp [e1]
  rw [hgd] at e2 e3
  have te2 : ((stepRR p a l s g).e != 0) = false := by simp [e2]
  have te3 : ((stepRR p a l (stepRR p a l s g).s (h - g)).e != 0) = false := by simp [e3]
  have hj := HM.out g (h - g) (by omega) (by omega) e1 e2 e3
  have HJ1 := Lib.hid (fun w' => show Calls Try.prog 11 #[.agg #[.int .i64 ((stepRR p a l s h).s).t, .int .i64 ((stepRR p a l s h).s).p.x.lo, .int .i64 ((stepRR p a l s h).s).p.x.hi, .int .i64 ((stepRR p a l s h).s).p.y.lo, .int .i64 ((stepRR p a l s h).s).p.y.hi, .int .i64 ((stepRR p a l s h).s).p.z.lo, .int .i64 ((stepRR p a l s h).s).p.z.hi, .int .i64 ((stepRR p a l s h).s).v.x.lo, .int .i64 ((stepRR p a l s h).s).v.x.hi, .int .i64 ((stepRR p a l s h).s).v.y.lo, .int .i64 ((stepRR p a l s h).s).v.y.hi, .int .i64 ((stepRR p a l s h).s).v.z.lo, .int .i64 ((stepRR p a l s h).s).v.z.hi, .int .i64 ((stepRR p a l s h).s).m.lo, .int .i64 ((stepRR p a l s h).s).m.hi], .agg #[.int .i64 ((stepRR p a l (stepRR p a l s g).s (h - g)).s).t, .int .i64 ((stepRR p a l (stepRR p a l s g).s (h - g)).s).p.x.lo, .int .i64 ((stepRR p a l (stepRR p a l s g).s (h - g)).s).p.x.hi, .int .i64 ((stepRR p a l (stepRR p a l s g).s (h - g)).s).p.y.lo, .int .i64 ((stepRR p a l (stepRR p a l s g).s (h - g)).s).p.y.hi, .int .i64 ((stepRR p a l (stepRR p a l s g).s (h - g)).s).p.z.lo, .int .i64 ((stepRR p a l (stepRR p a l s g).s (h - g)).s).p.z.hi, .int .i64 ((stepRR p a l (stepRR p a l s g).s (h - g)).s).v.x.lo, .int .i64 ((stepRR p a l (stepRR p a l s g).s (h - g)).s).v.x.hi, .int .i64 ((stepRR p a l (stepRR p a l s g).s (h - g)).s).v.y.lo, .int .i64 ((stepRR p a l (stepRR p a l s g).s (h - g)).s).v.y.hi, .int .i64 ((stepRR p a l (stepRR p a l s g).s (h - g)).s).v.z.lo, .int .i64 ((stepRR p a l (stepRR p a l s g).s (h - g)).s).v.z.hi, .int .i64 ((stepRR p a l (stepRR p a l s g).s (h - g)).s).m.lo, .int .i64 ((stepRR p a l (stepRR p a l s g).s (h - g)).s).m.hi]] w' (RetSt (jointR (stepRR p a l s h).s (stepRR p a l (stepRR p a l s g).s (h - g)).s) w') from flJoint_any _ _ w')
  have tj : ((jointR (stepRR p a l s h).s (stepRR p a l (stepRR p a l s g).s (h - g)).s).e == 0) = true := by simp [hj]
  obtain ⟨q, hqd⟩ : ∃ q, part.tdiv 2 = q := ⟨_, rfl⟩
  have hq := tdiv_half part
  rw [hqd] at hq
  have HS2 := Lib.hid (fun (hq : (0 < q ∧ q < h) ∨ (h < q ∧ q < 0)) (z1 : (stepRR p a l s q).e = 0) (z2 : (stepRR p a l (stepRR p a l s q).s (h - q)).e = 0) => HM.out q (h - q) (by omega) (by omega) e1 z1 z2)
  have wq : IntKind.i64.wrap (part.tdiv 2) = q := by rw [hqd]; exact wrap_i64 _ (by omega) (by omega)
  have wq2 : IntKind.i64.wrap q = q := wrap_i64 _ (by omega) (by omega)
  have hQ : S64 (⟨q, q⟩ : Sp) := ⟨by unfold I64; simp only; omega, by unfold I64; simp only; omega⟩
  have H4 := Lib.hid (fun w' (g' : Grew w w') => show Calls Try.prog 9 #[.agg #[.int .i64 p.mu.lo, .int .i64 p.mu.hi, .int .i64 p.radius.lo, .int .i64 p.radius.hi, .int .i64 p.oblate.lo, .int .i64 p.oblate.hi, .int .i64 p.spin.lo, .int .i64 p.spin.hi, .int .i64 p.pull.x.lo, .int .i64 p.pull.x.hi, .int .i64 p.pull.y.lo, .int .i64 p.pull.y.hi, .int .i64 p.pull.z.lo, .int .i64 p.pull.z.hi], .agg #[.int .i64 a.time, .int .i64 a.step, .int .i64 a.thrust.lo, .int .i64 a.thrust.hi, .int .i64 a.flow.lo, .int .i64 a.flow.hi, .int .i64 a.dir.x.lo, .int .i64 a.dir.x.hi, .int .i64 a.dir.y.lo, .int .i64 a.dir.y.hi, .int .i64 a.dir.z.lo, .int .i64 a.dir.z.hi, .slice a.drag.ao a.drag.n a.drag.cap, .int .i64 a.drop.lo, .int .i64 a.drop.hi], .agg #[.int .i64 s.t, .int .i64 s.p.x.lo, .int .i64 s.p.x.hi, .int .i64 s.p.y.lo, .int .i64 s.p.y.hi, .int .i64 s.p.z.lo, .int .i64 s.p.z.hi, .int .i64 s.v.x.lo, .int .i64 s.v.x.hi, .int .i64 s.v.y.lo, .int .i64 s.v.y.hi, .int .i64 s.v.z.lo, .int .i64 s.v.z.hi, .int .i64 s.m.lo, .int .i64 s.m.hi], .int .i64 q] w' (RetS3 (stepRR p a l s q) w') from flStepE_any look_any p a l s q w' (hd.grew g'))
  have H5' := Lib.hid (fun (hR : S64 (⟨h - q, h - q⟩ : Sp)) w' (g' : Grew w w') => show Calls Try.prog 9 #[.agg #[.int .i64 p.mu.lo, .int .i64 p.mu.hi, .int .i64 p.radius.lo, .int .i64 p.radius.hi, .int .i64 p.oblate.lo, .int .i64 p.oblate.hi, .int .i64 p.spin.lo, .int .i64 p.spin.hi, .int .i64 p.pull.x.lo, .int .i64 p.pull.x.hi, .int .i64 p.pull.y.lo, .int .i64 p.pull.y.hi, .int .i64 p.pull.z.lo, .int .i64 p.pull.z.hi], .agg #[.int .i64 a.time, .int .i64 a.step, .int .i64 a.thrust.lo, .int .i64 a.thrust.hi, .int .i64 a.flow.lo, .int .i64 a.flow.hi, .int .i64 a.dir.x.lo, .int .i64 a.dir.x.hi, .int .i64 a.dir.y.lo, .int .i64 a.dir.y.hi, .int .i64 a.dir.z.lo, .int .i64 a.dir.z.hi, .slice a.drag.ao a.drag.n a.drag.cap, .int .i64 a.drop.lo, .int .i64 a.drop.hi], .agg #[.int .i64 ((stepRR p a l s q).s).t, .int .i64 ((stepRR p a l s q).s).p.x.lo, .int .i64 ((stepRR p a l s q).s).p.x.hi, .int .i64 ((stepRR p a l s q).s).p.y.lo, .int .i64 ((stepRR p a l s q).s).p.y.hi, .int .i64 ((stepRR p a l s q).s).p.z.lo, .int .i64 ((stepRR p a l s q).s).p.z.hi, .int .i64 ((stepRR p a l s q).s).v.x.lo, .int .i64 ((stepRR p a l s q).s).v.x.hi, .int .i64 ((stepRR p a l s q).s).v.y.lo, .int .i64 ((stepRR p a l s q).s).v.y.hi, .int .i64 ((stepRR p a l s q).s).v.z.lo, .int .i64 ((stepRR p a l s q).s).v.z.hi, .int .i64 ((stepRR p a l s q).s).m.lo, .int .i64 ((stepRR p a l s q).s).m.hi], .int .i64 (h - q)] w' (RetS3 (stepRR p a l (stepRR p a l s q).s (h - q)) w') from flStepE_any look_any p a l (stepRR p a l s q).s (h - q) w' (hd.grew g'))
  have HJ2 := Lib.hid (fun w' => show Calls Try.prog 11 #[.agg #[.int .i64 ((stepRR p a l s h).s).t, .int .i64 ((stepRR p a l s h).s).p.x.lo, .int .i64 ((stepRR p a l s h).s).p.x.hi, .int .i64 ((stepRR p a l s h).s).p.y.lo, .int .i64 ((stepRR p a l s h).s).p.y.hi, .int .i64 ((stepRR p a l s h).s).p.z.lo, .int .i64 ((stepRR p a l s h).s).p.z.hi, .int .i64 ((stepRR p a l s h).s).v.x.lo, .int .i64 ((stepRR p a l s h).s).v.x.hi, .int .i64 ((stepRR p a l s h).s).v.y.lo, .int .i64 ((stepRR p a l s h).s).v.y.hi, .int .i64 ((stepRR p a l s h).s).v.z.lo, .int .i64 ((stepRR p a l s h).s).v.z.hi, .int .i64 ((stepRR p a l s h).s).m.lo, .int .i64 ((stepRR p a l s h).s).m.hi], .agg #[.int .i64 ((stepRR p a l (stepRR p a l s q).s (h - q)).s).t, .int .i64 ((stepRR p a l (stepRR p a l s q).s (h - q)).s).p.x.lo, .int .i64 ((stepRR p a l (stepRR p a l s q).s (h - q)).s).p.x.hi, .int .i64 ((stepRR p a l (stepRR p a l s q).s (h - q)).s).p.y.lo, .int .i64 ((stepRR p a l (stepRR p a l s q).s (h - q)).s).p.y.hi, .int .i64 ((stepRR p a l (stepRR p a l s q).s (h - q)).s).p.z.lo, .int .i64 ((stepRR p a l (stepRR p a l s q).s (h - q)).s).p.z.hi, .int .i64 ((stepRR p a l (stepRR p a l s q).s (h - q)).s).v.x.lo, .int .i64 ((stepRR p a l (stepRR p a l s q).s (h - q)).s).v.x.hi, .int .i64 ((stepRR p a l (stepRR p a l s q).s (h - q)).s).v.y.lo, .int .i64 ((stepRR p a l (stepRR p a l s q).s (h - q)).s).v.y.hi, .int .i64 ((stepRR p a l (stepRR p a l s q).s (h - q)).s).v.z.lo, .int .i64 ((stepRR p a l (stepRR p a l s q).s (h - q)).s).v.z.hi, .int .i64 ((stepRR p a l (stepRR p a l s q).s (h - q)).s).m.lo, .int .i64 ((stepRR p a l (stepRR p a l s q).s (h - q)).s).m.hi]] w' (RetSt (jointR (stepRR p a l s h).s (stepRR p a l (stepRR p a l s q).s (h - q)).s) w') from flJoint_any _ _ w')
  clear HM hj hd
  generalize jointR (stepRR p a l s h).s (stepRR p a l (stepRR p a l s g).s (h - g)).s = J at *
  generalize jointR (stepRR p a l s h).s (stepRR p a l (stepRR p a l s q).s (h - q)).s = J2 at *
  generalize stepRR p a l (stepRR p a l s g).s (h - g) = O at *
  generalize stepRR p a l (stepRR p a l s q).s (h - q) = R at *
  generalize stepRR p a l s g = G at *
  generalize stepRR p a l s q = Q at *
  generalize stepRR p a l s h = N at *
  clear e1 e2 e3 hgd hqd
  have HT := Lib.hid ht
  have HQ := Lib.hid hq
  have Hh0 := Lib.hid h0
  clear ht hq h0
  go_enter Try.func4, Try.ntmps4
  go_upto_region 12 with (first | (go_at_call 7; (with_reducible refine call_later (l3Alive_any _) ?_); intro ua) | (go_at_call 8; (with_reducible refine call_later (HLong.out _ _ (SlAt.fresh _ _ _ _ (by simp [maxLen]))) ?_); intro ul) | (go_at_call 9; (with_reducible refine (H1.out _ ?_).mono ?_); (· exact gwr); rintro en w5 ⟨rfl, hg⟩; obtain ⟨u1, rfl⟩ := later_of hg; clear hg) | (go_at_call 9; (with_reducible refine (H2.out _ ?_).mono ?_); (· exact gwr); rintro en w6 ⟨rfl, hg⟩; obtain ⟨u2, rfl⟩ := later_of hg; clear hg) | (go_at_call 9; (with_reducible refine (H3.out _ ?_).mono ?_); (· exact gwr); rintro en w7 ⟨rfl, hg⟩; obtain ⟨u3, rfl⟩ := later_of hg; clear hg) | (go_at_call 11; (with_reducible refine (HJ1.out _).mono ?_); rintro en wj ⟨rfl, hg⟩; obtain ⟨uj1, rfl⟩ := later_of hg; clear hg) | ((with_reducible refine wpList_load_rng ?_ ?_ ?_ ?_ ?_ ?_ ?_ ?_ ?_ ?_ ?_ ?_); rotate_left 6; (· rfl); (· rfl); (· rfl); (· infer_instance); (· infer_instance)) | ((with_reducible refine wpList_load_is ?_ ?_ ?_ ?_ ?_ ?_ ?_ ?_ ?_ ?_ ?_ ?_ ?_); rotate_left 6; (· rfl); (· rfl); (· rfl); (· infer_instance); (· infer_instance); (· rfl)) | ((with_reducible refine wpList_store_fresh ?_ ?_ ?_ ?_ ?_ ?_ ?_ ?_ ?_ ?_ ?_ ?_ ?_ ?_ ?_ ?_ ?_); rotate_left 5; (· rfl); (· rfl); (· rfl); (· rfl); (· rfl); (· infer_instance); (· infer_instance); (· infer_instance); (· infer_instance)) | ((with_reducible refine wpList_store_is ?_ ?_ ?_ ?_ ?_ ?_ ?_ ?_ ?_ ?_ ?_ ?_ ?_ ?_ ?_ ?_ ?_); rotate_left 7; (· rfl); (· rfl); (· rfl); (· rfl); (· rfl); (· infer_instance); (· infer_instance); (· infer_instance); (· infer_instance)))
  refine wp_raw fun Y hY => ?_
  go_cut [136] (fun cd wx => ∃ b, (cd = .bool b ∧ (b = false → (0 < q ∧ q < h) ∨ (h < q ∧ q < 0))) ∧ wx = Y)
  case first =>
    subst hY
    by_cases c1 : part = 0
    · have d1 : (part == 0) = true := by simp [c1]
      clear c1
      go_wp2_with (first | ((with_reducible refine wpList_load_rng ?_ ?_ ?_ ?_ ?_ ?_ ?_ ?_ ?_ ?_ ?_ ?_); rotate_left 6; (· rfl); (· rfl); (· rfl); (· infer_instance); (· infer_instance)) | ((with_reducible refine wpList_load_is ?_ ?_ ?_ ?_ ?_ ?_ ?_ ?_ ?_ ?_ ?_ ?_ ?_); rotate_left 6; (· rfl); (· rfl); (· rfl); (· infer_instance); (· infer_instance); (· rfl)))
      go_meet
      case rel => exact ⟨_, ⟨rfl, by simp⟩, rfl⟩
    have d1 : (part == 0) = false := by simp [c1]
    by_cases c2 : q = 0
    · have d2 : (q == 0) = true := by simp [c2]
      clear c1 c2
      go_wp2_with (first | ((with_reducible refine wpList_load_rng ?_ ?_ ?_ ?_ ?_ ?_ ?_ ?_ ?_ ?_ ?_ ?_); rotate_left 6; (· rfl); (· rfl); (· rfl); (· infer_instance); (· infer_instance)) | ((with_reducible refine wpList_load_is ?_ ?_ ?_ ?_ ?_ ?_ ?_ ?_ ?_ ?_ ?_ ?_ ?_); rotate_left 6; (· rfl); (· rfl); (· rfl); (· infer_instance); (· infer_instance); (· rfl)))
      go_meet
      case rel => exact ⟨_, ⟨rfl, by simp⟩, rfl⟩
    have d2 : (q == 0) = false := by simp [c2]
    by_cases c3 : 0 < part
    · have d3 : decide (0 < part) = true := by simp [c3]
      by_cases c4 : 0 < h
      · have d4 : decide (0 < h) = true := by simp [c4]
        have d5 : decide (h < 0) = false := by simp; omega
        by_cases c6 : h ≤ q
        · have d6 : decide (h ≤ q) = true := by simp [c6]
          clear c1 c2 c3 c4 c6
          go_wp2_with (first | ((with_reducible refine wpList_load_rng ?_ ?_ ?_ ?_ ?_ ?_ ?_ ?_ ?_ ?_ ?_ ?_); rotate_left 6; (· rfl); (· rfl); (· rfl); (· infer_instance); (· infer_instance)) | ((with_reducible refine wpList_load_is ?_ ?_ ?_ ?_ ?_ ?_ ?_ ?_ ?_ ?_ ?_ ?_ ?_); rotate_left 6; (· rfl); (· rfl); (· rfl); (· infer_instance); (· infer_instance); (· rfl)))
          go_meet
          case rel => exact ⟨_, ⟨rfl, by simp⟩, rfl⟩
        · have d6 : decide (h ≤ q) = false := by simp; omega
          have d7 : decide (q ≤ h) = true := by simp; omega
          have hok : 0 < q ∧ q < h := by have := HQ.out; omega
          have Hok := Lib.hid hok
          clear c1 c2 c3 c4 c6 hok
          go_wp2_with (first | ((with_reducible refine wpList_load_rng ?_ ?_ ?_ ?_ ?_ ?_ ?_ ?_ ?_ ?_ ?_ ?_); rotate_left 6; (· rfl); (· rfl); (· rfl); (· infer_instance); (· infer_instance)) | ((with_reducible refine wpList_load_is ?_ ?_ ?_ ?_ ?_ ?_ ?_ ?_ ?_ ?_ ?_ ?_ ?_); rotate_left 6; (· rfl); (· rfl); (· rfl); (· infer_instance); (· infer_instance); (· rfl)))
          go_meet
          case rel => exact ⟨_, ⟨rfl, fun _ => .inl Hok.out⟩, rfl⟩
      · have d4 : decide (0 < h) = false := by simp; omega
        clear c1 c2 c3 c4
        go_wp2_with (first | ((with_reducible refine wpList_load_rng ?_ ?_ ?_ ?_ ?_ ?_ ?_ ?_ ?_ ?_ ?_ ?_); rotate_left 6; (· rfl); (· rfl); (· rfl); (· infer_instance); (· infer_instance)) | ((with_reducible refine wpList_load_is ?_ ?_ ?_ ?_ ?_ ?_ ?_ ?_ ?_ ?_ ?_ ?_ ?_); rotate_left 6; (· rfl); (· rfl); (· rfl); (· infer_instance); (· infer_instance); (· rfl)))
        go_meet
        case rel => exact ⟨_, ⟨rfl, by simp⟩, rfl⟩
    · have d3 : decide (0 < part) = false := by simp; omega
      by_cases c4 : 0 < h
      · have d4 : decide (0 < h) = true := by simp [c4]
        clear c1 c2 c3 c4
        go_wp2_with (first | ((with_reducible refine wpList_load_rng ?_ ?_ ?_ ?_ ?_ ?_ ?_ ?_ ?_ ?_ ?_ ?_); rotate_left 6; (· rfl); (· rfl); (· rfl); (· infer_instance); (· infer_instance)) | ((with_reducible refine wpList_load_is ?_ ?_ ?_ ?_ ?_ ?_ ?_ ?_ ?_ ?_ ?_ ?_ ?_); rotate_left 6; (· rfl); (· rfl); (· rfl); (· infer_instance); (· infer_instance); (· rfl)))
        go_meet
        case rel => exact ⟨_, ⟨rfl, by simp⟩, rfl⟩
      · have d4 : decide (0 < h) = false := by simp; omega
        have d5 : decide (h < 0) = true := by have := Hh0.out; simp; omega
        by_cases c6 : q ≤ h
        · have d6 : decide (q ≤ h) = true := by simp [c6]
          by_cases c7 : h ≤ q
          · have d7 : decide (h ≤ q) = true := by simp [c7]
            clear c1 c2 c3 c4 c6 c7
            go_wp2_with (first | ((with_reducible refine wpList_load_rng ?_ ?_ ?_ ?_ ?_ ?_ ?_ ?_ ?_ ?_ ?_ ?_); rotate_left 6; (· rfl); (· rfl); (· rfl); (· infer_instance); (· infer_instance)) | ((with_reducible refine wpList_load_is ?_ ?_ ?_ ?_ ?_ ?_ ?_ ?_ ?_ ?_ ?_ ?_ ?_); rotate_left 6; (· rfl); (· rfl); (· rfl); (· infer_instance); (· infer_instance); (· rfl)))
            go_meet
            case rel => exact ⟨_, ⟨rfl, by simp⟩, rfl⟩
          · have d7 : decide (h ≤ q) = false := by simp; omega
            clear c1 c2 c3 c4 c6 c7
            go_wp2_with (first | ((with_reducible refine wpList_load_rng ?_ ?_ ?_ ?_ ?_ ?_ ?_ ?_ ?_ ?_ ?_ ?_); rotate_left 6; (· rfl); (· rfl); (· rfl); (· infer_instance); (· infer_instance)) | ((with_reducible refine wpList_load_is ?_ ?_ ?_ ?_ ?_ ?_ ?_ ?_ ?_ ?_ ?_ ?_ ?_); rotate_left 6; (· rfl); (· rfl); (· rfl); (· infer_instance); (· infer_instance); (· rfl)))
            go_meet
            case rel => exact ⟨_, ⟨rfl, by simp⟩, rfl⟩
        · have d6 : decide (q ≤ h) = false := by simp; omega
          have d7 : decide (h ≤ q) = true := by simp; omega
          have hok : h < q ∧ q < 0 := by have := HQ.out; omega
          have Hok := Lib.hid hok
          clear c1 c2 c3 c4 c6 hok
          go_wp2_with (first | ((with_reducible refine wpList_load_rng ?_ ?_ ?_ ?_ ?_ ?_ ?_ ?_ ?_ ?_ ?_ ?_); rotate_left 6; (· rfl); (· rfl); (· rfl); (· infer_instance); (· infer_instance)) | ((with_reducible refine wpList_load_is ?_ ?_ ?_ ?_ ?_ ?_ ?_ ?_ ?_ ?_ ?_ ?_ ?_); rotate_left 6; (· rfl); (· rfl); (· rfl); (· infer_instance); (· infer_instance); (· rfl)))
          go_meet
          case rel => exact ⟨_, ⟨rfl, fun _ => .inr Hok.out⟩, rfl⟩
  case rest =>
    obtain ⟨b, ⟨rfl, hb⟩, rfl⟩ := hcut
    subst hY
    cases b
    rotate_left
    · go_wp2_with (first | ((with_reducible refine wpList_load_rng ?_ ?_ ?_ ?_ ?_ ?_ ?_ ?_ ?_ ?_ ?_ ?_); rotate_left 6; (· rfl); (· rfl); (· rfl); (· infer_instance); (· infer_instance)) | ((with_reducible refine wpList_load_is ?_ ?_ ?_ ?_ ?_ ?_ ?_ ?_ ?_ ?_ ?_ ?_ ?_); rotate_left 6; (· rfl); (· rfl); (· rfl); (· infer_instance); (· infer_instance); (· rfl)) | ((with_reducible refine wpList_store_fresh ?_ ?_ ?_ ?_ ?_ ?_ ?_ ?_ ?_ ?_ ?_ ?_ ?_ ?_ ?_ ?_ ?_); rotate_left 5; (· rfl); (· rfl); (· rfl); (· rfl); (· rfl); (· infer_instance); (· infer_instance); (· infer_instance); (· infer_instance)) | ((with_reducible refine wpList_store_is ?_ ?_ ?_ ?_ ?_ ?_ ?_ ?_ ?_ ?_ ?_ ?_ ?_ ?_ ?_ ?_ ?_); rotate_left 7; (· rfl); (· rfl); (· rfl); (· rfl); (· rfl); (· infer_instance); (· infer_instance); (· infer_instance); (· infer_instance)))
      go_ret
      exact ⟨rfl, gwr⟩
    have hok := hb rfl
    clear hb
    have wdq : IntKind.i64.wrap (h - q) = h - q := wrap_i64 _ (by omega) (by omega)
    have H5 := Lib.hid (H5'.out ⟨by unfold I64; simp only; omega, by unfold I64; simp only; omega⟩)
    have HF := Lib.hid (HS2.out hok)
    clear hok H5' HS2 HT HQ Hh0
    go_step
    go_step
    go_step
    go_step
    go_step
    exact meets_rest p a s h part q N Q R J J2 w _ _ _ _ _ gwr inferInstance inferInstance inferInstance inferInstance wq wq2 wdq tj HF.out H4.out H5.out HJ2.out _ _ _ _ _ _ _ _ _ _ _ _ _ _ _ _ _ _ _ _ _ _ _ _ _ _ _ _ _ _ _ _ _ _ _ _ _ _ _ _ _ _ _ _ _ _ _ _ _ _ _ _ _ _ _ _ _ _ _ _ _ _ _ _ _ _ _ _ _ _ _ _ _ _ _ _ _ _ _ _ _ _ _ _ _ _ _ _ _ _ _ _ _ _ _ _ _ _ _ _ _ _ _ _ _ _ _ _ _ _ _ _ _ _ _ _ _ _ _ _ _ _ _ _ _ _ _ _ _ _ _ _ _ _ _ _ _ _ _ _ _ _ _ _ _ _ _ _ _ _ _ _ _ _ _ _ _ _ _ _ _ _ _ _ _ _ _ _ _ _ _ _ _ _ _ _ _ _ _ _ _ _ _ _ _ _ _ _ _
theorem meets_walk (p : Planet) (a : Arc) (h : Int) (l : List Pt) (s : State) (part : Int) (_hpt : I64 part) [hp : Pl64 p] [hs : St64 s] [hh : S64 (⟨h, h⟩ : Sp)] [hat : S64 a.thrust] [haf : S64 a.flow] [had : B64 a.dir] (w : World) (hd : DragAt w a l) :
    Calls Try.prog 4 #[.agg #[.int .i64 p.mu.lo, .int .i64 p.mu.hi, .int .i64 p.radius.lo, .int .i64 p.radius.hi, .int .i64 p.oblate.lo, .int .i64 p.oblate.hi, .int .i64 p.spin.lo, .int .i64 p.spin.hi, .int .i64 p.pull.x.lo, .int .i64 p.pull.x.hi, .int .i64 p.pull.y.lo, .int .i64 p.pull.y.hi, .int .i64 p.pull.z.lo, .int .i64 p.pull.z.hi], .agg #[.int .i64 a.time, .int .i64 a.step, .int .i64 a.thrust.lo, .int .i64 a.thrust.hi, .int .i64 a.flow.lo, .int .i64 a.flow.hi, .int .i64 a.dir.x.lo, .int .i64 a.dir.x.hi, .int .i64 a.dir.y.lo, .int .i64 a.dir.y.hi, .int .i64 a.dir.z.lo, .int .i64 a.dir.z.hi, .slice a.drag.ao a.drag.n a.drag.cap, .int .i64 a.drop.lo, .int .i64 a.drop.hi, .int .i64 h], .agg #[.int .i64 s.t, .int .i64 s.p.x.lo, .int .i64 s.p.x.hi, .int .i64 s.p.y.lo, .int .i64 s.p.y.hi, .int .i64 s.p.z.lo, .int .i64 s.p.z.hi, .int .i64 s.v.x.lo, .int .i64 s.v.x.hi, .int .i64 s.v.y.lo, .int .i64 s.v.y.hi, .int .i64 s.v.z.lo, .int .i64 s.v.z.hi, .int .i64 s.m.lo, .int .i64 s.m.hi], .int .i64 part] w fun e w' => e = .returned (.bool true) ∧ Grew w w' := by
  cases hl : a.longB
  rotate_left
  · exact meets_l p a h l s part _hpt w hd hl
  by_cases h0 : h = 0
  · exact meets_0 p a h l s part _hpt w hd hl h0
  by_cases e1 : (stepRR p a l s h).e = 0
  rotate_left
  · exact meets_1 p a h l s part _hpt w hd hl h0 e1
  by_cases e2 : (stepRR p a l s (h.tdiv 2)).e = 0
  rotate_left
  · exact meets_2 p a h l s part _hpt w hd hl h0 e1 e2
  by_cases e3 : (stepRR p a l (stepRR p a l s (h.tdiv 2)).s (h - h.tdiv 2)).e = 0
  rotate_left
  · exact meets_3 p a h l s part _hpt w hd hl h0 e1 e2 e3
  exact meets_4 p a h l s part _hpt w hd hl h0 e1 e2 e3
namespace flightMeetsRow
open Go.ChangeShapes Go.WideShapes Go.ChangeAt Go.RowKit
theorem own : ownKnob Try.prog.godebug = none := by kernel_rfl
theorem lifted (os : Os) (started : os.Started) (H : Type) (enc : TypeId × Value → H) :
    ReturnsInHanded {} Try.checked os 4 .any (Rows.flightMeetsSpec.pre6 enc Try.prog Try.f4 Rows.flightMeetsRow.domain false) (Rows.flightMeetsSpec.post enc Try.prog Try.f4 false true false false) := by
  refine returnsInHanded_of_change (C := Try.checked) own started (by kernel_rfl) Try.func4
    (ChangeSpec.witness6 (enc := enc) (C := Try.checked) false ⟨#[], #[.agg #[.int .i64 0, .int .i64 0, .int .i64 0, .int .i64 0, .int .i64 0, .int .i64 0, .int .i64 0, .int .i64 0, .int .i64 0, .int .i64 0, .int .i64 0, .int .i64 0, .int .i64 0, .int .i64 0], .agg #[.int .i64 0, .int .i64 0, .int .i64 0, .int .i64 0, .int .i64 0, .int .i64 0, .int .i64 0, .int .i64 0, .int .i64 0, .int .i64 0, .int .i64 0, .int .i64 0, .slice none 0 0, .int .i64 0, .int .i64 0, .int .i64 0], .agg #[.int .i64 0, .int .i64 0, .int .i64 0, .int .i64 0, .int .i64 0, .int .i64 0, .int .i64 0, .int .i64 0, .int .i64 0, .int .i64 0, .int .i64 0, .int .i64 0, .int .i64 0, .int .i64 0, .int .i64 0], .int .i64 0], []⟩ 8 (by as_aux_lemma => kernel_rfl) (by as_aux_lemma => kernel_rfl) (by as_aux_lemma => kernel_rfl) (by as_aux_lemma => kernel_rfl)) ?_
  intro W base args ds gs before hval0 hW _ _
  have hval : ∀ (j : Nat) t v, Try.f4.params[j]? = some t → args[j]? = some v → Value.okWide Try.prog W .any base t v := hval0
  have hW' := hW
  obtain ⟨p, q, hA0, hV, rfl, hfz, hnd⟩ := hW
  have hA : DataW.TrodAll enc Try.prog W 0 (fun _ => true) true Try.f4.params.toList args.toList ds p := hA0
  rw [Try.params4] at hA hval
  obtain ⟨v0, vs0, d0, ds0, p0, q0, hargs, rfl, rfl, h0, r0⟩ := trodAll_cons hA
  obtain ⟨v1, vs1, d1, ds1, p1, q1, rfl, rfl, rfl, h1, r1⟩ := trodAll_cons r0
  obtain ⟨v2, vs2, d2, ds2, p2, q2, rfl, rfl, rfl, h2, r2⟩ := trodAll_cons r1
  obtain ⟨v3, vs3, d3, ds3, p3, q3, rfl, rfl, rfl, h3, r3⟩ := trodAll_cons r2
  obtain ⟨rfl, rfl, rfl⟩ := trodAll_nil r3
  obtain rfl : args = #[v0, v1, v2, v3] := by cases args; simp_all
  obtain ⟨rfl, rfl⟩ := trodVars_none hV
  obtain ⟨cs0, rfl, -⟩ := okWide_struct Try.underlying28 (hval 0 28 v0 rfl rfl)
  obtain ⟨cs1, rfl, -⟩ := okWide_struct Try.underlying33 (hval 1 33 v1 rfl rfl)
  obtain ⟨cs2, rfl, -⟩ := okWide_struct Try.underlying35 (hval 2 35 v2 rfl rfl)
  obtain ⟨a3, rfl, b3⟩ := open_num Try.underlying22 (hval 3 22 v3 rfl rfl) h3
  obtain ⟨_, h0⟩ := h0
  obtain ⟨_, h1⟩ := h1
  obtain ⟨_, h2⟩ := h2
  obtain ⟨a0, e0, j1, j2, j3, j4, j5, j6, j7, j8, j9, j10, j11, j12, j13, j14⟩ := planet_trod h0
  obtain ⟨a1, l1, k1, e1, hd, i3, i4, i5, i6, i7, i8, i9, i10, i11, i12, i13⟩ := move_trod h1
  obtain ⟨a2, e2, s1, s2, s3, s4, s5, s6, s7, s8, s9, s10, s11, s12, s13, s14, s15⟩ := state_trod h2
  obtain rfl : cs0 = a0.cells.toArray := Array.ext' (by simpa [Value.cells] using e0)
  obtain rfl : cs1 = #[.int .i64 a1.time, .int .i64 a1.step, .int .i64 a1.thrust.lo, .int .i64 a1.thrust.hi, .int .i64 a1.flow.lo, .int .i64 a1.flow.hi, .int .i64 a1.dir.x.lo, .int .i64 a1.dir.x.hi, .int .i64 a1.dir.y.lo, .int .i64 a1.dir.y.hi, .int .i64 a1.dir.z.lo, .int .i64 a1.dir.z.hi, .slice a1.drag.ao a1.drag.n a1.drag.cap, .int .i64 a1.drop.lo, .int .i64 a1.drop.hi, .int .i64 k1] := Array.ext' (by simpa [Value.cells] using e1)
  obtain rfl : cs2 = a2.cells.toArray := Array.ext' (by simpa [Value.cells] using e2)
  have hP : Pl64 a0 := ⟨⟨j1, j2⟩, ⟨j3, j4⟩, ⟨j5, j6⟩, ⟨j7, j8⟩, b64_of j9 j10 j11 j12 j13 j14⟩
  have hA1 : S64 a1.thrust := ⟨i3, i4⟩
  have hA3 : S64 a1.flow := ⟨i5, i6⟩
  have hA2 : B64 a1.dir := b64_of i7 i8 i9 i10 i11 i12
  have hH : S64 (⟨k1, k1⟩ : Sp) := ⟨i13, i13⟩
  have hS : St64 a2 := ⟨s1, b64_of s2 s3 s4 s5 s6 s7, b64_of s8 s9 s10 s11 s12 s13, ⟨s14, s15⟩⟩
  refine (meets_walk a0 a1 k1 l1 a2 a3 b3 W hd).mono fun e W' ⟨he, hg⟩ => ?_
  subst he
  exact ⟨_, rfl, law_post (by kernel_rfl) (by kernel_rfl) rfl rfl Try.underlying4 hW' rfl hg⟩
theorem proved : Rows.FlightMeetsSaid :=
  OpenClaim.holds_of_wide 4 Try.f4 rfl rfl rfl rfl rfl rfl rfl ⟨rfl, rfl, rfl, rfl, rfl⟩ rfl rfl rfl rfl rfl (by as_aux_lemma => kernel_rfl) Try.func4 (by as_aux_lemma => kernel_rfl)
    (of_decide_eq_true (by as_aux_lemma => kernel_rfl)) (by unfold Func.isWrapper; first | (rw [if_pos (by decide +kernel)]; kernel_rfl) | (rw [if_neg (by decide +kernel)]; exact ⟨rfl, rfl⟩))
    (fun os started H enc _ => lifted os started H enc)
end flightMeetsRow
end Go.Proofs.Ytfcdpilkcinnjaa
