/-
  Ullageref03's force: the turning of a planet.
-/
import Derived.Test.YtnedbhdokljpcaaGreatForceRD
namespace Go.Proofs.YtnedbhdokljpcaaGreat
open Go.RowKit Go.Shelf
set_option maxRecDepth 100000
set_option maxHeartbeats 32000000
theorem r3C (HL : LookOk 122) (pP : Planet) (x : Arc) (l : List Pt) (q v : Bx) (m : Sp) [hp : Pl64 pP] [hq : B64 q] [hv : B64 v] [hm : S64 m] [hxt : S64 x.thrust] [hxd : B64 x.dir] (c : Nat) (e : Int) (w : World) (hc : w.cell? ⟨c, 0, none⟩ = some (.int .i64 e))
    (hdn : x.drag.n = l.length) (HS : ∀ wx, But c w wx → SlAt wx (.slice x.drag.ao l.length x.drag.cap) l.length (l.flatMap Pt.cells))
    (NR : Res) (OP : BRes) [sN : S64 NR.s] [bP : B64 OP.b] (u15 u16 u17 u18 u19 u20 u21 u22 u23 u24 u25 u26 u27 u28 u29 u30 u31 u32 u33 u34 u35 u36 u37 u38 u39 u40 u41 u42 u43 u44 u45 u46 u47 u48 u49 u50 u51 u52 u53 u54 u55 u56 u57 u58 u59 u60 u61 u62 u63 u64 u65 u66 u67 u68 u69 u70 u71 u72 u73 u74 u75 u76 u77 u78 u79 u80 u81 u82 u83 u84 u85 u86 u87 u88 u89 u90 u91 u92 u93 u94 u95 u96 u97 u98 u99 u100 u101 u102 u103 u104 u105 u106 u107 u108 u109 u110 u111 u112 u113 u114 u115 u116 u117 u118 u119 u120 u121 u122 u123 u124 u125 u126 u127 u128 u129 u130 u131 u132 u133 u134 u135 u136 u137 u138 u139 u140 u141 u142 u143 u144 u145 u146 u147 u148 u149 u150 u151 u152 u153 u154 u155 u156 u157 u158 u159 u160 u161 u162 u163 u164 u165 u166 u167 u168 u169 u170 u171 u172 u173 u174 u175 u176 u177 u178 u179 u180 u181 u182 u183 u184 u185 u186 u187 u188 u189 u190 u191 u192 u193 u194 u195 u196 u197 u198 u199 u200 u201 u202 u203 u204 u205 u206 u207 u208 u209 : Value) (wc : World) (hF : FrG c w pP x q v m (OP.e) (NR.s) (OP.b) wc) :
    (tlC (tlC (tlC (tlC (tlC (Tryz.f72.body.getD .skip)))))).wp Tryz.prog (bodyPost Tryz.prog Tryz.f72 (RetC c (.agg #[.int .i64 ((dragG pP l v m NR.s (thrustG x m (spinR pP.spin q v OP))).b).x.lo, .int .i64 ((dragG pP l v m NR.s (thrustG x m (spinR pP.spin q v OP))).b).x.hi, .int .i64 ((dragG pP l v m NR.s (thrustG x m (spinR pP.spin q v OP))).b).y.lo, .int .i64 ((dragG pP l v m NR.s (thrustG x m (spinR pP.spin q v OP))).b).y.hi, .int .i64 ((dragG pP l v m NR.s (thrustG x m (spinR pP.spin q v OP))).b).z.lo, .int .i64 ((dragG pP l v m NR.s (thrustG x m (spinR pP.spin q v OP))).b).z.hi]) (dragG pP l v m NR.s (thrustG x m (spinR pP.spin q v OP))).e w)) { tmps := #[.pointer (some ⟨c, 0, none⟩), .agg pP.cells.toArray, .agg x.cells.toArray, .agg #[.int .i64 q.x.lo, .int .i64 q.x.hi, .int .i64 q.y.lo, .int .i64 q.y.hi, .int .i64 q.z.lo, .int .i64 q.z.hi], .agg #[.int .i64 v.x.lo, .int .i64 v.x.hi, .int .i64 v.y.lo, .int .i64 v.y.hi, .int .i64 v.z.lo, .int .i64 v.z.hi], .agg #[.int .i64 m.lo, .int .i64 m.hi], undef, .pointer (some ⟨w.heap.size, 0, none⟩), .pointer (some ⟨w.heap.size + 1, 0, none⟩), .pointer (some ⟨w.heap.size + 1 + 1, 0, none⟩), .pointer (some ⟨w.heap.size + 1 + 1 + 1, 0, none⟩), .pointer (some ⟨w.heap.size + 1 + 1 + 1 + 1, 0, none⟩), .pointer (some ⟨w.heap.size + 1 + 1 + 1 + 1 + 1, 0, none⟩), .pointer (some ⟨w.heap.size + 1 + 1 + 1 + 1 + 1 + 1, 0, none⟩), .pointer (some ⟨w.heap.size + 1 + 1 + 1 + 1 + 1 + 1 + 1, 0, none⟩), u15, u16, u17, u18, u19, u20, u21, u22, u23, u24, u25, u26, u27, u28, u29, u30, u31, u32, u33, u34, u35, u36, u37, u38, u39, u40, u41, u42, u43, u44, u45, u46, u47, u48, u49, u50, u51, u52, u53, u54, u55, u56, u57, u58, u59, u60, u61, u62, u63, u64, u65, u66, u67, u68, u69, u70, u71, u72, u73, u74, u75, u76, u77, u78, u79, u80, u81, u82, u83, u84, u85, u86, u87, u88, u89, u90, u91, u92, u93, u94, u95, u96, u97, u98, u99, u100, u101, u102, u103, u104, u105, u106, u107, u108, u109, u110, u111, u112, u113, u114, u115, u116, u117, u118, u119, u120, u121, u122, u123, u124, u125, u126, u127, u128, u129, u130, u131, u132, u133, u134, u135, u136, u137, u138, u139, u140, u141, u142, u143, u144, u145, u146, u147, u148, u149, u150, u151, u152, u153, u154, u155, u156, u157, u158, u159, u160, u161, u162, u163, u164, u165, u166, u167, u168, u169, u170, u171, u172, u173, u174, u175, u176, u177, u178, u179, u180, u181, u182, u183, u184, u185, u186, u187, u188, u189, u190, u191, u192, u193, u194, u195, u196, u197, u198, u199, u200, u201, u202, u203, u204, u205, u206, u207, u208, u209], defers := [] } wc := by
  have ib : BlockIn w c := BlockIn.of_cell hc
  have Hc := Lib.hid hc
  have hlt := ib.lt
  have hlen := (HS w (But.refl hc)).len_le
  unfold maxLen at hlen
  have HLE := Lib.hid (show l.isEmpty = decide (l.length = 0) by cases l <;> simp)
  have HHS := Lib.hid HS
  clear HS
  have hdl := Lib.hid hdn
  clear hdn
  have : Apart (w.heap.size) (c) := ⟨by omega⟩
  have : Apart (w.heap.size + 1) (c) := ⟨by omega⟩
  have : Apart (w.heap.size + 1 + 1) (c) := ⟨by omega⟩
  have : Apart (w.heap.size + 1 + 1 + 1) (c) := ⟨by omega⟩
  have : Apart (w.heap.size + 1 + 1 + 1 + 1) (c) := ⟨by omega⟩
  have : Apart (w.heap.size + 1 + 1 + 1 + 1 + 1) (c) := ⟨by omega⟩
  have : Apart (w.heap.size + 1 + 1 + 1 + 1 + 1 + 1) (c) := ⟨by omega⟩
  have : Apart (w.heap.size + 1 + 1 + 1 + 1 + 1 + 1 + 1) (c) := ⟨by omega⟩
  have : Apart (w.heap.size) (w.heap.size + 1 + 1 + 1 + 1 + 1 + 1) := ⟨by omega⟩
  have : Apart (w.heap.size + 1) (w.heap.size + 1 + 1 + 1 + 1 + 1 + 1) := ⟨by omega⟩
  have : Apart (w.heap.size + 1 + 1) (w.heap.size + 1 + 1 + 1 + 1 + 1 + 1) := ⟨by omega⟩
  have : Apart (w.heap.size + 1 + 1 + 1) (w.heap.size + 1 + 1 + 1 + 1 + 1 + 1) := ⟨by omega⟩
  have : Apart (w.heap.size + 1 + 1 + 1 + 1) (w.heap.size + 1 + 1 + 1 + 1 + 1 + 1) := ⟨by omega⟩
  have : Apart (w.heap.size + 1 + 1 + 1 + 1 + 1) (w.heap.size + 1 + 1 + 1 + 1 + 1 + 1) := ⟨by omega⟩
  have : Apart (w.heap.size + 1 + 1 + 1 + 1 + 1 + 1 + 1) (w.heap.size + 1 + 1 + 1 + 1 + 1 + 1) := ⟨by omega⟩
  have : Apart (c) (w.heap.size + 1 + 1 + 1 + 1 + 1 + 1) := ⟨by omega⟩
  obtain ⟨hb, h2, h3, m1, m2, m3, m4, m5, m6, m7, m8⟩ := hF
  have Hb := Lib.hid hb
  have nwc : NewFor w wc.heap.size := ⟨hb.size⟩
  have ibw : BlockIn wc c := BlockIn.of_cell h2
  have hcw : HasCell wc c 0 := ⟨_, h2⟩
  have i1 := m1.blockIn
  have i2 := m2.blockIn
  have i3 := m3.blockIn
  have i4 := m4.blockIn
  have i5 := m5.blockIn
  have i6 := m6.blockIn
  have i7 := m7.blockIn
  have i8 := m8.blockIn
  clear hb
  have bS : B64 (spinR pP.spin q v OP).b := b64_spin _ _ _ _
  have HK := Lib.hid (r3D HL pP x l q v m c e w hc hdl.out HHS.out NR (spinR pP.spin q v OP))
  have HOS := Lib.hid (show spinR pP.spin q v OP = spinR pP.spin q v OP from rfl)
  generalize hOS : spinR pP.spin q v OP = OS at *
  replace HOS := Lib.hid hOS.symm
  clear hOS
  have HZ := Lib.hid (fun w' => r3Point0_any pP.spin w')
  have : S64 (spE pP.spin OP).s := s64_do _ _
  have : S64 (spA1 pP.spin v OP).s := s64_do _ _
  have : S64 (spA2 pP.spin v OP).s := s64_do _ _
  have : S64 (spA3 pP.spin v OP).s := s64_do _ _
  have : S64 (spA4 pP.spin q v OP).s := s64_do _ _
  have : S64 (spA5 pP.spin q v OP).s := s64_do _ _
  have : S64 (spB1 pP.spin q v OP).s := s64_do _ _
  have : S64 (spB2 pP.spin q v OP).s := s64_do _ _
  have : S64 (spB3 pP.spin q v OP).s := s64_do _ _
  have : S64 (spB4 pP.spin q v OP).s := s64_do _ _
  have : S64 (spB5 pP.spin q v OP).s := s64_do _ _
  have C0 := Lib.hid (fun w hc hf => show Calls Tryz.prog 60 #[.pointer (some ⟨c, 0, none⟩), .agg #[.int .i64 pP.spin.lo, .int .i64 pP.spin.hi]] w (RetC c (.agg #[.int .i64 ((spE pP.spin OP).s).lo, .int .i64 ((spE pP.spin OP).s).hi]) (spE pP.spin OP).e w) from rcSquare_any c OP.e pP.spin w hc hf)
  have C1 := Lib.hid (fun w hc hf => show Calls Tryz.prog 58 #[.pointer (some ⟨c, 0, none⟩), .agg #[.int .i64 pP.spin.lo, .int .i64 pP.spin.hi], .agg #[.int .i64 v.y.lo, .int .i64 v.y.hi]] w (RetC c (.agg #[.int .i64 ((spA1 pP.spin v OP).s).lo, .int .i64 ((spA1 pP.spin v OP).s).hi]) (spA1 pP.spin v OP).e w) from rcMul_any c (spE pP.spin OP).e pP.spin v.y w hc hf)
  have C2 := Lib.hid (fun w hc hf => show Calls Tryz.prog 137 #[.pointer (some ⟨c, 0, none⟩), .agg #[.int .i64 ((spA1 pP.spin v OP).s).lo, .int .i64 ((spA1 pP.spin v OP).s).hi], .int .i64 2] w (RetC c (.agg #[.int .i64 ((spA2 pP.spin v OP).s).lo, .int .i64 ((spA2 pP.spin v OP).s).hi]) (spA2 pP.spin v OP).e w) from rcScale_any c (spA1 pP.spin v OP).e (spA1 pP.spin v OP).s 2 w hc hf)
  have C3 := Lib.hid (fun w hc hf => show Calls Tryz.prog 86 #[.pointer (some ⟨c, 0, none⟩), .agg #[.int .i64 OP.b.x.lo, .int .i64 OP.b.x.hi], .agg #[.int .i64 ((spA2 pP.spin v OP).s).lo, .int .i64 ((spA2 pP.spin v OP).s).hi]] w (RetC c (.agg #[.int .i64 ((spA3 pP.spin v OP).s).lo, .int .i64 ((spA3 pP.spin v OP).s).hi]) (spA3 pP.spin v OP).e w) from rcAdd_any c (spA2 pP.spin v OP).e OP.b.x (spA2 pP.spin v OP).s w hc hf)
  have C4 := Lib.hid (fun w hc hf => show Calls Tryz.prog 58 #[.pointer (some ⟨c, 0, none⟩), .agg #[.int .i64 ((spE pP.spin OP).s).lo, .int .i64 ((spE pP.spin OP).s).hi], .agg #[.int .i64 q.x.lo, .int .i64 q.x.hi]] w (RetC c (.agg #[.int .i64 ((spA4 pP.spin q v OP).s).lo, .int .i64 ((spA4 pP.spin q v OP).s).hi]) (spA4 pP.spin q v OP).e w) from rcMul_any c (spA3 pP.spin v OP).e (spE pP.spin OP).s q.x w hc hf)
  have C5 := Lib.hid (fun w hc hf => show Calls Tryz.prog 86 #[.pointer (some ⟨c, 0, none⟩), .agg #[.int .i64 ((spA3 pP.spin v OP).s).lo, .int .i64 ((spA3 pP.spin v OP).s).hi], .agg #[.int .i64 ((spA4 pP.spin q v OP).s).lo, .int .i64 ((spA4 pP.spin q v OP).s).hi]] w (RetC c (.agg #[.int .i64 ((spA5 pP.spin q v OP).s).lo, .int .i64 ((spA5 pP.spin q v OP).s).hi]) (spA5 pP.spin q v OP).e w) from rcAdd_any c (spA4 pP.spin q v OP).e (spA3 pP.spin v OP).s (spA4 pP.spin q v OP).s w hc hf)
  have D1 := Lib.hid (fun w hc hf => show Calls Tryz.prog 58 #[.pointer (some ⟨c, 0, none⟩), .agg #[.int .i64 pP.spin.lo, .int .i64 pP.spin.hi], .agg #[.int .i64 v.x.lo, .int .i64 v.x.hi]] w (RetC c (.agg #[.int .i64 ((spB1 pP.spin q v OP).s).lo, .int .i64 ((spB1 pP.spin q v OP).s).hi]) (spB1 pP.spin q v OP).e w) from rcMul_any c (spA5 pP.spin q v OP).e pP.spin v.x w hc hf)
  have D2 := Lib.hid (fun w hc hf => show Calls Tryz.prog 137 #[.pointer (some ⟨c, 0, none⟩), .agg #[.int .i64 ((spB1 pP.spin q v OP).s).lo, .int .i64 ((spB1 pP.spin q v OP).s).hi], .int .i64 2] w (RetC c (.agg #[.int .i64 ((spB2 pP.spin q v OP).s).lo, .int .i64 ((spB2 pP.spin q v OP).s).hi]) (spB2 pP.spin q v OP).e w) from rcScale_any c (spB1 pP.spin q v OP).e (spB1 pP.spin q v OP).s 2 w hc hf)
  have D3 := Lib.hid (fun w hc hf => show Calls Tryz.prog 41 #[.pointer (some ⟨c, 0, none⟩), .agg #[.int .i64 OP.b.y.lo, .int .i64 OP.b.y.hi], .agg #[.int .i64 ((spB2 pP.spin q v OP).s).lo, .int .i64 ((spB2 pP.spin q v OP).s).hi]] w (RetC c (.agg #[.int .i64 ((spB3 pP.spin q v OP).s).lo, .int .i64 ((spB3 pP.spin q v OP).s).hi]) (spB3 pP.spin q v OP).e w) from rcSub_any c (spB2 pP.spin q v OP).e OP.b.y (spB2 pP.spin q v OP).s w hc hf)
  have D4 := Lib.hid (fun w hc hf => show Calls Tryz.prog 58 #[.pointer (some ⟨c, 0, none⟩), .agg #[.int .i64 ((spE pP.spin OP).s).lo, .int .i64 ((spE pP.spin OP).s).hi], .agg #[.int .i64 q.y.lo, .int .i64 q.y.hi]] w (RetC c (.agg #[.int .i64 ((spB4 pP.spin q v OP).s).lo, .int .i64 ((spB4 pP.spin q v OP).s).hi]) (spB4 pP.spin q v OP).e w) from rcMul_any c (spB3 pP.spin q v OP).e (spE pP.spin OP).s q.y w hc hf)
  have D5 := Lib.hid (fun w hc hf => show Calls Tryz.prog 86 #[.pointer (some ⟨c, 0, none⟩), .agg #[.int .i64 ((spB3 pP.spin q v OP).s).lo, .int .i64 ((spB3 pP.spin q v OP).s).hi], .agg #[.int .i64 ((spB4 pP.spin q v OP).s).lo, .int .i64 ((spB4 pP.spin q v OP).s).hi]] w (RetC c (.agg #[.int .i64 ((spB5 pP.spin q v OP).s).lo, .int .i64 ((spB5 pP.spin q v OP).s).hi]) (spB5 pP.spin q v OP).e w) from rcAdd_any c (spB4 pP.spin q v OP).e (spB3 pP.spin q v OP).s (spB4 pP.spin q v OP).s w hc hf)
  have HO1 := Lib.hid (fun (h : zeroB pP.spin = true) => show OS = OP by have h1 := HOS.out; unfold spinR at h1; rw [h] at h1; exact h1)
  have HO2 := Lib.hid (fun (h : zeroB pP.spin = false) => show OS = ⟨⟨(spA5 pP.spin q v OP).s, (spB5 pP.spin q v OP).s, OP.b.z⟩, (spB5 pP.spin q v OP).e⟩ by have h1 := HOS.out; unfold spinR at h1; rw [h] at h1; exact h1)
  clear HOS
  generalize spE pP.spin OP = rE at *
  generalize spA1 pP.spin v OP = rA1 at *
  generalize spB1 pP.spin q v OP = rB1 at *
  generalize spA2 pP.spin v OP = rA2 at *
  generalize spB2 pP.spin q v OP = rB2 at *
  generalize spA3 pP.spin v OP = rA3 at *
  generalize spB3 pP.spin q v OP = rB3 at *
  generalize spA4 pP.spin q v OP = rA4 at *
  generalize spB4 pP.spin q v OP = rB4 at *
  generalize spA5 pP.spin q v OP = rA5 at *
  generalize spB5 pP.spin q v OP = rB5 at *
  generalize zeroB pP.spin = zs at *
  conv => arg 2; dsimp only [tlC, Tryz.f72, Option.getD]
  go_upto_if 99 with (go_at_call 135; (with_reducible refine call_later (HZ.out _) ?_); intro u1)
  go_cut [] (fun wx => FrG c w pP x q v m (OS.e) (NR.s) (OS.b) wx)
  case first =>
    cases zs
    · have hN := HO2.out (by first | rfl | trivial)
      go_wp2_with (go_at_call 60; (with_reducible refine call_calc (C0.out _ ?_ ?_) ?_); (· go_simp); (· go_simp); intro u2)
      refine wp_region_calc c [rE.e, rA1.e, rA2.e, rA3.e, rA4.e, rA5.e] 19 [] [9, 10, 11, 16, 17] [] (fun W0 => []) [.agg #[.int .i64 rA1.s.lo, .int .i64 rA1.s.hi], .agg #[.int .i64 rA2.s.lo, .int .i64 rA2.s.hi], .agg #[.int .i64 rA3.s.lo, .int .i64 rA3.s.hi], .agg #[.int .i64 rA4.s.lo, .int .i64 rA4.s.hi], .agg #[.int .i64 rA5.s.lo, .int .i64 rA5.s.hi]] [19] (by rfl) (by go_simp) (by go_simp) (fun _ _ x hx => absurd hx (List.not_mem_nil)) (by kernel_rfl) (by kernel_rfl) (by kernel_rfl) ?_
      intro pz hd0
      apply Exists.intro
      apply And.intro
      apply lexc_pure hd0 (by kernel_rfl)
      · intro uz xc; unfold opPure; go_simp; rfl
      apply lexc_pure hd0 (by kernel_rfl)
      · intro uz xc; unfold opPure; go_simp; rfl
      apply lexc_pure hd0 (by kernel_rfl)
      · intro uz xc; unfold opPure; go_simp; rfl
      apply lexc_pure hd0 (by kernel_rfl)
      · intro uz xc; unfold opPure; go_simp; rfl
      apply lexc_pure hd0 (by kernel_rfl)
      · intro uz xc; unfold opPure; go_simp; rfl
      apply lexc_pure hd0 (by kernel_rfl)
      · intro uz xc; unfold opPure; go_simp; rfl
      apply lexc_pure hd0 (by kernel_rfl)
      · intro uz xc; unfold opPure; go_simp; rfl
      apply lexc_pure hd0 (by kernel_rfl)
      · intro uz xc; unfold opPure; go_simp; rfl
      apply lexc_pure hd0 (by kernel_rfl)
      · intro uz xc; unfold opPure; go_simp; rfl
      apply lexc_call hd0 0 (by kernel_rfl) (by rfl) (by decide)
      · intro uz hfz hF; clear hF; unfold opCall; go_simp; exact C1.out _ (by go_simp) hfz
      apply lexc_call hd0 1 (by kernel_rfl) (by rfl) (by decide)
      · intro uz hfz hF; clear hF; unfold opCall; go_simp; exact C2.out _ (by go_simp) hfz
      apply lexc_call hd0 2 (by kernel_rfl) (by rfl) (by decide)
      · intro uz hfz hF; clear hF; unfold opCall; go_simp; exact C3.out _ (by go_simp) hfz
      apply lexc_pure hd0 (by kernel_rfl)
      · intro uz xc; unfold opPure; go_simp; rfl
      apply lexc_pure hd0 (by kernel_rfl)
      · intro uz xc; unfold opPure; go_simp; rfl
      apply lexc_pure hd0 (by kernel_rfl)
      · intro uz xc; unfold opPure; go_simp; rfl
      apply lexc_pure hd0 (by kernel_rfl)
      · intro uz xc; unfold opPure; go_simp; rfl
      apply lexc_call hd0 3 (by kernel_rfl) (by rfl) (by decide)
      · intro uz hfz hF; clear hF; unfold opCall; go_simp; exact C4.out _ (by go_simp) hfz
      apply lexc_call hd0 4 (by kernel_rfl) (by rfl) (by decide)
      · intro uz hfz hF; clear hF; unfold opCall; go_simp; exact C5.out _ (by go_simp) hfz
      apply lexc_pure hd0 (by kernel_rfl)
      · intro uz xc; unfold opPure; go_simp; rfl
      apply lexc_end
      rotate_left
      · rfl
      intro uz hR hD hfz
      clear hR hD
      refine tail_store (by rfl) ?_; unfold opStore; go_simp
      refine tail_end ?_
      go_wp2
      refine wp_region_calc c [rA5.e, rB1.e, rB2.e, rB3.e, rB4.e, rB5.e] 19 [] [9, 10, 11, 16, 17] [] (fun W0 => []) [.agg #[.int .i64 rB1.s.lo, .int .i64 rB1.s.hi], .agg #[.int .i64 rB2.s.lo, .int .i64 rB2.s.hi], .agg #[.int .i64 rB3.s.lo, .int .i64 rB3.s.hi], .agg #[.int .i64 rB4.s.lo, .int .i64 rB4.s.hi], .agg #[.int .i64 rB5.s.lo, .int .i64 rB5.s.hi]] [19] (by rfl) (by go_simp) (by go_simp) (fun _ _ x hx => absurd hx (List.not_mem_nil)) (by kernel_rfl) (by kernel_rfl) (by kernel_rfl) ?_
      intro pz hd0
      apply Exists.intro
      apply And.intro
      apply lexc_pure hd0 (by kernel_rfl)
      · intro uz xc; unfold opPure; go_simp; rfl
      apply lexc_pure hd0 (by kernel_rfl)
      · intro uz xc; unfold opPure; go_simp; rfl
      apply lexc_pure hd0 (by kernel_rfl)
      · intro uz xc; unfold opPure; go_simp; rfl
      apply lexc_pure hd0 (by kernel_rfl)
      · intro uz xc; unfold opPure; go_simp; rfl
      apply lexc_pure hd0 (by kernel_rfl)
      · intro uz xc; unfold opPure; go_simp; rfl
      apply lexc_pure hd0 (by kernel_rfl)
      · intro uz xc; unfold opPure; go_simp; rfl
      apply lexc_pure hd0 (by kernel_rfl)
      · intro uz xc; unfold opPure; go_simp; rfl
      apply lexc_pure hd0 (by kernel_rfl)
      · intro uz xc; unfold opPure; go_simp; rfl
      apply lexc_pure hd0 (by kernel_rfl)
      · intro uz xc; unfold opPure; go_simp; rfl
      apply lexc_call hd0 0 (by kernel_rfl) (by rfl) (by decide)
      · intro uz hfz hF; clear hF; unfold opCall; go_simp; exact D1.out _ (by go_simp) hfz
      apply lexc_call hd0 1 (by kernel_rfl) (by rfl) (by decide)
      · intro uz hfz hF; clear hF; unfold opCall; go_simp; exact D2.out _ (by go_simp) hfz
      apply lexc_call hd0 2 (by kernel_rfl) (by rfl) (by decide)
      · intro uz hfz hF; clear hF; unfold opCall; go_simp; exact D3.out _ (by go_simp) hfz
      apply lexc_pure hd0 (by kernel_rfl)
      · intro uz xc; unfold opPure; go_simp; rfl
      apply lexc_pure hd0 (by kernel_rfl)
      · intro uz xc; unfold opPure; go_simp; rfl
      apply lexc_pure hd0 (by kernel_rfl)
      · intro uz xc; unfold opPure; go_simp; rfl
      apply lexc_pure hd0 (by kernel_rfl)
      · intro uz xc; unfold opPure; go_simp; rfl
      apply lexc_call hd0 3 (by kernel_rfl) (by rfl) (by decide)
      · intro uz hfz hF; clear hF; unfold opCall; go_simp; exact D4.out _ (by go_simp) hfz
      apply lexc_call hd0 4 (by kernel_rfl) (by rfl) (by decide)
      · intro uz hfz hF; clear hF; unfold opCall; go_simp; exact D5.out _ (by go_simp) hfz
      apply lexc_pure hd0 (by kernel_rfl)
      · intro uz xc; unfold opPure; go_simp; rfl
      apply lexc_end
      rotate_left
      · rfl
      intro uz hR hD hfz
      clear hR hD
      refine tail_store (by rfl) ?_; unfold opStore; go_simp
      refine tail_end ?_
      go_wp2
      go_meet
      case rel => exact ⟨(by repeat (first | with_reducible exact Hb.out | with_reducible apply But.alloc | with_reducible apply But.later | with_reducible apply But.drew | with_reducible apply But.put | with_reducible apply But.store)), by rw [hN]; go_simp, by go_simp, inferInstance, inferInstance, inferInstance, inferInstance, inferInstance, inferInstance, rowIs_cast inferInstance (by rw [hN]; rfl), inferInstance⟩
    · have hN := HO1.out (by first | rfl | trivial)
      go_wp2
      go_meet
      case rel => exact ⟨(by repeat (first | with_reducible exact Hb.out | with_reducible apply But.alloc | with_reducible apply But.later | with_reducible apply But.drew | with_reducible apply But.put | with_reducible apply But.store)), by rw [hN]; go_simp, by go_simp, inferInstance, inferInstance, inferInstance, inferInstance, inferInstance, inferInstance, rowIs_cast inferInstance (by rw [hN]), inferInstance⟩
  case rest =>
  go_step
  exact HK.out _ _ _ _ _ _ _ _ _ _ _ _ _ _ _ _ _ _ _ _ _ _ _ _ _ _ _ _ _ _ _ _ _ _ _ _ _ _ _ _ _ _ _ _ _ _ _ _ _ _ _ _ _ _ _ _ _ _ _ _ _ _ _ _ _ _ _ _ _ _ _ _ _ _ _ _ _ _ _ _ _ _ _ _ _ _ _ _ _ _ _ _ _ _ _ _ _ _ _ _ _ _ _ _ _ _ _ _ _ _ _ _ _ _ _ _ _ _ _ _ _ _ _ _ _ _ _ _ _ _ _ _ _ _ _ _ _ _ _ _ _ _ _ _ _ _ _ _ _ _ _ _ _ _ _ _ _ _ _ _ _ _ _ _ _ _ _ _ _ _ _ _ _ _ _ _ _ _ _ _ _ _ _ _ _ _ _ _ _ _ _ _ _ _ _ wc hcut
end Go.Proofs.YtnedbhdokljpcaaGreat
