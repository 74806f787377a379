/-
  Ullageref03's force: the thrust.
-/
import Derived.Test.YtnedbhdokljpcaaGreatForceRE
namespace Go.Proofs.YtnedbhdokljpcaaGreat
open Go.RowKit Go.Shelf
set_option maxRecDepth 100000
set_option maxHeartbeats 32000000
theorem r3D (HL : LookOk 122) (pP : Planet) (x : Arc) (l : List Pt) (q v : Bx) (m : Sp) [hp : Pl64 pP] [hv : B64 v] [hm : S64 m] [hxt : S64 x.thrust] [hxd : B64 x.dir] (c : Nat) (e : Int) (w : World) (hc : w.cell? ⟨c, 0, none⟩ = some (.int .i64 e))
    (hdn : x.drag.n = l.length) (HS : ∀ wx, But c w wx → SlAt wx (.slice x.drag.ao l.length x.drag.cap) l.length (l.flatMap Pt.cells))
    (NR : Res) (OS : BRes) [sN : S64 NR.s] [bS : B64 OS.b] (u15 u16 u17 u18 u19 u20 u21 u22 u23 u24 u25 u26 u27 u28 u29 u30 u31 u32 u33 u34 u35 u36 u37 u38 u39 u40 u41 u42 u43 u44 u45 u46 u47 u48 u49 u50 u51 u52 u53 u54 u55 u56 u57 u58 u59 u60 u61 u62 u63 u64 u65 u66 u67 u68 u69 u70 u71 u72 u73 u74 u75 u76 u77 u78 u79 u80 u81 u82 u83 u84 u85 u86 u87 u88 u89 u90 u91 u92 u93 u94 u95 u96 u97 u98 u99 u100 u101 u102 u103 u104 u105 u106 u107 u108 u109 u110 u111 u112 u113 u114 u115 u116 u117 u118 u119 u120 u121 u122 u123 u124 u125 u126 u127 u128 u129 u130 u131 u132 u133 u134 u135 u136 u137 u138 u139 u140 u141 u142 u143 u144 u145 u146 u147 u148 u149 u150 u151 u152 u153 u154 u155 u156 u157 u158 u159 u160 u161 u162 u163 u164 u165 u166 u167 u168 u169 u170 u171 u172 u173 u174 u175 u176 u177 u178 u179 u180 u181 u182 u183 u184 u185 u186 u187 u188 u189 u190 u191 u192 u193 u194 u195 u196 u197 u198 u199 u200 u201 u202 u203 u204 u205 u206 u207 u208 u209 : Value) (wc : World) (hF : FrG c w pP x q v m (OS.e) (NR.s) (OS.b) wc) :
    (tlC (tlC (tlC (tlC (tlC (tlC (Tryz.f72.body.getD .skip))))))).wp Tryz.prog (bodyPost Tryz.prog Tryz.f72 (RetC c (.agg #[.int .i64 ((dragG pP l v m NR.s (thrustG x m OS)).b).x.lo, .int .i64 ((dragG pP l v m NR.s (thrustG x m OS)).b).x.hi, .int .i64 ((dragG pP l v m NR.s (thrustG x m OS)).b).y.lo, .int .i64 ((dragG pP l v m NR.s (thrustG x m OS)).b).y.hi, .int .i64 ((dragG pP l v m NR.s (thrustG x m OS)).b).z.lo, .int .i64 ((dragG pP l v m NR.s (thrustG x m OS)).b).z.hi]) (dragG pP l v m NR.s (thrustG x m OS)).e w)) { tmps := #[.pointer (some ⟨c, 0, none⟩), .agg pP.cells.toArray, .agg x.cells.toArray, .agg #[.int .i64 q.x.lo, .int .i64 q.x.hi, .int .i64 q.y.lo, .int .i64 q.y.hi, .int .i64 q.z.lo, .int .i64 q.z.hi], .agg #[.int .i64 v.x.lo, .int .i64 v.x.hi, .int .i64 v.y.lo, .int .i64 v.y.hi, .int .i64 v.z.lo, .int .i64 v.z.hi], .agg #[.int .i64 m.lo, .int .i64 m.hi], undef, .pointer (some ⟨w.heap.size, 0, none⟩), .pointer (some ⟨w.heap.size + 1, 0, none⟩), .pointer (some ⟨w.heap.size + 1 + 1, 0, none⟩), .pointer (some ⟨w.heap.size + 1 + 1 + 1, 0, none⟩), .pointer (some ⟨w.heap.size + 1 + 1 + 1 + 1, 0, none⟩), .pointer (some ⟨w.heap.size + 1 + 1 + 1 + 1 + 1, 0, none⟩), .pointer (some ⟨w.heap.size + 1 + 1 + 1 + 1 + 1 + 1, 0, none⟩), .pointer (some ⟨w.heap.size + 1 + 1 + 1 + 1 + 1 + 1 + 1, 0, none⟩), u15, u16, u17, u18, u19, u20, u21, u22, u23, u24, u25, u26, u27, u28, u29, u30, u31, u32, u33, u34, u35, u36, u37, u38, u39, u40, u41, u42, u43, u44, u45, u46, u47, u48, u49, u50, u51, u52, u53, u54, u55, u56, u57, u58, u59, u60, u61, u62, u63, u64, u65, u66, u67, u68, u69, u70, u71, u72, u73, u74, u75, u76, u77, u78, u79, u80, u81, u82, u83, u84, u85, u86, u87, u88, u89, u90, u91, u92, u93, u94, u95, u96, u97, u98, u99, u100, u101, u102, u103, u104, u105, u106, u107, u108, u109, u110, u111, u112, u113, u114, u115, u116, u117, u118, u119, u120, u121, u122, u123, u124, u125, u126, u127, u128, u129, u130, u131, u132, u133, u134, u135, u136, u137, u138, u139, u140, u141, u142, u143, u144, u145, u146, u147, u148, u149, u150, u151, u152, u153, u154, u155, u156, u157, u158, u159, u160, u161, u162, u163, u164, u165, u166, u167, u168, u169, u170, u171, u172, u173, u174, u175, u176, u177, u178, u179, u180, u181, u182, u183, u184, u185, u186, u187, u188, u189, u190, u191, u192, u193, u194, u195, u196, u197, u198, u199, u200, u201, u202, u203, u204, u205, u206, u207, u208, u209], defers := [] } wc := by
  have ib : BlockIn w c := BlockIn.of_cell hc
  have Hc := Lib.hid hc
  have hlt := ib.lt
  have hlen := (HS w (But.refl hc)).len_le
  unfold maxLen at hlen
  have HLE := Lib.hid (show l.isEmpty = decide (l.length = 0) by cases l <;> simp)
  have HHS := Lib.hid HS
  clear HS
  have hdl := Lib.hid hdn
  clear hdn
  have : Apart (w.heap.size) (c) := ⟨by omega⟩
  have : Apart (w.heap.size + 1) (c) := ⟨by omega⟩
  have : Apart (w.heap.size + 1 + 1) (c) := ⟨by omega⟩
  have : Apart (w.heap.size + 1 + 1 + 1) (c) := ⟨by omega⟩
  have : Apart (w.heap.size + 1 + 1 + 1 + 1) (c) := ⟨by omega⟩
  have : Apart (w.heap.size + 1 + 1 + 1 + 1 + 1) (c) := ⟨by omega⟩
  have : Apart (w.heap.size + 1 + 1 + 1 + 1 + 1 + 1) (c) := ⟨by omega⟩
  have : Apart (w.heap.size + 1 + 1 + 1 + 1 + 1 + 1 + 1) (c) := ⟨by omega⟩
  have : Apart (w.heap.size) (w.heap.size + 1 + 1 + 1 + 1 + 1 + 1) := ⟨by omega⟩
  have : Apart (w.heap.size + 1) (w.heap.size + 1 + 1 + 1 + 1 + 1 + 1) := ⟨by omega⟩
  have : Apart (w.heap.size + 1 + 1) (w.heap.size + 1 + 1 + 1 + 1 + 1 + 1) := ⟨by omega⟩
  have : Apart (w.heap.size + 1 + 1 + 1) (w.heap.size + 1 + 1 + 1 + 1 + 1 + 1) := ⟨by omega⟩
  have : Apart (w.heap.size + 1 + 1 + 1 + 1) (w.heap.size + 1 + 1 + 1 + 1 + 1 + 1) := ⟨by omega⟩
  have : Apart (w.heap.size + 1 + 1 + 1 + 1 + 1) (w.heap.size + 1 + 1 + 1 + 1 + 1 + 1) := ⟨by omega⟩
  have : Apart (w.heap.size + 1 + 1 + 1 + 1 + 1 + 1 + 1) (w.heap.size + 1 + 1 + 1 + 1 + 1 + 1) := ⟨by omega⟩
  have : Apart (c) (w.heap.size + 1 + 1 + 1 + 1 + 1 + 1) := ⟨by omega⟩
  obtain ⟨hb, h2, h3, m1, m2, m3, m4, m5, m6, m7, m8⟩ := hF
  have Hb := Lib.hid hb
  have nwc : NewFor w wc.heap.size := ⟨hb.size⟩
  have ibw : BlockIn wc c := BlockIn.of_cell h2
  have hcw : HasCell wc c 0 := ⟨_, h2⟩
  have i1 := m1.blockIn
  have i2 := m2.blockIn
  have i3 := m3.blockIn
  have i4 := m4.blockIn
  have i5 := m5.blockIn
  have i6 := m6.blockIn
  have i7 := m7.blockIn
  have i8 := m8.blockIn
  clear hb
  have bT : B64 (thrustG x m OS).b := b64_thrustG _ _ _
  have HK := Lib.hid (r3E HL pP x l q v m c e w hc hdl.out HHS.out NR (thrustG x m OS))
  have HOT := Lib.hid (show thrustG x m OS = thrustG x m OS from rfl)
  generalize hOT : thrustG x m OS = OT at *
  replace HOT := Lib.hid hOT.symm
  clear hOT
  have HZ := Lib.hid (fun w' => r3Point0_any x.thrust w')
  have sT : S64 (tuT x m OS).s := s64_do _ _
  have G1 := Lib.hid (fun w hc hf => show Calls Tryz.prog 48 #[.pointer (some ⟨c, 0, none⟩), .agg #[.int .i64 x.thrust.lo, .int .i64 x.thrust.hi], .agg #[.int .i64 m.lo, .int .i64 m.hi]] w (RetC c (.agg #[.int .i64 ((tuT x m OS).s).lo, .int .i64 ((tuT x m OS).s).hi]) (tuT x m OS).e w) from rcDiv_any c OS.e x.thrust m w hc hf)
  obtain ⟨X0, hX0⟩ : ∃ X, X = (doR (tuT x m OS).e (mulR (tuT x m OS).s x.dir.x)) := ⟨_, rfl⟩
  have hZ0 := mulAdd_is (tuT x m OS).s x.dir.x OS.b.x (tuT x m OS).e
  rw [← hX0] at hZ0
  have sX0 : S64 X0.s := by rw [hX0]; exact s64_do _ _
  have M0a := Lib.hid (fun w hc hf => show Calls Tryz.prog 58 #[.pointer (some ⟨c, 0, none⟩), .agg #[.int .i64 ((tuT x m OS).s).lo, .int .i64 ((tuT x m OS).s).hi], .agg #[.int .i64 x.dir.x.lo, .int .i64 x.dir.x.hi]] w (RetC c (.agg #[.int .i64 X0.s.lo, .int .i64 X0.s.hi]) X0.e w) from by
    rw [hX0]
    exact rcMul_any c (tuT x m OS).e (tuT x m OS).s x.dir.x w hc hf)
  obtain ⟨Z0, hW0⟩ : ∃ Z, Z = (mulAdd (tuT x m OS).s x.dir.x OS.b.x (tuT x m OS).e) := ⟨_, rfl⟩
  rw [← hW0] at hZ0
  have M0b := Lib.hid (fun w hc hf => show Calls Tryz.prog 86 #[.pointer (some ⟨c, 0, none⟩), .agg #[.int .i64 OS.b.x.lo, .int .i64 OS.b.x.hi], .agg #[.int .i64 X0.s.lo, .int .i64 X0.s.hi]] w (RetC c (.agg #[.int .i64 Z0.s.lo, .int .i64 Z0.s.hi]) Z0.e w) from by
    rw [hZ0]
    exact rcAdd_any c X0.e OS.b.x X0.s w hc hf)
  obtain ⟨X1, hX1⟩ : ∃ X, X = (doR Z0.e (mulR (tuT x m OS).s x.dir.y)) := ⟨_, rfl⟩
  have hZ1 := mulAdd_is (tuT x m OS).s x.dir.y OS.b.y Z0.e
  rw [← hX1] at hZ1
  have sX1 : S64 X1.s := by rw [hX1]; exact s64_do _ _
  have M1a := Lib.hid (fun w hc hf => show Calls Tryz.prog 58 #[.pointer (some ⟨c, 0, none⟩), .agg #[.int .i64 ((tuT x m OS).s).lo, .int .i64 ((tuT x m OS).s).hi], .agg #[.int .i64 x.dir.y.lo, .int .i64 x.dir.y.hi]] w (RetC c (.agg #[.int .i64 X1.s.lo, .int .i64 X1.s.hi]) X1.e w) from by
    rw [hX1]
    exact rcMul_any c Z0.e (tuT x m OS).s x.dir.y w hc hf)
  obtain ⟨Z1, hW1⟩ : ∃ Z, Z = (mulAdd (tuT x m OS).s x.dir.y OS.b.y Z0.e) := ⟨_, rfl⟩
  rw [← hW1] at hZ1
  have M1b := Lib.hid (fun w hc hf => show Calls Tryz.prog 86 #[.pointer (some ⟨c, 0, none⟩), .agg #[.int .i64 OS.b.y.lo, .int .i64 OS.b.y.hi], .agg #[.int .i64 X1.s.lo, .int .i64 X1.s.hi]] w (RetC c (.agg #[.int .i64 Z1.s.lo, .int .i64 Z1.s.hi]) Z1.e w) from by
    rw [hZ1]
    exact rcAdd_any c X1.e OS.b.y X1.s w hc hf)
  obtain ⟨X2, hX2⟩ : ∃ X, X = (doR Z1.e (mulR (tuT x m OS).s x.dir.z)) := ⟨_, rfl⟩
  have hZ2 := mulAdd_is (tuT x m OS).s x.dir.z OS.b.z Z1.e
  rw [← hX2] at hZ2
  have sX2 : S64 X2.s := by rw [hX2]; exact s64_do _ _
  have M2a := Lib.hid (fun w hc hf => show Calls Tryz.prog 58 #[.pointer (some ⟨c, 0, none⟩), .agg #[.int .i64 ((tuT x m OS).s).lo, .int .i64 ((tuT x m OS).s).hi], .agg #[.int .i64 x.dir.z.lo, .int .i64 x.dir.z.hi]] w (RetC c (.agg #[.int .i64 X2.s.lo, .int .i64 X2.s.hi]) X2.e w) from by
    rw [hX2]
    exact rcMul_any c Z1.e (tuT x m OS).s x.dir.z w hc hf)
  obtain ⟨Z2, hW2⟩ : ∃ Z, Z = (mulAdd (tuT x m OS).s x.dir.z OS.b.z Z1.e) := ⟨_, rfl⟩
  rw [← hW2] at hZ2
  have M2b := Lib.hid (fun w hc hf => show Calls Tryz.prog 86 #[.pointer (some ⟨c, 0, none⟩), .agg #[.int .i64 OS.b.z.lo, .int .i64 OS.b.z.hi], .agg #[.int .i64 X2.s.lo, .int .i64 X2.s.hi]] w (RetC c (.agg #[.int .i64 Z2.s.lo, .int .i64 Z2.s.hi]) Z2.e w) from by
    rw [hZ2]
    exact rcAdd_any c X2.e OS.b.z X2.s w hc hf)
  have HO1 := Lib.hid (fun (h : zeroB x.thrust = true) => show OT = OS by have h1 := HOT.out; unfold thrustG at h1; rw [h] at h1; exact h1)
  have HO2 := Lib.hid (fun (h : zeroB x.thrust = false) => show OT = ⟨⟨Z0.s, Z1.s, Z2.s⟩, Z2.e⟩ by
    have h1 := HOT.out
    unfold thrustG at h1
    rw [h] at h1
    rw [show OT = _ from h1, hW2, hW1, hW0]
    rfl)
  clear HOT hX0 hX1 hX2 hZ0 hZ1 hZ2 hW0 hW1 hW2 sX0 sX1 sX2 sT
  generalize tuT x m OS = rT at *
  generalize zeroB x.thrust = zt at *
  conv => arg 2; dsimp only [tlC, Tryz.f72, Option.getD]
  go_upto_if 146 with (go_at_call 135; (with_reducible refine call_later (HZ.out _) ?_); intro u1)
  go_cut [] (fun wx => FrG c w pP x q v m (OT.e) (NR.s) (OT.b) wx)
  case first =>
    cases zt
    · have hN := HO2.out (by first | rfl | trivial)
      go_wp2_with (go_at_call 48; (with_reducible refine call_calc (G1.out _ ?_ ?_) ?_); (· go_simp); (· go_simp); intro u2)
      refine wp_loop_rounds 4 ?_
      rw [rounds_succ]
      go_wp2
      refine wp_region_calc c [rT.e, X0.e, Z0.e] 14 [] [11, 12] [] (fun W0 => []) [.agg #[.int .i64 X0.s.lo, .int .i64 X0.s.hi], .agg #[.int .i64 Z0.s.lo, .int .i64 Z0.s.hi]] [14] (by rfl) (by go_simp) (by go_simp) (fun _ _ x hx => absurd hx (List.not_mem_nil)) (by kernel_rfl) (by kernel_rfl) (by kernel_rfl) ?_
      intro pz hd0
      apply Exists.intro
      apply And.intro
      apply lexc_pure hd0 (by kernel_rfl)
      · intro uz xc; unfold opPure; go_simp; rfl
      apply lexc_pure hd0 (by kernel_rfl)
      · intro uz xc; unfold opPure; go_simp; rfl
      apply lexc_pure hd0 (by kernel_rfl)
      · intro uz xc; unfold opPure; go_simp; rfl
      apply lexc_pure hd0 (by kernel_rfl)
      · intro uz xc; unfold opPure; go_simp; rfl
      apply lexc_pure hd0 (by kernel_rfl)
      · intro uz xc; unfold opPure; go_simp; rfl
      apply lexc_pure hd0 (by kernel_rfl)
      · intro uz xc; unfold opPure; go_simp; rfl
      apply lexc_pure hd0 (by kernel_rfl)
      · intro uz xc; unfold opPure; go_simp; rfl
      apply lexc_pure hd0 (by kernel_rfl)
      · intro uz xc; unfold opPure; go_simp; rfl
      apply lexc_pure hd0 (by kernel_rfl)
      · intro uz xc; unfold opPure; go_simp; rfl
      apply lexc_pure hd0 (by kernel_rfl)
      · intro uz xc; unfold opPure; go_simp; rfl
      apply lexc_pure hd0 (by kernel_rfl)
      · intro uz xc; unfold opPure; go_simp; rfl
      apply lexc_call hd0 0 (by kernel_rfl) (by rfl) (by decide)
      · intro uz hfz hF; clear hF; unfold opCall; go_simp; exact M0a.out _ (by go_simp) hfz
      apply lexc_call hd0 1 (by kernel_rfl) (by rfl) (by decide)
      · intro uz hfz hF; clear hF; unfold opCall; go_simp; exact M0b.out _ (by go_simp) hfz
      apply lexc_pure hd0 (by kernel_rfl)
      · intro uz xc; unfold opPure; go_simp; rfl
      apply lexc_end
      rotate_left
      · rfl
      intro uz hR hD hfz
      clear hR hD
      refine tail_store (by rfl) ?_; unfold opStore; go_simp
      refine tail_end ?_
      go_wp2
      rw [rounds_succ]
      go_wp2
      refine wp_region_calc c [Z0.e, X1.e, Z1.e] 14 [] [11, 12] [] (fun W0 => []) [.agg #[.int .i64 X1.s.lo, .int .i64 X1.s.hi], .agg #[.int .i64 Z1.s.lo, .int .i64 Z1.s.hi]] [14] (by rfl) (by go_simp) (by go_simp) (fun _ _ x hx => absurd hx (List.not_mem_nil)) (by kernel_rfl) (by kernel_rfl) (by kernel_rfl) ?_
      intro pz hd0
      apply Exists.intro
      apply And.intro
      apply lexc_pure hd0 (by kernel_rfl)
      · intro uz xc; unfold opPure; go_simp; rfl
      apply lexc_pure hd0 (by kernel_rfl)
      · intro uz xc; unfold opPure; go_simp; rfl
      apply lexc_pure hd0 (by kernel_rfl)
      · intro uz xc; unfold opPure; go_simp; rfl
      apply lexc_pure hd0 (by kernel_rfl)
      · intro uz xc; unfold opPure; go_simp; rfl
      apply lexc_pure hd0 (by kernel_rfl)
      · intro uz xc; unfold opPure; go_simp; rfl
      apply lexc_pure hd0 (by kernel_rfl)
      · intro uz xc; unfold opPure; go_simp; rfl
      apply lexc_pure hd0 (by kernel_rfl)
      · intro uz xc; unfold opPure; go_simp; rfl
      apply lexc_pure hd0 (by kernel_rfl)
      · intro uz xc; unfold opPure; go_simp; rfl
      apply lexc_pure hd0 (by kernel_rfl)
      · intro uz xc; unfold opPure; go_simp; rfl
      apply lexc_pure hd0 (by kernel_rfl)
      · intro uz xc; unfold opPure; go_simp; rfl
      apply lexc_pure hd0 (by kernel_rfl)
      · intro uz xc; unfold opPure; go_simp; rfl
      apply lexc_call hd0 0 (by kernel_rfl) (by rfl) (by decide)
      · intro uz hfz hF; clear hF; unfold opCall; go_simp; exact M1a.out _ (by go_simp) hfz
      apply lexc_call hd0 1 (by kernel_rfl) (by rfl) (by decide)
      · intro uz hfz hF; clear hF; unfold opCall; go_simp; exact M1b.out _ (by go_simp) hfz
      apply lexc_pure hd0 (by kernel_rfl)
      · intro uz xc; unfold opPure; go_simp; rfl
      apply lexc_end
      rotate_left
      · rfl
      intro uz hR hD hfz
      clear hR hD
      refine tail_store (by rfl) ?_; unfold opStore; go_simp
      refine tail_end ?_
      go_wp2
      rw [rounds_succ]
      go_wp2
      refine wp_region_calc c [Z1.e, X2.e, Z2.e] 14 [] [11, 12] [] (fun W0 => []) [.agg #[.int .i64 X2.s.lo, .int .i64 X2.s.hi], .agg #[.int .i64 Z2.s.lo, .int .i64 Z2.s.hi]] [14] (by rfl) (by go_simp) (by go_simp) (fun _ _ x hx => absurd hx (List.not_mem_nil)) (by kernel_rfl) (by kernel_rfl) (by kernel_rfl) ?_
      intro pz hd0
      apply Exists.intro
      apply And.intro
      apply lexc_pure hd0 (by kernel_rfl)
      · intro uz xc; unfold opPure; go_simp; rfl
      apply lexc_pure hd0 (by kernel_rfl)
      · intro uz xc; unfold opPure; go_simp; rfl
      apply lexc_pure hd0 (by kernel_rfl)
      · intro uz xc; unfold opPure; go_simp; rfl
      apply lexc_pure hd0 (by kernel_rfl)
      · intro uz xc; unfold opPure; go_simp; rfl
      apply lexc_pure hd0 (by kernel_rfl)
      · intro uz xc; unfold opPure; go_simp; rfl
      apply lexc_pure hd0 (by kernel_rfl)
      · intro uz xc; unfold opPure; go_simp; rfl
      apply lexc_pure hd0 (by kernel_rfl)
      · intro uz xc; unfold opPure; go_simp; rfl
      apply lexc_pure hd0 (by kernel_rfl)
      · intro uz xc; unfold opPure; go_simp; rfl
      apply lexc_pure hd0 (by kernel_rfl)
      · intro uz xc; unfold opPure; go_simp; rfl
      apply lexc_pure hd0 (by kernel_rfl)
      · intro uz xc; unfold opPure; go_simp; rfl
      apply lexc_pure hd0 (by kernel_rfl)
      · intro uz xc; unfold opPure; go_simp; rfl
      apply lexc_call hd0 0 (by kernel_rfl) (by rfl) (by decide)
      · intro uz hfz hF; clear hF; unfold opCall; go_simp; exact M2a.out _ (by go_simp) hfz
      apply lexc_call hd0 1 (by kernel_rfl) (by rfl) (by decide)
      · intro uz hfz hF; clear hF; unfold opCall; go_simp; exact M2b.out _ (by go_simp) hfz
      apply lexc_pure hd0 (by kernel_rfl)
      · intro uz xc; unfold opPure; go_simp; rfl
      apply lexc_end
      rotate_left
      · rfl
      intro uz hR hD hfz
      clear hR hD
      refine tail_store (by rfl) ?_; unfold opStore; go_simp
      refine tail_end ?_
      go_wp2
      rw [rounds_succ]
      go_wp2
      go_meet
      case rel => exact ⟨(by repeat (first | with_reducible exact Hb.out | with_reducible apply But.alloc | with_reducible apply But.later | with_reducible apply But.drew | with_reducible apply But.put | with_reducible apply But.store)), by rw [hN]; go_simp, by go_simp, inferInstance, inferInstance, inferInstance, inferInstance, inferInstance, inferInstance, rowIs_cast inferInstance (by rw [hN]; rfl), inferInstance⟩
    · have hN := HO1.out (by first | rfl | trivial)
      go_wp2
      go_meet
      case rel => exact ⟨(by repeat (first | with_reducible exact Hb.out | with_reducible apply But.alloc | with_reducible apply But.later | with_reducible apply But.drew | with_reducible apply But.put | with_reducible apply But.store)), by rw [hN]; go_simp, by go_simp, inferInstance, inferInstance, inferInstance, inferInstance, inferInstance, inferInstance, rowIs_cast inferInstance (by rw [hN]), inferInstance⟩
  case rest =>
  go_step
  exact HK.out _ _ _ _ _ _ _ _ _ _ _ _ _ _ _ _ _ _ _ _ _ _ _ _ _ _ _ _ _ _ _ _ _ _ _ _ _ _ _ _ _ _ _ _ _ _ _ _ _ _ _ _ _ _ _ _ _ _ _ _ _ _ _ _ _ _ _ _ _ _ _ _ _ _ _ _ _ _ _ _ _ _ _ _ _ _ _ _ _ _ _ _ _ _ _ _ _ _ _ _ _ _ _ _ _ _ _ _ _ _ _ _ _ _ _ _ _ _ _ _ _ _ _ _ _ _ _ _ _ _ _ _ _ _ _ _ _ _ _ _ _ _ _ _ _ _ _ _ _ _ _ _ _ _ _ _ _ _ _ _ _ _ _ _ _ _ _ _ _ _ _ _ _ _ _ _ _ _ _ _ _ _ _ _ _ _ _ _ _ _ _ _ _ _ _ wc hcut
end Go.Proofs.YtnedbhdokljpcaaGreat
