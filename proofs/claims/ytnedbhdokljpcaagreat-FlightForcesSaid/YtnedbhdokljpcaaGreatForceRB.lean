/-
  Ullageref03's force: the pull of a planet.
-/
import Derived.Test.YtnedbhdokljpcaaGreatForceRC
namespace Go.Proofs.YtnedbhdokljpcaaGreat
open Go.RowKit Go.Shelf
set_option maxRecDepth 100000
set_option maxHeartbeats 32000000
theorem b64_pullIf (pP : Planet) (q : Bx) (NR : Res) [hp : Pl64 pP] : B64 (if zeroB pP.mu then (⟨pP.pull, NR.e⟩ : BRes) else pullG pP q NR.s NR.e).b := by
  split
  · exact hp.pull
  · exact ⟨s64_do _ _ (h := s64_bind _ _ (fun _ => inferInstance)), s64_do _ _ (h := s64_bind _ _ (fun _ => inferInstance)), s64_do _ _ (h := s64_bind _ _ (fun _ => inferInstance))⟩
theorem r3B (HL : LookOk 122) (pP : Planet) (x : Arc) (l : List Pt) (q v : Bx) (m : Sp) [hp : Pl64 pP] [hq : B64 q] [hv : B64 v] [hm : S64 m] [hxt : S64 x.thrust] [hxd : B64 x.dir] (c : Nat) (e : Int) (w : World) (hc : w.cell? ⟨c, 0, none⟩ = some (.int .i64 e))
    (hdn : x.drag.n = l.length) (HS : ∀ wx, But c w wx → SlAt wx (.slice x.drag.ao l.length x.drag.cap) l.length (l.flatMap Pt.cells))
    (NR : Res) [sN : S64 NR.s] (u15 u16 u17 u18 u19 u20 u21 u22 u23 u24 u25 u26 u27 u28 u29 u30 u31 u32 u33 u34 u35 u36 u37 u38 u39 u40 u41 u42 u43 u44 u45 u46 u47 u48 u49 u50 u51 u52 u53 u54 u55 u56 u57 u58 u59 u60 u61 u62 u63 u64 u65 u66 u67 u68 u69 u70 u71 u72 u73 u74 u75 u76 u77 u78 u79 u80 u81 u82 u83 u84 u85 u86 u87 u88 u89 u90 u91 u92 u93 u94 u95 u96 u97 u98 u99 u100 u101 u102 u103 u104 u105 u106 u107 u108 u109 u110 u111 u112 u113 u114 u115 u116 u117 u118 u119 u120 u121 u122 u123 u124 u125 u126 u127 u128 u129 u130 u131 u132 u133 u134 u135 u136 u137 u138 u139 u140 u141 u142 u143 u144 u145 u146 u147 u148 u149 u150 u151 u152 u153 u154 u155 u156 u157 u158 u159 u160 u161 u162 u163 u164 u165 u166 u167 u168 u169 u170 u171 u172 u173 u174 u175 u176 u177 u178 u179 u180 u181 u182 u183 u184 u185 u186 u187 u188 u189 u190 u191 u192 u193 u194 u195 u196 u197 u198 u199 u200 u201 u202 u203 u204 u205 u206 u207 u208 u209 : Value) (wc : World) (hF : FrG c w pP x q v m (NR.e) (NR.s) (pP.pull) wc) :
    (tlC (tlC (tlC (tlC (Tryz.f72.body.getD .skip))))).wp Tryz.prog (bodyPost Tryz.prog Tryz.f72 (RetC c (.agg #[.int .i64 ((dragG pP l v m NR.s (thrustG x m (spinR pP.spin q v (if zeroB pP.mu then ⟨pP.pull, NR.e⟩ else pullG pP q NR.s NR.e)))).b).x.lo, .int .i64 ((dragG pP l v m NR.s (thrustG x m (spinR pP.spin q v (if zeroB pP.mu then ⟨pP.pull, NR.e⟩ else pullG pP q NR.s NR.e)))).b).x.hi, .int .i64 ((dragG pP l v m NR.s (thrustG x m (spinR pP.spin q v (if zeroB pP.mu then ⟨pP.pull, NR.e⟩ else pullG pP q NR.s NR.e)))).b).y.lo, .int .i64 ((dragG pP l v m NR.s (thrustG x m (spinR pP.spin q v (if zeroB pP.mu then ⟨pP.pull, NR.e⟩ else pullG pP q NR.s NR.e)))).b).y.hi, .int .i64 ((dragG pP l v m NR.s (thrustG x m (spinR pP.spin q v (if zeroB pP.mu then ⟨pP.pull, NR.e⟩ else pullG pP q NR.s NR.e)))).b).z.lo, .int .i64 ((dragG pP l v m NR.s (thrustG x m (spinR pP.spin q v (if zeroB pP.mu then ⟨pP.pull, NR.e⟩ else pullG pP q NR.s NR.e)))).b).z.hi]) (dragG pP l v m NR.s (thrustG x m (spinR pP.spin q v (if zeroB pP.mu then ⟨pP.pull, NR.e⟩ else pullG pP q NR.s NR.e)))).e w)) { tmps := #[.pointer (some ⟨c, 0, none⟩), .agg pP.cells.toArray, .agg x.cells.toArray, .agg #[.int .i64 q.x.lo, .int .i64 q.x.hi, .int .i64 q.y.lo, .int .i64 q.y.hi, .int .i64 q.z.lo, .int .i64 q.z.hi], .agg #[.int .i64 v.x.lo, .int .i64 v.x.hi, .int .i64 v.y.lo, .int .i64 v.y.hi, .int .i64 v.z.lo, .int .i64 v.z.hi], .agg #[.int .i64 m.lo, .int .i64 m.hi], undef, .pointer (some ⟨w.heap.size, 0, none⟩), .pointer (some ⟨w.heap.size + 1, 0, none⟩), .pointer (some ⟨w.heap.size + 1 + 1, 0, none⟩), .pointer (some ⟨w.heap.size + 1 + 1 + 1, 0, none⟩), .pointer (some ⟨w.heap.size + 1 + 1 + 1 + 1, 0, none⟩), .pointer (some ⟨w.heap.size + 1 + 1 + 1 + 1 + 1, 0, none⟩), .pointer (some ⟨w.heap.size + 1 + 1 + 1 + 1 + 1 + 1, 0, none⟩), .pointer (some ⟨w.heap.size + 1 + 1 + 1 + 1 + 1 + 1 + 1, 0, none⟩), u15, u16, u17, u18, u19, u20, u21, u22, u23, u24, u25, u26, u27, u28, u29, u30, u31, u32, u33, u34, u35, u36, u37, u38, u39, u40, u41, u42, u43, u44, u45, u46, u47, u48, u49, u50, u51, u52, u53, u54, u55, u56, u57, u58, u59, u60, u61, u62, u63, u64, u65, u66, u67, u68, u69, u70, u71, u72, u73, u74, u75, u76, u77, u78, u79, u80, u81, u82, u83, u84, u85, u86, u87, u88, u89, u90, u91, u92, u93, u94, u95, u96, u97, u98, u99, u100, u101, u102, u103, u104, u105, u106, u107, u108, u109, u110, u111, u112, u113, u114, u115, u116, u117, u118, u119, u120, u121, u122, u123, u124, u125, u126, u127, u128, u129, u130, u131, u132, u133, u134, u135, u136, u137, u138, u139, u140, u141, u142, u143, u144, u145, u146, u147, u148, u149, u150, u151, u152, u153, u154, u155, u156, u157, u158, u159, u160, u161, u162, u163, u164, u165, u166, u167, u168, u169, u170, u171, u172, u173, u174, u175, u176, u177, u178, u179, u180, u181, u182, u183, u184, u185, u186, u187, u188, u189, u190, u191, u192, u193, u194, u195, u196, u197, u198, u199, u200, u201, u202, u203, u204, u205, u206, u207, u208, u209], defers := [] } wc := by
  have ib : BlockIn w c := BlockIn.of_cell hc
  have Hc := Lib.hid hc
  have hlt := ib.lt
  have hlen := (HS w (But.refl hc)).len_le
  unfold maxLen at hlen
  have HLE := Lib.hid (show l.isEmpty = decide (l.length = 0) by cases l <;> simp)
  have HHS := Lib.hid HS
  clear HS
  have hdl := Lib.hid hdn
  clear hdn
  have : Apart (w.heap.size) (c) := ⟨by omega⟩
  have : Apart (w.heap.size + 1) (c) := ⟨by omega⟩
  have : Apart (w.heap.size + 1 + 1) (c) := ⟨by omega⟩
  have : Apart (w.heap.size + 1 + 1 + 1) (c) := ⟨by omega⟩
  have : Apart (w.heap.size + 1 + 1 + 1 + 1) (c) := ⟨by omega⟩
  have : Apart (w.heap.size + 1 + 1 + 1 + 1 + 1) (c) := ⟨by omega⟩
  have : Apart (w.heap.size + 1 + 1 + 1 + 1 + 1 + 1) (c) := ⟨by omega⟩
  have : Apart (w.heap.size + 1 + 1 + 1 + 1 + 1 + 1 + 1) (c) := ⟨by omega⟩
  have : Apart (w.heap.size) (w.heap.size + 1 + 1 + 1 + 1 + 1 + 1) := ⟨by omega⟩
  have : Apart (w.heap.size + 1) (w.heap.size + 1 + 1 + 1 + 1 + 1 + 1) := ⟨by omega⟩
  have : Apart (w.heap.size + 1 + 1) (w.heap.size + 1 + 1 + 1 + 1 + 1 + 1) := ⟨by omega⟩
  have : Apart (w.heap.size + 1 + 1 + 1) (w.heap.size + 1 + 1 + 1 + 1 + 1 + 1) := ⟨by omega⟩
  have : Apart (w.heap.size + 1 + 1 + 1 + 1) (w.heap.size + 1 + 1 + 1 + 1 + 1 + 1) := ⟨by omega⟩
  have : Apart (w.heap.size + 1 + 1 + 1 + 1 + 1) (w.heap.size + 1 + 1 + 1 + 1 + 1 + 1) := ⟨by omega⟩
  have : Apart (w.heap.size + 1 + 1 + 1 + 1 + 1 + 1 + 1) (w.heap.size + 1 + 1 + 1 + 1 + 1 + 1) := ⟨by omega⟩
  have : Apart (c) (w.heap.size + 1 + 1 + 1 + 1 + 1 + 1) := ⟨by omega⟩
  obtain ⟨hb, h2, h3, m1, m2, m3, m4, m5, m6, m7, m8⟩ := hF
  have Hb := Lib.hid hb
  have nwc : NewFor w wc.heap.size := ⟨hb.size⟩
  have ibw : BlockIn wc c := BlockIn.of_cell h2
  have hcw : HasCell wc c 0 := ⟨_, h2⟩
  have i1 := m1.blockIn
  have i2 := m2.blockIn
  have i3 := m3.blockIn
  have i4 := m4.blockIn
  have i5 := m5.blockIn
  have i6 := m6.blockIn
  have i7 := m7.blockIn
  have i8 := m8.blockIn
  clear hb
  have bP : B64 (if zeroB pP.mu then (⟨pP.pull, NR.e⟩ : BRes) else pullG pP q NR.s NR.e).b := b64_pullIf pP q NR
  have HZ := Lib.hid (fun w' => r3Point0_any pP.mu w')
  have HK := Lib.hid (r3C HL pP x l q v m c e w hc hdl.out HHS.out NR (if zeroB pP.mu then (⟨pP.pull, NR.e⟩ : BRes) else pullG pP q NR.s NR.e))
  generalize hOP : (if zeroB pP.mu then (⟨pP.pull, NR.e⟩ : BRes) else pullG pP q NR.s NR.e) = OP at *
  have HOP := Lib.hid hOP.symm
  clear hOP
  have sU1 : S64 (each1 divR NR.e q (ones NR.s)).s := s64_do _ _
  have sU2 : S64 (each2 divR NR.e q (ones NR.s)).s := s64_do _ _
  have sU3 : S64 (each3 divR NR.e q (ones NR.s)).s := s64_do _ _
  have sS : S64 (atS pP q NR.s NR.e).s := s64_do _ _
  have sT : S64 (atT pP q NR.s NR.e).s := s64_do _ _
  have bN : B64 (atN pP q NR.s NR.e).b := b64_shape _ _ _ _
  have J1 := Lib.hid (fun w hc hf => show Calls Tryz.prog 48 #[.pointer (some ⟨c, 0, none⟩), .agg #[.int .i64 q.x.lo, .int .i64 q.x.hi], .agg #[.int .i64 NR.s.lo, .int .i64 NR.s.hi]] w (RetC c (.agg #[.int .i64 ((each1 divR NR.e q (ones NR.s)).s).lo, .int .i64 ((each1 divR NR.e q (ones NR.s)).s).hi]) (each1 divR NR.e q (ones NR.s)).e w) from rcDiv_any c NR.e q.x NR.s w hc hf)
  have J2 := Lib.hid (fun w hc hf => show Calls Tryz.prog 48 #[.pointer (some ⟨c, 0, none⟩), .agg #[.int .i64 q.y.lo, .int .i64 q.y.hi], .agg #[.int .i64 NR.s.lo, .int .i64 NR.s.hi]] w (RetC c (.agg #[.int .i64 ((each2 divR NR.e q (ones NR.s)).s).lo, .int .i64 ((each2 divR NR.e q (ones NR.s)).s).hi]) (each2 divR NR.e q (ones NR.s)).e w) from rcDiv_any c (each1 divR NR.e q (ones NR.s)).e q.y NR.s w hc hf)
  have J3 := Lib.hid (fun w hc hf => show Calls Tryz.prog 48 #[.pointer (some ⟨c, 0, none⟩), .agg #[.int .i64 q.z.lo, .int .i64 q.z.hi], .agg #[.int .i64 NR.s.lo, .int .i64 NR.s.hi]] w (RetC c (.agg #[.int .i64 ((each3 divR NR.e q (ones NR.s)).s).lo, .int .i64 ((each3 divR NR.e q (ones NR.s)).s).hi]) (each3 divR NR.e q (ones NR.s)).e w) from rcDiv_any c (each2 divR NR.e q (ones NR.s)).e q.z NR.s w hc hf)
  have J4 := Lib.hid (fun w hc hf => show Calls Tryz.prog 48 #[.pointer (some ⟨c, 0, none⟩), .agg #[.int .i64 pP.mu.lo, .int .i64 pP.mu.hi], .agg #[.int .i64 NR.s.lo, .int .i64 NR.s.hi]] w (RetC c (.agg #[.int .i64 ((atS pP q NR.s NR.e).s).lo, .int .i64 ((atS pP q NR.s NR.e).s).hi]) (atS pP q NR.s NR.e).e w) from rcDiv_any c (each3 divR NR.e q (ones NR.s)).e pP.mu NR.s w hc hf)
  have J5 := Lib.hid (fun w hc hf => show Calls Tryz.prog 48 #[.pointer (some ⟨c, 0, none⟩), .agg #[.int .i64 ((atS pP q NR.s NR.e).s).lo, .int .i64 ((atS pP q NR.s NR.e).s).hi], .agg #[.int .i64 NR.s.lo, .int .i64 NR.s.hi]] w (RetC c (.agg #[.int .i64 ((atT pP q NR.s NR.e).s).lo, .int .i64 ((atT pP q NR.s NR.e).s).hi]) (atT pP q NR.s NR.e).e w) from rcDiv_any c (atS pP q NR.s NR.e).e (atS pP q NR.s NR.e).s NR.s w hc hf)
  have J6 := Lib.hid (fun w hc hf => show Calls Tryz.prog 136 #[.pointer (some ⟨c, 0, none⟩), .agg pP.cells.toArray, .agg #[.int .i64 NR.s.lo, .int .i64 NR.s.hi], .agg #[.int .i64 ((each3 divR NR.e q (ones NR.s)).s).lo, .int .i64 ((each3 divR NR.e q (ones NR.s)).s).hi]] w (RetC c (.agg #[.int .i64 ((atN pP q NR.s NR.e).b).x.lo, .int .i64 ((atN pP q NR.s NR.e).b).x.hi, .int .i64 ((atN pP q NR.s NR.e).b).y.lo, .int .i64 ((atN pP q NR.s NR.e).b).y.hi, .int .i64 ((atN pP q NR.s NR.e).b).z.lo, .int .i64 ((atN pP q NR.s NR.e).b).z.hi]) (atN pP q NR.s NR.e).e w) from r3Shape_any pP NR.s (each3 divR NR.e q (ones NR.s)).s c (atT pP q NR.s NR.e).e w hc hf)
  obtain ⟨X0, hX0⟩ : ∃ X, X = (doR (atN pP q NR.s NR.e).e (mulR (atT pP q NR.s NR.e).s (each1 divR NR.e q (ones NR.s)).s)) := ⟨_, rfl⟩
  obtain ⟨Y0, hY0⟩ : ∃ Y, Y = doR X0.e (mulR X0.s (atN pP q NR.s NR.e).b.x) := ⟨_, rfl⟩
  have hZ0 := mulSub_is (atT pP q NR.s NR.e).s (each1 divR NR.e q (ones NR.s)).s (atN pP q NR.s NR.e).b.x pP.pull.x (atN pP q NR.s NR.e).e
  rw [← hX0, ← hY0] at hZ0
  have sX0 : S64 X0.s := by rw [hX0]; exact s64_do _ _
  have sY0 : S64 Y0.s := by rw [hY0]; exact s64_do _ _
  have M0a := Lib.hid (fun w hc hf => show Calls Tryz.prog 58 #[.pointer (some ⟨c, 0, none⟩), .agg #[.int .i64 ((atT pP q NR.s NR.e).s).lo, .int .i64 ((atT pP q NR.s NR.e).s).hi], .agg #[.int .i64 ((each1 divR NR.e q (ones NR.s)).s).lo, .int .i64 ((each1 divR NR.e q (ones NR.s)).s).hi]] w (RetC c (.agg #[.int .i64 X0.s.lo, .int .i64 X0.s.hi]) X0.e w) from by
    rw [hX0]
    exact rcMul_any c (atN pP q NR.s NR.e).e (atT pP q NR.s NR.e).s (each1 divR NR.e q (ones NR.s)).s w hc hf)
  have M0b := Lib.hid (fun w hc hf => show Calls Tryz.prog 58 #[.pointer (some ⟨c, 0, none⟩), .agg #[.int .i64 X0.s.lo, .int .i64 X0.s.hi], .agg #[.int .i64 ((atN pP q NR.s NR.e).b.x).lo, .int .i64 ((atN pP q NR.s NR.e).b.x).hi]] w (RetC c (.agg #[.int .i64 Y0.s.lo, .int .i64 Y0.s.hi]) Y0.e w) from by
    rw [hY0]
    exact rcMul_any c X0.e X0.s (atN pP q NR.s NR.e).b.x w hc hf)
  obtain ⟨Z0, hW0⟩ : ∃ Z, Z = (mulSub (atT pP q NR.s NR.e).s (each1 divR NR.e q (ones NR.s)).s (atN pP q NR.s NR.e).b.x pP.pull.x (atN pP q NR.s NR.e).e) := ⟨_, rfl⟩
  rw [← hW0] at hZ0
  have M0c := Lib.hid (fun w hc hf => show Calls Tryz.prog 41 #[.pointer (some ⟨c, 0, none⟩), .agg #[.int .i64 pP.pull.x.lo, .int .i64 pP.pull.x.hi], .agg #[.int .i64 Y0.s.lo, .int .i64 Y0.s.hi]] w (RetC c (.agg #[.int .i64 Z0.s.lo, .int .i64 Z0.s.hi]) Z0.e w) from by
    rw [hZ0]
    exact rcSub_any c Y0.e pP.pull.x Y0.s w hc hf)
  obtain ⟨X1, hX1⟩ : ∃ X, X = (doR Z0.e (mulR (atT pP q NR.s NR.e).s (each2 divR NR.e q (ones NR.s)).s)) := ⟨_, rfl⟩
  obtain ⟨Y1, hY1⟩ : ∃ Y, Y = doR X1.e (mulR X1.s (atN pP q NR.s NR.e).b.y) := ⟨_, rfl⟩
  have hZ1 := mulSub_is (atT pP q NR.s NR.e).s (each2 divR NR.e q (ones NR.s)).s (atN pP q NR.s NR.e).b.y pP.pull.y Z0.e
  rw [← hX1, ← hY1] at hZ1
  have sX1 : S64 X1.s := by rw [hX1]; exact s64_do _ _
  have sY1 : S64 Y1.s := by rw [hY1]; exact s64_do _ _
  have M1a := Lib.hid (fun w hc hf => show Calls Tryz.prog 58 #[.pointer (some ⟨c, 0, none⟩), .agg #[.int .i64 ((atT pP q NR.s NR.e).s).lo, .int .i64 ((atT pP q NR.s NR.e).s).hi], .agg #[.int .i64 ((each2 divR NR.e q (ones NR.s)).s).lo, .int .i64 ((each2 divR NR.e q (ones NR.s)).s).hi]] w (RetC c (.agg #[.int .i64 X1.s.lo, .int .i64 X1.s.hi]) X1.e w) from by
    rw [hX1]
    exact rcMul_any c Z0.e (atT pP q NR.s NR.e).s (each2 divR NR.e q (ones NR.s)).s w hc hf)
  have M1b := Lib.hid (fun w hc hf => show Calls Tryz.prog 58 #[.pointer (some ⟨c, 0, none⟩), .agg #[.int .i64 X1.s.lo, .int .i64 X1.s.hi], .agg #[.int .i64 ((atN pP q NR.s NR.e).b.y).lo, .int .i64 ((atN pP q NR.s NR.e).b.y).hi]] w (RetC c (.agg #[.int .i64 Y1.s.lo, .int .i64 Y1.s.hi]) Y1.e w) from by
    rw [hY1]
    exact rcMul_any c X1.e X1.s (atN pP q NR.s NR.e).b.y w hc hf)
  obtain ⟨Z1, hW1⟩ : ∃ Z, Z = (mulSub (atT pP q NR.s NR.e).s (each2 divR NR.e q (ones NR.s)).s (atN pP q NR.s NR.e).b.y pP.pull.y Z0.e) := ⟨_, rfl⟩
  rw [← hW1] at hZ1
  have M1c := Lib.hid (fun w hc hf => show Calls Tryz.prog 41 #[.pointer (some ⟨c, 0, none⟩), .agg #[.int .i64 pP.pull.y.lo, .int .i64 pP.pull.y.hi], .agg #[.int .i64 Y1.s.lo, .int .i64 Y1.s.hi]] w (RetC c (.agg #[.int .i64 Z1.s.lo, .int .i64 Z1.s.hi]) Z1.e w) from by
    rw [hZ1]
    exact rcSub_any c Y1.e pP.pull.y Y1.s w hc hf)
  obtain ⟨X2, hX2⟩ : ∃ X, X = (doR Z1.e (mulR (atT pP q NR.s NR.e).s (each3 divR NR.e q (ones NR.s)).s)) := ⟨_, rfl⟩
  obtain ⟨Y2, hY2⟩ : ∃ Y, Y = doR X2.e (mulR X2.s (atN pP q NR.s NR.e).b.z) := ⟨_, rfl⟩
  have hZ2 := mulSub_is (atT pP q NR.s NR.e).s (each3 divR NR.e q (ones NR.s)).s (atN pP q NR.s NR.e).b.z pP.pull.z Z1.e
  rw [← hX2, ← hY2] at hZ2
  have sX2 : S64 X2.s := by rw [hX2]; exact s64_do _ _
  have sY2 : S64 Y2.s := by rw [hY2]; exact s64_do _ _
  have M2a := Lib.hid (fun w hc hf => show Calls Tryz.prog 58 #[.pointer (some ⟨c, 0, none⟩), .agg #[.int .i64 ((atT pP q NR.s NR.e).s).lo, .int .i64 ((atT pP q NR.s NR.e).s).hi], .agg #[.int .i64 ((each3 divR NR.e q (ones NR.s)).s).lo, .int .i64 ((each3 divR NR.e q (ones NR.s)).s).hi]] w (RetC c (.agg #[.int .i64 X2.s.lo, .int .i64 X2.s.hi]) X2.e w) from by
    rw [hX2]
    exact rcMul_any c Z1.e (atT pP q NR.s NR.e).s (each3 divR NR.e q (ones NR.s)).s w hc hf)
  have M2b := Lib.hid (fun w hc hf => show Calls Tryz.prog 58 #[.pointer (some ⟨c, 0, none⟩), .agg #[.int .i64 X2.s.lo, .int .i64 X2.s.hi], .agg #[.int .i64 ((atN pP q NR.s NR.e).b.z).lo, .int .i64 ((atN pP q NR.s NR.e).b.z).hi]] w (RetC c (.agg #[.int .i64 Y2.s.lo, .int .i64 Y2.s.hi]) Y2.e w) from by
    rw [hY2]
    exact rcMul_any c X2.e X2.s (atN pP q NR.s NR.e).b.z w hc hf)
  obtain ⟨Z2, hW2⟩ : ∃ Z, Z = (mulSub (atT pP q NR.s NR.e).s (each3 divR NR.e q (ones NR.s)).s (atN pP q NR.s NR.e).b.z pP.pull.z Z1.e) := ⟨_, rfl⟩
  rw [← hW2] at hZ2
  have M2c := Lib.hid (fun w hc hf => show Calls Tryz.prog 41 #[.pointer (some ⟨c, 0, none⟩), .agg #[.int .i64 pP.pull.z.lo, .int .i64 pP.pull.z.hi], .agg #[.int .i64 Y2.s.lo, .int .i64 Y2.s.hi]] w (RetC c (.agg #[.int .i64 Z2.s.lo, .int .i64 Z2.s.hi]) Z2.e w) from by
    rw [hZ2]
    exact rcSub_any c Y2.e pP.pull.z Y2.s w hc hf)
  have HP0 := Lib.hid (fun (h : zeroB pP.mu = false) => show OP = ⟨⟨Z0.s, Z1.s, Z2.s⟩, Z2.e⟩ by
    have h1 := HOP.out
    rw [h] at h1
    rw [show OP = pullG pP q NR.s NR.e from h1, hW2, hW1, hW0]
    rfl)
  have HP1 := Lib.hid (fun (h : zeroB pP.mu = true) => show OP = ⟨pP.pull, NR.e⟩ by have h1 := HOP.out; rw [h] at h1; exact h1)
  clear HOP hX0 hX1 hX2 hY0 hY1 hY2 hZ0 hZ1 hZ2 hW0 hW1 hW2 sX0 sX1 sX2 sY0 sY1 sY2 sU1 sU2 sU3 sS sT bN
  generalize atN pP q NR.s NR.e = rN at *
  generalize atT pP q NR.s NR.e = rT at *
  generalize atS pP q NR.s NR.e = rS at *
  generalize each3 divR NR.e q (ones NR.s) = U3 at *
  generalize each2 divR NR.e q (ones NR.s) = U2 at *
  generalize each1 divR NR.e q (ones NR.s) = U1 at *
  generalize zeroB pP.mu = zm at *
  conv => arg 2; dsimp only [tlC, Tryz.f72, Option.getD]
  go_upto_if 46 with (go_at_call 135; (with_reducible refine call_later (HZ.out _) ?_); intro u1)
  go_cut [] (fun wx => FrG c w pP x q v m (OP.e) (NR.s) (OP.b) wx)
  case first =>
    cases zm
    · have hN := HP0.out (by first | rfl | trivial)
      go_wp2
      refine wp_loop_rounds 4 ?_
      rw [rounds_succ]
      go_wp2
      refine wp_region_calc c [NR.e, U1.e] 8 [] [6] [] (fun W0 => []) [.agg #[.int .i64 U1.s.lo, .int .i64 U1.s.hi]] [8] (by rfl) (by go_simp) (by go_simp) (fun _ _ x hx => absurd hx (List.not_mem_nil)) (by kernel_rfl) (by kernel_rfl) (by kernel_rfl) ?_
      intro pz hd0
      apply Exists.intro
      apply And.intro
      apply lexc_pure hd0 (by kernel_rfl)
      · intro uz xc; unfold opPure; go_simp; rfl
      apply lexc_pure hd0 (by kernel_rfl)
      · intro uz xc; unfold opPure; go_simp; rfl
      apply lexc_pure hd0 (by kernel_rfl)
      · intro uz xc; unfold opPure; go_simp; rfl
      apply lexc_pure hd0 (by kernel_rfl)
      · intro uz xc; unfold opPure; go_simp; rfl
      apply lexc_pure hd0 (by kernel_rfl)
      · intro uz xc; unfold opPure; go_simp; rfl
      apply lexc_pure hd0 (by kernel_rfl)
      · intro uz xc; unfold opPure; go_simp; rfl
      apply lexc_call hd0 0 (by kernel_rfl) (by rfl) (by decide)
      · intro uz hfz hF; clear hF; unfold opCall; go_simp; exact J1.out _ (by go_simp) hfz
      apply lexc_pure hd0 (by kernel_rfl)
      · intro uz xc; unfold opPure; go_simp; rfl
      apply lexc_end
      rotate_left
      · rfl
      intro uz hR hD hfz
      clear hR hD
      refine tail_store (by rfl) ?_; unfold opStore; go_simp
      refine tail_end ?_
      go_wp2
      rw [rounds_succ]
      go_wp2
      refine wp_region_calc c [U1.e, U2.e] 8 [] [6] [] (fun W0 => []) [.agg #[.int .i64 U2.s.lo, .int .i64 U2.s.hi]] [8] (by rfl) (by go_simp) (by go_simp) (fun _ _ x hx => absurd hx (List.not_mem_nil)) (by kernel_rfl) (by kernel_rfl) (by kernel_rfl) ?_
      intro pz hd0
      apply Exists.intro
      apply And.intro
      apply lexc_pure hd0 (by kernel_rfl)
      · intro uz xc; unfold opPure; go_simp; rfl
      apply lexc_pure hd0 (by kernel_rfl)
      · intro uz xc; unfold opPure; go_simp; rfl
      apply lexc_pure hd0 (by kernel_rfl)
      · intro uz xc; unfold opPure; go_simp; rfl
      apply lexc_pure hd0 (by kernel_rfl)
      · intro uz xc; unfold opPure; go_simp; rfl
      apply lexc_pure hd0 (by kernel_rfl)
      · intro uz xc; unfold opPure; go_simp; rfl
      apply lexc_pure hd0 (by kernel_rfl)
      · intro uz xc; unfold opPure; go_simp; rfl
      apply lexc_call hd0 0 (by kernel_rfl) (by rfl) (by decide)
      · intro uz hfz hF; clear hF; unfold opCall; go_simp; exact J2.out _ (by go_simp) hfz
      apply lexc_pure hd0 (by kernel_rfl)
      · intro uz xc; unfold opPure; go_simp; rfl
      apply lexc_end
      rotate_left
      · rfl
      intro uz hR hD hfz
      clear hR hD
      refine tail_store (by rfl) ?_; unfold opStore; go_simp
      refine tail_end ?_
      go_wp2
      rw [rounds_succ]
      go_wp2
      refine wp_region_calc c [U2.e, U3.e] 8 [] [6] [] (fun W0 => []) [.agg #[.int .i64 U3.s.lo, .int .i64 U3.s.hi]] [8] (by rfl) (by go_simp) (by go_simp) (fun _ _ x hx => absurd hx (List.not_mem_nil)) (by kernel_rfl) (by kernel_rfl) (by kernel_rfl) ?_
      intro pz hd0
      apply Exists.intro
      apply And.intro
      apply lexc_pure hd0 (by kernel_rfl)
      · intro uz xc; unfold opPure; go_simp; rfl
      apply lexc_pure hd0 (by kernel_rfl)
      · intro uz xc; unfold opPure; go_simp; rfl
      apply lexc_pure hd0 (by kernel_rfl)
      · intro uz xc; unfold opPure; go_simp; rfl
      apply lexc_pure hd0 (by kernel_rfl)
      · intro uz xc; unfold opPure; go_simp; rfl
      apply lexc_pure hd0 (by kernel_rfl)
      · intro uz xc; unfold opPure; go_simp; rfl
      apply lexc_pure hd0 (by kernel_rfl)
      · intro uz xc; unfold opPure; go_simp; rfl
      apply lexc_call hd0 0 (by kernel_rfl) (by rfl) (by decide)
      · intro uz hfz hF; clear hF; unfold opCall; go_simp; exact J3.out _ (by go_simp) hfz
      apply lexc_pure hd0 (by kernel_rfl)
      · intro uz xc; unfold opPure; go_simp; rfl
      apply lexc_end
      rotate_left
      · rfl
      intro uz hR hD hfz
      clear hR hD
      refine tail_store (by rfl) ?_; unfold opStore; go_simp
      refine tail_end ?_
      go_wp2
      rw [rounds_succ]
      go_wp2
      refine wp_region_calc c [U3.e, rS.e, rT.e] 9 [8] [5, 7] [] (fun W0 => [(8, BoxR W0 [.int .i64 0, .int .i64 0])]) [.agg #[.int .i64 rS.s.lo, .int .i64 rS.s.hi], .agg #[.int .i64 rT.s.lo, .int .i64 rT.s.hi]] [9] (by rfl) (by go_simp) (by go_simp) (by intro W0 hW0 x hx; simp only [List.mem_cons, List.not_mem_nil, or_false] at hx; rcases hx with rfl <;> first | exact goodc_box _ _ hW0 _) (by kernel_rfl) (by kernel_rfl) (by kernel_rfl) ?_
      intro pz hd0
      apply Exists.intro
      apply And.intro
      apply lexc_pure hd0 (by kernel_rfl)
      · intro uz xc; unfold opPure; go_simp; rfl
      apply lexc_pure hd0 (by kernel_rfl)
      · intro uz xc; unfold opPure; go_simp; rfl
      apply lexc_pure hd0 (by kernel_rfl)
      · intro uz xc; unfold opPure; go_simp; rfl
      apply lexc_pure hd0 (by kernel_rfl)
      · intro uz xc; unfold opPure; go_simp; rfl
      apply lexc_pure hd0 (by kernel_rfl)
      · intro uz xc; unfold opPure; go_simp; rfl
      apply lexc_call hd0 0 (by kernel_rfl) (by rfl) (by decide)
      · intro uz hfz hF; clear hF; unfold opCall; go_simp; exact J4.out _ (by go_simp) hfz
      apply lexc_pure hd0 (by kernel_rfl)
      · intro uz xc; unfold opPure; go_simp; rfl
      apply lexc_call hd0 1 (by kernel_rfl) (by rfl) (by decide)
      · intro uz hfz hF; clear hF; unfold opCall; go_simp; exact J5.out _ (by go_simp) hfz
      apply lexc_make hd0 (by kernel_rfl)
      · intro uz xc hF; clear hF; unfold opMake; go_simp; refine (show Made (BoxR _ [.int .i64 0, .int .i64 0]) _ _ _ from ?_); exact madec_box _ _ _ _
      apply lexc_end
      rotate_left
      · rfl
      intro uz hR hD hfz
      obtain ⟨q8, e8, hB8, kB8, nB8⟩ := (show BoxR _ [.int .i64 0, .int .i64 0] (pz 8) _ from hR 8 (by decide))
      clear hR hD
      rw [e8]
      clear e8
      have oB8 := apart_oldL nB8
      have oC8 := apart_oldR nB8
      have hB8 := boxAt_cw hB8 hd0 nB8
      have kB8 := blockIn_cw kB8
      have hB8_0 := (hB8 0 _ rfl).1
      have hB8f0 := (hB8 0 _ rfl).2
      have hB8i0 : HasCell (uz.world) (q8) 0 := ⟨_, hB8_0⟩
      have hB8_1 := (hB8 1 _ rfl).1
      have hB8f1 := (hB8 1 _ rfl).2
      have hB8i1 : HasCell (uz.world) (q8) 1 := ⟨_, hB8_1⟩
      have hB8b : BlockIn (uz.world) (q8) := BlockIn.of_cell hB8_0
      clear hB8
      refine tail_store (by rfl) ?_; unfold opStore; go_simp
      refine tail_end ?_
      have nw8 : NewFor w q8 := newFor_but Hb.out nB8
      go_wp2_with (first | (go_at_call 136; (with_reducible refine call_calc (J6.out _ ?_ ?_) ?_); (· go_simp); (· go_simp); intro u6) | ((with_reducible refine wpList_load_is ?_ ?_ ?_ ?_ ?_ ?_ ?_ ?_ ?_ ?_ ?_ ?_ ?_); rotate_left 6; (· rfl); (· rfl); (· rfl); (· infer_instance); (· infer_instance); (· rfl)))
      refine wp_loop_rounds 4 ?_
      rw [rounds_succ]
      go_wp2
      refine wp_region_calc c [rN.e, X0.e, Y0.e, Z0.e] 18 [] [11, 15, 16] [] (fun W0 => []) [.agg #[.int .i64 X0.s.lo, .int .i64 X0.s.hi], .agg #[.int .i64 Y0.s.lo, .int .i64 Y0.s.hi], .agg #[.int .i64 Z0.s.lo, .int .i64 Z0.s.hi]] [18] (by rfl) (by go_simp) (by go_simp) (fun _ _ x hx => absurd hx (List.not_mem_nil)) (by kernel_rfl) (by kernel_rfl) (by kernel_rfl) ?_
      intro pz hd0
      apply Exists.intro
      apply And.intro
      apply lexc_pure hd0 (by kernel_rfl)
      · intro uz xc; unfold opPure; go_simp; rfl
      apply lexc_pure hd0 (by kernel_rfl)
      · intro uz xc; unfold opPure; go_simp; rfl
      apply lexc_pure hd0 (by kernel_rfl)
      · intro uz xc; unfold opPure; go_simp; rfl
      apply lexc_pure hd0 (by kernel_rfl)
      · intro uz xc; unfold opPure; go_simp; rfl
      apply lexc_pure hd0 (by kernel_rfl)
      · intro uz xc; unfold opPure; go_simp; rfl
      apply lexc_pure hd0 (by kernel_rfl)
      · intro uz xc; unfold opPure; go_simp; rfl
      apply lexc_pure hd0 (by kernel_rfl)
      · intro uz xc; unfold opPure; go_simp; rfl
      apply lexc_pure hd0 (by kernel_rfl)
      · intro uz xc; unfold opPure; go_simp; rfl
      apply lexc_pure hd0 (by kernel_rfl)
      · intro uz xc; unfold opPure; go_simp; rfl
      apply lexc_pure hd0 (by kernel_rfl)
      · intro uz xc; unfold opPure; go_simp; rfl
      apply lexc_pure hd0 (by kernel_rfl)
      · intro uz xc; unfold opPure; go_simp; rfl
      apply lexc_call hd0 0 (by kernel_rfl) (by rfl) (by decide)
      · intro uz hfz hF; clear hF; unfold opCall; go_simp; exact M0a.out _ (by go_simp) hfz
      apply lexc_pure hd0 (by kernel_rfl)
      · intro uz xc; unfold opPure; go_simp; rfl
      apply lexc_pure hd0 (by kernel_rfl)
      · intro uz xc; unfold opPure; go_simp; rfl
      apply lexc_pure hd0 (by kernel_rfl)
      · intro uz xc; unfold opPure; go_simp; rfl
      apply lexc_call hd0 1 (by kernel_rfl) (by rfl) (by decide)
      · intro uz hfz hF; clear hF; unfold opCall; go_simp; exact M0b.out _ (by go_simp) hfz
      apply lexc_call hd0 2 (by kernel_rfl) (by rfl) (by decide)
      · intro uz hfz hF; clear hF; unfold opCall; go_simp; exact M0c.out _ (by go_simp) hfz
      apply lexc_pure hd0 (by kernel_rfl)
      · intro uz xc; unfold opPure; go_simp; rfl
      apply lexc_end
      rotate_left
      · rfl
      intro uz hR hD hfz
      clear hR hD
      refine tail_store (by rfl) ?_; unfold opStore; go_simp
      refine tail_end ?_
      go_wp2
      rw [rounds_succ]
      go_wp2
      refine wp_region_calc c [Z0.e, X1.e, Y1.e, Z1.e] 18 [] [11, 15, 16] [] (fun W0 => []) [.agg #[.int .i64 X1.s.lo, .int .i64 X1.s.hi], .agg #[.int .i64 Y1.s.lo, .int .i64 Y1.s.hi], .agg #[.int .i64 Z1.s.lo, .int .i64 Z1.s.hi]] [18] (by rfl) (by go_simp) (by go_simp) (fun _ _ x hx => absurd hx (List.not_mem_nil)) (by kernel_rfl) (by kernel_rfl) (by kernel_rfl) ?_
      intro pz hd0
      apply Exists.intro
      apply And.intro
      apply lexc_pure hd0 (by kernel_rfl)
      · intro uz xc; unfold opPure; go_simp; rfl
      apply lexc_pure hd0 (by kernel_rfl)
      · intro uz xc; unfold opPure; go_simp; rfl
      apply lexc_pure hd0 (by kernel_rfl)
      · intro uz xc; unfold opPure; go_simp; rfl
      apply lexc_pure hd0 (by kernel_rfl)
      · intro uz xc; unfold opPure; go_simp; rfl
      apply lexc_pure hd0 (by kernel_rfl)
      · intro uz xc; unfold opPure; go_simp; rfl
      apply lexc_pure hd0 (by kernel_rfl)
      · intro uz xc; unfold opPure; go_simp; rfl
      apply lexc_pure hd0 (by kernel_rfl)
      · intro uz xc; unfold opPure; go_simp; rfl
      apply lexc_pure hd0 (by kernel_rfl)
      · intro uz xc; unfold opPure; go_simp; rfl
      apply lexc_pure hd0 (by kernel_rfl)
      · intro uz xc; unfold opPure; go_simp; rfl
      apply lexc_pure hd0 (by kernel_rfl)
      · intro uz xc; unfold opPure; go_simp; rfl
      apply lexc_pure hd0 (by kernel_rfl)
      · intro uz xc; unfold opPure; go_simp; rfl
      apply lexc_call hd0 0 (by kernel_rfl) (by rfl) (by decide)
      · intro uz hfz hF; clear hF; unfold opCall; go_simp; exact M1a.out _ (by go_simp) hfz
      apply lexc_pure hd0 (by kernel_rfl)
      · intro uz xc; unfold opPure; go_simp; rfl
      apply lexc_pure hd0 (by kernel_rfl)
      · intro uz xc; unfold opPure; go_simp; rfl
      apply lexc_pure hd0 (by kernel_rfl)
      · intro uz xc; unfold opPure; go_simp; rfl
      apply lexc_call hd0 1 (by kernel_rfl) (by rfl) (by decide)
      · intro uz hfz hF; clear hF; unfold opCall; go_simp; exact M1b.out _ (by go_simp) hfz
      apply lexc_call hd0 2 (by kernel_rfl) (by rfl) (by decide)
      · intro uz hfz hF; clear hF; unfold opCall; go_simp; exact M1c.out _ (by go_simp) hfz
      apply lexc_pure hd0 (by kernel_rfl)
      · intro uz xc; unfold opPure; go_simp; rfl
      apply lexc_end
      rotate_left
      · rfl
      intro uz hR hD hfz
      clear hR hD
      refine tail_store (by rfl) ?_; unfold opStore; go_simp
      refine tail_end ?_
      go_wp2
      rw [rounds_succ]
      go_wp2
      refine wp_region_calc c [Z1.e, X2.e, Y2.e, Z2.e] 18 [] [11, 15, 16] [] (fun W0 => []) [.agg #[.int .i64 X2.s.lo, .int .i64 X2.s.hi], .agg #[.int .i64 Y2.s.lo, .int .i64 Y2.s.hi], .agg #[.int .i64 Z2.s.lo, .int .i64 Z2.s.hi]] [18] (by rfl) (by go_simp) (by go_simp) (fun _ _ x hx => absurd hx (List.not_mem_nil)) (by kernel_rfl) (by kernel_rfl) (by kernel_rfl) ?_
      intro pz hd0
      apply Exists.intro
      apply And.intro
      apply lexc_pure hd0 (by kernel_rfl)
      · intro uz xc; unfold opPure; go_simp; rfl
      apply lexc_pure hd0 (by kernel_rfl)
      · intro uz xc; unfold opPure; go_simp; rfl
      apply lexc_pure hd0 (by kernel_rfl)
      · intro uz xc; unfold opPure; go_simp; rfl
      apply lexc_pure hd0 (by kernel_rfl)
      · intro uz xc; unfold opPure; go_simp; rfl
      apply lexc_pure hd0 (by kernel_rfl)
      · intro uz xc; unfold opPure; go_simp; rfl
      apply lexc_pure hd0 (by kernel_rfl)
      · intro uz xc; unfold opPure; go_simp; rfl
      apply lexc_pure hd0 (by kernel_rfl)
      · intro uz xc; unfold opPure; go_simp; rfl
      apply lexc_pure hd0 (by kernel_rfl)
      · intro uz xc; unfold opPure; go_simp; rfl
      apply lexc_pure hd0 (by kernel_rfl)
      · intro uz xc; unfold opPure; go_simp; rfl
      apply lexc_pure hd0 (by kernel_rfl)
      · intro uz xc; unfold opPure; go_simp; rfl
      apply lexc_pure hd0 (by kernel_rfl)
      · intro uz xc; unfold opPure; go_simp; rfl
      apply lexc_call hd0 0 (by kernel_rfl) (by rfl) (by decide)
      · intro uz hfz hF; clear hF; unfold opCall; go_simp; exact M2a.out _ (by go_simp) hfz
      apply lexc_pure hd0 (by kernel_rfl)
      · intro uz xc; unfold opPure; go_simp; rfl
      apply lexc_pure hd0 (by kernel_rfl)
      · intro uz xc; unfold opPure; go_simp; rfl
      apply lexc_pure hd0 (by kernel_rfl)
      · intro uz xc; unfold opPure; go_simp; rfl
      apply lexc_call hd0 1 (by kernel_rfl) (by rfl) (by decide)
      · intro uz hfz hF; clear hF; unfold opCall; go_simp; exact M2b.out _ (by go_simp) hfz
      apply lexc_call hd0 2 (by kernel_rfl) (by rfl) (by decide)
      · intro uz hfz hF; clear hF; unfold opCall; go_simp; exact M2c.out _ (by go_simp) hfz
      apply lexc_pure hd0 (by kernel_rfl)
      · intro uz xc; unfold opPure; go_simp; rfl
      apply lexc_end
      rotate_left
      · rfl
      intro uz hR hD hfz
      clear hR hD
      refine tail_store (by rfl) ?_; unfold opStore; go_simp
      refine tail_end ?_
      go_wp2
      rw [rounds_succ]
      go_wp2
      go_meet
      case rel => exact ⟨(by repeat (first | with_reducible exact Hb.out | with_reducible apply But.alloc | with_reducible apply But.later | with_reducible apply But.drew | with_reducible apply But.put | with_reducible apply But.store)), by rw [hN]; go_simp, by go_simp, inferInstance, inferInstance, inferInstance, inferInstance, inferInstance, inferInstance, rowIs_cast inferInstance (by rw [hN]; rfl), inferInstance⟩
    · have hN := HP1.out (by first | rfl | trivial)
      go_wp2
      go_meet
      case rel => exact ⟨(by repeat (first | with_reducible exact Hb.out | with_reducible apply But.alloc | with_reducible apply But.later | with_reducible apply But.drew | with_reducible apply But.put | with_reducible apply But.store)), by rw [hN]; go_simp, by go_simp, inferInstance, inferInstance, inferInstance, inferInstance, inferInstance, inferInstance, rowIs_cast inferInstance (by rw [hN]), inferInstance⟩
  case rest =>
  go_step
  exact HK.out _ _ _ _ _ _ _ _ _ _ _ _ _ _ _ _ _ _ _ _ _ _ _ _ _ _ _ _ _ _ _ _ _ _ _ _ _ _ _ _ _ _ _ _ _ _ _ _ _ _ _ _ _ _ _ _ _ _ _ _ _ _ _ _ _ _ _ _ _ _ _ _ _ _ _ _ _ _ _ _ _ _ _ _ _ _ _ _ _ _ _ _ _ _ _ _ _ _ _ _ _ _ _ _ _ _ _ _ _ _ _ _ _ _ _ _ _ _ _ _ _ _ _ _ _ _ _ _ _ _ _ _ _ _ _ _ _ _ _ _ _ _ _ _ _ _ _ _ _ _ _ _ _ _ _ _ _ _ _ _ _ _ _ _ _ _ _ _ _ _ _ _ _ _ _ _ _ _ _ _ _ _ _ _ _ _ _ _ _ _ _ _ _ _ _ wc hcut
end Go.Proofs.YtnedbhdokljpcaaGreat
