/-
  Ullageref03's force: the drag.
-/
import Derived.Test.YtnedbhdokljpcaaGreatForceN
namespace Go.Proofs.YtnedbhdokljpcaaGreat
open Go.RowKit Go.Shelf
set_option maxRecDepth 100000
set_option maxHeartbeats 32000000
theorem r3E (HL : LookOk 122) (pP : Planet) (x : Arc) (l : List Pt) (q v : Bx) (m : Sp) [hp : Pl64 pP] [hv : B64 v] [hm : S64 m] (c : Nat) (e : Int) (w : World) (hc : w.cell? ⟨c, 0, none⟩ = some (.int .i64 e))
    (hdn : x.drag.n = l.length) (HS : ∀ wx, But c w wx → SlAt wx (.slice x.drag.ao l.length x.drag.cap) l.length (l.flatMap Pt.cells))
    (NR : Res) (OT : BRes) [sN : S64 NR.s] [bT : B64 OT.b] (u15 u16 u17 u18 u19 u20 u21 u22 u23 u24 u25 u26 u27 u28 u29 u30 u31 u32 u33 u34 u35 u36 u37 u38 u39 u40 u41 u42 u43 u44 u45 u46 u47 u48 u49 u50 u51 u52 u53 u54 u55 u56 u57 u58 u59 u60 u61 u62 u63 u64 u65 u66 u67 u68 u69 u70 u71 u72 u73 u74 u75 u76 u77 u78 u79 u80 u81 u82 u83 u84 u85 u86 u87 u88 u89 u90 u91 u92 u93 u94 u95 u96 u97 u98 u99 u100 u101 u102 u103 u104 u105 u106 u107 u108 u109 u110 u111 u112 u113 u114 u115 u116 u117 u118 u119 u120 u121 u122 u123 u124 u125 u126 u127 u128 u129 u130 u131 u132 u133 u134 u135 u136 u137 u138 u139 u140 u141 u142 u143 u144 u145 u146 u147 u148 u149 u150 u151 u152 u153 u154 u155 u156 u157 u158 u159 u160 u161 u162 u163 u164 u165 u166 u167 u168 u169 u170 u171 u172 u173 u174 u175 u176 u177 u178 u179 u180 u181 u182 u183 u184 u185 u186 u187 u188 u189 u190 u191 u192 u193 u194 u195 u196 u197 u198 u199 u200 u201 u202 u203 u204 u205 u206 u207 u208 u209 : Value) (wc : World) (hF : FrG c w pP x q v m (OT.e) (NR.s) (OT.b) wc) :
    (tlC (tlC (tlC (tlC (tlC (tlC (tlC (Tryz.f72.body.getD .skip)))))))).wp Tryz.prog (bodyPost Tryz.prog Tryz.f72 (RetC c (.agg #[.int .i64 ((dragG pP l v m NR.s OT).b).x.lo, .int .i64 ((dragG pP l v m NR.s OT).b).x.hi, .int .i64 ((dragG pP l v m NR.s OT).b).y.lo, .int .i64 ((dragG pP l v m NR.s OT).b).y.hi, .int .i64 ((dragG pP l v m NR.s OT).b).z.lo, .int .i64 ((dragG pP l v m NR.s OT).b).z.hi]) (dragG pP l v m NR.s OT).e w)) { tmps := #[.pointer (some ⟨c, 0, none⟩), .agg pP.cells.toArray, .agg x.cells.toArray, .agg #[.int .i64 q.x.lo, .int .i64 q.x.hi, .int .i64 q.y.lo, .int .i64 q.y.hi, .int .i64 q.z.lo, .int .i64 q.z.hi], .agg #[.int .i64 v.x.lo, .int .i64 v.x.hi, .int .i64 v.y.lo, .int .i64 v.y.hi, .int .i64 v.z.lo, .int .i64 v.z.hi], .agg #[.int .i64 m.lo, .int .i64 m.hi], undef, .pointer (some ⟨w.heap.size, 0, none⟩), .pointer (some ⟨w.heap.size + 1, 0, none⟩), .pointer (some ⟨w.heap.size + 1 + 1, 0, none⟩), .pointer (some ⟨w.heap.size + 1 + 1 + 1, 0, none⟩), .pointer (some ⟨w.heap.size + 1 + 1 + 1 + 1, 0, none⟩), .pointer (some ⟨w.heap.size + 1 + 1 + 1 + 1 + 1, 0, none⟩), .pointer (some ⟨w.heap.size + 1 + 1 + 1 + 1 + 1 + 1, 0, none⟩), .pointer (some ⟨w.heap.size + 1 + 1 + 1 + 1 + 1 + 1 + 1, 0, none⟩), u15, u16, u17, u18, u19, u20, u21, u22, u23, u24, u25, u26, u27, u28, u29, u30, u31, u32, u33, u34, u35, u36, u37, u38, u39, u40, u41, u42, u43, u44, u45, u46, u47, u48, u49, u50, u51, u52, u53, u54, u55, u56, u57, u58, u59, u60, u61, u62, u63, u64, u65, u66, u67, u68, u69, u70, u71, u72, u73, u74, u75, u76, u77, u78, u79, u80, u81, u82, u83, u84, u85, u86, u87, u88, u89, u90, u91, u92, u93, u94, u95, u96, u97, u98, u99, u100, u101, u102, u103, u104, u105, u106, u107, u108, u109, u110, u111, u112, u113, u114, u115, u116, u117, u118, u119, u120, u121, u122, u123, u124, u125, u126, u127, u128, u129, u130, u131, u132, u133, u134, u135, u136, u137, u138, u139, u140, u141, u142, u143, u144, u145, u146, u147, u148, u149, u150, u151, u152, u153, u154, u155, u156, u157, u158, u159, u160, u161, u162, u163, u164, u165, u166, u167, u168, u169, u170, u171, u172, u173, u174, u175, u176, u177, u178, u179, u180, u181, u182, u183, u184, u185, u186, u187, u188, u189, u190, u191, u192, u193, u194, u195, u196, u197, u198, u199, u200, u201, u202, u203, u204, u205, u206, u207, u208, u209], defers := [] } wc := by
  have ib : BlockIn w c := BlockIn.of_cell hc
  have Hc := Lib.hid hc
  have hlt := ib.lt
  have hlen := (HS w (But.refl hc)).len_le
  unfold maxLen at hlen
  have HLE := Lib.hid (show l.isEmpty = decide (l.length = 0) by cases l <;> simp)
  have HHS := Lib.hid HS
  clear HS
  have hdl := Lib.hid hdn
  clear hdn
  have : Apart (w.heap.size) (c) := ⟨by omega⟩
  have : Apart (w.heap.size + 1) (c) := ⟨by omega⟩
  have : Apart (w.heap.size + 1 + 1) (c) := ⟨by omega⟩
  have : Apart (w.heap.size + 1 + 1 + 1) (c) := ⟨by omega⟩
  have : Apart (w.heap.size + 1 + 1 + 1 + 1) (c) := ⟨by omega⟩
  have : Apart (w.heap.size + 1 + 1 + 1 + 1 + 1) (c) := ⟨by omega⟩
  have : Apart (w.heap.size + 1 + 1 + 1 + 1 + 1 + 1) (c) := ⟨by omega⟩
  have : Apart (w.heap.size + 1 + 1 + 1 + 1 + 1 + 1 + 1) (c) := ⟨by omega⟩
  have : Apart (w.heap.size) (w.heap.size + 1 + 1 + 1 + 1 + 1 + 1) := ⟨by omega⟩
  have : Apart (w.heap.size + 1) (w.heap.size + 1 + 1 + 1 + 1 + 1 + 1) := ⟨by omega⟩
  have : Apart (w.heap.size + 1 + 1) (w.heap.size + 1 + 1 + 1 + 1 + 1 + 1) := ⟨by omega⟩
  have : Apart (w.heap.size + 1 + 1 + 1) (w.heap.size + 1 + 1 + 1 + 1 + 1 + 1) := ⟨by omega⟩
  have : Apart (w.heap.size + 1 + 1 + 1 + 1) (w.heap.size + 1 + 1 + 1 + 1 + 1 + 1) := ⟨by omega⟩
  have : Apart (w.heap.size + 1 + 1 + 1 + 1 + 1) (w.heap.size + 1 + 1 + 1 + 1 + 1 + 1) := ⟨by omega⟩
  have : Apart (w.heap.size + 1 + 1 + 1 + 1 + 1 + 1 + 1) (w.heap.size + 1 + 1 + 1 + 1 + 1 + 1) := ⟨by omega⟩
  have : Apart (c) (w.heap.size + 1 + 1 + 1 + 1 + 1 + 1) := ⟨by omega⟩
  obtain ⟨hb, h2, h3, m1, m2, m3, m4, m5, m6, m7, m8⟩ := hF
  have Hb := Lib.hid hb
  have nwc : NewFor w wc.heap.size := ⟨hb.size⟩
  have ibw : BlockIn wc c := BlockIn.of_cell h2
  have hcw : HasCell wc c 0 := ⟨_, h2⟩
  have i1 := m1.blockIn
  have i2 := m2.blockIn
  have i3 := m3.blockIn
  have i4 := m4.blockIn
  have i5 := m5.blockIn
  have i6 := m6.blockIn
  have i7 := m7.blockIn
  have i8 := m8.blockIn
  clear hb
  have HOD := Lib.hid (show dragG pP l v m NR.s OT = dragG pP l v m NR.s OT from rfl)
  generalize hOD : dragG pP l v m NR.s OT = OD at HOD ⊢
  replace HOD := Lib.hid hOD.symm
  clear hOD
  have : S64 (drH pP NR.s OT).s := s64_do _ _
  have : S64 (drL pP l NR.s OT).s := s64_do _ _
  have : S64 (drB pP l m NR.s OT).s := s64_do _ _
  have : S64 (drS pP l v m NR.s OT).s := s64_do _ _
  have G1 := Lib.hid (fun w hc hf => show Calls Tryz.prog 41 #[.pointer (some ⟨c, 0, none⟩), .agg #[.int .i64 NR.s.lo, .int .i64 NR.s.hi], .agg #[.int .i64 pP.radius.lo, .int .i64 pP.radius.hi]] w (RetC c (.agg #[.int .i64 ((drH pP NR.s OT).s).lo, .int .i64 ((drH pP NR.s OT).s).hi]) (drH pP NR.s OT).e w) from rcSub_any c OT.e NR.s pP.radius w hc hf)
  have G2 := Lib.hid (fun w' (b : But c w w') hc hf => show Calls Tryz.prog 59 #[.pointer (some ⟨c, 0, none⟩), .slice x.drag.ao x.drag.n x.drag.cap, .agg #[.int .i64 ((drH pP NR.s OT).s).lo, .int .i64 ((drH pP NR.s OT).s).hi]] w' (RetC c (.agg #[.int .i64 ((drL pP l NR.s OT).s).lo, .int .i64 ((drL pP l NR.s OT).s).hi]) (drL pP l NR.s OT).e w') from by
    rw [hdl.out]
    exact rcLook_any HL c (drH pP NR.s OT).e l (drH pP NR.s OT).s x.drag.ao x.drag.cap w' (HHS.out w' b) hc hf)
  have G4 := Lib.hid (fun w hc hf => show Calls Tryz.prog 48 #[.pointer (some ⟨c, 0, none⟩), .agg #[.int .i64 ((drL pP l NR.s OT).s).lo, .int .i64 ((drL pP l NR.s OT).s).hi], .agg #[.int .i64 m.lo, .int .i64 m.hi]] w (RetC c (.agg #[.int .i64 ((drB pP l m NR.s OT).s).lo, .int .i64 ((drB pP l m NR.s OT).s).hi]) (drB pP l m NR.s OT).e w) from rcDiv_any c (drL pP l NR.s OT).e (drL pP l NR.s OT).s m w hc hf)
  have G5 := Lib.hid (fun w hc hf => show Calls Tryz.prog 42 #[.pointer (some ⟨c, 0, none⟩), .agg #[.int .i64 v.x.lo, .int .i64 v.x.hi, .int .i64 v.y.lo, .int .i64 v.y.hi, .int .i64 v.z.lo, .int .i64 v.z.hi]] w (RetC c (.agg #[.int .i64 ((drS pP l v m NR.s OT).s).lo, .int .i64 ((drS pP l v m NR.s OT).s).hi]) (drS pP l v m NR.s OT).e w) from rcNorm_any c (drB pP l m NR.s OT).e v w hc hf)
  obtain ⟨X0, hX0⟩ : ∃ X, X = (doR (drS pP l v m NR.s OT).e (mulR (drB pP l m NR.s OT).s (drS pP l v m NR.s OT).s)) := ⟨_, rfl⟩
  obtain ⟨Y0, hY0⟩ : ∃ Y, Y = doR X0.e (mulR X0.s v.x) := ⟨_, rfl⟩
  have hZ0 := mulSub_is (drB pP l m NR.s OT).s (drS pP l v m NR.s OT).s v.x OT.b.x (drS pP l v m NR.s OT).e
  rw [← hX0, ← hY0] at hZ0
  have sX0 : S64 X0.s := by rw [hX0]; exact s64_do _ _
  have sY0 : S64 Y0.s := by rw [hY0]; exact s64_do _ _
  have M0a := Lib.hid (fun w hc hf => show Calls Tryz.prog 58 #[.pointer (some ⟨c, 0, none⟩), .agg #[.int .i64 ((drB pP l m NR.s OT).s).lo, .int .i64 ((drB pP l m NR.s OT).s).hi], .agg #[.int .i64 ((drS pP l v m NR.s OT).s).lo, .int .i64 ((drS pP l v m NR.s OT).s).hi]] w (RetC c (.agg #[.int .i64 X0.s.lo, .int .i64 X0.s.hi]) X0.e w) from by
    rw [hX0]
    exact rcMul_any c (drS pP l v m NR.s OT).e (drB pP l m NR.s OT).s (drS pP l v m NR.s OT).s w hc hf)
  have M0b := Lib.hid (fun w hc hf => show Calls Tryz.prog 58 #[.pointer (some ⟨c, 0, none⟩), .agg #[.int .i64 X0.s.lo, .int .i64 X0.s.hi], .agg #[.int .i64 v.x.lo, .int .i64 v.x.hi]] w (RetC c (.agg #[.int .i64 Y0.s.lo, .int .i64 Y0.s.hi]) Y0.e w) from by
    rw [hY0]
    exact rcMul_any c X0.e X0.s v.x w hc hf)
  obtain ⟨Z0, hW0⟩ : ∃ Z, Z = (mulSub (drB pP l m NR.s OT).s (drS pP l v m NR.s OT).s v.x OT.b.x (drS pP l v m NR.s OT).e) := ⟨_, rfl⟩
  rw [← hW0] at hZ0
  have M0c := Lib.hid (fun w hc hf => show Calls Tryz.prog 41 #[.pointer (some ⟨c, 0, none⟩), .agg #[.int .i64 OT.b.x.lo, .int .i64 OT.b.x.hi], .agg #[.int .i64 Y0.s.lo, .int .i64 Y0.s.hi]] w (RetC c (.agg #[.int .i64 Z0.s.lo, .int .i64 Z0.s.hi]) Z0.e w) from by
    rw [hZ0]
    exact rcSub_any c Y0.e OT.b.x Y0.s w hc hf)
  obtain ⟨X1, hX1⟩ : ∃ X, X = (doR Z0.e (mulR (drB pP l m NR.s OT).s (drS pP l v m NR.s OT).s)) := ⟨_, rfl⟩
  obtain ⟨Y1, hY1⟩ : ∃ Y, Y = doR X1.e (mulR X1.s v.y) := ⟨_, rfl⟩
  have hZ1 := mulSub_is (drB pP l m NR.s OT).s (drS pP l v m NR.s OT).s v.y OT.b.y Z0.e
  rw [← hX1, ← hY1] at hZ1
  have sX1 : S64 X1.s := by rw [hX1]; exact s64_do _ _
  have sY1 : S64 Y1.s := by rw [hY1]; exact s64_do _ _
  have M1a := Lib.hid (fun w hc hf => show Calls Tryz.prog 58 #[.pointer (some ⟨c, 0, none⟩), .agg #[.int .i64 ((drB pP l m NR.s OT).s).lo, .int .i64 ((drB pP l m NR.s OT).s).hi], .agg #[.int .i64 ((drS pP l v m NR.s OT).s).lo, .int .i64 ((drS pP l v m NR.s OT).s).hi]] w (RetC c (.agg #[.int .i64 X1.s.lo, .int .i64 X1.s.hi]) X1.e w) from by
    rw [hX1]
    exact rcMul_any c Z0.e (drB pP l m NR.s OT).s (drS pP l v m NR.s OT).s w hc hf)
  have M1b := Lib.hid (fun w hc hf => show Calls Tryz.prog 58 #[.pointer (some ⟨c, 0, none⟩), .agg #[.int .i64 X1.s.lo, .int .i64 X1.s.hi], .agg #[.int .i64 v.y.lo, .int .i64 v.y.hi]] w (RetC c (.agg #[.int .i64 Y1.s.lo, .int .i64 Y1.s.hi]) Y1.e w) from by
    rw [hY1]
    exact rcMul_any c X1.e X1.s v.y w hc hf)
  obtain ⟨Z1, hW1⟩ : ∃ Z, Z = (mulSub (drB pP l m NR.s OT).s (drS pP l v m NR.s OT).s v.y OT.b.y Z0.e) := ⟨_, rfl⟩
  rw [← hW1] at hZ1
  have M1c := Lib.hid (fun w hc hf => show Calls Tryz.prog 41 #[.pointer (some ⟨c, 0, none⟩), .agg #[.int .i64 OT.b.y.lo, .int .i64 OT.b.y.hi], .agg #[.int .i64 Y1.s.lo, .int .i64 Y1.s.hi]] w (RetC c (.agg #[.int .i64 Z1.s.lo, .int .i64 Z1.s.hi]) Z1.e w) from by
    rw [hZ1]
    exact rcSub_any c Y1.e OT.b.y Y1.s w hc hf)
  obtain ⟨X2, hX2⟩ : ∃ X, X = (doR Z1.e (mulR (drB pP l m NR.s OT).s (drS pP l v m NR.s OT).s)) := ⟨_, rfl⟩
  obtain ⟨Y2, hY2⟩ : ∃ Y, Y = doR X2.e (mulR X2.s v.z) := ⟨_, rfl⟩
  have hZ2 := mulSub_is (drB pP l m NR.s OT).s (drS pP l v m NR.s OT).s v.z OT.b.z Z1.e
  rw [← hX2, ← hY2] at hZ2
  have sX2 : S64 X2.s := by rw [hX2]; exact s64_do _ _
  have sY2 : S64 Y2.s := by rw [hY2]; exact s64_do _ _
  have M2a := Lib.hid (fun w hc hf => show Calls Tryz.prog 58 #[.pointer (some ⟨c, 0, none⟩), .agg #[.int .i64 ((drB pP l m NR.s OT).s).lo, .int .i64 ((drB pP l m NR.s OT).s).hi], .agg #[.int .i64 ((drS pP l v m NR.s OT).s).lo, .int .i64 ((drS pP l v m NR.s OT).s).hi]] w (RetC c (.agg #[.int .i64 X2.s.lo, .int .i64 X2.s.hi]) X2.e w) from by
    rw [hX2]
    exact rcMul_any c Z1.e (drB pP l m NR.s OT).s (drS pP l v m NR.s OT).s w hc hf)
  have M2b := Lib.hid (fun w hc hf => show Calls Tryz.prog 58 #[.pointer (some ⟨c, 0, none⟩), .agg #[.int .i64 X2.s.lo, .int .i64 X2.s.hi], .agg #[.int .i64 v.z.lo, .int .i64 v.z.hi]] w (RetC c (.agg #[.int .i64 Y2.s.lo, .int .i64 Y2.s.hi]) Y2.e w) from by
    rw [hY2]
    exact rcMul_any c X2.e X2.s v.z w hc hf)
  obtain ⟨Z2, hW2⟩ : ∃ Z, Z = (mulSub (drB pP l m NR.s OT).s (drS pP l v m NR.s OT).s v.z OT.b.z Z1.e) := ⟨_, rfl⟩
  rw [← hW2] at hZ2
  have M2c := Lib.hid (fun w hc hf => show Calls Tryz.prog 41 #[.pointer (some ⟨c, 0, none⟩), .agg #[.int .i64 OT.b.z.lo, .int .i64 OT.b.z.hi], .agg #[.int .i64 Y2.s.lo, .int .i64 Y2.s.hi]] w (RetC c (.agg #[.int .i64 Z2.s.lo, .int .i64 Z2.s.hi]) Z2.e w) from by
    rw [hZ2]
    exact rcSub_any c Y2.e OT.b.z Y2.s w hc hf)
  have HO1 := Lib.hid (fun (h : l.isEmpty = true) => show OD = OT by have h1 := HOD.out; unfold dragG at h1; rw [h] at h1; exact h1)
  have HO2 := Lib.hid (fun (h : l.isEmpty = false) => show OD = ⟨⟨Z0.s, Z1.s, Z2.s⟩, Z2.e⟩ by
    have h1 := HOD.out
    unfold dragG at h1
    rw [h] at h1
    rw [show OD = _ from h1, hW2, hW1, hW0]
    rfl)
  clear HOD hX0 hX1 hX2 hY0 hY1 hY2 hZ0 hZ1 hZ2 hW0 hW1 hW2 sX0 sX1 sX2 sY0 sY1 sY2
  generalize drS pP l v m NR.s OT = rS at *
  generalize drB pP l m NR.s OT = rB at *
  generalize drL pP l NR.s OT = rL at *
  generalize drH pP NR.s OT = rH at *
  conv => arg 2; dsimp only [tlC, Tryz.f72, Option.getD]
  cases hl : l.isEmpty
  · have hN := HO2.out hl
    have hpos : 0 < x.drag.n := by
      have h1 := HLE.out
      rw [hl] at h1
      have h2 := hdl.out
      simp at h1
      rw [h2]
      exact Nat.pos_of_ne_zero fun h => h1 (List.eq_nil_of_length_eq_zero h)
    go_wp2
    refine wp_region_calc c [OT.e, rH.e, rL.e, rB.e] 13 [12] [8, 9, 11] [] (fun W0 => [(12, BoxR W0 [.int .i64 0, .int .i64 0])]) [.agg #[.int .i64 rH.s.lo, .int .i64 rH.s.hi], .agg #[.int .i64 rL.s.lo, .int .i64 rL.s.hi], .agg #[.int .i64 rB.s.lo, .int .i64 rB.s.hi]] [13] (by rfl) (by go_simp) (by go_simp) (by intro W0 hW0 x hx; simp only [List.mem_cons, List.not_mem_nil, or_false] at hx; rcases hx with rfl <;> first | exact goodc_box _ _ hW0 _) (by kernel_rfl) (by kernel_rfl) (by kernel_rfl) ?_
    intro pz hd0
    apply Exists.intro
    apply And.intro
    apply lexc_pure hd0 (by kernel_rfl)
    · intro uz xc; unfold opPure; go_simp; rfl
    apply lexc_pure hd0 (by kernel_rfl)
    · intro uz xc; unfold opPure; go_simp; rfl
    apply lexc_pure hd0 (by kernel_rfl)
    · intro uz xc; unfold opPure; go_simp; rfl
    apply lexc_pure hd0 (by kernel_rfl)
    · intro uz xc; unfold opPure; go_simp; rfl
    apply lexc_pure hd0 (by kernel_rfl)
    · intro uz xc; unfold opPure; go_simp; rfl
    apply lexc_pure hd0 (by kernel_rfl)
    · intro uz xc; unfold opPure; go_simp; rfl
    apply lexc_pure hd0 (by kernel_rfl)
    · intro uz xc; unfold opPure; go_simp; rfl
    apply lexc_pure hd0 (by kernel_rfl)
    · intro uz xc; unfold opPure; go_simp; rfl
    apply lexc_call hd0 0 (by kernel_rfl) (by rfl) (by decide)
    · intro uz hfz hF; clear hF; unfold opCall; go_simp; exact G1.out _ (by go_simp) hfz
    apply lexc_call hd0 1 (by kernel_rfl) (by rfl) (by decide)
    · intro uz hfz hF; clear hF; unfold opCall; go_simp; exact G2.out _ (by repeat (first | with_reducible exact Hb.out | with_reducible apply But.alloc | with_reducible apply But.later | with_reducible apply But.drew | with_reducible apply But.put | with_reducible apply But.store)) (by go_simp) hfz
    apply lexc_pure hd0 (by kernel_rfl)
    · intro uz xc; unfold opPure; go_simp; rfl
    apply lexc_call hd0 2 (by kernel_rfl) (by rfl) (by decide)
    · intro uz hfz hF; clear hF; unfold opCall; go_simp; exact G4.out _ (by go_simp) hfz
    apply lexc_make hd0 (by kernel_rfl)
    · intro uz xc hF; clear hF; unfold opMake; go_simp; refine (show Made (BoxR _ [.int .i64 0, .int .i64 0]) _ _ _ from ?_); exact madec_box _ _ _ _
    apply lexc_end
    rotate_left
    · rfl
    intro uz hR hD hfz
    obtain ⟨q12, e12, hB12, kB12, nB12⟩ := (show BoxR _ [.int .i64 0, .int .i64 0] (pz 12) _ from hR 12 (by decide))
    clear hR hD
    rw [e12]
    clear e12
    have oB12 := apart_oldL nB12
    have oC12 := apart_oldR nB12
    have hB12 := boxAt_cw hB12 hd0 nB12
    have kB12 := blockIn_cw kB12
    have hB12_0 := (hB12 0 _ rfl).1
    have hB12f0 := (hB12 0 _ rfl).2
    have hB12i0 : HasCell (uz.world) (q12) 0 := ⟨_, hB12_0⟩
    have hB12_1 := (hB12 1 _ rfl).1
    have hB12f1 := (hB12 1 _ rfl).2
    have hB12i1 : HasCell (uz.world) (q12) 1 := ⟨_, hB12_1⟩
    have hB12b : BlockIn (uz.world) (q12) := BlockIn.of_cell hB12_0
    clear hB12
    refine tail_store (by rfl) ?_; unfold opStore; go_simp
    refine tail_end ?_
    have nw12 : NewFor w q12 := newFor_but Hb.out nB12
    go_wp2_with (go_at_call 42; (with_reducible refine call_calc (G5.out _ ?_ ?_) ?_); (· go_simp); (· go_simp); intro u3)
    refine wp_loop_rounds 4 ?_
    rw [rounds_succ]
    go_wp2
    refine wp_region_calc c [rS.e, X0.e, Y0.e, Z0.e] 16 [] [9, 13, 14] [] (fun W0 => []) [.agg #[.int .i64 X0.s.lo, .int .i64 X0.s.hi], .agg #[.int .i64 Y0.s.lo, .int .i64 Y0.s.hi], .agg #[.int .i64 Z0.s.lo, .int .i64 Z0.s.hi]] [16] (by rfl) (by go_simp) (by go_simp) (fun _ _ x hx => absurd hx (List.not_mem_nil)) (by kernel_rfl) (by kernel_rfl) (by kernel_rfl) ?_
    intro pz hd0
    apply Exists.intro
    apply And.intro
    apply lexc_pure hd0 (by kernel_rfl)
    · intro uz xc; unfold opPure; go_simp; rfl
    apply lexc_pure hd0 (by kernel_rfl)
    · intro uz xc; unfold opPure; go_simp; rfl
    apply lexc_pure hd0 (by kernel_rfl)
    · intro uz xc; unfold opPure; go_simp; rfl
    apply lexc_pure hd0 (by kernel_rfl)
    · intro uz xc; unfold opPure; go_simp; rfl
    apply lexc_pure hd0 (by kernel_rfl)
    · intro uz xc; unfold opPure; go_simp; rfl
    apply lexc_pure hd0 (by kernel_rfl)
    · intro uz xc; unfold opPure; go_simp; rfl
    apply lexc_pure hd0 (by kernel_rfl)
    · intro uz xc; unfold opPure; go_simp; rfl
    apply lexc_pure hd0 (by kernel_rfl)
    · intro uz xc; unfold opPure; go_simp; rfl
    apply lexc_pure hd0 (by kernel_rfl)
    · intro uz xc; unfold opPure; go_simp; rfl
    apply lexc_call hd0 0 (by kernel_rfl) (by rfl) (by decide)
    · intro uz hfz hF; clear hF; unfold opCall; go_simp; exact M0a.out _ (by go_simp) hfz
    apply lexc_pure hd0 (by kernel_rfl)
    · intro uz xc; unfold opPure; go_simp; rfl
    apply lexc_pure hd0 (by kernel_rfl)
    · intro uz xc; unfold opPure; go_simp; rfl
    apply lexc_pure hd0 (by kernel_rfl)
    · intro uz xc; unfold opPure; go_simp; rfl
    apply lexc_call hd0 1 (by kernel_rfl) (by rfl) (by decide)
    · intro uz hfz hF; clear hF; unfold opCall; go_simp; exact M0b.out _ (by go_simp) hfz
    apply lexc_call hd0 2 (by kernel_rfl) (by rfl) (by decide)
    · intro uz hfz hF; clear hF; unfold opCall; go_simp; exact M0c.out _ (by go_simp) hfz
    apply lexc_pure hd0 (by kernel_rfl)
    · intro uz xc; unfold opPure; go_simp; rfl
    apply lexc_end
    rotate_left
    · rfl
    intro uz hR hD hfz
    clear hR hD
    refine tail_store (by rfl) ?_; unfold opStore; go_simp
    refine tail_end ?_
    go_wp2
    rw [rounds_succ]
    go_wp2
    refine wp_region_calc c [Z0.e, X1.e, Y1.e, Z1.e] 16 [] [9, 13, 14] [] (fun W0 => []) [.agg #[.int .i64 X1.s.lo, .int .i64 X1.s.hi], .agg #[.int .i64 Y1.s.lo, .int .i64 Y1.s.hi], .agg #[.int .i64 Z1.s.lo, .int .i64 Z1.s.hi]] [16] (by rfl) (by go_simp) (by go_simp) (fun _ _ x hx => absurd hx (List.not_mem_nil)) (by kernel_rfl) (by kernel_rfl) (by kernel_rfl) ?_
    intro pz hd0
    apply Exists.intro
    apply And.intro
    apply lexc_pure hd0 (by kernel_rfl)
    · intro uz xc; unfold opPure; go_simp; rfl
    apply lexc_pure hd0 (by kernel_rfl)
    · intro uz xc; unfold opPure; go_simp; rfl
    apply lexc_pure hd0 (by kernel_rfl)
    · intro uz xc; unfold opPure; go_simp; rfl
    apply lexc_pure hd0 (by kernel_rfl)
    · intro uz xc; unfold opPure; go_simp; rfl
    apply lexc_pure hd0 (by kernel_rfl)
    · intro uz xc; unfold opPure; go_simp; rfl
    apply lexc_pure hd0 (by kernel_rfl)
    · intro uz xc; unfold opPure; go_simp; rfl
    apply lexc_pure hd0 (by kernel_rfl)
    · intro uz xc; unfold opPure; go_simp; rfl
    apply lexc_pure hd0 (by kernel_rfl)
    · intro uz xc; unfold opPure; go_simp; rfl
    apply lexc_pure hd0 (by kernel_rfl)
    · intro uz xc; unfold opPure; go_simp; rfl
    apply lexc_call hd0 0 (by kernel_rfl) (by rfl) (by decide)
    · intro uz hfz hF; clear hF; unfold opCall; go_simp; exact M1a.out _ (by go_simp) hfz
    apply lexc_pure hd0 (by kernel_rfl)
    · intro uz xc; unfold opPure; go_simp; rfl
    apply lexc_pure hd0 (by kernel_rfl)
    · intro uz xc; unfold opPure; go_simp; rfl
    apply lexc_pure hd0 (by kernel_rfl)
    · intro uz xc; unfold opPure; go_simp; rfl
    apply lexc_call hd0 1 (by kernel_rfl) (by rfl) (by decide)
    · intro uz hfz hF; clear hF; unfold opCall; go_simp; exact M1b.out _ (by go_simp) hfz
    apply lexc_call hd0 2 (by kernel_rfl) (by rfl) (by decide)
    · intro uz hfz hF; clear hF; unfold opCall; go_simp; exact M1c.out _ (by go_simp) hfz
    apply lexc_pure hd0 (by kernel_rfl)
    · intro uz xc; unfold opPure; go_simp; rfl
    apply lexc_end
    rotate_left
    · rfl
    intro uz hR hD hfz
    clear hR hD
    refine tail_store (by rfl) ?_; unfold opStore; go_simp
    refine tail_end ?_
    go_wp2
    rw [rounds_succ]
    go_wp2
    refine wp_region_calc c [Z1.e, X2.e, Y2.e, Z2.e] 16 [] [9, 13, 14] [] (fun W0 => []) [.agg #[.int .i64 X2.s.lo, .int .i64 X2.s.hi], .agg #[.int .i64 Y2.s.lo, .int .i64 Y2.s.hi], .agg #[.int .i64 Z2.s.lo, .int .i64 Z2.s.hi]] [16] (by rfl) (by go_simp) (by go_simp) (fun _ _ x hx => absurd hx (List.not_mem_nil)) (by kernel_rfl) (by kernel_rfl) (by kernel_rfl) ?_
    intro pz hd0
    apply Exists.intro
    apply And.intro
    apply lexc_pure hd0 (by kernel_rfl)
    · intro uz xc; unfold opPure; go_simp; rfl
    apply lexc_pure hd0 (by kernel_rfl)
    · intro uz xc; unfold opPure; go_simp; rfl
    apply lexc_pure hd0 (by kernel_rfl)
    · intro uz xc; unfold opPure; go_simp; rfl
    apply lexc_pure hd0 (by kernel_rfl)
    · intro uz xc; unfold opPure; go_simp; rfl
    apply lexc_pure hd0 (by kernel_rfl)
    · intro uz xc; unfold opPure; go_simp; rfl
    apply lexc_pure hd0 (by kernel_rfl)
    · intro uz xc; unfold opPure; go_simp; rfl
    apply lexc_pure hd0 (by kernel_rfl)
    · intro uz xc; unfold opPure; go_simp; rfl
    apply lexc_pure hd0 (by kernel_rfl)
    · intro uz xc; unfold opPure; go_simp; rfl
    apply lexc_pure hd0 (by kernel_rfl)
    · intro uz xc; unfold opPure; go_simp; rfl
    apply lexc_call hd0 0 (by kernel_rfl) (by rfl) (by decide)
    · intro uz hfz hF; clear hF; unfold opCall; go_simp; exact M2a.out _ (by go_simp) hfz
    apply lexc_pure hd0 (by kernel_rfl)
    · intro uz xc; unfold opPure; go_simp; rfl
    apply lexc_pure hd0 (by kernel_rfl)
    · intro uz xc; unfold opPure; go_simp; rfl
    apply lexc_pure hd0 (by kernel_rfl)
    · intro uz xc; unfold opPure; go_simp; rfl
    apply lexc_call hd0 1 (by kernel_rfl) (by rfl) (by decide)
    · intro uz hfz hF; clear hF; unfold opCall; go_simp; exact M2b.out _ (by go_simp) hfz
    apply lexc_call hd0 2 (by kernel_rfl) (by rfl) (by decide)
    · intro uz hfz hF; clear hF; unfold opCall; go_simp; exact M2c.out _ (by go_simp) hfz
    apply lexc_pure hd0 (by kernel_rfl)
    · intro uz xc; unfold opPure; go_simp; rfl
    apply lexc_end
    rotate_left
    · rfl
    intro uz hR hD hfz
    clear hR hD
    refine tail_store (by rfl) ?_; unfold opStore; go_simp
    refine tail_end ?_
    go_wp2
    rw [rounds_succ]
    go_wp2
    refine bodyPost_ret (by (simp [results, Tryz.results72, go_sem] <;> rfl)) rfl ?_
    exact ⟨by rw [hN], But.out (by repeat (first | with_reducible exact Hb.out | with_reducible apply But.alloc | with_reducible apply But.later | with_reducible apply But.drew | with_reducible apply But.put | with_reducible apply But.store)) Hc.out (by rw [hN]; go_simp)⟩
  · have hN := HO1.out hl
    have hpos : ¬ 0 < x.drag.n := by
      have h1 := HLE.out
      rw [hl] at h1
      have h2 := hdl.out
      simp at h1
      rw [h2, h1]
      simp
    go_wp2
    refine bodyPost_ret (by (simp [results, Tryz.results72, go_sem] <;> rfl)) rfl ?_
    exact ⟨by rw [hN], But.out (by repeat (first | with_reducible exact Hb.out | with_reducible apply But.alloc | with_reducible apply But.later | with_reducible apply But.drew | with_reducible apply But.put | with_reducible apply But.store)) Hc.out (by rw [hN]; go_simp)⟩
end Go.Proofs.YtnedbhdokljpcaaGreat
