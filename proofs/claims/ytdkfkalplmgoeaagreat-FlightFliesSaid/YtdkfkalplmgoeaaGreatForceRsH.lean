/-
  Joined: ForceRs.
-/
import Derived.Test.YtdkfkalplmgoeaaGreatForceNH
namespace Go.Proofs.YtdkfkalplmgoeaaGreat
open Go.RowKit Go.Shelf
set_option maxRecDepth 100000
set_option maxHeartbeats 32000000
theorem r3E (HL:zej 168) (pP:Planet) (x:Arc) (l:List Pt) (q v:Bx) (m:Sp) [hp:Pl64 pP] [hv:B64 v] [hm:S64 m] (c:Nat) (e:Int) (w:World) (hc:w.cell? ⟨c,0,none⟩=some (.int .i64 e))
 (hdn:x.drag.n=l.length) (HS:∀ wx,But c w wx→SlAt wx (.slice x.drag.ao l.length x.drag.cap) l.length (l.flatMap Pt.cells))
 (NR:Res) (OT:BRes) [sN:S64 NR.s] [bT:B64 OT.b] (u15 u16 u17 u18 u19 u20 u21 u22 u23 u24 u25 u26 u27 u28 u29 u30 u31 u32 u33 u34 u35 u36 u37 u38 u39 u40 u41 u42 u43 u44 u45 u46 u47 u48 u49 u50 u51 u52 u53 u54 u55 u56 u57 u58 u59 u60 u61 u62 u63 u64 u65 u66 u67 u68 u69 u70 u71 u72 u73 u74 u75 u76 u77 u78 u79 u80 u81 u82 u83 u84 u85 u86 u87 u88 u89 u90 u91 u92 u93 u94 u95 u96 u97 u98 u99 u100 u101 u102 u103 u104 u105 u106 u107 u108 u109 u110 u111 u112 u113 u114 u115 u116 u117 u118 u119 u120 u121 u122 u123 u124 u125 u126 u127 u128 u129 u130 u131 u132 u133 u134 u135 u136 u137 u138 u139 u140 u141 u142 u143 u144 u145 u146 u147 u148 u149 u150 u151 u152 u153 u154 u155 u156 u157 u158 u159 u160 u161 u162 u163 u164 u165 u166 u167 u168 u169 u170 u171 u172 u173 u174 u175 u176 u177 u178 u179 u180 u181 u182 u183 u184 u185 u186 u187 u188 u189 u190 u191 u192 u193 u194 u195 u196 u197 u198 u199 u200 u201 u202 u203 u204 u205 u206 u207 u208 u209:Value) (wc:World) (hF:FrG c w pP x q v m (OT.e) (NR.s) (OT.b) wc) :
 (tlC (tlC (tlC (tlC (tlC (tlC (tlC (Tryz.f54.body.getD .skip)))))))).wp Tryz.prog (bodyPost Tryz.prog Tryz.f54 (RetC c (.agg #[.int .i64 ((zbQ pP l v m NR.s OT).b).x.lo,.int .i64 ((zbQ pP l v m NR.s OT).b).x.hi,.int .i64 ((zbQ pP l v m NR.s OT).b).y.lo,.int .i64 ((zbQ pP l v m NR.s OT).b).y.hi,.int .i64 ((zbQ pP l v m NR.s OT).b).z.lo,.int .i64 ((zbQ pP l v m NR.s OT).b).z.hi]) (zbQ pP l v m NR.s OT).e w)) { tmps:=#[.pointer (some ⟨c,0,none⟩),.agg pP.cells.toArray,.agg x.cells.toArray,.agg #[.int .i64 q.x.lo,.int .i64 q.x.hi,.int .i64 q.y.lo,.int .i64 q.y.hi,.int .i64 q.z.lo,.int .i64 q.z.hi],.agg #[.int .i64 v.x.lo,.int .i64 v.x.hi,.int .i64 v.y.lo,.int .i64 v.y.hi,.int .i64 v.z.lo,.int .i64 v.z.hi],.agg #[.int .i64 m.lo,.int .i64 m.hi],undef,.pointer (some ⟨w.heap.size,0,none⟩),.pointer (some ⟨w.heap.size+1,0,none⟩),.pointer (some ⟨w.heap.size+1+1,0,none⟩),.pointer (some ⟨w.heap.size+1+1+1,0,none⟩),.pointer (some ⟨w.heap.size+1+1+1+1,0,none⟩),.pointer (some ⟨w.heap.size+1+1+1+1+1,0,none⟩),.pointer (some ⟨w.heap.size+1+1+1+1+1+1,0,none⟩),.pointer (some ⟨w.heap.size+1+1+1+1+1+1+1,0,none⟩),u15,u16,u17,u18,u19,u20,u21,u22,u23,u24,u25,u26,u27,u28,u29,u30,u31,u32,u33,u34,u35,u36,u37,u38,u39,u40,u41,u42,u43,u44,u45,u46,u47,u48,u49,u50,u51,u52,u53,u54,u55,u56,u57,u58,u59,u60,u61,u62,u63,u64,u65,u66,u67,u68,u69,u70,u71,u72,u73,u74,u75,u76,u77,u78,u79,u80,u81,u82,u83,u84,u85,u86,u87,u88,u89,u90,u91,u92,u93,u94,u95,u96,u97,u98,u99,u100,u101,u102,u103,u104,u105,u106,u107,u108,u109,u110,u111,u112,u113,u114,u115,u116,u117,u118,u119,u120,u121,u122,u123,u124,u125,u126,u127,u128,u129,u130,u131,u132,u133,u134,u135,u136,u137,u138,u139,u140,u141,u142,u143,u144,u145,u146,u147,u148,u149,u150,u151,u152,u153,u154,u155,u156,u157,u158,u159,u160,u161,u162,u163,u164,u165,u166,u167,u168,u169,u170,u171,u172,u173,u174,u175,u176,u177,u178,u179,u180,u181,u182,u183,u184,u185,u186,u187,u188,u189,u190,u191,u192,u193,u194,u195,u196,u197,u198,u199,u200,u201,u202,u203,u204,u205,u206,u207,u208,u209],defers:=[] } wc:=by
 have ib:BlockIn w c:=BlockIn.of_cell hc
 have Hc:=Lib.hid hc
 have hlt:=ib.lt
 have hlen:=(HS w (But.refl hc)).len_le
 unfold maxLen at hlen
 have HLE:=Lib.hid (show l.isEmpty=decide (l.length=0) by cases l<;>simp)
 have HHS:=Lib.hid HS
 clear HS
 have hdl:=Lib.hid hdn
 clear hdn
 have:Apart (w.heap.size) (c):=⟨by omega⟩
 have:Apart (w.heap.size+1) (c):=⟨by omega⟩
 have:Apart (w.heap.size+1+1) (c):=⟨by omega⟩
 have:Apart (w.heap.size+1+1+1) (c):=⟨by omega⟩
 have:Apart (w.heap.size+1+1+1+1) (c):=⟨by omega⟩
 have:Apart (w.heap.size+1+1+1+1+1) (c):=⟨by omega⟩
 have:Apart (w.heap.size+1+1+1+1+1+1) (c):=⟨by omega⟩
 have:Apart (w.heap.size+1+1+1+1+1+1+1) (c):=⟨by omega⟩
 have:Apart (c) (w.heap.size+1+1+1+1+1+1):=⟨by omega⟩
 obtain ⟨hb,h2,h3,m1,m2,m3,m4,m5,m6,m7,m8⟩:=hF
 have Hb:=Lib.hid hb
 have nwc:NewFor w wc.heap.size:=⟨hb.size⟩
 have ibw:BlockIn wc c:=BlockIn.of_cell h2
 have hcw:HasCell wc c 0:=⟨_,h2⟩
 have i1:=m1.blockIn
 have i2:=m2.blockIn
 have i3:=m3.blockIn
 have i4:=m4.blockIn
 have i5:=m5.blockIn
 have i6:=m6.blockIn
 have i7:=m7.blockIn
 have i8:=m8.blockIn
 clear hb
 have HOD:=Lib.hid (show zbQ pP l v m NR.s OT=zbQ pP l v m NR.s OT from rfl)
 generalize hOD:zbQ pP l v m NR.s OT=OD at HOD ⊢
 replace HOD:=Lib.hid hOD.symm
 clear hOD
 have:S64 (drH pP NR.s OT).s:=zam _ _
 have:S64 (drL pP l NR.s OT).s:=zam _ _
 have:S64 (drB pP l m NR.s OT).s:=zam _ _
 have:S64 (drS pP l v m NR.s OT).s:=zam _ _
 have G1:=Lib.hid (fun w hc hf=>show Calls Tryz.prog 52 #[.pointer (some ⟨c,0,none⟩),.agg #[.int .i64 NR.s.lo,.int .i64 NR.s.hi],.agg #[.int .i64 pP.radius.lo,.int .i64 pP.radius.hi]] w (RetC c (.agg #[.int .i64 ((drH pP NR.s OT).s).lo,.int .i64 ((drH pP NR.s OT).s).hi]) (drH pP NR.s OT).e w) from zca c OT.e NR.s pP.radius w hc hf)
 have G2:=Lib.hid (fun w' (b:But c w w') hc hf=>show Calls Tryz.prog 116 #[.pointer (some ⟨c,0,none⟩),.slice x.drag.ao x.drag.n x.drag.cap,.agg #[.int .i64 ((drH pP NR.s OT).s).lo,.int .i64 ((drH pP NR.s OT).s).hi]] w' (RetC c (.agg #[.int .i64 ((drL pP l NR.s OT).s).lo,.int .i64 ((drL pP l NR.s OT).s).hi]) (drL pP l NR.s OT).e w') from by
  rw[hdl.out]
  exact zmT HL c (drH pP NR.s OT).e l (drH pP NR.s OT).s x.drag.ao x.drag.cap w' (HHS.out w' b) hc hf)
 have G4:=Lib.hid (fun w hc hf=>show Calls Tryz.prog 112 #[.pointer (some ⟨c,0,none⟩),.agg #[.int .i64 ((drL pP l NR.s OT).s).lo,.int .i64 ((drL pP l NR.s OT).s).hi],.agg #[.int .i64 m.lo,.int .i64 m.hi]] w (RetC c (.agg #[.int .i64 ((drB pP l m NR.s OT).s).lo,.int .i64 ((drB pP l m NR.s OT).s).hi]) (drB pP l m NR.s OT).e w) from zc7 c (drL pP l NR.s OT).e (drL pP l NR.s OT).s m w hc hf)
 have G5:=Lib.hid (fun w hc hf=>show Calls Tryz.prog 91 #[.pointer (some ⟨c,0,none⟩),.agg #[.int .i64 v.x.lo,.int .i64 v.x.hi,.int .i64 v.y.lo,.int .i64 v.y.hi,.int .i64 v.z.lo,.int .i64 v.z.hi]] w (RetC c (.agg #[.int .i64 ((drS pP l v m NR.s OT).s).lo,.int .i64 ((drS pP l v m NR.s OT).s).hi]) (drS pP l v m NR.s OT).e w) from ziD c (drB pP l m NR.s OT).e v w hc hf)
 obtain ⟨X0,hX0⟩:∃ X,X=(doR (drS pP l v m NR.s OT).e (mulR (drB pP l m NR.s OT).s (drS pP l v m NR.s OT).s)):=⟨_,rfl⟩
 obtain ⟨Y0,hY0⟩:∃ Y,Y=doR X0.e (mulR X0.s v.x):=⟨_,rfl⟩
 have hZ0:=zev (drB pP l m NR.s OT).s (drS pP l v m NR.s OT).s v.x OT.b.x (drS pP l v m NR.s OT).e
 rw[←hX0,←hY0] at hZ0
 have sX0:S64 X0.s:=by rw[hX0];exact zam _ _
 have sY0:S64 Y0.s:=by rw[hY0];exact zam _ _
 have M0a:=Lib.hid (fun w hc hf=>show Calls Tryz.prog 53 #[.pointer (some ⟨c,0,none⟩),.agg #[.int .i64 ((drB pP l m NR.s OT).s).lo,.int .i64 ((drB pP l m NR.s OT).s).hi],.agg #[.int .i64 ((drS pP l v m NR.s OT).s).lo,.int .i64 ((drS pP l v m NR.s OT).s).hi]] w (RetC c (.agg #[.int .i64 X0.s.lo,.int .i64 X0.s.hi]) X0.e w) from by
  rw[hX0]
  exact zaP c (drS pP l v m NR.s OT).e (drB pP l m NR.s OT).s (drS pP l v m NR.s OT).s w hc hf)
 have M0b:=Lib.hid (fun w hc hf=>show Calls Tryz.prog 53 #[.pointer (some ⟨c,0,none⟩),.agg #[.int .i64 X0.s.lo,.int .i64 X0.s.hi],.agg #[.int .i64 v.x.lo,.int .i64 v.x.hi]] w (RetC c (.agg #[.int .i64 Y0.s.lo,.int .i64 Y0.s.hi]) Y0.e w) from by
  rw[hY0]
  exact zaP c X0.e X0.s v.x w hc hf)
 obtain ⟨Z0,hW0⟩:∃ Z,Z=(zcA (drB pP l m NR.s OT).s (drS pP l v m NR.s OT).s v.x OT.b.x (drS pP l v m NR.s OT).e):=⟨_,rfl⟩
 rw[←hW0] at hZ0
 have M0c:=Lib.hid (fun w hc hf=>show Calls Tryz.prog 52 #[.pointer (some ⟨c,0,none⟩),.agg #[.int .i64 OT.b.x.lo,.int .i64 OT.b.x.hi],.agg #[.int .i64 Y0.s.lo,.int .i64 Y0.s.hi]] w (RetC c (.agg #[.int .i64 Z0.s.lo,.int .i64 Z0.s.hi]) Z0.e w) from by
  rw[hZ0]
  exact zca c Y0.e OT.b.x Y0.s w hc hf)
 obtain ⟨X1,hX1⟩:∃ X,X=(doR Z0.e (mulR (drB pP l m NR.s OT).s (drS pP l v m NR.s OT).s)):=⟨_,rfl⟩
 obtain ⟨Y1,hY1⟩:∃ Y,Y=doR X1.e (mulR X1.s v.y):=⟨_,rfl⟩
 have hZ1:=zev (drB pP l m NR.s OT).s (drS pP l v m NR.s OT).s v.y OT.b.y Z0.e
 rw[←hX1,←hY1] at hZ1
 have sX1:S64 X1.s:=by rw[hX1];exact zam _ _
 have sY1:S64 Y1.s:=by rw[hY1];exact zam _ _
 have M1a:=Lib.hid (fun w hc hf=>show Calls Tryz.prog 53 #[.pointer (some ⟨c,0,none⟩),.agg #[.int .i64 ((drB pP l m NR.s OT).s).lo,.int .i64 ((drB pP l m NR.s OT).s).hi],.agg #[.int .i64 ((drS pP l v m NR.s OT).s).lo,.int .i64 ((drS pP l v m NR.s OT).s).hi]] w (RetC c (.agg #[.int .i64 X1.s.lo,.int .i64 X1.s.hi]) X1.e w) from by
  rw[hX1]
  exact zaP c Z0.e (drB pP l m NR.s OT).s (drS pP l v m NR.s OT).s w hc hf)
 have M1b:=Lib.hid (fun w hc hf=>show Calls Tryz.prog 53 #[.pointer (some ⟨c,0,none⟩),.agg #[.int .i64 X1.s.lo,.int .i64 X1.s.hi],.agg #[.int .i64 v.y.lo,.int .i64 v.y.hi]] w (RetC c (.agg #[.int .i64 Y1.s.lo,.int .i64 Y1.s.hi]) Y1.e w) from by
  rw[hY1]
  exact zaP c X1.e X1.s v.y w hc hf)
 obtain ⟨Z1,hW1⟩:∃ Z,Z=(zcA (drB pP l m NR.s OT).s (drS pP l v m NR.s OT).s v.y OT.b.y Z0.e):=⟨_,rfl⟩
 rw[←hW1] at hZ1
 have M1c:=Lib.hid (fun w hc hf=>show Calls Tryz.prog 52 #[.pointer (some ⟨c,0,none⟩),.agg #[.int .i64 OT.b.y.lo,.int .i64 OT.b.y.hi],.agg #[.int .i64 Y1.s.lo,.int .i64 Y1.s.hi]] w (RetC c (.agg #[.int .i64 Z1.s.lo,.int .i64 Z1.s.hi]) Z1.e w) from by
  rw[hZ1]
  exact zca c Y1.e OT.b.y Y1.s w hc hf)
 obtain ⟨X2,hX2⟩:∃ X,X=(doR Z1.e (mulR (drB pP l m NR.s OT).s (drS pP l v m NR.s OT).s)):=⟨_,rfl⟩
 obtain ⟨Y2,hY2⟩:∃ Y,Y=doR X2.e (mulR X2.s v.z):=⟨_,rfl⟩
 have hZ2:=zev (drB pP l m NR.s OT).s (drS pP l v m NR.s OT).s v.z OT.b.z Z1.e
 rw[←hX2,←hY2] at hZ2
 have sX2:S64 X2.s:=by rw[hX2];exact zam _ _
 have sY2:S64 Y2.s:=by rw[hY2];exact zam _ _
 have M2a:=Lib.hid (fun w hc hf=>show Calls Tryz.prog 53 #[.pointer (some ⟨c,0,none⟩),.agg #[.int .i64 ((drB pP l m NR.s OT).s).lo,.int .i64 ((drB pP l m NR.s OT).s).hi],.agg #[.int .i64 ((drS pP l v m NR.s OT).s).lo,.int .i64 ((drS pP l v m NR.s OT).s).hi]] w (RetC c (.agg #[.int .i64 X2.s.lo,.int .i64 X2.s.hi]) X2.e w) from by
  rw[hX2]
  exact zaP c Z1.e (drB pP l m NR.s OT).s (drS pP l v m NR.s OT).s w hc hf)
 have M2b:=Lib.hid (fun w hc hf=>show Calls Tryz.prog 53 #[.pointer (some ⟨c,0,none⟩),.agg #[.int .i64 X2.s.lo,.int .i64 X2.s.hi],.agg #[.int .i64 v.z.lo,.int .i64 v.z.hi]] w (RetC c (.agg #[.int .i64 Y2.s.lo,.int .i64 Y2.s.hi]) Y2.e w) from by
  rw[hY2]
  exact zaP c X2.e X2.s v.z w hc hf)
 obtain ⟨Z2,hW2⟩:∃ Z,Z=(zcA (drB pP l m NR.s OT).s (drS pP l v m NR.s OT).s v.z OT.b.z Z1.e):=⟨_,rfl⟩
 rw[←hW2] at hZ2
 have M2c:=Lib.hid (fun w hc hf=>show Calls Tryz.prog 52 #[.pointer (some ⟨c,0,none⟩),.agg #[.int .i64 OT.b.z.lo,.int .i64 OT.b.z.hi],.agg #[.int .i64 Y2.s.lo,.int .i64 Y2.s.hi]] w (RetC c (.agg #[.int .i64 Z2.s.lo,.int .i64 Z2.s.hi]) Z2.e w) from by
  rw[hZ2]
  exact zca c Y2.e OT.b.z Y2.s w hc hf)
 have HO1:=Lib.hid (fun (h:l.isEmpty=true)=>show OD=OT by have h1:=HOD.out;unfold zbQ at h1;rw[h] at h1;exact h1)
 have HO2:=Lib.hid (fun (h:l.isEmpty=false)=>show OD=⟨⟨Z0.s,Z1.s,Z2.s⟩,Z2.e⟩ by
  have h1:=HOD.out
  unfold zbQ at h1
  rw[h] at h1
  rw[show OD=_ from h1,hW2,hW1,hW0]
  rfl)
 clear HOD hX0 hX1 hX2 hY0 hY1 hY2 hZ0 hZ1 hZ2 hW0 hW1 hW2 sX0 sX1 sX2 sY0 sY1 sY2
 generalize drS pP l v m NR.s OT=rS at *
 generalize drB pP l m NR.s OT=rB at *
 generalize drL pP l NR.s OT=rL at *
 generalize drH pP NR.s OT=rH at *
 conv=>arg 2;dsimp only[tlC,Tryz.f54,Option.getD]
 cases hl:l.isEmpty
 ·have hN:=HO2.out hl
  have hpos:0<x.drag.n:=by
   have h1:=HLE.out
   rw[hl] at h1
   have h2:=hdl.out
   simp at h1
   rw[h2]
   exact Nat.pos_of_ne_zero fun h=>h1 (List.eq_nil_of_length_eq_zero h)
  go_wp2
  refine zaf c [OT.e,rH.e,rL.e,rB.e] 13 [12] [8,9,11] [] (fun W0=>[(12,BoxR W0 [.int .i64 0,.int .i64 0])]) [.agg #[.int .i64 rH.s.lo,.int .i64 rH.s.hi],.agg #[.int .i64 rL.s.lo,.int .i64 rL.s.hi],.agg #[.int .i64 rB.s.lo,.int .i64 rB.s.hi]] [13] (by rfl) (by go_simp) (by go_simp) (by intro W0 hW0 x hx;simp only[List.mem_cons,List.not_mem_nil,or_false] at hx;rcases hx with rfl<;>first|exact zbc _ _ hW0 _) (by kernel_rfl) (by kernel_rfl) (by kernel_rfl) ?_
  intro pz hd0
  apply Exists.intro
  apply And.intro
  iterate 8 (apply zae hd0 (by kernel_rfl);(· intro uz xc;unfold zai;go_simp;rfl))
  apply zad hd0 0 (by kernel_rfl) (by rfl) (by decide)
  ·intro uz hfz hF;clear hF;unfold zah;go_simp;exact G1.out _ (by go_simp) hfz
  apply zad hd0 1 (by kernel_rfl) (by rfl) (by decide)
  ·intro uz hfz hF;clear hF;unfold zah;go_simp;exact G2.out _ btw (by go_simp) hfz
  apply zae hd0 (by kernel_rfl)
  ·intro uz xc;unfold zai;go_simp;rfl
  apply zad hd0 2 (by kernel_rfl) (by rfl) (by decide)
  ·intro uz hfz hF;clear hF;unfold zah;go_simp;exact G4.out _ (by go_simp) hfz
  apply zbd hd0 (by kernel_rfl)
  ·intro uz xc hF;clear hF;unfold za5;go_simp;refine (show Made (BoxR _ [.int .i64 0,.int .i64 0]) _ _ _ from ?_);exact zbe _ _ _ _
  apply zax
  rotate_left
  ·rfl
  intro uz hR hD hfz
  obtain ⟨q12,e12,hB12,kB12,nB12⟩:=(show BoxR _ [.int .i64 0,.int .i64 0] (pz 12) _ from hR 12 (by decide))
  clear hR hD
  rw[e12]
  clear e12
  have oB12:=zaG nB12
  have oC12:=zaH nB12
  have hB12:=zbq hB12 hd0 nB12
  have kB12:=za0 kB12
  have hB12_0:=(hB12 0 _ rfl).1
  have hB12f0:=(hB12 0 _ rfl).2
  have hB12i0:HasCell (uz.world) (q12) 0:=⟨_,hB12_0⟩
  have hB12_1:=(hB12 1 _ rfl).1
  have hB12f1:=(hB12 1 _ rfl).2
  have hB12i1:HasCell (uz.world) (q12) 1:=⟨_,hB12_1⟩
  have hB12b:BlockIn (uz.world) (q12):=BlockIn.of_cell hB12_0
  clear hB12
  refine zag (by rfl) ?_;unfold zap;go_simp
  refine zao ?_
  have nw12:NewFor w q12:=zgM Hb.out nB12
  go_wp2_with (go_at_call 91;(with_reducible refine zar (G5.out _ ?_ ?_) ?_);(· go_simp);(· go_simp);intro u3)
  refine wp_loop_rounds 4 ?_
  rw[rounds_succ]
  go_wp2
  refine zaf c [rS.e,X0.e,Y0.e,Z0.e] 16 [] [9,13,14] [] (fun W0=>[]) [.agg #[.int .i64 X0.s.lo,.int .i64 X0.s.hi],.agg #[.int .i64 Y0.s.lo,.int .i64 Y0.s.hi],.agg #[.int .i64 Z0.s.lo,.int .i64 Z0.s.hi]] [16] (by rfl) (by go_simp) (by go_simp) (fun _ _ x hx=>absurd hx (List.not_mem_nil)) (by kernel_rfl) (by kernel_rfl) (by kernel_rfl) ?_
  intro pz hd0
  apply Exists.intro
  apply And.intro
  iterate 9 (apply zae hd0 (by kernel_rfl);(· intro uz xc;unfold zai;go_simp;rfl))
  apply zad hd0 0 (by kernel_rfl) (by rfl) (by decide)
  ·intro uz hfz hF;clear hF;unfold zah;go_simp;exact M0a.out _ (by go_simp) hfz
  iterate 3 (apply zae hd0 (by kernel_rfl);(· intro uz xc;unfold zai;go_simp;rfl))
  apply zad hd0 1 (by kernel_rfl) (by rfl) (by decide)
  ·intro uz hfz hF;clear hF;unfold zah;go_simp;exact M0b.out _ (by go_simp) hfz
  apply zad hd0 2 (by kernel_rfl) (by rfl) (by decide)
  ·intro uz hfz hF;clear hF;unfold zah;go_simp;exact M0c.out _ (by go_simp) hfz
  apply zae hd0 (by kernel_rfl)
  ·intro uz xc;unfold zai;go_simp;rfl
  apply zax
  rotate_left
  ·rfl
  intro uz hR hD hfz
  clear hR hD
  refine zag (by rfl) ?_;unfold zap;go_simp
  refine zao ?_
  go_wp2
  rw[rounds_succ]
  go_wp2
  refine zaf c [Z0.e,X1.e,Y1.e,Z1.e] 16 [] [9,13,14] [] (fun W0=>[]) [.agg #[.int .i64 X1.s.lo,.int .i64 X1.s.hi],.agg #[.int .i64 Y1.s.lo,.int .i64 Y1.s.hi],.agg #[.int .i64 Z1.s.lo,.int .i64 Z1.s.hi]] [16] (by rfl) (by go_simp) (by go_simp) (fun _ _ x hx=>absurd hx (List.not_mem_nil)) (by kernel_rfl) (by kernel_rfl) (by kernel_rfl) ?_
  intro pz hd0
  apply Exists.intro
  apply And.intro
  iterate 9 (apply zae hd0 (by kernel_rfl);(· intro uz xc;unfold zai;go_simp;rfl))
  apply zad hd0 0 (by kernel_rfl) (by rfl) (by decide)
  ·intro uz hfz hF;clear hF;unfold zah;go_simp;exact M1a.out _ (by go_simp) hfz
  iterate 3 (apply zae hd0 (by kernel_rfl);(· intro uz xc;unfold zai;go_simp;rfl))
  apply zad hd0 1 (by kernel_rfl) (by rfl) (by decide)
  ·intro uz hfz hF;clear hF;unfold zah;go_simp;exact M1b.out _ (by go_simp) hfz
  apply zad hd0 2 (by kernel_rfl) (by rfl) (by decide)
  ·intro uz hfz hF;clear hF;unfold zah;go_simp;exact M1c.out _ (by go_simp) hfz
  apply zae hd0 (by kernel_rfl)
  ·intro uz xc;unfold zai;go_simp;rfl
  apply zax
  rotate_left
  ·rfl
  intro uz hR hD hfz
  clear hR hD
  refine zag (by rfl) ?_;unfold zap;go_simp
  refine zao ?_
  go_wp2
  rw[rounds_succ]
  go_wp2
  refine zaf c [Z1.e,X2.e,Y2.e,Z2.e] 16 [] [9,13,14] [] (fun W0=>[]) [.agg #[.int .i64 X2.s.lo,.int .i64 X2.s.hi],.agg #[.int .i64 Y2.s.lo,.int .i64 Y2.s.hi],.agg #[.int .i64 Z2.s.lo,.int .i64 Z2.s.hi]] [16] (by rfl) (by go_simp) (by go_simp) (fun _ _ x hx=>absurd hx (List.not_mem_nil)) (by kernel_rfl) (by kernel_rfl) (by kernel_rfl) ?_
  intro pz hd0
  apply Exists.intro
  apply And.intro
  iterate 9 (apply zae hd0 (by kernel_rfl);(· intro uz xc;unfold zai;go_simp;rfl))
  apply zad hd0 0 (by kernel_rfl) (by rfl) (by decide)
  ·intro uz hfz hF;clear hF;unfold zah;go_simp;exact M2a.out _ (by go_simp) hfz
  iterate 3 (apply zae hd0 (by kernel_rfl);(· intro uz xc;unfold zai;go_simp;rfl))
  apply zad hd0 1 (by kernel_rfl) (by rfl) (by decide)
  ·intro uz hfz hF;clear hF;unfold zah;go_simp;exact M2b.out _ (by go_simp) hfz
  apply zad hd0 2 (by kernel_rfl) (by rfl) (by decide)
  ·intro uz hfz hF;clear hF;unfold zah;go_simp;exact M2c.out _ (by go_simp) hfz
  apply zae hd0 (by kernel_rfl)
  ·intro uz xc;unfold zai;go_simp;rfl
  apply zax
  rotate_left
  ·rfl
  intro uz hR hD hfz
  clear hR hD
  refine zag (by rfl) ?_;unfold zap;go_simp
  refine zao ?_
  go_wp2
  rw[rounds_succ]
  go_wp2
  refine bodyPost_ret (by (simp[results,Tryz.results54,go_sem]<;>rfl)) rfl ?_
  exact ⟨by rw[hN],But.out btw Hc.out (by rw[hN];go_simp)⟩
 ·have hN:=HO1.out hl
  have hpos:¬ 0<x.drag.n:=by
   have h1:=HLE.out
   rw[hl] at h1
   have h2:=hdl.out
   simp at h1
   rw[h2,h1]
   simp
  go_wp2
  refine bodyPost_ret (by (simp[results,Tryz.results54,go_sem]<;>rfl)) rfl ?_
  exact ⟨by rw[hN],But.out btw Hc.out (by rw[hN];go_simp)⟩
end Go.Proofs.YtdkfkalplmgoeaaGreat
namespace Go.Proofs.YtdkfkalplmgoeaaGreat
open Go.RowKit Go.Shelf
set_option maxRecDepth 100000
set_option maxHeartbeats 32000000
theorem r3D (HL:zej 168) (pP:Planet) (x:Arc) (l:List Pt) (q v:Bx) (m:Sp) [hp:Pl64 pP] [hv:B64 v] [hm:S64 m] [hxt:S64 x.thrust] [hxd:B64 x.dir] (c:Nat) (e:Int) (w:World) (hc:w.cell? ⟨c,0,none⟩=some (.int .i64 e))
 (hdn:x.drag.n=l.length) (HS:∀ wx,But c w wx→SlAt wx (.slice x.drag.ao l.length x.drag.cap) l.length (l.flatMap Pt.cells))
 (NR:Res) (OS:BRes) [sN:S64 NR.s] [bS:B64 OS.b] (u15 u16 u17 u18 u19 u20 u21 u22 u23 u24 u25 u26 u27 u28 u29 u30 u31 u32 u33 u34 u35 u36 u37 u38 u39 u40 u41 u42 u43 u44 u45 u46 u47 u48 u49 u50 u51 u52 u53 u54 u55 u56 u57 u58 u59 u60 u61 u62 u63 u64 u65 u66 u67 u68 u69 u70 u71 u72 u73 u74 u75 u76 u77 u78 u79 u80 u81 u82 u83 u84 u85 u86 u87 u88 u89 u90 u91 u92 u93 u94 u95 u96 u97 u98 u99 u100 u101 u102 u103 u104 u105 u106 u107 u108 u109 u110 u111 u112 u113 u114 u115 u116 u117 u118 u119 u120 u121 u122 u123 u124 u125 u126 u127 u128 u129 u130 u131 u132 u133 u134 u135 u136 u137 u138 u139 u140 u141 u142 u143 u144 u145 u146 u147 u148 u149 u150 u151 u152 u153 u154 u155 u156 u157 u158 u159 u160 u161 u162 u163 u164 u165 u166 u167 u168 u169 u170 u171 u172 u173 u174 u175 u176 u177 u178 u179 u180 u181 u182 u183 u184 u185 u186 u187 u188 u189 u190 u191 u192 u193 u194 u195 u196 u197 u198 u199 u200 u201 u202 u203 u204 u205 u206 u207 u208 u209:Value) (wc:World) (hF:FrG c w pP x q v m (OS.e) (NR.s) (OS.b) wc) :
 (tlC (tlC (tlC (tlC (tlC (tlC (Tryz.f54.body.getD .skip))))))).wp Tryz.prog (bodyPost Tryz.prog Tryz.f54 (RetC c (.agg #[.int .i64 ((zbQ pP l v m NR.s (zaW x m OS)).b).x.lo,.int .i64 ((zbQ pP l v m NR.s (zaW x m OS)).b).x.hi,.int .i64 ((zbQ pP l v m NR.s (zaW x m OS)).b).y.lo,.int .i64 ((zbQ pP l v m NR.s (zaW x m OS)).b).y.hi,.int .i64 ((zbQ pP l v m NR.s (zaW x m OS)).b).z.lo,.int .i64 ((zbQ pP l v m NR.s (zaW x m OS)).b).z.hi]) (zbQ pP l v m NR.s (zaW x m OS)).e w)) { tmps:=#[.pointer (some ⟨c,0,none⟩),.agg pP.cells.toArray,.agg x.cells.toArray,.agg #[.int .i64 q.x.lo,.int .i64 q.x.hi,.int .i64 q.y.lo,.int .i64 q.y.hi,.int .i64 q.z.lo,.int .i64 q.z.hi],.agg #[.int .i64 v.x.lo,.int .i64 v.x.hi,.int .i64 v.y.lo,.int .i64 v.y.hi,.int .i64 v.z.lo,.int .i64 v.z.hi],.agg #[.int .i64 m.lo,.int .i64 m.hi],undef,.pointer (some ⟨w.heap.size,0,none⟩),.pointer (some ⟨w.heap.size+1,0,none⟩),.pointer (some ⟨w.heap.size+1+1,0,none⟩),.pointer (some ⟨w.heap.size+1+1+1,0,none⟩),.pointer (some ⟨w.heap.size+1+1+1+1,0,none⟩),.pointer (some ⟨w.heap.size+1+1+1+1+1,0,none⟩),.pointer (some ⟨w.heap.size+1+1+1+1+1+1,0,none⟩),.pointer (some ⟨w.heap.size+1+1+1+1+1+1+1,0,none⟩),u15,u16,u17,u18,u19,u20,u21,u22,u23,u24,u25,u26,u27,u28,u29,u30,u31,u32,u33,u34,u35,u36,u37,u38,u39,u40,u41,u42,u43,u44,u45,u46,u47,u48,u49,u50,u51,u52,u53,u54,u55,u56,u57,u58,u59,u60,u61,u62,u63,u64,u65,u66,u67,u68,u69,u70,u71,u72,u73,u74,u75,u76,u77,u78,u79,u80,u81,u82,u83,u84,u85,u86,u87,u88,u89,u90,u91,u92,u93,u94,u95,u96,u97,u98,u99,u100,u101,u102,u103,u104,u105,u106,u107,u108,u109,u110,u111,u112,u113,u114,u115,u116,u117,u118,u119,u120,u121,u122,u123,u124,u125,u126,u127,u128,u129,u130,u131,u132,u133,u134,u135,u136,u137,u138,u139,u140,u141,u142,u143,u144,u145,u146,u147,u148,u149,u150,u151,u152,u153,u154,u155,u156,u157,u158,u159,u160,u161,u162,u163,u164,u165,u166,u167,u168,u169,u170,u171,u172,u173,u174,u175,u176,u177,u178,u179,u180,u181,u182,u183,u184,u185,u186,u187,u188,u189,u190,u191,u192,u193,u194,u195,u196,u197,u198,u199,u200,u201,u202,u203,u204,u205,u206,u207,u208,u209],defers:=[] } wc:=by
 have ib:BlockIn w c:=BlockIn.of_cell hc
 have Hc:=Lib.hid hc
 have hlt:=ib.lt
 have hlen:=(HS w (But.refl hc)).len_le
 unfold maxLen at hlen
 have HLE:=Lib.hid (show l.isEmpty=decide (l.length=0) by cases l<;>simp)
 have HHS:=Lib.hid HS
 clear HS
 have hdl:=Lib.hid hdn
 clear hdn
 have:Apart (w.heap.size) (c):=⟨by omega⟩
 have:Apart (w.heap.size+1) (c):=⟨by omega⟩
 have:Apart (w.heap.size+1+1) (c):=⟨by omega⟩
 have:Apart (w.heap.size+1+1+1) (c):=⟨by omega⟩
 have:Apart (w.heap.size+1+1+1+1) (c):=⟨by omega⟩
 have:Apart (w.heap.size+1+1+1+1+1) (c):=⟨by omega⟩
 have:Apart (w.heap.size+1+1+1+1+1+1) (c):=⟨by omega⟩
 have:Apart (w.heap.size+1+1+1+1+1+1+1) (c):=⟨by omega⟩
 have:Apart (c) (w.heap.size+1+1+1+1+1+1):=⟨by omega⟩
 obtain ⟨hb,h2,h3,m1,m2,m3,m4,m5,m6,m7,m8⟩:=hF
 have Hb:=Lib.hid hb
 have nwc:NewFor w wc.heap.size:=⟨hb.size⟩
 have ibw:BlockIn wc c:=BlockIn.of_cell h2
 have hcw:HasCell wc c 0:=⟨_,h2⟩
 have i1:=m1.blockIn
 have i2:=m2.blockIn
 have i3:=m3.blockIn
 have i4:=m4.blockIn
 have i5:=m5.blockIn
 have i6:=m6.blockIn
 have i7:=m7.blockIn
 have i8:=m8.blockIn
 clear hb
 have bT:B64 (zaW x m OS).b:=zhx _ _ _
 have HK:=Lib.hid (r3E HL pP x l q v m c e w hc hdl.out HHS.out NR (zaW x m OS))
 have HOT:=Lib.hid (show zaW x m OS=zaW x m OS from rfl)
 generalize hOT:zaW x m OS=OT at *
 replace HOT:=Lib.hid hOT.symm
 clear hOT
 have HZ:=Lib.hid (fun w'=>zcY x.thrust w')
 have sT:S64 (tuT x m OS).s:=zam _ _
 have G1:=Lib.hid (fun w hc hf=>show Calls Tryz.prog 112 #[.pointer (some ⟨c,0,none⟩),.agg #[.int .i64 x.thrust.lo,.int .i64 x.thrust.hi],.agg #[.int .i64 m.lo,.int .i64 m.hi]] w (RetC c (.agg #[.int .i64 ((tuT x m OS).s).lo,.int .i64 ((tuT x m OS).s).hi]) (tuT x m OS).e w) from zc7 c OS.e x.thrust m w hc hf)
 obtain ⟨X0,hX0⟩:∃ X,X=(doR (tuT x m OS).e (mulR (tuT x m OS).s x.dir.x)):=⟨_,rfl⟩
 have hZ0:=zeu (tuT x m OS).s x.dir.x OS.b.x (tuT x m OS).e
 rw[←hX0] at hZ0
 have sX0:S64 X0.s:=by rw[hX0];exact zam _ _
 have M0a:=Lib.hid (fun w hc hf=>show Calls Tryz.prog 53 #[.pointer (some ⟨c,0,none⟩),.agg #[.int .i64 ((tuT x m OS).s).lo,.int .i64 ((tuT x m OS).s).hi],.agg #[.int .i64 x.dir.x.lo,.int .i64 x.dir.x.hi]] w (RetC c (.agg #[.int .i64 X0.s.lo,.int .i64 X0.s.hi]) X0.e w) from by
  rw[hX0]
  exact zaP c (tuT x m OS).e (tuT x m OS).s x.dir.x w hc hf)
 obtain ⟨Z0,hW0⟩:∃ Z,Z=(zbs (tuT x m OS).s x.dir.x OS.b.x (tuT x m OS).e):=⟨_,rfl⟩
 rw[←hW0] at hZ0
 have M0b:=Lib.hid (fun w hc hf=>show Calls Tryz.prog 55 #[.pointer (some ⟨c,0,none⟩),.agg #[.int .i64 OS.b.x.lo,.int .i64 OS.b.x.hi],.agg #[.int .i64 X0.s.lo,.int .i64 X0.s.hi]] w (RetC c (.agg #[.int .i64 Z0.s.lo,.int .i64 Z0.s.hi]) Z0.e w) from by
  rw[hZ0]
  exact zbV c X0.e OS.b.x X0.s w hc hf)
 obtain ⟨X1,hX1⟩:∃ X,X=(doR Z0.e (mulR (tuT x m OS).s x.dir.y)):=⟨_,rfl⟩
 have hZ1:=zeu (tuT x m OS).s x.dir.y OS.b.y Z0.e
 rw[←hX1] at hZ1
 have sX1:S64 X1.s:=by rw[hX1];exact zam _ _
 have M1a:=Lib.hid (fun w hc hf=>show Calls Tryz.prog 53 #[.pointer (some ⟨c,0,none⟩),.agg #[.int .i64 ((tuT x m OS).s).lo,.int .i64 ((tuT x m OS).s).hi],.agg #[.int .i64 x.dir.y.lo,.int .i64 x.dir.y.hi]] w (RetC c (.agg #[.int .i64 X1.s.lo,.int .i64 X1.s.hi]) X1.e w) from by
  rw[hX1]
  exact zaP c Z0.e (tuT x m OS).s x.dir.y w hc hf)
 obtain ⟨Z1,hW1⟩:∃ Z,Z=(zbs (tuT x m OS).s x.dir.y OS.b.y Z0.e):=⟨_,rfl⟩
 rw[←hW1] at hZ1
 have M1b:=Lib.hid (fun w hc hf=>show Calls Tryz.prog 55 #[.pointer (some ⟨c,0,none⟩),.agg #[.int .i64 OS.b.y.lo,.int .i64 OS.b.y.hi],.agg #[.int .i64 X1.s.lo,.int .i64 X1.s.hi]] w (RetC c (.agg #[.int .i64 Z1.s.lo,.int .i64 Z1.s.hi]) Z1.e w) from by
  rw[hZ1]
  exact zbV c X1.e OS.b.y X1.s w hc hf)
 obtain ⟨X2,hX2⟩:∃ X,X=(doR Z1.e (mulR (tuT x m OS).s x.dir.z)):=⟨_,rfl⟩
 have hZ2:=zeu (tuT x m OS).s x.dir.z OS.b.z Z1.e
 rw[←hX2] at hZ2
 have sX2:S64 X2.s:=by rw[hX2];exact zam _ _
 have M2a:=Lib.hid (fun w hc hf=>show Calls Tryz.prog 53 #[.pointer (some ⟨c,0,none⟩),.agg #[.int .i64 ((tuT x m OS).s).lo,.int .i64 ((tuT x m OS).s).hi],.agg #[.int .i64 x.dir.z.lo,.int .i64 x.dir.z.hi]] w (RetC c (.agg #[.int .i64 X2.s.lo,.int .i64 X2.s.hi]) X2.e w) from by
  rw[hX2]
  exact zaP c Z1.e (tuT x m OS).s x.dir.z w hc hf)
 obtain ⟨Z2,hW2⟩:∃ Z,Z=(zbs (tuT x m OS).s x.dir.z OS.b.z Z1.e):=⟨_,rfl⟩
 rw[←hW2] at hZ2
 have M2b:=Lib.hid (fun w hc hf=>show Calls Tryz.prog 55 #[.pointer (some ⟨c,0,none⟩),.agg #[.int .i64 OS.b.z.lo,.int .i64 OS.b.z.hi],.agg #[.int .i64 X2.s.lo,.int .i64 X2.s.hi]] w (RetC c (.agg #[.int .i64 Z2.s.lo,.int .i64 Z2.s.hi]) Z2.e w) from by
  rw[hZ2]
  exact zbV c X2.e OS.b.z X2.s w hc hf)
 have HO1:=Lib.hid (fun (h:zbv x.thrust=true)=>show OT=OS by have h1:=HOT.out;unfold zaW at h1;rw[h] at h1;exact h1)
 have HO2:=Lib.hid (fun (h:zbv x.thrust=false)=>show OT=⟨⟨Z0.s,Z1.s,Z2.s⟩,Z2.e⟩ by
  have h1:=HOT.out
  unfold zaW at h1
  rw[h] at h1
  rw[show OT=_ from h1,hW2,hW1,hW0]
  rfl)
 clear HOT hX0 hX1 hX2 hZ0 hZ1 hZ2 hW0 hW1 hW2 sX0 sX1 sX2 sT
 generalize tuT x m OS=rT at *
 generalize zbv x.thrust=zt at *
 conv=>arg 2;dsimp only[tlC,Tryz.f54,Option.getD]
 go_upto_if 146 with (go_at_call 111;(with_reducible refine zaa (HZ.out _) ?_);intro u1)
 go_cut [] (fun wx=>FrG c w pP x q v m (OT.e) (NR.s) (OT.b) wx)
 case first=>
  cases zt
  ·have hN:=HO2.out (by first|rfl|trivial)
   go_wp2_with (go_at_call 112;(with_reducible refine zar (G1.out _ ?_ ?_) ?_);(· go_simp);(· go_simp);intro u2)
   refine wp_loop_rounds 4 ?_
   rw[rounds_succ]
   go_wp2
   refine zaf c [rT.e,X0.e,Z0.e] 14 [] [11,12] [] (fun W0=>[]) [.agg #[.int .i64 X0.s.lo,.int .i64 X0.s.hi],.agg #[.int .i64 Z0.s.lo,.int .i64 Z0.s.hi]] [14] (by rfl) (by go_simp) (by go_simp) (fun _ _ x hx=>absurd hx (List.not_mem_nil)) (by kernel_rfl) (by kernel_rfl) (by kernel_rfl) ?_
   intro pz hd0
   apply Exists.intro
   apply And.intro
   iterate 11 (apply zae hd0 (by kernel_rfl);(· intro uz xc;unfold zai;go_simp;rfl))
   apply zad hd0 0 (by kernel_rfl) (by rfl) (by decide)
   ·intro uz hfz hF;clear hF;unfold zah;go_simp;exact M0a.out _ (by go_simp) hfz
   apply zad hd0 1 (by kernel_rfl) (by rfl) (by decide)
   ·intro uz hfz hF;clear hF;unfold zah;go_simp;exact M0b.out _ (by go_simp) hfz
   apply zae hd0 (by kernel_rfl)
   ·intro uz xc;unfold zai;go_simp;rfl
   apply zax
   rotate_left
   ·rfl
   intro uz hR hD hfz
   clear hR hD
   refine zag (by rfl) ?_;unfold zap;go_simp
   refine zao ?_
   go_wp2
   rw[rounds_succ]
   go_wp2
   refine zaf c [Z0.e,X1.e,Z1.e] 14 [] [11,12] [] (fun W0=>[]) [.agg #[.int .i64 X1.s.lo,.int .i64 X1.s.hi],.agg #[.int .i64 Z1.s.lo,.int .i64 Z1.s.hi]] [14] (by rfl) (by go_simp) (by go_simp) (fun _ _ x hx=>absurd hx (List.not_mem_nil)) (by kernel_rfl) (by kernel_rfl) (by kernel_rfl) ?_
   intro pz hd0
   apply Exists.intro
   apply And.intro
   iterate 11 (apply zae hd0 (by kernel_rfl);(· intro uz xc;unfold zai;go_simp;rfl))
   apply zad hd0 0 (by kernel_rfl) (by rfl) (by decide)
   ·intro uz hfz hF;clear hF;unfold zah;go_simp;exact M1a.out _ (by go_simp) hfz
   apply zad hd0 1 (by kernel_rfl) (by rfl) (by decide)
   ·intro uz hfz hF;clear hF;unfold zah;go_simp;exact M1b.out _ (by go_simp) hfz
   apply zae hd0 (by kernel_rfl)
   ·intro uz xc;unfold zai;go_simp;rfl
   apply zax
   rotate_left
   ·rfl
   intro uz hR hD hfz
   clear hR hD
   refine zag (by rfl) ?_;unfold zap;go_simp
   refine zao ?_
   go_wp2
   rw[rounds_succ]
   go_wp2
   refine zaf c [Z1.e,X2.e,Z2.e] 14 [] [11,12] [] (fun W0=>[]) [.agg #[.int .i64 X2.s.lo,.int .i64 X2.s.hi],.agg #[.int .i64 Z2.s.lo,.int .i64 Z2.s.hi]] [14] (by rfl) (by go_simp) (by go_simp) (fun _ _ x hx=>absurd hx (List.not_mem_nil)) (by kernel_rfl) (by kernel_rfl) (by kernel_rfl) ?_
   intro pz hd0
   apply Exists.intro
   apply And.intro
   iterate 11 (apply zae hd0 (by kernel_rfl);(· intro uz xc;unfold zai;go_simp;rfl))
   apply zad hd0 0 (by kernel_rfl) (by rfl) (by decide)
   ·intro uz hfz hF;clear hF;unfold zah;go_simp;exact M2a.out _ (by go_simp) hfz
   apply zad hd0 1 (by kernel_rfl) (by rfl) (by decide)
   ·intro uz hfz hF;clear hF;unfold zah;go_simp;exact M2b.out _ (by go_simp) hfz
   apply zae hd0 (by kernel_rfl)
   ·intro uz xc;unfold zai;go_simp;rfl
   apply zax
   rotate_left
   ·rfl
   intro uz hR hD hfz
   clear hR hD
   refine zag (by rfl) ?_;unfold zap;go_simp
   refine zao ?_
   go_wp2
   rw[rounds_succ]
   go_wp2
   go_meet
   case rel=>exact ⟨btw,by rw[hN];go_simp,by go_simp,inferInstance,inferInstance,inferInstance,inferInstance,inferInstance,inferInstance,zau inferInstance (by rw[hN];rfl),inferInstance⟩
  ·have hN:=HO1.out (by first|rfl|trivial)
   go_wp2
   go_meet
   case rel=>exact ⟨btw,by rw[hN];go_simp,by go_simp,inferInstance,inferInstance,inferInstance,inferInstance,inferInstance,inferInstance,zau inferInstance (by rw[hN]),inferInstance⟩
 case rest=>
 go_step
 exact HK.out _ _ _ _ _ _ _ _ _ _ _ _ _ _ _ _ _ _ _ _ _ _ _ _ _ _ _ _ _ _ _ _ _ _ _ _ _ _ _ _ _ _ _ _ _ _ _ _ _ _ _ _ _ _ _ _ _ _ _ _ _ _ _ _ _ _ _ _ _ _ _ _ _ _ _ _ _ _ _ _ _ _ _ _ _ _ _ _ _ _ _ _ _ _ _ _ _ _ _ _ _ _ _ _ _ _ _ _ _ _ _ _ _ _ _ _ _ _ _ _ _ _ _ _ _ _ _ _ _ _ _ _ _ _ _ _ _ _ _ _ _ _ _ _ _ _ _ _ _ _ _ _ _ _ _ _ _ _ _ _ _ _ _ _ _ _ _ _ _ _ _ _ _ _ _ _ _ _ _ _ _ _ _ _ _ _ _ _ _ _ _ _ _ _ _ wc hcut
end Go.Proofs.YtdkfkalplmgoeaaGreat
namespace Go.Proofs.YtdkfkalplmgoeaaGreat
open Go.RowKit Go.Shelf
set_option maxRecDepth 100000
set_option maxHeartbeats 32000000
theorem r3C (HL:zej 168) (pP:Planet) (x:Arc) (l:List Pt) (q v:Bx) (m:Sp) [hp:Pl64 pP] [hq:B64 q] [hv:B64 v] [hm:S64 m] [hxt:S64 x.thrust] [hxd:B64 x.dir] (c:Nat) (e:Int) (w:World) (hc:w.cell? ⟨c,0,none⟩=some (.int .i64 e))
 (hdn:x.drag.n=l.length) (HS:∀ wx,But c w wx→SlAt wx (.slice x.drag.ao l.length x.drag.cap) l.length (l.flatMap Pt.cells))
 (NR:Res) (OP:BRes) [sN:S64 NR.s] [bP:B64 OP.b] (u15 u16 u17 u18 u19 u20 u21 u22 u23 u24 u25 u26 u27 u28 u29 u30 u31 u32 u33 u34 u35 u36 u37 u38 u39 u40 u41 u42 u43 u44 u45 u46 u47 u48 u49 u50 u51 u52 u53 u54 u55 u56 u57 u58 u59 u60 u61 u62 u63 u64 u65 u66 u67 u68 u69 u70 u71 u72 u73 u74 u75 u76 u77 u78 u79 u80 u81 u82 u83 u84 u85 u86 u87 u88 u89 u90 u91 u92 u93 u94 u95 u96 u97 u98 u99 u100 u101 u102 u103 u104 u105 u106 u107 u108 u109 u110 u111 u112 u113 u114 u115 u116 u117 u118 u119 u120 u121 u122 u123 u124 u125 u126 u127 u128 u129 u130 u131 u132 u133 u134 u135 u136 u137 u138 u139 u140 u141 u142 u143 u144 u145 u146 u147 u148 u149 u150 u151 u152 u153 u154 u155 u156 u157 u158 u159 u160 u161 u162 u163 u164 u165 u166 u167 u168 u169 u170 u171 u172 u173 u174 u175 u176 u177 u178 u179 u180 u181 u182 u183 u184 u185 u186 u187 u188 u189 u190 u191 u192 u193 u194 u195 u196 u197 u198 u199 u200 u201 u202 u203 u204 u205 u206 u207 u208 u209:Value) (wc:World) (hF:FrG c w pP x q v m (OP.e) (NR.s) (OP.b) wc) :
 (tlC (tlC (tlC (tlC (tlC (Tryz.f54.body.getD .skip)))))).wp Tryz.prog (bodyPost Tryz.prog Tryz.f54 (RetC c (.agg #[.int .i64 ((zbQ pP l v m NR.s (zaW x m (zce pP.spin q v OP))).b).x.lo,.int .i64 ((zbQ pP l v m NR.s (zaW x m (zce pP.spin q v OP))).b).x.hi,.int .i64 ((zbQ pP l v m NR.s (zaW x m (zce pP.spin q v OP))).b).y.lo,.int .i64 ((zbQ pP l v m NR.s (zaW x m (zce pP.spin q v OP))).b).y.hi,.int .i64 ((zbQ pP l v m NR.s (zaW x m (zce pP.spin q v OP))).b).z.lo,.int .i64 ((zbQ pP l v m NR.s (zaW x m (zce pP.spin q v OP))).b).z.hi]) (zbQ pP l v m NR.s (zaW x m (zce pP.spin q v OP))).e w)) { tmps:=#[.pointer (some ⟨c,0,none⟩),.agg pP.cells.toArray,.agg x.cells.toArray,.agg #[.int .i64 q.x.lo,.int .i64 q.x.hi,.int .i64 q.y.lo,.int .i64 q.y.hi,.int .i64 q.z.lo,.int .i64 q.z.hi],.agg #[.int .i64 v.x.lo,.int .i64 v.x.hi,.int .i64 v.y.lo,.int .i64 v.y.hi,.int .i64 v.z.lo,.int .i64 v.z.hi],.agg #[.int .i64 m.lo,.int .i64 m.hi],undef,.pointer (some ⟨w.heap.size,0,none⟩),.pointer (some ⟨w.heap.size+1,0,none⟩),.pointer (some ⟨w.heap.size+1+1,0,none⟩),.pointer (some ⟨w.heap.size+1+1+1,0,none⟩),.pointer (some ⟨w.heap.size+1+1+1+1,0,none⟩),.pointer (some ⟨w.heap.size+1+1+1+1+1,0,none⟩),.pointer (some ⟨w.heap.size+1+1+1+1+1+1,0,none⟩),.pointer (some ⟨w.heap.size+1+1+1+1+1+1+1,0,none⟩),u15,u16,u17,u18,u19,u20,u21,u22,u23,u24,u25,u26,u27,u28,u29,u30,u31,u32,u33,u34,u35,u36,u37,u38,u39,u40,u41,u42,u43,u44,u45,u46,u47,u48,u49,u50,u51,u52,u53,u54,u55,u56,u57,u58,u59,u60,u61,u62,u63,u64,u65,u66,u67,u68,u69,u70,u71,u72,u73,u74,u75,u76,u77,u78,u79,u80,u81,u82,u83,u84,u85,u86,u87,u88,u89,u90,u91,u92,u93,u94,u95,u96,u97,u98,u99,u100,u101,u102,u103,u104,u105,u106,u107,u108,u109,u110,u111,u112,u113,u114,u115,u116,u117,u118,u119,u120,u121,u122,u123,u124,u125,u126,u127,u128,u129,u130,u131,u132,u133,u134,u135,u136,u137,u138,u139,u140,u141,u142,u143,u144,u145,u146,u147,u148,u149,u150,u151,u152,u153,u154,u155,u156,u157,u158,u159,u160,u161,u162,u163,u164,u165,u166,u167,u168,u169,u170,u171,u172,u173,u174,u175,u176,u177,u178,u179,u180,u181,u182,u183,u184,u185,u186,u187,u188,u189,u190,u191,u192,u193,u194,u195,u196,u197,u198,u199,u200,u201,u202,u203,u204,u205,u206,u207,u208,u209],defers:=[] } wc:=by
 have ib:BlockIn w c:=BlockIn.of_cell hc
 have Hc:=Lib.hid hc
 have hlt:=ib.lt
 have hlen:=(HS w (But.refl hc)).len_le
 unfold maxLen at hlen
 have HLE:=Lib.hid (show l.isEmpty=decide (l.length=0) by cases l<;>simp)
 have HHS:=Lib.hid HS
 clear HS
 have hdl:=Lib.hid hdn
 clear hdn
 have:Apart (w.heap.size) (c):=⟨by omega⟩
 have:Apart (w.heap.size+1) (c):=⟨by omega⟩
 have:Apart (w.heap.size+1+1) (c):=⟨by omega⟩
 have:Apart (w.heap.size+1+1+1) (c):=⟨by omega⟩
 have:Apart (w.heap.size+1+1+1+1) (c):=⟨by omega⟩
 have:Apart (w.heap.size+1+1+1+1+1) (c):=⟨by omega⟩
 have:Apart (w.heap.size+1+1+1+1+1+1) (c):=⟨by omega⟩
 have:Apart (w.heap.size+1+1+1+1+1+1+1) (c):=⟨by omega⟩
 have:Apart (c) (w.heap.size+1+1+1+1+1+1):=⟨by omega⟩
 obtain ⟨hb,h2,h3,m1,m2,m3,m4,m5,m6,m7,m8⟩:=hF
 have Hb:=Lib.hid hb
 have nwc:NewFor w wc.heap.size:=⟨hb.size⟩
 have ibw:BlockIn wc c:=BlockIn.of_cell h2
 have hcw:HasCell wc c 0:=⟨_,h2⟩
 have i1:=m1.blockIn
 have i2:=m2.blockIn
 have i3:=m3.blockIn
 have i4:=m4.blockIn
 have i5:=m5.blockIn
 have i6:=m6.blockIn
 have i7:=m7.blockIn
 have i8:=m8.blockIn
 clear hb
 have bS:B64 (zce pP.spin q v OP).b:=zhj _ _ _ _
 have HK:=Lib.hid (r3D HL pP x l q v m c e w hc hdl.out HHS.out NR (zce pP.spin q v OP))
 have HOS:=Lib.hid (show zce pP.spin q v OP=zce pP.spin q v OP from rfl)
 generalize hOS:zce pP.spin q v OP=OS at *
 replace HOS:=Lib.hid hOS.symm
 clear hOS
 have HZ:=Lib.hid (fun w'=>zcY pP.spin w')
 have:S64 (spE pP.spin OP).s:=zam _ _
 have:S64 (spA1 pP.spin v OP).s:=zam _ _
 have:S64 (spA2 pP.spin v OP).s:=zam _ _
 have:S64 (spA3 pP.spin v OP).s:=zam _ _
 have:S64 (spA4 pP.spin q v OP).s:=zam _ _
 have:S64 (spA5 pP.spin q v OP).s:=zam _ _
 have:S64 (spB1 pP.spin q v OP).s:=zam _ _
 have:S64 (spB2 pP.spin q v OP).s:=zam _ _
 have:S64 (spB3 pP.spin q v OP).s:=zam _ _
 have:S64 (spB4 pP.spin q v OP).s:=zam _ _
 have:S64 (spB5 pP.spin q v OP).s:=zam _ _
 have C0:=Lib.hid (fun w hc hf=>show Calls Tryz.prog 114 #[.pointer (some ⟨c,0,none⟩),.agg #[.int .i64 pP.spin.lo,.int .i64 pP.spin.hi]] w (RetC c (.agg #[.int .i64 ((spE pP.spin OP).s).lo,.int .i64 ((spE pP.spin OP).s).hi]) (spE pP.spin OP).e w) from zfr c OP.e pP.spin w hc hf)
 have C1:=Lib.hid (fun w hc hf=>show Calls Tryz.prog 53 #[.pointer (some ⟨c,0,none⟩),.agg #[.int .i64 pP.spin.lo,.int .i64 pP.spin.hi],.agg #[.int .i64 v.y.lo,.int .i64 v.y.hi]] w (RetC c (.agg #[.int .i64 ((spA1 pP.spin v OP).s).lo,.int .i64 ((spA1 pP.spin v OP).s).hi]) (spA1 pP.spin v OP).e w) from zaP c (spE pP.spin OP).e pP.spin v.y w hc hf)
 have C2:=Lib.hid (fun w hc hf=>show Calls Tryz.prog 115 #[.pointer (some ⟨c,0,none⟩),.agg #[.int .i64 ((spA1 pP.spin v OP).s).lo,.int .i64 ((spA1 pP.spin v OP).s).hi],.int .i64 2] w (RetC c (.agg #[.int .i64 ((spA2 pP.spin v OP).s).lo,.int .i64 ((spA2 pP.spin v OP).s).hi]) (spA2 pP.spin v OP).e w) from zfZ c (spA1 pP.spin v OP).e (spA1 pP.spin v OP).s 2 w hc hf)
 have C3:=Lib.hid (fun w hc hf=>show Calls Tryz.prog 55 #[.pointer (some ⟨c,0,none⟩),.agg #[.int .i64 OP.b.x.lo,.int .i64 OP.b.x.hi],.agg #[.int .i64 ((spA2 pP.spin v OP).s).lo,.int .i64 ((spA2 pP.spin v OP).s).hi]] w (RetC c (.agg #[.int .i64 ((spA3 pP.spin v OP).s).lo,.int .i64 ((spA3 pP.spin v OP).s).hi]) (spA3 pP.spin v OP).e w) from zbV c (spA2 pP.spin v OP).e OP.b.x (spA2 pP.spin v OP).s w hc hf)
 have C4:=Lib.hid (fun w hc hf=>show Calls Tryz.prog 53 #[.pointer (some ⟨c,0,none⟩),.agg #[.int .i64 ((spE pP.spin OP).s).lo,.int .i64 ((spE pP.spin OP).s).hi],.agg #[.int .i64 q.x.lo,.int .i64 q.x.hi]] w (RetC c (.agg #[.int .i64 ((spA4 pP.spin q v OP).s).lo,.int .i64 ((spA4 pP.spin q v OP).s).hi]) (spA4 pP.spin q v OP).e w) from zaP c (spA3 pP.spin v OP).e (spE pP.spin OP).s q.x w hc hf)
 have C5:=Lib.hid (fun w hc hf=>show Calls Tryz.prog 55 #[.pointer (some ⟨c,0,none⟩),.agg #[.int .i64 ((spA3 pP.spin v OP).s).lo,.int .i64 ((spA3 pP.spin v OP).s).hi],.agg #[.int .i64 ((spA4 pP.spin q v OP).s).lo,.int .i64 ((spA4 pP.spin q v OP).s).hi]] w (RetC c (.agg #[.int .i64 ((spA5 pP.spin q v OP).s).lo,.int .i64 ((spA5 pP.spin q v OP).s).hi]) (spA5 pP.spin q v OP).e w) from zbV c (spA4 pP.spin q v OP).e (spA3 pP.spin v OP).s (spA4 pP.spin q v OP).s w hc hf)
 have D1:=Lib.hid (fun w hc hf=>show Calls Tryz.prog 53 #[.pointer (some ⟨c,0,none⟩),.agg #[.int .i64 pP.spin.lo,.int .i64 pP.spin.hi],.agg #[.int .i64 v.x.lo,.int .i64 v.x.hi]] w (RetC c (.agg #[.int .i64 ((spB1 pP.spin q v OP).s).lo,.int .i64 ((spB1 pP.spin q v OP).s).hi]) (spB1 pP.spin q v OP).e w) from zaP c (spA5 pP.spin q v OP).e pP.spin v.x w hc hf)
 have D2:=Lib.hid (fun w hc hf=>show Calls Tryz.prog 115 #[.pointer (some ⟨c,0,none⟩),.agg #[.int .i64 ((spB1 pP.spin q v OP).s).lo,.int .i64 ((spB1 pP.spin q v OP).s).hi],.int .i64 2] w (RetC c (.agg #[.int .i64 ((spB2 pP.spin q v OP).s).lo,.int .i64 ((spB2 pP.spin q v OP).s).hi]) (spB2 pP.spin q v OP).e w) from zfZ c (spB1 pP.spin q v OP).e (spB1 pP.spin q v OP).s 2 w hc hf)
 have D3:=Lib.hid (fun w hc hf=>show Calls Tryz.prog 52 #[.pointer (some ⟨c,0,none⟩),.agg #[.int .i64 OP.b.y.lo,.int .i64 OP.b.y.hi],.agg #[.int .i64 ((spB2 pP.spin q v OP).s).lo,.int .i64 ((spB2 pP.spin q v OP).s).hi]] w (RetC c (.agg #[.int .i64 ((spB3 pP.spin q v OP).s).lo,.int .i64 ((spB3 pP.spin q v OP).s).hi]) (spB3 pP.spin q v OP).e w) from zca c (spB2 pP.spin q v OP).e OP.b.y (spB2 pP.spin q v OP).s w hc hf)
 have D4:=Lib.hid (fun w hc hf=>show Calls Tryz.prog 53 #[.pointer (some ⟨c,0,none⟩),.agg #[.int .i64 ((spE pP.spin OP).s).lo,.int .i64 ((spE pP.spin OP).s).hi],.agg #[.int .i64 q.y.lo,.int .i64 q.y.hi]] w (RetC c (.agg #[.int .i64 ((spB4 pP.spin q v OP).s).lo,.int .i64 ((spB4 pP.spin q v OP).s).hi]) (spB4 pP.spin q v OP).e w) from zaP c (spB3 pP.spin q v OP).e (spE pP.spin OP).s q.y w hc hf)
 have D5:=Lib.hid (fun w hc hf=>show Calls Tryz.prog 55 #[.pointer (some ⟨c,0,none⟩),.agg #[.int .i64 ((spB3 pP.spin q v OP).s).lo,.int .i64 ((spB3 pP.spin q v OP).s).hi],.agg #[.int .i64 ((spB4 pP.spin q v OP).s).lo,.int .i64 ((spB4 pP.spin q v OP).s).hi]] w (RetC c (.agg #[.int .i64 ((spB5 pP.spin q v OP).s).lo,.int .i64 ((spB5 pP.spin q v OP).s).hi]) (spB5 pP.spin q v OP).e w) from zbV c (spB4 pP.spin q v OP).e (spB3 pP.spin q v OP).s (spB4 pP.spin q v OP).s w hc hf)
 have HO1:=Lib.hid (fun (h:zbv pP.spin=true)=>show OS=OP by have h1:=HOS.out;unfold zce at h1;rw[h] at h1;exact h1)
 have HO2:=Lib.hid (fun (h:zbv pP.spin=false)=>show OS=⟨⟨(spA5 pP.spin q v OP).s,(spB5 pP.spin q v OP).s,OP.b.z⟩,(spB5 pP.spin q v OP).e⟩ by have h1:=HOS.out;unfold zce at h1;rw[h] at h1;exact h1)
 clear HOS
 generalize spE pP.spin OP=rE at *
 generalize spA1 pP.spin v OP=rA1 at *
 generalize spB1 pP.spin q v OP=rB1 at *
 generalize spA2 pP.spin v OP=rA2 at *
 generalize spB2 pP.spin q v OP=rB2 at *
 generalize spA3 pP.spin v OP=rA3 at *
 generalize spB3 pP.spin q v OP=rB3 at *
 generalize spA4 pP.spin q v OP=rA4 at *
 generalize spB4 pP.spin q v OP=rB4 at *
 generalize spA5 pP.spin q v OP=rA5 at *
 generalize spB5 pP.spin q v OP=rB5 at *
 generalize zbv pP.spin=zs at *
 conv=>arg 2;dsimp only[tlC,Tryz.f54,Option.getD]
 go_upto_if 99 with (go_at_call 111;(with_reducible refine zaa (HZ.out _) ?_);intro u1)
 go_cut [] (fun wx=>FrG c w pP x q v m (OS.e) (NR.s) (OS.b) wx)
 case first=>
  cases zs
  ·have hN:=HO2.out (by first|rfl|trivial)
   go_wp2_with (go_at_call 114;(with_reducible refine zar (C0.out _ ?_ ?_) ?_);(· go_simp);(· go_simp);intro u2)
   refine zaf c [rE.e,rA1.e,rA2.e,rA3.e,rA4.e,rA5.e] 19 [] [9,10,11,16,17] [] (fun W0=>[]) [.agg #[.int .i64 rA1.s.lo,.int .i64 rA1.s.hi],.agg #[.int .i64 rA2.s.lo,.int .i64 rA2.s.hi],.agg #[.int .i64 rA3.s.lo,.int .i64 rA3.s.hi],.agg #[.int .i64 rA4.s.lo,.int .i64 rA4.s.hi],.agg #[.int .i64 rA5.s.lo,.int .i64 rA5.s.hi]] [19] (by rfl) (by go_simp) (by go_simp) (fun _ _ x hx=>absurd hx (List.not_mem_nil)) (by kernel_rfl) (by kernel_rfl) (by kernel_rfl) ?_
   intro pz hd0
   apply Exists.intro
   apply And.intro
   iterate 9 (apply zae hd0 (by kernel_rfl);(· intro uz xc;unfold zai;go_simp;rfl))
   apply zad hd0 0 (by kernel_rfl) (by rfl) (by decide)
   ·intro uz hfz hF;clear hF;unfold zah;go_simp;exact C1.out _ (by go_simp) hfz
   apply zad hd0 1 (by kernel_rfl) (by rfl) (by decide)
   ·intro uz hfz hF;clear hF;unfold zah;go_simp;exact C2.out _ (by go_simp) hfz
   apply zad hd0 2 (by kernel_rfl) (by rfl) (by decide)
   ·intro uz hfz hF;clear hF;unfold zah;go_simp;exact C3.out _ (by go_simp) hfz
   iterate 4 (apply zae hd0 (by kernel_rfl);(· intro uz xc;unfold zai;go_simp;rfl))
   apply zad hd0 3 (by kernel_rfl) (by rfl) (by decide)
   ·intro uz hfz hF;clear hF;unfold zah;go_simp;exact C4.out _ (by go_simp) hfz
   apply zad hd0 4 (by kernel_rfl) (by rfl) (by decide)
   ·intro uz hfz hF;clear hF;unfold zah;go_simp;exact C5.out _ (by go_simp) hfz
   apply zae hd0 (by kernel_rfl)
   ·intro uz xc;unfold zai;go_simp;rfl
   apply zax
   rotate_left
   ·rfl
   intro uz hR hD hfz
   clear hR hD
   refine zag (by rfl) ?_;unfold zap;go_simp
   refine zao ?_
   go_wp2
   refine zaf c [rA5.e,rB1.e,rB2.e,rB3.e,rB4.e,rB5.e] 19 [] [9,10,11,16,17] [] (fun W0=>[]) [.agg #[.int .i64 rB1.s.lo,.int .i64 rB1.s.hi],.agg #[.int .i64 rB2.s.lo,.int .i64 rB2.s.hi],.agg #[.int .i64 rB3.s.lo,.int .i64 rB3.s.hi],.agg #[.int .i64 rB4.s.lo,.int .i64 rB4.s.hi],.agg #[.int .i64 rB5.s.lo,.int .i64 rB5.s.hi]] [19] (by rfl) (by go_simp) (by go_simp) (fun _ _ x hx=>absurd hx (List.not_mem_nil)) (by kernel_rfl) (by kernel_rfl) (by kernel_rfl) ?_
   intro pz hd0
   apply Exists.intro
   apply And.intro
   iterate 9 (apply zae hd0 (by kernel_rfl);(· intro uz xc;unfold zai;go_simp;rfl))
   apply zad hd0 0 (by kernel_rfl) (by rfl) (by decide)
   ·intro uz hfz hF;clear hF;unfold zah;go_simp;exact D1.out _ (by go_simp) hfz
   apply zad hd0 1 (by kernel_rfl) (by rfl) (by decide)
   ·intro uz hfz hF;clear hF;unfold zah;go_simp;exact D2.out _ (by go_simp) hfz
   apply zad hd0 2 (by kernel_rfl) (by rfl) (by decide)
   ·intro uz hfz hF;clear hF;unfold zah;go_simp;exact D3.out _ (by go_simp) hfz
   iterate 4 (apply zae hd0 (by kernel_rfl);(· intro uz xc;unfold zai;go_simp;rfl))
   apply zad hd0 3 (by kernel_rfl) (by rfl) (by decide)
   ·intro uz hfz hF;clear hF;unfold zah;go_simp;exact D4.out _ (by go_simp) hfz
   apply zad hd0 4 (by kernel_rfl) (by rfl) (by decide)
   ·intro uz hfz hF;clear hF;unfold zah;go_simp;exact D5.out _ (by go_simp) hfz
   apply zae hd0 (by kernel_rfl)
   ·intro uz xc;unfold zai;go_simp;rfl
   apply zax
   rotate_left
   ·rfl
   intro uz hR hD hfz
   clear hR hD
   refine zag (by rfl) ?_;unfold zap;go_simp
   refine zao ?_
   go_wp2
   go_meet
   case rel=>exact ⟨btw,by rw[hN];go_simp,by go_simp,inferInstance,inferInstance,inferInstance,inferInstance,inferInstance,inferInstance,zau inferInstance (by rw[hN];rfl),inferInstance⟩
  ·have hN:=HO1.out (by first|rfl|trivial)
   go_wp2
   go_meet
   case rel=>exact ⟨btw,by rw[hN];go_simp,by go_simp,inferInstance,inferInstance,inferInstance,inferInstance,inferInstance,inferInstance,zau inferInstance (by rw[hN]),inferInstance⟩
 case rest=>
 go_step
 exact HK.out _ _ _ _ _ _ _ _ _ _ _ _ _ _ _ _ _ _ _ _ _ _ _ _ _ _ _ _ _ _ _ _ _ _ _ _ _ _ _ _ _ _ _ _ _ _ _ _ _ _ _ _ _ _ _ _ _ _ _ _ _ _ _ _ _ _ _ _ _ _ _ _ _ _ _ _ _ _ _ _ _ _ _ _ _ _ _ _ _ _ _ _ _ _ _ _ _ _ _ _ _ _ _ _ _ _ _ _ _ _ _ _ _ _ _ _ _ _ _ _ _ _ _ _ _ _ _ _ _ _ _ _ _ _ _ _ _ _ _ _ _ _ _ _ _ _ _ _ _ _ _ _ _ _ _ _ _ _ _ _ _ _ _ _ _ _ _ _ _ _ _ _ _ _ _ _ _ _ _ _ _ _ _ _ _ _ _ _ _ _ _ _ _ _ _ wc hcut
end Go.Proofs.YtdkfkalplmgoeaaGreat
namespace Go.Proofs.YtdkfkalplmgoeaaGreat
open Go.RowKit Go.Shelf
set_option maxRecDepth 100000
set_option maxHeartbeats 32000000
theorem zmb (pP:Planet) (q:Bx) (NR:Res) [hp:Pl64 pP]:B64 (if zbv pP.mu then (⟨pP.pull,NR.e⟩:BRes) else zey pP q NR.s NR.e).b:=by
 split
 ·exact hp.pull
 ·exact ⟨zam _ _ (h:=zcP _ _ (fun _=>inferInstance)),zam _ _ (h:=zcP _ _ (fun _=>inferInstance)),zam _ _ (h:=zcP _ _ (fun _=>inferInstance))⟩
theorem r3B (HL:zej 168) (pP:Planet) (x:Arc) (l:List Pt) (q v:Bx) (m:Sp) [hp:Pl64 pP] [hq:B64 q] [hv:B64 v] [hm:S64 m] [hxt:S64 x.thrust] [hxd:B64 x.dir] (c:Nat) (e:Int) (w:World) (hc:w.cell? ⟨c,0,none⟩=some (.int .i64 e))
 (hdn:x.drag.n=l.length) (HS:∀ wx,But c w wx→SlAt wx (.slice x.drag.ao l.length x.drag.cap) l.length (l.flatMap Pt.cells))
 (NR:Res) [sN:S64 NR.s] (u15 u16 u17 u18 u19 u20 u21 u22 u23 u24 u25 u26 u27 u28 u29 u30 u31 u32 u33 u34 u35 u36 u37 u38 u39 u40 u41 u42 u43 u44 u45 u46 u47 u48 u49 u50 u51 u52 u53 u54 u55 u56 u57 u58 u59 u60 u61 u62 u63 u64 u65 u66 u67 u68 u69 u70 u71 u72 u73 u74 u75 u76 u77 u78 u79 u80 u81 u82 u83 u84 u85 u86 u87 u88 u89 u90 u91 u92 u93 u94 u95 u96 u97 u98 u99 u100 u101 u102 u103 u104 u105 u106 u107 u108 u109 u110 u111 u112 u113 u114 u115 u116 u117 u118 u119 u120 u121 u122 u123 u124 u125 u126 u127 u128 u129 u130 u131 u132 u133 u134 u135 u136 u137 u138 u139 u140 u141 u142 u143 u144 u145 u146 u147 u148 u149 u150 u151 u152 u153 u154 u155 u156 u157 u158 u159 u160 u161 u162 u163 u164 u165 u166 u167 u168 u169 u170 u171 u172 u173 u174 u175 u176 u177 u178 u179 u180 u181 u182 u183 u184 u185 u186 u187 u188 u189 u190 u191 u192 u193 u194 u195 u196 u197 u198 u199 u200 u201 u202 u203 u204 u205 u206 u207 u208 u209:Value) (wc:World) (hF:FrG c w pP x q v m (NR.e) (NR.s) (pP.pull) wc) :
 (tlC (tlC (tlC (tlC (Tryz.f54.body.getD .skip))))).wp Tryz.prog (bodyPost Tryz.prog Tryz.f54 (RetC c (.agg #[.int .i64 ((zbQ pP l v m NR.s (zaW x m (zce pP.spin q v (if zbv pP.mu then ⟨pP.pull,NR.e⟩ else zey pP q NR.s NR.e)))).b).x.lo,.int .i64 ((zbQ pP l v m NR.s (zaW x m (zce pP.spin q v (if zbv pP.mu then ⟨pP.pull,NR.e⟩ else zey pP q NR.s NR.e)))).b).x.hi,.int .i64 ((zbQ pP l v m NR.s (zaW x m (zce pP.spin q v (if zbv pP.mu then ⟨pP.pull,NR.e⟩ else zey pP q NR.s NR.e)))).b).y.lo,.int .i64 ((zbQ pP l v m NR.s (zaW x m (zce pP.spin q v (if zbv pP.mu then ⟨pP.pull,NR.e⟩ else zey pP q NR.s NR.e)))).b).y.hi,.int .i64 ((zbQ pP l v m NR.s (zaW x m (zce pP.spin q v (if zbv pP.mu then ⟨pP.pull,NR.e⟩ else zey pP q NR.s NR.e)))).b).z.lo,.int .i64 ((zbQ pP l v m NR.s (zaW x m (zce pP.spin q v (if zbv pP.mu then ⟨pP.pull,NR.e⟩ else zey pP q NR.s NR.e)))).b).z.hi]) (zbQ pP l v m NR.s (zaW x m (zce pP.spin q v (if zbv pP.mu then ⟨pP.pull,NR.e⟩ else zey pP q NR.s NR.e)))).e w)) { tmps:=#[.pointer (some ⟨c,0,none⟩),.agg pP.cells.toArray,.agg x.cells.toArray,.agg #[.int .i64 q.x.lo,.int .i64 q.x.hi,.int .i64 q.y.lo,.int .i64 q.y.hi,.int .i64 q.z.lo,.int .i64 q.z.hi],.agg #[.int .i64 v.x.lo,.int .i64 v.x.hi,.int .i64 v.y.lo,.int .i64 v.y.hi,.int .i64 v.z.lo,.int .i64 v.z.hi],.agg #[.int .i64 m.lo,.int .i64 m.hi],undef,.pointer (some ⟨w.heap.size,0,none⟩),.pointer (some ⟨w.heap.size+1,0,none⟩),.pointer (some ⟨w.heap.size+1+1,0,none⟩),.pointer (some ⟨w.heap.size+1+1+1,0,none⟩),.pointer (some ⟨w.heap.size+1+1+1+1,0,none⟩),.pointer (some ⟨w.heap.size+1+1+1+1+1,0,none⟩),.pointer (some ⟨w.heap.size+1+1+1+1+1+1,0,none⟩),.pointer (some ⟨w.heap.size+1+1+1+1+1+1+1,0,none⟩),u15,u16,u17,u18,u19,u20,u21,u22,u23,u24,u25,u26,u27,u28,u29,u30,u31,u32,u33,u34,u35,u36,u37,u38,u39,u40,u41,u42,u43,u44,u45,u46,u47,u48,u49,u50,u51,u52,u53,u54,u55,u56,u57,u58,u59,u60,u61,u62,u63,u64,u65,u66,u67,u68,u69,u70,u71,u72,u73,u74,u75,u76,u77,u78,u79,u80,u81,u82,u83,u84,u85,u86,u87,u88,u89,u90,u91,u92,u93,u94,u95,u96,u97,u98,u99,u100,u101,u102,u103,u104,u105,u106,u107,u108,u109,u110,u111,u112,u113,u114,u115,u116,u117,u118,u119,u120,u121,u122,u123,u124,u125,u126,u127,u128,u129,u130,u131,u132,u133,u134,u135,u136,u137,u138,u139,u140,u141,u142,u143,u144,u145,u146,u147,u148,u149,u150,u151,u152,u153,u154,u155,u156,u157,u158,u159,u160,u161,u162,u163,u164,u165,u166,u167,u168,u169,u170,u171,u172,u173,u174,u175,u176,u177,u178,u179,u180,u181,u182,u183,u184,u185,u186,u187,u188,u189,u190,u191,u192,u193,u194,u195,u196,u197,u198,u199,u200,u201,u202,u203,u204,u205,u206,u207,u208,u209],defers:=[] } wc:=by
 have ib:BlockIn w c:=BlockIn.of_cell hc
 have Hc:=Lib.hid hc
 have hlt:=ib.lt
 have hlen:=(HS w (But.refl hc)).len_le
 unfold maxLen at hlen
 have HLE:=Lib.hid (show l.isEmpty=decide (l.length=0) by cases l<;>simp)
 have HHS:=Lib.hid HS
 clear HS
 have hdl:=Lib.hid hdn
 clear hdn
 have:Apart (w.heap.size) (c):=⟨by omega⟩
 have:Apart (w.heap.size+1) (c):=⟨by omega⟩
 have:Apart (w.heap.size+1+1) (c):=⟨by omega⟩
 have:Apart (w.heap.size+1+1+1) (c):=⟨by omega⟩
 have:Apart (w.heap.size+1+1+1+1) (c):=⟨by omega⟩
 have:Apart (w.heap.size+1+1+1+1+1) (c):=⟨by omega⟩
 have:Apart (w.heap.size+1+1+1+1+1+1) (c):=⟨by omega⟩
 have:Apart (w.heap.size+1+1+1+1+1+1+1) (c):=⟨by omega⟩
 have:Apart (c) (w.heap.size+1+1+1+1+1+1):=⟨by omega⟩
 obtain ⟨hb,h2,h3,m1,m2,m3,m4,m5,m6,m7,m8⟩:=hF
 have Hb:=Lib.hid hb
 have nwc:NewFor w wc.heap.size:=⟨hb.size⟩
 have ibw:BlockIn wc c:=BlockIn.of_cell h2
 have hcw:HasCell wc c 0:=⟨_,h2⟩
 have i1:=m1.blockIn
 have i2:=m2.blockIn
 have i3:=m3.blockIn
 have i4:=m4.blockIn
 have i5:=m5.blockIn
 have i6:=m6.blockIn
 have i7:=m7.blockIn
 have i8:=m8.blockIn
 clear hb
 have bP:B64 (if zbv pP.mu then (⟨pP.pull,NR.e⟩:BRes) else zey pP q NR.s NR.e).b:=zmb pP q NR
 have HZ:=Lib.hid (fun w'=>zcY pP.mu w')
 have HK:=Lib.hid (r3C HL pP x l q v m c e w hc hdl.out HHS.out NR (if zbv pP.mu then (⟨pP.pull,NR.e⟩:BRes) else zey pP q NR.s NR.e))
 generalize hOP:(if zbv pP.mu then (⟨pP.pull,NR.e⟩:BRes) else zey pP q NR.s NR.e)=OP at *
 have HOP:=Lib.hid hOP.symm
 clear hOP
 have sU1:S64 (zdv divR NR.e q (ones NR.s)).s:=zam _ _
 have sU2:S64 (zdO divR NR.e q (ones NR.s)).s:=zam _ _
 have sU3:S64 (zdP divR NR.e q (ones NR.s)).s:=zam _ _
 have sS:S64 (atS pP q NR.s NR.e).s:=zam _ _
 have sT:S64 (atT pP q NR.s NR.e).s:=zam _ _
 have bN:B64 (atN pP q NR.s NR.e).b:=zjB _ _ _ _
 have J1:=Lib.hid (fun w hc hf=>show Calls Tryz.prog 112 #[.pointer (some ⟨c,0,none⟩),.agg #[.int .i64 q.x.lo,.int .i64 q.x.hi],.agg #[.int .i64 NR.s.lo,.int .i64 NR.s.hi]] w (RetC c (.agg #[.int .i64 ((zdv divR NR.e q (ones NR.s)).s).lo,.int .i64 ((zdv divR NR.e q (ones NR.s)).s).hi]) (zdv divR NR.e q (ones NR.s)).e w) from zc7 c NR.e q.x NR.s w hc hf)
 have J2:=Lib.hid (fun w hc hf=>show Calls Tryz.prog 112 #[.pointer (some ⟨c,0,none⟩),.agg #[.int .i64 q.y.lo,.int .i64 q.y.hi],.agg #[.int .i64 NR.s.lo,.int .i64 NR.s.hi]] w (RetC c (.agg #[.int .i64 ((zdO divR NR.e q (ones NR.s)).s).lo,.int .i64 ((zdO divR NR.e q (ones NR.s)).s).hi]) (zdO divR NR.e q (ones NR.s)).e w) from zc7 c (zdv divR NR.e q (ones NR.s)).e q.y NR.s w hc hf)
 have J3:=Lib.hid (fun w hc hf=>show Calls Tryz.prog 112 #[.pointer (some ⟨c,0,none⟩),.agg #[.int .i64 q.z.lo,.int .i64 q.z.hi],.agg #[.int .i64 NR.s.lo,.int .i64 NR.s.hi]] w (RetC c (.agg #[.int .i64 ((zdP divR NR.e q (ones NR.s)).s).lo,.int .i64 ((zdP divR NR.e q (ones NR.s)).s).hi]) (zdP divR NR.e q (ones NR.s)).e w) from zc7 c (zdO divR NR.e q (ones NR.s)).e q.z NR.s w hc hf)
 have J4:=Lib.hid (fun w hc hf=>show Calls Tryz.prog 112 #[.pointer (some ⟨c,0,none⟩),.agg #[.int .i64 pP.mu.lo,.int .i64 pP.mu.hi],.agg #[.int .i64 NR.s.lo,.int .i64 NR.s.hi]] w (RetC c (.agg #[.int .i64 ((atS pP q NR.s NR.e).s).lo,.int .i64 ((atS pP q NR.s NR.e).s).hi]) (atS pP q NR.s NR.e).e w) from zc7 c (zdP divR NR.e q (ones NR.s)).e pP.mu NR.s w hc hf)
 have J5:=Lib.hid (fun w hc hf=>show Calls Tryz.prog 112 #[.pointer (some ⟨c,0,none⟩),.agg #[.int .i64 ((atS pP q NR.s NR.e).s).lo,.int .i64 ((atS pP q NR.s NR.e).s).hi],.agg #[.int .i64 NR.s.lo,.int .i64 NR.s.hi]] w (RetC c (.agg #[.int .i64 ((atT pP q NR.s NR.e).s).lo,.int .i64 ((atT pP q NR.s NR.e).s).hi]) (atT pP q NR.s NR.e).e w) from zc7 c (atS pP q NR.s NR.e).e (atS pP q NR.s NR.e).s NR.s w hc hf)
 have J6:=Lib.hid (fun w hc hf=>show Calls Tryz.prog 113 #[.pointer (some ⟨c,0,none⟩),.agg pP.cells.toArray,.agg #[.int .i64 NR.s.lo,.int .i64 NR.s.hi],.agg #[.int .i64 ((zdP divR NR.e q (ones NR.s)).s).lo,.int .i64 ((zdP divR NR.e q (ones NR.s)).s).hi]] w (RetC c (.agg #[.int .i64 ((atN pP q NR.s NR.e).b).x.lo,.int .i64 ((atN pP q NR.s NR.e).b).x.hi,.int .i64 ((atN pP q NR.s NR.e).b).y.lo,.int .i64 ((atN pP q NR.s NR.e).b).y.hi,.int .i64 ((atN pP q NR.s NR.e).b).z.lo,.int .i64 ((atN pP q NR.s NR.e).b).z.hi]) (atN pP q NR.s NR.e).e w) from zk1 pP NR.s (zdP divR NR.e q (ones NR.s)).s c (atT pP q NR.s NR.e).e w hc hf)
 obtain ⟨X0,hX0⟩:∃ X,X=(doR (atN pP q NR.s NR.e).e (mulR (atT pP q NR.s NR.e).s (zdv divR NR.e q (ones NR.s)).s)):=⟨_,rfl⟩
 obtain ⟨Y0,hY0⟩:∃ Y,Y=doR X0.e (mulR X0.s (atN pP q NR.s NR.e).b.x):=⟨_,rfl⟩
 have hZ0:=zev (atT pP q NR.s NR.e).s (zdv divR NR.e q (ones NR.s)).s (atN pP q NR.s NR.e).b.x pP.pull.x (atN pP q NR.s NR.e).e
 rw[←hX0,←hY0] at hZ0
 have sX0:S64 X0.s:=by rw[hX0];exact zam _ _
 have sY0:S64 Y0.s:=by rw[hY0];exact zam _ _
 have M0a:=Lib.hid (fun w hc hf=>show Calls Tryz.prog 53 #[.pointer (some ⟨c,0,none⟩),.agg #[.int .i64 ((atT pP q NR.s NR.e).s).lo,.int .i64 ((atT pP q NR.s NR.e).s).hi],.agg #[.int .i64 ((zdv divR NR.e q (ones NR.s)).s).lo,.int .i64 ((zdv divR NR.e q (ones NR.s)).s).hi]] w (RetC c (.agg #[.int .i64 X0.s.lo,.int .i64 X0.s.hi]) X0.e w) from by
  rw[hX0]
  exact zaP c (atN pP q NR.s NR.e).e (atT pP q NR.s NR.e).s (zdv divR NR.e q (ones NR.s)).s w hc hf)
 have M0b:=Lib.hid (fun w hc hf=>show Calls Tryz.prog 53 #[.pointer (some ⟨c,0,none⟩),.agg #[.int .i64 X0.s.lo,.int .i64 X0.s.hi],.agg #[.int .i64 ((atN pP q NR.s NR.e).b.x).lo,.int .i64 ((atN pP q NR.s NR.e).b.x).hi]] w (RetC c (.agg #[.int .i64 Y0.s.lo,.int .i64 Y0.s.hi]) Y0.e w) from by
  rw[hY0]
  exact zaP c X0.e X0.s (atN pP q NR.s NR.e).b.x w hc hf)
 obtain ⟨Z0,hW0⟩:∃ Z,Z=(zcA (atT pP q NR.s NR.e).s (zdv divR NR.e q (ones NR.s)).s (atN pP q NR.s NR.e).b.x pP.pull.x (atN pP q NR.s NR.e).e):=⟨_,rfl⟩
 rw[←hW0] at hZ0
 have M0c:=Lib.hid (fun w hc hf=>show Calls Tryz.prog 52 #[.pointer (some ⟨c,0,none⟩),.agg #[.int .i64 pP.pull.x.lo,.int .i64 pP.pull.x.hi],.agg #[.int .i64 Y0.s.lo,.int .i64 Y0.s.hi]] w (RetC c (.agg #[.int .i64 Z0.s.lo,.int .i64 Z0.s.hi]) Z0.e w) from by
  rw[hZ0]
  exact zca c Y0.e pP.pull.x Y0.s w hc hf)
 obtain ⟨X1,hX1⟩:∃ X,X=(doR Z0.e (mulR (atT pP q NR.s NR.e).s (zdO divR NR.e q (ones NR.s)).s)):=⟨_,rfl⟩
 obtain ⟨Y1,hY1⟩:∃ Y,Y=doR X1.e (mulR X1.s (atN pP q NR.s NR.e).b.y):=⟨_,rfl⟩
 have hZ1:=zev (atT pP q NR.s NR.e).s (zdO divR NR.e q (ones NR.s)).s (atN pP q NR.s NR.e).b.y pP.pull.y Z0.e
 rw[←hX1,←hY1] at hZ1
 have sX1:S64 X1.s:=by rw[hX1];exact zam _ _
 have sY1:S64 Y1.s:=by rw[hY1];exact zam _ _
 have M1a:=Lib.hid (fun w hc hf=>show Calls Tryz.prog 53 #[.pointer (some ⟨c,0,none⟩),.agg #[.int .i64 ((atT pP q NR.s NR.e).s).lo,.int .i64 ((atT pP q NR.s NR.e).s).hi],.agg #[.int .i64 ((zdO divR NR.e q (ones NR.s)).s).lo,.int .i64 ((zdO divR NR.e q (ones NR.s)).s).hi]] w (RetC c (.agg #[.int .i64 X1.s.lo,.int .i64 X1.s.hi]) X1.e w) from by
  rw[hX1]
  exact zaP c Z0.e (atT pP q NR.s NR.e).s (zdO divR NR.e q (ones NR.s)).s w hc hf)
 have M1b:=Lib.hid (fun w hc hf=>show Calls Tryz.prog 53 #[.pointer (some ⟨c,0,none⟩),.agg #[.int .i64 X1.s.lo,.int .i64 X1.s.hi],.agg #[.int .i64 ((atN pP q NR.s NR.e).b.y).lo,.int .i64 ((atN pP q NR.s NR.e).b.y).hi]] w (RetC c (.agg #[.int .i64 Y1.s.lo,.int .i64 Y1.s.hi]) Y1.e w) from by
  rw[hY1]
  exact zaP c X1.e X1.s (atN pP q NR.s NR.e).b.y w hc hf)
 obtain ⟨Z1,hW1⟩:∃ Z,Z=(zcA (atT pP q NR.s NR.e).s (zdO divR NR.e q (ones NR.s)).s (atN pP q NR.s NR.e).b.y pP.pull.y Z0.e):=⟨_,rfl⟩
 rw[←hW1] at hZ1
 have M1c:=Lib.hid (fun w hc hf=>show Calls Tryz.prog 52 #[.pointer (some ⟨c,0,none⟩),.agg #[.int .i64 pP.pull.y.lo,.int .i64 pP.pull.y.hi],.agg #[.int .i64 Y1.s.lo,.int .i64 Y1.s.hi]] w (RetC c (.agg #[.int .i64 Z1.s.lo,.int .i64 Z1.s.hi]) Z1.e w) from by
  rw[hZ1]
  exact zca c Y1.e pP.pull.y Y1.s w hc hf)
 obtain ⟨X2,hX2⟩:∃ X,X=(doR Z1.e (mulR (atT pP q NR.s NR.e).s (zdP divR NR.e q (ones NR.s)).s)):=⟨_,rfl⟩
 obtain ⟨Y2,hY2⟩:∃ Y,Y=doR X2.e (mulR X2.s (atN pP q NR.s NR.e).b.z):=⟨_,rfl⟩
 have hZ2:=zev (atT pP q NR.s NR.e).s (zdP divR NR.e q (ones NR.s)).s (atN pP q NR.s NR.e).b.z pP.pull.z Z1.e
 rw[←hX2,←hY2] at hZ2
 have sX2:S64 X2.s:=by rw[hX2];exact zam _ _
 have sY2:S64 Y2.s:=by rw[hY2];exact zam _ _
 have M2a:=Lib.hid (fun w hc hf=>show Calls Tryz.prog 53 #[.pointer (some ⟨c,0,none⟩),.agg #[.int .i64 ((atT pP q NR.s NR.e).s).lo,.int .i64 ((atT pP q NR.s NR.e).s).hi],.agg #[.int .i64 ((zdP divR NR.e q (ones NR.s)).s).lo,.int .i64 ((zdP divR NR.e q (ones NR.s)).s).hi]] w (RetC c (.agg #[.int .i64 X2.s.lo,.int .i64 X2.s.hi]) X2.e w) from by
  rw[hX2]
  exact zaP c Z1.e (atT pP q NR.s NR.e).s (zdP divR NR.e q (ones NR.s)).s w hc hf)
 have M2b:=Lib.hid (fun w hc hf=>show Calls Tryz.prog 53 #[.pointer (some ⟨c,0,none⟩),.agg #[.int .i64 X2.s.lo,.int .i64 X2.s.hi],.agg #[.int .i64 ((atN pP q NR.s NR.e).b.z).lo,.int .i64 ((atN pP q NR.s NR.e).b.z).hi]] w (RetC c (.agg #[.int .i64 Y2.s.lo,.int .i64 Y2.s.hi]) Y2.e w) from by
  rw[hY2]
  exact zaP c X2.e X2.s (atN pP q NR.s NR.e).b.z w hc hf)
 obtain ⟨Z2,hW2⟩:∃ Z,Z=(zcA (atT pP q NR.s NR.e).s (zdP divR NR.e q (ones NR.s)).s (atN pP q NR.s NR.e).b.z pP.pull.z Z1.e):=⟨_,rfl⟩
 rw[←hW2] at hZ2
 have M2c:=Lib.hid (fun w hc hf=>show Calls Tryz.prog 52 #[.pointer (some ⟨c,0,none⟩),.agg #[.int .i64 pP.pull.z.lo,.int .i64 pP.pull.z.hi],.agg #[.int .i64 Y2.s.lo,.int .i64 Y2.s.hi]] w (RetC c (.agg #[.int .i64 Z2.s.lo,.int .i64 Z2.s.hi]) Z2.e w) from by
  rw[hZ2]
  exact zca c Y2.e pP.pull.z Y2.s w hc hf)
 have HP0:=Lib.hid (fun (h:zbv pP.mu=false)=>show OP=⟨⟨Z0.s,Z1.s,Z2.s⟩,Z2.e⟩ by
  have h1:=HOP.out
  rw[h] at h1
  rw[show OP=zey pP q NR.s NR.e from h1,hW2,hW1,hW0]
  rfl)
 have HP1:=Lib.hid (fun (h:zbv pP.mu=true)=>show OP=⟨pP.pull,NR.e⟩ by have h1:=HOP.out;rw[h] at h1;exact h1)
 clear HOP hX0 hX1 hX2 hY0 hY1 hY2 hZ0 hZ1 hZ2 hW0 hW1 hW2 sX0 sX1 sX2 sY0 sY1 sY2 sU1 sU2 sU3 sS sT bN
 generalize atN pP q NR.s NR.e=rN at *
 generalize atT pP q NR.s NR.e=rT at *
 generalize atS pP q NR.s NR.e=rS at *
 generalize zdP divR NR.e q (ones NR.s)=U3 at *
 generalize zdO divR NR.e q (ones NR.s)=U2 at *
 generalize zdv divR NR.e q (ones NR.s)=U1 at *
 generalize zbv pP.mu=zm at *
 conv=>arg 2;dsimp only[tlC,Tryz.f54,Option.getD]
 go_upto_if 46 with (go_at_call 111;(with_reducible refine zaa (HZ.out _) ?_);intro u1)
 go_cut [] (fun wx=>FrG c w pP x q v m (OP.e) (NR.s) (OP.b) wx)
 case first=>
  cases zm
  ·have hN:=HP0.out (by first|rfl|trivial)
   go_wp2
   refine wp_loop_rounds 4 ?_
   rw[rounds_succ]
   go_wp2
   refine zaf c [NR.e,U1.e] 8 [] [6] [] (fun W0=>[]) [.agg #[.int .i64 U1.s.lo,.int .i64 U1.s.hi]] [8] (by rfl) (by go_simp) (by go_simp) (fun _ _ x hx=>absurd hx (List.not_mem_nil)) (by kernel_rfl) (by kernel_rfl) (by kernel_rfl) ?_
   intro pz hd0
   apply Exists.intro
   apply And.intro
   iterate 6 (apply zae hd0 (by kernel_rfl);(· intro uz xc;unfold zai;go_simp;rfl))
   apply zad hd0 0 (by kernel_rfl) (by rfl) (by decide)
   ·intro uz hfz hF;clear hF;unfold zah;go_simp;exact J1.out _ (by go_simp) hfz
   apply zae hd0 (by kernel_rfl)
   ·intro uz xc;unfold zai;go_simp;rfl
   apply zax
   rotate_left
   ·rfl
   intro uz hR hD hfz
   clear hR hD
   refine zag (by rfl) ?_;unfold zap;go_simp
   refine zao ?_
   go_wp2
   rw[rounds_succ]
   go_wp2
   refine zaf c [U1.e,U2.e] 8 [] [6] [] (fun W0=>[]) [.agg #[.int .i64 U2.s.lo,.int .i64 U2.s.hi]] [8] (by rfl) (by go_simp) (by go_simp) (fun _ _ x hx=>absurd hx (List.not_mem_nil)) (by kernel_rfl) (by kernel_rfl) (by kernel_rfl) ?_
   intro pz hd0
   apply Exists.intro
   apply And.intro
   iterate 6 (apply zae hd0 (by kernel_rfl);(· intro uz xc;unfold zai;go_simp;rfl))
   apply zad hd0 0 (by kernel_rfl) (by rfl) (by decide)
   ·intro uz hfz hF;clear hF;unfold zah;go_simp;exact J2.out _ (by go_simp) hfz
   apply zae hd0 (by kernel_rfl)
   ·intro uz xc;unfold zai;go_simp;rfl
   apply zax
   rotate_left
   ·rfl
   intro uz hR hD hfz
   clear hR hD
   refine zag (by rfl) ?_;unfold zap;go_simp
   refine zao ?_
   go_wp2
   rw[rounds_succ]
   go_wp2
   refine zaf c [U2.e,U3.e] 8 [] [6] [] (fun W0=>[]) [.agg #[.int .i64 U3.s.lo,.int .i64 U3.s.hi]] [8] (by rfl) (by go_simp) (by go_simp) (fun _ _ x hx=>absurd hx (List.not_mem_nil)) (by kernel_rfl) (by kernel_rfl) (by kernel_rfl) ?_
   intro pz hd0
   apply Exists.intro
   apply And.intro
   iterate 6 (apply zae hd0 (by kernel_rfl);(· intro uz xc;unfold zai;go_simp;rfl))
   apply zad hd0 0 (by kernel_rfl) (by rfl) (by decide)
   ·intro uz hfz hF;clear hF;unfold zah;go_simp;exact J3.out _ (by go_simp) hfz
   apply zae hd0 (by kernel_rfl)
   ·intro uz xc;unfold zai;go_simp;rfl
   apply zax
   rotate_left
   ·rfl
   intro uz hR hD hfz
   clear hR hD
   refine zag (by rfl) ?_;unfold zap;go_simp
   refine zao ?_
   go_wp2
   rw[rounds_succ]
   go_wp2
   refine zaf c [U3.e,rS.e,rT.e] 9 [8] [5,7] [] (fun W0=>[(8,BoxR W0 [.int .i64 0,.int .i64 0])]) [.agg #[.int .i64 rS.s.lo,.int .i64 rS.s.hi],.agg #[.int .i64 rT.s.lo,.int .i64 rT.s.hi]] [9] (by rfl) (by go_simp) (by go_simp) (by intro W0 hW0 x hx;simp only[List.mem_cons,List.not_mem_nil,or_false] at hx;rcases hx with rfl<;>first|exact zbc _ _ hW0 _) (by kernel_rfl) (by kernel_rfl) (by kernel_rfl) ?_
   intro pz hd0
   apply Exists.intro
   apply And.intro
   iterate 5 (apply zae hd0 (by kernel_rfl);(· intro uz xc;unfold zai;go_simp;rfl))
   apply zad hd0 0 (by kernel_rfl) (by rfl) (by decide)
   ·intro uz hfz hF;clear hF;unfold zah;go_simp;exact J4.out _ (by go_simp) hfz
   apply zae hd0 (by kernel_rfl)
   ·intro uz xc;unfold zai;go_simp;rfl
   apply zad hd0 1 (by kernel_rfl) (by rfl) (by decide)
   ·intro uz hfz hF;clear hF;unfold zah;go_simp;exact J5.out _ (by go_simp) hfz
   apply zbd hd0 (by kernel_rfl)
   ·intro uz xc hF;clear hF;unfold za5;go_simp;refine (show Made (BoxR _ [.int .i64 0,.int .i64 0]) _ _ _ from ?_);exact zbe _ _ _ _
   apply zax
   rotate_left
   ·rfl
   intro uz hR hD hfz
   obtain ⟨q8,e8,hB8,kB8,nB8⟩:=(show BoxR _ [.int .i64 0,.int .i64 0] (pz 8) _ from hR 8 (by decide))
   clear hR hD
   rw[e8]
   clear e8
   have oB8:=zaG nB8
   have oC8:=zaH nB8
   have hB8:=zbq hB8 hd0 nB8
   have kB8:=za0 kB8
   have hB8_0:=(hB8 0 _ rfl).1
   have hB8f0:=(hB8 0 _ rfl).2
   have hB8i0:HasCell (uz.world) (q8) 0:=⟨_,hB8_0⟩
   have hB8_1:=(hB8 1 _ rfl).1
   have hB8f1:=(hB8 1 _ rfl).2
   have hB8i1:HasCell (uz.world) (q8) 1:=⟨_,hB8_1⟩
   have hB8b:BlockIn (uz.world) (q8):=BlockIn.of_cell hB8_0
   clear hB8
   refine zag (by rfl) ?_;unfold zap;go_simp
   refine zao ?_
   have nw8:NewFor w q8:=zgM Hb.out nB8
   go_wp2_with (first|(go_at_call 113;(with_reducible refine zar (J6.out _ ?_ ?_) ?_);(· go_simp);(· go_simp);intro u6)|(with_reducible refine wLi ?_))
   refine wp_loop_rounds 4 ?_
   rw[rounds_succ]
   go_wp2
   refine zaf c [rN.e,X0.e,Y0.e,Z0.e] 18 [] [11,15,16] [] (fun W0=>[]) [.agg #[.int .i64 X0.s.lo,.int .i64 X0.s.hi],.agg #[.int .i64 Y0.s.lo,.int .i64 Y0.s.hi],.agg #[.int .i64 Z0.s.lo,.int .i64 Z0.s.hi]] [18] (by rfl) (by go_simp) (by go_simp) (fun _ _ x hx=>absurd hx (List.not_mem_nil)) (by kernel_rfl) (by kernel_rfl) (by kernel_rfl) ?_
   intro pz hd0
   apply Exists.intro
   apply And.intro
   iterate 11 (apply zae hd0 (by kernel_rfl);(· intro uz xc;unfold zai;go_simp;rfl))
   apply zad hd0 0 (by kernel_rfl) (by rfl) (by decide)
   ·intro uz hfz hF;clear hF;unfold zah;go_simp;exact M0a.out _ (by go_simp) hfz
   iterate 3 (apply zae hd0 (by kernel_rfl);(· intro uz xc;unfold zai;go_simp;rfl))
   apply zad hd0 1 (by kernel_rfl) (by rfl) (by decide)
   ·intro uz hfz hF;clear hF;unfold zah;go_simp;exact M0b.out _ (by go_simp) hfz
   apply zad hd0 2 (by kernel_rfl) (by rfl) (by decide)
   ·intro uz hfz hF;clear hF;unfold zah;go_simp;exact M0c.out _ (by go_simp) hfz
   apply zae hd0 (by kernel_rfl)
   ·intro uz xc;unfold zai;go_simp;rfl
   apply zax
   rotate_left
   ·rfl
   intro uz hR hD hfz
   clear hR hD
   refine zag (by rfl) ?_;unfold zap;go_simp
   refine zao ?_
   go_wp2
   rw[rounds_succ]
   go_wp2
   refine zaf c [Z0.e,X1.e,Y1.e,Z1.e] 18 [] [11,15,16] [] (fun W0=>[]) [.agg #[.int .i64 X1.s.lo,.int .i64 X1.s.hi],.agg #[.int .i64 Y1.s.lo,.int .i64 Y1.s.hi],.agg #[.int .i64 Z1.s.lo,.int .i64 Z1.s.hi]] [18] (by rfl) (by go_simp) (by go_simp) (fun _ _ x hx=>absurd hx (List.not_mem_nil)) (by kernel_rfl) (by kernel_rfl) (by kernel_rfl) ?_
   intro pz hd0
   apply Exists.intro
   apply And.intro
   iterate 11 (apply zae hd0 (by kernel_rfl);(· intro uz xc;unfold zai;go_simp;rfl))
   apply zad hd0 0 (by kernel_rfl) (by rfl) (by decide)
   ·intro uz hfz hF;clear hF;unfold zah;go_simp;exact M1a.out _ (by go_simp) hfz
   iterate 3 (apply zae hd0 (by kernel_rfl);(· intro uz xc;unfold zai;go_simp;rfl))
   apply zad hd0 1 (by kernel_rfl) (by rfl) (by decide)
   ·intro uz hfz hF;clear hF;unfold zah;go_simp;exact M1b.out _ (by go_simp) hfz
   apply zad hd0 2 (by kernel_rfl) (by rfl) (by decide)
   ·intro uz hfz hF;clear hF;unfold zah;go_simp;exact M1c.out _ (by go_simp) hfz
   apply zae hd0 (by kernel_rfl)
   ·intro uz xc;unfold zai;go_simp;rfl
   apply zax
   rotate_left
   ·rfl
   intro uz hR hD hfz
   clear hR hD
   refine zag (by rfl) ?_;unfold zap;go_simp
   refine zao ?_
   go_wp2
   rw[rounds_succ]
   go_wp2
   refine zaf c [Z1.e,X2.e,Y2.e,Z2.e] 18 [] [11,15,16] [] (fun W0=>[]) [.agg #[.int .i64 X2.s.lo,.int .i64 X2.s.hi],.agg #[.int .i64 Y2.s.lo,.int .i64 Y2.s.hi],.agg #[.int .i64 Z2.s.lo,.int .i64 Z2.s.hi]] [18] (by rfl) (by go_simp) (by go_simp) (fun _ _ x hx=>absurd hx (List.not_mem_nil)) (by kernel_rfl) (by kernel_rfl) (by kernel_rfl) ?_
   intro pz hd0
   apply Exists.intro
   apply And.intro
   iterate 11 (apply zae hd0 (by kernel_rfl);(· intro uz xc;unfold zai;go_simp;rfl))
   apply zad hd0 0 (by kernel_rfl) (by rfl) (by decide)
   ·intro uz hfz hF;clear hF;unfold zah;go_simp;exact M2a.out _ (by go_simp) hfz
   iterate 3 (apply zae hd0 (by kernel_rfl);(· intro uz xc;unfold zai;go_simp;rfl))
   apply zad hd0 1 (by kernel_rfl) (by rfl) (by decide)
   ·intro uz hfz hF;clear hF;unfold zah;go_simp;exact M2b.out _ (by go_simp) hfz
   apply zad hd0 2 (by kernel_rfl) (by rfl) (by decide)
   ·intro uz hfz hF;clear hF;unfold zah;go_simp;exact M2c.out _ (by go_simp) hfz
   apply zae hd0 (by kernel_rfl)
   ·intro uz xc;unfold zai;go_simp;rfl
   apply zax
   rotate_left
   ·rfl
   intro uz hR hD hfz
   clear hR hD
   refine zag (by rfl) ?_;unfold zap;go_simp
   refine zao ?_
   go_wp2
   rw[rounds_succ]
   go_wp2
   go_meet
   case rel=>exact ⟨btw,by rw[hN];go_simp,by go_simp,inferInstance,inferInstance,inferInstance,inferInstance,inferInstance,inferInstance,zau inferInstance (by rw[hN];rfl),inferInstance⟩
  ·have hN:=HP1.out (by first|rfl|trivial)
   go_wp2
   go_meet
   case rel=>exact ⟨btw,by rw[hN];go_simp,by go_simp,inferInstance,inferInstance,inferInstance,inferInstance,inferInstance,inferInstance,zau inferInstance (by rw[hN]),inferInstance⟩
 case rest=>
 go_step
 exact HK.out _ _ _ _ _ _ _ _ _ _ _ _ _ _ _ _ _ _ _ _ _ _ _ _ _ _ _ _ _ _ _ _ _ _ _ _ _ _ _ _ _ _ _ _ _ _ _ _ _ _ _ _ _ _ _ _ _ _ _ _ _ _ _ _ _ _ _ _ _ _ _ _ _ _ _ _ _ _ _ _ _ _ _ _ _ _ _ _ _ _ _ _ _ _ _ _ _ _ _ _ _ _ _ _ _ _ _ _ _ _ _ _ _ _ _ _ _ _ _ _ _ _ _ _ _ _ _ _ _ _ _ _ _ _ _ _ _ _ _ _ _ _ _ _ _ _ _ _ _ _ _ _ _ _ _ _ _ _ _ _ _ _ _ _ _ _ _ _ _ _ _ _ _ _ _ _ _ _ _ _ _ _ _ _ _ _ _ _ _ _ _ _ _ _ _ wc hcut
end Go.Proofs.YtdkfkalplmgoeaaGreat
namespace Go.Proofs.YtdkfkalplmgoeaaGreat
open Go.RowKit Go.Shelf
set_option maxRecDepth 100000
set_option maxHeartbeats 32000000
theorem zk0 (HL:zej 168) (pP:Planet) (x:Arc) (l:List Pt) (q v:Bx) (m:Sp) [hp:Pl64 pP] [hq:B64 q] [hv:B64 v] [hm:S64 m] [hxt:S64 x.thrust] [hxd:B64 x.dir] (c:Nat) (e:Int) (w:World) (hc:w.cell? ⟨c,0,none⟩=some (.int .i64 e)) (hf:w.frozen? ⟨c,0,none⟩=false)
 (hdn:x.drag.n=l.length) (HS:∀ wx,But c w wx→SlAt wx (.slice x.drag.ao l.length x.drag.cap) l.length (l.flatMap Pt.cells)) :
 Calls Tryz.prog 54 #[.pointer (some ⟨c,0,none⟩),.agg pP.cells.toArray,.agg x.cells.toArray,.agg #[.int .i64 q.x.lo,.int .i64 q.x.hi,.int .i64 q.y.lo,.int .i64 q.y.hi,.int .i64 q.z.lo,.int .i64 q.z.hi],.agg #[.int .i64 v.x.lo,.int .i64 v.x.hi,.int .i64 v.y.lo,.int .i64 v.y.hi,.int .i64 v.z.lo,.int .i64 v.z.hi],.agg #[.int .i64 m.lo,.int .i64 m.hi]] w (RetC c (.agg #[.int .i64 ((zat pP x l q v m e).b).x.lo,.int .i64 ((zat pP x l q v m e).b).x.hi,.int .i64 ((zat pP x l q v m e).b).y.lo,.int .i64 ((zat pP x l q v m e).b).y.hi,.int .i64 ((zat pP x l q v m e).b).z.lo,.int .i64 ((zat pP x l q v m e).b).z.hi]) (zat pP x l q v m e).e w):=by
 have ib:BlockIn w c:=BlockIn.of_cell hc
 have hci:HasCell w c 0:=⟨_,hc⟩
 have Hb:=Lib.hid (But.refl hc)
 have Hc:=Lib.hid hc
 have hlt:=ib.lt
 have hlen:=(HS w (But.refl hc)).len_le
 unfold maxLen at hlen
 have sN:S64 (frN pP l q e).s:=by
  unfold frN
  split
  ·exact zam _ _
  ·exact ⟨by unfold I64 z0;simp,by unfold I64 z0;simp⟩
 have HZ:=Lib.hid (fun w'=>zcY pP.mu w')
 have HNT:=Lib.hid (fun (h:(!zbv pP.mu||!l.isEmpty)=true) (w:World) hc hf=>show Calls Tryz.prog 91 #[.pointer (some ⟨c,0,none⟩),.agg #[.int .i64 q.x.lo,.int .i64 q.x.hi,.int .i64 q.y.lo,.int .i64 q.y.hi,.int .i64 q.z.lo,.int .i64 q.z.hi]] w (RetC c (.agg #[.int .i64 ((frN pP l q e).s).lo,.int .i64 ((frN pP l q e).s).hi]) (frN pP l q e).e w) from by
  rw[show frN pP l q e=doR e (zbA q.list) by unfold frN;rw[if_pos h]]
  exact ziD c e q w hc hf)
 have HNF:=Lib.hid (fun (h:(!zbv pP.mu||!l.isEmpty)=false)=>show frN pP l q e=⟨z0,e⟩ by unfold frN;rw[h];rfl)
 have HLE:=Lib.hid (show l.isEmpty=decide (l.length=0) by cases l<;>simp)
 have HHS:=Lib.hid HS
 have HK:=Lib.hid (r3B HL pP x l q v m c e w hc hdn HS (frN pP l q e))
 have HFG:=Lib.hid (show zat pP x l q v m e=zbQ pP l v m (frN pP l q e).s (zaW x m (zce pP.spin q v (if zbv pP.mu then ⟨pP.pull,(frN pP l q e).e⟩ else zey pP q (frN pP l q e).s (frN pP l q e).e))) from rfl)
 rw[HFG.out]
 clear HFG HS
 have hdl:=Lib.hid hdn
 clear hdn
 generalize hOD:zbQ pP l v m (frN pP l q e).s (zaW x m (zce pP.spin q v (if zbv pP.mu then ⟨pP.pull,(frN pP l q e).e⟩ else zey pP q (frN pP l q e).s (frN pP l q e).e)))=OD at *
 clear hOD
 generalize hNR:frN pP l q e=NR at *
 clear hNR
 generalize zbv pP.mu=zm at *
 have:Apart c w.heap.size:=⟨by omega⟩
 have:Apart (w.heap.size) (c):=⟨by omega⟩
 have:Apart (w.heap.size+1) (c):=⟨by omega⟩
 have:Apart (w.heap.size+1+1) (c):=⟨by omega⟩
 have:Apart (w.heap.size+1+1+1) (c):=⟨by omega⟩
 have:Apart (w.heap.size+1+1+1+1) (c):=⟨by omega⟩
 have:Apart (w.heap.size+1+1+1+1+1) (c):=⟨by omega⟩
 have:Apart (w.heap.size+1+1+1+1+1+1) (c):=⟨by omega⟩
 have:Apart (w.heap.size+1+1+1+1+1+1+1) (c):=⟨by omega⟩
 have:Apart (c) (w.heap.size+1+1+1+1+1+1):=⟨by omega⟩
 have:Apart (c) (w.heap.size+1+1+1+1+1+1+1):=⟨by omega⟩
 go_enter Tryz.func54,Tryz.ntmps54
 go_upto_region 3 with fail
 go_cut [39] (fun s39 wx=>s39=.bool (!zm||!l.isEmpty)∧FrG c w pP x q v m (e) (z0) (pP.pull) wx)
 case first=>
  cases zm
  ·go_wp2_with (go_at_call 111;(with_reducible refine zaa (HZ.out _) ?_);intro u1)
   go_meet
   case rel=>exact ⟨rfl,btw,by go_simp,by go_simp,inferInstance,inferInstance,inferInstance,inferInstance,inferInstance,inferInstance,inferInstance,inferInstance⟩
  ·go_wp2_with (go_at_call 111;(with_reducible refine zaa (HZ.out _) ?_);intro u1)
   go_meet
   case rel=>exact ⟨by rw[hdl.out];cases l<;>simp,btw,by go_simp,by go_simp,inferInstance,inferInstance,inferInstance,inferInstance,inferInstance,inferInstance,inferInstance,inferInstance⟩
 case rest=>
 obtain ⟨rfl,hF⟩:=hcut
 clear Hb
 obtain ⟨hb,h2,h3,m1,m2,m3,m4,m5,m6,m7,m8⟩:=hF
 have Hb:=Lib.hid hb
 have nwc:NewFor w wc.heap.size:=⟨hb.size⟩
 have ibw:BlockIn wc c:=BlockIn.of_cell h2
 have hcw:HasCell wc c 0:=⟨_,h2⟩
 have i1:=m1.blockIn
 have i2:=m2.blockIn
 have i3:=m3.blockIn
 have i4:=m4.blockIn
 have i5:=m5.blockIn
 have i6:=m6.blockIn
 have i7:=m7.blockIn
 have i8:=m8.blockIn
 clear hb
 go_upto_if 39 with fail
 go_cut [] (fun wx=>FrG c w pP x q v m (NR.e) (NR.s) (pP.pull) wx)
 case first=>
  cases hb:(!zm||!l.isEmpty)
  ·have hN:=HNF.out hb
   have hNe:NR.e=e:=by rw[hN]
   go_wp2
   go_meet
   case rel=>exact ⟨btw,by rw[hNe];go_simp,by go_simp,inferInstance,inferInstance,inferInstance,inferInstance,inferInstance,inferInstance,inferInstance,zau m8 (by rw[hN])⟩
  ·go_wp2_with (go_at_call 91;(with_reducible refine zar (HNT.out hb _ ?_ ?_) ?_);(· go_simp);(· go_simp);intro u1)
   go_meet
   case rel=>exact ⟨btw,by go_simp,by go_simp,inferInstance,inferInstance,inferInstance,inferInstance,inferInstance,inferInstance,inferInstance,zau inferInstance rfl⟩
 case rest=>
 go_step
 exact HK.out _ _ _ _ _ _ _ _ _ _ _ _ _ _ _ _ _ _ _ _ _ _ _ _ _ _ _ _ _ _ _ _ _ _ _ _ _ _ _ _ _ _ _ _ _ _ _ _ _ _ _ _ _ _ _ _ _ _ _ _ _ _ _ _ _ _ _ _ _ _ _ _ _ _ _ _ _ _ _ _ _ _ _ _ _ _ _ _ _ _ _ _ _ _ _ _ _ _ _ _ _ _ _ _ _ _ _ _ _ _ _ _ _ _ _ _ _ _ _ _ _ _ _ _ _ _ _ _ _ _ _ _ _ _ _ _ _ _ _ _ _ _ _ _ _ _ _ _ _ _ _ _ _ _ _ _ _ _ _ _ _ _ _ _ _ _ _ _ _ _ _ _ _ _ _ _ _ _ _ _ _ _ _ _ _ _ _ _ _ _ _ _ _ _ _ wc hcut
end Go.Proofs.YtdkfkalplmgoeaaGreat
