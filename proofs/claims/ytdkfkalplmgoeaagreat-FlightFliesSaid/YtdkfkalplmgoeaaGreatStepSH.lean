/-
  Joined: StepS.
-/
import Derived.Test.YtdkfkalplmgoeaaGreatStepRsH
import Derived.Test.YtdkfkalplmgoeaaGreatArcWordsH
import Derived.Test.YtdkfkalplmgoeaaGreatRefInH
import Derived.Deep.CutBlock
namespace Go.Proofs.YtdkfkalplmgoeaaGreat
open Go.RowKit Go.Shelf
set_option maxRecDepth 100000
set_option maxHeartbeats 16000000
set_option linter.unusedSimpArgs false
structure TryR (w:World) (c bP bA bS bN bT qE qD qM qP qV:Nat) (pP:Planet) (x:Arc) (s:State) (E d m:Sp) (q v:Bx) (e:Int) (wr:World):Prop where
 g:Grew w wr
 cell:wr.cell? ⟨c,0,none⟩=some (.int .i64 e)
 mark:wr.frozen? ⟨c,0,none⟩=false
 rP:RowIs wr bP 43 pP.cells
 rA:RowIs wr bA 48 x.cells
 rS:RowIs wr bS 28 [.int .i64 s.t,.int .i64 s.p.x.lo,.int .i64 s.p.x.hi,.int .i64 s.p.y.lo,.int .i64 s.p.y.hi,.int .i64 s.p.z.lo,.int .i64 s.p.z.hi,.int .i64 s.v.x.lo,.int .i64 s.v.x.hi,.int .i64 s.v.y.lo,.int .i64 s.v.y.hi,.int .i64 s.v.z.lo,.int .i64 s.v.z.hi,.int .i64 s.m.lo,.int .i64 s.m.hi]
 rN:RowIs wr bN 28 zaL.cells
 rT:RowIs wr bT 81 zbB.cells
 rE:RowIs wr qE 24 [.int .i64 E.lo,.int .i64 E.hi]
 rD:RowIs wr qD 24 [.int .i64 d.lo,.int .i64 d.hi]
 rQ:RowIs wr qP 26 [.int .i64 q.x.lo,.int .i64 q.x.hi,.int .i64 q.y.lo,.int .i64 q.y.hi,.int .i64 q.z.lo,.int .i64 q.z.hi]
 rV:RowIs wr qV 26 [.int .i64 v.x.lo,.int .i64 v.x.hi,.int .i64 v.y.lo,.int .i64 v.y.hi,.int .i64 v.z.lo,.int .i64 v.z.hi]
 rm:RoAt wr qM [.int .i64 m.lo,.int .i64 m.hi]
def raE (P V:Bx) (d:Sp) (v f:Bx) (e:Int):Nat→Int
 |0=>e
 |i+1=>(zbs d (axAt f i) (axAt V i) (zbs d (axAt v i) (axAt P i) (raE P V d v f e i)).e).e
def raP (P V:Bx) (d:Sp) (v f:Bx) (e:Int) (k i:Nat):Sp:=if i<k then (zbs d (axAt v i) (axAt P i) (raE P V d v f e i)).s else z0
def raV (P V:Bx) (d:Sp) (v f:Bx) (e:Int) (k i:Nat):Sp:=if i<k then (zbs d (axAt f i) (axAt V i) (zbs d (axAt v i) (axAt P i) (raE P V d v f e i)).e).s else z0
theorem zul (P V:Bx) (d:Sp) (v f:Bx) (e:Int):boxL (raP P V d v f e 3)=[.int .i64 ((zaT P V d v f e).p).x.lo,.int .i64 ((zaT P V d v f e).p).x.hi,.int .i64 ((zaT P V d v f e).p).y.lo,.int .i64 ((zaT P V d v f e).p).y.hi,.int .i64 ((zaT P V d v f e).p).z.lo,.int .i64 ((zaT P V d v f e).p).z.hi]∧boxL (raV P V d v f e 3)=[.int .i64 ((zaT P V d v f e).v).x.lo,.int .i64 ((zaT P V d v f e).v).x.hi,.int .i64 ((zaT P V d v f e).v).y.lo,.int .i64 ((zaT P V d v f e).v).y.hi,.int .i64 ((zaT P V d v f e).v).z.lo,.int .i64 ((zaT P V d v f e).v).z.hi]∧raE P V d v f e 3=(zaT P V d v f e).e:=⟨rfl,rfl,rfl⟩
theorem zoS (g:Nat→Sp) (k:Nat) (hk:k<3):boxL (fun i=>if i<k+1 then g i else z0)=((boxL (fun i=>if i<k then g i else z0)).set (k*2) (.int .i64 (g k).lo)).set (k*2+1) (.int .i64 (g k).hi):=by
 rcases (show k=0∨k=1∨k=2 by omega) with rfl|rfl|rfl<;>(unfold boxL;simp)
theorem znt {w:World} {q:Nat} {f:Nat→Sp} (h:RowIs w q 26 (boxL f)) (k:Nat) (hk:k<3):HasCell w q (k*2)∧HasCell w q (k*2+1):=by
 rcases (show k=0∨k=1∨k=2 by omega) with rfl|rfl|rfl<;>exact ⟨⟨_,ze7 h _ _ rfl⟩,⟨_,ze7 h _ _ rfl⟩⟩
theorem zlw (a b:Bx):ziU (insB a b) 3=zi1 a b:=by
 unfold zi1
 show ((((true&&_)&&_)&&_):Bool)=_
 rw[Bool.true_and]
 rfl
theorem zns {c:Nat} {a b:World} {y:Value} (h:But c a b) (h0:a.cell? ⟨c,0,none⟩=some y):∃ (u:Later a) (x:Value),b=u.world.setCell ⟨c,0,none⟩ x:=by
 obtain ⟨v,hv⟩:=h.kept
 have hx:b.cell? ⟨c,0,none⟩=some v:=by
  rw[World.cell?_of_block (w:=a.setCell ⟨c,0,none⟩ v) hv]
  exact World.cell?_setCell_same _ _ _ h0
 obtain ⟨u,hu⟩:=h.out h0 hx
 exact ⟨u,v,hu⟩
theorem zfF (b m:Sp) (e:Int) [hb:S64 b]:S64 (gwR b m e).s:=by
 unfold gwR
 split
 ·exact hb
 ·split
  ·exact zam _ _ (h:=by unfold zfg;split;infer_instance;infer_instance)
  ·exact hb
theorem zpv (q v mq mv:Bx) (e:Int) [hq:B64 q] [hv:B64 v]:B64 (widC gwR q v mq mv e).p∧B64 (widC gwR q v mq mv e).v:=
 ⟨⟨zfF _ _ _,zfF _ _ _,zfF _ _ _⟩,⟨zfF _ _ _,zfF _ _ _,zfF _ _ _⟩⟩
theorem zdJ (s u o:Sp) (e:Int):S64 (zbs s u o e).s:=by
 rw[zeu]
 exact zam _ _
theorem zmc (P V:Bx) (d:Sp) (v f:Bx) (e:Int):B64 (zaT P V d v f e).p∧B64 (zaT P V d v f e).v:=⟨⟨zdJ _ _ _ _,zdJ _ _ _ _,zdJ _ _ _ _⟩,⟨zdJ _ _ _ _,zdJ _ _ _ _,zdJ _ _ _ _⟩⟩
theorem zma (pP:Planet) (x:Arc) (l:List Pt) (q v:Bx) (m:Sp) (e:Int) [hp:Pl64 pP]:B64 (zat pP x l q v m e).b:=by
 have bP:B64 (frPG pP l q e).b:=zpu pP l q e
 have bS:B64 (frSG pP l q v e).b:=zhj _ _ _ _
 have bT:B64 (frTG pP x l q v m e).b:=zhx _ _ _
 unfold zat zbQ
 split
 ·exact bT
 ·exact ⟨zam _ _ (h:=zcP _ _ (fun _=>inferInstance)),zam _ _ (h:=zcP _ _ (fun _=>inferInstance)),zam _ _ (h:=zcP _ _ (fun _=>inferInstance))⟩
structure ReaR (w:World) (c bP bA bS bN bT qE qD qM qP qV qF qC qW:Nat) (pP:Planet) (x:Arc) (s:State) (E d m:Sp) (q v f:Bx) (e:Int) (i:Nat) (wr:World):Prop where
 on:TryR w c bP bA bS bN bT qE qD qM qP qV pP x s E d m q v (raE s.p s.v d v f e i) wr
 rF:RowIs wr qF 26 [.int .i64 f.x.lo,.int .i64 f.x.hi,.int .i64 f.y.lo,.int .i64 f.y.hi,.int .i64 f.z.lo,.int .i64 f.z.hi]
 rC:RowIs wr qC 26 (boxL (raP s.p s.v d v f e i))
 rW:RowIs wr qW 26 (boxL (raV s.p s.v d v f e i))
structure TryG (ff:Bx→Bx→Int→BRes) (rr:Bx→Bx→Int→CRes) (n:Nat) (q v:Bx) (T:TRes) (R:CRes):Prop where
 bad:R.e≠0→T=⟨false,q,v,R.e⟩
 found:R.e=0→zhg q v R.p R.v=true→T=⟨true,R.p,R.v,0⟩
 next:R.e=0→zhg q v R.p R.v=false→T=zcL ff rr gwR n (widC gwR q v R.p R.v 0).p (widC gwR q v R.p R.v 0).v (widC gwR q v R.p R.v 0).e
theorem zsH {ff:Bx→Bx→Int→BRes} {rr:Bx→Bx→Int→CRes} {n:Nat} {q v:Bx} {e:Int}:TryG ff rr n q v (zcL ff rr gwR (n+1) q v e) (rr v (ff q v e).b (ff q v e).e):=by
 unfold zcL
 generalize rr v (ff q v e).b (ff q v e).e=R
 refine ⟨fun k=>if_pos k,fun k s=>?_,fun k s=>?_⟩
 ·rw[if_neg (by omega),if_pos s]
 ·rw[if_neg (by omega),if_neg (by rw[s];decide)]
theorem zuk (pP:Planet) (x:Arc) (l:List Pt) (s:State) (h t:Int) (E d m:Sp) (q0 v0:Bx) (e0:Int) [hp:Pl64 pP] [hs:St64 s] [hh:S64 (⟨h,h⟩:Sp)] [hxf:S64 x.flow] [hdS:S64 d] [hq0:B64 q0] [hv0:B64 v0] (c bP bA bS bN bT qE qD qM qP qV:Nat) (w wc:World) (R:StRes) (hE:E.lo=t)
 (HF0:∀ (q v:Bx),B64 q→B64 v→∀ w',Grew w w'→(w'.cell? ⟨c,0,none⟩=some (.int .i64 0))→w'.frozen? ⟨c,0,none⟩=false→Calls Tryz.prog 54 #[.pointer (some ⟨c,0,none⟩),.agg pP.cells.toArray,.agg x.cells.toArray,.agg #[.int .i64 q.x.lo,.int .i64 q.x.hi,.int .i64 q.y.lo,.int .i64 q.y.hi,.int .i64 q.z.lo,.int .i64 q.z.hi],.agg #[.int .i64 v.x.lo,.int .i64 v.x.hi,.int .i64 v.y.lo,.int .i64 v.y.hi,.int .i64 v.z.lo,.int .i64 v.z.hi],.agg #[.int .i64 m.lo,.int .i64 m.hi]] w' (RetC c (.agg #[.int .i64 ((zat pP x l q v m 0).b).x.lo,.int .i64 ((zat pP x l q v m 0).b).x.hi,.int .i64 ((zat pP x l q v m 0).b).y.lo,.int .i64 ((zat pP x l q v m 0).b).y.hi,.int .i64 ((zat pP x l q v m 0).b).z.lo,.int .i64 ((zat pP x l q v m 0).b).z.hi]) (zat pP x l q v m 0).e w'))
 (hR:R=zcV (fun q v e=>zat pP x l q v m e) x s h t m (zcL (fun q v e=>zat pP x l q v m e) (fun v f e=>zaT s.p s.v d v f e) gwR 8 q0 v0 e0))
 (hT0:TryR w c bP bA bS bN bT qE qD qM qP qV pP x s E d m q0 v0 e0 wc) (n1:NewFor w bN) (n2:NewFor w bT) (n3:NewFor w c) (n4:NewFor w qP) (n5:NewFor w qV) (hd:bP<bN∧bA<bN∧bS<bN∧bN<bT∧bT<qE∧qE<c∧c<qD∧c<qM∧qD<qP∧qM<qP∧qP<qV) (u7 u11 u13 u19 u20 u21 u22 u23 u24 u25 u26 u27 u28 u29 u30 u31 u32 u33 u34 u35 u36 u37 u38 u39 u40 u41 u42 u43 u44 u45 u46 u47 u48 u49 u50 u51 u52 u53 u54 u55 u56 u57 u58 u59 u60 u61 u62 u63 u64 u65 u66 u67 u68 u69 u70 u71 u72 u73 u74 u75 u76 u77 u78 u79 u80 u81 u82 u83 u84 u85 u86 u87 u88 u89 u90 u91 u92 u93 u94 u95 u96 u97 u98 u99 u100 u101 u102 u103 u104 u105 u106 u107 u108 u109 u110 u111 u112 u113 u114 u115 u116 u117 u118 u119 u120 u121 u122 u123 u124 u125 u126 u127 u128 u129 u130 u131 u132 u133 u134 u135 u136 u137 u138 u139 u140 u141 u142 u143 u144 u145 u146 u147 u148 u149 u150 u151 u152 u153 u154 u155 u156 u157 u158 u159 u160 u161 u162 u163 u164 u165 u166 u167 u168 u169 u170 u171 u172 u173 u174 u175 u176 u177 u178 u179 u180 u181 u182 u183 u184 u185 u186 u187 u188 u189 u190 u191 u192 u193 u194 u195 u196 u197 u198 u199 u200 u201 u202 u203 u204 u205 u206 u207 u208 u209 u210 u211 u212:Value) :
 (tlC (tlC (tlC (tlC (tlC (tlC (tlC (tlC (tlC (tlC (tlC (Tryz.f30.body.getD .skip)))))))))))).wp Tryz.prog (bodyPost Tryz.prog Tryz.f30 (zhv R w)) { tmps:=#[.agg pP.cells.toArray,.agg x.cells.toArray,.agg #[.int .i64 s.t,.int .i64 s.p.x.lo,.int .i64 s.p.x.hi,.int .i64 s.p.y.lo,.int .i64 s.p.y.hi,.int .i64 s.p.z.lo,.int .i64 s.p.z.hi,.int .i64 s.v.x.lo,.int .i64 s.v.x.hi,.int .i64 s.v.y.lo,.int .i64 s.v.y.hi,.int .i64 s.v.z.lo,.int .i64 s.v.z.hi,.int .i64 s.m.lo,.int .i64 s.m.hi],.int .i64 h,.pointer (some ⟨bP,0,none⟩),.pointer (some ⟨bA,0,none⟩),.pointer (some ⟨bS,0,none⟩),u7,.pointer (some ⟨bN,0,none⟩),.pointer (some ⟨bT,0,none⟩),.int .i64 0,u11,.pointer (some ⟨qE,0,none⟩),u13,.pointer (some ⟨c,0,none⟩),.pointer (some ⟨qD,0,none⟩),.pointer (some ⟨qM,0,none⟩),.pointer (some ⟨qP,0,none⟩),.pointer (some ⟨qV,0,none⟩),u19,u20,u21,u22,u23,u24,u25,u26,u27,u28,u29,u30,u31,u32,u33,u34,u35,u36,u37,u38,u39,u40,u41,u42,u43,u44,u45,u46,u47,u48,u49,u50,u51,u52,u53,u54,u55,u56,u57,u58,u59,u60,u61,u62,u63,u64,u65,u66,u67,u68,u69,u70,u71,u72,u73,u74,u75,u76,u77,u78,u79,u80,u81,u82,u83,u84,u85,u86,u87,u88,u89,u90,u91,u92,u93,u94,u95,u96,u97,u98,u99,u100,u101,u102,u103,u104,u105,u106,u107,u108,u109,u110,u111,u112,u113,u114,u115,u116,u117,u118,u119,u120,u121,u122,u123,u124,u125,u126,u127,u128,u129,u130,u131,u132,u133,u134,u135,u136,u137,u138,u139,u140,u141,u142,u143,u144,u145,u146,u147,u148,u149,u150,u151,u152,u153,u154,u155,u156,u157,u158,u159,u160,u161,u162,u163,u164,u165,u166,u167,u168,u169,u170,u171,u172,u173,u174,u175,u176,u177,u178,u179,u180,u181,u182,u183,u184,u185,u186,u187,u188,u189,u190,u191,u192,u193,u194,u195,u196,u197,u198,u199,u200,u201,u202,u203,u204,u205,u206,u207,u208,u209,u210,u211,u212],defers:=[] } wc:=by
 have:Apart bP c:=⟨by omega⟩
 have:Apart bA c:=⟨by omega⟩
 have:Apart bS c:=⟨by omega⟩
 have:Apart bN c:=⟨by omega⟩
 have:Apart bT c:=⟨by omega⟩
 have:Apart qE c:=⟨by omega⟩
 have:Apart qD c:=⟨by omega⟩
 have:Apart qP c:=⟨by omega⟩
 have:Apart qV c:=⟨by omega⟩
 have:Apart qM c:=⟨by omega⟩
 have:Apart bP qP:=⟨by omega⟩
 have:Apart bA qP:=⟨by omega⟩
 have:Apart bS qP:=⟨by omega⟩
 have:Apart bN qP:=⟨by omega⟩
 have:Apart bT qP:=⟨by omega⟩
 have:Apart qE qP:=⟨by omega⟩
 have:Apart qD qP:=⟨by omega⟩
 have:Apart qV qP:=⟨by omega⟩
 have:Apart qM qP:=⟨by omega⟩
 have:Apart c qP:=⟨by omega⟩
 have:Apart bP qV:=⟨by omega⟩
 have:Apart bA qV:=⟨by omega⟩
 have:Apart bS qV:=⟨by omega⟩
 have:Apart bN qV:=⟨by omega⟩
 have:Apart bT qV:=⟨by omega⟩
 have:Apart qE qV:=⟨by omega⟩
 have:Apart qD qV:=⟨by omega⟩
 have:Apart qP qV:=⟨by omega⟩
 have:Apart qM qV:=⟨by omega⟩
 have:Apart c qV:=⟨by omega⟩
 have:Apart bP bN:=⟨by omega⟩
 have:Apart bA bN:=⟨by omega⟩
 have:Apart bS bN:=⟨by omega⟩
 have:Apart bT bN:=⟨by omega⟩
 have:Apart qE bN:=⟨by omega⟩
 have:Apart qD bN:=⟨by omega⟩
 have:Apart qP bN:=⟨by omega⟩
 have:Apart qV bN:=⟨by omega⟩
 have:Apart qM bN:=⟨by omega⟩
 have:Apart c bN:=⟨by omega⟩
 have:Apart bP bT:=⟨by omega⟩
 have:Apart bA bT:=⟨by omega⟩
 have:Apart bS bT:=⟨by omega⟩
 have:Apart bN bT:=⟨by omega⟩
 have:Apart qE bT:=⟨by omega⟩
 have:Apart qD bT:=⟨by omega⟩
 have:Apart qP bT:=⟨by omega⟩
 have:Apart qV bT:=⟨by omega⟩
 have:Apart qM bT:=⟨by omega⟩
 have:Apart c bT:=⟨by omega⟩
 subst hE
 have HF:=Lib.hid HF0
 clear HF0
 have HTR:=Lib.hid (fun n q v e=>show zcL (fun q v e=>zat pP x l q v m e) (fun v f e=>zaT s.p s.v d v f e) gwR (n+1) q v e=_ from rfl)
 have HBD:=Lib.hid (fun n q v e (he:e≠0)=>zdu (ff:=fun q v e=>zat pP x l q v m e) (rr:=fun v f e=>zaT s.p s.v d v f e) (wf:=gwR) (fun _ _ _ he=>ziE _ _ _ _ _ he) (fun _ _ _ he=>ziq _ _ _ _ _ _ he) he n q v)
 have HB:=Lib.hid (fun q v e=>show B64 (zat pP x l q v m e).b from zma pP x l q v m e)
 have HT:=Lib.hid hT0
 clear hT0
 have HRR:=Lib.hid hR
 clear hR
 conv=>arg 2;dsimp only[tlC,Tryz.f30,Option.getD]
 go_wp2
 go_loopw [19] (fun tv wr=>∃ (k:Nat) (q v:Bx) (e:Int),tv=.int .i64 k∧k≤8∧B64 q∧B64 v∧Hid (TryR w c bP bA bS bN bT qE qD qM qP qV pP x s E d m q v e wr)∧Hid (R=zcV (fun q v e=>zat pP x l q v m e) x s h E.lo m (zcL (fun q v e=>zat pP x l q v m e) (fun v f e=>zaT s.p s.v d v f e) gwR (8-k) q v e))) (fun tv _=>8-(intOf tv).toNat)
 case atStart=>exact ⟨0,q0,v0,e0,rfl,by omega,hq0,hv0,HT,HRR⟩
 case round=>
  obtain ⟨k,q,v,e,rfl,hk,hq,hv,hTk,hRk⟩:=hrel
  obtain ⟨hg,hc,hf,rP,rA,rS,rN,rT,rE,rD,rQ,rV,rm⟩:=hTk.out
  clear hTk HRR HT
  have i_c:BlockIn wr c:=BlockIn.of_cell hc
  have hci:HasCell wr c 0:=⟨_,hc⟩
  have i_rP:=rP.blockIn
  have i_rA:=rA.blockIn
  have i_rS:=rS.blockIn
  have i_rN:=rN.blockIn
  have i_rT:=rT.blockIn
  have i_rE:=rE.blockIn
  have i_rD:=rD.blockIn
  have i_rQ:=rQ.blockIn
  have i_rV:=rV.blockIn
  have i_rm:=rm.blockIn
  by_cases he:e=0
  ·subst he
   by_cases hlt:k<8
   ·have hk8:(k:Int)<8:=by omega
    have hsucc:8-k=(8-(k+1))+1:=by omega
    have hTG:=zsH (ff:=fun q v e=>zat pP x l q v m e) (rr:=fun v f e=>zaT s.p s.v d v f e) (n:=8-(k+1)) (q:=q) (v:=v) (e:=0)
    have hRk2:=hRk.out
    rw[hsucc] at hRk2
    have b1:=HB.out q v 0
    obtain ⟨b2,b3⟩:=zmc s.p s.v d v (zat pP x l q v m 0).b (zat pP x l q v m 0).e
    have HEND:=Lib.hid (zul s.p s.v d v (zat pP x l q v m 0).b (zat pP x l q v m 0).e)
    have HBAD:=Lib.hid (fun hz:(zaT s.p s.v d v (zat pP x l q v m 0).b (zat pP x l q v m 0).e).e≠0=>show R=zeB (zaT s.p s.v d v (zat pP x l q v m 0).b (zat pP x l q v m 0).e).e by
     rw[hRk2,hTG.bad hz]
     exact congrArg zeB (if_neg hz))
    have HFND:=Lib.hid (fun (hz:(zaT s.p s.v d v (zat pP x l q v m 0).b (zat pP x l q v m 0).e).e=0) h2=>show R=zeb x s h E.lo ⟨imin s.t E.lo,imax s.t E.lo,(zaT s.p s.v d v (zat pP x l q v m 0).b (zat pP x l q v m 0).e).p,(zaT s.p s.v d v (zat pP x l q v m 0).b (zat pP x l q v m 0).e).v,m⟩ (zat pP x l (zaT s.p s.v d v (zat pP x l q v m 0).b (zat pP x l q v m 0).e).p (zaT s.p s.v d v (zat pP x l q v m 0).b (zat pP x l q v m 0).e).v m 0) by
     rw[hRk2,hTG.found hz h2]
     rfl)
    have HNXT:=Lib.hid (fun (hz:(zaT s.p s.v d v (zat pP x l q v m 0).b (zat pP x l q v m 0).e).e=0) h2=>(show R=_ by
     rw[hRk2,hTG.next hz h2]))
    have HLST:=Lib.hid (fun (w':World) (g:Grew w w') hc hf=>show Calls Tryz.prog 57 #[.pointer (some ⟨c,0,none⟩),.agg pP.cells.toArray,.agg x.cells.toArray,.agg #[.int .i64 s.t,.int .i64 s.p.x.lo,.int .i64 s.p.x.hi,.int .i64 s.p.y.lo,.int .i64 s.p.y.hi,.int .i64 s.p.z.lo,.int .i64 s.p.z.hi,.int .i64 s.v.x.lo,.int .i64 s.v.x.hi,.int .i64 s.v.y.lo,.int .i64 s.v.y.hi,.int .i64 s.v.z.lo,.int .i64 s.v.z.hi,.int .i64 s.m.lo,.int .i64 s.m.hi],.int .i64 h,.int .i64 E.lo,.agg #[.int .i64 (imin s.t E.lo),.int .i64 (imax s.t E.lo),.int .i64 ((zaT s.p s.v d v (zat pP x l q v m 0).b (zat pP x l q v m 0).e).p).x.lo,.int .i64 ((zaT s.p s.v d v (zat pP x l q v m 0).b (zat pP x l q v m 0).e).p).x.hi,.int .i64 ((zaT s.p s.v d v (zat pP x l q v m 0).b (zat pP x l q v m 0).e).p).y.lo,.int .i64 ((zaT s.p s.v d v (zat pP x l q v m 0).b (zat pP x l q v m 0).e).p).y.hi,.int .i64 ((zaT s.p s.v d v (zat pP x l q v m 0).b (zat pP x l q v m 0).e).p).z.lo,.int .i64 ((zaT s.p s.v d v (zat pP x l q v m 0).b (zat pP x l q v m 0).e).p).z.hi,.int .i64 ((zaT s.p s.v d v (zat pP x l q v m 0).b (zat pP x l q v m 0).e).v).x.lo,.int .i64 ((zaT s.p s.v d v (zat pP x l q v m 0).b (zat pP x l q v m 0).e).v).x.hi,.int .i64 ((zaT s.p s.v d v (zat pP x l q v m 0).b (zat pP x l q v m 0).e).v).y.lo,.int .i64 ((zaT s.p s.v d v (zat pP x l q v m 0).b (zat pP x l q v m 0).e).v).y.hi,.int .i64 ((zaT s.p s.v d v (zat pP x l q v m 0).b (zat pP x l q v m 0).e).v).z.lo,.int .i64 ((zaT s.p s.v d v (zat pP x l q v m 0).b (zat pP x l q v m 0).e).v).z.hi,.int .i64 m.lo,.int .i64 m.hi]] w' _ from
     zoJ pP x s h E.lo (zat pP x l (zaT s.p s.v d v (zat pP x l q v m 0).b (zat pP x l q v m 0).e).p (zaT s.p s.v d v (zat pP x l q v m 0).b (zat pP x l q v m 0).e).v m 0) ⟨imin s.t E.lo,imax s.t E.lo,(zaT s.p s.v d v (zat pP x l q v m 0).b (zat pP x l q v m 0).e).p,(zaT s.p s.v d v (zat pP x l q v m 0).b (zat pP x l q v m 0).e).v,m⟩ (hF:=HB.out _ _ _) c w' hc hf (fun w'' b hc hf=>HF.out _ _ b2 b3 w'' (Grew.but g n3 b) hc hf))
    have HFq:=Lib.hid (HF.out q v hq hv)
    have HI1:=Lib.hid (fun w=>zaz (zlw (zaT s.p s.v d v (zat pP x l q v m 0).b (zat pP x l q v m 0).e).p q) (zgs (zaT s.p s.v d v (zat pP x l q v m 0).b (zat pP x l q v m 0).e).p q w))
    have HI2:=Lib.hid (fun w=>zaz (zlw (zaT s.p s.v d v (zat pP x l q v m 0).b (zat pP x l q v m 0).e).v v) (zgs (zaT s.p s.v d v (zat pP x l q v m 0).b (zat pP x l q v m 0).e).v v w))
    clear hRk hRk2 hTG HTR HBD HF HB hsucc
    generalize hFF:zat pP x l q v m 0=F at *
    clear hFF
    go_upto_block 2 with (first|(go_at_call 54;(with_reducible refine zar (HFq.out _ ?_ ?_ ?_) ?_);(· exact gwr);(· go_simp);(· go_simp);intro u1)|(with_reducible refine wLi ?_)|(with_reducible refine wSf ?_))
    refine zlt (fun Y=>ReaR w c bP bA bS bN bT qE qD qM qP qV u1.world.heap.size (u1.world.heap.size+1) (u1.world.heap.size+1+1) pP x s E d m q v F.b F.e 0 Y) ⟨⟨gwr,by go_simp;rfl,by go_simp,inferInstance,inferInstance,inferInstance,inferInstance,inferInstance,inferInstance,inferInstance,inferInstance,inferInstance,inferInstance⟩,inferInstance,zau inferInstance rfl,zau inferInstance rfl⟩ ?_
    intro Y hY
    have L_bP:=(show Less bP u1.world.heap.size from inferInstance).lt
    have L_bA:=(show Less bA u1.world.heap.size from inferInstance).lt
    have L_bS:=(show Less bS u1.world.heap.size from inferInstance).lt
    have L_bN:=(show Less bN u1.world.heap.size from inferInstance).lt
    have L_bT:=(show Less bT u1.world.heap.size from inferInstance).lt
    have L_qE:=(show Less qE u1.world.heap.size from inferInstance).lt
    have L_qD:=(show Less qD u1.world.heap.size from inferInstance).lt
    have L_qP:=(show Less qP u1.world.heap.size from inferInstance).lt
    have L_qV:=(show Less qV u1.world.heap.size from inferInstance).lt
    have L_qM:=(show Less qM u1.world.heap.size from inferInstance).lt
    have L_c:=(show Less c u1.world.heap.size from inferInstance).lt
    generalize u1.world.heap.size=qF at *
    have nF1:NewFor w (qF+1):=⟨by have:=n5.le;omega⟩
    have nF2:NewFor w (qF+1+1):=⟨by have:=n5.le;omega⟩
    clear HFq u1 hc hf rP rA rS rN rT rE rD rQ rV rm i_c hci hg
    have:Apart qF bP:=⟨by omega⟩
    have:Apart qF bA:=⟨by omega⟩
    have:Apart qF bS:=⟨by omega⟩
    have:Apart qF bN:=⟨by omega⟩
    have:Apart qF bT:=⟨by omega⟩
    have:Apart qF qE:=⟨by omega⟩
    have:Apart qF qD:=⟨by omega⟩
    have:Apart qF qP:=⟨by omega⟩
    have:Apart qF qV:=⟨by omega⟩
    have:Apart qF qM:=⟨by omega⟩
    have:Apart qF c:=⟨by omega⟩
    have:Apart (qF+1) bP:=⟨by omega⟩
    have:Apart (qF+1) bA:=⟨by omega⟩
    have:Apart (qF+1) bS:=⟨by omega⟩
    have:Apart (qF+1) bN:=⟨by omega⟩
    have:Apart (qF+1) bT:=⟨by omega⟩
    have:Apart (qF+1) qE:=⟨by omega⟩
    have:Apart (qF+1) qD:=⟨by omega⟩
    have:Apart (qF+1) qP:=⟨by omega⟩
    have:Apart (qF+1) qV:=⟨by omega⟩
    have:Apart (qF+1) qM:=⟨by omega⟩
    have:Apart (qF+1) c:=⟨by omega⟩
    have:Apart (qF+1+1) bP:=⟨by omega⟩
    have:Apart (qF+1+1) bA:=⟨by omega⟩
    have:Apart (qF+1+1) bS:=⟨by omega⟩
    have:Apart (qF+1+1) bN:=⟨by omega⟩
    have:Apart (qF+1+1) bT:=⟨by omega⟩
    have:Apart (qF+1+1) qE:=⟨by omega⟩
    have:Apart (qF+1+1) qD:=⟨by omega⟩
    have:Apart (qF+1+1) qP:=⟨by omega⟩
    have:Apart (qF+1+1) qV:=⟨by omega⟩
    have:Apart (qF+1+1) qM:=⟨by omega⟩
    have:Apart (qF+1+1) c:=⟨by omega⟩
    have:Apart bP qF:=⟨by omega⟩
    have:Apart bA qF:=⟨by omega⟩
    have:Apart bS qF:=⟨by omega⟩
    have:Apart bN qF:=⟨by omega⟩
    have:Apart bT qF:=⟨by omega⟩
    have:Apart qE qF:=⟨by omega⟩
    have:Apart qD qF:=⟨by omega⟩
    have:Apart qP qF:=⟨by omega⟩
    have:Apart qV qF:=⟨by omega⟩
    have:Apart qM qF:=⟨by omega⟩
    have:Apart c qF:=⟨by omega⟩
    have:Apart bP (qF+1):=⟨by omega⟩
    have:Apart bA (qF+1):=⟨by omega⟩
    have:Apart bS (qF+1):=⟨by omega⟩
    have:Apart bN (qF+1):=⟨by omega⟩
    have:Apart bT (qF+1):=⟨by omega⟩
    have:Apart qE (qF+1):=⟨by omega⟩
    have:Apart qD (qF+1):=⟨by omega⟩
    have:Apart qP (qF+1):=⟨by omega⟩
    have:Apart qV (qF+1):=⟨by omega⟩
    have:Apart qM (qF+1):=⟨by omega⟩
    have:Apart c (qF+1):=⟨by omega⟩
    have:Apart bP (qF+1+1):=⟨by omega⟩
    have:Apart bA (qF+1+1):=⟨by omega⟩
    have:Apart bS (qF+1+1):=⟨by omega⟩
    have:Apart bN (qF+1+1):=⟨by omega⟩
    have:Apart bT (qF+1+1):=⟨by omega⟩
    have:Apart qE (qF+1+1):=⟨by omega⟩
    have:Apart qD (qF+1+1):=⟨by omega⟩
    have:Apart qP (qF+1+1):=⟨by omega⟩
    have:Apart qV (qF+1+1):=⟨by omega⟩
    have:Apart qM (qF+1+1):=⟨by omega⟩
    have:Apart c (qF+1+1):=⟨by omega⟩
    go_wp2
    go_loopw [23] (fun tv wr=>∃ i:Nat,tv=.int .i64 i∧i≤3∧Hid (ReaR w c bP bA bS bN bT qE qD qM qP qV qF (qF+1) (qF+1+1) pP x s E d m q v F.b F.e i wr)) (fun tv _=>3-(intOf tv).toNat)
    case atStart=>exact ⟨0,rfl,by omega,Lib.hid hY⟩
    case round=>
     obtain ⟨i,rfl,hi,hRi⟩:=hrel
     obtain ⟨⟨hg,hc,hf,rP,rA,rS,rN,rT,rE,rD,rQ,rV,rm⟩,rF,rC,rW⟩:=hRi.out
     have i_c:BlockIn wr c:=BlockIn.of_cell hc
     have hci:HasCell wr c 0:=⟨_,hc⟩
     have i2_rP:=rP.blockIn
     have i2_rA:=rA.blockIn
     have i2_rS:=rS.blockIn
     have i2_rN:=rN.blockIn
     have i2_rT:=rT.blockIn
     have i2_rE:=rE.blockIn
     have i2_rD:=rD.blockIn
     have i2_rQ:=rQ.blockIn
     have i2_rV:=rV.blockIn
     have i2_rm:=rm.blockIn
     have i2_rF:=rF.blockIn
     have i2_rC:=rC.blockIn
     have i2_rW:=rW.blockIn
     by_cases hlt3:i<3
     ·obtain ⟨⟨x1,x2⟩,x3,x4⟩:=zsB rS i hlt3
      obtain ⟨x5,x6⟩:=zpD rF i hlt3
      obtain ⟨x7,x8⟩:=zpD rV i hlt3
      obtain ⟨hc1,hc2⟩:=znt rC i hlt3
      obtain ⟨hc3,hc4⟩:=znt rW i hlt3
      obtain ⟨z1,y1⟩:=hc1.is
      obtain ⟨z2,y2⟩:=hc2.is
      obtain ⟨z3,y3⟩:=hc3.is
      obtain ⟨z4,y4⟩:=hc4.is
      have hfC:∀ j,wr.frozen? ⟨qF+1,j,none⟩=false:=fun j=>zd3 _ _ _ _ _
      have hfW:∀ j,wr.frozen? ⟨qF+1+1,j,none⟩=false:=fun j=>zd3 _ _ _ _ _
      have HrP:=Lib.hid rP
      have HrA:=Lib.hid rA
      have HrS:=Lib.hid rS
      have HrN:=Lib.hid rN
      have HrT:=Lib.hid rT
      have HrE:=Lib.hid rE
      have HrD:=Lib.hid rD
      have HrQ:=Lib.hid rQ
      have HrV:=Lib.hid rV
      have Hrm:=Lib.hid rm
      have HrF:=Lib.hid rF
      have HrC:=Lib.hid rC
      have HrW:=Lib.hid rW
      have hi3:(i:Int)<3:=by omega
      have HN1:=Lib.hid (zoS (fun i=>(zbs d (axAt v i) (axAt s.p i) (raE s.p s.v d v F.b F.e i)).s) i hlt3)
      have HN2:=Lib.hid (zoS (fun i=>(zbs d (axAt F.b i) (axAt s.v i) (zbs d (axAt v i) (axAt s.p i) (raE s.p s.v d v F.b F.e i)).e).s) i hlt3)
      have HEI:=Lib.hid (show raE s.p s.v d v F.b F.e (i+1)=(zbs d (axAt F.b i) (axAt s.v i) (zbs d (axAt v i) (axAt s.p i) (raE s.p s.v d v F.b F.e i)).e).e from rfl)
      clear hRi HEND HBAD HFND HNXT HLST HI1 HI2 rP rA rS rN rT rE rQ rV rm rF rC rW
      have sp:=ze8 s.p i
      have sv:=ze8 s.v i
      have sf:=ze8 F.b i
      have svv:=ze8 v i
      have e1:=zeu d (axAt v i) (axAt s.p i) (raE s.p s.v d v F.b F.e i)
      have e2:=zeu d (axAt F.b i) (axAt s.v i) (zbs d (axAt v i) (axAt s.p i) (raE s.p s.v d v F.b F.e i)).e
      generalize zbs d (axAt F.b i) (axAt s.v i) (zbs d (axAt v i) (axAt s.p i) (raE s.p s.v d v F.b F.e i)).e=B2 at *
      generalize zbs d (axAt v i) (axAt s.p i) (raE s.p s.v d v F.b F.e i)=B1 at *
      generalize raE s.p s.v d v F.b F.e i=ei at *
      generalize axAt s.p i=o at *
      generalize axAt s.v i=vv at *
      generalize axAt F.b i=f at *
      generalize axAt v i=u at *
      have sA1:S64 (doR ei (mulR d u)).s:=zam _ _
      have sA2:S64 (doR B1.e (mulR d f)).s:=zam _ _
      have K1:=Lib.hid (fun w hc hf=>show Calls Tryz.prog 53 #[.pointer (some ⟨c,0,none⟩),.agg #[.int .i64 d.lo,.int .i64 d.hi],.agg #[.int .i64 u.lo,.int .i64 u.hi]] w (RetC c (.agg #[.int .i64 ((doR ei (mulR d u)).s).lo,.int .i64 ((doR ei (mulR d u)).s).hi]) (doR ei (mulR d u)).e w) from zaP c ei d u w hc hf)
      have K2:=Lib.hid (fun w hc hf=>show Calls Tryz.prog 55 #[.pointer (some ⟨c,0,none⟩),.agg #[.int .i64 o.lo,.int .i64 o.hi],.agg #[.int .i64 ((doR ei (mulR d u)).s).lo,.int .i64 ((doR ei (mulR d u)).s).hi]] w (RetC c (.agg #[.int .i64 B1.s.lo,.int .i64 B1.s.hi]) B1.e w) from by
       rw[e1]
       exact zbV c (doR ei (mulR d u)).e o (doR ei (mulR d u)).s w hc hf)
      have K3:=Lib.hid (fun w hc hf=>show Calls Tryz.prog 53 #[.pointer (some ⟨c,0,none⟩),.agg #[.int .i64 d.lo,.int .i64 d.hi],.agg #[.int .i64 f.lo,.int .i64 f.hi]] w (RetC c (.agg #[.int .i64 ((doR B1.e (mulR d f)).s).lo,.int .i64 ((doR B1.e (mulR d f)).s).hi]) (doR B1.e (mulR d f)).e w) from zaP c B1.e d f w hc hf)
      have K4:=Lib.hid (fun w hc hf=>show Calls Tryz.prog 55 #[.pointer (some ⟨c,0,none⟩),.agg #[.int .i64 vv.lo,.int .i64 vv.hi],.agg #[.int .i64 ((doR B1.e (mulR d f)).s).lo,.int .i64 ((doR B1.e (mulR d f)).s).hi]] w (RetC c (.agg #[.int .i64 B2.s.lo,.int .i64 B2.s.hi]) B2.e w) from by
       rw[e2]
       exact zbV c (doR B1.e (mulR d f)).e vv (doR B1.e (mulR d f)).s w hc hf)
      clear e1 e2 sA1 sA2
      generalize doR ei (mulR d u)=A1 at *
      generalize doR B1.e (mulR d f)=A2 at *
      go_wp2
      refine zaf c [ei,A1.e,B1.e] 14 [] [11,12] [] (fun W0=>[]) [.agg #[.int .i64 A1.s.lo,.int .i64 A1.s.hi],.agg #[.int .i64 B1.s.lo,.int .i64 B1.s.hi]] [14] (by rfl) (by go_simp) (by go_simp) (fun _ _ x hx=>absurd hx (List.not_mem_nil)) (by kernel_rfl) (by kernel_rfl) (by kernel_rfl) ?_
      intro pz hd0
      apply Exists.intro
      apply And.intro
      iterate 11 (apply zae hd0 (by kernel_rfl);(· intro uz xc;unfold zai;go_simp;rfl))
      apply zad hd0 0 (by kernel_rfl) (by rfl) (by decide)
      ·intro uz hfz hF;clear hF;unfold zah;go_simp;exact K1.out _ (by go_simp) hfz
      apply zad hd0 1 (by kernel_rfl) (by rfl) (by decide)
      ·intro uz hfz hF;clear hF;unfold zah;go_simp;exact K2.out _ (by go_simp) hfz
      apply zae hd0 (by kernel_rfl)
      ·intro uz xc;unfold zai;go_simp;rfl
      apply zax
      rotate_left
      ·rfl
      intro uz hR hD hfz
      clear hR hD
      refine zag (by rfl) ?_;unfold zap;go_simp
      refine zao ?_
      go_wp2
      refine zaf c [B1.e,A2.e,B2.e] 14 [] [11,12] [] (fun W0=>[]) [.agg #[.int .i64 A2.s.lo,.int .i64 A2.s.hi],.agg #[.int .i64 B2.s.lo,.int .i64 B2.s.hi]] [14] (by rfl) (by go_simp) (by go_simp) (fun _ _ x hx=>absurd hx (List.not_mem_nil)) (by kernel_rfl) (by kernel_rfl) (by kernel_rfl) ?_
      intro pz hd0
      apply Exists.intro
      apply And.intro
      iterate 11 (apply zae hd0 (by kernel_rfl);(· intro uz xc;unfold zai;go_simp;rfl))
      apply zad hd0 0 (by kernel_rfl) (by rfl) (by decide)
      ·intro uz hfz hF;clear hF;unfold zah;go_simp;exact K3.out _ (by go_simp) hfz
      apply zad hd0 1 (by kernel_rfl) (by rfl) (by decide)
      ·intro uz hfz hF;clear hF;unfold zah;go_simp;exact K4.out _ (by go_simp) hfz
      apply zae hd0 (by kernel_rfl)
      ·intro uz xc;unfold zai;go_simp;rfl
      apply zax
      rotate_left
      ·rfl
      intro uz hR hD hfz
      clear hR hD
      refine zag (by rfl) ?_;unfold zap;go_simp
      refine zao ?_
      go_wp2
      go_roundw
      case rel=>
       refine ⟨i+1,by go_num,by omega,Lib.hid ⟨⟨gwr,?_,by go_simp,(by repeat (first|exact HrP.out|apply RowIs.far|apply RowIs.lat|apply RowIs.drw|apply RoAt.far|apply RoAt.lat|apply RoAt.drw)),(by repeat (first|exact HrA.out|apply RowIs.far|apply RowIs.lat|apply RowIs.drw|apply RoAt.far|apply RoAt.lat|apply RoAt.drw)),(by repeat (first|exact HrS.out|apply RowIs.far|apply RowIs.lat|apply RowIs.drw|apply RoAt.far|apply RoAt.lat|apply RoAt.drw)),(by repeat (first|exact HrN.out|apply RowIs.far|apply RowIs.lat|apply RowIs.drw|apply RoAt.far|apply RoAt.lat|apply RoAt.drw)),(by repeat (first|exact HrT.out|apply RowIs.far|apply RowIs.lat|apply RowIs.drw|apply RoAt.far|apply RoAt.lat|apply RoAt.drw)),(by repeat (first|exact HrE.out|apply RowIs.far|apply RowIs.lat|apply RowIs.drw|apply RoAt.far|apply RoAt.lat|apply RoAt.drw)),(by repeat (first|exact HrD.out|apply RowIs.far|apply RowIs.lat|apply RowIs.drw|apply RoAt.far|apply RoAt.lat|apply RoAt.drw)),(by repeat (first|exact HrQ.out|apply RowIs.far|apply RowIs.lat|apply RowIs.drw|apply RoAt.far|apply RoAt.lat|apply RoAt.drw)),(by repeat (first|exact HrV.out|apply RowIs.far|apply RowIs.lat|apply RowIs.drw|apply RoAt.far|apply RoAt.lat|apply RoAt.drw)),(by repeat (first|exact Hrm.out|apply RowIs.far|apply RowIs.lat|apply RowIs.drw|apply RoAt.far|apply RoAt.lat|apply RoAt.drw))⟩,(by repeat (first|exact HrF.out|apply RowIs.far|apply RowIs.lat|apply RowIs.drw|apply RoAt.far|apply RoAt.lat|apply RoAt.drw)),?_,?_⟩⟩
       ·rw[HEI.out];go_simp
       ·show RowIs _ _ _ (boxL (raP _ _ _ _ _ _ _))
        unfold raP
        rw[HN1.out]
        repeat (first|exact HrC.out|apply RowIs.putAt|apply RowIs.far|apply RowIs.lat|apply RowIs.drw)
       ·show RowIs _ _ _ (boxL (raV _ _ _ _ _ _ _))
        unfold raV
        rw[HN2.out]
        repeat (first|exact HrW.out|apply RowIs.putAt|apply RowIs.far|apply RowIs.lat|apply RowIs.drw)
      case measure=>simp[intOf];omega
     ·obtain rfl:i=3:=by omega
      obtain ⟨k1,k2,k3⟩:=HEND.out
      rw[k1] at rC
      rw[k2] at rW
      rw[k3] at hc
      clear hRi HEND k1 k2 k3 hY
      generalize zaT s.p s.v d v F.b F.e=RR at *
      by_cases hz:RR.e=0
      ·rw[hz] at hc
       have HG1:=Lib.hid (fun w hc hf=>zjR q RR.p c 0 w hc hf)
       have HG2:=Lib.hid (fun w hc hf=>zjR v RR.v c (widB gwR q RR.p 0).e w hc hf)
       obtain ⟨g1,g2⟩:=zpv q v RR.p RR.v 0
       have HNX0:=Lib.hid (fun h2=>show R=zcV (fun q v e=>zat pP x l q v m e) x s h E.lo m (zcL (fun q v e=>zat pP x l q v m e) (fun v f e=>zaT s.p s.v d v f e) gwR (8-(k+1)) (widB gwR q RR.p 0).b (widB gwR v RR.v (widB gwR q RR.p 0).e).b (widB gwR v RR.v (widB gwR q RR.p 0).e).e) from HNXT.out hz h2)
       replace g1:B64 (widB gwR q RR.p 0).b:=g1
       replace g2:B64 (widB gwR v RR.v (widB gwR q RR.p 0).e).b:=g2
       generalize widB gwR v RR.v (widB gwR q RR.p 0).e=W2 at *
       generalize widB gwR q RR.p 0=W1 at *
       cases hb1:zi1 RR.p q
       ·rw[hb1] at HI1
        have HNX:=Lib.hid (HNX0.out (by unfold zhg;rw[hb1];rfl))
        cases hb2:zi1 RR.v v
        ·rw[hb2] at HI2
         clear HLST HBAD HFND HNXT hb1 hb2 HNX0
         go_wp2_with (first|(go_at_call 56;(with_reducible refine zaa (HI1.out _) ?_);intro u1)|(go_at_call 56;(with_reducible refine zaa (HI2.out _) ?_);intro u2)|(go_at_call 58;(with_reducible refine zar (HG1.out _ ?_ ?_) ?_);(· go_simp);(· go_simp);intro u3)|(go_at_call 58;(with_reducible refine zar (HG2.out _ ?_ ?_) ?_);(· go_simp);(· go_simp);intro u4)|(with_reducible refine wLi ?_)|(with_reducible refine wSi ?_))
         go_roundw
         case rel=>exact ⟨k+1,W1.b,W2.b,W2.e,by go_num,by omega,g1,g2,Lib.hid ⟨gwr,by go_simp,by go_simp,inferInstance,inferInstance,inferInstance,inferInstance,inferInstance,inferInstance,inferInstance,zau inferInstance rfl,zau inferInstance rfl,inferInstance⟩,HNX⟩
         case measure=>simp[intOf];omega
        ·rw[hb2] at HI2
         clear HLST HBAD HFND HNXT hb1 hb2 HNX0
         go_wp2_with (first|(go_at_call 56;(with_reducible refine zaa (HI1.out _) ?_);intro u1)|(go_at_call 56;(with_reducible refine zaa (HI2.out _) ?_);intro u2)|(go_at_call 58;(with_reducible refine zar (HG1.out _ ?_ ?_) ?_);(· go_simp);(· go_simp);intro u3)|(go_at_call 58;(with_reducible refine zar (HG2.out _ ?_ ?_) ?_);(· go_simp);(· go_simp);intro u4)|(with_reducible refine wLi ?_)|(with_reducible refine wSi ?_))
         go_roundw
         case rel=>exact ⟨k+1,W1.b,W2.b,W2.e,by go_num,by omega,g1,g2,Lib.hid ⟨gwr,by go_simp,by go_simp,inferInstance,inferInstance,inferInstance,inferInstance,inferInstance,inferInstance,inferInstance,zau inferInstance rfl,zau inferInstance rfl,inferInstance⟩,HNX⟩
         case measure=>simp[intOf];omega
       ·rw[hb1] at HI1
        cases hb2:zi1 RR.v v
        ·rw[hb2] at HI2
         have HNX:=Lib.hid (HNX0.out (by unfold zhg;rw[hb1,hb2];rfl))
         clear HLST HBAD HFND HNXT hb1 hb2 HNX0
         go_wp2_with (first|(go_at_call 56;(with_reducible refine zaa (HI1.out _) ?_);intro u1)|(go_at_call 56;(with_reducible refine zaa (HI2.out _) ?_);intro u2)|(go_at_call 58;(with_reducible refine zar (HG1.out _ ?_ ?_) ?_);(· go_simp);(· go_simp);intro u3)|(go_at_call 58;(with_reducible refine zar (HG2.out _ ?_ ?_) ?_);(· go_simp);(· go_simp);intro u4)|(with_reducible refine wLi ?_)|(with_reducible refine wSi ?_))
         go_roundw
         case rel=>exact ⟨k+1,W1.b,W2.b,W2.e,by go_num,by omega,g1,g2,Lib.hid ⟨gwr,by go_simp,by go_simp,inferInstance,inferInstance,inferInstance,inferInstance,inferInstance,inferInstance,inferInstance,zau inferInstance rfl,zau inferInstance rfl,inferInstance⟩,HNX⟩
         case measure=>simp[intOf];omega
        ·rw[hb2] at HI2
         have hFD:=HFND.out hz (by unfold zhg;rw[hb1,hb2];rfl)
         clear HNX0 HNXT HBAD HFND HG1 HG2 hb1 hb2 g1 g2 hz
         generalize zeb x s h E.lo ⟨imin s.t E.lo,imax s.t E.lo,RR.p,RR.v,m⟩ (zat pP x l RR.p RR.v m 0)=RL at *
         subst hFD
         go_wp2_with (first|(go_at_call 56;(with_reducible refine zaa (HI1.out _) ?_);intro u1)|(go_at_call 56;(with_reducible refine zaa (HI2.out _) ?_);intro u2)|(go_at_call 57;refine (HLST.out _ ?_ ?_ ?_).mono ?_;(· exact gwr);(· go_simp);(· go_simp);rintro en w2 ⟨rfl,hbt⟩;obtain ⟨u9,x9,rfl⟩:=zns (y:=.int .i64 0) hbt (by go_simp);clear hbt)|(with_reducible refine wLi ?_)|(with_reducible refine wSf ?_)|(with_reducible refine wSi ?_))
         refine bodyPost_ret (zcq Tryz.results30 rfl rfl rfl inferInstance inferInstance inferInstance inferInstance inferInstance inferInstance) rfl ?_
         exact ⟨rfl,gwr⟩
      ·have hz':(RR.e != 0)=true:=by simp[hz]
       have HRz:=Lib.hid (HBAD.out hz)
       clear HBAD HFND HNXT HLST HI1 HI2 hz
       go_wp2
       refine za8 (fun w'=>w'.cell? ⟨c,0,none⟩=some (.int .i64 RR.e)) [] rfl ?_
       refine zaj 2 [] (v:=.pointer (some ⟨c,0,none⟩)) rfl (by kernel_rfl) (by kernel_rfl) (by kernel_rfl) (by kernel_rfl) (fun _ _ _ h=>h) (by rfl) (by go_simp) (fun w' hw=>?_) ?_
       ·skip
        go_simp
       try simp only[Act.put,List.setIfInBounds_toArray,List.set_cons_zero,List.set_cons_succ]
       refine zaj 3 [] (v:=.pointer (some ⟨c,0,none⟩)) rfl (by kernel_rfl) (by kernel_rfl) (by kernel_rfl) (by kernel_rfl) (fun _ _ _ h=>h) (by rfl) (by go_simp) (fun w' hw=>?_) ?_
       ·skip
        go_simp
       try simp only[Act.put,List.setIfInBounds_toArray,List.set_cons_zero,List.set_cons_succ]
       refine zaj 4 [] (v:=.pointer (some ⟨c,0,none⟩)) rfl (by kernel_rfl) (by kernel_rfl) (by kernel_rfl) (by kernel_rfl) (fun _ _ _ h=>h) (by rfl) (by go_simp) (fun w' hw=>?_) ?_
       ·skip
        go_simp
       try simp only[Act.put,List.setIfInBounds_toArray,List.set_cons_zero,List.set_cons_succ]
       refine zaj 5 [] (v:=.int .i64 RR.e) rfl (by kernel_rfl) (by kernel_rfl) (by kernel_rfl) (by kernel_rfl) (fun _ _ _ h=>h) (by rfl) (by go_simp) (fun w' hw=>?_) ?_
       ·have hw2:w'.cell? ⟨c,0,none⟩=some (.int .i64 RR.e):=hw
        go_simp
       try simp only[Act.put,List.setIfInBounds_toArray,List.set_cons_zero,List.set_cons_succ]
       refine zaj 0 [] (v:=.agg zaL.cells.toArray) rfl (by kernel_rfl) (by kernel_rfl) (by kernel_rfl) (by kernel_rfl) (fun _ _ _ h=>h) (by rfl) (by go_simp) (fun w' hw=>?_) ?_
       ·skip
        exact zbm _ _ [] _ rfl (by simp) zbY
       try simp only[Act.put,List.setIfInBounds_toArray,List.set_cons_zero,List.set_cons_succ]
       refine zaj 1 [] (v:=.agg zbB.cells.toArray) rfl (by kernel_rfl) (by kernel_rfl) (by kernel_rfl) (by kernel_rfl) (fun _ _ _ h=>h) (by rfl) (by go_simp) (fun w' hw=>?_) ?_
       ·skip
        exact zbm _ _ [] _ rfl (by simp) zcm
       try simp only[Act.put,List.setIfInBounds_toArray,List.set_cons_zero,List.set_cons_succ]
       have hst:∀ (W:World) (b:Nat) [RowIs W b 28 zaL.cells],(storeCells ⟨b,0,none⟩ zaL.cells).run Tryz.prog W=.ok () (W.setRow b zaL.cells.toArray):=fun W b _=>zcQ W b _ zaL.cells
       have htb:∀ (W:World) (b:Nat) [RowIs W b 81 zbB.cells],(storeCells ⟨b,0,none⟩ zbB.cells).run Tryz.prog W=.ok () (W.setRow b zbB.cells.toArray):=fun W b _=>zdD W b _ zbB.cells
       refine zaq 6 (by kernel_rfl) rfl fun K hK=>?_
       go_simp
       refine hK.out _ _ (fun _=>by go_simp) ?_
       clear hK K
       try simp only[Act.put,List.setIfInBounds_toArray,List.set_cons_zero,List.set_cons_succ]
       refine zaq 7 (by kernel_rfl) rfl fun K hK=>?_
       go_simp
       refine hK.out _ _ (fun _=>by go_simp) ?_
       clear hK K
       try simp only[Act.put,List.setIfInBounds_toArray,List.set_cons_zero,List.set_cons_succ]
       refine zaq 8 (by kernel_rfl) rfl fun K hK=>?_
       go_simp
       refine hK.out _ _ (fun _=>by go_simp) ?_
       clear hK K
       try simp only[Act.put,List.setIfInBounds_toArray,List.set_cons_zero,List.set_cons_succ]
       refine zbi (by kernel_rfl) ?_
       go_wp2
       refine bodyPost_ret (zcq Tryz.results30 rfl rfl rfl inferInstance inferInstance inferInstance inferInstance inferInstance inferInstance) rfl ?_
       exact ⟨by rw[HRz.out];rfl,gwr⟩
   ·obtain rfl:k=8:=by omega
    have HRz:=Lib.hid (show R=zeB 9 from hRk.out)
    clear hRk HTR HBD HF HB
    go_wp2_with (first|(with_reducible refine wLi ?_)|(with_reducible refine wSi ?_))
    refine bodyPost_ret (zcq Tryz.results30 rfl rfl rfl inferInstance inferInstance inferInstance inferInstance inferInstance inferInstance) rfl ?_
    exact ⟨by rw[HRz.out];rfl,gwr⟩
  ·have t1:(e==0)=false:=by simp[he]
   have t2:(e != 0)=true:=by simp[he]
   have HRz:=Lib.hid (show R=zeB e by
    obtain ⟨b1,b2⟩:=HBD.out (8-k) q v e he
    exact hRk.out.trans (ziP he b1 b2))
   clear hRk HTR HBD HF HB he
   by_cases hlt:k<8
   ·have hk8:(k:Int)<8:=by omega
    go_wp2
    refine za8 (fun w'=>w'.cell? ⟨c,0,none⟩=some (.int .i64 e)) [] rfl ?_
    refine zaj 2 [] (v:=.pointer (some ⟨c,0,none⟩)) rfl (by kernel_rfl) (by kernel_rfl) (by kernel_rfl) (by kernel_rfl) (fun _ _ _ h=>h) (by rfl) (by go_simp) (fun w' hw=>?_) ?_
    ·skip
     go_simp
    try simp only[Act.put,List.setIfInBounds_toArray,List.set_cons_zero,List.set_cons_succ]
    refine zaj 3 [] (v:=.pointer (some ⟨c,0,none⟩)) rfl (by kernel_rfl) (by kernel_rfl) (by kernel_rfl) (by kernel_rfl) (fun _ _ _ h=>h) (by rfl) (by go_simp) (fun w' hw=>?_) ?_
    ·skip
     go_simp
    try simp only[Act.put,List.setIfInBounds_toArray,List.set_cons_zero,List.set_cons_succ]
    refine zaj 4 [] (v:=.pointer (some ⟨c,0,none⟩)) rfl (by kernel_rfl) (by kernel_rfl) (by kernel_rfl) (by kernel_rfl) (fun _ _ _ h=>h) (by rfl) (by go_simp) (fun w' hw=>?_) ?_
    ·skip
     go_simp
    try simp only[Act.put,List.setIfInBounds_toArray,List.set_cons_zero,List.set_cons_succ]
    refine zaj 5 [] (v:=.int .i64 e) rfl (by kernel_rfl) (by kernel_rfl) (by kernel_rfl) (by kernel_rfl) (fun _ _ _ h=>h) (by rfl) (by go_simp) (fun w' hw=>?_) ?_
    ·have hw2:w'.cell? ⟨c,0,none⟩=some (.int .i64 e):=hw
     go_simp
    try simp only[Act.put,List.setIfInBounds_toArray,List.set_cons_zero,List.set_cons_succ]
    refine zaj 0 [] (v:=.agg zaL.cells.toArray) rfl (by kernel_rfl) (by kernel_rfl) (by kernel_rfl) (by kernel_rfl) (fun _ _ _ h=>h) (by rfl) (by go_simp) (fun w' hw=>?_) ?_
    ·skip
     exact zbm _ _ [] _ rfl (by simp) zbY
    try simp only[Act.put,List.setIfInBounds_toArray,List.set_cons_zero,List.set_cons_succ]
    refine zaj 1 [] (v:=.agg zbB.cells.toArray) rfl (by kernel_rfl) (by kernel_rfl) (by kernel_rfl) (by kernel_rfl) (fun _ _ _ h=>h) (by rfl) (by go_simp) (fun w' hw=>?_) ?_
    ·skip
     exact zbm _ _ [] _ rfl (by simp) zcm
    try simp only[Act.put,List.setIfInBounds_toArray,List.set_cons_zero,List.set_cons_succ]
    have hst:∀ (W:World) (b:Nat) [RowIs W b 28 zaL.cells],(storeCells ⟨b,0,none⟩ zaL.cells).run Tryz.prog W=.ok () (W.setRow b zaL.cells.toArray):=fun W b _=>zcQ W b _ zaL.cells
    have htb:∀ (W:World) (b:Nat) [RowIs W b 81 zbB.cells],(storeCells ⟨b,0,none⟩ zbB.cells).run Tryz.prog W=.ok () (W.setRow b zbB.cells.toArray):=fun W b _=>zdD W b _ zbB.cells
    refine zaq 6 (by kernel_rfl) rfl fun K hK=>?_
    go_simp
    refine hK.out _ _ (fun _=>by go_simp) ?_
    clear hK K
    try simp only[Act.put,List.setIfInBounds_toArray,List.set_cons_zero,List.set_cons_succ]
    refine zaq 7 (by kernel_rfl) rfl fun K hK=>?_
    go_simp
    refine hK.out _ _ (fun _=>by go_simp) ?_
    clear hK K
    try simp only[Act.put,List.setIfInBounds_toArray,List.set_cons_zero,List.set_cons_succ]
    refine zaq 8 (by kernel_rfl) rfl fun K hK=>?_
    go_simp
    refine hK.out _ _ (fun _=>by go_simp) ?_
    clear hK K
    try simp only[Act.put,List.setIfInBounds_toArray,List.set_cons_zero,List.set_cons_succ]
    refine zbi (by kernel_rfl) ?_
    go_wp2
    refine bodyPost_ret (zcq Tryz.results30 rfl rfl rfl inferInstance inferInstance inferInstance inferInstance inferInstance inferInstance) rfl ?_
    exact ⟨by rw[HRz.out];rfl,gwr⟩
   ·obtain rfl:k=8:=by omega
    go_wp2
    refine za8 (fun w'=>w'.cell? ⟨c,0,none⟩=some (.int .i64 e)) [] rfl ?_
    refine zaj 2 [] (v:=.pointer (some ⟨c,0,none⟩)) rfl (by kernel_rfl) (by kernel_rfl) (by kernel_rfl) (by kernel_rfl) (fun _ _ _ h=>h) (by rfl) (by go_simp) (fun w' hw=>?_) ?_
    ·skip
     go_simp
    try simp only[Act.put,List.setIfInBounds_toArray,List.set_cons_zero,List.set_cons_succ]
    refine zaj 3 [] (v:=.pointer (some ⟨c,0,none⟩)) rfl (by kernel_rfl) (by kernel_rfl) (by kernel_rfl) (by kernel_rfl) (fun _ _ _ h=>h) (by rfl) (by go_simp) (fun w' hw=>?_) ?_
    ·skip
     go_simp
    try simp only[Act.put,List.setIfInBounds_toArray,List.set_cons_zero,List.set_cons_succ]
    refine zaj 4 [] (v:=.pointer (some ⟨c,0,none⟩)) rfl (by kernel_rfl) (by kernel_rfl) (by kernel_rfl) (by kernel_rfl) (fun _ _ _ h=>h) (by rfl) (by go_simp) (fun w' hw=>?_) ?_
    ·skip
     go_simp
    try simp only[Act.put,List.setIfInBounds_toArray,List.set_cons_zero,List.set_cons_succ]
    refine zaj 5 [] (v:=.int .i64 e) rfl (by kernel_rfl) (by kernel_rfl) (by kernel_rfl) (by kernel_rfl) (fun _ _ _ h=>h) (by rfl) (by go_simp) (fun w' hw=>?_) ?_
    ·have hw2:w'.cell? ⟨c,0,none⟩=some (.int .i64 e):=hw
     go_simp
    try simp only[Act.put,List.setIfInBounds_toArray,List.set_cons_zero,List.set_cons_succ]
    refine zaj 0 [] (v:=.agg zaL.cells.toArray) rfl (by kernel_rfl) (by kernel_rfl) (by kernel_rfl) (by kernel_rfl) (fun _ _ _ h=>h) (by rfl) (by go_simp) (fun w' hw=>?_) ?_
    ·skip
     exact zbm _ _ [] _ rfl (by simp) zbY
    try simp only[Act.put,List.setIfInBounds_toArray,List.set_cons_zero,List.set_cons_succ]
    refine zaj 1 [] (v:=.agg zbB.cells.toArray) rfl (by kernel_rfl) (by kernel_rfl) (by kernel_rfl) (by kernel_rfl) (fun _ _ _ h=>h) (by rfl) (by go_simp) (fun w' hw=>?_) ?_
    ·skip
     exact zbm _ _ [] _ rfl (by simp) zcm
    try simp only[Act.put,List.setIfInBounds_toArray,List.set_cons_zero,List.set_cons_succ]
    have hst:∀ (W:World) (b:Nat) [RowIs W b 28 zaL.cells],(storeCells ⟨b,0,none⟩ zaL.cells).run Tryz.prog W=.ok () (W.setRow b zaL.cells.toArray):=fun W b _=>zcQ W b _ zaL.cells
    have htb:∀ (W:World) (b:Nat) [RowIs W b 81 zbB.cells],(storeCells ⟨b,0,none⟩ zbB.cells).run Tryz.prog W=.ok () (W.setRow b zbB.cells.toArray):=fun W b _=>zdD W b _ zbB.cells
    refine zaq 6 (by kernel_rfl) rfl fun K hK=>?_
    go_simp
    refine hK.out _ _ (fun _=>by go_simp) ?_
    clear hK K
    try simp only[Act.put,List.setIfInBounds_toArray,List.set_cons_zero,List.set_cons_succ]
    refine zaq 7 (by kernel_rfl) rfl fun K hK=>?_
    go_simp
    refine hK.out _ _ (fun _=>by go_simp) ?_
    clear hK K
    try simp only[Act.put,List.setIfInBounds_toArray,List.set_cons_zero,List.set_cons_succ]
    refine zaq 8 (by kernel_rfl) rfl fun K hK=>?_
    go_simp
    refine hK.out _ _ (fun _=>by go_simp) ?_
    clear hK K
    try simp only[Act.put,List.setIfInBounds_toArray,List.set_cons_zero,List.set_cons_succ]
    refine zbi (by kernel_rfl) ?_
    go_wp2
    refine bodyPost_ret (zcq Tryz.results30 rfl rfl rfl inferInstance inferInstance inferInstance inferInstance inferInstance inferInstance) rfl ?_
    exact ⟨by rw[HRz.out];rfl,gwr⟩
end Go.Proofs.YtdkfkalplmgoeaaGreat
