/-
  Joined: StepIJK, ArcWords.
-/
import Derived.Test.YtdkfkalplmgoeaaGreatStepFGHH
import Derived.Test.YtdkfkalplmgoeaaGreatStepEH
import Derived.Test.YtdkfkalplmgoeaaGreatForceEH
import Derived.Test.YtdkfkalplmgoeaaGreatFlightOksH
namespace Go.Proofs.YtdkfkalplmgoeaaGreat
open Go.RowKit Go.Shelf
set_option maxRecDepth 100000
set_option maxHeartbeats 16000000
set_option linter.unusedSimpArgs false
structure StB (w:World) (c bM bS bN bT qE qD qM:Nat) (pP:Planet) (x:Arc) (s:State) (E d m:Sp) (e:Int) (wr:World):Prop where
 g:Grew w wr
 cell:wr.cell? ⟨c,0,none⟩=some (.int .i64 e)
 mark:wr.frozen? ⟨c,0,none⟩=false
 rM:RowIs wr bM 101 (zak pP x)
 rS:RowIs wr bS 28 [.int .i64 s.t,.int .i64 s.p.x.lo,.int .i64 s.p.x.hi,.int .i64 s.p.y.lo,.int .i64 s.p.y.hi,.int .i64 s.p.z.lo,.int .i64 s.p.z.hi,.int .i64 s.v.x.lo,.int .i64 s.v.x.hi,.int .i64 s.v.y.lo,.int .i64 s.v.y.hi,.int .i64 s.v.z.lo,.int .i64 s.v.z.hi,.int .i64 s.m.lo,.int .i64 s.m.hi]
 rN:RowIs wr bN 28 [.int .i64 0,.int .i64 0,.int .i64 0,.int .i64 0,.int .i64 0,.int .i64 0,.int .i64 0,.int .i64 0,.int .i64 0,.int .i64 0,.int .i64 0,.int .i64 0,.int .i64 0,.int .i64 0,.int .i64 0]
 rT:RowIs wr bT 81 [.int .i64 0,.int .i64 0,.int .i64 0,.int .i64 0,.int .i64 0,.int .i64 0,.int .i64 0,.int .i64 0,.int .i64 0,.int .i64 0,.int .i64 0,.int .i64 0,.int .i64 0,.int .i64 0,.int .i64 0,.int .i64 0]
 rE:RowIs wr qE 24 [.int .i64 E.lo,.int .i64 E.hi]
 rD:RowIs wr qD 24 [.int .i64 d.lo,.int .i64 d.hi]
 rm:RoAt wr qM [.int .i64 m.lo,.int .i64 m.hi]
theorem zrD (pP:Planet) (x:Arc) (s:State) (h t:Int) (ff:Bx→Bx→Int→BRes) (T:TRes) (E d m:Sp) (e:Int) [Pl64 pP] [hs:St64 s] [hh:S64 (⟨h,h⟩:Sp)] [hxf:S64 x.flow] (bM bS bN bT c qE qD qM:Nat) (w wc:World) (R0:StRes) (hR0:R0=zcV ff x s h t m T) (hE:E.lo=t)
 (HT0:∀ w',Grew w w'→(w'.cell? ⟨c,0,none⟩=some (.int .i64 e))→w'.frozen? ⟨c,0,none⟩=false→Calls Tryz.prog 102 #[.agg (zak pP x).toArray,.pointer (some ⟨c,0,none⟩),.agg #[.int .i64 s.p.x.lo,.int .i64 s.p.x.hi,.int .i64 s.p.y.lo,.int .i64 s.p.y.hi,.int .i64 s.p.z.lo,.int .i64 s.p.z.hi,.int .i64 s.v.x.lo,.int .i64 s.v.x.hi,.int .i64 s.v.y.lo,.int .i64 s.v.y.hi,.int .i64 s.v.z.lo,.int .i64 s.v.z.hi],.agg #[.int .i64 d.lo,.int .i64 d.hi],.agg #[.int .i64 m.lo,.int .i64 m.hi]] w' (zrh c T w'))
 (HF0:T.found=true→∀ w',Grew w w'→(w'.cell? ⟨c,0,none⟩=some (.int .i64 0))→w'.frozen? ⟨c,0,none⟩=false→Calls Tryz.prog 103 #[.agg (zak pP x).toArray,.pointer (some ⟨c,0,none⟩),.agg #[.int .i64 T.p.x.lo,.int .i64 T.p.x.hi,.int .i64 T.p.y.lo,.int .i64 T.p.y.hi,.int .i64 T.p.z.lo,.int .i64 T.p.z.hi,.int .i64 T.v.x.lo,.int .i64 T.v.x.hi,.int .i64 T.v.y.lo,.int .i64 T.v.y.hi,.int .i64 T.v.z.lo,.int .i64 T.v.z.hi],.agg #[.int .i64 m.lo,.int .i64 m.hi]] w' (RetC c (.agg #[.int .i64 ((ff T.p T.v 0).b).x.lo,.int .i64 ((ff T.p T.v 0).b).x.hi,.int .i64 ((ff T.p T.v 0).b).y.lo,.int .i64 ((ff T.p T.v 0).b).y.hi,.int .i64 ((ff T.p T.v 0).b).z.lo,.int .i64 ((ff T.p T.v 0).b).z.hi]) (ff T.p T.v 0).e w'))
 (hT:T.found=true→T.e=0∧B64 (ff T.p T.v 0).b)
 (hB0:StB w c bM bS bN bT qE qD qM pP x s E d m e wc) (n1:NewFor w bN) (n2:NewFor w bT) (n3:NewFor w c) (hd:bM<bN∧bS<bN∧bN<bT∧bT<c) (l1:Less c qE) (l2:Less c qM) (l3:Less c qD) (u5 u13 u14 u15 u16 u17 u18 u19 u20 u21 u22 u23 u24 u25 u26 u27 u28 u29 u30 u31 u32 u33 u34 u35 u36 u37 u38 u39 u40 u41 u42 u43 u44 u45 u46 u47 u48 u49 u50 u51 u52 u53 u54 u55 u56 u57 u58 u59 u60 u61 u62 u63 u64 u65 u66 u67 u68 u69 u70 u71 u72 u73 u74 u75 u76 u77 u78 u79 u80 u81 u82 u83 u84 u85 u86 u87 u88 u89 u90 u91 u92 u93 u94 u95 u96 u97 u98 u99 u100 u101 u102 u103 u104 u105 u106 u107 u108 u109 u110 u111 u112 u113 u114 u115 u116 u117 u118 u119 u120 u121 u122 u123 u124 u125 u126 u127 u128 u129 u130 u131 u132 u133 u134 u135 u136 u137 u138 u139 u140 u141 u142 u143 u144 u145 u146 u147 u148 u149 u150 u151 u152 u153 u154 u155 u156 u157 u158 u159 u160 u161 u162 u163 u164 u165 u166 u167 u168 u169 u170 u171 u172 u173 u174 u175 u176 u177 u178 u179 u180 u181 u182 u183 u184 u185:Value) :
 (tlC (tlC (tlC (tlC (tlC (tlC (Tryz.f47.body.getD .skip))))))).wp Tryz.prog (bodyPost Tryz.prog Tryz.f47 (zhv R0 w)) { tmps:=#[.agg (zak pP x).toArray,.agg #[.int .i64 s.t,.int .i64 s.p.x.lo,.int .i64 s.p.x.hi,.int .i64 s.p.y.lo,.int .i64 s.p.y.hi,.int .i64 s.p.z.lo,.int .i64 s.p.z.hi,.int .i64 s.v.x.lo,.int .i64 s.v.x.hi,.int .i64 s.v.y.lo,.int .i64 s.v.y.hi,.int .i64 s.v.z.lo,.int .i64 s.v.z.hi,.int .i64 s.m.lo,.int .i64 s.m.hi],.int .i64 h,.pointer (some ⟨bM,0,none⟩),.pointer (some ⟨bS,0,none⟩),u5,.pointer (some ⟨bN,0,none⟩),.pointer (some ⟨bT,0,none⟩),.int .i64 0,.pointer (some ⟨c,0,none⟩),.pointer (some ⟨qE,0,none⟩),.pointer (some ⟨qD,0,none⟩),.pointer (some ⟨qM,0,none⟩),u13,u14,u15,u16,u17,u18,u19,u20,u21,u22,u23,u24,u25,u26,u27,u28,u29,u30,u31,u32,u33,u34,u35,u36,u37,u38,u39,u40,u41,u42,u43,u44,u45,u46,u47,u48,u49,u50,u51,u52,u53,u54,u55,u56,u57,u58,u59,u60,u61,u62,u63,u64,u65,u66,u67,u68,u69,u70,u71,u72,u73,u74,u75,u76,u77,u78,u79,u80,u81,u82,u83,u84,u85,u86,u87,u88,u89,u90,u91,u92,u93,u94,u95,u96,u97,u98,u99,u100,u101,u102,u103,u104,u105,u106,u107,u108,u109,u110,u111,u112,u113,u114,u115,u116,u117,u118,u119,u120,u121,u122,u123,u124,u125,u126,u127,u128,u129,u130,u131,u132,u133,u134,u135,u136,u137,u138,u139,u140,u141,u142,u143,u144,u145,u146,u147,u148,u149,u150,u151,u152,u153,u154,u155,u156,u157,u158,u159,u160,u161,u162,u163,u164,u165,u166,u167,u168,u169,u170,u171,u172,u173,u174,u175,u176,u177,u178,u179,u180,u181,u182,u183,u184,u185],defers:=[] } wc:=by
 subst hR0
 have l1':=l1.lt
 have l2':=l2.lt
 have l3':=l3.lt
 have:Apart bM c:=⟨by omega⟩
 have:Apart bS c:=⟨by omega⟩
 have:Apart bN c:=⟨by omega⟩
 have:Apart bT c:=⟨by omega⟩
 have:Apart qE c:=⟨by omega⟩
 have:Apart qD c:=⟨by omega⟩
 have:Apart qM c:=⟨by omega⟩
 have:Apart bM bN:=⟨by omega⟩
 have:Apart bS bN:=⟨by omega⟩
 have:Apart bT bN:=⟨by omega⟩
 have:Apart c bN:=⟨by omega⟩
 have:Apart qE bN:=⟨by omega⟩
 have:Apart qD bN:=⟨by omega⟩
 have:Apart qM bN:=⟨by omega⟩
 have:Apart bM bT:=⟨by omega⟩
 have:Apart bS bT:=⟨by omega⟩
 have:Apart bN bT:=⟨by omega⟩
 have:Apart c bT:=⟨by omega⟩
 have:Apart qE bT:=⟨by omega⟩
 have:Apart qD bT:=⟨by omega⟩
 have:Apart qM bT:=⟨by omega⟩
 obtain ⟨hg,hc,hf,rM,rS,rN,rT,rE,rD,rm⟩:=hB0
 have i_c:BlockIn wc c:=BlockIn.of_cell hc
 have hci:HasCell wc c 0:=⟨_,hc⟩
 have i_rM:=rM.blockIn
 have i_rS:=rS.blockIn
 have i_rN:=rN.blockIn
 have i_rT:=rT.blockIn
 have i_rE:=rE.blockIn
 have i_rD:=rD.blockIn
 have i_rm:=rm.blockIn
 have HT:=Lib.hid HT0
 clear HT0
 have hlt:=i_c.lt
 obtain ⟨fd,tp,tv,te⟩:=T
 cases fd
 ·have HR:=Lib.hid (show zcV ff x s h t m ⟨false,tp,tv,te⟩=zeB (if te=0 then 9 else te) from rfl)
  clear HF0 hT
  replace rT:RowIs wc bT 81 zbB.cells:=rT
  generalize zcV ff x s h t m ⟨false,tp,tv,te⟩=R at *
  by_cases he:te=0
  ·have he':(te==0)=true:=by simp[he]
   have HRz:=HR.out
   rw[if_pos he] at HRz
   replace HRz:=Lib.hid HRz
   clear HR he
   conv=>arg 2;dsimp only[tlC,Tryz.f47,Option.getD]
   go_wp2_with (first|(go_at_call 101;(with_reducible refine zaa (zga s.p s.v _) ?_);intro u1)|(go_at_call 102;refine (HT.out _ ?_ ?_ ?_).mono ?_;(· exact gwr);(· go_simp);(· go_simp);rintro en w2 ⟨p,v,hpv,rfl,uz,rfl⟩;skip)|(with_reducible refine wLr ?_)|(with_reducible refine wLi ?_)|(with_reducible refine wSf ?_)|(with_reducible refine wSi ?_))
   refine za8 (fun w'=>w'.cell? ⟨c,0,none⟩=some (.int .i64 9)) [] rfl ?_
   refine zaj 2 [] (v:=.pointer (some ⟨c,0,none⟩)) rfl (by kernel_rfl) (by kernel_rfl) (by kernel_rfl) (by kernel_rfl) (fun _ _ _ h=>h) (by rfl) (by go_simp) (fun w' hw=>?_) ?_
   ·skip
    go_simp
   try simp only[Act.put,List.setIfInBounds_toArray,List.set_cons_zero,List.set_cons_succ]
   refine zaj 3 [] (v:=.pointer (some ⟨c,0,none⟩)) rfl (by kernel_rfl) (by kernel_rfl) (by kernel_rfl) (by kernel_rfl) (fun _ _ _ h=>h) (by rfl) (by go_simp) (fun w' hw=>?_) ?_
   ·skip
    go_simp
   try simp only[Act.put,List.setIfInBounds_toArray,List.set_cons_zero,List.set_cons_succ]
   refine zaj 4 [] (v:=.pointer (some ⟨c,0,none⟩)) rfl (by kernel_rfl) (by kernel_rfl) (by kernel_rfl) (by kernel_rfl) (fun _ _ _ h=>h) (by rfl) (by go_simp) (fun w' hw=>?_) ?_
   ·skip
    go_simp
   try simp only[Act.put,List.setIfInBounds_toArray,List.set_cons_zero,List.set_cons_succ]
   refine zaj 5 [] (v:=.int .i64 9) rfl (by kernel_rfl) (by kernel_rfl) (by kernel_rfl) (by kernel_rfl) (fun _ _ _ h=>h) (by rfl) (by go_simp) (fun w' hw=>?_) ?_
   ·have hw2:w'.cell? ⟨c,0,none⟩=some (.int .i64 9):=hw
    go_simp
   try simp only[Act.put,List.setIfInBounds_toArray,List.set_cons_zero,List.set_cons_succ]
   refine zaj 0 [] (v:=.agg zaL.cells.toArray) rfl (by kernel_rfl) (by kernel_rfl) (by kernel_rfl) (by kernel_rfl) (fun _ _ _ h=>h) (by rfl) (by go_simp) (fun w' hw=>?_) ?_
   ·skip
    exact zbm _ _ [] _ rfl (by simp) zbY
   try simp only[Act.put,List.setIfInBounds_toArray,List.set_cons_zero,List.set_cons_succ]
   refine zaj 1 [] (v:=.agg zbB.cells.toArray) rfl (by kernel_rfl) (by kernel_rfl) (by kernel_rfl) (by kernel_rfl) (fun _ _ _ h=>h) (by rfl) (by go_simp) (fun w' hw=>?_) ?_
   ·skip
    exact zbm _ _ [] _ rfl (by simp) zcm
   try simp only[Act.put,List.setIfInBounds_toArray,List.set_cons_zero,List.set_cons_succ]
   have hst:∀ (W:World) (b:Nat) [RowIs W b 28 [.int .i64 0,.int .i64 0,.int .i64 0,.int .i64 0,.int .i64 0,.int .i64 0,.int .i64 0,.int .i64 0,.int .i64 0,.int .i64 0,.int .i64 0,.int .i64 0,.int .i64 0,.int .i64 0,.int .i64 0]],(storeCells ⟨b,0,none⟩ zaL.cells).run Tryz.prog W=.ok () (W.setRow b zaL.cells.toArray):=fun W b _=>zcQ W b _ [.int .i64 0,.int .i64 0,.int .i64 0,.int .i64 0,.int .i64 0,.int .i64 0,.int .i64 0,.int .i64 0,.int .i64 0,.int .i64 0,.int .i64 0,.int .i64 0,.int .i64 0,.int .i64 0,.int .i64 0]
   have htb:∀ (W:World) (b:Nat) [RowIs W b 81 zbB.cells],(storeCells ⟨b,0,none⟩ zbB.cells).run Tryz.prog W=.ok () (W.setRow b zbB.cells.toArray):=fun W b _=>zdD W b _ zbB.cells
   refine zaq 6 (by kernel_rfl) rfl fun K hK=>?_
   go_simp
   refine hK.out _ _ (fun _=>by go_simp) ?_
   clear hK K
   try simp only[Act.put,List.setIfInBounds_toArray,List.set_cons_zero,List.set_cons_succ]
   refine zaq 7 (by kernel_rfl) rfl fun K hK=>?_
   go_simp
   refine hK.out _ _ (fun _=>by go_simp) ?_
   clear hK K
   try simp only[Act.put,List.setIfInBounds_toArray,List.set_cons_zero,List.set_cons_succ]
   refine zaq 8 (by kernel_rfl) rfl fun K hK=>?_
   go_simp
   refine hK.out _ _ (fun _=>by go_simp) ?_
   clear hK K
   try simp only[Act.put,List.setIfInBounds_toArray,List.set_cons_zero,List.set_cons_succ]
   refine zbi (by kernel_rfl) ?_
   go_wp2
   refine bodyPost_ret (zcq Tryz.results47 rfl rfl rfl inferInstance inferInstance inferInstance inferInstance inferInstance inferInstance) rfl ?_
   exact ⟨by rw[HRz.out];rfl,gwr⟩
  ·have he':(te==0)=false:=by simp[he]
   have HRz:=HR.out
   rw[if_neg he] at HRz
   replace HRz:=Lib.hid HRz
   clear HR he
   conv=>arg 2;dsimp only[tlC,Tryz.f47,Option.getD]
   go_wp2_with (first|(go_at_call 101;(with_reducible refine zaa (zga s.p s.v _) ?_);intro u1)|(go_at_call 102;refine (HT.out _ ?_ ?_ ?_).mono ?_;(· exact gwr);(· go_simp);(· go_simp);rintro en w2 ⟨p,v,hpv,rfl,uz,rfl⟩;skip)|(with_reducible refine wLr ?_)|(with_reducible refine wLi ?_)|(with_reducible refine wSf ?_)|(with_reducible refine wSi ?_))
   refine za8 (fun w'=>w'.cell? ⟨c,0,none⟩=some (.int .i64 te)) [] rfl ?_
   refine zaj 2 [] (v:=.pointer (some ⟨c,0,none⟩)) rfl (by kernel_rfl) (by kernel_rfl) (by kernel_rfl) (by kernel_rfl) (fun _ _ _ h=>h) (by rfl) (by go_simp) (fun w' hw=>?_) ?_
   ·skip
    go_simp
   try simp only[Act.put,List.setIfInBounds_toArray,List.set_cons_zero,List.set_cons_succ]
   refine zaj 3 [] (v:=.pointer (some ⟨c,0,none⟩)) rfl (by kernel_rfl) (by kernel_rfl) (by kernel_rfl) (by kernel_rfl) (fun _ _ _ h=>h) (by rfl) (by go_simp) (fun w' hw=>?_) ?_
   ·skip
    go_simp
   try simp only[Act.put,List.setIfInBounds_toArray,List.set_cons_zero,List.set_cons_succ]
   refine zaj 4 [] (v:=.pointer (some ⟨c,0,none⟩)) rfl (by kernel_rfl) (by kernel_rfl) (by kernel_rfl) (by kernel_rfl) (fun _ _ _ h=>h) (by rfl) (by go_simp) (fun w' hw=>?_) ?_
   ·skip
    go_simp
   try simp only[Act.put,List.setIfInBounds_toArray,List.set_cons_zero,List.set_cons_succ]
   refine zaj 5 [] (v:=.int .i64 te) rfl (by kernel_rfl) (by kernel_rfl) (by kernel_rfl) (by kernel_rfl) (fun _ _ _ h=>h) (by rfl) (by go_simp) (fun w' hw=>?_) ?_
   ·have hw2:w'.cell? ⟨c,0,none⟩=some (.int .i64 te):=hw
    go_simp
   try simp only[Act.put,List.setIfInBounds_toArray,List.set_cons_zero,List.set_cons_succ]
   refine zaj 0 [] (v:=.agg zaL.cells.toArray) rfl (by kernel_rfl) (by kernel_rfl) (by kernel_rfl) (by kernel_rfl) (fun _ _ _ h=>h) (by rfl) (by go_simp) (fun w' hw=>?_) ?_
   ·skip
    exact zbm _ _ [] _ rfl (by simp) zbY
   try simp only[Act.put,List.setIfInBounds_toArray,List.set_cons_zero,List.set_cons_succ]
   refine zaj 1 [] (v:=.agg zbB.cells.toArray) rfl (by kernel_rfl) (by kernel_rfl) (by kernel_rfl) (by kernel_rfl) (fun _ _ _ h=>h) (by rfl) (by go_simp) (fun w' hw=>?_) ?_
   ·skip
    exact zbm _ _ [] _ rfl (by simp) zcm
   try simp only[Act.put,List.setIfInBounds_toArray,List.set_cons_zero,List.set_cons_succ]
   have hst:∀ (W:World) (b:Nat) [RowIs W b 28 [.int .i64 0,.int .i64 0,.int .i64 0,.int .i64 0,.int .i64 0,.int .i64 0,.int .i64 0,.int .i64 0,.int .i64 0,.int .i64 0,.int .i64 0,.int .i64 0,.int .i64 0,.int .i64 0,.int .i64 0]],(storeCells ⟨b,0,none⟩ zaL.cells).run Tryz.prog W=.ok () (W.setRow b zaL.cells.toArray):=fun W b _=>zcQ W b _ [.int .i64 0,.int .i64 0,.int .i64 0,.int .i64 0,.int .i64 0,.int .i64 0,.int .i64 0,.int .i64 0,.int .i64 0,.int .i64 0,.int .i64 0,.int .i64 0,.int .i64 0,.int .i64 0,.int .i64 0]
   have htb:∀ (W:World) (b:Nat) [RowIs W b 81 zbB.cells],(storeCells ⟨b,0,none⟩ zbB.cells).run Tryz.prog W=.ok () (W.setRow b zbB.cells.toArray):=fun W b _=>zdD W b _ zbB.cells
   refine zaq 6 (by kernel_rfl) rfl fun K hK=>?_
   go_simp
   refine hK.out _ _ (fun _=>by go_simp) ?_
   clear hK K
   try simp only[Act.put,List.setIfInBounds_toArray,List.set_cons_zero,List.set_cons_succ]
   refine zaq 7 (by kernel_rfl) rfl fun K hK=>?_
   go_simp
   refine hK.out _ _ (fun _=>by go_simp) ?_
   clear hK K
   try simp only[Act.put,List.setIfInBounds_toArray,List.set_cons_zero,List.set_cons_succ]
   refine zaq 8 (by kernel_rfl) rfl fun K hK=>?_
   go_simp
   refine hK.out _ _ (fun _=>by go_simp) ?_
   clear hK K
   try simp only[Act.put,List.setIfInBounds_toArray,List.set_cons_zero,List.set_cons_succ]
   refine zbi (by kernel_rfl) ?_
   go_wp2
   refine bodyPost_ret (zcq Tryz.results47 rfl rfl rfl inferInstance inferInstance inferInstance inferInstance inferInstance inferInstance) rfl ?_
   exact ⟨by rw[HRz.out];rfl,gwr⟩
 ·obtain ⟨he0,hb0⟩:=hT rfl
  obtain rfl:te=0:=he0
  have hb1:B64 (ff tp tv 0).b:=hb0
  have HC:=Lib.hid (fun qI wx st l3=>zrE pP x s h t (ff tp tv 0) tp tv E m bM bS bN bT c qE qM qI w wx hE (HF0 rfl) st n1 n2 n3 hd l1 l2 l3)
  have HR:=Lib.hid (show zcV ff x s h t m ⟨true,tp,tv,0⟩=zeb x s h t ⟨imin s.t t,imax s.t t,tp,tv,m⟩ (ff tp tv 0) from rfl)
  clear HF0 hT
  rw[HR.out]
  conv=>arg 2;dsimp only[tlC,Tryz.f47,Option.getD]
  go_upto_if 72 with (first|(go_at_call 101;(with_reducible refine zaa (zga s.p s.v _) ?_);intro u1)|(go_at_call 102;refine (HT.out _ ?_ ?_ ?_).mono ?_;(· exact gwr);(· go_simp);(· go_simp);rintro en w2 ⟨p,v,hpv,rfl,uz,rfl⟩;obtain ⟨rfl,rfl⟩:=hpv rfl)|(with_reducible refine wLr ?_)|(with_reducible refine wLi ?_)|(with_reducible refine wSf ?_)|(with_reducible refine wSi ?_))
  have l4:Less c uz.world.heap.size:=inferInstance
  go_cut [8] (fun v8 wx=>v8=.int .i64 0∧StC w c bM bS bN bT qE qM uz.world.heap.size pP x s p v E m 0 wx)
  case first=>
   go_wp2
   go_meet
   case rel=>exact ⟨rfl,gwr,by go_simp,by go_simp,inferInstance,inferInstance,inferInstance,inferInstance,inferInstance,inferInstance,inferInstance⟩
  case rest=>
  obtain ⟨rfl,hcut⟩:=hcut
  go_step
  exact HC.out _ _ hcut l4 _ _ _ _ _ _ _ _ _ _ _ _ _ _ _ _ _ _ _ _ _ _ _ _ _ _ _ _ _ _ _ _ _ _ _ _ _ _ _ _ _ _ _ _ _ _ _ _ _ _ _ _ _ _ _ _ _ _ _ _ _ _ _ _ _ _ _ _ _ _ _ _ _ _ _ _ _ _ _ _ _ _ _ _ _ _ _ _ _ _ _ _ _ _ _ _ _ _ _ _ _ _ _ _ _ _ _ _ _ _ _ _ _ _ _ _ _ _ _ _ _ _ _ _ _ _ _ _ _ _ _ _ _ _ _ _ _ _ _ _ _ _ _ _ _ _ _ _ _ _ _ _ _ _ _ _ _ _ _ _ _ _ _ _ _ _ _ _ _ _ _ _ _ _
end Go.Proofs.YtdkfkalplmgoeaaGreat
namespace Go.Proofs.YtdkfkalplmgoeaaGreat
open Go.RowKit Go.Shelf
set_option maxRecDepth 100000
set_option maxHeartbeats 16000000
set_option linter.unusedSimpArgs false
theorem zlH {w:World} {b q:Nat} [h:BlockIn w b] (n:NewFor w q):Less b q:=⟨Nat.lt_of_lt_of_le h.lt n.le⟩
theorem zhq {w:World} {b:Nat} {x y:Value} (h0:w.cell? ⟨b,0,none⟩=some x) (h1:w.cell? ⟨b,1,none⟩=some y):RoAt w b [x,y]:=⟨fun i v hv=>by
 match i,hv with
 |0,hv=>simp at hv;subst hv;exact h0
 |1,hv=>simp at hv;subst hv;exact h1⟩
theorem zo1 (h:Int) [hh:S64 (⟨h,h⟩:Sp)]:S64 (stD h):=by
 have h1:=hh.lo
 unfold stD
 refine ⟨?_,?_⟩
 ·show I64 (imin h 0)
  unfold imin I64 at *
  simp only at h1
  split<;>omega
 ·show I64 (imax h 0)
  unfold imax I64 at *
  simp only at h1
  split<;>omega
theorem zh8 {ff:Bx→Bx→Int→BRes} {rr:Bx→Bx→Int→CRes} {wf:Sp→Sp→Int→Res} (hb:∀ v f e,B64 (rr v f e).p∧B64 (rr v f e).v):∀ (n:Nat) (q v:Bx) (e:Int),(zcL ff rr wf n q v e).found=true→(zcL ff rr wf n q v e).e=0∧B64 (zcL ff rr wf n q v e).p∧B64 (zcL ff rr wf n q v e).v
 |0,_,_,_,h=>by cases h
 |n+1,q,v,e,h=>by
  unfold zcL at h ⊢
  split at h
  ·cases h
  ·rename_i k
   rw[if_neg k]
   split at h
   ·rename_i k2
    rw[if_pos k2]
    exact ⟨rfl,hb _ _ _⟩
   ·rename_i k2
    rw[if_neg k2]
    exact zh8 hb n _ _ _ h
theorem zhc {pP:Planet} {x:Arc} {l:List Pt} {s:State} {h:Int} {m:Sp} {e:Int} (k:(ze9 pP x l s h m e).found=true):(ze9 pP x l s h m e).e=0∧B64 (ze9 pP x l s h m e).p∧B64 (ze9 pP x l s h m e).v:=
 zh8 (fun _ _ _=>⟨zbK _ _ _ _,zbK _ _ _ _⟩) 8 _ _ _ k
theorem zmr (HL:zej 191) (pP:Planet) (x:Arc) (l:List Pt) (s:State) (h:Int) [hp:Pl64 pP] [hs:St64 s] [hh:S64 (⟨h,h⟩:Sp)] [hxt:S64 x.thrust] [hxf:S64 x.flow] [hxd:B64 x.dir] (w:World) (hd:zcF w x l) :
 Calls Tryz.prog 47 #[.agg (zak pP x).toArray,.agg #[.int .i64 s.t,.int .i64 s.p.x.lo,.int .i64 s.p.x.hi,.int .i64 s.p.y.lo,.int .i64 s.p.y.hi,.int .i64 s.p.z.lo,.int .i64 s.p.z.hi,.int .i64 s.v.x.lo,.int .i64 s.v.x.hi,.int .i64 s.v.y.lo,.int .i64 s.v.y.hi,.int .i64 s.v.z.lo,.int .i64 s.v.z.hi,.int .i64 s.m.lo,.int .i64 s.m.hi],.int .i64 h] w (zhv (zaO pP x l s h) w):=by
 have hdn:=zlA hd
 have hd':SlAt w (.slice x.drag.ao l.length x.drag.cap) l.length (l.flatMap Pt.cells):=by have h:=hd;unfold zcF at h;rw[hdn] at h;exact h
 have sD:S64 (stD h):=zo1 h
 have sT:S64 (⟨s.t,s.t⟩:Sp):=⟨hs.t,hs.t⟩
 have sL:S64 (stL x h (stF s h).e).s:=zam _ _
 have sM:S64 (stM x s h (stF s h).e).s:=zam _ _
 have KA:=Lib.hid (fun wy hc hf=>show Calls Tryz.prog 97 #[.pointer (some ⟨w.heap.size+1+1+1+1,0,none⟩),.agg #[.int .i64 s.t,.int .i64 s.t],.agg #[.int .i64 h,.int .i64 h]] wy (RetC (w.heap.size+1+1+1+1) (.agg #[.int .i64 ((stF s h).s).lo,.int .i64 ((stF s h).s).hi]) (stF s h).e wy) from zdi (w.heap.size+1+1+1+1) 0 ⟨s.t,s.t⟩ ⟨h,h⟩ wy hc hf)
 have K1:=Lib.hid (fun wy hc hf=>show Calls Tryz.prog 100 #[.pointer (some ⟨w.heap.size+1+1+1+1,0,none⟩),.agg #[.int .i64 x.flow.lo,.int .i64 x.flow.hi],.agg #[.int .i64 (imin h 0),.int .i64 (imax h 0)]] wy (RetC (w.heap.size+1+1+1+1) (.agg #[.int .i64 ((stL x h (stF s h).e).s).lo,.int .i64 ((stL x h (stF s h).e).s).hi]) (stL x h (stF s h).e).e wy) from zb1 (w.heap.size+1+1+1+1) (stF s h).e x.flow (stD h) wy hc hf)
 have K2:=Lib.hid (fun wy hc hf=>show Calls Tryz.prog 99 #[.pointer (some ⟨w.heap.size+1+1+1+1,0,none⟩),.agg #[.int .i64 s.m.lo,.int .i64 s.m.hi],.agg #[.int .i64 ((stL x h (stF s h).e).s).lo,.int .i64 ((stL x h (stF s h).e).s).hi]] wy (RetC (w.heap.size+1+1+1+1) (.agg #[.int .i64 ((stM x s h (stF s h).e).s).lo,.int .i64 ((stM x s h (stF s h).e).s).hi]) (stM x s h (stF s h).e).e wy) from zeF (w.heap.size+1+1+1+1) (stL x h (stF s h).e).e s.m (stL x h (stF s h).e).s wy hc hf)
 have HB:=Lib.hid (fun (qE qD qM:Nat) (e:Int) (he:stE x s h (stF s h).e=e) wx st l1 l2 l3=>zrD pP x s h (stF s h).s.lo (fun q v e=>zaD pP x l q v (stM x s h (stF s h).e).s e) (ze9 pP x l s h (stM x s h (stF s h).e).s e) (stF s h).s (stD h) (stM x s h (stF s h).e).s e (w.heap.size) (w.heap.size+1) (w.heap.size+1+1) (w.heap.size+1+1+1) (w.heap.size+1+1+1+1) qE qD qM w wx (zaO pP x l s h) (by rw[←he];rfl) rfl
  (fun w' g hc hf=>zkG HL pP x l s.p s.v (stD h) (stM x s h (stF s h).e).s (w.heap.size+1+1+1+1) e w' hc hf hdn (fun wx b=>hd'.grew (Grew.but g ⟨by omega⟩ b)))
  (fun k=>by
    obtain ⟨_,k1,k2⟩:=zhc k
    exact fun w' g hc hf=>zhG HL pP x l (ze9 pP x l s h (stM x s h (stF s h).e).s e).p (ze9 pP x l s h (stM x s h (stF s h).e).s e).v (stM x s h (stF s h).e).s (w.heap.size+1+1+1+1) 0 w' hc hf hdn (fun wx b=>hd'.grew (Grew.but g ⟨by omega⟩ b)))
  (fun k=>by
    obtain ⟨k0,k1,k2⟩:=zhc k
    exact ⟨k0,zil _ _ _ _ _ _ _⟩)
  st ⟨by omega⟩ ⟨by omega⟩ ⟨by omega⟩ ⟨by omega,by omega,by omega,by omega⟩ l1 l2 l3)
 have HE:=Lib.hid (show stE x s h (stF s h).e=if (stM x s h (stF s h).e).e=0∧(stM x s h (stF s h).e).s.lo≤0 then 4 else (stM x s h (stF s h).e).e from rfl)
 clear hd hd' hdn sD sT sL sM HL
 generalize zaO pP x l s h=R at *
 generalize stE x s h (stF s h).e=E4 at *
 generalize stM x s h (stF s h).e=M at *
 generalize stL x h (stF s h).e=L at *
 generalize stF s h=EF at *
 go_enter Tryz.func47,Tryz.ntmps47
 go_wp2_with (first|(go_at_call 98;(with_reducible refine zaa (zdQ _ _) ?_);intro u1)|(go_at_call 97;(with_reducible refine zar (KA.out _ ?_ ?_) ?_);(· go_simp);(· go_simp);intro u3)|(with_reducible refine wLr ?_)|(with_reducible refine wLi ?_)|(with_reducible refine wSf ?_)|(with_reducible refine wSi ?_))
 refine zaf (w.heap.size+1+1+1+1) [EF.e,L.e,M.e] 11 [10] [8,9] [] (fun W0=>[(10,BoxR W0 [.int .i64 0,.int .i64 0])]) [.agg #[.int .i64 L.s.lo,.int .i64 L.s.hi],.agg #[.int .i64 M.s.lo,.int .i64 M.s.hi]] [11] (by rfl) (by go_simp) (by go_simp) (by intro W0 hW0 x hx;simp only[List.mem_cons,List.not_mem_nil,or_false] at hx;rcases hx with rfl<;>first|exact zbc _ _ hW0 _) (by kernel_rfl) (by kernel_rfl) (by kernel_rfl) ?_
 intro pz hd0
 apply Exists.intro
 apply And.intro
 iterate 8 (apply zae hd0 (by kernel_rfl);(· intro uz xc;unfold zai;go_simp;rfl))
 apply zad hd0 0 (by kernel_rfl) (by rfl) (by decide)
 ·intro uz hfz hF;clear hF;unfold zah;go_simp;exact K1.out _ (by go_simp) hfz
 apply zad hd0 1 (by kernel_rfl) (by rfl) (by decide)
 ·intro uz hfz hF;clear hF;unfold zah;go_simp;exact K2.out _ (by go_simp) hfz
 apply zbd hd0 (by kernel_rfl)
 ·intro uz xc hF;clear hF;unfold za5;go_simp;refine (show Made (BoxR _ [.int .i64 0,.int .i64 0]) _ _ _ from ?_);exact zbe _ _ _ _
 apply zax
 rotate_left
 ·rfl
 intro uz hR hD hfz
 obtain ⟨q10,e10,hB10,kB10,nB10⟩:=(show BoxR _ [.int .i64 0,.int .i64 0] (pz 10) _ from hR 10 (by decide))
 clear hR hD
 rw[e10]
 clear e10
 have oB10:=zaG nB10
 have oC10:=zaH nB10
 have hB10:=zbq hB10 hd0 nB10
 have kB10:=za0 kB10
 have hB10_0:=(hB10 0 _ rfl).1
 have hB10f0:=(hB10 0 _ rfl).2
 have hB10i0:HasCell (uz.world) (q10) 0:=⟨_,hB10_0⟩
 have hB10_1:=(hB10 1 _ rfl).1
 have hB10f1:=(hB10 1 _ rfl).2
 have hB10i1:HasCell (uz.world) (q10) 1:=⟨_,hB10_1⟩
 have hB10b:BlockIn (uz.world) (q10):=BlockIn.of_cell hB10_0
 clear hB10
 refine zag (by rfl) ?_;unfold zap;go_simp
 refine zao ?_
 have lq:Less (w.heap.size+1+1+1+1) q10:=zlH nB10
 have nw10:NewFor w q10:=zcG nB10
 have lE:Less (w.heap.size+1+1+1+1) u3.world.heap.size:=inferInstance
 have lD:Less (w.heap.size+1+1+1+1) (u3.world.heap.size+1):=⟨Nat.lt_succ_of_lt lE.lt⟩
 by_cases he:M.e=0
 ·have he':(M.e==0)=true:=by simp[he]
  by_cases hl:M.s.lo≤0
  ·skip
   have hEE:=Lib.hid (HE.out.trans (if_pos ⟨he,hl⟩))
   clear HE he
   go_upto_if 53 with (fail)
   go_cut [] (fun wx=>StB w (w.heap.size+1+1+1+1) (w.heap.size) (w.heap.size+1) (w.heap.size+1+1) (w.heap.size+1+1+1) u3.world.heap.size (u3.world.heap.size+1) q10 pP x s EF.s (stD h) M.s 4 wx)
   case first=>
    go_wp2
    go_meet
    case rel=>exact ⟨gwr,by go_simp,by go_simp,inferInstance,inferInstance,inferInstance,inferInstance,inferInstance,zau inferInstance rfl,zhq (by go_simp) (by go_simp)⟩
   case rest=>
   go_step
   exact HB.out _ _ _ 4 hEE.out _ hcut lE lq lD _ _ _ _ _ _ _ _ _ _ _ _ _ _ _ _ _ _ _ _ _ _ _ _ _ _ _ _ _ _ _ _ _ _ _ _ _ _ _ _ _ _ _ _ _ _ _ _ _ _ _ _ _ _ _ _ _ _ _ _ _ _ _ _ _ _ _ _ _ _ _ _ _ _ _ _ _ _ _ _ _ _ _ _ _ _ _ _ _ _ _ _ _ _ _ _ _ _ _ _ _ _ _ _ _ _ _ _ _ _ _ _ _ _ _ _ _ _ _ _ _ _ _ _ _ _ _ _ _ _ _ _ _ _ _ _ _ _ _ _ _ _ _ _ _ _ _ _ _ _ _ _ _ _ _ _ _ _ _ _ _ _ _ _ _ _ _ _ _ _ _ _ _ _
  ·skip
   have hEE:=Lib.hid (HE.out.trans (if_neg (fun k=>hl k.2)))
   clear HE he
   go_upto_if 53 with (fail)
   go_cut [] (fun wx=>StB w (w.heap.size+1+1+1+1) (w.heap.size) (w.heap.size+1) (w.heap.size+1+1) (w.heap.size+1+1+1) u3.world.heap.size (u3.world.heap.size+1) q10 pP x s EF.s (stD h) M.s M.e wx)
   case first=>
    go_wp2
    go_meet
    case rel=>exact ⟨gwr,by go_simp,by go_simp,inferInstance,inferInstance,inferInstance,inferInstance,inferInstance,zau inferInstance rfl,zhq (by go_simp) (by go_simp)⟩
   case rest=>
   go_step
   exact HB.out _ _ _ M.e hEE.out _ hcut lE lq lD _ _ _ _ _ _ _ _ _ _ _ _ _ _ _ _ _ _ _ _ _ _ _ _ _ _ _ _ _ _ _ _ _ _ _ _ _ _ _ _ _ _ _ _ _ _ _ _ _ _ _ _ _ _ _ _ _ _ _ _ _ _ _ _ _ _ _ _ _ _ _ _ _ _ _ _ _ _ _ _ _ _ _ _ _ _ _ _ _ _ _ _ _ _ _ _ _ _ _ _ _ _ _ _ _ _ _ _ _ _ _ _ _ _ _ _ _ _ _ _ _ _ _ _ _ _ _ _ _ _ _ _ _ _ _ _ _ _ _ _ _ _ _ _ _ _ _ _ _ _ _ _ _ _ _ _ _ _ _ _ _ _ _ _ _ _ _ _ _ _ _ _ _ _
 ·have he':(M.e==0)=false:=by simp[he]
  have hEE:=Lib.hid (HE.out.trans (if_neg (fun k=>he k.1)))
  clear HE he
  go_upto_if 53 with (fail)
  go_cut [] (fun wx=>StB w (w.heap.size+1+1+1+1) (w.heap.size) (w.heap.size+1) (w.heap.size+1+1) (w.heap.size+1+1+1) u3.world.heap.size (u3.world.heap.size+1) q10 pP x s EF.s (stD h) M.s M.e wx)
  case first=>
   go_wp2
   go_meet
   case rel=>exact ⟨gwr,by go_simp,by go_simp,inferInstance,inferInstance,inferInstance,inferInstance,inferInstance,zau inferInstance rfl,zhq (by go_simp) (by go_simp)⟩
  case rest=>
  go_step
  exact HB.out _ _ _ M.e hEE.out _ hcut lE lq lD _ _ _ _ _ _ _ _ _ _ _ _ _ _ _ _ _ _ _ _ _ _ _ _ _ _ _ _ _ _ _ _ _ _ _ _ _ _ _ _ _ _ _ _ _ _ _ _ _ _ _ _ _ _ _ _ _ _ _ _ _ _ _ _ _ _ _ _ _ _ _ _ _ _ _ _ _ _ _ _ _ _ _ _ _ _ _ _ _ _ _ _ _ _ _ _ _ _ _ _ _ _ _ _ _ _ _ _ _ _ _ _ _ _ _ _ _ _ _ _ _ _ _ _ _ _ _ _ _ _ _ _ _ _ _ _ _ _ _ _ _ _ _ _ _ _ _ _ _ _ _ _ _ _ _ _ _ _ _ _ _ _ _ _ _ _ _ _ _ _ _ _ _ _
end Go.Proofs.YtdkfkalplmgoeaaGreat
namespace Go.Proofs.YtdkfkalplmgoeaaGreat
open Go.RowKit Go.Shelf
set_option maxRecDepth 100000
set_option maxHeartbeats 16000000
set_option linter.unusedSimpArgs false
def zfs (p:Planet) (x:Arc) (l:List Pt) (s:State) (h:Int):Bool:=p.okB&&(x.okB l&&(s.okB&&(numB h&&!decide (h=0))))
def zbW (p:Planet) (x:Arc) (l:List Pt) (s:State) (h:Int):StRes:=if zfs p x l s h then zaO p x l s h else zeB 2
instance zu2:Built 28 [] zaL.cells:=⟨zbY⟩
instance zu3:Built 81 [] zbB.cells:=⟨zcm⟩
instance zpC (pP:Planet) (x:Arc):Built 101 [(0,.agg pP.cells.toArray),(1,.agg x.cells.toArray)] (zak pP x):=⟨zkz pP x⟩
end Go.Proofs.YtdkfkalplmgoeaaGreat
namespace Go.Proofs.YtdkfkalplmgoeaaGreat
open Go.RowKit
set_option maxRecDepth 100000
abbrev Arcs:=List (Arc × List Pt)
def zcM (x:Arc × List Pt):List Value:=x.1.cells
def zcl (w:World) (v:Value) (L:Arcs):Prop:=
 SlAt w v L.length (L.flatMap zcM)∧∀ x∈L,zcF w x.1 x.2∧x.1.time≤9223372036854775807∧x.1.step≤9223372036854775807
theorem zcl.grew {w w':World} {v:Value} {L:Arcs} (h:zcl w v L) (g:Grew w w'):zcl w' v L:=
 ⟨h.1.grew g,fun x hx=>⟨(h.2 x hx).1.grew g,(h.2 x hx).2⟩⟩
def fitB (most:Int):Int→Arcs→Bool
 |_,[]=>true
 |s,x::r=>decide (zaE x.1 x.2=0)&&decide (s+zaF x.1 x.2≤most)&&fitB most (s+zaF x.1 x.2) r
theorem ze0 (a:Arc) (l:List Pt):0≤zaF a l∧zaF a l≤4096:=by
 unfold zaF
 split
 ·rename_i h
  unfold zaE at h
  split at h
  ·rename_i hok
   split at h
   ·have:=zfe hok
    have:=zjq a this.1 this.2
    omega
   ·cases h
  ·cases h
 ·omega
theorem zep (L:Arcs) (k:Nat) (h:k<L.length):L.drop k=L[k]::L.drop (k+1):=List.drop_eq_getElem_cons h
def badB (x:Arc × List Pt):Bool:=!(x.1.okB x.2)
def zcN (L:Arcs):Int:=if L.any badB=true then 2 else if decide (L.length≤32)&&fitB 4096 0 L then 0 else 3
end Go.Proofs.YtdkfkalplmgoeaaGreat
