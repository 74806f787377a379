/-
  Joined: StepFGH.
-/
import Derived.Test.YtdkfkalplmgoeaaGreatForceNH
import Derived.Test.YtdkfkalplmgoeaaGreatFolds2H
import Derived.Test.YtdkfkalplmgoeaaGreatLookCH
namespace Go.Proofs.YtdkfkalplmgoeaaGreat
open Go.RowKit Go.Shelf
set_option maxRecDepth 100000
set_option maxHeartbeats 16000000
set_option linter.unusedSimpArgs false
def zhv (R:StRes) (w:World) (e:Ending) (w':World):Prop:=e=.returned (.tuple #[.agg #[.int .i64 R.s.t,.int .i64 R.s.p.x.lo,.int .i64 R.s.p.x.hi,.int .i64 R.s.p.y.lo,.int .i64 R.s.p.y.hi,.int .i64 R.s.p.z.lo,.int .i64 R.s.p.z.hi,.int .i64 R.s.v.x.lo,.int .i64 R.s.v.x.hi,.int .i64 R.s.v.y.lo,.int .i64 R.s.v.y.hi,.int .i64 R.s.v.z.lo,.int .i64 R.s.v.z.hi,.int .i64 R.s.m.lo,.int .i64 R.s.m.hi],.agg #[.int .i64 R.t.a,.int .i64 R.t.z,.int .i64 R.t.p.x.lo,.int .i64 R.t.p.x.hi,.int .i64 R.t.p.y.lo,.int .i64 R.t.p.y.hi,.int .i64 R.t.p.z.lo,.int .i64 R.t.p.z.hi,.int .i64 R.t.v.x.lo,.int .i64 R.t.v.x.hi,.int .i64 R.t.v.y.lo,.int .i64 R.t.v.y.hi,.int .i64 R.t.v.z.lo,.int .i64 R.t.v.z.hi,.int .i64 R.t.m.lo,.int .i64 R.t.m.hi],.int .i64 R.e])∧Grew w w'
theorem zcq {fn:Func} {tmps:Array Value} {W:World} {p q r:Tmp} {ty t ty2 t2:TypeId} {b n b2 n2:Nat} {l l2:List Value} {v:Value} (h:fn.results=#[.cell p ty,.cell q ty2,.tmp r]) (hp:tmps.getD p undef=.pointer (some ⟨b,0,none⟩)) (hq:tmps.getD q undef=.pointer (some ⟨b2,0,none⟩)) (hr2:tmps.getD r undef=v) (hs:StructTy ty n) (hr:RowIs W b t l) (hl:CLen l n) (hs2:StructTy ty2 n2) (hr3:RowIs W b2 t2 l2) (hl2:CLen l2 n2) :
 (results fn tmps).run Tryz.prog W=.ok (.tuple #[.agg l.toArray,.agg l2.toArray,v]) W:=by
 have h3:=zet (ty:=ty) hs hr hl.len
 have h4:=zet (ty:=ty2) hs2 hr3 hl2.len
 simp only[Array.getD_eq_getD_getElem?] at hp hq hr2
 simp[results,h,asAddr,hp,hq,hr2,h3,h4]
@[go_sem high] theorem ztn {P:Program} (w:World) (ts:Array TypeId) (t:TypeId) (k k':IntKind) (x y:Int):(Builtin.max_ ts t #[.int k x,.int k' y]).run P w=.ok (.int k (imax x y)) w:=by
 have e:(if y > x then y else x)=imax x y:=by
  unfold imax
  repeat' split
  all_goals first|rfl|omega
 simp[Builtin.max_,Builtin.max2,e]
@[go_sem high] theorem zto {P:Program} (w:World) (ts:Array TypeId) (t:TypeId) (k k':IntKind) (x y:Int):(Builtin.min_ ts t #[.int k x,.int k' y]).run P w=.ok (.int k (imin x y)) w:=by
 have e:(if y<x then y else x)=imin x y:=by
  unfold imin
  repeat' split
  all_goals first|rfl|omega
 simp[Builtin.min_,Builtin.min2,e]
theorem zbZ {o:Oper} {a:Act} {w:World} {b n:Nat} {l:List Value} (ty:TypeId) (x:Operand) (ho:o.op=.load ty x) (hx:a.eval x=.pointer (some ⟨b,0,none⟩)) [hs:StructTy ty n] [hr:RowIs w b ty l] [hl:CLen l n]:(execOp a.eval o).run Tryz.prog w=.ok (.value (.agg l.toArray)) w:=by
 obtain ⟨d,hd1,hd2⟩:=hs.und
 have h:(Instr.loadAt ty (.pointer (some ⟨b,0,none⟩))).run Tryz.prog w=.ok (.agg l.toArray) w:=by
  refine run_loadAt_mid w b 0 _ l d (fun i v hv=>?_) hd1 (by cases d<;>first|rfl|cases hd2) (by rw[hl.len];exact hs.sz)
  rw[Nat.zero_add,zem,hv]
 unfold execOp
 rw[ho]
 simp[hx,h]
theorem zbm {o:Oper} {a:Act} {w:World} (t:TypeId) (parts:Array (Nat × Operand)) (l:List (Nat × Value)) (cs:Array Value) (ho:o.op=.build t parts) (hl:(parts.map fun p=>(p.1,a.eval p.2)).toList=l) (hb:Tryz.prog.built t l=some cs):(execOp a.eval o).run Tryz.prog w=.ok (.value (.agg cs)) w:=by
 have h:=run_build (P:=Tryz.prog) w t (parts.map fun p=>(p.1,a.eval p.2)) cs (by rw[hl];exact hb)
 unfold execOp
 rw[ho]
 simp
 rw[h]
 simp
@[go_sem] theorem zu7 (a b:Int):min a b=imin a b:=by
 rw[Int.min_def]
 unfold imin
 repeat' split
 all_goals first|rfl|omega
@[go_sem] theorem zu6 (a b:Int):max a b=imax a b:=by
 rw[Int.max_def]
 unfold imax
 repeat' split
 all_goals first|rfl|omega
instance zsz (s:State):CLen s.cells 15:=⟨rfl⟩
instance zsF (t:Tube):CLen t.cells 16:=⟨rfl⟩
instance zsA (s:State):OneCells s.cells 15:=by unfold State.cells;infer_instance
instance zsG (t:Tube):OneCells t.cells 16:=by unfold Tube.cells;infer_instance
instance zut (w:World) (b:Nat) (t:TypeId) (l:List Value) (n:Nat) [h:RowIs w b t l] [k:CLen l n]:RowOf w b t n:=⟨_,h.is,by simp[k.len]⟩
instance zsl (w:World) (c b:Nat) (a:Array Value) (l:List Value) [h:RoAt w b l] [k:Apart b c]:RoAt (w.setRow c a) b l:=
 ⟨fun i x hx=>by rw[zda,h.is i x hx]⟩
theorem RoAt.blockIn {w:World} {b:Nat} {v:Value} {l:List Value} (h:RoAt w b (v::l)):BlockIn w b:=⟨h.lt⟩
theorem RoAt.far {w:World} {b:Nat} {l:List Value} (c j:Nat) (v:Value) [k:Apart b c] (h:RoAt w b l):RoAt (w.setCell ⟨c,j,none⟩ v) b l:=inferInstance
theorem RoAt.lat {w:World} {b:Nat} {l:List Value} (u:Later w) (h:RoAt w b l):RoAt u.world b l:=inferInstance
theorem RoAt.drw {w:World} {b:Nat} {l:List Value} (h:RoAt w b l):RoAt w.drew b l:=inferInstance
instance six_ty:StructTy 163 12:=⟨⟨_,Tryz.underlying163,rfl⟩,by kernel_rfl⟩
theorem zbY:Tryz.prog.built 28 []=some zaL.cells.toArray:=by kernel_rfl
theorem zcm:Tryz.prog.built 81 []=some zbB.cells.toArray:=by kernel_rfl
theorem zjD (t:Int):Tryz.prog.built 28 [(0,.int .i64 t)]=some #[.int .i64 t,.int .i64 0,.int .i64 0,.int .i64 0,.int .i64 0,.int .i64 0,.int .i64 0,.int .i64 0,.int .i64 0,.int .i64 0,.int .i64 0,.int .i64 0,.int .i64 0,.int .i64 0,.int .i64 0]:=by kernel_rfl
theorem zmf (a b:Int) (p v:Bx) (m:Sp):Tryz.prog.built 81 [(0,.int .i64 a),(1,.int .i64 b),(2,.agg #[.int .i64 p.x.lo,.int .i64 p.x.hi,.int .i64 p.y.lo,.int .i64 p.y.hi,.int .i64 p.z.lo,.int .i64 p.z.hi]),(3,.agg #[.int .i64 v.x.lo,.int .i64 v.x.hi,.int .i64 v.y.lo,.int .i64 v.y.hi,.int .i64 v.z.lo,.int .i64 v.z.hi]),(4,.agg #[.int .i64 m.lo,.int .i64 m.hi])]=some (⟨a,b,p,v,m⟩:Tube).cells.toArray:=by kernel_rfl
theorem zcQ (W:World) (b:Nat) (l l0:List Value) [h:OneCells l 15] [k:OneCells l0 15] [r:RowIs W b 28 l0]:(storeCells ⟨b,0,none⟩ l).run Tryz.prog W=.ok () (W.setRow b l.toArray):=by
 have hs:=@zgy Tryz.prog W b 28 15 l ⟨_,r.is,by simp[k.len]⟩ h (by kernel_rfl)
 obtain ⟨i,hi⟩:=Option.isSome_iff_exists.1 (show (Tryz.prog.info? 28).isSome=true by kernel_rfl)
 have hsz:i.size=15:=by
  have:(Tryz.prog.info? 28).map (·.size)=some 15:=by kernel_rfl
  rw[hi] at this
  simpa using this
 have hl:=h.len
 simp only[Instr.storeAt,Instr.sureAddr,storeVar,Sem.run_bind,Sem.run_pure,Result.andThen_ok,sizeOf,typeInfo,Value.cells,List.size_toArray,hl] at hs
 simpa [hi,hsz,hl] using hs
theorem zdD (W:World) (b:Nat) (l l0:List Value) [h:OneCells l 16] [k:OneCells l0 16] [r:RowIs W b 81 l0]:(storeCells ⟨b,0,none⟩ l).run Tryz.prog W=.ok () (W.setRow b l.toArray):=by
 have hs:=@zgy Tryz.prog W b 81 16 l ⟨_,r.is,by simp[k.len]⟩ h (by kernel_rfl)
 obtain ⟨i,hi⟩:=Option.isSome_iff_exists.1 (show (Tryz.prog.info? 81).isSome=true by kernel_rfl)
 have hsz:i.size=16:=by
  have:(Tryz.prog.info? 81).map (·.size)=some 16:=by kernel_rfl
  rw[hi] at this
  simpa using this
 have hl:=h.len
 simp only[Instr.storeAt,Instr.sureAddr,storeVar,Sem.run_bind,Sem.run_pure,Result.andThen_ok,sizeOf,typeInfo,Value.cells,List.size_toArray,hl] at hs
 simpa [hi,hsz,hl] using hs
structure S26 (bS bN qE qI qM:Nat) (s N:State) (E:Sp) (q v:Bx) (m:Sp) (w:World):Prop where
 s:RowIs w bS 28 [.int .i64 s.t,.int .i64 s.p.x.lo,.int .i64 s.p.x.hi,.int .i64 s.p.y.lo,.int .i64 s.p.y.hi,.int .i64 s.p.z.lo,.int .i64 s.p.z.hi,.int .i64 s.v.x.lo,.int .i64 s.v.x.hi,.int .i64 s.v.y.lo,.int .i64 s.v.y.hi,.int .i64 s.v.z.lo,.int .i64 s.v.z.hi,.int .i64 s.m.lo,.int .i64 s.m.hi]
 n:RowIs w bN 28 N.cells
 e:RowIs w qE 24 [.int .i64 E.lo,.int .i64 E.hi]
 i:RowIs w qI 163 [.int .i64 q.x.lo,.int .i64 q.x.hi,.int .i64 q.y.lo,.int .i64 q.y.hi,.int .i64 q.z.lo,.int .i64 q.z.hi,.int .i64 v.x.lo,.int .i64 v.x.hi,.int .i64 v.y.lo,.int .i64 v.y.hi,.int .i64 v.z.lo,.int .i64 v.z.hi]
 m:RoAt w qM [.int .i64 m.lo,.int .i64 m.hi]
theorem zrG (pP:Planet) (x:Arc) (s:State) (h t:Int) (F:BRes) (q v:Bx) (E m:Sp) (NX:State) [Pl64 pP] [hs:St64 s] [hh:S64 (⟨h,h⟩:Sp)] [hxf:S64 x.flow] (bM bS bN bT c qE qM qI qL:Nat) (w wc:World) (hg:Grew w wc) (hc:wc.cell? ⟨c,0,none⟩=some (.int .i64 (laG2 s h F).e)) (hf:wc.frozen? ⟨c,0,none⟩=false)
 (hNX:NX=⟨t,⟨(laD0 s h F).s,(laD1 s h F).s,(laD2 s h F).s⟩,⟨(laG0 s h F).s,(laG1 s h F).s,(laG2 s h F).s⟩,z0⟩) (hE:E.lo=t)
 (rM:RowIs wc bM 101 (zak pP x)) (rS:RowIs wc bS 28 [.int .i64 s.t,.int .i64 s.p.x.lo,.int .i64 s.p.x.hi,.int .i64 s.p.y.lo,.int .i64 s.p.y.hi,.int .i64 s.p.z.lo,.int .i64 s.p.z.hi,.int .i64 s.v.x.lo,.int .i64 s.v.x.hi,.int .i64 s.v.y.lo,.int .i64 s.v.y.hi,.int .i64 s.v.z.lo,.int .i64 s.v.z.hi,.int .i64 s.m.lo,.int .i64 s.m.hi]) (rN:RowIs wc bN 28 [.int .i64 NX.t,.int .i64 NX.p.x.lo,.int .i64 NX.p.x.hi,.int .i64 NX.p.y.lo,.int .i64 NX.p.y.hi,.int .i64 NX.p.z.lo,.int .i64 NX.p.z.hi,.int .i64 NX.v.x.lo,.int .i64 NX.v.x.hi,.int .i64 NX.v.y.lo,.int .i64 NX.v.y.hi,.int .i64 NX.v.z.lo,.int .i64 NX.v.z.hi,.int .i64 NX.m.lo,.int .i64 NX.m.hi]) (rT:RowIs wc bT 81 [.int .i64 0,.int .i64 0,.int .i64 0,.int .i64 0,.int .i64 0,.int .i64 0,.int .i64 0,.int .i64 0,.int .i64 0,.int .i64 0,.int .i64 0,.int .i64 0,.int .i64 0,.int .i64 0,.int .i64 0,.int .i64 0]) (rE:RowIs wc qE 24 [.int .i64 E.lo,.int .i64 E.hi]) (rm:RoAt wc qM [.int .i64 m.lo,.int .i64 m.hi]) (rI:RowIs wc qI 163 [.int .i64 q.x.lo,.int .i64 q.x.hi,.int .i64 q.y.lo,.int .i64 q.y.hi,.int .i64 q.z.lo,.int .i64 q.z.hi,.int .i64 v.x.lo,.int .i64 v.x.hi,.int .i64 v.y.lo,.int .i64 v.y.hi,.int .i64 v.z.lo,.int .i64 v.z.hi]) (rL:RowIs wc qL 24 [.int .i64 h,.int .i64 h])
 (n1:NewFor w bN) (n2:NewFor w bT) (n3:NewFor w c) (hd:bM<bN∧bS<bN∧bN<bT∧bT<c∧c<qE∧c<qM∧c<qI∧c<qL) (u5 u11 u13 u15 u16 u18 u19 u20 u21 u22 u23 u24 u25 u26 u27 u28 u29 u30 u31 u32 u33 u34 u35 u36 u37 u38 u39 u40 u41 u42 u43 u44 u45 u46 u47 u48 u49 u50 u51 u52 u53 u54 u55 u56 u57 u58 u59 u60 u61 u62 u63 u64 u65 u66 u67 u68 u69 u70 u71 u72 u73 u74 u75 u76 u77 u78 u79 u80 u81 u82 u83 u84 u85 u86 u87 u88 u89 u90 u91 u92 u93 u94 u95 u96 u97 u98 u99 u100 u101 u102 u103 u104 u105 u106 u107 u108 u109 u110 u111 u112 u113 u114 u115 u116 u117 u118 u119 u120 u121 u122 u123 u124 u125 u126 u127 u128 u129 u130 u131 u132 u133 u134 u135 u136 u137 u138 u139 u140 u141 u142 u143 u144 u145 u146 u147 u148 u149 u150 u151 u152 u153 u154 u155 u156 u157 u158 u159 u160 u161 u162 u163 u164 u165 u166 u167 u168 u169 u170 u171 u172 u173 u174 u175 u176 u177 u178 u179 u180 u181 u182 u183 u184 u185:Value) :
 (tlC (tlC (tlC (tlC (tlC (tlC (tlC (tlC (tlC (tlC (tlC (tlC (tlC (tlC (Tryz.f47.body.getD .skip))))))))))))))).wp Tryz.prog (bodyPost Tryz.prog Tryz.f47 (zhv (zeb x s h t ⟨imin s.t t,imax s.t t,q,v,m⟩ F) w)) { tmps:=#[.agg (zak pP x).toArray,.agg #[.int .i64 s.t,.int .i64 s.p.x.lo,.int .i64 s.p.x.hi,.int .i64 s.p.y.lo,.int .i64 s.p.y.hi,.int .i64 s.p.z.lo,.int .i64 s.p.z.hi,.int .i64 s.v.x.lo,.int .i64 s.v.x.hi,.int .i64 s.v.y.lo,.int .i64 s.v.y.hi,.int .i64 s.v.z.lo,.int .i64 s.v.z.hi,.int .i64 s.m.lo,.int .i64 s.m.hi],.int .i64 h,.pointer (some ⟨bM,0,none⟩),.pointer (some ⟨bS,0,none⟩),u5,.pointer (some ⟨bN,0,none⟩),.pointer (some ⟨bT,0,none⟩),.int .i64 0,.pointer (some ⟨c,0,none⟩),.pointer (some ⟨qE,0,none⟩),u11,.pointer (some ⟨qM,0,none⟩),u13,.pointer (some ⟨qI,0,none⟩),u15,u16,.pointer (some ⟨qL,0,none⟩),u18,u19,u20,u21,u22,u23,u24,u25,u26,u27,u28,u29,u30,u31,u32,u33,u34,u35,u36,u37,u38,u39,u40,u41,u42,u43,u44,u45,u46,u47,u48,u49,u50,u51,u52,u53,u54,u55,u56,u57,u58,u59,u60,u61,u62,u63,u64,u65,u66,u67,u68,u69,u70,u71,u72,u73,u74,u75,u76,u77,u78,u79,u80,u81,u82,u83,u84,u85,u86,u87,u88,u89,u90,u91,u92,u93,u94,u95,u96,u97,u98,u99,u100,u101,u102,u103,u104,u105,u106,u107,u108,u109,u110,u111,u112,u113,u114,u115,u116,u117,u118,u119,u120,u121,u122,u123,u124,u125,u126,u127,u128,u129,u130,u131,u132,u133,u134,u135,u136,u137,u138,u139,u140,u141,u142,u143,u144,u145,u146,u147,u148,u149,u150,u151,u152,u153,u154,u155,u156,u157,u158,u159,u160,u161,u162,u163,u164,u165,u166,u167,u168,u169,u170,u171,u172,u173,u174,u175,u176,u177,u178,u179,u180,u181,u182,u183,u184,u185],defers:=[] } wc:=by
 have:Apart bM c:=⟨by omega⟩
 have:Apart bS c:=⟨by omega⟩
 have:Apart bN c:=⟨by omega⟩
 have:Apart bT c:=⟨by omega⟩
 have:Apart qE c:=⟨by omega⟩
 have:Apart qM c:=⟨by omega⟩
 have:Apart qI c:=⟨by omega⟩
 have:Apart qL c:=⟨by omega⟩
 have:Apart bM bN:=⟨by omega⟩
 have:Apart bS bN:=⟨by omega⟩
 have:Apart bT bN:=⟨by omega⟩
 have:Apart c bN:=⟨by omega⟩
 have:Apart qE bN:=⟨by omega⟩
 have:Apart qM bN:=⟨by omega⟩
 have:Apart qI bN:=⟨by omega⟩
 have:Apart qL bN:=⟨by omega⟩
 have:Apart bM bT:=⟨by omega⟩
 have:Apart bS bT:=⟨by omega⟩
 have:Apart bN bT:=⟨by omega⟩
 have:Apart c bT:=⟨by omega⟩
 have:Apart qE bT:=⟨by omega⟩
 have:Apart qM bT:=⟨by omega⟩
 have:Apart qI bT:=⟨by omega⟩
 have:Apart qL bT:=⟨by omega⟩
 have i_rM:=rM.blockIn
 have i_rS:=rS.blockIn
 have i_rN:=rN.blockIn
 have i_rT:=rT.blockIn
 have i_rE:=rE.blockIn
 have i_rm:=rm.blockIn
 have i_rI:=rI.blockIn
 have i_rL:=rL.blockIn
 have hci:HasCell wc c 0:=⟨_,hc⟩
 have i_c:BlockIn wc c:=BlockIn.of_cell hc
 have HR:=Lib.hid (show zeb x s h t ⟨imin s.t t,imax s.t t,q,v,m⟩ F=if (laM x s h F).e=0 then ⟨⟨NX.t,NX.p,NX.v,(laM x s h F).s⟩,⟨imin s.t t,imax s.t t,q,v,m⟩,0⟩ else zeB (laM x s h F).e by subst hNX;rfl)
 have:S64 (laN x s h F).s:=zam _ _
 have K1:=Lib.hid (fun w hc hf=>show Calls Tryz.prog 100 #[.pointer (some ⟨c,0,none⟩),.agg #[.int .i64 h,.int .i64 h],.agg #[.int .i64 x.flow.lo,.int .i64 x.flow.hi]] w (RetC c (.agg #[.int .i64 ((laN x s h F).s).lo,.int .i64 ((laN x s h F).s).hi]) (laN x s h F).e w) from zb1 c (laG2 s h F).e ⟨h,h⟩ x.flow w hc hf)
 have K2:=Lib.hid (fun w hc hf=>show Calls Tryz.prog 99 #[.pointer (some ⟨c,0,none⟩),.agg #[.int .i64 s.m.lo,.int .i64 s.m.hi],.agg #[.int .i64 ((laN x s h F).s).lo,.int .i64 ((laN x s h F).s).hi]] w (RetC c (.agg #[.int .i64 ((laM x s h F).s).lo,.int .i64 ((laM x s h F).s).hi]) (laM x s h F).e w) from zeF c (laN x s h F).e s.m (laN x s h F).s w hc hf)
 subst hE
 clear hNX
 generalize zeb x s h E.lo ⟨imin s.t E.lo,imax s.t E.lo,q,v,m⟩ F=R at *
 generalize laM x s h F=M at *
 generalize laN x s h F=N at *
 generalize (laG2 s h F).e=g at *
 conv=>arg 2;dsimp only[tlC,Tryz.f47,Option.getD]
 go_wp2
 refine zaf c [g,N.e,M.e] 11 [] [8,9] [] (fun W0=>[]) [.agg #[.int .i64 N.s.lo,.int .i64 N.s.hi],.agg #[.int .i64 M.s.lo,.int .i64 M.s.hi]] [11] (by rfl) (by go_simp) (by go_simp) (fun _ _ x hx=>absurd hx (List.not_mem_nil)) (by kernel_rfl) (by kernel_rfl) (by kernel_rfl) ?_
 intro pz hd0
 apply Exists.intro
 apply And.intro
 iterate 8 (apply zae hd0 (by kernel_rfl);(· intro uz xc;unfold zai;go_simp;rfl))
 apply zad hd0 0 (by kernel_rfl) (by rfl) (by decide)
 ·intro uz hfz hF;clear hF;unfold zah;go_simp;exact K1.out _ (by go_simp) hfz
 apply zad hd0 1 (by kernel_rfl) (by rfl) (by decide)
 ·intro uz hfz hF;clear hF;unfold zah;go_simp;exact K2.out _ (by go_simp) hfz
 apply zae hd0 (by kernel_rfl)
 ·intro uz xc;unfold zai;go_simp;rfl
 apply zax
 rotate_left
 ·rfl
 intro uz hR hD hfz
 clear hR hD
 refine zag (by rfl) ?_;unfold zap;go_simp
 refine zao ?_
 go_upto_region 24 with (fail)
 refine ze2 (z:=w) gwr ?_
 intro W hW
 have hc2:W.world.cell? ⟨c,0,none⟩=some (.int .i64 M.e):=by rw[hW];go_simp
 have rM2:RowIs W.world bM 101 (zak pP x):=by rw[hW];infer_instance
 have rS2:RowIs W.world bS 28 [.int .i64 s.t,.int .i64 s.p.x.lo,.int .i64 s.p.x.hi,.int .i64 s.p.y.lo,.int .i64 s.p.y.hi,.int .i64 s.p.z.lo,.int .i64 s.p.z.hi,.int .i64 s.v.x.lo,.int .i64 s.v.x.hi,.int .i64 s.v.y.lo,.int .i64 s.v.y.hi,.int .i64 s.v.z.lo,.int .i64 s.v.z.hi,.int .i64 s.m.lo,.int .i64 s.m.hi]:=by rw[hW];infer_instance
 obtain ⟨N2,hN2⟩:∃ N2:State,N2=⟨NX.t,NX.p,NX.v,M.s⟩:=⟨_,rfl⟩
 have rN2:RowIs W.world bN 28 N2.cells:=by rw[hW,hN2];exact zau inferInstance rfl
 rw[←hN2] at HR
 clear hN2
 have rT2:RowIs W.world bT 81 zbB.cells:=by rw[hW];exact zau inferInstance rfl
 have rE2:RowIs W.world qE 24 [.int .i64 E.lo,.int .i64 E.hi]:=by rw[hW];infer_instance
 have rm2:RoAt W.world qM [.int .i64 m.lo,.int .i64 m.hi]:=by rw[hW];infer_instance
 have rI2:RowIs W.world qI 163 [.int .i64 q.x.lo,.int .i64 q.x.hi,.int .i64 q.y.lo,.int .i64 q.y.hi,.int .i64 q.z.lo,.int .i64 q.z.hi,.int .i64 v.x.lo,.int .i64 v.x.hi,.int .i64 v.y.lo,.int .i64 v.y.hi,.int .i64 v.z.lo,.int .i64 v.z.hi]:=by rw[hW];infer_instance
 clear hW rM rS rN rT rE rm rI rL K1 K2 hc hf hg hci i_c i_rM i_rS i_rN i_rT i_rE i_rm i_rI i_rL
 have i_rM2:=rM2.blockIn
 have i_rS2:=rS2.blockIn
 have i_rN2:=rN2.blockIn
 have i_rT2:=rT2.blockIn
 have i_rE2:=rE2.blockIn
 have i_rm2:=rm2.blockIn
 have i_rI2:=rI2.blockIn
 have i_c:BlockIn W.world c:=BlockIn.of_cell hc2
 have gW:=W.grew
 generalize W.world=Y at *
 by_cases he:M.e=0
 ·have he':(M.e != 0)=false:=by simp[he]
  have HRz:=HR.out
  rw[if_pos he] at HRz
  have HRz:=Lib.hid HRz
  clear HR he
  go_wp2
  refine za8 (S26 bS bN qE qI qM s N2 E q v m) [] rfl ?_
  refine zaj 0 [] (v:=.agg N2.cells.toArray) rfl (by kernel_rfl) (by kernel_rfl) (by kernel_rfl) (by kernel_rfl) (fun _ _ _ h=>h) (by rfl) (⟨inferInstance,inferInstance,inferInstance,inferInstance,inferInstance⟩) (fun w' hw=>?_) ?_
  ·obtain ⟨h1,h2,h3,h4,h5⟩:=hw
   exact zbZ (b:=bN) _ _ rfl (by go_simp)
  try simp only[Act.put,List.setIfInBounds_toArray,List.set_cons_zero,List.set_cons_succ]
  refine zaj 1 [] (v:=.pointer (some ⟨bS,0,none⟩)) rfl (by kernel_rfl) (by kernel_rfl) (by kernel_rfl) (by kernel_rfl) (fun _ _ _ h=>h) (by rfl) (⟨inferInstance,inferInstance,inferInstance,inferInstance,inferInstance⟩) (fun w' hw=>?_) ?_
  ·obtain ⟨h1,h2,h3,h4,h5⟩:=hw
   go_simp
  try simp only[Act.put,List.setIfInBounds_toArray,List.set_cons_zero,List.set_cons_succ]
  refine zaj 2 [] (v:=.int .i64 s.t) rfl (by kernel_rfl) (by kernel_rfl) (by kernel_rfl) (by kernel_rfl) (fun _ _ _ h=>h) (by rfl) (⟨inferInstance,inferInstance,inferInstance,inferInstance,inferInstance⟩) (fun w' hw=>?_) ?_
  ·obtain ⟨h1,h2,h3,h4,h5⟩:=hw
   go_simp
  try simp only[Act.put,List.setIfInBounds_toArray,List.set_cons_zero,List.set_cons_succ]
  refine zaj 3 [] (v:=.pointer (some ⟨qE,0,none⟩)) rfl (by kernel_rfl) (by kernel_rfl) (by kernel_rfl) (by kernel_rfl) (fun _ _ _ h=>h) (by rfl) (⟨inferInstance,inferInstance,inferInstance,inferInstance,inferInstance⟩) (fun w' hw=>?_) ?_
  ·obtain ⟨h1,h2,h3,h4,h5⟩:=hw
   go_simp
  try simp only[Act.put,List.setIfInBounds_toArray,List.set_cons_zero,List.set_cons_succ]
  refine zaj 4 [] (v:=.int .i64 E.lo) rfl (by kernel_rfl) (by kernel_rfl) (by kernel_rfl) (by kernel_rfl) (fun _ _ _ h=>h) (by rfl) (⟨inferInstance,inferInstance,inferInstance,inferInstance,inferInstance⟩) (fun w' hw=>?_) ?_
  ·obtain ⟨h1,h2,h3,h4,h5⟩:=hw
   go_simp
  try simp only[Act.put,List.setIfInBounds_toArray,List.set_cons_zero,List.set_cons_succ]
  refine zaj 5 [] (v:=.int .i64 (imin s.t E.lo)) rfl (by kernel_rfl) (by kernel_rfl) (by kernel_rfl) (by kernel_rfl) (fun _ _ _ h=>h) (by rfl) (⟨inferInstance,inferInstance,inferInstance,inferInstance,inferInstance⟩) (fun w' hw=>?_) ?_
  ·obtain ⟨h1,h2,h3,h4,h5⟩:=hw
   go_simp
  try simp only[Act.put,List.setIfInBounds_toArray,List.set_cons_zero,List.set_cons_succ]
  refine zaj 6 [] (v:=.pointer (some ⟨bS,0,none⟩)) rfl (by kernel_rfl) (by kernel_rfl) (by kernel_rfl) (by kernel_rfl) (fun _ _ _ h=>h) (by rfl) (⟨inferInstance,inferInstance,inferInstance,inferInstance,inferInstance⟩) (fun w' hw=>?_) ?_
  ·obtain ⟨h1,h2,h3,h4,h5⟩:=hw
   go_simp
  try simp only[Act.put,List.setIfInBounds_toArray,List.set_cons_zero,List.set_cons_succ]
  refine zaj 7 [] (v:=.int .i64 s.t) rfl (by kernel_rfl) (by kernel_rfl) (by kernel_rfl) (by kernel_rfl) (fun _ _ _ h=>h) (by rfl) (⟨inferInstance,inferInstance,inferInstance,inferInstance,inferInstance⟩) (fun w' hw=>?_) ?_
  ·obtain ⟨h1,h2,h3,h4,h5⟩:=hw
   go_simp
  try simp only[Act.put,List.setIfInBounds_toArray,List.set_cons_zero,List.set_cons_succ]
  refine zaj 8 [] (v:=.pointer (some ⟨qE,0,none⟩)) rfl (by kernel_rfl) (by kernel_rfl) (by kernel_rfl) (by kernel_rfl) (fun _ _ _ h=>h) (by rfl) (⟨inferInstance,inferInstance,inferInstance,inferInstance,inferInstance⟩) (fun w' hw=>?_) ?_
  ·obtain ⟨h1,h2,h3,h4,h5⟩:=hw
   go_simp
  try simp only[Act.put,List.setIfInBounds_toArray,List.set_cons_zero,List.set_cons_succ]
  refine zaj 9 [] (v:=.int .i64 E.lo) rfl (by kernel_rfl) (by kernel_rfl) (by kernel_rfl) (by kernel_rfl) (fun _ _ _ h=>h) (by rfl) (⟨inferInstance,inferInstance,inferInstance,inferInstance,inferInstance⟩) (fun w' hw=>?_) ?_
  ·obtain ⟨h1,h2,h3,h4,h5⟩:=hw
   go_simp
  try simp only[Act.put,List.setIfInBounds_toArray,List.set_cons_zero,List.set_cons_succ]
  refine zaj 10 [] (v:=.int .i64 (imax s.t E.lo)) rfl (by kernel_rfl) (by kernel_rfl) (by kernel_rfl) (by kernel_rfl) (fun _ _ _ h=>h) (by rfl) (⟨inferInstance,inferInstance,inferInstance,inferInstance,inferInstance⟩) (fun w' hw=>?_) ?_
  ·obtain ⟨h1,h2,h3,h4,h5⟩:=hw
   go_simp
  try simp only[Act.put,List.setIfInBounds_toArray,List.set_cons_zero,List.set_cons_succ]
  refine zaj 11 [] (v:=.agg #[.int .i64 q.x.lo,.int .i64 q.x.hi,.int .i64 q.y.lo,.int .i64 q.y.hi,.int .i64 q.z.lo,.int .i64 q.z.hi,.int .i64 v.x.lo,.int .i64 v.x.hi,.int .i64 v.y.lo,.int .i64 v.y.hi,.int .i64 v.z.lo,.int .i64 v.z.hi]) rfl (by kernel_rfl) (by kernel_rfl) (by kernel_rfl) (by kernel_rfl) (fun _ _ _ h=>h) (by rfl) (⟨inferInstance,inferInstance,inferInstance,inferInstance,inferInstance⟩) (fun w' hw=>?_) ?_
  ·obtain ⟨h1,h2,h3,h4,h5⟩:=hw
   exact zbZ (b:=qI) _ _ rfl (by go_simp)
  try simp only[Act.put,List.setIfInBounds_toArray,List.set_cons_zero,List.set_cons_succ]
  refine zaj 13 [] (v:=.agg #[.int .i64 q.x.lo,.int .i64 q.x.hi,.int .i64 q.y.lo,.int .i64 q.y.hi,.int .i64 q.z.lo,.int .i64 q.z.hi,.int .i64 v.x.lo,.int .i64 v.x.hi,.int .i64 v.y.lo,.int .i64 v.y.hi,.int .i64 v.z.lo,.int .i64 v.z.hi]) rfl (by kernel_rfl) (by kernel_rfl) (by kernel_rfl) (by kernel_rfl) (fun _ _ _ h=>h) (by rfl) (⟨inferInstance,inferInstance,inferInstance,inferInstance,inferInstance⟩) (fun w' hw=>?_) ?_
  ·obtain ⟨h1,h2,h3,h4,h5⟩:=hw
   exact zbZ (b:=qI) _ _ rfl (by go_simp)
  try simp only[Act.put,List.setIfInBounds_toArray,List.set_cons_zero,List.set_cons_succ]
  refine zaj 15 [] (v:=.agg #[.int .i64 m.lo,.int .i64 m.hi]) rfl (by kernel_rfl) (by kernel_rfl) (by kernel_rfl) (by kernel_rfl) (fun _ _ _ h=>h) (by rfl) (⟨inferInstance,inferInstance,inferInstance,inferInstance,inferInstance⟩) (fun w' hw=>?_) ?_
  ·obtain ⟨h1,h2,h3,h4,h5⟩:=hw
   go_simp
  try simp only[Act.put,List.setIfInBounds_toArray,List.set_cons_zero,List.set_cons_succ]
  refine zaq 12 (by kernel_rfl) rfl fun K hK=>?_
  go_simp
  refine zaa (zfU q v _) ?_
  intro u12
  refine hK.out _ _ (fun _=>⟨inferInstance,inferInstance,inferInstance,inferInstance,inferInstance⟩) ?_
  clear hK K
  try simp only[Act.put,List.setIfInBounds_toArray,List.set_cons_zero,List.set_cons_succ]
  refine zaq 14 (by kernel_rfl) rfl fun K hK=>?_
  go_simp
  refine zaa (zb2 q v _) ?_
  intro u14
  refine hK.out _ _ (fun _=>⟨inferInstance,inferInstance,inferInstance,inferInstance,inferInstance⟩) ?_
  clear hK K
  try simp only[Act.put,List.setIfInBounds_toArray,List.set_cons_zero,List.set_cons_succ]
  refine zaj 16 [] (v:=.agg (⟨imin s.t E.lo,imax s.t E.lo,q,v,m⟩:Tube).cells.toArray) rfl (by kernel_rfl) (by kernel_rfl) (by kernel_rfl) (by kernel_rfl) (fun _ _ _ h=>h) (by rfl) (⟨inferInstance,inferInstance,inferInstance,inferInstance,inferInstance⟩) (fun w' hw=>?_) ?_
  ·skip
   exact zbm _ _ _ _ rfl (by go_simp) (zmf _ _ q v m)
  try simp only[Act.put,List.setIfInBounds_toArray,List.set_cons_zero,List.set_cons_succ]
  have hst:∀ (W:World) (b:Nat) [RowIs W b 28 N2.cells],(storeCells ⟨b,0,none⟩ N2.cells).run Tryz.prog W=.ok () (W.setRow b N2.cells.toArray):=fun W b _=>zcQ W b _ N2.cells
  have htb:∀ (W:World) (b:Nat) [RowIs W b 81 zbB.cells],(storeCells ⟨b,0,none⟩ (⟨imin s.t E.lo,imax s.t E.lo,q,v,m⟩:Tube).cells).run Tryz.prog W=.ok () (W.setRow b (⟨imin s.t E.lo,imax s.t E.lo,q,v,m⟩:Tube).cells.toArray):=fun W b _=>zdD W b (⟨imin s.t E.lo,imax s.t E.lo,q,v,m⟩:Tube).cells zbB.cells
  refine zaq 17 (by kernel_rfl) rfl fun K hK=>?_
  go_simp
  refine hK.out _ _ (fun _=>⟨inferInstance,inferInstance,inferInstance,inferInstance,inferInstance⟩) ?_
  clear hK K
  try simp only[Act.put,List.setIfInBounds_toArray,List.set_cons_zero,List.set_cons_succ]
  refine zaq 18 (by kernel_rfl) rfl fun K hK=>?_
  go_simp
  refine hK.out _ _ (fun _=>⟨inferInstance,inferInstance,inferInstance,inferInstance,inferInstance⟩) ?_
  clear hK K
  try simp only[Act.put,List.setIfInBounds_toArray,List.set_cons_zero,List.set_cons_succ]
  refine zaq 19 (by kernel_rfl) rfl fun K hK=>?_
  go_simp
  refine hK.out _ _ (fun _=>⟨inferInstance,inferInstance,inferInstance,inferInstance,inferInstance⟩) ?_
  clear hK K
  try simp only[Act.put,List.setIfInBounds_toArray,List.set_cons_zero,List.set_cons_succ]
  refine zbi (by kernel_rfl) ?_
  go_wp2
  refine bodyPost_ret (zcq Tryz.results47 rfl rfl rfl inferInstance inferInstance inferInstance inferInstance inferInstance inferInstance) rfl ?_
  exact ⟨by rw[HRz.out];rfl,gwr⟩
 ·have he':(M.e != 0)=true:=by simp[he]
  have HRz:=HR.out
  rw[if_neg he] at HRz
  have HRz:=Lib.hid HRz
  clear HR he
  go_wp2
  refine za8 (fun w'=>w'.cell? ⟨c,0,none⟩=some (.int .i64 M.e)) [] rfl ?_
  refine zaj 2 [] (v:=.pointer (some ⟨c,0,none⟩)) rfl (by kernel_rfl) (by kernel_rfl) (by kernel_rfl) (by kernel_rfl) (fun _ _ _ h=>h) (by rfl) (by go_simp) (fun w' hw=>?_) ?_
  ·skip
   go_simp
  try simp only[Act.put,List.setIfInBounds_toArray,List.set_cons_zero,List.set_cons_succ]
  refine zaj 3 [] (v:=.pointer (some ⟨c,0,none⟩)) rfl (by kernel_rfl) (by kernel_rfl) (by kernel_rfl) (by kernel_rfl) (fun _ _ _ h=>h) (by rfl) (by go_simp) (fun w' hw=>?_) ?_
  ·skip
   go_simp
  try simp only[Act.put,List.setIfInBounds_toArray,List.set_cons_zero,List.set_cons_succ]
  refine zaj 4 [] (v:=.pointer (some ⟨c,0,none⟩)) rfl (by kernel_rfl) (by kernel_rfl) (by kernel_rfl) (by kernel_rfl) (fun _ _ _ h=>h) (by rfl) (by go_simp) (fun w' hw=>?_) ?_
  ·skip
   go_simp
  try simp only[Act.put,List.setIfInBounds_toArray,List.set_cons_zero,List.set_cons_succ]
  refine zaj 5 [] (v:=.int .i64 M.e) rfl (by kernel_rfl) (by kernel_rfl) (by kernel_rfl) (by kernel_rfl) (fun _ _ _ h=>h) (by rfl) (by go_simp) (fun w' hw=>?_) ?_
  ·have hw2:w'.cell? ⟨c,0,none⟩=some (.int .i64 M.e):=hw
   go_simp
  try simp only[Act.put,List.setIfInBounds_toArray,List.set_cons_zero,List.set_cons_succ]
  refine zaj 0 [] (v:=.agg zaL.cells.toArray) rfl (by kernel_rfl) (by kernel_rfl) (by kernel_rfl) (by kernel_rfl) (fun _ _ _ h=>h) (by rfl) (by go_simp) (fun w' hw=>?_) ?_
  ·skip
   exact zbm _ _ [] _ rfl (by simp) zbY
  try simp only[Act.put,List.setIfInBounds_toArray,List.set_cons_zero,List.set_cons_succ]
  refine zaj 1 [] (v:=.agg zbB.cells.toArray) rfl (by kernel_rfl) (by kernel_rfl) (by kernel_rfl) (by kernel_rfl) (fun _ _ _ h=>h) (by rfl) (by go_simp) (fun w' hw=>?_) ?_
  ·skip
   exact zbm _ _ [] _ rfl (by simp) zcm
  try simp only[Act.put,List.setIfInBounds_toArray,List.set_cons_zero,List.set_cons_succ]
  have hst:∀ (W:World) (b:Nat) [RowIs W b 28 N2.cells],(storeCells ⟨b,0,none⟩ zaL.cells).run Tryz.prog W=.ok () (W.setRow b zaL.cells.toArray):=fun W b _=>zcQ W b _ N2.cells
  have htb:∀ (W:World) (b:Nat) [RowIs W b 81 zbB.cells],(storeCells ⟨b,0,none⟩ zbB.cells).run Tryz.prog W=.ok () (W.setRow b zbB.cells.toArray):=fun W b _=>zdD W b _ zbB.cells
  refine zaq 6 (by kernel_rfl) rfl fun K hK=>?_
  go_simp
  refine hK.out _ _ (fun _=>by go_simp) ?_
  clear hK K
  try simp only[Act.put,List.setIfInBounds_toArray,List.set_cons_zero,List.set_cons_succ]
  refine zaq 7 (by kernel_rfl) rfl fun K hK=>?_
  go_simp
  refine hK.out _ _ (fun _=>by go_simp) ?_
  clear hK K
  try simp only[Act.put,List.setIfInBounds_toArray,List.set_cons_zero,List.set_cons_succ]
  refine zaq 8 (by kernel_rfl) rfl fun K hK=>?_
  go_simp
  refine hK.out _ _ (fun _=>by go_simp) ?_
  clear hK K
  try simp only[Act.put,List.setIfInBounds_toArray,List.set_cons_zero,List.set_cons_succ]
  refine zbi (by kernel_rfl) ?_
  go_wp2
  refine bodyPost_ret (zcq Tryz.results47 rfl rfl rfl inferInstance inferInstance inferInstance inferInstance inferInstance inferInstance) rfl ?_
  exact ⟨by rw[HRz.out];rfl,gwr⟩
end Go.Proofs.YtdkfkalplmgoeaaGreat
namespace Go.Proofs.YtdkfkalplmgoeaaGreat
open Go.RowKit Go.Shelf
set_option maxRecDepth 100000
set_option maxHeartbeats 16000000
set_option linter.unusedSimpArgs false
class Less (b q:Nat):Prop where
 lt:b<q
instance ztP (v:World) (b:Nat) [h:BlockIn v b]:Less b v.heap.size:=⟨h.lt⟩
theorem RowIs.far {w:World} {b:Nat} {t:TypeId} {l:List Value} (c j:Nat) (v:Value) [k:Apart b c] (h:RowIs w b t l):RowIs (w.setCell ⟨c,j,none⟩ v) b t l:=inferInstance
theorem RowIs.lat {w:World} {b:Nat} {t:TypeId} {l:List Value} (u:Later w) (h:RowIs w b t l):RowIs u.world b t l:=inferInstance
theorem RowIs.drw {w:World} {b:Nat} {t:TypeId} {l:List Value} (h:RowIs w b t l):RowIs w.drew b t l:=inferInstance
theorem RowIs.putAt {w:World} {b:Nat} {t:TypeId} {l:List Value} (j:Nat) (v:Value) (h:RowIs w b t l):RowIs (w.setCell ⟨b,j,none⟩ v) b t (l.set j v):=inferInstance
def lgE (s:State) (h:Int) (F:BRes):Nat→Int
 |0=>(laK h F).e
 |1=>(laG0 s h F).e
 |2=>(laG1 s h F).e
 |_=>(laG2 s h F).e
def axAt (b:Bx):Nat→Sp
 |0=>b.x
 |1=>b.y
 |_=>b.z
instance ze8 (b:Bx) [h:B64 b] (k:Nat):S64 (axAt b k):=by
 unfold axAt
 split
 ·exact h.x
 ·exact h.y
 ·exact h.z
def nxS (s:State) (h t:Int) (F:BRes) (k:Nat):State:=
 ⟨t,⟨if 0<k then (laD0 s h F).s else z0,if 1<k then (laD1 s h F).s else z0,if 2<k then (laD2 s h F).s else z0⟩,⟨if 0<k then (laG0 s h F).s else z0,if 1<k then (laG1 s h F).s else z0,if 2<k then (laG2 s h F).s else z0⟩,z0⟩
instance zu1 (t:Int):Built 28 [(0,.int .i64 t)] [.int .i64 t,.int .i64 0,.int .i64 0,.int .i64 0,.int .i64 0,.int .i64 0,.int .i64 0,.int .i64 0,.int .i64 0,.int .i64 0,.int .i64 0,.int .i64 0,.int .i64 0,.int .i64 0,.int .i64 0]:=⟨zjD t⟩
theorem zn3 (s:State) (h:Int) (F:BRes) (k:Nat) (hk:k<3):lgE s h F (k+1)=(lpG ⟨h,h⟩ (laK h F).s (axAt s.p k) (axAt s.v k) (axAt F.b k) (lgE s h F k)).e:=by
 rcases (show k=0∨k=1∨k=2 by omega) with rfl|rfl|rfl<;>rfl
def nxL (N:State):List Value:=[.int .i64 N.t,.int .i64 N.p.x.lo,.int .i64 N.p.x.hi,.int .i64 N.p.y.lo,.int .i64 N.p.y.hi,.int .i64 N.p.z.lo,.int .i64 N.p.z.hi,.int .i64 N.v.x.lo,.int .i64 N.v.x.hi,.int .i64 N.v.y.lo,.int .i64 N.v.y.hi,.int .i64 N.v.z.lo,.int .i64 N.v.z.hi,.int .i64 N.m.lo,.int .i64 N.m.hi]
theorem zol (s:State) (h t:Int) (F:BRes) (k:Nat) (hk:k<3) (D G:Sp) (hD:lpD ⟨h,h⟩ (laK h F).s (axAt s.p k) (axAt s.v k) (axAt F.b k) (lgE s h F k)=⟨D,(lpD ⟨h,h⟩ (laK h F).s (axAt s.p k) (axAt s.v k) (axAt F.b k) (lgE s h F k)).e⟩) (hG:(lpG ⟨h,h⟩ (laK h F).s (axAt s.p k) (axAt s.v k) (axAt F.b k) (lgE s h F k)).s=G) :
 nxL (nxS s h t F (k+1))=((((nxL (nxS s h t F k)).set (1+k*2) (.int .i64 D.lo)).set (1+k*2+1) (.int .i64 D.hi)).set (7+k*2) (.int .i64 G.lo)).set (7+k*2+1) (.int .i64 G.hi):=by
 have hD':=congrArg Res.s hD
 simp only at hD'
 rcases (show k=0∨k=1∨k=2 by omega) with rfl|rfl|rfl
 ·have e1:(laD0 s h F).s=D:=hD'
  have e2:(laG0 s h F).s=G:=hG
  unfold nxL nxS
  simp[e1,e2]
 ·have e1:(laD1 s h F).s=D:=hD'
  have e2:(laG1 s h F).s=G:=hG
  unfold nxL nxS
  simp[e1,e2]
 ·have e1:(laD2 s h F).s=D:=hD'
  have e2:(laG2 s h F).s=G:=hG
  unfold nxL nxS
  simp[e1,e2]
theorem ze7 {w:World} {b:Nat} {t:TypeId} {l:List Value} (h:RowIs w b t l) (i:Nat) (v:Value) (e:l[i]?=some v):w.cell? ⟨b,i,none⟩=some v:=(zem w b i t l).trans e
theorem zsB {w:World} {q:Nat} {s:State} (h:RowIs w q 28 [.int .i64 s.t,.int .i64 s.p.x.lo,.int .i64 s.p.x.hi,.int .i64 s.p.y.lo,.int .i64 s.p.y.hi,.int .i64 s.p.z.lo,.int .i64 s.p.z.hi,.int .i64 s.v.x.lo,.int .i64 s.v.x.hi,.int .i64 s.v.y.lo,.int .i64 s.v.y.hi,.int .i64 s.v.z.lo,.int .i64 s.v.z.hi,.int .i64 s.m.lo,.int .i64 s.m.hi]) (k:Nat) (hk:k<3):(w.cell? ⟨q,1+k*2,none⟩=some (.int .i64 (axAt s.p k).lo)∧w.cell? ⟨q,1+k*2+1,none⟩=some (.int .i64 (axAt s.p k).hi))∧w.cell? ⟨q,7+k*2,none⟩=some (.int .i64 (axAt s.v k).lo)∧w.cell? ⟨q,7+k*2+1,none⟩=some (.int .i64 (axAt s.v k).hi):=by
 rcases (show k=0∨k=1∨k=2 by omega) with rfl|rfl|rfl<;>exact ⟨⟨ze7 h _ _ rfl,ze7 h _ _ rfl⟩,ze7 h _ _ rfl,ze7 h _ _ rfl⟩
theorem zpD {w:World} {q:Nat} {b:Bx} (h:RowIs w q 26 [.int .i64 b.x.lo,.int .i64 b.x.hi,.int .i64 b.y.lo,.int .i64 b.y.hi,.int .i64 b.z.lo,.int .i64 b.z.hi]) (k:Nat) (hk:k<3):w.cell? ⟨q,k*2,none⟩=some (.int .i64 (axAt b k).lo)∧w.cell? ⟨q,k*2+1,none⟩=some (.int .i64 (axAt b k).hi):=by
 rcases (show k=0∨k=1∨k=2 by omega) with rfl|rfl|rfl<;>exact ⟨ze7 h _ _ rfl,ze7 h _ _ rfl⟩
theorem zq1 {w:World} {q:Nat} {N:State} (h:RowIs w q 28 (nxL N)) (k:Nat) (hk:k<3):(HasCell w q (1+k*2)∧HasCell w q (1+k*2+1))∧HasCell w q (7+k*2)∧HasCell w q (7+k*2+1):=by
 rcases (show k=0∨k=1∨k=2 by omega) with rfl|rfl|rfl<;>exact ⟨⟨⟨_,ze7 h _ _ rfl⟩,⟨_,ze7 h _ _ rfl⟩⟩,⟨_,ze7 h _ _ rfl⟩,⟨_,ze7 h _ _ rfl⟩⟩
structure StD (w:World) (c bM bS bN bT qE qM qI qF qL qK:Nat) (pP:Planet) (x:Arc) (s:State) (h t:Int) (F:BRes) (q v:Bx) (E m:Sp) (k:Nat) (N:State) (wr:World):Prop where
 g:Grew w wr
 cell:wr.cell? ⟨c,0,none⟩=some (.int .i64 (lgE s h F k))
 mark:wr.frozen? ⟨c,0,none⟩=false
 rM:RowIs wr bM 101 (zak pP x)
 rS:RowIs wr bS 28 [.int .i64 s.t,.int .i64 s.p.x.lo,.int .i64 s.p.x.hi,.int .i64 s.p.y.lo,.int .i64 s.p.y.hi,.int .i64 s.p.z.lo,.int .i64 s.p.z.hi,.int .i64 s.v.x.lo,.int .i64 s.v.x.hi,.int .i64 s.v.y.lo,.int .i64 s.v.y.hi,.int .i64 s.v.z.lo,.int .i64 s.v.z.hi,.int .i64 s.m.lo,.int .i64 s.m.hi]
 rN:RowIs wr bN 28 (nxL N)
 rT:RowIs wr bT 81 [.int .i64 0,.int .i64 0,.int .i64 0,.int .i64 0,.int .i64 0,.int .i64 0,.int .i64 0,.int .i64 0,.int .i64 0,.int .i64 0,.int .i64 0,.int .i64 0,.int .i64 0,.int .i64 0,.int .i64 0,.int .i64 0]
 rE:RowIs wr qE 24 [.int .i64 E.lo,.int .i64 E.hi]
 rm:RoAt wr qM [.int .i64 m.lo,.int .i64 m.hi]
 rI:RowIs wr qI 163 [.int .i64 q.x.lo,.int .i64 q.x.hi,.int .i64 q.y.lo,.int .i64 q.y.hi,.int .i64 q.z.lo,.int .i64 q.z.hi,.int .i64 v.x.lo,.int .i64 v.x.hi,.int .i64 v.y.lo,.int .i64 v.y.hi,.int .i64 v.z.lo,.int .i64 v.z.hi]
 rF:RowIs wr qF 26 [.int .i64 F.b.x.lo,.int .i64 F.b.x.hi,.int .i64 F.b.y.lo,.int .i64 F.b.y.hi,.int .i64 F.b.z.lo,.int .i64 F.b.z.hi]
 rL:RowIs wr qL 24 [.int .i64 h,.int .i64 h]
 rK:RowIs wr qK 24 [.int .i64 ((laK h F).s).lo,.int .i64 ((laK h F).s).hi]
theorem zrF (pP:Planet) (x:Arc) (s:State) (h t:Int) (F:BRes) (q v:Bx) (E m:Sp) [Pl64 pP] [hs:St64 s] [hh:S64 (⟨h,h⟩:Sp)] [hxf:S64 x.flow] [hF:B64 F.b] (bM bS bN bT c qE qM qI qF qL qK:Nat) (w wc:World) (hE:E.lo=t)
 (hD0:StD w c bM bS bN bT qE qM qI qF qL qK pP x s h t F q v E m 0 (nxS s h t F 0) wc) (n1:NewFor w bN) (n2:NewFor w bT) (n3:NewFor w c) (hd:bM<bN∧bS<bN∧bN<bT∧bT<c) (l1:Less c qE) (l2:Less c qM) (l3:Less c qI) (l4:Less c qF) (l5:Less c qL) (l6:Less c qK) (u5 u11 u13 u15 u19 u20 u21 u22 u23 u24 u25 u26 u27 u28 u29 u30 u31 u32 u33 u34 u35 u36 u37 u38 u39 u40 u41 u42 u43 u44 u45 u46 u47 u48 u49 u50 u51 u52 u53 u54 u55 u56 u57 u58 u59 u60 u61 u62 u63 u64 u65 u66 u67 u68 u69 u70 u71 u72 u73 u74 u75 u76 u77 u78 u79 u80 u81 u82 u83 u84 u85 u86 u87 u88 u89 u90 u91 u92 u93 u94 u95 u96 u97 u98 u99 u100 u101 u102 u103 u104 u105 u106 u107 u108 u109 u110 u111 u112 u113 u114 u115 u116 u117 u118 u119 u120 u121 u122 u123 u124 u125 u126 u127 u128 u129 u130 u131 u132 u133 u134 u135 u136 u137 u138 u139 u140 u141 u142 u143 u144 u145 u146 u147 u148 u149 u150 u151 u152 u153 u154 u155 u156 u157 u158 u159 u160 u161 u162 u163 u164 u165 u166 u167 u168 u169 u170 u171 u172 u173 u174 u175 u176 u177 u178 u179 u180 u181 u182 u183 u184 u185:Value) :
 (tlC (tlC (tlC (tlC (tlC (tlC (tlC (tlC (tlC (tlC (tlC (tlC (tlC (Tryz.f47.body.getD .skip)))))))))))))).wp Tryz.prog (bodyPost Tryz.prog Tryz.f47 (zhv (zeb x s h t ⟨imin s.t t,imax s.t t,q,v,m⟩ F) w)) { tmps:=#[.agg (zak pP x).toArray,.agg #[.int .i64 s.t,.int .i64 s.p.x.lo,.int .i64 s.p.x.hi,.int .i64 s.p.y.lo,.int .i64 s.p.y.hi,.int .i64 s.p.z.lo,.int .i64 s.p.z.hi,.int .i64 s.v.x.lo,.int .i64 s.v.x.hi,.int .i64 s.v.y.lo,.int .i64 s.v.y.hi,.int .i64 s.v.z.lo,.int .i64 s.v.z.hi,.int .i64 s.m.lo,.int .i64 s.m.hi],.int .i64 h,.pointer (some ⟨bM,0,none⟩),.pointer (some ⟨bS,0,none⟩),u5,.pointer (some ⟨bN,0,none⟩),.pointer (some ⟨bT,0,none⟩),.int .i64 0,.pointer (some ⟨c,0,none⟩),.pointer (some ⟨qE,0,none⟩),u11,.pointer (some ⟨qM,0,none⟩),u13,.pointer (some ⟨qI,0,none⟩),u15,.pointer (some ⟨qF,0,none⟩),.pointer (some ⟨qL,0,none⟩),.pointer (some ⟨qK,0,none⟩),u19,u20,u21,u22,u23,u24,u25,u26,u27,u28,u29,u30,u31,u32,u33,u34,u35,u36,u37,u38,u39,u40,u41,u42,u43,u44,u45,u46,u47,u48,u49,u50,u51,u52,u53,u54,u55,u56,u57,u58,u59,u60,u61,u62,u63,u64,u65,u66,u67,u68,u69,u70,u71,u72,u73,u74,u75,u76,u77,u78,u79,u80,u81,u82,u83,u84,u85,u86,u87,u88,u89,u90,u91,u92,u93,u94,u95,u96,u97,u98,u99,u100,u101,u102,u103,u104,u105,u106,u107,u108,u109,u110,u111,u112,u113,u114,u115,u116,u117,u118,u119,u120,u121,u122,u123,u124,u125,u126,u127,u128,u129,u130,u131,u132,u133,u134,u135,u136,u137,u138,u139,u140,u141,u142,u143,u144,u145,u146,u147,u148,u149,u150,u151,u152,u153,u154,u155,u156,u157,u158,u159,u160,u161,u162,u163,u164,u165,u166,u167,u168,u169,u170,u171,u172,u173,u174,u175,u176,u177,u178,u179,u180,u181,u182,u183,u184,u185],defers:=[] } wc:=by
 have l1':=l1.lt
 have l2':=l2.lt
 have l3':=l3.lt
 have l4':=l4.lt
 have l5':=l5.lt
 have l6':=l6.lt
 have:Apart bM c:=⟨by omega⟩
 have:Apart bS c:=⟨by omega⟩
 have:Apart bN c:=⟨by omega⟩
 have:Apart bT c:=⟨by omega⟩
 have:Apart qE c:=⟨by omega⟩
 have:Apart qM c:=⟨by omega⟩
 have:Apart qI c:=⟨by omega⟩
 have:Apart qL c:=⟨by omega⟩
 have:Apart qF c:=⟨by omega⟩
 have:Apart qK c:=⟨by omega⟩
 have:Apart bM bN:=⟨by omega⟩
 have:Apart bS bN:=⟨by omega⟩
 have:Apart bT bN:=⟨by omega⟩
 have:Apart c bN:=⟨by omega⟩
 have:Apart qE bN:=⟨by omega⟩
 have:Apart qM bN:=⟨by omega⟩
 have:Apart qI bN:=⟨by omega⟩
 have:Apart qL bN:=⟨by omega⟩
 have:Apart qF bN:=⟨by omega⟩
 have:Apart qK bN:=⟨by omega⟩
 have:Apart bM bT:=⟨by omega⟩
 have:Apart bS bT:=⟨by omega⟩
 have:Apart bN bT:=⟨by omega⟩
 have:Apart c bT:=⟨by omega⟩
 have:Apart qE bT:=⟨by omega⟩
 have:Apart qM bT:=⟨by omega⟩
 have:Apart qI bT:=⟨by omega⟩
 have:Apart qL bT:=⟨by omega⟩
 have:Apart qF bT:=⟨by omega⟩
 have:Apart qK bT:=⟨by omega⟩
 have HK:=Lib.hid (fun wx g hc hf rM rS rN rT rE rm rI rL=>zrG pP x s h t F q v E m (nxS s h t F 3) bM bS bN bT c qE qM qI qL w wx g hc hf rfl hE rM rS rN rT rE rm rI rL n1 n2 n3 ⟨hd.1,hd.2.1,hd.2.2.1,hd.2.2.2,l1',l2',l3',l5'⟩)
 have:S64 (laK h F).s:=zam _ _
 have HLG:=Lib.hid (zn3 s h F)
 have HNX:=Lib.hid (zol s h t F)
 clear hE
 obtain ⟨hg,hc,hf,rM,rS,rN,rT,rE,rm,rI,rF,rL,rK⟩:=hD0
 have i_c:BlockIn wc c:=BlockIn.of_cell hc
 have hci:HasCell wc c 0:=⟨_,hc⟩
 have i_rM:=rM.blockIn
 have i_rS:=rS.blockIn
 have i_rN:=rN.blockIn
 have i_rT:=rT.blockIn
 have i_rE:=rE.blockIn
 have i_rm:=rm.blockIn
 have i_rI:=rI.blockIn
 have i_rF:=rF.blockIn
 have i_rL:=rL.blockIn
 have i_rK:=rK.blockIn
 conv=>arg 2;dsimp only[tlC,Tryz.f47,Option.getD]
 go_wp2
 go_loopw [104] (fun tv wr=>∃ k:Nat,tv=.int .i64 k∧k≤3∧Hid (StD w c bM bS bN bT qE qM qI qF qL qK pP x s h t F q v E m k (nxS s h t F k) wr)) (fun tv _=>3-(intOf tv).toNat)
 case atStart=>exact ⟨0,rfl,by omega,Lib.hid ⟨gwr,by go_simp,by go_simp,inferInstance,inferInstance,inferInstance,inferInstance,inferInstance,inferInstance,inferInstance,inferInstance,inferInstance,inferInstance⟩⟩
 case round=>
  obtain ⟨k,rfl,hk,hDk⟩:=hrel
  obtain ⟨hg,hc,hf,rM,rS,rN,rT,rE,rm,rI,rF,rL,rK⟩:=hDk.out
  clear hDk i_c hci
  have i_c:BlockIn wr c:=BlockIn.of_cell hc
  have hci:HasCell wr c 0:=⟨_,hc⟩
  have i_rM:=rM.blockIn
  have i_rS:=rS.blockIn
  have i_rN:=rN.blockIn
  have i_rT:=rT.blockIn
  have i_rE:=rE.blockIn
  have i_rm:=rm.blockIn
  have i_rI:=rI.blockIn
  have i_rF:=rF.blockIn
  have i_rL:=rL.blockIn
  have i_rK:=rK.blockIn
  have HrM:=Lib.hid rM
  have HrS:=Lib.hid rS
  have HrN:=Lib.hid rN
  have HrT:=Lib.hid rT
  have HrE:=Lib.hid rE
  have Hrm:=Lib.hid rm
  have HrI:=Lib.hid rI
  have HrF:=Lib.hid rF
  have HrL:=Lib.hid rL
  have HrK:=Lib.hid rK
  by_cases hlt:k<3
  ·obtain ⟨⟨x1,x2⟩,x3,x4⟩:=zsB rS k hlt
   obtain ⟨x5,x6⟩:=zpD rF k hlt
   obtain ⟨⟨hc1,hc2⟩,hc3,hc4⟩:=zq1 rN k hlt
   obtain ⟨z1,y1⟩:=hc1.is
   obtain ⟨z2,y2⟩:=hc2.is
   obtain ⟨z3,y3⟩:=hc3.is
   obtain ⟨z4,y4⟩:=hc4.is
   have hfN:∀ i,wr.frozen? ⟨bN,i,none⟩=false:=fun i=>zd3 _ _ _ _ _
   have hk3:(k:Int)<3:=by omega
   have HL1:=Lib.hid (HLG.out k hlt)
   have HN1:=Lib.hid (HNX.out k hlt)
   clear HLG HNX HK rM rS rN rT rE rm rI rF
   have sp:=ze8 s.p k
   have sv:=ze8 s.v k
   have sf:=ze8 F.b k
   generalize axAt s.p k=o at *
   generalize axAt s.v k=vv at *
   generalize axAt F.b k=f at *
   generalize lgE s h F k=e at *
   have sA:S64 (lpA ⟨h,h⟩ vv e).s:=zam _ _
   have sB:S64 (lpB ⟨h,h⟩ o vv e).s:=zam _ _
   have sC:S64 (lpC ⟨h,h⟩ (laK h F).s o vv f e).s:=zam _ _
   have sE:S64 (lpE ⟨h,h⟩ (laK h F).s o vv f e).s:=zam _ _
   have K1:=Lib.hid (fun w hc hf=>show Calls Tryz.prog 100 #[.pointer (some ⟨c,0,none⟩),.agg #[.int .i64 h,.int .i64 h],.agg #[.int .i64 vv.lo,.int .i64 vv.hi]] w (RetC c (.agg #[.int .i64 ((lpA ⟨h,h⟩ vv e).s).lo,.int .i64 ((lpA ⟨h,h⟩ vv e).s).hi]) (lpA ⟨h,h⟩ vv e).e w) from zb1 c e ⟨h,h⟩ vv w hc hf)
   have K2:=Lib.hid (fun w hc hf=>show Calls Tryz.prog 97 #[.pointer (some ⟨c,0,none⟩),.agg #[.int .i64 o.lo,.int .i64 o.hi],.agg #[.int .i64 ((lpA ⟨h,h⟩ vv e).s).lo,.int .i64 ((lpA ⟨h,h⟩ vv e).s).hi]] w (RetC c (.agg #[.int .i64 ((lpB ⟨h,h⟩ o vv e).s).lo,.int .i64 ((lpB ⟨h,h⟩ o vv e).s).hi]) (lpB ⟨h,h⟩ o vv e).e w) from zdi c (lpA ⟨h,h⟩ vv e).e o (lpA ⟨h,h⟩ vv e).s w hc hf)
   have K3:=Lib.hid (fun w hc hf=>show Calls Tryz.prog 100 #[.pointer (some ⟨c,0,none⟩),.agg #[.int .i64 ((laK h F).s).lo,.int .i64 ((laK h F).s).hi],.agg #[.int .i64 f.lo,.int .i64 f.hi]] w (RetC c (.agg #[.int .i64 ((lpC ⟨h,h⟩ (laK h F).s o vv f e).s).lo,.int .i64 ((lpC ⟨h,h⟩ (laK h F).s o vv f e).s).hi]) (lpC ⟨h,h⟩ (laK h F).s o vv f e).e w) from zb1 c (lpB ⟨h,h⟩ o vv e).e (laK h F).s f w hc hf)
   have K4:=Lib.hid (fun w hc hf=>show Calls Tryz.prog 97 #[.pointer (some ⟨c,0,none⟩),.agg #[.int .i64 ((lpB ⟨h,h⟩ o vv e).s).lo,.int .i64 ((lpB ⟨h,h⟩ o vv e).s).hi],.agg #[.int .i64 ((lpC ⟨h,h⟩ (laK h F).s o vv f e).s).lo,.int .i64 ((lpC ⟨h,h⟩ (laK h F).s o vv f e).s).hi]] w (RetC c (.agg #[.int .i64 ((lpD ⟨h,h⟩ (laK h F).s o vv f e).s).lo,.int .i64 ((lpD ⟨h,h⟩ (laK h F).s o vv f e).s).hi]) (lpD ⟨h,h⟩ (laK h F).s o vv f e).e w) from zdi c (lpC ⟨h,h⟩ (laK h F).s o vv f e).e (lpB ⟨h,h⟩ o vv e).s (lpC ⟨h,h⟩ (laK h F).s o vv f e).s w hc hf)
   have K5:=Lib.hid (fun w hc hf=>show Calls Tryz.prog 100 #[.pointer (some ⟨c,0,none⟩),.agg #[.int .i64 h,.int .i64 h],.agg #[.int .i64 f.lo,.int .i64 f.hi]] w (RetC c (.agg #[.int .i64 ((lpE ⟨h,h⟩ (laK h F).s o vv f e).s).lo,.int .i64 ((lpE ⟨h,h⟩ (laK h F).s o vv f e).s).hi]) (lpE ⟨h,h⟩ (laK h F).s o vv f e).e w) from zb1 c (lpD ⟨h,h⟩ (laK h F).s o vv f e).e ⟨h,h⟩ f w hc hf)
   have K6:=Lib.hid (fun w hc hf=>show Calls Tryz.prog 97 #[.pointer (some ⟨c,0,none⟩),.agg #[.int .i64 vv.lo,.int .i64 vv.hi],.agg #[.int .i64 ((lpE ⟨h,h⟩ (laK h F).s o vv f e).s).lo,.int .i64 ((lpE ⟨h,h⟩ (laK h F).s o vv f e).s).hi]] w (RetC c (.agg #[.int .i64 ((lpG ⟨h,h⟩ (laK h F).s o vv f e).s).lo,.int .i64 ((lpG ⟨h,h⟩ (laK h F).s o vv f e).s).hi]) (lpG ⟨h,h⟩ (laK h F).s o vv f e).e w) from zdi c (lpE ⟨h,h⟩ (laK h F).s o vv f e).e vv (lpE ⟨h,h⟩ (laK h F).s o vv f e).s w hc hf)
   have HN2:=Lib.hid (HN1.out (lpD ⟨h,h⟩ (laK h F).s o vv f e).s (lpG ⟨h,h⟩ (laK h F).s o vv f e).s rfl rfl)
   clear HN1 sA sB sC sE
   generalize lpG ⟨h,h⟩ (laK h F).s o vv f e=gG at *
   generalize lpE ⟨h,h⟩ (laK h F).s o vv f e=gE at *
   generalize lpD ⟨h,h⟩ (laK h F).s o vv f e=gD at *
   generalize lpC ⟨h,h⟩ (laK h F).s o vv f e=gC at *
   generalize lpB ⟨h,h⟩ o vv e=gB at *
   generalize lpA ⟨h,h⟩ vv e=gA at *
   go_wp2
   refine zaf c [e,gA.e,gB.e,gC.e,gD.e] 24 [] [13,14,20,21] [] (fun W0=>[]) [.agg #[.int .i64 gA.s.lo,.int .i64 gA.s.hi],.agg #[.int .i64 gB.s.lo,.int .i64 gB.s.hi],.agg #[.int .i64 gC.s.lo,.int .i64 gC.s.hi],.agg #[.int .i64 gD.s.lo,.int .i64 gD.s.hi]] [24] (by rfl) (by go_simp) (by go_simp) (fun _ _ x hx=>absurd hx (List.not_mem_nil)) (by kernel_rfl) (by kernel_rfl) (by kernel_rfl) ?_
   intro pz hd0
   apply Exists.intro
   apply And.intro
   iterate 13 (apply zae hd0 (by kernel_rfl);(· intro uz xc;unfold zai;go_simp;rfl))
   apply zad hd0 0 (by kernel_rfl) (by rfl) (by decide)
   ·intro uz hfz hF;clear hF;unfold zah;go_simp;exact K1.out _ (by go_simp) hfz
   apply zad hd0 1 (by kernel_rfl) (by rfl) (by decide)
   ·intro uz hfz hF;clear hF;unfold zah;go_simp;exact K2.out _ (by go_simp) hfz
   iterate 5 (apply zae hd0 (by kernel_rfl);(· intro uz xc;unfold zai;go_simp;rfl))
   apply zad hd0 2 (by kernel_rfl) (by rfl) (by decide)
   ·intro uz hfz hF;clear hF;unfold zah;go_simp;exact K3.out _ (by go_simp) hfz
   apply zad hd0 3 (by kernel_rfl) (by rfl) (by decide)
   ·intro uz hfz hF;clear hF;unfold zah;go_simp;exact K4.out _ (by go_simp) hfz
   iterate 2 (apply zae hd0 (by kernel_rfl);(· intro uz xc;unfold zai;go_simp;rfl))
   apply zax
   rotate_left
   ·rfl
   intro uz hR hD hfz
   clear hR hD
   refine zag (by rfl) ?_;unfold zap;go_simp
   refine zao ?_
   go_wp2
   refine zaf c [gD.e,gE.e,gG.e] 15 [] [11,12] [] (fun W0=>[]) [.agg #[.int .i64 gE.s.lo,.int .i64 gE.s.hi],.agg #[.int .i64 gG.s.lo,.int .i64 gG.s.hi]] [15] (by rfl) (by go_simp) (by go_simp) (fun _ _ x hx=>absurd hx (List.not_mem_nil)) (by kernel_rfl) (by kernel_rfl) (by kernel_rfl) ?_
   intro pz hd0
   apply Exists.intro
   apply And.intro
   iterate 11 (apply zae hd0 (by kernel_rfl);(· intro uz xc;unfold zai;go_simp;rfl))
   apply zad hd0 0 (by kernel_rfl) (by rfl) (by decide)
   ·intro uz hfz hF;clear hF;unfold zah;go_simp;exact K5.out _ (by go_simp) hfz
   apply zad hd0 1 (by kernel_rfl) (by rfl) (by decide)
   ·intro uz hfz hF;clear hF;unfold zah;go_simp;exact K6.out _ (by go_simp) hfz
   iterate 2 (apply zae hd0 (by kernel_rfl);(· intro uz xc;unfold zai;go_simp;rfl))
   apply zax
   rotate_left
   ·rfl
   intro uz hR hD hfz
   clear hR hD
   refine zag (by rfl) ?_;unfold zap;go_simp
   refine zao ?_
   go_wp2
   go_roundw
   case rel=>
    refine ⟨k+1,by go_num,by omega,Lib.hid ⟨?_,?_,?_,?_,?_,?_,?_,?_,?_,?_,?_,?_,?_⟩⟩
    ·exact gwr
    ·rw[HL1.out];go_simp
    ·go_simp
    ·exact (by repeat (first|exact HrM.out|apply RowIs.far|apply RowIs.lat|apply RowIs.drw|apply RoAt.far|apply RoAt.lat|apply RoAt.drw))
    ·exact (by repeat (first|exact HrS.out|apply RowIs.far|apply RowIs.lat|apply RowIs.drw|apply RoAt.far|apply RoAt.lat|apply RoAt.drw))
    ·rw[HN2.out];repeat (first|exact HrN.out|apply RowIs.putAt|apply RowIs.far|apply RowIs.lat|apply RowIs.drw)
    ·exact (by repeat (first|exact HrT.out|apply RowIs.far|apply RowIs.lat|apply RowIs.drw|apply RoAt.far|apply RoAt.lat|apply RoAt.drw))
    ·exact (by repeat (first|exact HrE.out|apply RowIs.far|apply RowIs.lat|apply RowIs.drw|apply RoAt.far|apply RoAt.lat|apply RoAt.drw))
    ·exact (by repeat (first|exact Hrm.out|apply RowIs.far|apply RowIs.lat|apply RowIs.drw|apply RoAt.far|apply RoAt.lat|apply RoAt.drw))
    ·exact (by repeat (first|exact HrI.out|apply RowIs.far|apply RowIs.lat|apply RowIs.drw|apply RoAt.far|apply RoAt.lat|apply RoAt.drw))
    ·exact (by repeat (first|exact HrF.out|apply RowIs.far|apply RowIs.lat|apply RowIs.drw|apply RoAt.far|apply RoAt.lat|apply RoAt.drw))
    ·exact (by repeat (first|exact HrL.out|apply RowIs.far|apply RowIs.lat|apply RowIs.drw|apply RoAt.far|apply RoAt.lat|apply RoAt.drw))
    ·exact (by repeat (first|exact HrK.out|apply RowIs.far|apply RowIs.lat|apply RowIs.drw|apply RoAt.far|apply RoAt.lat|apply RoAt.drw))
   case measure=>simp[intOf];omega
  ·obtain rfl:k=3:=by omega
   have HK2:=Lib.hid (HK.out wr hg hc hf rM rS rN rT rE rm rI rL)
   clear HK HLG HNX
   iterate 16 go_step
   exact HK2.out _ _ _ _ _ _ _ _ _ _ _ _ _ _ _ _ _ _ _ _ _ _ _ _ _ _ _ _ _ _ _ _ _ _ _ _ _ _ _ _ _ _ _ _ _ _ _ _ _ _ _ _ _ _ _ _ _ _ _ _ _ _ _ _ _ _ _ _ _ _ _ _ _ _ _ _ _ _ _ _ _ _ _ _ _ _ _ _ _ _ _ _ _ _ _ _ _ _ _ _ _ _ _ _ _ _ _ _ _ _ _ _ _ _ _ _ _ _ _ _ _ _ _ _ _ _ _ _ _ _ _ _ _ _ _ _ _ _ _ _ _ _ _ _ _ _ _ _ _ _ _ _ _ _ _ _ _ _ _ _ _ _ _ _ _ _ _ _ _ _ _ _ _
end Go.Proofs.YtdkfkalplmgoeaaGreat
namespace Go.Proofs.YtdkfkalplmgoeaaGreat
open Go.RowKit Go.Shelf
set_option maxRecDepth 100000
set_option maxHeartbeats 16000000
set_option linter.unusedSimpArgs false
structure StC (w:World) (c bM bS bN bT qE qM qI:Nat) (pP:Planet) (x:Arc) (s:State) (q v:Bx) (E m:Sp) (e:Int) (wr:World):Prop where
 g:Grew w wr
 cell:wr.cell? ⟨c,0,none⟩=some (.int .i64 e)
 mark:wr.frozen? ⟨c,0,none⟩=false
 rM:RowIs wr bM 101 (zak pP x)
 rS:RowIs wr bS 28 [.int .i64 s.t,.int .i64 s.p.x.lo,.int .i64 s.p.x.hi,.int .i64 s.p.y.lo,.int .i64 s.p.y.hi,.int .i64 s.p.z.lo,.int .i64 s.p.z.hi,.int .i64 s.v.x.lo,.int .i64 s.v.x.hi,.int .i64 s.v.y.lo,.int .i64 s.v.y.hi,.int .i64 s.v.z.lo,.int .i64 s.v.z.hi,.int .i64 s.m.lo,.int .i64 s.m.hi]
 rN:RowIs wr bN 28 [.int .i64 0,.int .i64 0,.int .i64 0,.int .i64 0,.int .i64 0,.int .i64 0,.int .i64 0,.int .i64 0,.int .i64 0,.int .i64 0,.int .i64 0,.int .i64 0,.int .i64 0,.int .i64 0,.int .i64 0]
 rT:RowIs wr bT 81 [.int .i64 0,.int .i64 0,.int .i64 0,.int .i64 0,.int .i64 0,.int .i64 0,.int .i64 0,.int .i64 0,.int .i64 0,.int .i64 0,.int .i64 0,.int .i64 0,.int .i64 0,.int .i64 0,.int .i64 0,.int .i64 0]
 rE:RowIs wr qE 24 [.int .i64 E.lo,.int .i64 E.hi]
 rm:RoAt wr qM [.int .i64 m.lo,.int .i64 m.hi]
 rI:RowIs wr qI 163 [.int .i64 q.x.lo,.int .i64 q.x.hi,.int .i64 q.y.lo,.int .i64 q.y.hi,.int .i64 q.z.lo,.int .i64 q.z.hi,.int .i64 v.x.lo,.int .i64 v.x.hi,.int .i64 v.y.lo,.int .i64 v.y.hi,.int .i64 v.z.lo,.int .i64 v.z.hi]
theorem zrE (pP:Planet) (x:Arc) (s:State) (h t:Int) (F:BRes) (q v:Bx) (E m:Sp) [Pl64 pP] [hs:St64 s] [hh:S64 (⟨h,h⟩:Sp)] [hxf:S64 x.flow] [hF:B64 F.b] (bM bS bN bT c qE qM qI:Nat) (w wc:World) (hE:E.lo=t)
 (HF0:∀ w',Grew w w'→(w'.cell? ⟨c,0,none⟩=some (.int .i64 0))→w'.frozen? ⟨c,0,none⟩=false→Calls Tryz.prog 103 #[.agg (zak pP x).toArray,.pointer (some ⟨c,0,none⟩),.agg #[.int .i64 q.x.lo,.int .i64 q.x.hi,.int .i64 q.y.lo,.int .i64 q.y.hi,.int .i64 q.z.lo,.int .i64 q.z.hi,.int .i64 v.x.lo,.int .i64 v.x.hi,.int .i64 v.y.lo,.int .i64 v.y.hi,.int .i64 v.z.lo,.int .i64 v.z.hi],.agg #[.int .i64 m.lo,.int .i64 m.hi]] w' (RetC c (.agg #[.int .i64 F.b.x.lo,.int .i64 F.b.x.hi,.int .i64 F.b.y.lo,.int .i64 F.b.y.hi,.int .i64 F.b.z.lo,.int .i64 F.b.z.hi]) F.e w'))
 (hC0:StC w c bM bS bN bT qE qM qI pP x s q v E m 0 wc) (n1:NewFor w bN) (n2:NewFor w bT) (n3:NewFor w c) (hd:bM<bN∧bS<bN∧bN<bT∧bT<c) (l1:Less c qE) (l2:Less c qM) (l3:Less c qI) (u5 u11 u13 u15 u16 u17 u18 u19 u20 u21 u22 u23 u24 u25 u26 u27 u28 u29 u30 u31 u32 u33 u34 u35 u36 u37 u38 u39 u40 u41 u42 u43 u44 u45 u46 u47 u48 u49 u50 u51 u52 u53 u54 u55 u56 u57 u58 u59 u60 u61 u62 u63 u64 u65 u66 u67 u68 u69 u70 u71 u72 u73 u74 u75 u76 u77 u78 u79 u80 u81 u82 u83 u84 u85 u86 u87 u88 u89 u90 u91 u92 u93 u94 u95 u96 u97 u98 u99 u100 u101 u102 u103 u104 u105 u106 u107 u108 u109 u110 u111 u112 u113 u114 u115 u116 u117 u118 u119 u120 u121 u122 u123 u124 u125 u126 u127 u128 u129 u130 u131 u132 u133 u134 u135 u136 u137 u138 u139 u140 u141 u142 u143 u144 u145 u146 u147 u148 u149 u150 u151 u152 u153 u154 u155 u156 u157 u158 u159 u160 u161 u162 u163 u164 u165 u166 u167 u168 u169 u170 u171 u172 u173 u174 u175 u176 u177 u178 u179 u180 u181 u182 u183 u184 u185:Value) :
 (tlC (tlC (tlC (tlC (tlC (tlC (tlC (tlC (tlC (Tryz.f47.body.getD .skip)))))))))).wp Tryz.prog (bodyPost Tryz.prog Tryz.f47 (zhv (zeb x s h t ⟨imin s.t t,imax s.t t,q,v,m⟩ F) w)) { tmps:=#[.agg (zak pP x).toArray,.agg #[.int .i64 s.t,.int .i64 s.p.x.lo,.int .i64 s.p.x.hi,.int .i64 s.p.y.lo,.int .i64 s.p.y.hi,.int .i64 s.p.z.lo,.int .i64 s.p.z.hi,.int .i64 s.v.x.lo,.int .i64 s.v.x.hi,.int .i64 s.v.y.lo,.int .i64 s.v.y.hi,.int .i64 s.v.z.lo,.int .i64 s.v.z.hi,.int .i64 s.m.lo,.int .i64 s.m.hi],.int .i64 h,.pointer (some ⟨bM,0,none⟩),.pointer (some ⟨bS,0,none⟩),u5,.pointer (some ⟨bN,0,none⟩),.pointer (some ⟨bT,0,none⟩),.int .i64 0,.pointer (some ⟨c,0,none⟩),.pointer (some ⟨qE,0,none⟩),u11,.pointer (some ⟨qM,0,none⟩),u13,.pointer (some ⟨qI,0,none⟩),u15,u16,u17,u18,u19,u20,u21,u22,u23,u24,u25,u26,u27,u28,u29,u30,u31,u32,u33,u34,u35,u36,u37,u38,u39,u40,u41,u42,u43,u44,u45,u46,u47,u48,u49,u50,u51,u52,u53,u54,u55,u56,u57,u58,u59,u60,u61,u62,u63,u64,u65,u66,u67,u68,u69,u70,u71,u72,u73,u74,u75,u76,u77,u78,u79,u80,u81,u82,u83,u84,u85,u86,u87,u88,u89,u90,u91,u92,u93,u94,u95,u96,u97,u98,u99,u100,u101,u102,u103,u104,u105,u106,u107,u108,u109,u110,u111,u112,u113,u114,u115,u116,u117,u118,u119,u120,u121,u122,u123,u124,u125,u126,u127,u128,u129,u130,u131,u132,u133,u134,u135,u136,u137,u138,u139,u140,u141,u142,u143,u144,u145,u146,u147,u148,u149,u150,u151,u152,u153,u154,u155,u156,u157,u158,u159,u160,u161,u162,u163,u164,u165,u166,u167,u168,u169,u170,u171,u172,u173,u174,u175,u176,u177,u178,u179,u180,u181,u182,u183,u184,u185],defers:=[] } wc:=by
 have l1':=l1.lt
 have l2':=l2.lt
 have l3':=l3.lt
 have:Apart bM c:=⟨by omega⟩
 have:Apart bS c:=⟨by omega⟩
 have:Apart bN c:=⟨by omega⟩
 have:Apart bT c:=⟨by omega⟩
 have:Apart qE c:=⟨by omega⟩
 have:Apart qM c:=⟨by omega⟩
 have:Apart qI c:=⟨by omega⟩
 have:Apart bM bN:=⟨by omega⟩
 have:Apart bS bN:=⟨by omega⟩
 have:Apart bT bN:=⟨by omega⟩
 have:Apart c bN:=⟨by omega⟩
 have:Apart qE bN:=⟨by omega⟩
 have:Apart qM bN:=⟨by omega⟩
 have:Apart qI bN:=⟨by omega⟩
 have:Apart bM bT:=⟨by omega⟩
 have:Apart bS bT:=⟨by omega⟩
 have:Apart bN bT:=⟨by omega⟩
 have:Apart c bT:=⟨by omega⟩
 have:Apart qE bT:=⟨by omega⟩
 have:Apart qM bT:=⟨by omega⟩
 have:Apart qI bT:=⟨by omega⟩
 obtain ⟨hg,hc,hf,rM,rS,rN,rT,rE,rm,rI⟩:=hC0
 have i_c:BlockIn wc c:=BlockIn.of_cell hc
 have hci:HasCell wc c 0:=⟨_,hc⟩
 have i_rM:=rM.blockIn
 have i_rS:=rS.blockIn
 have i_rN:=rN.blockIn
 have i_rT:=rT.blockIn
 have i_rE:=rE.blockIn
 have i_rm:=rm.blockIn
 have i_rI:=rI.blockIn
 have HK:=Lib.hid (fun qF qL qK wx st l4 l5 l6=>zrF pP x s h t F q v E m bM bS bN bT c qE qM qI qF qL qK w wx hE st n1 n2 n3 hd l1 l2 l3 l4 l5 l6)
 have HF:=Lib.hid HF0
 clear HF0
 have KW:=Lib.hid zkJ
 have sL:S64 (laL h F).s:=zam _ _
 have K1:=Lib.hid (fun w hc hf=>show Calls Tryz.prog 100 #[.pointer (some ⟨c,0,none⟩),.agg #[.int .i64 h,.int .i64 h],.agg #[.int .i64 h,.int .i64 h]] w (RetC c (.agg #[.int .i64 ((laL h F).s).lo,.int .i64 ((laL h F).s).hi]) (laL h F).e w) from zb1 c F.e ⟨h,h⟩ ⟨h,h⟩ w hc hf)
 have K2:=Lib.hid (fun w hc hf=>show Calls Tryz.prog 104 #[.pointer (some ⟨c,0,none⟩),.agg #[.int .i64 ((laL h F).s).lo,.int .i64 ((laL h F).s).hi],.agg #[.int .i64 ((zaI 2)).lo,.int .i64 ((zaI 2)).hi]] w (RetC c (.agg #[.int .i64 ((laK h F).s).lo,.int .i64 ((laK h F).s).hi]) (laK h F).e w) from zeE c (laL h F).e (laL h F).s (zaI 2) w hc hf)
 clear sL
 generalize hLL:laL h F=LL at *
 generalize hKK:laK h F=KK at *
 conv=>arg 2;dsimp only[tlC,Tryz.f47,Option.getD]
 go_upto_region 16 with (first|(go_at_call 103;(with_reducible refine zar (HF.out _ ?_ ?_ ?_) ?_);(· exact gwr);(· go_simp);(· go_simp);intro u1)|(go_at_call 98;(with_reducible refine zaa (zdQ h _) ?_);intro u2)|(go_at_call 100;(with_reducible refine zar (K1.out _ ?_ ?_) ?_);(· go_simp);(· go_simp);intro u3)|(go_at_call 105;(with_reducible refine zaa (KW.out _) ?_);intro u4)|(go_at_call 104;(with_reducible refine zar (K2.out _ ?_ ?_) ?_);(· go_simp);(· go_simp);intro u5)|(with_reducible refine wLr ?_)|(with_reducible refine wLi ?_)|(with_reducible refine wSf ?_)|(with_reducible refine wSi ?_))
 have a1:Apart u1.world.heap.size bN:=inferInstance
 have l4:Less c u1.world.heap.size:=inferInstance
 have l5:Less c u2.world.heap.size:=inferInstance
 have l6:Less c u5.world.heap.size:=inferInstance
 have HKE:=Lib.hid hKK
 have HE:=Lib.hid hE
 clear hKK hLL hE
 go_cut [] (fun wx=>StD w c bM bS bN bT qE qM qI u1.world.heap.size u2.world.heap.size u5.world.heap.size pP x s h t F q v E m 0 (nxS s h t F 0) wx)
 case first=>
  go_wp2_with (first|(with_reducible refine wLr ?_)|(with_reducible refine wLi ?_)|((with_reducible refine zfv ?_ ?_ ?_ ?_ ?_ ?_ ?_ ?_ ?_);rotate_left 4;(· rfl);(· rfl);(· rfl);(· infer_instance))|(with_reducible refine wSi ?_))
  go_meet
  case rel=>exact ⟨gwr,by rw[show lgE s h F 0=KK.e by rw[←HKE.out];rfl];go_simp,by go_simp,inferInstance,inferInstance,zau inferInstance (by rw[HE.out];rfl),inferInstance,inferInstance,inferInstance,inferInstance,inferInstance,inferInstance,zau inferInstance (by rw[HKE.out])⟩
 case rest=>
 go_step
 exact HK.out _ _ _ _ hcut l4 l5 l6 _ _ _ _ _ _ _ _ _ _ _ _ _ _ _ _ _ _ _ _ _ _ _ _ _ _ _ _ _ _ _ _ _ _ _ _ _ _ _ _ _ _ _ _ _ _ _ _ _ _ _ _ _ _ _ _ _ _ _ _ _ _ _ _ _ _ _ _ _ _ _ _ _ _ _ _ _ _ _ _ _ _ _ _ _ _ _ _ _ _ _ _ _ _ _ _ _ _ _ _ _ _ _ _ _ _ _ _ _ _ _ _ _ _ _ _ _ _ _ _ _ _ _ _ _ _ _ _ _ _ _ _ _ _ _ _ _ _ _ _ _ _ _ _ _ _ _ _ _ _ _ _ _ _ _ _ _ _ _ _ _ _ _ _ _ _ _ _ _ _ _
end Go.Proofs.YtdkfkalplmgoeaaGreat
