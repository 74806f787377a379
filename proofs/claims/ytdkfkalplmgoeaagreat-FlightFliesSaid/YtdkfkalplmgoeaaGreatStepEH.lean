/-
  Joined: StepE.
-/
import Derived.Test.YtdkfkalplmgoeaaGreatSpanHullH
import Derived.Test.YtdkfkalplmgoeaaGreatStepDH
import Derived.Test.YtdkfkalplmgoeaaGreatForceDH
import Derived.Test.YtdkfkalplmgoeaaGreatFolds2H
import Derived.ChangeKeysEq
import Derived.WalkMore
namespace Go.Proofs.YtdkfkalplmgoeaaGreat
open Go.RowKit Go.Shelf
set_option maxRecDepth 100000
set_option maxHeartbeats 16000000
theorem zm9 {b m:Sp} {e:Int} (h:m.inB b=true):wdR b m e=⟨b,e⟩:=by unfold wdR;rw[if_pos h]
theorem zic {b m:Sp} {e:Int} (z:(wdR b m e).e=0):e=0:=by
 by_cases h:e=0
 ·exact h
 ·exact absurd ((wd_e b m h).1.symm.trans z) h
theorem zuG {b m:Sp} {e:Int} (h:m.inB b=false) (z:(wdR b m e).e=0):(wdR b m e).s≠b:=by
 intro hs
 unfold wdR at z hs
 rw[if_neg (by rw[h];decide)] at z hs
 unfold doR at z hs
 split at z
 ·rename_i z1
  rw[if_pos z1] at hs
  obtain ⟨k1,k2,k3⟩:=add_zero z
  rw[k3] at hs
  have z2:(wdH b m e).e=0:=by
   unfold wdE doN at z1
   split at z1
   ·assumption
   ·exact z1
  have z3:(zbh b m).e=0∧wdH b m e=zbh b m:=by
   unfold wdH doR at z2 ⊢
   split at z2
   ·rename_i k
    rw[if_pos k]
    exact ⟨z2,rfl⟩
   ·exact absurd z2 (by assumption)
  have z4:(zbh b m).s.lo≤b.lo:=by
   unfold zbh at z3 ⊢
   split
   ·show imin b.lo m.lo≤b.lo
    unfold imin
    split<;>omega
   ·rename_i k
    rw[if_neg k] at z3
    exact absurd z3.1 (by unfold errR;decide)
  have hn:=(zuF b m e).1
  have e1:(wdH b m e).s.lo+-wdBy b m e=b.lo:=congrArg Sp.lo hs
  unfold wdBy at e1
  rw[z3.2] at e1 hn
  omega
 ·exact absurd z (by assumption)
theorem zre {q v mq mv:Bx} (h:zhg q v mq mv=true):widC wdR q v mq mv 0=⟨q,v,0⟩:=by
 unfold zhg zi1 at h
 simp only[Bool.and_eq_true] at h
 obtain ⟨⟨⟨h1,h2⟩,h3⟩,⟨h4,h5⟩,h6⟩:=h
 unfold widC widB wid2 wid1 wid0
 rw[zm9 h1]
 simp only
 rw[zm9 h2]
 simp only
 rw[zm9 h3]
 simp only
 rw[zm9 h4]
 simp only
 rw[zm9 h5]
 simp only
 rw[zm9 h6]
theorem zsJ {q v mq mv:Bx} (h:zhg q v mq mv=false) (z:(widC wdR q v mq mv 0).e=0):¬ ((widC wdR q v mq mv 0).p=q∧(widC wdR q v mq mv 0).v=v):=by
 rintro ⟨hp,hv⟩
 have z6:(wid2 wdR v mv (widB wdR q mq 0).e).e=0:=z
 have z5:(wid1 wdR v mv (widB wdR q mq 0).e).e=0:=zic z6
 have z4:(wid0 wdR v mv (widB wdR q mq 0).e).e=0:=zic z5
 have z3:(wid2 wdR q mq 0).e=0:=zic z4
 have z2:(wid1 wdR q mq 0).e=0:=zic z3
 have z1:(wid0 wdR q mq 0).e=0:=zic z2
 have i:∀ {b m:Sp} {e:Int},(wdR b m e).e=0→(wdR b m e).s=b→m.inB b=true:=fun {b m e} z s=>by
  cases k:m.inB b
  ·exact absurd s (zuG k z)
  ·rfl
 have h1:=i z1 (congrArg Bx.x hp)
 have h2:=i z2 (congrArg Bx.y hp)
 have h3:=i z3 (congrArg Bx.z hp)
 have h4:=i z4 (congrArg Bx.x hv)
 have h5:=i z5 (congrArg Bx.y hv)
 have h6:=i z6 (congrArg Bx.z hv)
 unfold zhg zi1 at h
 rw[h1,h2,h3,h4,h5,h6] at h
 cases h
def zo2 (x y:Bx):Bool:=decide (x.x.lo=y.x.lo)&&decide (x.x.hi=y.x.hi)&&decide (x.y.lo=y.y.lo)&&decide (x.y.hi=y.y.hi)&&decide (x.z.lo=y.z.lo)&&decide (x.z.hi=y.z.hi)
theorem zj9 {x y:Bx}:zo2 x y=true↔x=y:=by
 obtain ⟨⟨a,b⟩,⟨c,d⟩,⟨e,f⟩⟩:=x
 obtain ⟨⟨a',b'⟩,⟨c',d'⟩,⟨e',f'⟩⟩:=y
 unfold zo2
 simp[and_assoc]
def zla (p v p' v':Bx):Bool:=zo2 p p'&&zo2 v v'
theorem zj8 {p v p' v':Bx}:zla p v p' v'=true↔p=p'∧v=v':=by unfold zla;rw[Bool.and_eq_true,zj9,zj9]
theorem zo8:(Tryz.prog.info? 24).isSome=true:=by kernel_rfl
theorem spEq (a b:Sp) (w:World):(Op.equalIn 9999 24 (.agg #[.int .i64 a.lo,.int .i64 a.hi]) (.agg #[.int .i64 b.lo,.int .i64 b.hi])).run Tryz.prog w=.ok (decide (a.lo=b.lo)&&decide (a.hi=b.hi)) w:=by
 simp[go_sem]
 (repeat' split)<;>simp_all
theorem zdG {P:Program} {d:Nat} {e:TypeId} {c:Nat} {xs ys:Array Value} {i:Nat} {is:List Nat} {w:World} {a b:Value} {r:Bool} (h1:(part e xs (i*c)).run P w=.ok a w) (h2:(part e ys (i*c)).run P w=.ok b w) (h3:(Op.equalIn d e a b).run P w=.ok r w) :
 (Op.eqItems d e c xs ys (i::is)).run P w=if r then (Op.eqItems d e c xs ys is).run P w else .ok false w:=by
 simp only[Op.eqItems,Sem.run_bind,h1,h2,h3,Result.andThen_ok]
 cases r<;>simp
theorem znT {P:Program} {d:Nat} {e:TypeId} {c:Nat} {xs ys:Array Value} {w:World}:(Op.eqItems d e c xs ys []).run P w=.ok true w:=by simp[Op.eqItems]
theorem zvE {w:World} {r s:Bool}:(if r then (.ok s w:Result Bool) else .ok false w)=.ok (r&&s) w:=by cases r<;>simp
theorem zvA (p v p' v':Bx) (w:World):(Op.equalIn 10000 163 (.agg #[.int .i64 p.x.lo,.int .i64 p.x.hi,.int .i64 p.y.lo,.int .i64 p.y.hi,.int .i64 p.z.lo,.int .i64 p.z.hi,.int .i64 v.x.lo,.int .i64 v.x.hi,.int .i64 v.y.lo,.int .i64 v.y.hi,.int .i64 v.z.lo,.int .i64 v.z.hi]) (.agg #[.int .i64 (p').x.lo,.int .i64 (p').x.hi,.int .i64 (p').y.lo,.int .i64 (p').y.hi,.int .i64 (p').z.lo,.int .i64 (p').z.hi,.int .i64 (v').x.lo,.int .i64 (v').x.hi,.int .i64 (v').y.lo,.int .i64 (v').y.hi,.int .i64 (v').z.lo,.int .i64 (v').z.hi])).run Tryz.prog w=.ok (zla p v p' v') w:=by
 obtain ⟨i,hi⟩:=Option.isSome_iff_exists.1 zo8
 rw[run_equalIn_array w 9999 _ _ Tryz.underlying163 hi]
 have hC:Tryz.prog.cellsOf 24=2:=by kernel_rfl
 rw[hC]
 have hr:List.range 6=[0,1,2,3,4,5]:=rfl
 rw[hr]
 rw[zdG (by simp[go_sem]) (by simp[go_sem]) (spEq p.x p'.x w),zdG (by simp[go_sem]) (by simp[go_sem]) (spEq p.y p'.y w),zdG (by simp[go_sem]) (by simp[go_sem]) (spEq p.z p'.z w),zdG (by simp[go_sem]) (by simp[go_sem]) (spEq v.x v'.x w),zdG (by simp[go_sem]) (by simp[go_sem]) (spEq v.y v'.y w),zdG (by simp[go_sem]) (by simp[go_sem]) (spEq v.z v'.z w),znT]
 simp only[zvE]
 unfold zla zo2
 simp[Bool.and_assoc]
structure TryIs (ff:Bx→Bx→Int→BRes) (rr:Bx→Bx→Int→CRes) (n:Nat) (q v:Bx) (e:Int) (T:TRes) (R:CRes) (W:CRes):Prop where
 bad:R.e≠0→T=⟨false,q,v,R.e⟩
 next:R.e=0→zla W.p W.v q v=false→zcL ff rr wdR n W.p W.v W.e=T
 found:R.e=0→zla W.p W.v q v=true→(W.e=0∧T=⟨true,R.p,R.v,0⟩)∨(W.e≠0∧T.found=false∧T.e=W.e)
theorem zuB {ff:Bx→Bx→Int→BRes} {rr:Bx→Bx→Int→CRes} (hr:∀ v f e,e≠0→(rr v f e).e=e) (hf:∀ q v e,e≠0→(ff q v e).e=e) {n:Nat} {q v:Bx} {e:Int} {T:TRes} (h:zcL ff rr wdR (n+1) q v e=T) :
 TryIs ff rr n q v e T (rr v (ff q v e).b (ff q v e).e) (widC wdR q v (rr v (ff q v e).b (ff q v e).e).p (rr v (ff q v e).b (ff q v e).e).v 0):=by
 unfold zcL at h
 generalize rr v (ff q v e).b (ff q v e).e=R at *
 refine ⟨fun k=>?_,fun k s=>?_,fun k s=>?_⟩
 ·rw[if_pos k] at h
  exact h.symm
 ·rw[if_neg (by omega)] at h
  cases ha:zhg q v R.p R.v
  ·rw[if_neg (by rw[ha];decide)] at h
   exact h
  ·rw[zre ha] at s
   have:=zj8.2 (show q=q∧v=v from ⟨rfl,rfl⟩)
   rw[this] at s
   cases s
 ·rw[if_neg (by omega)] at h
  cases ha:zhg q v R.p R.v
  ·rw[if_neg (by rw[ha];decide)] at h
   right
   have hz:(widC wdR q v R.p R.v 0).e≠0:=fun z=>zsJ ha z (zj8.1 s)
   obtain ⟨t1,t2⟩:=zdu (wf:=wdR) hr hf hz n (widC wdR q v R.p R.v 0).p (widC wdR q v R.p R.v 0).v
   exact ⟨hz,by rw[←h];exact t1,by rw[←h];exact t2⟩
  ·rw[if_pos ha] at h
   left
   exact ⟨by rw[zre ha],h.symm⟩
theorem ziH (b m:Sp) (e:Int) [hb:S64 b]:S64 (wdR b m e).s:=by
 unfold wdR
 split
 ·exact hb
 ·exact zam _ _
theorem zrp (q v mq mv:Bx) (e:Int) [hq:B64 q] [hv:B64 v]:B64 (widC wdR q v mq mv e).p∧B64 (widC wdR q v mq mv e).v:=
 ⟨⟨ziH _ _ _,ziH _ _ _,ziH _ _ _⟩,⟨ziH _ _ _,ziH _ _ _,ziH _ _ _⟩⟩
def zrh (c:Nat) (T:TRes) (w:World) (en:Ending) (w':World):Prop:=∃ p v:Bx,(T.found=true→p=T.p∧v=T.v)∧RetC c (.tuple #[.agg #[.int .i64 p.x.lo,.int .i64 p.x.hi,.int .i64 p.y.lo,.int .i64 p.y.hi,.int .i64 p.z.lo,.int .i64 p.z.hi,.int .i64 v.x.lo,.int .i64 v.x.hi,.int .i64 v.y.lo,.int .i64 v.y.hi,.int .i64 v.z.lo,.int .i64 v.z.hi],.bool T.found]) T.e w en w'
instance zvP:StructTy 163 12:=⟨⟨_,Tryz.underlying163,rfl⟩,by kernel_rfl⟩
theorem But.row {c:Nat} {w w':World} (h:But c w w') (b:Nat) (cs:Array Value) [hb:NewFor w b]:But c w (w'.setRow b cs) where
 os:=h.os
 tape:=h.tape
 output:=h.output
 size:=by have:=h.size;simpa [World.setRow] using this
 lt:=h.lt
 block:=fun k hk hc=>(setRow_other w' b k cs (by have:=hb.le;omega)).trans (h.block k hk hc)
 kept:=by
  obtain ⟨x,hx⟩:=h.kept
  exact ⟨x,(setRow_other w' b c cs (by have:=hb.le;have:=h.lt;omega)).trans hx⟩
theorem btwr {c:Nat} {w w':World} (h:But c w w':=by repeat (first|with_reducible exact Hb.out|with_reducible apply But.alloc|with_reducible apply But.later|with_reducible apply But.drew|with_reducible apply But.put|with_reducible apply But.store|with_reducible apply But.row)):But c w w':=h
theorem But.trans2 {c:Nat} {a b d:World} (h:But c a b) (k:But c b d):But c a d:=
 ⟨k.os.trans h.os,k.tape.trans h.tape,k.output.trans h.output,Nat.le_trans h.size k.size,h.lt,fun j hj hc=>(k.block j (Nat.lt_of_lt_of_le hj h.size) hc).trans (h.block j hj hc),by
  obtain ⟨v,hv⟩:=h.kept
  obtain ⟨x,hx⟩:=k.kept
  refine ⟨x,?_⟩
  rw[hx]
  rw[zea hv,zdC]⟩
theorem zil (pP:Planet) (x:Arc) (l:List Pt) (q v:Bx) (m:Sp) (e:Int) [hp:Pl64 pP]:B64 (zaD pP x l q v m e).b:=by
 have bP:B64 (frPF pP l q e).b:=zlx pP l q e
 have bS:B64 (frSF pP l q v e).b:=zhj _ _ _ _
 have bT:B64 (frTF pP x l q v m e).b:=zim _ _ _
 unfold zaD zi5
 split
 ·exact bT
 ·exact zbK _ _ _ _
structure TubAt (c:Nat) (w:World) (M:List Value) (q0 v0:Bx) (d m:Sp) (q v:Bx) (e:Int) (wr:World):Prop where
 but:But c w wr
 cell:wr.cell? ⟨c,0,none⟩=some (.int .i64 e)
 mark:wr.frozen? ⟨c,0,none⟩=false
 mdl:RowIs wr w.heap.size 101 M
 x:RowIs wr (w.heap.size+1) 163 [.int .i64 q0.x.lo,.int .i64 q0.x.hi,.int .i64 q0.y.lo,.int .i64 q0.y.hi,.int .i64 q0.z.lo,.int .i64 q0.z.hi,.int .i64 v0.x.lo,.int .i64 v0.x.hi,.int .i64 v0.y.lo,.int .i64 v0.y.hi,.int .i64 v0.z.lo,.int .i64 v0.z.hi]
 d:RowIs wr (w.heap.size+1+1) 24 [.int .i64 d.lo,.int .i64 d.hi]
 m:RowIs wr (w.heap.size+1+1+1) 24 [.int .i64 m.lo,.int .i64 m.hi]
 o:RowIs wr (w.heap.size+1+1+1+1) 163 [.int .i64 0,.int .i64 0,.int .i64 0,.int .i64 0,.int .i64 0,.int .i64 0,.int .i64 0,.int .i64 0,.int .i64 0,.int .i64 0,.int .i64 0,.int .i64 0]
 cur:RowIs wr (w.heap.size+1+1+1+1+1) 163 [.int .i64 q.x.lo,.int .i64 q.x.hi,.int .i64 q.y.lo,.int .i64 q.y.hi,.int .i64 q.z.lo,.int .i64 q.z.hi,.int .i64 v.x.lo,.int .i64 v.x.hi,.int .i64 v.y.lo,.int .i64 v.y.hi,.int .i64 v.z.lo,.int .i64 v.z.hi]
theorem zlX {c:Nat} {T:TRes} {w w':World} (p v:Bx) {b:Bool} (h:T.found=true→p=T.p∧v=T.v) (hb:b=T.found) (k:∃ u:Later w,w'=u.world.setCell ⟨c,0,none⟩ (.int .i64 T.e)):zrh c T w (.returned (.tuple #[.agg #[.int .i64 p.x.lo,.int .i64 p.x.hi,.int .i64 p.y.lo,.int .i64 p.y.hi,.int .i64 p.z.lo,.int .i64 p.z.hi,.int .i64 v.x.lo,.int .i64 v.x.hi,.int .i64 v.y.lo,.int .i64 v.y.hi,.int .i64 v.z.lo,.int .i64 v.z.hi],.bool b])) w':=by
 subst hb
 exact ⟨p,v,h,rfl,k⟩
instance zus (w:World) (b:Nat) (t:TypeId) (l:List Value) (n:Nat) [h:RowIs w b t l] [k:CLen l n]:RowOf w b t n:=⟨_,h.is,by simp[k.len]⟩
instance zu5 (l:List Value) (i:Nat) (v:Value) (n:Nat) [h:CLen l n]:CLen (l.set i v) n:=⟨by rw[List.length_set];exact h.len⟩
theorem zgv {fn:Func} {tmps:Array Value} {W:World} {p q:Tmp} {ty t:TypeId} {b n:Nat} {l:List Value} {v:Value} (h:fn.results=#[.cell p ty,.tmp q]) (hp:tmps.getD p undef=.pointer (some ⟨b,0,none⟩)) (hq:tmps.getD q undef=v) (hs:StructTy ty n) (hr:RowIs W b t l) (hl:CLen l n) :
 (results fn tmps).run Tryz.prog W=.ok (.tuple #[.agg l.toArray,v]) W:=by
 have h3:=zet (ty:=ty) hs hr hl.len
 simp only[Array.getD_eq_getD_getElem?] at hp hq
 simp[results,h,asAddr,hp,hq,h3]
theorem zkG (HL:zej 191) (pP:Planet) (x:Arc) (l:List Pt) (q0 v0:Bx) (d m:Sp) [hp:Pl64 pP] [hq:B64 q0] [hv:B64 v0] [hd:S64 d] [hm:S64 m] [hxt:S64 x.thrust] [hxd:B64 x.dir] (c:Nat) (e:Int) (w:World) (hc:w.cell? ⟨c,0,none⟩=some (.int .i64 e)) (hf:w.frozen? ⟨c,0,none⟩=false)
 (hdn:x.drag.n=l.length) (HS:∀ wx,But c w wx→SlAt wx (.slice x.drag.ao l.length x.drag.cap) l.length (l.flatMap Pt.cells)) :
 Calls Tryz.prog 102 #[.agg (zak pP x).toArray,.pointer (some ⟨c,0,none⟩),.agg #[.int .i64 q0.x.lo,.int .i64 q0.x.hi,.int .i64 q0.y.lo,.int .i64 q0.y.hi,.int .i64 q0.z.lo,.int .i64 q0.z.hi,.int .i64 v0.x.lo,.int .i64 v0.x.hi,.int .i64 v0.y.lo,.int .i64 v0.y.hi,.int .i64 v0.z.lo,.int .i64 v0.z.hi],.agg #[.int .i64 d.lo,.int .i64 d.hi],.agg #[.int .i64 m.lo,.int .i64 m.hi]] w (zrh c (zcL (fun q v e=>zaD pP x l q v m e) (fun v f e=>zba q0 v0 d v f e) wdR 8 q0 v0 e) w):=by
 have ib:BlockIn w c:=BlockIn.of_cell hc
 have hci:HasCell w c 0:=⟨_,hc⟩
 have Hb:=Lib.hid (But.refl hc)
 have Hc:=Lib.hid hc
 have HF:=Lib.hid (fun (q v:Bx) (hq:B64 q) (hv:B64 v) (e:Int) (w':World) (b:But c w w') hc hf=>show Calls Tryz.prog 103 #[.agg (zak pP x).toArray,.pointer (some ⟨c,0,none⟩),.agg #[.int .i64 q.x.lo,.int .i64 q.x.hi,.int .i64 q.y.lo,.int .i64 q.y.hi,.int .i64 q.z.lo,.int .i64 q.z.hi,.int .i64 v.x.lo,.int .i64 v.x.hi,.int .i64 v.y.lo,.int .i64 v.y.hi,.int .i64 v.z.lo,.int .i64 v.z.hi],.agg #[.int .i64 m.lo,.int .i64 m.hi]] w' (RetC c (.agg #[.int .i64 ((zaD pP x l q v m e).b).x.lo,.int .i64 ((zaD pP x l q v m e).b).x.hi,.int .i64 ((zaD pP x l q v m e).b).y.lo,.int .i64 ((zaD pP x l q v m e).b).y.hi,.int .i64 ((zaD pP x l q v m e).b).z.lo,.int .i64 ((zaD pP x l q v m e).b).z.hi]) (zaD pP x l q v m e).e w') from zhG HL pP x l q v m c e w' hc hf hdn fun wx b2=>HS wx (b.trans2 b2))
 have HT:=Lib.hid (fun n q v e T h=>zuB (ff:=fun q v e=>zaD pP x l q v m e) (rr:=fun v f e=>zba q0 v0 d v f e) (n:=n) (q:=q) (v:=v) (e:=e) (T:=T) (fun _ _ _ he=>zfL _ _ _ _ _ he) (fun _ _ _ he=>zfB _ _ _ _ _ _ he) h)
 have HB:=Lib.hid (fun q v e=>show B64 (zaD pP x l q v m e).b from zil pP x l q v m e)
 clear hdn HS HL
 generalize htr:zcL (fun q v e=>zaD pP x l q v m e) (fun v f e=>zba q0 v0 d v f e) wdR 8 q0 v0 e=T at *
 have HT0:=Lib.hid htr
 clear htr
 go_enter Tryz.func102,Tryz.ntmps102
 go_wp2
 go_step3
 go_wp2_with (first|(with_reducible refine wLr ?_)|(with_reducible refine wLi ?_)|(with_reducible refine wSf ?_)|(with_reducible refine wSi ?_))
 go_step3
 go_wp2_with (first|(with_reducible refine wLr ?_)|(with_reducible refine wLi ?_)|(with_reducible refine wSf ?_)|(with_reducible refine wSi ?_))
 go_loopw [13,18] (fun f t wr=>∃ (k:Nat) (q v:Bx) (e':Int),t=.int .i64 k∧f=.bool false∧k≤8∧B64 q∧B64 v∧Hid (TubAt c w (zak pP x) q0 v0 d m q v e' wr)∧Hid (zcL (fun q v e=>zaD pP x l q v m e) (fun v f e=>zba q0 v0 d v f e) wdR (8-k) q v e'=T)) (fun _ t _=>8-(intOf t).toNat)
 case atStart=>
  exact ⟨0,q0,v0,e,rfl,rfl,by omega,hq,hv,Lib.hid ⟨btw,by go_simp,by go_simp,inferInstance,inferInstance,inferInstance,inferInstance,inferInstance,inferInstance⟩,HT0⟩
 case round=>
  obtain ⟨k,q,v,e',rfl,rfl,hk,hq',hv',hE,hT⟩:=hrel
  obtain ⟨h1,h2,h3,m1,m2,m3,m4,m5,m6⟩:=hE.out
  clear hE Hb
  have Hb:=Lib.hid h1
  have ibw:BlockIn wr c:=BlockIn.of_cell h2
  have hcw:HasCell wr c 0:=⟨_,h2⟩
  have hlt:=ib.lt
  have:Apart (c) (w.heap.size):=⟨by omega⟩
  have:Apart (c) (w.heap.size+1):=⟨by omega⟩
  have:Apart (c) (w.heap.size+1+1):=⟨by omega⟩
  have:Apart (c) (w.heap.size+1+1+1):=⟨by omega⟩
  have:Apart (c) (w.heap.size+1+1+1+1):=⟨by omega⟩
  have:Apart (c) (w.heap.size+1+1+1+1+1):=⟨by omega⟩
  have:Apart (w.heap.size) (c):=⟨by omega⟩
  have:Apart (w.heap.size+1) (c):=⟨by omega⟩
  have:Apart (w.heap.size+1+1) (c):=⟨by omega⟩
  have:Apart (w.heap.size+1+1+1) (c):=⟨by omega⟩
  have:Apart (w.heap.size+1+1+1+1) (c):=⟨by omega⟩
  have:Apart (w.heap.size+1+1+1+1+1) (c):=⟨by omega⟩
  have i1:BlockIn wr w.heap.size:=m1.blockIn
  have i2:BlockIn wr (w.heap.size+1):=m2.blockIn
  have i3:BlockIn wr (w.heap.size+1+1):=m3.blockIn
  have i4:BlockIn wr (w.heap.size+1+1+1):=m4.blockIn
  have i5:BlockIn wr (w.heap.size+1+1+1+1):=m5.blockIn
  have i6:BlockIn wr (w.heap.size+1+1+1+1+1):=m6.blockIn
  clear h1 hc hf hci
  by_cases hlt8:k<8
  ·have hTR:=HT.out (8-(k+1)) q v e' T (by rw[show 8-(k+1)+1=8-k by omega];exact hT.out)
   have b1:=HB.out q v e'
   have K1:=Lib.hid (HF.out q v hq' hv' e')
   have K2:=Lib.hid (fun w hc hf=>show Calls Tryz.prog 151 #[.pointer (some ⟨c,0,none⟩),.agg #[.int .i64 q0.x.lo,.int .i64 q0.x.hi,.int .i64 q0.y.lo,.int .i64 q0.y.hi,.int .i64 q0.z.lo,.int .i64 q0.z.hi,.int .i64 v0.x.lo,.int .i64 v0.x.hi,.int .i64 v0.y.lo,.int .i64 v0.y.hi,.int .i64 v0.z.lo,.int .i64 v0.z.hi],.agg #[.int .i64 d.lo,.int .i64 d.hi],.agg #[.int .i64 v.x.lo,.int .i64 v.x.hi,.int .i64 v.y.lo,.int .i64 v.y.hi,.int .i64 v.z.lo,.int .i64 v.z.hi],.agg #[.int .i64 ((zaD pP x l q v m e').b).x.lo,.int .i64 ((zaD pP x l q v m e').b).x.hi,.int .i64 ((zaD pP x l q v m e').b).y.lo,.int .i64 ((zaD pP x l q v m e').b).y.hi,.int .i64 ((zaD pP x l q v m e').b).z.lo,.int .i64 ((zaD pP x l q v m e').b).z.hi]] w (RetC c (.agg #[.int .i64 ((zba q0 v0 d v (zaD pP x l q v m e').b (zaD pP x l q v m e').e).p).x.lo,.int .i64 ((zba q0 v0 d v (zaD pP x l q v m e').b (zaD pP x l q v m e').e).p).x.hi,.int .i64 ((zba q0 v0 d v (zaD pP x l q v m e').b (zaD pP x l q v m e').e).p).y.lo,.int .i64 ((zba q0 v0 d v (zaD pP x l q v m e').b (zaD pP x l q v m e').e).p).y.hi,.int .i64 ((zba q0 v0 d v (zaD pP x l q v m e').b (zaD pP x l q v m e').e).p).z.lo,.int .i64 ((zba q0 v0 d v (zaD pP x l q v m e').b (zaD pP x l q v m e').e).p).z.hi,.int .i64 ((zba q0 v0 d v (zaD pP x l q v m e').b (zaD pP x l q v m e').e).v).x.lo,.int .i64 ((zba q0 v0 d v (zaD pP x l q v m e').b (zaD pP x l q v m e').e).v).x.hi,.int .i64 ((zba q0 v0 d v (zaD pP x l q v m e').b (zaD pP x l q v m e').e).v).y.lo,.int .i64 ((zba q0 v0 d v (zaD pP x l q v m e').b (zaD pP x l q v m e').e).v).y.hi,.int .i64 ((zba q0 v0 d v (zaD pP x l q v m e').b (zaD pP x l q v m e').e).v).z.lo,.int .i64 ((zba q0 v0 d v (zaD pP x l q v m e').b (zaD pP x l q v m e').e).v).z.hi]) (zba q0 v0 d v (zaD pP x l q v m e').b (zaD pP x l q v m e').e).e w) from zk6 q0 v0 d v (zaD pP x l q v m e').b c (zaD pP x l q v m e').e w hc hf)
   have b2:B64 (zba q0 v0 d v (zaD pP x l q v m e').b (zaD pP x l q v m e').e).p:=zbK _ _ _ _
   have b3:B64 (zba q0 v0 d v (zaD pP x l q v m e').b (zaD pP x l q v m e').e).v:=zbK _ _ _ _
   generalize zba q0 v0 d v (zaD pP x l q v m e').b (zaD pP x l q v m e').e=R at *
   generalize zaD pP x l q v m e'=F at *
   have K3:=Lib.hid (fun w hc hf=>show Calls Tryz.prog 152 #[.pointer (some ⟨c,0,none⟩),.agg #[.int .i64 q.x.lo,.int .i64 q.x.hi,.int .i64 q.y.lo,.int .i64 q.y.hi,.int .i64 q.z.lo,.int .i64 q.z.hi,.int .i64 v.x.lo,.int .i64 v.x.hi,.int .i64 v.y.lo,.int .i64 v.y.hi,.int .i64 v.z.lo,.int .i64 v.z.hi],.agg #[.int .i64 R.p.x.lo,.int .i64 R.p.x.hi,.int .i64 R.p.y.lo,.int .i64 R.p.y.hi,.int .i64 R.p.z.lo,.int .i64 R.p.z.hi,.int .i64 R.v.x.lo,.int .i64 R.v.x.hi,.int .i64 R.v.y.lo,.int .i64 R.v.y.hi,.int .i64 R.v.z.lo,.int .i64 R.v.z.hi]] w (RetC c (.agg #[.int .i64 ((widC wdR q v R.p R.v 0).p).x.lo,.int .i64 ((widC wdR q v R.p R.v 0).p).x.hi,.int .i64 ((widC wdR q v R.p R.v 0).p).y.lo,.int .i64 ((widC wdR q v R.p R.v 0).p).y.hi,.int .i64 ((widC wdR q v R.p R.v 0).p).z.lo,.int .i64 ((widC wdR q v R.p R.v 0).p).z.hi,.int .i64 ((widC wdR q v R.p R.v 0).v).x.lo,.int .i64 ((widC wdR q v R.p R.v 0).v).x.hi,.int .i64 ((widC wdR q v R.p R.v 0).v).y.lo,.int .i64 ((widC wdR q v R.p R.v 0).v).y.hi,.int .i64 ((widC wdR q v R.p R.v 0).v).z.lo,.int .i64 ((widC wdR q v R.p R.v 0).v).z.hi]) (widC wdR q v R.p R.v 0).e w) from zls q v R.p R.v c 0 w hc hf)
   obtain ⟨b4,b5⟩:=zrp q v R.p R.v 0
   generalize widC wdR q v R.p R.v 0=Wd at *
   have HTR:=Lib.hid hTR
   have hk8:(k:Int)<8:=by omega
   clear hTR HT HB HF hT HT0 b1 b2 b3
   by_cases hz:R.e=0
   ·have hz':(R.e != 0)=false:=by simp[hz]
    have hEq:=zvA
    have HNX:=Lib.hid (HTR.out.next hz)
    have HFD:=Lib.hid (HTR.out.found hz)
    have K3':=Lib.hid (fun w (hc:w.cell? ⟨c,0,none⟩=some (.int .i64 R.e)) hf=>K3.out w (by rw[hz] at hc;exact hc) hf)
    clear hz HTR K3
    cases hs:zla Wd.p Wd.v q v
    ·have HN:=Lib.hid (HNX.out hs)
     clear HNX HFD
     go_wp2_with (first|(go_at_call 103;(with_reducible refine zar (K1.out _ ?_ ?_ ?_) ?_);(· exact btwr);(· go_simp);(· go_simp);intro u1)|(with_reducible refine wLr ?_)|(with_reducible refine wLi ?_)|(with_reducible refine wSf ?_)|(with_reducible refine wSi ?_))
     refine zaf c [F.e,F.e,R.e] 8 [7] [4,6] [] (fun W0=>[(7,BoxR W0 [.int .i64 0,.int .i64 0,.int .i64 0,.int .i64 0,.int .i64 0,.int .i64 0,.int .i64 0,.int .i64 0,.int .i64 0,.int .i64 0,.int .i64 0,.int .i64 0])]) [.agg #[.int .i64 v.x.lo,.int .i64 v.x.hi,.int .i64 v.y.lo,.int .i64 v.y.hi,.int .i64 v.z.lo,.int .i64 v.z.hi],.agg #[.int .i64 R.p.x.lo,.int .i64 R.p.x.hi,.int .i64 R.p.y.lo,.int .i64 R.p.y.hi,.int .i64 R.p.z.lo,.int .i64 R.p.z.hi,.int .i64 R.v.x.lo,.int .i64 R.v.x.hi,.int .i64 R.v.y.lo,.int .i64 R.v.y.hi,.int .i64 R.v.z.lo,.int .i64 R.v.z.hi]] [8] (by rfl) (by go_simp) (by go_simp) (by intro W0 hW0 x hx;simp only[List.mem_cons,List.not_mem_nil,or_false] at hx;rcases hx with rfl<;>first|exact zbc _ _ hW0 _) (by kernel_rfl) (by kernel_rfl) (by kernel_rfl) ?_
     intro pz hd0
     apply Exists.intro
     apply And.intro
     apply zae hd0 (by kernel_rfl)
     ·intro uz xc;unfold zai;go_simp;rfl
     apply zae hd0 (by kernel_rfl)
     ·intro uz xc;exact zbN (b:=w.heap.size+1) _ _ rfl (by go_simp)
     apply zae hd0 (by kernel_rfl)
     ·intro uz xc;unfold zai;go_simp;rfl
     apply zae hd0 (by kernel_rfl)
     ·intro uz xc;exact zbN (b:=w.heap.size+1+1+1+1+1) _ _ rfl (by go_simp)
     apply zad hd0 0 (by kernel_rfl) (by rfl) (by decide)
     ·intro uz hfz hF;clear hF;unfold zah;go_simp;exact zef (zb2 q v _) (by go_simp)
     apply zae hd0 (by kernel_rfl)
     ·intro uz xc;unfold zai;go_simp;rfl
     apply zad hd0 1 (by kernel_rfl) (by rfl) (by decide)
     ·intro uz hfz hF;clear hF;unfold zah;go_simp;exact K2.out _ (by go_simp) hfz
     apply zbd hd0 (by kernel_rfl)
     ·intro uz xc hF;clear hF;unfold za5;go_simp;refine (show Made (BoxR _ [.int .i64 0,.int .i64 0,.int .i64 0,.int .i64 0,.int .i64 0,.int .i64 0,.int .i64 0,.int .i64 0,.int .i64 0,.int .i64 0,.int .i64 0,.int .i64 0]) _ _ _ from ?_);exact zbe _ _ _ _
     apply zax
     rotate_left
     ·rfl
     intro uz hR hD hfz
     obtain ⟨q7,e7,hB7,kB7,nB7⟩:=(show BoxR _ [.int .i64 0,.int .i64 0,.int .i64 0,.int .i64 0,.int .i64 0,.int .i64 0,.int .i64 0,.int .i64 0,.int .i64 0,.int .i64 0,.int .i64 0,.int .i64 0] (pz 7) _ from hR 7 (by decide))
     clear hR hD
     rw[e7]
     clear e7
     have oB7:=zaG nB7
     have oC7:=zaH nB7
     have hB7:=zbq hB7 hd0 nB7
     have kB7:=za0 kB7
     have hB7_0:=(hB7 0 _ rfl).1
     have hB7f0:=(hB7 0 _ rfl).2
     have hB7i0:HasCell (uz.world) (q7) 0:=⟨_,hB7_0⟩
     have hB7_1:=(hB7 1 _ rfl).1
     have hB7f1:=(hB7 1 _ rfl).2
     have hB7i1:HasCell (uz.world) (q7) 1:=⟨_,hB7_1⟩
     have hB7_2:=(hB7 2 _ rfl).1
     have hB7f2:=(hB7 2 _ rfl).2
     have hB7i2:HasCell (uz.world) (q7) 2:=⟨_,hB7_2⟩
     have hB7_3:=(hB7 3 _ rfl).1
     have hB7f3:=(hB7 3 _ rfl).2
     have hB7i3:HasCell (uz.world) (q7) 3:=⟨_,hB7_3⟩
     have hB7_4:=(hB7 4 _ rfl).1
     have hB7f4:=(hB7 4 _ rfl).2
     have hB7i4:HasCell (uz.world) (q7) 4:=⟨_,hB7_4⟩
     have hB7_5:=(hB7 5 _ rfl).1
     have hB7f5:=(hB7 5 _ rfl).2
     have hB7i5:HasCell (uz.world) (q7) 5:=⟨_,hB7_5⟩
     have hB7_6:=(hB7 6 _ rfl).1
     have hB7f6:=(hB7 6 _ rfl).2
     have hB7i6:HasCell (uz.world) (q7) 6:=⟨_,hB7_6⟩
     have hB7_7:=(hB7 7 _ rfl).1
     have hB7f7:=(hB7 7 _ rfl).2
     have hB7i7:HasCell (uz.world) (q7) 7:=⟨_,hB7_7⟩
     have hB7_8:=(hB7 8 _ rfl).1
     have hB7f8:=(hB7 8 _ rfl).2
     have hB7i8:HasCell (uz.world) (q7) 8:=⟨_,hB7_8⟩
     have hB7_9:=(hB7 9 _ rfl).1
     have hB7f9:=(hB7 9 _ rfl).2
     have hB7i9:HasCell (uz.world) (q7) 9:=⟨_,hB7_9⟩
     have hB7_10:=(hB7 10 _ rfl).1
     have hB7f10:=(hB7 10 _ rfl).2
     have hB7i10:HasCell (uz.world) (q7) 10:=⟨_,hB7_10⟩
     have hB7_11:=(hB7 11 _ rfl).1
     have hB7f11:=(hB7 11 _ rfl).2
     have hB7i11:HasCell (uz.world) (q7) 11:=⟨_,hB7_11⟩
     have hB7b:BlockIn (uz.world) (q7):=BlockIn.of_cell hB7_0
     clear hB7
     refine zag (by rfl) ?_;unfold zap;go_simp
     refine zao ?_
     have nw7:NewFor w q7:=zcT Hb.out nB7
     go_wp2_with (first|(go_at_call 152;(with_reducible refine zar (K3'.out _ ?_ ?_) ?_);(· go_simp);(· go_simp);intro u3)|(with_reducible refine wLr ?_)|(with_reducible refine wLi ?_)|(with_reducible refine wSf ?_)|(with_reducible refine wSi ?_))
     go_roundw
     case rel=>exact ⟨k+1,Wd.p,Wd.v,Wd.e,by go_num,rfl,by omega,b4,b5,Lib.hid ⟨btwr,by go_simp,by go_simp,inferInstance,inferInstance,inferInstance,inferInstance,inferInstance,zau inferInstance rfl⟩,HN⟩
     case measure=>simp[intOf];omega
    ·have HN:=Lib.hid (HFD.out hs)
     clear HNX HFD
     rcases HN.out with ⟨z,hT2⟩|⟨z,hT2,hT3⟩
     ·have z':(Wd.e==0)=true:=by simp[z]
      have HR:=Lib.hid hT2
      have HZ:=Lib.hid z
      clear z hT2 HN
      go_wp2_with (first|(go_at_call 103;(with_reducible refine zar (K1.out _ ?_ ?_ ?_) ?_);(· exact btwr);(· go_simp);(· go_simp);intro u1)|(with_reducible refine wLr ?_)|(with_reducible refine wLi ?_)|(with_reducible refine wSf ?_)|(with_reducible refine wSi ?_))
      refine zaf c [F.e,F.e,R.e] 8 [7] [4,6] [] (fun W0=>[(7,BoxR W0 [.int .i64 0,.int .i64 0,.int .i64 0,.int .i64 0,.int .i64 0,.int .i64 0,.int .i64 0,.int .i64 0,.int .i64 0,.int .i64 0,.int .i64 0,.int .i64 0])]) [.agg #[.int .i64 v.x.lo,.int .i64 v.x.hi,.int .i64 v.y.lo,.int .i64 v.y.hi,.int .i64 v.z.lo,.int .i64 v.z.hi],.agg #[.int .i64 R.p.x.lo,.int .i64 R.p.x.hi,.int .i64 R.p.y.lo,.int .i64 R.p.y.hi,.int .i64 R.p.z.lo,.int .i64 R.p.z.hi,.int .i64 R.v.x.lo,.int .i64 R.v.x.hi,.int .i64 R.v.y.lo,.int .i64 R.v.y.hi,.int .i64 R.v.z.lo,.int .i64 R.v.z.hi]] [8] (by rfl) (by go_simp) (by go_simp) (by intro W0 hW0 x hx;simp only[List.mem_cons,List.not_mem_nil,or_false] at hx;rcases hx with rfl<;>first|exact zbc _ _ hW0 _) (by kernel_rfl) (by kernel_rfl) (by kernel_rfl) ?_
      intro pz hd0
      apply Exists.intro
      apply And.intro
      apply zae hd0 (by kernel_rfl)
      ·intro uz xc;unfold zai;go_simp;rfl
      apply zae hd0 (by kernel_rfl)
      ·intro uz xc;exact zbN (b:=w.heap.size+1) _ _ rfl (by go_simp)
      apply zae hd0 (by kernel_rfl)
      ·intro uz xc;unfold zai;go_simp;rfl
      apply zae hd0 (by kernel_rfl)
      ·intro uz xc;exact zbN (b:=w.heap.size+1+1+1+1+1) _ _ rfl (by go_simp)
      apply zad hd0 0 (by kernel_rfl) (by rfl) (by decide)
      ·intro uz hfz hF;clear hF;unfold zah;go_simp;exact zef (zb2 q v _) (by go_simp)
      apply zae hd0 (by kernel_rfl)
      ·intro uz xc;unfold zai;go_simp;rfl
      apply zad hd0 1 (by kernel_rfl) (by rfl) (by decide)
      ·intro uz hfz hF;clear hF;unfold zah;go_simp;exact K2.out _ (by go_simp) hfz
      apply zbd hd0 (by kernel_rfl)
      ·intro uz xc hF;clear hF;unfold za5;go_simp;refine (show Made (BoxR _ [.int .i64 0,.int .i64 0,.int .i64 0,.int .i64 0,.int .i64 0,.int .i64 0,.int .i64 0,.int .i64 0,.int .i64 0,.int .i64 0,.int .i64 0,.int .i64 0]) _ _ _ from ?_);exact zbe _ _ _ _
      apply zax
      rotate_left
      ·rfl
      intro uz hR hD hfz
      obtain ⟨q7,e7,hB7,kB7,nB7⟩:=(show BoxR _ [.int .i64 0,.int .i64 0,.int .i64 0,.int .i64 0,.int .i64 0,.int .i64 0,.int .i64 0,.int .i64 0,.int .i64 0,.int .i64 0,.int .i64 0,.int .i64 0] (pz 7) _ from hR 7 (by decide))
      clear hR hD
      rw[e7]
      clear e7
      have oB7:=zaG nB7
      have oC7:=zaH nB7
      have hB7:=zbq hB7 hd0 nB7
      have kB7:=za0 kB7
      have hB7_0:=(hB7 0 _ rfl).1
      have hB7f0:=(hB7 0 _ rfl).2
      have hB7i0:HasCell (uz.world) (q7) 0:=⟨_,hB7_0⟩
      have hB7_1:=(hB7 1 _ rfl).1
      have hB7f1:=(hB7 1 _ rfl).2
      have hB7i1:HasCell (uz.world) (q7) 1:=⟨_,hB7_1⟩
      have hB7_2:=(hB7 2 _ rfl).1
      have hB7f2:=(hB7 2 _ rfl).2
      have hB7i2:HasCell (uz.world) (q7) 2:=⟨_,hB7_2⟩
      have hB7_3:=(hB7 3 _ rfl).1
      have hB7f3:=(hB7 3 _ rfl).2
      have hB7i3:HasCell (uz.world) (q7) 3:=⟨_,hB7_3⟩
      have hB7_4:=(hB7 4 _ rfl).1
      have hB7f4:=(hB7 4 _ rfl).2
      have hB7i4:HasCell (uz.world) (q7) 4:=⟨_,hB7_4⟩
      have hB7_5:=(hB7 5 _ rfl).1
      have hB7f5:=(hB7 5 _ rfl).2
      have hB7i5:HasCell (uz.world) (q7) 5:=⟨_,hB7_5⟩
      have hB7_6:=(hB7 6 _ rfl).1
      have hB7f6:=(hB7 6 _ rfl).2
      have hB7i6:HasCell (uz.world) (q7) 6:=⟨_,hB7_6⟩
      have hB7_7:=(hB7 7 _ rfl).1
      have hB7f7:=(hB7 7 _ rfl).2
      have hB7i7:HasCell (uz.world) (q7) 7:=⟨_,hB7_7⟩
      have hB7_8:=(hB7 8 _ rfl).1
      have hB7f8:=(hB7 8 _ rfl).2
      have hB7i8:HasCell (uz.world) (q7) 8:=⟨_,hB7_8⟩
      have hB7_9:=(hB7 9 _ rfl).1
      have hB7f9:=(hB7 9 _ rfl).2
      have hB7i9:HasCell (uz.world) (q7) 9:=⟨_,hB7_9⟩
      have hB7_10:=(hB7 10 _ rfl).1
      have hB7f10:=(hB7 10 _ rfl).2
      have hB7i10:HasCell (uz.world) (q7) 10:=⟨_,hB7_10⟩
      have hB7_11:=(hB7 11 _ rfl).1
      have hB7f11:=(hB7 11 _ rfl).2
      have hB7i11:HasCell (uz.world) (q7) 11:=⟨_,hB7_11⟩
      have hB7b:BlockIn (uz.world) (q7):=BlockIn.of_cell hB7_0
      clear hB7
      refine zag (by rfl) ?_;unfold zap;go_simp
      refine zao ?_
      have nw7:NewFor w q7:=zcT Hb.out nB7
      go_wp2_with (first|(go_at_call 152;(with_reducible refine zar (K3'.out _ ?_ ?_) ?_);(· go_simp);(· go_simp);intro u3)|(with_reducible refine wLr ?_)|(with_reducible refine wLi ?_)|(with_reducible refine wSf ?_)|(with_reducible refine wSi ?_))
      go_region
      all_goals go_wp2
      refine bodyPost_ret (zgv Tryz.results102 rfl rfl inferInstance inferInstance inferInstance) rfl ?_
      exact zlX R.p R.v (fun h=>by rw[HR.out];exact ⟨rfl,rfl⟩) (by rw[HR.out]) (But.out btwr Hc.out (by rw[HR.out,←HZ.out];go_simp))
     ·have z':(Wd.e==0)=false:=by simp[z]
      have H2:=Lib.hid hT2
      have H3:=Lib.hid hT3
      clear z hT2 hT3 HN
      go_wp2_with (first|(go_at_call 103;(with_reducible refine zar (K1.out _ ?_ ?_ ?_) ?_);(· exact btwr);(· go_simp);(· go_simp);intro u1)|(with_reducible refine wLr ?_)|(with_reducible refine wLi ?_)|(with_reducible refine wSf ?_)|(with_reducible refine wSi ?_))
      refine zaf c [F.e,F.e,R.e] 8 [7] [4,6] [] (fun W0=>[(7,BoxR W0 [.int .i64 0,.int .i64 0,.int .i64 0,.int .i64 0,.int .i64 0,.int .i64 0,.int .i64 0,.int .i64 0,.int .i64 0,.int .i64 0,.int .i64 0,.int .i64 0])]) [.agg #[.int .i64 v.x.lo,.int .i64 v.x.hi,.int .i64 v.y.lo,.int .i64 v.y.hi,.int .i64 v.z.lo,.int .i64 v.z.hi],.agg #[.int .i64 R.p.x.lo,.int .i64 R.p.x.hi,.int .i64 R.p.y.lo,.int .i64 R.p.y.hi,.int .i64 R.p.z.lo,.int .i64 R.p.z.hi,.int .i64 R.v.x.lo,.int .i64 R.v.x.hi,.int .i64 R.v.y.lo,.int .i64 R.v.y.hi,.int .i64 R.v.z.lo,.int .i64 R.v.z.hi]] [8] (by rfl) (by go_simp) (by go_simp) (by intro W0 hW0 x hx;simp only[List.mem_cons,List.not_mem_nil,or_false] at hx;rcases hx with rfl<;>first|exact zbc _ _ hW0 _) (by kernel_rfl) (by kernel_rfl) (by kernel_rfl) ?_
      intro pz hd0
      apply Exists.intro
      apply And.intro
      apply zae hd0 (by kernel_rfl)
      ·intro uz xc;unfold zai;go_simp;rfl
      apply zae hd0 (by kernel_rfl)
      ·intro uz xc;exact zbN (b:=w.heap.size+1) _ _ rfl (by go_simp)
      apply zae hd0 (by kernel_rfl)
      ·intro uz xc;unfold zai;go_simp;rfl
      apply zae hd0 (by kernel_rfl)
      ·intro uz xc;exact zbN (b:=w.heap.size+1+1+1+1+1) _ _ rfl (by go_simp)
      apply zad hd0 0 (by kernel_rfl) (by rfl) (by decide)
      ·intro uz hfz hF;clear hF;unfold zah;go_simp;exact zef (zb2 q v _) (by go_simp)
      apply zae hd0 (by kernel_rfl)
      ·intro uz xc;unfold zai;go_simp;rfl
      apply zad hd0 1 (by kernel_rfl) (by rfl) (by decide)
      ·intro uz hfz hF;clear hF;unfold zah;go_simp;exact K2.out _ (by go_simp) hfz
      apply zbd hd0 (by kernel_rfl)
      ·intro uz xc hF;clear hF;unfold za5;go_simp;refine (show Made (BoxR _ [.int .i64 0,.int .i64 0,.int .i64 0,.int .i64 0,.int .i64 0,.int .i64 0,.int .i64 0,.int .i64 0,.int .i64 0,.int .i64 0,.int .i64 0,.int .i64 0]) _ _ _ from ?_);exact zbe _ _ _ _
      apply zax
      rotate_left
      ·rfl
      intro uz hR hD hfz
      obtain ⟨q7,e7,hB7,kB7,nB7⟩:=(show BoxR _ [.int .i64 0,.int .i64 0,.int .i64 0,.int .i64 0,.int .i64 0,.int .i64 0,.int .i64 0,.int .i64 0,.int .i64 0,.int .i64 0,.int .i64 0,.int .i64 0] (pz 7) _ from hR 7 (by decide))
      clear hR hD
      rw[e7]
      clear e7
      have oB7:=zaG nB7
      have oC7:=zaH nB7
      have hB7:=zbq hB7 hd0 nB7
      have kB7:=za0 kB7
      have hB7_0:=(hB7 0 _ rfl).1
      have hB7f0:=(hB7 0 _ rfl).2
      have hB7i0:HasCell (uz.world) (q7) 0:=⟨_,hB7_0⟩
      have hB7_1:=(hB7 1 _ rfl).1
      have hB7f1:=(hB7 1 _ rfl).2
      have hB7i1:HasCell (uz.world) (q7) 1:=⟨_,hB7_1⟩
      have hB7_2:=(hB7 2 _ rfl).1
      have hB7f2:=(hB7 2 _ rfl).2
      have hB7i2:HasCell (uz.world) (q7) 2:=⟨_,hB7_2⟩
      have hB7_3:=(hB7 3 _ rfl).1
      have hB7f3:=(hB7 3 _ rfl).2
      have hB7i3:HasCell (uz.world) (q7) 3:=⟨_,hB7_3⟩
      have hB7_4:=(hB7 4 _ rfl).1
      have hB7f4:=(hB7 4 _ rfl).2
      have hB7i4:HasCell (uz.world) (q7) 4:=⟨_,hB7_4⟩
      have hB7_5:=(hB7 5 _ rfl).1
      have hB7f5:=(hB7 5 _ rfl).2
      have hB7i5:HasCell (uz.world) (q7) 5:=⟨_,hB7_5⟩
      have hB7_6:=(hB7 6 _ rfl).1
      have hB7f6:=(hB7 6 _ rfl).2
      have hB7i6:HasCell (uz.world) (q7) 6:=⟨_,hB7_6⟩
      have hB7_7:=(hB7 7 _ rfl).1
      have hB7f7:=(hB7 7 _ rfl).2
      have hB7i7:HasCell (uz.world) (q7) 7:=⟨_,hB7_7⟩
      have hB7_8:=(hB7 8 _ rfl).1
      have hB7f8:=(hB7 8 _ rfl).2
      have hB7i8:HasCell (uz.world) (q7) 8:=⟨_,hB7_8⟩
      have hB7_9:=(hB7 9 _ rfl).1
      have hB7f9:=(hB7 9 _ rfl).2
      have hB7i9:HasCell (uz.world) (q7) 9:=⟨_,hB7_9⟩
      have hB7_10:=(hB7 10 _ rfl).1
      have hB7f10:=(hB7 10 _ rfl).2
      have hB7i10:HasCell (uz.world) (q7) 10:=⟨_,hB7_10⟩
      have hB7_11:=(hB7 11 _ rfl).1
      have hB7f11:=(hB7 11 _ rfl).2
      have hB7i11:HasCell (uz.world) (q7) 11:=⟨_,hB7_11⟩
      have hB7b:BlockIn (uz.world) (q7):=BlockIn.of_cell hB7_0
      clear hB7
      refine zag (by rfl) ?_;unfold zap;go_simp
      refine zao ?_
      have nw7:NewFor w q7:=zcT Hb.out nB7
      go_wp2_with (first|(go_at_call 152;(with_reducible refine zar (K3'.out _ ?_ ?_) ?_);(· go_simp);(· go_simp);intro u3)|(with_reducible refine wLr ?_)|(with_reducible refine wLi ?_)|(with_reducible refine wSf ?_)|(with_reducible refine wSi ?_))
      go_region
      all_goals go_wp2
      refine bodyPost_ret (zgv Tryz.results102 rfl rfl inferInstance inferInstance inferInstance) rfl ?_
      exact zlX R.p R.v (fun h=>by rw[H2.out] at h;cases h) (by rw[H2.out]) (But.out btwr Hc.out (by rw[H3.out];go_simp))
   ·have hz':(R.e != 0)=true:=by simp[hz]
    have HR:=Lib.hid (HTR.out.bad hz)
    clear hz HTR K3
    go_wp2_with (first|(go_at_call 103;(with_reducible refine zar (K1.out _ ?_ ?_ ?_) ?_);(· exact btwr);(· go_simp);(· go_simp);intro u1)|(with_reducible refine wLr ?_)|(with_reducible refine wLi ?_)|(with_reducible refine wSf ?_)|(with_reducible refine wSi ?_))
    refine zaf c [F.e,F.e,R.e] 8 [7] [4,6] [] (fun W0=>[(7,BoxR W0 [.int .i64 0,.int .i64 0,.int .i64 0,.int .i64 0,.int .i64 0,.int .i64 0,.int .i64 0,.int .i64 0,.int .i64 0,.int .i64 0,.int .i64 0,.int .i64 0])]) [.agg #[.int .i64 v.x.lo,.int .i64 v.x.hi,.int .i64 v.y.lo,.int .i64 v.y.hi,.int .i64 v.z.lo,.int .i64 v.z.hi],.agg #[.int .i64 R.p.x.lo,.int .i64 R.p.x.hi,.int .i64 R.p.y.lo,.int .i64 R.p.y.hi,.int .i64 R.p.z.lo,.int .i64 R.p.z.hi,.int .i64 R.v.x.lo,.int .i64 R.v.x.hi,.int .i64 R.v.y.lo,.int .i64 R.v.y.hi,.int .i64 R.v.z.lo,.int .i64 R.v.z.hi]] [8] (by rfl) (by go_simp) (by go_simp) (by intro W0 hW0 x hx;simp only[List.mem_cons,List.not_mem_nil,or_false] at hx;rcases hx with rfl<;>first|exact zbc _ _ hW0 _) (by kernel_rfl) (by kernel_rfl) (by kernel_rfl) ?_
    intro pz hd0
    apply Exists.intro
    apply And.intro
    apply zae hd0 (by kernel_rfl)
    ·intro uz xc;unfold zai;go_simp;rfl
    apply zae hd0 (by kernel_rfl)
    ·intro uz xc;exact zbN (b:=w.heap.size+1) _ _ rfl (by go_simp)
    apply zae hd0 (by kernel_rfl)
    ·intro uz xc;unfold zai;go_simp;rfl
    apply zae hd0 (by kernel_rfl)
    ·intro uz xc;exact zbN (b:=w.heap.size+1+1+1+1+1) _ _ rfl (by go_simp)
    apply zad hd0 0 (by kernel_rfl) (by rfl) (by decide)
    ·intro uz hfz hF;clear hF;unfold zah;go_simp;exact zef (zb2 q v _) (by go_simp)
    apply zae hd0 (by kernel_rfl)
    ·intro uz xc;unfold zai;go_simp;rfl
    apply zad hd0 1 (by kernel_rfl) (by rfl) (by decide)
    ·intro uz hfz hF;clear hF;unfold zah;go_simp;exact K2.out _ (by go_simp) hfz
    apply zbd hd0 (by kernel_rfl)
    ·intro uz xc hF;clear hF;unfold za5;go_simp;refine (show Made (BoxR _ [.int .i64 0,.int .i64 0,.int .i64 0,.int .i64 0,.int .i64 0,.int .i64 0,.int .i64 0,.int .i64 0,.int .i64 0,.int .i64 0,.int .i64 0,.int .i64 0]) _ _ _ from ?_);exact zbe _ _ _ _
    apply zax
    rotate_left
    ·rfl
    intro uz hR hD hfz
    obtain ⟨q7,e7,hB7,kB7,nB7⟩:=(show BoxR _ [.int .i64 0,.int .i64 0,.int .i64 0,.int .i64 0,.int .i64 0,.int .i64 0,.int .i64 0,.int .i64 0,.int .i64 0,.int .i64 0,.int .i64 0,.int .i64 0] (pz 7) _ from hR 7 (by decide))
    clear hR hD
    rw[e7]
    clear e7
    have oB7:=zaG nB7
    have oC7:=zaH nB7
    have hB7:=zbq hB7 hd0 nB7
    have kB7:=za0 kB7
    have hB7_0:=(hB7 0 _ rfl).1
    have hB7f0:=(hB7 0 _ rfl).2
    have hB7i0:HasCell (uz.world) (q7) 0:=⟨_,hB7_0⟩
    have hB7_1:=(hB7 1 _ rfl).1
    have hB7f1:=(hB7 1 _ rfl).2
    have hB7i1:HasCell (uz.world) (q7) 1:=⟨_,hB7_1⟩
    have hB7_2:=(hB7 2 _ rfl).1
    have hB7f2:=(hB7 2 _ rfl).2
    have hB7i2:HasCell (uz.world) (q7) 2:=⟨_,hB7_2⟩
    have hB7_3:=(hB7 3 _ rfl).1
    have hB7f3:=(hB7 3 _ rfl).2
    have hB7i3:HasCell (uz.world) (q7) 3:=⟨_,hB7_3⟩
    have hB7_4:=(hB7 4 _ rfl).1
    have hB7f4:=(hB7 4 _ rfl).2
    have hB7i4:HasCell (uz.world) (q7) 4:=⟨_,hB7_4⟩
    have hB7_5:=(hB7 5 _ rfl).1
    have hB7f5:=(hB7 5 _ rfl).2
    have hB7i5:HasCell (uz.world) (q7) 5:=⟨_,hB7_5⟩
    have hB7_6:=(hB7 6 _ rfl).1
    have hB7f6:=(hB7 6 _ rfl).2
    have hB7i6:HasCell (uz.world) (q7) 6:=⟨_,hB7_6⟩
    have hB7_7:=(hB7 7 _ rfl).1
    have hB7f7:=(hB7 7 _ rfl).2
    have hB7i7:HasCell (uz.world) (q7) 7:=⟨_,hB7_7⟩
    have hB7_8:=(hB7 8 _ rfl).1
    have hB7f8:=(hB7 8 _ rfl).2
    have hB7i8:HasCell (uz.world) (q7) 8:=⟨_,hB7_8⟩
    have hB7_9:=(hB7 9 _ rfl).1
    have hB7f9:=(hB7 9 _ rfl).2
    have hB7i9:HasCell (uz.world) (q7) 9:=⟨_,hB7_9⟩
    have hB7_10:=(hB7 10 _ rfl).1
    have hB7f10:=(hB7 10 _ rfl).2
    have hB7i10:HasCell (uz.world) (q7) 10:=⟨_,hB7_10⟩
    have hB7_11:=(hB7 11 _ rfl).1
    have hB7f11:=(hB7 11 _ rfl).2
    have hB7i11:HasCell (uz.world) (q7) 11:=⟨_,hB7_11⟩
    have hB7b:BlockIn (uz.world) (q7):=BlockIn.of_cell hB7_0
    clear hB7
    refine zag (by rfl) ?_;unfold zap;go_simp
    refine zao ?_
    have nw7:NewFor w q7:=zcT Hb.out nB7
    go_wp2
    go_region
    all_goals go_wp2
    refine bodyPost_ret (zgv Tryz.results102 rfl rfl inferInstance inferInstance inferInstance) rfl ?_
    exact zlX q v (fun h=>by rw[HR.out] at h;cases h) (by rw[HR.out]) (But.out btwr Hc.out (by rw[HR.out];go_simp))
  ·obtain rfl:k=8:=by omega
   have HR:=Lib.hid (show T=⟨false,q,v,e'⟩ from hT.out.symm)
   clear hT HT HF HB HT0
   go_wp2
   go_region
   all_goals go_wp2
   refine bodyPost_ret (zgv Tryz.results102 rfl rfl inferInstance inferInstance inferInstance) rfl ?_
   exact zlX q v (fun h=>by rw[HR.out] at h;cases h) (by rw[HR.out]) (But.out btwr Hc.out (by rw[HR.out];go_simp))
end Go.Proofs.YtdkfkalplmgoeaaGreat
