/-
  Joined: NavSides, CutLaw, ButX, LexStop.
-/
import Derived.Test.YtdkfkalplmgoeaaGreatSpanHullL
import Derived.Test.YtdkfkalplmgoeaaGreatCalcsL
import Derived.Test.YtdkfkalplmgoeaaGreatLexAllL
import Derived.Test.YtdkfkalplmgoeaaGreatRowL
namespace Go.Proofs.YtdkfkalplmgoeaaGreat
open Go.RowKit Go.Shelf
set_option maxRecDepth 100000
set_option maxHeartbeats 8000000
theorem zkW (i:Int) (h0:0≤i) (h1:i≤2) (w:World):Calls Tryz.prog 132 #[.int .i64 i] w fun e w'=>e=.returned (.tuple #[.int .i64 (if i=0 then 1 else 0),.int .i64 (if i=0 then 2 else 3-i)])∧Grew w w':=by
 by_cases h:i=0
 ·subst h
  go_enter Tryz.func132,Tryz.ntmps132
  go_wp2
  go_ret2
  exact ⟨rfl,gw⟩
 ·have h':(i==0)=false:=by simp[h]
  have hw:IntKind.i64.wrap (3-i)=3-i:=by simp[IntKind.wrap,IntKind.bits,IntKind.signed];omega
  rw[if_neg h,if_neg h]
  clear h
  go_enter Tryz.func132,Tryz.ntmps132
  go_wp2
  go_ret2
  exact ⟨zfd rfl rfl,gw⟩
theorem zfb (a:Sp) (w:World):Calls Tryz.prog 144 #[.agg #[.int .i64 a.lo,.int .i64 a.hi]] w fun e w'=>e=.returned (.bool (decide (a.lo≤0)&&decide (0≤a.hi)))∧Grew w w':=by
 by_cases h:a.lo≤0
 ·have h':decide (a.lo≤0)=true:=decide_eq_true h
  go_enter Tryz.func144,Tryz.ntmps144
  go_wp2
  all_goals go_ret
  all_goals exact ⟨zaR (by simp[h]),gw⟩
 ·have h':decide (a.lo≤0)=false:=decide_eq_false h
  go_enter Tryz.func144,Tryz.ntmps144
  go_wp2
  all_goals go_ret
  all_goals exact ⟨rfl,gw⟩
def zbU (d g:Sp):Res:=
 if (zaG d g).e=0 then (if (zaG d (negS g)).e=0 then zcp (zaG d (negS g)).s (zaG d g).s else zaG d g) else zaG d (negS g)
theorem zio (d g:Sp) [hgs:S64 g] (hg:g.okB=true) (w:World):Calls Tryz.prog 135 #[.agg #[.int .i64 d.lo,.int .i64 d.hi],.agg #[.int .i64 g.lo,.int .i64 g.hi]] w (zdH (.agg #[.int .i64 ((zbU d g).s).lo,.int .i64 ((zbU d g).s).hi]) (zbU d g).e w):=by
 obtain ⟨g1,g2,g3⟩:=zbZ hg
 have g4:=hgs.lo.2
 have g5:=hgs.hi.2
 have hw1:IntKind.i64.wrap (-g.hi)=-g.hi:=by rw[IntKind.wrap_i64];omega
 have hw2:IntKind.i64.wrap (-g.lo)=-g.lo:=by rw[IntKind.wrap_i64];omega
 have HM1:=Lib.hid (fun w'=>zcO d g w')
 have HM2:=Lib.hid (fun w'=>zcO d (negS g) w')
 have HU:=Lib.hid (fun (x y:Sp) w'=>zli x y w')
 have HS:=Lib.hid (show zbU d g=if (zaG d g).e=0 then (if (zaG d (negS g)).e=0 then zcp (zaG d (negS g)).s (zaG d g).s else zaG d g) else zaG d (negS g) from rfl)
 have hn:negS g=⟨-g.hi,-g.lo⟩:=rfl
 rw[hn] at HM2 HS
 generalize zbU d g=sr at *
 generalize zaG d g=r1 at *
 generalize zaG d ⟨-g.hi,-g.lo⟩=r2 at *
 clear g1 g2 g3 g4 g5 hn hg
 by_cases h1:r1.e=0
 ·rw[if_pos h1] at HS
  have h1':(r1.e != 0)=false:=by simp[h1]
  by_cases h2:r2.e=0
  ·rw[if_pos h2] at HS
   have h2':(r2.e != 0)=false:=by simp[h2]
   clear h1 h2
   go_enter Tryz.func135,Tryz.ntmps135
   go_wp2_with (first|(go_at_call 130;(with_reducible refine zaa (HM1.out _) ?_);intro u1)|(go_at_call 130;(with_reducible refine zaa (HM2.out _) ?_);intro u2)|(go_at_call 173;(with_reducible refine zaa (HU.out r2.s r1.s _) ?_);intro u3)|(go_at_call 129;(with_reducible refine za7 (zaZ _ _ _) ?_ ?_);(· intro hz u;exact ⟨rfl,zec (by rw[HS.out]) hz.out gw⟩);intro hz4 u4))
   refine bodyPost_ret (by (simp[results,Tryz.results135,go_sem]<;>rfl)) rfl ?_
   rw[HS.out]
   exact zbV hz4.out rfl gw
  ·rw[if_neg h2] at HS
   have h2':(r2.e != 0)=true:=by simp[h2]
   have H1:=Lib.hid h1
   clear h1 h2
   go_enter Tryz.func135,Tryz.ntmps135
   go_wp2_with (first|(go_at_call 130;(with_reducible refine zaa (HM1.out _) ?_);intro u1)|(go_at_call 130;(with_reducible refine zaa (HM2.out _) ?_);intro u2))
   refine bodyPost_ret (by (simp[results,Tryz.results135,go_sem]<;>rfl)) rfl ?_
   rw[HS.out]
   exact zbV H1.out rfl gw
 ·rw[if_neg h1] at HS
  have h1':(r1.e != 0)=true:=by simp[h1]
  clear h1
  go_enter Tryz.func135,Tryz.ntmps135
  go_wp2_with (first|(go_at_call 130;(with_reducible refine zaa (HM1.out _) ?_);intro u1)|(go_at_call 130;(with_reducible refine zaa (HM2.out _) ?_);intro u2)|(go_at_call 129;(with_reducible refine za7 (zaZ _ _ _) ?_ ?_);(· intro hz u;exact ⟨rfl,zec (by rw[HS.out]) hz.out gw⟩);intro hz4 u4))
  refine bodyPost_ret (by (simp[results,Tryz.results135,go_sem]<;>rfl)) rfl ?_
  rw[HS.out]
  exact zbV hz4.out rfl gw
end Go.Proofs.YtdkfkalplmgoeaaGreat
namespace Go.Proofs.YtdkfkalplmgoeaaGreat
open Go.RowKit
def oj (i:Nat):Nat:=if i=0 then 1 else 0
def ok (i:Nat):Nat:=if i=0 then 2 else 3-i
def Bx.put (b:Bx) (i:Nat) (v:Sp):Bx:=
 match i with
 |0=>⟨v,b.y,b.z⟩
 |1=>⟨b.x,v,b.z⟩
 |_=>⟨b.x,b.y,v⟩
def zfC (a:Sp):Bool:=decide (a.lo≤0)&&decide (0≤a.hi)
def sm1 (e:Int) (a x:Bx) (i:Nat):Res:=doR e (mulR (a.at (oj i)) (x.at (oj i)))
def sm2 (e:Int) (a x:Bx) (i:Nat):Res:=doR (sm1 e a x i).e (mulR (a.at (ok i)) (x.at (ok i)))
def sms (e:Int) (a x:Bx) (i:Nat):Res:=doR (sm2 e a x i).e (addR (sm1 e a x i).s (sm2 e a x i).s)
def smn (e:Int) (a x:Bx) (r:Sp) (i:Nat):Res:=doR (sms e a x i).e (subR r (sms e a x i).s)
def smt (e:Int) (a x:Bx) (r:Sp) (i:Nat):Res:=doR (smn e a x r i).e (zaG (x.at i) (divR (smn e a x r i).s (a.at i)).s)
def zbd (e:Int) (a x:Bx) (r:Sp) (i:Nat):Bx × Int:=
 if (divR (smn e a x r i).s (a.at i)).e=0 then (x.put i (smt e a x r i).s,(smt e a x r i).e) else (x,(smn e a x r i).e)
def zam (e:Int) (a x:Bx) (r:Sp):Nat→Bx × Int
 |0=>(x,e)
 |i+1=>zbd (zam e a x r i).2 a (zam e a x r i).1 r i
def sumD (e:Int) (a x:Bx) (r:Sp):Res:=doR (zam e a x r 3).2 (zbn a (zam e a x r 3).1)
def sumM (e:Int) (a x:Bx) (r:Sp):Res:=doR (sumD e a x r).e (zaG (sumD e a x r).s r)
theorem znk {n a:Sp} (h:zfC a=true):(divR n a).e≠0:=by
 unfold zfC at h
 unfold divR
 split
 ·first|decide|(rw[if_pos h];decide)
 ·decide
theorem zaF {e:Int} (r:Res) (h:e≠0):(doR e r).e=e:=by rw[ze0 r h];rfl
theorem zkn {e:Int} (a x:Bx) (i:Nat) (h:e≠0):(sm1 e a x i).e=e:=zaF _ h
theorem zko {e:Int} (a x:Bx) (i:Nat) (h:e≠0):(sm2 e a x i).e=e:=by
 unfold sm2
 rw[zaF _ (by rw[zkn a x i h];exact h),zkn a x i h]
theorem zkp {e:Int} (a x:Bx) (i:Nat) (h:e≠0):(sms e a x i).e=e:=by
 unfold sms
 rw[zaF _ (by rw[zko a x i h];exact h),zko a x i h]
theorem zhQ {e:Int} (a x:Bx) (r:Sp) (i:Nat) (h:e≠0):(smn e a x r i).e=e:=by
 unfold smn
 rw[zaF _ (by rw[zkp a x i h];exact h),zkp a x i h]
theorem zob {e:Int} (a x:Bx) (r:Sp) (i:Nat) (h:e≠0):(smt e a x r i).e=e:=by
 unfold smt
 rw[zaF _ (by rw[zhQ a x r i h];exact h),zhQ a x r i h]
theorem zfu {e:Int} (a x:Bx) (r:Sp) (i:Nat) (h:e≠0):(zbd e a x r i).2=e:=by
 unfold zbd
 split
 ·exact zob a x r i h
 ·exact zhQ a x r i h
theorem zg6 (e:Int) (a x:Bx) (r:Sp) (i:Nat) (h:(zam e a x r i).2≠0):∀ k,(zam e a x r (i+k)).2=(zam e a x r i).2
 |0=>rfl
 |k+1=>by
  have ih:=zg6 e a x r i h k
  show (zbd (zam e a x r (i+k)).2 a (zam e a x r (i+k)).1 r (i+k)).2=_
  rw[zfu _ _ _ _ (by rw[ih];exact h),ih]
theorem ziM {e:Int} {a x:Bx} {r:Sp} (h:(zam e a x r 3).2≠0):(sumD e a x r).e=(zam e a x r 3).2:=zaF _ h
theorem ziN {e:Int} {a x:Bx} {r:Sp} (h:(sumD e a x r).e≠0):(sumM e a x r).e=(sumD e a x r).e:=zaF _ h
theorem zfh {e:Int} {a x:Bx} {r:Sp} (i:Nat) (hi:i≤3) (h:(zam e a x r i).2≠0):(sumM e a x r).e=(zam e a x r i).2:=by
 have h3:=zg6 e a x r i h (3-i)
 rw[show i+(3-i)=3 by omega] at h3
 have h4:(zam e a x r 3).2≠0:=by rw[h3];exact h
 rw[ziN (by rw[ziM h4];exact h4),ziM h4,h3]
instance s64_at (b:Bx) [h:B64 b] (i:Nat):S64 (b.at i):=by
 match i with
 |0=>exact h.x
 |1=>exact h.y
 |(n+2)=>exact h.z
instance zg9 (b:Bx) [h:B64 b] (i:Nat) (v:Sp) [hv:S64 v]:B64 (b.put i v):=by
 match i with
 |0=>exact ⟨hv,h.y,h.z⟩
 |1=>exact ⟨h.x,hv,h.z⟩
 |(n+2)=>exact ⟨h.x,h.y,hv⟩
instance zry (e:Int) (a x:Bx) (r:Sp) (i:Nat) [hx:B64 x]:S64 (smt e a x r i).s:=by unfold smt;infer_instance
theorem zbP (e:Int) (a x:Bx) (r:Sp) [hx:B64 x]:∀ i,B64 (zam e a x r i).1
 |0=>hx
 |i+1=>by
  have ih:=zbP e a x r i
  show B64 (zbd (zam e a x r i).2 a (zam e a x r i).1 r i).1
  unfold zbd
  split
  ·exact inferInstance
  ·exact ih
end Go.Proofs.YtdkfkalplmgoeaaGreat
namespace Go.Proofs.YtdkfkalplmgoeaaGreat
open Go.RowKit
set_option maxRecDepth 100000
structure ButX (b off:Nat) (w w':World):Prop where
 os:w'.os=w.os
 tape:w'.tape=w.tape
 output:w'.output=w.output
 size:w.heap.size≤w'.heap.size
 lt:b<w.heap.size
 block:∀ k,k<w.heap.size→k≠b→w'.heap[k]?=w.heap[k]?
 cell:∀ i,i<off∨off+6≤i→w'.cell? ⟨b,i,none⟩=w.cell? ⟨b,i,none⟩
 mark:∀ i,w'.frozen? ⟨b,i,none⟩=w.frozen? ⟨b,i,none⟩
theorem zcI {w w':World} {q:Nat} (h:w'.heap[q]?=w.heap[q]?) (i:Nat):w'.cell? ⟨q,i,none⟩=w.cell? ⟨q,i,none⟩:=by
 unfold World.cell?
 simp only[]
 rw[h]
theorem zbm {w w':World} {q:Nat} (h:w'.heap[q]?=w.heap[q]?) (i:Nat):w'.frozen? ⟨q,i,none⟩=w.frozen? ⟨q,i,none⟩:=by
 unfold World.frozen?
 simp only[]
 rw[h]
section
variable {b off:Nat} {w w':World}
theorem ButX.refl (h:b<w.heap.size):ButX b off w w:=⟨rfl,rfl,rfl,Nat.le_refl _,h,fun _ _ _=>rfl,fun _ _=>rfl,fun _=>rfl⟩
theorem ButX.trans {w'':World} (h:ButX b off w w') (k:ButX b off w' w''):ButX b off w w'':=
 ⟨k.os.trans h.os,k.tape.trans h.tape,k.output.trans h.output,Nat.le_trans h.size k.size,h.lt,fun i hi hc=>(k.block i (by have:=h.size;omega) hc).trans (h.block i hi hc),fun i hi=>(k.cell i hi).trans (h.cell i hi),fun i=>(k.mark i).trans (h.mark i)⟩
theorem ButX.of_grew (hb:b<w.heap.size) (g:Grew w w'):ButX b off w w':=
 ⟨g.os,g.tape,g.output,Below.size g,hb,fun k hk _=>g.block k hk,fun i _=>zcI (g.block b hb) i,fun i=>zbm (g.block b hb) i⟩
theorem ButX.grew {w'':World} (h:ButX b off w w') (g:Grew w' w''):ButX b off w w'':=h.trans (.of_grew (Nat.lt_of_lt_of_le h.lt h.size) g)
theorem ButX.put (h:ButX b off w w') (j:Nat) (hj:off≤j∧j<off+6) (v:Value):ButX b off w (w'.setCell ⟨b,j,none⟩ v):=by
 refine h.trans ⟨rfl,rfl,rfl,by simp[World.setCell],Nat.lt_of_lt_of_le h.lt h.size,fun k _ hc=>Below.heap_setCell _ _ _ _ hc,fun i hi=>?_,fun i=>?_⟩
 ·exact World.cell?_setCell_other _ _ _ _ (by intro e;injection e with _ e2;omega)
 ·exact World.frozen?_setCell _ _ _ _
theorem zan.butx {q:Nat} {cs:List Value} (h:zan w q cs) (k:ButX b off w w') (hq:q<w.heap.size) (hne:q≠b):zan w' q cs:=fun i v hv=>by
 obtain ⟨h1,h2⟩:=h i v hv
 exact ⟨by rw[zcI (k.block q hq hne),h1],by rw[zbm (k.block q hq hne),h2]⟩
end
theorem zi0 {w:World} {m:Nat} [h:SizeAt w m] (l:List Value) (t:TypeId):zan (w.alloc (.cells l.toArray t)) m l:=by
 obtain rfl:=h.eq
 exact zev w l t
def XAt (w:World) (b off:Nat) (X:Bx):Prop:=∀ j,j<3→
 (w.cell? ⟨b,off+j*2,none⟩=some (.int .i64 (X.at j).lo)∧w.frozen? ⟨b,off+j*2,none⟩=false)∧w.cell? ⟨b,off+j*2+1,none⟩=some (.int .i64 (X.at j).hi)∧w.frozen? ⟨b,off+j*2+1,none⟩=false
theorem XAt.grew {w w':World} {b off:Nat} {X:Bx} (h:XAt w b off X) (g:Grew w w'):XAt w' b off X:=fun j hj=>by
 obtain ⟨⟨h1,h2⟩,h3,h4⟩:=h j hj
 have hb:=World.block_lt_of_cell? w _ h1
 exact ⟨⟨g.cell h1,by rw[zbm (g.block b hb),h2]⟩,g.cell h3,by rw[zbm (g.block b hb),h4]⟩
theorem Bx.put_at (X:Bx) (i j:Nat) (hi:i<3) (hj:j<3) (v:Sp):(X.put i v).at j=if j=i then v else X.at j:=by
 match i,hi,j,hj with
 |0,_,0,_=>rfl
 |0,_,1,_=>rfl
 |0,_,2,_=>rfl
 |1,_,0,_=>rfl
 |1,_,1,_=>rfl
 |1,_,2,_=>rfl
 |2,_,0,_=>rfl
 |2,_,1,_=>rfl
 |2,_,2,_=>rfl
theorem XAt.put {w:World} {b off:Nat} {X:Bx} (h:XAt w b off X) (i:Nat) (hi:i<3) (v:Sp):XAt ((w.setCell ⟨b,off+i*2,none⟩ (.int .i64 v.lo)).setCell ⟨b,off+i*2+1,none⟩ (.int .i64 v.hi)) b off (X.put i v):=fun j hj=>by
 obtain ⟨⟨h1,h2⟩,h3,h4⟩:=h j hj
 obtain ⟨⟨g1,-⟩,g3,-⟩:=h i hi
 rw[X.put_at i j hi hj]
 refine ⟨⟨?_,?_⟩,?_,?_⟩
 ·rw[World.cell?_setCell_other _ _ _ _ (by intro e;injection e with _ e2;omega)]
  by_cases c:j=i
  ·subst c
   rw[if_pos rfl]
   exact World.cell?_setCell_same _ _ _ h1
  ·rw[if_neg c,World.cell?_setCell_other _ _ _ _ (by intro e;injection e with _ e2;omega)]
   exact h1
 ·rw[World.frozen?_setCell,World.frozen?_setCell]
  exact h2
 ·by_cases c:j=i
  ·subst c
   rw[if_pos rfl]
   refine World.cell?_setCell_same _ _ _ (?_:_=some (.int .i64 (X.at j).hi))
   rw[World.cell?_setCell_other _ _ _ _ (by intro e;injection e with _ e2;omega)]
   exact h3
  ·rw[if_neg c,World.cell?_setCell_other _ _ _ _ (by intro e;injection e with _ e2;omega),World.cell?_setCell_other _ _ _ _ (by intro e;injection e with _ e2;omega)]
   exact h3
 ·rw[World.frozen?_setCell,World.frozen?_setCell]
  exact h4
def zes (b off:Nat) (X:Bx) (c:Int) (w:World) (e:Ending) (w':World):Prop:=
 e=(if c=0 then .returned (.tuple #[]) else zcn c)∧ButX b off w w'∧(c=0→XAt w' b off X)
theorem zgZ (i:Nat) (hi:i<3) (w:World):Calls Tryz.prog 132 #[.int .i64 i] w fun e w'=>e=.returned (.tuple #[.int .i64 (oj i),.int .i64 (ok i)])∧Grew w w':=by
 refine (zkW i (by omega) (by omega) w).mono ?_
 rintro e w' ⟨rfl,g⟩
 refine ⟨?_,g⟩
 have h1:(if (i:Int)=0 then (1:Int) else 0)=oj i:=by unfold oj;(repeat' split)<;>omega
 have h2:(if (i:Int)=0 then (2:Int) else 3-i)=ok i:=by unfold ok;(repeat' split)<;>omega
 rw[h1,h2]
theorem zmh (i:Nat):oj i<3:=by unfold oj;split<;>omega
theorem zmi (i:Nat) (hi:i<3):ok i<3:=by unfold ok;split<;>omega
end Go.Proofs.YtdkfkalplmgoeaaGreat
namespace Go.Proofs.YtdkfkalplmgoeaaGreat
open Go.RowKit
set_option maxRecDepth 100000
def OkTo (es:List Int) (k:Nat):World→Prop:=fun _=>∀ j,j<k→es.getD j 0=0
def zm9 (tot:Int) (w0:World) (e:Ending) (w:World):Prop:=∃ c:Int,c≠0∧tot=c∧e=zcn c∧Grew w0 w
section
variable {P:Program} {ops:Array Oper} {es:List Int} {tot:Int} {mks cl free:List Nat} {l:List (Nat × (Value→World→Prop))} {w0:World} {p:Nat→Value} {E:Act→Prop} {o:Oper} {r:List Oper} {i:Nat} {a:Act} {v:Value} {vs:List Value}
def LexS (P:Program) (ops:Array Oper) (es:List Int) (tot:Int) (mks cl free:List Nat) (l:List (Nat × (Value→World→Prop))) (w0:World) (p:Nat→Value) (E:Act→Prop):List Oper→Nat→Act→List Value→Prop:=Lex P ops mks cl free Grew (OkTo es) (rOf l) (zm9 tot w0) w0 p E
theorem zdA (h:E a):LexS P ops es tot mks cl free l w0 p E [] i a []:=zjf h
theorem zag (h1:(mks.contains i||cl.contains i||free.contains i)=false) (h:∀ u:Later w0,zae P o a u.world v) (k:LexS P ops es tot mks cl free l w0 p E r (i+1) (a.put o.dst v) vs):LexS P ops es tot mks cl free l w0 p E (o::r) i a (v::vs):=by
 simp only[Bool.or_eq_false_iff] at h1
 exact zht (by simpa using h1.1.1) (by simpa using h1.1.2) (by simpa using h1.2) (fun w hT _=>h ⟨w,hT⟩) k
theorem zf8 (h1:mks.contains i=true) (h:∀ u:Later w0,zeY ops mks (rOf l) p i u.world→za6 P o a u.world (Made (rOf l i) u.world)) (k:LexS P ops es tot mks cl free l w0 p E r (i+1) (a.put o.dst (p i)) vs):LexS P ops es tot mks cl free l w0 p E (o::r) i a (p i::vs):=by
 refine zhs (by simpa using h1) (fun w hT hF=>?_) k
 have:=h ⟨w,hT⟩ hF
 unfold za6 at this ⊢
 generalize (execOp a.eval o).run P w=x at *
 cases x with
 |ok n w'=>
  cases n<;>simp only[] at this
  obtain ⟨t1,t2,t3⟩:=this
  exact ⟨t1,t2,fun _ h=>h,t3⟩
 |halt x w'=>exact this.elim
def zb4 (P:Program) (o:Oper) (a:Act) (w:World) (v:Value) (c:Int):Prop:=
 match (execOp a.eval o).run P w with
 |.ok (.enter f args) w'=>Calls P f args w' fun e w''=>(e=if c=0 then .returned v else zcn c)∧Grew w w''
 |_=>False
theorem zaU (n:Nat) (h1:mks.contains i=false) (h2:cl[n]?=some i) (h3:cl.Nodup) (hc:(∀ j,j<n→es.getD j 0=0)→es.getD n 0≠0→tot=es.getD n 0)
 (h:∀ u:Later w0,zeY ops mks (rOf l) p i u.world→zb4 P o a u.world v (es.getD n 0)) (k:LexS P ops es tot mks cl free l w0 p E r (i+1) (a.put o.dst v) vs):LexS P ops es tot mks cl free l w0 p E (o::r) i a (v::vs):=by
 refine zhr n (by simpa using h1) h2 h3 (fun w hT hW hF=>?_) k
 have:=h ⟨w,hT⟩ hF
 unfold zb4 at this
 unfold zcf
 generalize (execOp a.eval o).run P w=x at *
 cases x with
 |ok m w'=>
  cases m<;>simp only[] at this
  refine this.mono fun e w'' ⟨he,hg⟩=>?_
  by_cases h0:es.getD n 0=0
  ·rw[if_pos h0] at he
   refine .inl ⟨he,hg,fun j hj=>?_⟩
   by_cases hjn:j=n
   ·subst hjn;exact h0
   ·exact hW j (by omega)
  ·rw[if_neg h0] at he
   exact .inr ⟨_,h0,hc hW h0,he,hT.trans hg⟩
 |halt x w'=>exact this.elim
theorem za9 {id:Nat} {lo:List Oper} {Q:Exit→Act→World→Prop} {a0:Act} {w:World} (es:List Int) (tot:Int) (N:Nat) (mks cl free:List Nat) (l:World→List (Nat × (Value→World→Prop))) (cv:List Value) (tl:List Nat) (htl:List.range' N (lo.length-N)=tl)
 (hg:∀ W0,∀ x∈l W0,Good x.2) (hm:P.follows .mixedOrders=true) (hB:zjB lo.toArray N cl free=true) (hA:zgL N mks cl free=true)
 (hX:tot≠0→∀ u:Later w.drew,∀ a,a.defers=a0.defers→Q (.panic [{ v:=.iface 186 (.agg #[.int .i64 tot]),recovered:=false }]) a u.world)
 (hlex:∀ p,∃ vs,LexS P lo.toArray es tot mks cl free (l w.drew) w.drew p (fun a=>∀ u:Later w.drew,(∀ j,j<cl.length→es.getD j 0=0)→(∀ j,j∈mks→rOf (l w.drew) j (p j) u.world)→(∀ j j',j∈mks→j'∈mks→j≠j'→zc4 (p j) (p j'))→Tail P lo.toArray a (fun w''=>Q .normal a w'') tl u.world) (lo.take N) 0 a0 vs∧
   (cl.map fun c=>vs.getD c undef)=cv) :
 (Code.region id lo.toArray true).wp P Q a0 w:=by
 subst htl
 refine zc3 N mks cl free Grew (OkTo es) (rOf (l w.drew)) (zm9 tot w.drew) ?_ cv hm hB hA (fun w=>Grew.refl w) (fun _ _ _ h k=>h.trans k) (zg2 (hg _)) (zmA (hg _)) (fun j hj=>by omega) fun p=>?_
 ·rintro e w' ⟨c,h1,h2,rfl,h3⟩
  subst h2
  exact ⟨_,rfl,fun a hd=>hX h1 ⟨w',h3⟩ a hd⟩
 obtain ⟨vs,h1,h2⟩:=hlex p
 refine ⟨vs,?_,h2⟩
 have mono:∀ (l':List Oper) (i:Nat) (a:Act) (vs:List Value) (E E':Act→Prop),(∀ a,E a→E' a)→Lex P lo.toArray mks cl free Grew (OkTo es) (rOf (l w.drew)) (zm9 tot w.drew) w.drew p E l' i a vs→Lex P lo.toArray mks cl free Grew (OkTo es) (rOf (l w.drew)) (zm9 tot w.drew) w.drew p E' l' i a vs:=by
  intro l'
  induction l' with
  |nil=>intro i a vs E E' hE h;exact ⟨h.1,hE _ h.2⟩
  |cons o r ih=>
   intro i a vs E E' hE h
   cases vs with
   |nil=>exact h
   |cons v vs=>exact ⟨h.1,ih _ _ _ _ _ hE h.2⟩
 exact mono _ _ _ _ _ _ (fun a h w' hT hW hR hD=>(h ⟨w',hT⟩ hW hR hD).out) h1
end
end Go.Proofs.YtdkfkalplmgoeaaGreat
