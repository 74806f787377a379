/-
  Joined: FliesB.
-/
import Derived.Test.YtdkfkalplmgoeaaGreatFliesFH
namespace Go.Proofs.YtdkfkalplmgoeaaGreat
set_option maxRecDepth 100000
def hBk (a:Arc) (j:Nat):Int:=if j=0 then zcU a else a.step
theorem ziM (a:Arc) (h1:1≤a.time) (h2:1≤a.step) (j:Nat):0≤hBk a j∧hBk a j≤a.step∧(hBk a j=0→zcf a (j+1)=zcf a j)∧(0<hBk a j→zcf a (j+1)=zcf a j++[-hBk a j]):=by
 obtain ⟨-,r0,r1⟩:=zgc a h1 h2
 match j with
 |0=>
  unfold hBk
  rw[if_pos rfl]
  refine ⟨r0,by omega,fun h=>?_,fun h=>?_⟩
  ·unfold zcf
   rw[if_neg (by omega)]
  ·show zcf a 1=[]++[-zcU a]
   unfold zcf
   rw[if_pos h]
   rfl
 |i+1=>
  unfold hBk
  rw[if_neg (by omega)]
  exact ⟨by omega,Int.le_refl _,fun h=>by omega,fun _=>rfl⟩
theorem zm4 (a:Arc) (h1:1≤a.time) (h2:1≤a.step) (j:Nat):∀ m,j≤m→∃ t,zcf a m=zcf a j++t:=by
 intro m
 induction m with
 |zero=>
  intro h
  obtain rfl:j=0:=by omega
  exact ⟨[],by simp⟩
 |succ m ih=>
  intro h
  by_cases c:j=m+1
  ·subst c
   exact ⟨[],by simp⟩
  ·obtain ⟨t,ht⟩:=ih (by omega)
   obtain ⟨k0,k1,k2,k3⟩:=ziM a h1 h2 m
   by_cases z:hBk a m=0
   ·exact ⟨t,by rw[k2 z,ht]⟩
   ·exact ⟨t++[-hBk a m],by rw[k3 (by omega),ht,List.append_assoc]⟩
theorem zkh (a:Arc) (h1:1≤a.time) (h2:1≤a.step) (j:Nat) (hj:j≤zcv a+1):∃ t,zc1 a=zcf a j++t:=by
 rw[←zkg]
 exact zm4 a h1 h2 j _ hj
theorem zqd (a:Arc) (h1:1≤a.time) (h2:1≤a.step):a.time.tdiv a.step=(zcv a:Int)∧a.time.tmod a.step=zcU a:=by
 have q0:0≤a.time/a.step:=Int.ediv_nonneg (by omega) (by omega)
 rw[Int.tdiv_eq_ediv_of_nonneg (by omega),Int.tmod_eq_emod_of_nonneg (by omega)]
 unfold zcv zcU
 rw[Int.toNat_of_nonneg q0]
 exact ⟨rfl,rfl⟩
theorem zrL (a:Arc) (h1:1≤a.time) (h2:1≤a.step):(zcv a:Int)≤a.time:=by
 obtain ⟨e,r0,r1⟩:=zgc a h1 h2
 have:(zcv a:Int)*1≤(zcv a:Int)*a.step:=Int.mul_le_mul_of_nonneg_left h2 (by omega)
 omega
end Go.Proofs.YtdkfkalplmgoeaaGreat
namespace Go.Proofs.YtdkfkalplmgoeaaGreat
open Go.RowKit Go.Shelf
set_option maxRecDepth 100000
set_option maxHeartbeats 16000000
set_option linter.unusedSimpArgs false
theorem zmN (p:Planet) (L:Arcs) (s:State) (v:Value) (w:World) (hd:zcl w v L) (hc:za4 p L s≠0):Calls Tryz.prog 14 #[.agg p.cells.toArray,v,.agg s.cells.toArray] w (zcS (zd8 p L s) w):=by
 have HC:=Lib.hid (fun w' (g:Grew w w')=>show Calls Tryz.prog 29 #[.agg p.cells.toArray,v,.agg s.cells.toArray] w' _ from zeP p L s v w' (hd.grew g))
 have HR:=Lib.hid (show zd8 p L s=zbS (za4 p L s) by unfold zd8;rw[if_neg hc])
 have te:(za4 p L s != 0)=true:=by simp[hc]
 clear hd hc
 rw[HR.out]
 generalize za4 p L s=e at *
 clear HR
 go_enter Tryz.func14,Tryz.ntmps14
 go_wp2_with (first|(go_at_call 29;(with_reducible refine zaa (HC.out _ ?_) ?_);(· exact gwr);intro u)|(with_reducible refine wLi ?_))
 go_ret3
 exact zcS.bad gwr
theorem zrj {a b:Sp} (h:(addR a b).e=0):(addR a b).s=⟨a.lo+b.lo,a.hi+b.hi⟩∧(addR a b).s.okB=true:=by
 obtain ⟨h1,h2,h3⟩:=add_zero h
 have h4:=h
 unfold addR at h4
 rw[h1,h2,if_pos (by rfl)] at h4
 obtain ⟨-,k1,k2⟩:=zeH h4
 rw[h3]
 have:=zgN h1
 have:=zgN h2
 refine ⟨rfl,?_⟩
 unfold Sp.okB numB
 simp only[Bool.and_eq_true,decide_eq_true_eq]
 omega
theorem zpw {s:State} {x:Arc} {l:List Pt} (hs:s.okB=true) (hx:x.okB l=true) (h:(addR s.m x.drop).e=0):(s.mass (addR s.m x.drop).s).okB=true:=by
 obtain ⟨e,k⟩:=zrj h
 refine zlM hs k ?_
 rw[e]
 unfold State.okB at hs
 unfold Arc.okB zgG at hx
 simp only[Bool.and_eq_true,decide_eq_true_eq,List.all_cons,Sp.leastB] at hs hx
 have h1:=hs.2
 have h2:=hx.1.1.1.2.2.2.1.2
 show 1≤s.m.lo+x.drop.lo
 omega
theorem zpK (a:Arc):zcv a≤(zc1 a).length:=by
 unfold zc1
 rw[List.length_append,List.length_replicate]
 omega
theorem zmO (p:Planet) (L:Arcs) (s:State) [hp:Pl64 p] [hs:St64 s] (hL:zhe L) (v:Value) (w:World) (hd:zcl w v L) (hc:za4 p L s=0):Calls Tryz.prog 14 #[.agg p.cells.toArray,v,.agg s.cells.toArray] w (zcS (zd8 p L s) w):=by
 have HC:=Lib.hid (fun w' (g:Grew w w')=>show Calls Tryz.prog 29 #[.agg p.cells.toArray,v,.agg s.cells.toArray] w' (fun e w2=>e=.returned (.int .i64 0)∧Grew w' w2) from zb0 hc (zeP p L s v w' (hd.grew g)))
 have HR:=Lib.hid (show zd8 p L s=ze6 p s [] [] L.reverse by unfold zd8;rw[if_pos hc])
 obtain ⟨hpok,hsok,hl32,hfit,hoks⟩:=zfy hc
 obtain ⟨hsum,hcodes⟩:=zkB (by omega) hfit
 have Hsum0:=Lib.hid (show ((([]:List Tube).length:Nat):Int)+sumN (L.reverse.drop 0)≤4096 by rw[List.drop_zero,zl4];simpa using hsum)
 have Hcodes:=Lib.hid hcodes
 have Hoks:=Lib.hid hoks
 have HL:=Lib.hid hL
 have Hdr:=Lib.hid hd.2
 have Hpok:=Lib.hid hpok
 have Hsok:=Lib.hid hsok
 obtain ⟨ao,cap,rfl,hm,hel⟩:=zdz hd
 have Hel:=Lib.hid hel
 have wl:IntKind.i64.wrap ((L.length:Int)-1)=L.length-1:=zlu _ (by omega) (by omega)
 clear hd hel hc hfit hoks hL hsum hcodes hpok hsok
 generalize zd8 p L s=R at *
 go_enter Tryz.func14,Tryz.ntmps14
 go_wp2_with (first|(go_at_call 29;(with_reducible refine zaa (HC.out _ ?_) ?_);(· exact gwr);intro u)|(with_reducible refine wLi ?_))
 go_loopw [6,7,8,10,11,12] (fun q6 q7 q8 v6 v7 t wr=>∃ (k:Nat) (st:State) (S:List State) (T:List Tube),t=.int .i64 ((L.length:Int)-1-k)∧q6=.slice none 0 0∧q7=.slice none 0 0∧q8=.int .i64 0∧k≤L.length∧S.length=k∧wr.ownsRow (w.heap.size+1+1) 28 15 v6 S.length (S.flatMap State.cells)∧wr.ownsRow w.heap.size 81 16 v7 T.length (T.flatMap Tube.cells)∧RowIs wr w.heap.size 43 p.cells∧RowIs wr (w.heap.size+1) 28 st.cells∧Grew w wr∧St64 st∧Hid (st.okB=true)∧Hid (R=ze6 p st S T (L.reverse.drop k))∧Hid ((T.length:Int)+sumN (L.reverse.drop k)≤4096)) (fun _ _ _ _ _ t _=>(intOf t+1).toNat)
 case atStart=>exact ⟨0,s,[],[],by go_simp,rfl,rfl,rfl,by omega,rfl,World.ownsRow_nil _ _ _ _,World.ownsRow_nil _ _ _ _,inferInstance,inferInstance,gwr,hs,Hsok,HR,Hsum0⟩
 case round=>
  obtain ⟨k,st,S,T,rfl,rfl,rfl,rfl,hk,hSk,hrow6,hrow7,r3,r5,hg,hst,Hok,Hgo,Hsum⟩:=hrel
  obtain ⟨z,rfl⟩:=zal hg
  clear hg
  have i3:=r3.blockIn
  have i5:=r5.blockIn
  by_cases hlt:k<L.length
  ·obtain ⟨i,hi⟩:∃ i:Nat,i+k+1=L.length:=⟨L.length-1-k,by omega⟩
   have hti:(L.length:Int)-1-k=i:=by omega
   rw[hti]
   have hil:i<L.length:=by omega
   have hrd:L.reverse.drop k=L[i]::L.reverse.drop (k+1):=by
    rw[List.drop_eq_getElem_cons (by simp;omega),List.getElem_reverse]
    congr 2
    omega
   obtain ⟨b,o,rfl,hb,hr⟩:=Hel.out i hil
   obtain ⟨hdr,ht,hst2⟩:=Hdr.out _ (List.getElem_mem hil)
   obtain ⟨hx1,hx2,hx3,hx4⟩:=HL.out _ (List.getElem_mem hil)
   have hok:=Hoks.out _ (List.getElem_mem hil)
   have hcode:=Hcodes.out _ (List.getElem_mem hil)
   obtain ⟨hp1,hp2⟩:=zfe hok
   have ib:BlockIn w b:=⟨hb⟩
   have rz:=hr.grew z.grew
   have hs0:=Hsum.out
   rw[hrd] at hs0
   have hs1:(T.length:Int)+(zaF L[i].1 L[i].2+sumN (L.reverse.drop (k+1)))≤4096:=hs0
   have hn0:=zh6 (L.reverse.drop (k+1))
   have hll:=zhk true hok hcode
   have hll2:((zc1 L[i].1).length:Int)=zaF L[i].1 L[i].2:=hll
   have hlen:T.length+(zc1 L[i].1).length≤4096:=by omega
   have hgo:=Hgo.out
   rw[hrd] at hgo
   have HM:=Lib.hid (fun w'=>zfH st.m L[i].1.drop w')
   have HM64:S64 (addR st.m L[i].1.drop).s:=inferInstance
   have hgo2:R=if (addR st.m L[i].1.drop).e=0 then (if (zan p L[i].1 L[i].2 (st.mass (addR st.m L[i].1.drop).s) T (zc1 L[i].1)).e=0 then ze6 p (zan p L[i].1 L[i].2 (st.mass (addR st.m L[i].1.drop).s) T (zc1 L[i].1)).s (S++[(zan p L[i].1 L[i].2 (st.mass (addR st.m L[i].1.drop).s) T (zc1 L[i].1)).s]) (zan p L[i].1 L[i].2 (st.mass (addR st.m L[i].1.drop).s) T (zc1 L[i].1)).T (L.reverse.drop (k+1)) else zbS (zan p L[i].1 L[i].2 (st.mass (addR st.m L[i].1.drop).s) T (zc1 L[i].1)).e) else zbS (addR st.m L[i].1.drop).e:=hgo
   have Hgo2:=Lib.hid hgo2
   have Hs1:=Lib.hid hs1
   have Hll:=Lib.hid hll2
   have HStep:=Lib.hid (fun (st':State) (h:Int) (h64:St64 st') (hok':st'.okB=true) (hh:-9223372036854775807≤h∧h<0) (w':World) (g:Grew w w')=>show Calls Tryz.prog 30 #[.agg p.cells.toArray,.agg L[i].1.cells.toArray,.agg st'.cells.toArray,.int .i64 h] w' (zhv (zaO p L[i].1 L[i].2 st' h) w') from by
    have e:=zpa (x:=L[i].1) (l:=L[i].2) Hpok.out hok hok' (by unfold numB;simp;omega) (show h≠0 by omega)
    have hS:S64 (⟨h,h⟩:Sp):=⟨by unfold I64;simp only;omega,by unfold I64;simp only;omega⟩
    rw[←e]
    exact ziC zj5 p L[i].1 L[i].2 st' h w' (hdr.grew g))
   have HOk:=Lib.hid (ziV (p:=p) (x:=L[i].1) (l:=L[i].2))
   have Htk:=Lib.hid (ziM L[i].1 hp1 hp2)
   have Hpre:=Lib.hid (zkh L[i].1 hp1 hp2)
   obtain ⟨qf1,qf2⟩:=zqd L[i].1 hp1 hp2
   have qf3:=zrL L[i].1 hp1 hp2
   have Hend:=Lib.hid (zkg L[i].1)
   have hokm:=Lib.hid (fun (h:(addR st.m L[i].1.drop).e=0)=>show (st.mass (addR st.m L[i].1.drop).s).okB=true from zpw Hok.out hok h)
   clear Hel Hdr HL Hoks Hcodes Hsum hs0 hs1 Hgo hgo hgo2 hll hll2 hx1 hx2 hx3 hok hcode hdr hr hn0 hti
   have t5:decide ((0:Int)≤(i:Int))=true:=by simp
   go_upto_region 10 with (first|(with_reducible refine wLr ?_)|(with_reducible refine wLi ?_)|(with_reducible refine wSf ?_)|(with_reducible refine wSi ?_))
   refine zcR (fun Y=>RowIs Y w.heap.size 43 p.cells∧RowIs Y (w.heap.size+1) 28 st.cells∧RowIs Y z.world.heap.size 48 L[i].1.cells∧Y.ownsRow (w.heap.size+1+1) 28 15 u10 S.length (S.flatMap State.cells)∧Y.ownsRow w.heap.size 81 16 u11 T.length (T.flatMap Tube.cells)∧Grew w Y) ⟨inferInstance,inferInstance,inferInstance,hrow6.alloc _,hrow7.alloc _,gwr⟩ ?_
   clear i3 i5 r3 r5 rz hrow6 hrow7
   rintro Yw ⟨r3,r5,r13,hrow6,hrow7,gY⟩
   obtain ⟨Y,rfl⟩:=zal gY
   clear gY
   generalize z.world.heap.size=bA at *
   have i3:=r3.blockIn
   have i5:=r5.blockIn
   have i13:=r13.blockIn
   generalize L[i].1=x at *
   generalize L[i].2=l at *
   by_cases e1:(addR st.m x.drop).e=0
   rotate_left
   ·have te1:((addR st.m x.drop).e != 0)=true:=by simp[e1]
    have HE:=Lib.hid (Hgo2.out.trans (if_neg e1))
    clear hokm Hgo2 e1
    generalize addR st.m x.drop=M at *
    go_wp2_with (first|(go_at_call 33;(with_reducible refine zaa (HM.out _) ?_);intro um)|(with_reducible refine wLr ?_)|(with_reducible refine wLi ?_)|(with_reducible refine wSf ?_)|(with_reducible refine wSi ?_))
    go_ret3
    rw[HE.out]
    exact zcS.bad gwr
   have te1:((addR st.m x.drop).e != 0)=false:=by simp[e1]
   have Hgo3:=Lib.hid (Hgo2.out.trans (if_pos e1))
   have Hok1:=Lib.hid (hokm.out e1)
   have hm64:St64 (st.mass (addR st.m x.drop).s):=⟨hst.t,hst.p,hst.v,HM64⟩
   have hne5:u10.ownBlock≠some (w.heap.size+1):=fun e=>by have:=zaN hrow6 _ e;omega
   have hne7:u11.ownBlock≠some (w.heap.size+1):=(r5.not_row (by decide) hrow7).symm
   have aA:Apart bA (w.heap.size+1):=zdg r13 r5 (by decide)
   clear hokm Hgo2 e1
   generalize hM:addR st.m x.drop=M at *
   clear hM
   go_upto_region 14 with (first|(go_at_call 33;(with_reducible refine zaa (HM.out _) ?_);intro um)|(with_reducible refine wLr ?_)|(with_reducible refine wLi ?_)|(with_reducible refine wSf ?_)|(with_reducible refine wSi ?_))
   refine zcR (fun Z=>RowIs Z w.heap.size 43 p.cells∧RowIs Z (w.heap.size+1) 28 (st.mass M.s).cells∧RowIs Z bA 48 x.cells∧Z.ownsRow (w.heap.size+1+1) 28 15 u10 S.length (S.flatMap State.cells)∧Z.ownsRow w.heap.size 81 16 u11 T.length (T.flatMap Tube.cells)∧Grew w Z) ⟨inferInstance,zdr inferInstance rfl,inferInstance,zeM hrow6 _ _ _ hne5 gwr,zeM hrow7 _ _ _ hne7 gwr,gwr⟩ ?_
   clear i3 i5 i13 r3 r5 r13 hrow6 hrow7 hne5 hne7 aA
   rintro Zw ⟨r3,r5,r13,hrow6,hrow7,gZ⟩
   obtain ⟨Z,rfl⟩:=zal gZ
   clear gZ
   have i3:=r3.blockIn
   have i5:=r5.blockIn
   have i13:=r13.blockIn
   generalize st.mass M.s=s1 at *
   have qw1:IntKind.i64.wrap (zcv x:Int)=zcv x:=zlu _ (by omega) (by omega)
   have hrs:=(Htk.out 0).1
   have hrs2:=(Htk.out 0).2.1
   have hrs0:hBk x 0=zcU x:=rfl
   rw[hrs0] at hrs hrs2
   obtain ⟨rs,hrsE⟩:∃ r,r=zcU x:=⟨_,rfl⟩
   rw[←hrsE] at qf2 hrs hrs2
   have qw2:IntKind.i64.wrap rs=rs:=zlu _ (by omega) (by omega)
   have HrsE:=Lib.hid hrsE
   obtain ⟨fa,hfa⟩:∃ q,q=zcv x:=⟨_,rfl⟩
   rw[←hfa] at qf1 qf3 qw1
   have Hfa:=Lib.hid hfa
   have hs2:x.step≠0:=by omega
   clear hrsE hfa hrs0
   go_wp2_with (first|(with_reducible refine wLi ?_))
   go_loopw [6,7,8,11,18] (fun q6 q7 q8 v7 t wr=>∃ (j:Nat) (s':State) (T':List Tube),t=.int .i64 j∧q6=.slice none 0 0∧q7=.slice none 0 0∧q8=.int .i64 0∧j≤fa+1∧T'.length=T.length+(zcf x j).length∧wr.ownsRow (w.heap.size+1+1) 28 15 u10 S.length (S.flatMap State.cells)∧wr.ownsRow w.heap.size 81 16 v7 T'.length (T'.flatMap Tube.cells)∧RowIs wr w.heap.size 43 p.cells∧RowIs wr (w.heap.size+1) 28 s'.cells∧RowIs wr bA 48 x.cells∧Grew w wr∧St64 s'∧Hid (s'.okB=true)∧Hid (zan p x l s1 T (zcf x j)=⟨s',T',0⟩)) (fun _ _ _ _ t _=>fa+1-(intOf t).toNat)
   case atStart=>exact ⟨0,s1,T,rfl,rfl,rfl,rfl,by omega,by simp[zcf],hrow6,hrow7,r3,r5,r13,gwr,hm64,Hok1,Lib.hid rfl⟩
   case round=>
    clear i3 i5 i13 r3 r5 r13 hrow6 hrow7
    obtain ⟨j,s',T',rfl,rfl,rfl,rfl,hj,hT',hrow6,hrow7,r3,r5,r13,hg,hs64,Hok2,Hal⟩:=hrel
    obtain ⟨y,rfl⟩:=zal hg
    clear hg
    have i3:=r3.blockIn
    have i5:=r5.blockIn
    have i13:=r13.blockIn
    have hj64:(j:Int)+1≤9223372036854775807:=by have:=Hfa.out;have:=zpK x;omega
    by_cases hjf:j≤fa
    ·have hjf':decide ((j:Int)≤(fa:Int))=true:=by simp;omega
     have hjA:j+1≤zcv x+1:=by have:=Hfa.out;omega
     obtain ⟨k0,k1,k2,k3⟩:=Htk.out j
     by_cases hj0:j=0
     ·have hjb:((j:Int)==0)=true:=by simp[hj0]
      have hbk:hBk x j=rs:=by rw[hj0,HrsE.out];rfl
      rw[hbk] at k0 k1 k2 k3
      clear hj0 hbk
      by_cases hr0:rs=0
      ·have hrb:(rs==0)=true:=by simp[hr0]
       have htk:=k2 hr0
       have Hal3:=Lib.hid (show zan p x l s1 T (zcf x (j+1))=⟨s',T',0⟩ by rw[htk];exact Hal.out)
       have HT3:=Lib.hid (show T'.length=T.length+(zcf x (j+1)).length by rw[htk];exact hT')
       clear htk k0 k1 k2 k3 hr0 Hal hT'
       go_wp2_with (first|(with_reducible refine wLr ?_)|(with_reducible refine wLi ?_)|(with_reducible refine wSf ?_)|(with_reducible refine wSi ?_))
       go_roundw
       ·exact ⟨j+1,s',T',by go_num,rfl,rfl,rfl,by omega,HT3.out,hrow6,hrow7,r3,r5,r13,gwr,hs64,Hok2,Hal3⟩
       ·simp[intOf];omega
      ·have hrb:(rs==0)=false:=by simp[hr0]
       have htk:=k3 (by omega)
       have hrp:0<rs:=by omega
       clear k0 k1 k2 k3 hr0
       have hal:zan p x l s1 T (zcf x (j+1))=if (zaO p x l s' (-rs)).e=0 then ⟨(zaO p x l s' (-rs)).s,T'++[(zaO p x l s' (-rs)).t],0⟩ else ⟨zaL,[],(zaO p x l s' (-rs)).e⟩:=by
        rw[htk,zf2 p x l s1 T (zcf x j) (-rs) (by rw[Hal.out]),Hal.out]
       have HS:=Lib.hid (HStep.out s' (-rs) hs64 Hok2.out (by omega))
       have hbad:(zan p x l s1 T (zcf x (j+1))).e≠0→zan p x l s1 T (zc1 x)=zan p x l s1 T (zcf x (j+1)):=fun h=>by
        obtain ⟨tl,htl⟩:=Hpre.out (j+1) (by omega)
        rw[htl]
        exact zf1 p x l s1 T (zcf x (j+1)) tl h
       have hlt2:T'.length<4096:=by
        obtain ⟨tl,htl⟩:=Hpre.out (j+1) (by omega)
        have h1:=congrArg List.length htl
        rw[htk] at h1
        simp at h1
        omega
       have hnok:(zaO p x l s' (-rs)).e=0→(zaO p x l s' (-rs)).s.okB=true:=fun e=>by
        have h:=HOk.out (zcf x (j+1)) s1 T Hok1.out (by rw[hal,if_pos e])
        rw[hal,if_pos e] at h
        exact h
       have hlen2:(T'++[(zaO p x l s' (-rs)).t]).length=T.length+(zcf x (j+1)).length:=by
        rw[htk]
        simp[hT']
        omega
       have hN64:St64 (zaO p x l s' (-rs)).s:=zh4 _ _ _ _ _
       have hng:IntKind.i64.wrap (-rs)=-rs:=zlu _ (by omega) (by omega)
       have hal2:=Lib.hid hal
       have hbad2:=Lib.hid hbad
       have hnok2:=Lib.hid hnok
       have hlen3:=Lib.hid hlen2
       clear hal hbad hnok hlen2 htk
       generalize zaO p x l s' (-rs)=N at *
       by_cases e1:N.e=0
       rotate_left
       ·have te:(N.e != 0)=true:=by simp[e1]
        have HE:=Lib.hid (show R=zbS N.e by
         have ha:zan p x l s1 T (zc1 x)=⟨zaL,[],N.e⟩:=by
          rw[hbad2.out (by rw[hal2.out,if_neg e1];exact e1),hal2.out,if_neg e1]
         rw[Hgo3.out,ha,if_neg e1])
        clear e1 hal2 hbad2 hnok2 hlen3
        go_wp2_with (first|(go_at_call 30;(with_reducible refine (HS.out _ ?_).mono ?_);(· exact gwr);rintro en w2 ⟨rfl,hg⟩;obtain ⟨u1,rfl⟩:=zal hg;clear hg)|(with_reducible refine wLr ?_)|(with_reducible refine wLi ?_)|(with_reducible refine wSf ?_)|(with_reducible refine wSi ?_))
        go_ret3
        rw[HE.out]
        exact zcS.bad gwr
       ·have te:(N.e != 0)=false:=by simp[e1]
        have Ha:=Lib.hid (show zan p x l s1 T (zcf x (j+1))=⟨N.s,T'++[N.t],0⟩ by rw[hal2.out,if_pos e1])
        have Hn:=Lib.hid (hnok2.out e1)
        clear hnok2 hal2 hbad2 e1
        have aA:Apart bA (w.heap.size+1):=zdg r13 r5 (by decide)
        have hne5:u10.ownBlock≠some (w.heap.size+1):=fun e=>by have:=zaN hrow6 _ e;omega
        have hne7:u11.ownBlock≠some (w.heap.size+1):=(r5.not_row (by decide) hrow7).symm
        go_upto_region 27 with (first|(go_at_call 30;(with_reducible refine (HS.out _ ?_).mono ?_);(· exact gwr);rintro en w2 ⟨rfl,hg⟩;obtain ⟨u1,rfl⟩:=zal hg;clear hg)|(with_reducible refine wLr ?_)|(with_reducible refine wLi ?_)|(with_reducible refine wSf ?_)|(with_reducible refine wSi ?_))
        refine zcR (fun Z=>RowIs Z w.heap.size 43 p.cells∧RowIs Z (w.heap.size+1) 28 N.s.cells∧RowIs Z bA 48 x.cells∧RowIs Z (u1.world.heap.size+1) 81 [.int .i64 N.t.a,.int .i64 N.t.z,.int .i64 N.t.p.x.lo,.int .i64 N.t.p.x.hi,.int .i64 N.t.p.y.lo,.int .i64 N.t.p.y.hi,.int .i64 N.t.p.z.lo,.int .i64 N.t.p.z.hi,.int .i64 N.t.v.x.lo,.int .i64 N.t.v.x.hi,.int .i64 N.t.v.y.lo,.int .i64 N.t.v.y.hi,.int .i64 N.t.v.z.lo,.int .i64 N.t.v.z.hi,.int .i64 N.t.m.lo,.int .i64 N.t.m.hi]∧Z.ownsRow (w.heap.size+1+1) 28 15 u10 S.length (S.flatMap State.cells)∧Z.ownsRow w.heap.size 81 16 u11 T'.length (T'.flatMap Tube.cells)∧Grew w Z) ⟨inferInstance,zdr inferInstance rfl,inferInstance,inferInstance,zfG hrow6 _ _ hne5 gwr,zfG hrow7 _ _ hne7 gwr,gwr⟩ ?_
        rintro Z ⟨s3,s5,s13,sT,s6,s7,gZ⟩
        generalize u1.world.heap.size+1=bT at *
        clear i3 i5 i13 r3 r5 r13 hrow6 hrow7 aA hne5 hne7
        have j3:=s3.blockIn
        have j5:=s5.blockIn
        have j13:=s13.blockIn
        have jT:=sT.blockIn
        have b7:∀ k,u11.ownBlock=some k→w.heap.size≤k:=zaN s7
        have hyZ:w.heap.size≤Z.heap.size:=gZ.size
        go_wp2_with (first|(with_reducible refine wLi ?_)|(at_builtin;go_loud (refine ze1 w.heap.size Z hyZ rfl _ _ rfl u11 T' s7 rfl N.t _ rfl (by omega) ?_;intro v' w1 ho7' hg7;have t3:=s3.kept hg7 (s3.not_row (by decide) s7);have t5:=s5.kept hg7 (s5.not_row (by decide) s7);have t13:=s13.kept hg7 (s13.not_row (by decide) s7);have t6:=s6.kept hg7 (zb9 s6 s7 (by decide));have g1:Grew w w1:=gZ.grown hg7 b7;have k13:=t13.blockIn)))
        go_roundw
        ·exact ⟨j+1,N.s,T'++[N.t],by go_num,rfl,rfl,rfl,by omega,hlen3.out,t6,ho7',t3,t5,t13,g1,hN64,Hn,Ha⟩
        ·simp[intOf];omega
     ·have hjb:((j:Int)==0)=false:=by simp[hj0]
      have hbk:hBk x j=x.step:=by unfold hBk;rw[if_neg hj0]
      rw[hbk] at k0 k1 k2 k3
      clear hj0 hbk
      have hsb:(x.step==0)=false:=by simp[hs2]
      have htk:=k3 (by omega)
      clear k0 k1 k2 k3
      have hal:zan p x l s1 T (zcf x (j+1))=if (zaO p x l s' (-x.step)).e=0 then ⟨(zaO p x l s' (-x.step)).s,T'++[(zaO p x l s' (-x.step)).t],0⟩ else ⟨zaL,[],(zaO p x l s' (-x.step)).e⟩:=by
       rw[htk,zf2 p x l s1 T (zcf x j) (-x.step) (by rw[Hal.out]),Hal.out]
      have HS:=Lib.hid (HStep.out s' (-x.step) hs64 Hok2.out (by omega))
      have hbad:(zan p x l s1 T (zcf x (j+1))).e≠0→zan p x l s1 T (zc1 x)=zan p x l s1 T (zcf x (j+1)):=fun h=>by
       obtain ⟨tl,htl⟩:=Hpre.out (j+1) (by omega)
       rw[htl]
       exact zf1 p x l s1 T (zcf x (j+1)) tl h
      have hlt2:T'.length<4096:=by
       obtain ⟨tl,htl⟩:=Hpre.out (j+1) (by omega)
       have h1:=congrArg List.length htl
       rw[htk] at h1
       simp at h1
       omega
      have hnok:(zaO p x l s' (-x.step)).e=0→(zaO p x l s' (-x.step)).s.okB=true:=fun e=>by
       have h:=HOk.out (zcf x (j+1)) s1 T Hok1.out (by rw[hal,if_pos e])
       rw[hal,if_pos e] at h
       exact h
      have hlen2:(T'++[(zaO p x l s' (-x.step)).t]).length=T.length+(zcf x (j+1)).length:=by
       rw[htk]
       simp[hT']
       omega
      have hN64:St64 (zaO p x l s' (-x.step)).s:=zh4 _ _ _ _ _
      have hng:IntKind.i64.wrap (-x.step)=-x.step:=zlu _ (by omega) (by omega)
      have hal2:=Lib.hid hal
      have hbad2:=Lib.hid hbad
      have hnok2:=Lib.hid hnok
      have hlen3:=Lib.hid hlen2
      clear hal hbad hnok hlen2 htk
      generalize zaO p x l s' (-x.step)=N at *
      by_cases e1:N.e=0
      rotate_left
      ·have te:(N.e != 0)=true:=by simp[e1]
       have HE:=Lib.hid (show R=zbS N.e by
        have ha:zan p x l s1 T (zc1 x)=⟨zaL,[],N.e⟩:=by
         rw[hbad2.out (by rw[hal2.out,if_neg e1];exact e1),hal2.out,if_neg e1]
        rw[Hgo3.out,ha,if_neg e1])
       clear e1 hal2 hbad2 hnok2 hlen3
       go_wp2_with (first|(go_at_call 30;(with_reducible refine (HS.out _ ?_).mono ?_);(· exact gwr);rintro en w2 ⟨rfl,hg⟩;obtain ⟨u1,rfl⟩:=zal hg;clear hg)|(with_reducible refine wLr ?_)|(with_reducible refine wLi ?_)|(with_reducible refine wSf ?_)|(with_reducible refine wSi ?_))
       go_ret3
       rw[HE.out]
       exact zcS.bad gwr
      ·have te:(N.e != 0)=false:=by simp[e1]
       have Ha:=Lib.hid (show zan p x l s1 T (zcf x (j+1))=⟨N.s,T'++[N.t],0⟩ by rw[hal2.out,if_pos e1])
       have Hn:=Lib.hid (hnok2.out e1)
       clear hnok2 hal2 hbad2 e1
       have aA:Apart bA (w.heap.size+1):=zdg r13 r5 (by decide)
       have hne5:u10.ownBlock≠some (w.heap.size+1):=fun e=>by have:=zaN hrow6 _ e;omega
       have hne7:u11.ownBlock≠some (w.heap.size+1):=(r5.not_row (by decide) hrow7).symm
       go_upto_region 27 with (first|(go_at_call 30;(with_reducible refine (HS.out _ ?_).mono ?_);(· exact gwr);rintro en w2 ⟨rfl,hg⟩;obtain ⟨u1,rfl⟩:=zal hg;clear hg)|(with_reducible refine wLr ?_)|(with_reducible refine wLi ?_)|(with_reducible refine wSf ?_)|(with_reducible refine wSi ?_))
       refine zcR (fun Z=>RowIs Z w.heap.size 43 p.cells∧RowIs Z (w.heap.size+1) 28 N.s.cells∧RowIs Z bA 48 x.cells∧RowIs Z (u1.world.heap.size+1) 81 [.int .i64 N.t.a,.int .i64 N.t.z,.int .i64 N.t.p.x.lo,.int .i64 N.t.p.x.hi,.int .i64 N.t.p.y.lo,.int .i64 N.t.p.y.hi,.int .i64 N.t.p.z.lo,.int .i64 N.t.p.z.hi,.int .i64 N.t.v.x.lo,.int .i64 N.t.v.x.hi,.int .i64 N.t.v.y.lo,.int .i64 N.t.v.y.hi,.int .i64 N.t.v.z.lo,.int .i64 N.t.v.z.hi,.int .i64 N.t.m.lo,.int .i64 N.t.m.hi]∧Z.ownsRow (w.heap.size+1+1) 28 15 u10 S.length (S.flatMap State.cells)∧Z.ownsRow w.heap.size 81 16 u11 T'.length (T'.flatMap Tube.cells)∧Grew w Z) ⟨inferInstance,zdr inferInstance rfl,inferInstance,inferInstance,zfG hrow6 _ _ hne5 gwr,zfG hrow7 _ _ hne7 gwr,gwr⟩ ?_
       rintro Z ⟨s3,s5,s13,sT,s6,s7,gZ⟩
       generalize u1.world.heap.size+1=bT at *
       clear i3 i5 i13 r3 r5 r13 hrow6 hrow7 aA hne5 hne7
       have j3:=s3.blockIn
       have j5:=s5.blockIn
       have j13:=s13.blockIn
       have jT:=sT.blockIn
       have b7:∀ k,u11.ownBlock=some k→w.heap.size≤k:=zaN s7
       have hyZ:w.heap.size≤Z.heap.size:=gZ.size
       go_wp2_with (first|(with_reducible refine wLi ?_)|(at_builtin;go_loud (refine ze1 w.heap.size Z hyZ rfl _ _ rfl u11 T' s7 rfl N.t _ rfl (by omega) ?_;intro v' w1 ho7' hg7;have t3:=s3.kept hg7 (s3.not_row (by decide) s7);have t5:=s5.kept hg7 (s5.not_row (by decide) s7);have t13:=s13.kept hg7 (s13.not_row (by decide) s7);have t6:=s6.kept hg7 (zb9 s6 s7 (by decide));have g1:Grew w w1:=gZ.grown hg7 b7;have k13:=t13.blockIn)))
       go_roundw
       ·exact ⟨j+1,N.s,T'++[N.t],by go_num,rfl,rfl,rfl,by omega,hlen3.out,t6,ho7',t3,t5,t13,g1,hN64,Hn,Ha⟩
       ·simp[intOf];omega
    ·have hjf':decide ((j:Int)≤(fa:Int))=false:=by simp;omega
     have hje:zcf x j=zc1 x:=by
      rw[←Hend.out,←Hfa.out,show j=fa+1 by omega]
     rw[hje] at hT'
     have hAl:=Hal.out
     rw[hje] at hAl
     have HE2:=Lib.hid (show R=ze6 p s' (S++[s']) T' (L.reverse.drop (k+1)) by
      have h:=Hgo3.out
      rw[hAl,if_pos rfl] at h
      exact h)
     clear hAl hje Hal Hgo3
     go_upto_region 28 with (first|(with_reducible refine wLr ?_)|(with_reducible refine wLi ?_)|(with_reducible refine wSf ?_)|(with_reducible refine wSi ?_))
     refine zcR (fun Z=>RowIs Z w.heap.size 43 p.cells∧RowIs Z (w.heap.size+1) 28 [.int .i64 (s').t,.int .i64 (s').p.x.lo,.int .i64 (s').p.x.hi,.int .i64 (s').p.y.lo,.int .i64 (s').p.y.hi,.int .i64 (s').p.z.lo,.int .i64 (s').p.z.hi,.int .i64 (s').v.x.lo,.int .i64 (s').v.x.hi,.int .i64 (s').v.y.lo,.int .i64 (s').v.y.hi,.int .i64 (s').v.z.lo,.int .i64 (s').v.z.hi,.int .i64 (s').m.lo,.int .i64 (s').m.hi]∧Z.ownsRow (w.heap.size+1+1) 28 15 u10 S.length (S.flatMap State.cells)∧Z.ownsRow w.heap.size 81 16 u11 T'.length (T'.flatMap Tube.cells)∧Grew w Z) ⟨inferInstance,zdr r5 rfl,hrow6,hrow7,gwr⟩ ?_
     rintro Z' ⟨s3,s5,s6,s7,gZ⟩
     clear i3 i5 i13 r3 r5 r13 hrow6 hrow7
     have j3:=s3.blockIn
     have j5:=s5.blockIn
     have hyZ:w.heap.size+1+1≤Z'.heap.size:=by have:=s5.lt;omega
     have n5:some (w.heap.size+1)≠u10.ownBlock:=fun e=>by have:=zaN s6 _ e.symm;omega
     have b6:∀ k,u10.ownBlock=some k→w.heap.size≤k:=fun k e=>by have:=zaN s6 _ e;omega
     go_wp2_with (first|(with_reducible refine wLi ?_)|(at_builtin;go_loud (refine zdF (w.heap.size+1+1) Z' hyZ rfl _ _ rfl u10 S s6 rfl s' _ rfl (by omega) ?_;intro v' w1 ho6' hg6;have t3:=s3.kept hg6 (s3.not_row (by decide) s6);have t5:=s5.kept hg6 n5;have t7:=s7.kept hg6 (zb9 s7 s6 (by decide));have g1:Grew w w1:=gZ.grown hg6 b6)))
     go_roundw
     ·exact ⟨k+1,s',S++[s'],T',by go_simp;omega,rfl,rfl,rfl,by omega,by simp[hSk],ho6',t7,t3,t5,g1,hs64,Hok2,HE2,Lib.hid (by have:=Hs1.out;have:=Hll.out;omega)⟩
     ·simp[intOf]
  ·have hend:=Hgo.out
   rw[List.drop_of_length_le (by simp;omega)] at hend
   have tf:decide ((0:Int)≤(L.length:Int)-1-k)=false:=by simp;omega
   go_wp2
   go_ret3
   rw[hend]
   exact ⟨_,_,rfl,SlAt.of_owns hrow6,SlAt.of_owns hrow7,z.grew⟩
theorem zmM (p:Planet) (L:Arcs) (s:State) [hp:Pl64 p] [hs:St64 s] (hL:zhe L) (v:Value) (w:World) (hd:zcl w v L):Calls Tryz.prog 14 #[.agg p.cells.toArray,v,.agg s.cells.toArray] w (zcS (zd8 p L s) w):=by
 by_cases h:za4 p L s=0
 ·exact zmO p L s hL v w hd h
 ·exact zmN p L s v w hd h
end Go.Proofs.YtdkfkalplmgoeaaGreat
