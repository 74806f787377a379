/-
  Joined: FliesF.
-/
import Derived.Test.YtdkfkalplmgoeaaGreatFliesCH
import Derived.Test.YtdkfkalplmgoeaaGreatStepUH
import Derived.Test.YtdkfkalplmgoeaaGreatRefFlyLawH
import Derived.Test.YtdkfkalplmgoeaaGreatRefOpsAllH
namespace Go.Proofs.YtdkfkalplmgoeaaGreat
open Go.RowKit Go.Shelf
set_option maxRecDepth 100000
set_option maxHeartbeats 16000000
set_option linter.unusedSimpArgs false
theorem ze1 {ops:Array Oper} {rest:List Oper} {o:Oper} {a:Act} {Q:Exit→Act→World→Prop} (base:Nat) (w0:World) (hb:base≤w0.heap.size) {m:Nat} [hm:SizeAt w0 m] (hgd:o.guard=none) (s x:Operand)
 (ho:o.op=.call { callee:=.builtin .append,args:=#[s,x],argTypes:=#[50, 50] }) (v:Value) (S:List Tube) (hown:w0.ownsRow base 81 16 v S.length (S.flatMap Tube.cells)) (hs:a.eval s=v) (t:Tube) (ty:TypeId)
 (hx:a.eval x=.slice (some ⟨m,0,none⟩) 1 1) (hn:S.length≤4096)
 (h:∀ v' w1,w1.ownsRow base 81 16 v' (S++[t]).length ((S++[t]).flatMap Tube.cells)→w0.grownBy w1 v.ownBlock→wpList Tryz.prog ops Q rest (a.put o.dst v') w1) :
 wpList Tryz.prog ops Q (o::rest) a (w0.alloc (.cells #[.int .i64 t.a,.int .i64 t.z,.int .i64 t.p.x.lo,.int .i64 t.p.x.hi,.int .i64 t.p.y.lo,.int .i64 t.p.y.hi,.int .i64 t.p.z.lo,.int .i64 t.p.z.hi,.int .i64 t.v.x.lo,.int .i64 t.v.x.hi,.int .i64 t.v.y.lo,.int .i64 t.v.y.hi,.int .i64 t.v.z.lo,.int .i64 t.v.z.hi,.int .i64 t.m.lo,.int .i64 t.m.hi] ty)):=by
 obtain rfl:=hm.eq
 obtain ⟨i0,hi,hz0,hzz1,hzz2⟩:=info_parts zqV
 refine wpList_append_lies _ hgd s x 50 ho base 81 i0 _ 16 128 Tryz.underlying50 hi hz0 hzz1 hzz2 rfl (by decide) v _ _ hs (hown.alloc _) ⟨w0.heap.size,0,none⟩ 1 1 [.int .i64 t.a,.int .i64 t.z,.int .i64 t.p.x.lo,.int .i64 t.p.x.hi,.int .i64 t.p.y.lo,.int .i64 t.p.y.hi,.int .i64 t.p.z.lo,.int .i64 t.p.z.hi,.int .i64 t.v.x.lo,.int .i64 t.v.x.hi,.int .i64 t.v.y.lo,.int .i64 t.v.y.hi,.int .i64 t.v.z.lo,.int .i64 t.v.z.hi,.int .i64 t.m.lo,.int .i64 t.m.hi] hx rfl (by simpa using zf5 w0 [.int .i64 t.a,.int .i64 t.z,.int .i64 t.p.x.lo,.int .i64 t.p.x.hi,.int .i64 t.p.y.lo,.int .i64 t.p.y.hi,.int .i64 t.p.z.lo,.int .i64 t.p.z.hi,.int .i64 t.v.x.lo,.int .i64 t.v.x.hi,.int .i64 t.v.y.lo,.int .i64 t.v.y.hi,.int .i64 t.v.z.lo,.int .i64 t.v.z.hi,.int .i64 t.m.lo,.int .i64 t.m.hi] ty) (by simp[Value.oneCell']) (by decide) (by simp[maxLen];omega) (by omega) (by simp;omega) _ rfl ?_
 intro g cap w1 hown1 hgrow1 _ _
 refine h _ w1 ?_ ⟨hgrow1.os,hgrow1.tape,hgrow1.output,Nat.le_trans (by simp) hgrow1.size,fun i hi hne=>(hgrow1.block i (by simp;omega) hne).trans (Below.heap_alloc w0 _ _ hi)⟩
 rw[ziQ,List.length_append]
 exact hown1
theorem zoE (p:Planet) (L:Arcs) (s:State) (v:Value) (w:World) (hd:zcl w v L) (hc:za4 p L s≠0):Calls Tryz.prog 12 #[.agg p.cells.toArray,v,.agg s.cells.toArray] w (zcS (flyR p L s) w):=by
 have HC:=Lib.hid (fun w' (g:Grew w w')=>show Calls Tryz.prog 29 #[.agg p.cells.toArray,v,.agg s.cells.toArray] w' _ from zeP p L s v w' (hd.grew g))
 have HR:=Lib.hid (show flyR p L s=zbS (za4 p L s) by unfold flyR;rw[if_neg hc])
 have te:(za4 p L s != 0)=true:=by simp[hc]
 clear hd hc
 rw[HR.out]
 generalize za4 p L s=e at *
 clear HR
 go_enter Tryz.func12,Tryz.ntmps12
 go_wp2_with (first|(go_at_call 29;(with_reducible refine zaa (HC.out _ ?_) ?_);(· exact gwr);intro u)|(with_reducible refine wLi ?_))
 go_ret3
 exact zcS.bad gwr
theorem zj5:zej 168:=fun l x _ ao cap w hs=>zoM l x ao cap w hs
theorem zfG {y W:World} {base:Nat} {e:TypeId} {size:Nat} {v:Value} {n:Nat} {xs:List Value} (h:y.ownsRow base e size v n xs) (b:Nat) (cs:Array Value) (hne:v.ownBlock≠some b) (g:Grew y W):(W.setRow b cs).ownsRow base e size v n xs:=(za7 h g).kept (zaV W b cs) (.inr hne)
theorem zlM {s:State} {m:Sp} (hs:s.okB=true) (hm:m.okB=true) (h:1≤m.lo):(s.mass m).okB=true:=by
 unfold State.okB at *
 simp only[Bool.and_eq_true,decide_eq_true_eq] at *
 exact ⟨⟨hs.1.1,hm⟩,h⟩
theorem zsD {a b:Sp} (h:(subR a b).e=0):(subR a b).s.okB=true:=by
 obtain ⟨e1,-⟩:=zhs h
 rw[e1] at h ⊢
 obtain ⟨h1,h2,h3⟩:=add_zero h
 have h4:=h
 unfold addR at h4
 rw[h1,h2,if_pos (by rfl)] at h4
 obtain ⟨-,k1,k2⟩:=zeH h4
 rw[h3]
 have:=zgN h1
 have:=zgN h2
 unfold Sp.okB numB
 simp only[Bool.and_eq_true,decide_eq_true_eq]
 omega
theorem zeM {y W:World} {base:Nat} {e:TypeId} {size:Nat} {v:Value} {n:Nat} {xs:List Value} (h:y.ownsRow base e size v n xs) (b:Nat) (v1 v2:Value) (hne:v.ownBlock≠some b) (g:Grew y W):((W.setCell ⟨b,13,none⟩ v1).setCell ⟨b,14,none⟩ v2).ownsRow base e size v n xs:=
 zaR (zaR (za7 h g) b 13 v1 hne) b 14 v2 hne
theorem zdg {W:World} {b b2:Nat} {t t2:TypeId} {l l2:List Value} (h:RowIs W b t l) (h2:RowIs W b2 t2 l2) (ht:t≠t2):Apart b b2:=⟨by
 rintro rfl
 have:=h.is.symm.trans h2.is
 simp at this
 exact ht this.2⟩
theorem zn0 (a:Arc) (h1:1≤a.time) (h2:1≤a.step) (h3:a.time≤9223372036854775807) (j:Nat) (hj:j<(zaZ a).length):0<(zaZ a)[j]∧(zaZ a)[j]≤9223372036854775807∧0<zdc a j∧zdc a j≤9223372036854775807:=by
 obtain ⟨a1,a2,a3,a4⟩:=znW a h1 h2 j hj
 rw[←a3]
 unfold imin
 split<;>omega
theorem zoF (p:Planet) (L:Arcs) (s:State) [hp:Pl64 p] [hs:St64 s] (hL:zhe L) (v:Value) (w:World) (hd:zcl w v L) (hc:za4 p L s=0):Calls Tryz.prog 12 #[.agg p.cells.toArray,v,.agg s.cells.toArray] w (zcS (flyR p L s) w):=by
 have HC:=Lib.hid (fun w' (g:Grew w w')=>show Calls Tryz.prog 29 #[.agg p.cells.toArray,v,.agg s.cells.toArray] w' (fun e w2=>e=.returned (.int .i64 0)∧Grew w' w2) from zb0 hc (zeP p L s v w' (hd.grew g)))
 have HR:=Lib.hid (show flyR p L s=zgb p s [] [] L by unfold flyR;rw[if_pos hc])
 obtain ⟨hpok,hsok,hl32,hfit,hoks⟩:=zfy hc
 have Hfit0:=Lib.hid hfit
 have Hoks:=Lib.hid hoks
 have HL:=Lib.hid hL
 have Hdr:=Lib.hid hd.2
 have Hpok:=Lib.hid hpok
 have Hsok:=Lib.hid hsok
 obtain ⟨ao,cap,rfl,hm,hel⟩:=zdz hd
 have Hel:=Lib.hid hel
 clear hd hel hc hfit hoks hL hpok hsok
 generalize flyR p L s=R at *
 go_enter Tryz.func12,Tryz.ntmps12
 go_wp2_with (first|(go_at_call 29;(with_reducible refine zaa (HC.out _ ?_) ?_);(· exact gwr);intro u)|(with_reducible refine wLi ?_))
 go_loopw [6,7,8,10,11,12] (fun q6 q7 q8 v6 v7 t wr=>∃ (k:Nat) (st:State) (S:List State) (T:List Tube),t=.int .i64 k∧q6=.slice none 0 0∧q7=.slice none 0 0∧q8=.int .i64 0∧k≤L.length∧S.length=k∧wr.ownsRow (w.heap.size+1+1) 28 15 v6 S.length (S.flatMap State.cells)∧wr.ownsRow w.heap.size 81 16 v7 T.length (T.flatMap Tube.cells)∧RowIs wr w.heap.size 43 p.cells∧RowIs wr (w.heap.size+1) 28 st.cells∧Grew w wr∧St64 st∧Hid (st.okB=true)∧Hid (R=zgb p st S T (L.drop k))∧Hid (fitB 4096 (T.length:Int) (L.drop k)=true)) (fun _ _ _ _ _ t _=>L.length-(intOf t).toNat)
 case atStart=>exact ⟨0,s,[],[],rfl,rfl,rfl,rfl,by omega,rfl,World.ownsRow_nil _ _ _ _,World.ownsRow_nil _ _ _ _,inferInstance,inferInstance,gwr,hs,Hsok,HR,Hfit0⟩
 case round=>
  obtain ⟨k,st,S,T,rfl,rfl,rfl,rfl,hk,hSk,hrow6,hrow7,r3,r5,hg,hst,Hok,Hgo,Hfit⟩:=hrel
  obtain ⟨z,rfl⟩:=zal hg
  clear hg
  have i3:=r3.blockIn
  have i5:=r5.blockIn
  by_cases hlt:k<L.length
  ·obtain ⟨b,o,rfl,hb,hr⟩:=Hel.out k hlt
   obtain ⟨hdr,ht,hst2⟩:=Hdr.out _ (List.getElem_mem hlt)
   obtain ⟨hx1,hx2,hx3,hx4⟩:=HL.out _ (List.getElem_mem hlt)
   have hok:=Hoks.out _ (List.getElem_mem hlt)
   obtain ⟨hp1,hp2⟩:=zfe hok
   have ib:BlockIn w b:=⟨hb⟩
   have rz:=hr.grew z.grew
   have hfit:=Hfit.out
   rw[zep L k hlt] at hfit
   obtain ⟨f1,f2,f3⟩:=zlB hfit
   have hll:=zhk false hok f1
   have hlen:T.length+(zaZ L[k].1).length≤4096:=by have h:((zaZ L[k].1).length:Int)=zaF L[k].1 L[k].2:=hll;omega
   have hgo:=Hgo.out
   rw[zep L k hlt] at hgo
   have hgo2:R=if (zan p L[k].1 L[k].2 st T (zaZ L[k].1)).e=0 then (if (zeo (zan p L[k].1 L[k].2 st T (zaZ L[k].1)).s.m L[k].1).e=0 then zgb p ((zan p L[k].1 L[k].2 st T (zaZ L[k].1)).s.mass (zeo (zan p L[k].1 L[k].2 st T (zaZ L[k].1)).s.m L[k].1).s) (S++[(zan p L[k].1 L[k].2 st T (zaZ L[k].1)).s.mass (zeo (zan p L[k].1 L[k].2 st T (zaZ L[k].1)).s.m L[k].1).s]) (zan p L[k].1 L[k].2 st T (zaZ L[k].1)).T (L.drop (k+1)) else zbS (zeo (zan p L[k].1 L[k].2 st T (zaZ L[k].1)).s.m L[k].1).e) else zbS (zan p L[k].1 L[k].2 st T (zaZ L[k].1)).e:=hgo
   have Hgo2:=Lib.hid hgo2
   have Hll:=Lib.hid hll
   have Hf3:=Lib.hid f3
   have hlt0:=znX L[k].1
   have Hleft:=Lib.hid (znW L[k].1 hp1 hp2)
   have Hlens:=Lib.hid (zn0 L[k].1 hp1 hp2 ht)
   have Hend:=Lib.hid (zpS L[k].1 hp1 hp2)
   have HStep:=Lib.hid (fun (st':State) (h:Int) (h64:St64 st') (hok':st'.okB=true) (hh:0<h∧h≤9223372036854775807) (w':World) (g:Grew w w')=>show Calls Tryz.prog 30 #[.agg p.cells.toArray,.agg L[k].1.cells.toArray,.agg st'.cells.toArray,.int .i64 h] w' (zhv (zaO p L[k].1 L[k].2 st' h) w') from by
    have e:=zpa (x:=L[k].1) (l:=L[k].2) Hpok.out hok hok' (by unfold numB;simp;omega) (show h≠0 by omega)
    have hS:S64 (⟨h,h⟩:Sp):=⟨by unfold I64;simp only;omega,by unfold I64;simp only;omega⟩
    rw[←e]
    exact ziC zj5 p L[k].1 L[k].2 st' h w' (hdr.grew g))
   have HOk:=Lib.hid (ziV (p:=p) (x:=L[k].1) (l:=L[k].2))
   clear Hel Hdr HL Hoks hdr hr Hfit Hgo hgo hgo2 hfit f1 f2 f3 hll hx1 hx2 hx3 hok hst2
   go_upto_region 10 with (first|(with_reducible refine wLr ?_)|(with_reducible refine wLi ?_)|(with_reducible refine wSf ?_)|(with_reducible refine wSi ?_))
   have h7a:=hrow7.alloc (.cells L[k].1.cells.toArray 48)
   have h6a:=hrow6.alloc (.cells L[k].1.cells.toArray 48)
   have r3a:=zeW z.world (.cells L[k].1.cells.toArray 48) w.heap.size _ _ (h:=r3)
   have r5a:=zeW z.world (.cells L[k].1.cells.toArray 48) (w.heap.size+1) _ _ (h:=r5)
   have r13a:=zhZ z.world L[k].1.cells 48 z.world.heap.size
   refine zcR (fun Y=>RowIs Y w.heap.size 43 p.cells∧RowIs Y (w.heap.size+1) 28 st.cells∧RowIs Y z.world.heap.size 48 L[k].1.cells∧Y.ownsRow (w.heap.size+1+1) 28 15 u10 S.length (S.flatMap State.cells)∧Y.ownsRow w.heap.size 81 16 u11 T.length (T.flatMap Tube.cells)∧Grew w Y) ⟨r3a,r5a,r13a,h6a,h7a,gwr⟩ ?_
   clear h7a h6a r3a r5a r13a i3 i5 r3 r5 rz hrow6 hrow7
   rintro Yw ⟨r3,r5,r13,hrow6,hrow7,gY⟩
   obtain ⟨Y,rfl⟩:=zal gY
   clear gY
   generalize z.world.heap.size=bA at *
   have i3:=r3.blockIn
   have i5:=r5.blockIn
   have i13:=r13.blockIn
   generalize L[k].1=x at *
   generalize L[k].2=l at *
   go_wp2_with (first|(with_reducible refine wLi ?_))
   go_loopw [6,7,8,11,14] (fun q6 q7 q8 v7 t wr=>∃ (j:Nat) (s':State) (T':List Tube),t=.int .i64 (zdc x j)∧q6=.slice none 0 0∧q7=.slice none 0 0∧q8=.int .i64 0∧j≤(zaZ x).length∧T'.length=T.length+j∧wr.ownsRow (w.heap.size+1+1) 28 15 u10 S.length (S.flatMap State.cells)∧wr.ownsRow w.heap.size 81 16 v7 T'.length (T'.flatMap Tube.cells)∧RowIs wr w.heap.size 43 p.cells∧RowIs wr (w.heap.size+1) 28 s'.cells∧RowIs wr bA 48 x.cells∧Grew w wr∧St64 s'∧Hid (s'.okB=true)∧Hid (zan p x l st T ((zaZ x).take j)=⟨s',T',0⟩)) (fun _ _ _ _ t _=>(intOf t).toNat)
   case atStart=>exact ⟨0,st,T,by rw[hlt0],rfl,rfl,rfl,by omega,by omega,hrow6,hrow7,r3,r5,r13,gwr,hst,Hok,Lib.hid rfl⟩
   case round=>
    clear i3 i5 i13 r3 r5 r13 hrow6 hrow7 hlt0
    obtain ⟨j,s',T',rfl,rfl,rfl,rfl,hj,hT',hrow6,hrow7,r3,r5,r13,hg,hs64,Hok2,Hal⟩:=hrel
    obtain ⟨y,rfl⟩:=zal hg
    clear hg
    have i3:=r3.blockIn
    have i5:=r5.blockIn
    have i13:=r13.blockIn
    by_cases hjl:j<(zaZ x).length
    ·obtain ⟨f1,-,f3,f4⟩:=Hleft.out j hjl
     obtain ⟨g1,g2,-,g4⟩:=Hlens.out j hjl
     have HS:=Lib.hid (HStep.out s' (zaZ x)[j] hs64 Hok2.out ⟨g1,g2⟩)
     have hal:zan p x l st T ((zaZ x).take (j+1))=if (zaO p x l s' (zaZ x)[j]).e=0 then ⟨(zaO p x l s' (zaZ x)[j]).s,T'++[(zaO p x l s' (zaZ x)[j]).t],0⟩ else ⟨zaL,[],(zaO p x l s' (zaZ x)[j]).e⟩:=by
      have h:=zf2 p x l st T ((zaZ x).take j) (zaZ x)[j] (by rw[Hal.out])
      rw[List.take_succ_eq_append_getElem hjl,h,Hal.out]
     have hbad:(zan p x l st T ((zaZ x).take (j+1))).e≠0→zan p x l st T (zaZ x)=zan p x l st T ((zaZ x).take (j+1)):=fun h=>by
      have:=zf1 p x l st T ((zaZ x).take (j+1)) ((zaZ x).drop (j+1)) h
      rwa [List.take_append_drop] at this
     have Hal2:=Lib.hid hal
     have Hbad:=Lib.hid hbad
     have f4':IntKind.i64.wrap (zdc x j-(zaZ x)[j])=zdc x (j+1):=by rw[zlu _ (by omega) (by omega),f4]
     have hNok:=Lib.hid (fun (e:(zaO p x l s' (zaZ x)[j]).e=0)=>show (zaO p x l s' (zaZ x)[j]).s.okB=true from by
      have h:=HOk.out ((zaZ x).take (j+1)) st T Hok.out (by rw[Hal2.out,if_pos e])
      rw[Hal2.out,if_pos e] at h
      exact h)
     have hN64:St64 (zaO p x l s' (zaZ x)[j]).s:=zh4 _ _ _ _ _
     clear hal hbad g2
     generalize zaO p x l s' (zaZ x)[j]=N at *
     generalize (zaZ x)[j]=h at *
     have hlf:decide (0<zdc x j)=true:=by simp;omega
     generalize hLf:zdc x j=lf at *
     generalize hLf2:zdc x (j+1)=lf2 at *
     clear hLf
     have Hf4:=Lib.hid f4
     clear f4
     by_cases e1:N.e=0
     rotate_left
     ·have te:(N.e != 0)=true:=by simp[e1]
      have HE:=Lib.hid (show R=zbS N.e by
       have ha:zan p x l st T (zaZ x)=⟨zaL,[],N.e⟩:=by
        rw[Hbad.out (by rw[Hal2.out,if_neg e1];exact e1),Hal2.out,if_neg e1]
       rw[Hgo2.out,ha,if_neg e1])
      clear e1 f1 g1 g4 hLf2
      go_wp2_with (first|(go_at_call 30;(with_reducible refine (HS.out _ ?_).mono ?_);(· exact gwr);rintro en w2 ⟨rfl,hg⟩;obtain ⟨u1,rfl⟩:=zal hg;clear hg)|(with_reducible refine wLr ?_)|(with_reducible refine wLi ?_)|(with_reducible refine wSf ?_)|(with_reducible refine wSi ?_))
      go_ret3
      rw[HE.out]
      exact zcS.bad gwr
     ·have te:(N.e != 0)=false:=by simp[e1]
      have Ha:=Lib.hid (show zan p x l st T ((zaZ x).take (j+1))=⟨N.s,T'++[N.t],0⟩ by rw[Hal2.out,if_pos e1])
      have Hn:=Lib.hid (hNok.out e1)
      have Hlf2:=Lib.hid hLf2
      have hh:=Lib.hid g1
      clear hNok Hal2 Hbad e1 f1 g1 g4 hLf2
      have aA:Apart bA (w.heap.size+1):=zdg r13 r5 (by decide)
      have hne5:u10.ownBlock≠some (w.heap.size+1):=fun e=>by have:=zaN hrow6 _ e;omega
      have hne7:u11.ownBlock≠some (w.heap.size+1):=(r5.not_row (by decide) hrow7).symm
      go_upto_region 17 with (first|(go_at_call 30;(with_reducible refine (HS.out _ ?_).mono ?_);(· exact gwr);rintro en w2 ⟨rfl,hg⟩;obtain ⟨u1,rfl⟩:=zal hg;clear hg)|(with_reducible refine wLr ?_)|(with_reducible refine wLi ?_)|(with_reducible refine wSf ?_)|(with_reducible refine wSi ?_))
      refine zcR (fun Z=>RowIs Z w.heap.size 43 p.cells∧RowIs Z (w.heap.size+1) 28 N.s.cells∧RowIs Z bA 48 x.cells∧RowIs Z (u1.world.heap.size+1) 81 [.int .i64 N.t.a,.int .i64 N.t.z,.int .i64 N.t.p.x.lo,.int .i64 N.t.p.x.hi,.int .i64 N.t.p.y.lo,.int .i64 N.t.p.y.hi,.int .i64 N.t.p.z.lo,.int .i64 N.t.p.z.hi,.int .i64 N.t.v.x.lo,.int .i64 N.t.v.x.hi,.int .i64 N.t.v.y.lo,.int .i64 N.t.v.y.hi,.int .i64 N.t.v.z.lo,.int .i64 N.t.v.z.hi,.int .i64 N.t.m.lo,.int .i64 N.t.m.hi]∧Z.ownsRow (w.heap.size+1+1) 28 15 u10 S.length (S.flatMap State.cells)∧Z.ownsRow w.heap.size 81 16 u11 T'.length (T'.flatMap Tube.cells)∧Grew w Z) ⟨inferInstance,zdr inferInstance rfl,inferInstance,inferInstance,zfG hrow6 _ _ hne5 gwr,zfG hrow7 _ _ hne7 gwr,gwr⟩ ?_
      rintro Z ⟨s3,s5,s13,sT,s6,s7,gZ⟩
      generalize u1.world.heap.size+1=bT at *
      clear i3 i5 i13 r3 r5 r13 hrow6 hrow7 aA hne5 hne7
      have j3:=s3.blockIn
      have j5:=s5.blockIn
      have j13:=s13.blockIn
      have jT:=sT.blockIn
      have b7:∀ k,u11.ownBlock=some k→w.heap.size≤k:=zaN s7
      have hyZ:w.heap.size≤Z.heap.size:=gZ.size
      go_wp2_with (first|(with_reducible refine wLi ?_)|(at_builtin;go_loud (refine ze1 w.heap.size Z hyZ rfl _ _ rfl u11 T' s7 rfl N.t _ rfl (by omega) ?_;intro v' w1 ho7' hg7;have t3:=s3.kept hg7 (s3.not_row (by decide) s7);have t5:=s5.kept hg7 (s5.not_row (by decide) s7);have t13:=s13.kept hg7 (s13.not_row (by decide) s7);have t6:=s6.kept hg7 (zb9 s6 s7 (by decide));have g1:Grew w w1:=gZ.grown hg7 b7;have k13:=t13.blockIn)))
      go_roundw
      ·exact ⟨j+1,N.s,T'++[N.t],by rw[Hlf2.out],rfl,rfl,rfl,by omega,by simp[hT'];omega,t6,ho7',t3,t5,t13,g1,hN64,Hn,Ha⟩
      ·have h1:=hh.out
       have h2:=Hf4.out
       have h3:0<lf:=by simpa using hlf
       show lf2.toNat<lf.toNat
       omega
    ·obtain rfl:j=(zaZ x).length:=by omega
     have hl0:decide (0<zdc x (zaZ x).length)=false:=by rw[Hend.out];rfl
     have hAl:=Hal.out
     rw[List.take_length] at hAl
     have HE:=Lib.hid (show R=if (zeo s'.m x).e=0 then zgb p (s'.mass (zeo s'.m x).s) (S++[s'.mass (zeo s'.m x).s]) T' (L.drop (k+1)) else zbS (zeo s'.m x).e by
      have h:=Hgo2.out
      rw[hAl,if_pos rfl] at h
      exact h)
     have hdp:zeo s'.m x=if (subR s'.m x.drop).e=0∧(subR s'.m x.drop).s.lo≤0 then ⟨(subR s'.m x.drop).s,4⟩ else subR s'.m x.drop:=rfl
     have HM:=Lib.hid (fun w'=>zlU s'.m x.drop w')
     have HM64:S64 (subR s'.m x.drop).s:=inferInstance
     have Hmok:=Lib.hid (fun (h:(subR s'.m x.drop).e=0) (h2:¬ (subR s'.m x.drop).s.lo≤0)=>show (s'.mass (subR s'.m x.drop).s).okB=true from by
      refine zlM Hok2.out ?_ (by omega)
      exact zsD h)
     clear hAl Hal Hgo2
     generalize zdc x (zaZ x).length=lf at *
     generalize subR s'.m x.drop=M at *
     by_cases e2:M.e=0
     rotate_left
     ·have te4:(M.e != 0)=true:=by simp[e2]
      have HE2:=Lib.hid (show R=zbS M.e by
       have h:=HE.out
       rw[hdp.trans (if_neg (fun k=>e2 k.1)),if_neg e2] at h
       exact h)
      clear e2 hdp HE
      go_wp2_with (first|(go_at_call 31;(with_reducible refine zaa (HM.out _) ?_);intro um)|(with_reducible refine wLr ?_)|(with_reducible refine wLi ?_)|(with_reducible refine wSf ?_)|(with_reducible refine wSi ?_))
      go_ret3
      rw[HE2.out]
      exact zcS.bad gwr
     have te4:(M.e != 0)=false:=by simp[e2]
     by_cases e3:M.s.lo≤0
     ·have te5:decide (M.s.lo≤0)=true:=by simp[e3]
      have HE2:=Lib.hid (show R=zbS 4 by
       have h:=HE.out
       rw[hdp.trans (if_pos ⟨e2,e3⟩),if_neg (show ¬ ((4:Int)=0) by decide)] at h
       exact h)
      clear e2 e3 hdp HE
      go_wp2_with (first|(go_at_call 31;(with_reducible refine zaa (HM.out _) ?_);intro um)|(with_reducible refine wLr ?_)|(with_reducible refine wLi ?_)|(with_reducible refine wSf ?_)|(with_reducible refine wSi ?_))
      go_ret3
      rw[HE2.out]
      exact zcS.bad gwr
     have te5:decide (M.s.lo≤0)=false:=by simp;omega
     have HE2:=Lib.hid (show R=zgb p (s'.mass M.s) (S++[s'.mass M.s]) T' (L.drop (k+1)) by
      have h:=HE.out
      rw[hdp.trans (if_neg (fun k=>e3 k.2)),if_pos e2] at h
      exact h)
     have Hmk:=Lib.hid (Hmok.out e2 e3)
     clear e2 e3 hdp HE Hmok
     go_upto_region 24 with (first|(go_at_call 31;(with_reducible refine zaa (HM.out _) ?_);intro um)|(with_reducible refine wLr ?_)|(with_reducible refine wLi ?_)|(with_reducible refine wSf ?_)|(with_reducible refine wSi ?_))
     have hne5:u10.ownBlock≠some (w.heap.size+1):=fun e=>by have:=zaN hrow6 _ e;omega
     have hne7:u11.ownBlock≠some (w.heap.size+1):=(r5.not_row (by decide) hrow7).symm
     refine zcR (fun Z=>RowIs Z w.heap.size 43 p.cells∧RowIs Z (w.heap.size+1) 28 [.int .i64 ((s'.mass M.s)).t,.int .i64 ((s'.mass M.s)).p.x.lo,.int .i64 ((s'.mass M.s)).p.x.hi,.int .i64 ((s'.mass M.s)).p.y.lo,.int .i64 ((s'.mass M.s)).p.y.hi,.int .i64 ((s'.mass M.s)).p.z.lo,.int .i64 ((s'.mass M.s)).p.z.hi,.int .i64 ((s'.mass M.s)).v.x.lo,.int .i64 ((s'.mass M.s)).v.x.hi,.int .i64 ((s'.mass M.s)).v.y.lo,.int .i64 ((s'.mass M.s)).v.y.hi,.int .i64 ((s'.mass M.s)).v.z.lo,.int .i64 ((s'.mass M.s)).v.z.hi,.int .i64 ((s'.mass M.s)).m.lo,.int .i64 ((s'.mass M.s)).m.hi]∧Z.ownsRow (w.heap.size+1+1) 28 15 u10 S.length (S.flatMap State.cells)∧Z.ownsRow w.heap.size 81 16 u11 T'.length (T'.flatMap Tube.cells)∧Grew w Z) ⟨inferInstance,zdr inferInstance rfl,zeM hrow6 _ _ _ hne5 gwr,zeM hrow7 _ _ _ hne7 gwr,gwr⟩ ?_
     rintro Z ⟨s3,s5,s6,s7,gZ⟩
     have hm64:St64 (s'.mass M.s):=⟨hs64.t,hs64.p,hs64.v,HM64⟩
     clear i3 i5 i13 r3 r5 r13 hrow6 hrow7 hne5 hne7
     generalize hAm:s'.mass M.s=st' at *
     clear hAm
     have j3:=s3.blockIn
     have j5:=s5.blockIn
     have hyZ:w.heap.size+1+1≤Z.heap.size:=by have:=s5.lt;omega
     have n5:some (w.heap.size+1)≠u10.ownBlock:=fun e=>by have:=zaN s6 _ e.symm;omega
     have b6:∀ k,u10.ownBlock=some k→w.heap.size≤k:=fun k e=>by have:=zaN s6 _ e;omega
     go_wp2_with (first|(with_reducible refine wLi ?_)|(at_builtin;go_loud (refine zdF (w.heap.size+1+1) Z hyZ rfl _ _ rfl u10 S s6 rfl st' _ rfl (by omega) ?_;intro v' w1 ho6' hg6;have t3:=s3.kept hg6 (s3.not_row (by decide) s6);have t5:=s5.kept hg6 n5;have t7:=s7.kept hg6 (zb9 s7 s6 (by decide));have g1:Grew w w1:=gZ.grown hg6 b6)))
     go_roundw
     ·exact ⟨k+1,st',S++[st'],T',by go_simp,rfl,rfl,rfl,by omega,by simp[hSk],ho6',t7,t3,t5,g1,hm64,Hmk,HE2,Lib.hid (by
       have h1:=Hf3.out
       have h2:((zaZ x).length:Int)=zaF x l:=Hll.out
       rw[show ((T'.length:Nat):Int)=(T.length:Int)+zaF x l by omega]
       exact h1)⟩
     ·simp[intOf]
      omega
  ·have hend:=Hgo.out
   rw[List.drop_of_length_le (by omega)] at hend
   go_wp2
   go_ret3
   rw[hend]
   exact ⟨_,_,rfl,SlAt.of_owns hrow6,SlAt.of_owns hrow7,z.grew⟩
theorem zoD (p:Planet) (L:Arcs) (s:State) [hp:Pl64 p] [hs:St64 s] (hL:zhe L) (v:Value) (w:World) (hd:zcl w v L):Calls Tryz.prog 12 #[.agg p.cells.toArray,v,.agg s.cells.toArray] w (zcS (flyR p L s) w):=by
 by_cases h:za4 p L s=0
 ·exact zoF p L s hL v w hd h
 ·exact zoE p L s v w hd h
end Go.Proofs.YtdkfkalplmgoeaaGreat
