/-
  Joined: FlyBack, Long03, FliesC.
-/
import Derived.Test.YtdkfkalplmgoeaaGreatFlyFlyH
import Derived.Deep.CutRange
import Derived.StillTailTactics
import Derived.Deep.RegionLaw
namespace Go.Proofs.YtdkfkalplmgoeaaGreat
open Go.RowKit Go.Shelf
set_option maxRecDepth 100000
set_option maxHeartbeats 16000000
set_option linter.unusedSimpArgs false
def sumN:Arcs→Int
 |[]=>0
 |x::r=>zaF x.1 x.2+sumN r
theorem zh6 (L:Arcs):0≤sumN L:=by
 induction L with
 |nil=>exact Int.le_refl _
 |cons x r ih=>
  have:=(ze0 x.1 x.2).1
  show 0≤zaF x.1 x.2+sumN r
  omega
theorem zlf (L M:Arcs):sumN (L++M)=sumN L+sumN M:=by
 induction L with
 |nil=>simp[sumN]
 |cons x r ih=>
  show zaF x.1 x.2+sumN (r++M)=zaF x.1 x.2+sumN r+sumN M
  rw[ih]
  omega
theorem zl4 (L:Arcs):sumN L.reverse=sumN L:=by
 induction L with
 |nil=>rfl
 |cons x r ih=>
  rw[List.reverse_cons,zlf,ih]
  show sumN r+(zaF x.1 x.2+0)=zaF x.1 x.2+sumN r
  omega
theorem zkB {m:Int}:∀ {L:Arcs} {s:Int},s≤m→fitB m s L=true→s+sumN L≤m∧∀ x∈L,zaE x.1 x.2=0
 |[],s,hs,_=>⟨by show s+0≤m;omega,fun x hx=>by cases hx⟩
 |x::r,s,hs,h=>by
  unfold fitB at h
  simp only[Bool.and_eq_true,decide_eq_true_eq] at h
  obtain ⟨k1,k2⟩:=zkB h.1.2 h.2
  refine ⟨by show s+(zaF x.1 x.2+sumN r)≤m;omega,fun y hy=>?_⟩
  rcases List.mem_cons.1 hy with rfl|hy
  ·exact h.1.1
  ·exact k2 y hy
theorem zlu (x:Int) (h1:-9223372036854775808≤x) (h2:x≤9223372036854775807):IntKind.i64.wrap x=x:=by simp[IntKind.wrap,IntKind.bits,IntKind.signed];omega
theorem zmp (p:Planet) (L:Arcs) (s:State) (v:Value) (w:World) (hd:zcl w v L) (hc:za4 p L s≠0):Calls Tryz.prog 13 #[.agg p.cells.toArray,v,.agg s.cells.toArray] w (zcS (zd8 p L s) w):=by
 have HC:=Lib.hid (fun w' (g:Grew w w')=>show Calls Tryz.prog 26 #[.agg p.cells.toArray,v,.agg s.cells.toArray] w' _ from zeI p L s v w' (hd.grew g))
 have HR:=Lib.hid (show zd8 p L s=zbS (za4 p L s) by unfold zd8;rw[if_neg hc])
 have te:(za4 p L s != 0)=true:=by simp[hc]
 clear hd hc
 rw[HR.out]
 generalize za4 p L s=e at *
 clear HR
 go_enter Tryz.func13,Tryz.ntmps13
 go_wp2_with (first|(go_at_call 26;(with_reducible refine zaa (HC.out _ ?_) ?_);(· exact gwr);intro u)|(with_reducible refine wLi ?_))
 go_ret3
 exact zcS.bad gwr
theorem zmq (p:Planet) (L:Arcs) (s:State) [hp:Pl64 p] [hs:St64 s] (hL:zhe L) (v:Value) (w:World) (hd:zcl w v L) (hc:za4 p L s=0):Calls Tryz.prog 13 #[.agg p.cells.toArray,v,.agg s.cells.toArray] w (zcS (zd8 p L s) w):=by
 have HC:=Lib.hid (fun w' (g:Grew w w')=>show Calls Tryz.prog 26 #[.agg p.cells.toArray,v,.agg s.cells.toArray] w' (fun e w2=>e=.returned (.int .i64 0)∧Grew w' w2) from zb0 hc (zeI p L s v w' (hd.grew g)))
 have HR:=Lib.hid (show zd8 p L s=ze6 p s [] [] L.reverse by unfold zd8;rw[if_pos hc])
 obtain ⟨-,-,hl32,hfit,hoks⟩:=zfy hc
 obtain ⟨hsum,hcodes⟩:=zkB (by omega) hfit
 have Hsum0:=Lib.hid (show ((([]:List Tube).length:Nat):Int)+sumN (L.reverse.drop 0)≤4096 by rw[List.drop_zero,zl4];simpa using hsum)
 have Hcodes:=Lib.hid hcodes
 have Hoks:=Lib.hid hoks
 have HL:=Lib.hid hL
 have Hdr:=Lib.hid hd.2
 obtain ⟨ao,cap,rfl,hm,hel⟩:=zdz hd
 have Hel:=Lib.hid hel
 have wl:IntKind.i64.wrap ((L.length:Int)-1)=L.length-1:=zlu _ (by omega) (by omega)
 clear hd hel hc hfit hoks hL hsum hcodes
 generalize zd8 p L s=R at *
 go_enter Tryz.func13,Tryz.ntmps13
 go_wp2_with (first|(go_at_call 26;(with_reducible refine zaa (HC.out _ ?_) ?_);(· exact gwr);intro u)|(with_reducible refine wLi ?_))
 go_loopw [6,7,8,10] (fun v6 v7 v8 t wr=>∃ (k:Nat) (st:State) (S:List State) (T:List Tube),t=.int .i64 ((L.length:Int)-1-k)∧v8=.int .i64 0∧k≤L.length∧S.length=k∧wr.ownsRow (w.heap.size+1+1) 28 15 v6 S.length (S.flatMap State.cells)∧wr.ownsRow w.heap.size 81 16 v7 T.length (T.flatMap Tube.cells)∧RowIs wr w.heap.size 43 p.cells∧RowIs wr (w.heap.size+1) 28 st.cells∧Grew w wr∧St64 st∧Hid (R=ze6 p st S T (L.reverse.drop k))∧Hid ((T.length:Int)+sumN (L.reverse.drop k)≤4096)) (fun _ _ _ t _=>(intOf t+1).toNat)
 case atStart=>exact ⟨0,s,[],[],by go_simp,rfl,by omega,rfl,World.ownsRow_nil _ _ _ _,World.ownsRow_nil _ _ _ _,inferInstance,inferInstance,gwr,hs,HR,Hsum0⟩
 case round=>
  obtain ⟨k,st,S,T,rfl,rfl,hk,hSk,hrow6,hrow7,r3,r5,hg,hst,Hgo,Hsum⟩:=hrel
  obtain ⟨z,rfl⟩:=zal hg
  clear hg
  have i3:=r3.blockIn
  have i5:=r5.blockIn
  by_cases hlt:k<L.length
  ·obtain ⟨i,hi⟩:∃ i:Nat,i+k+1=L.length:=⟨L.length-1-k,by omega⟩
   have hti:(L.length:Int)-1-k=i:=by omega
   rw[hti]
   have hil:i<L.length:=by omega
   have hrd:L.reverse.drop k=L[i]::L.reverse.drop (k+1):=by
    rw[List.drop_eq_getElem_cons (by simp;omega),List.getElem_reverse]
    congr 2
    omega
   obtain ⟨b,o,rfl,hb,hr⟩:=Hel.out i hil
   obtain ⟨hdr,ht,hst2⟩:=Hdr.out _ (List.getElem_mem hil)
   obtain ⟨hx1,hx2,hx3,hx4⟩:=HL.out _ (List.getElem_mem hil)
   have hok:=Hoks.out _ (List.getElem_mem hil)
   have hcode:=Hcodes.out _ (List.getElem_mem hil)
   obtain ⟨hp1,hp2⟩:=zfe hok
   have ib:BlockIn w b:=⟨hb⟩
   have rz:=hr.grew z.grew
   have hs0:=Hsum.out
   rw[hrd] at hs0
   have hs1:(T.length:Int)+(zaF L[i].1 L[i].2+sumN (L.reverse.drop (k+1)))≤4096:=hs0
   have hn0:=zh6 (L.reverse.drop (k+1))
   have hll:=zhk true hok hcode
   have hlen:T.length+(zb3 L[i].1 true).length≤8192:=by have:=(ze0 L[i].1 L[i].2).1;omega
   have hgo:=Hgo.out
   rw[hrd] at hgo
   have HM:=Lib.hid (fun w'=>zdV st.m L[i].1.drop w')
   have HM64:S64 (addR st.m L[i].1.drop).s:=inferInstance
   have hgo2:R=if (addR st.m L[i].1.drop).e=0 then (if (zan p L[i].1 L[i].2 (st.mass (addR st.m L[i].1.drop).s) T (zb3 L[i].1 true)).e=0 then ze6 p (zan p L[i].1 L[i].2 (st.mass (addR st.m L[i].1.drop).s) T (zb3 L[i].1 true)).s (S++[(zan p L[i].1 L[i].2 (st.mass (addR st.m L[i].1.drop).s) T (zb3 L[i].1 true)).s]) (zan p L[i].1 L[i].2 (st.mass (addR st.m L[i].1.drop).s) T (zb3 L[i].1 true)).T (L.reverse.drop (k+1)) else zbS (zan p L[i].1 L[i].2 (st.mass (addR st.m L[i].1.drop).s) T (zb3 L[i].1 true)).e) else zbS (addR st.m L[i].1.drop).e:=hgo
   have Hgo2:=Lib.hid hgo2
   have Hs1:=Lib.hid hs1
   have Hll:=Lib.hid hll
   clear Hel Hdr HL Hoks Hcodes Hsum hs0 hs1 Hgo hgo hgo2 hll
   have t5:decide ((0:Int)≤(i:Int))=true:=by simp
   go_upto_region 7 with (fail)
   go_cut [8] from 21 to 57 (fun q wx=>q=.int .i64 (addR st.m L[i].1.drop).e∧RowIs wx w.heap.size 43 p.cells∧RowIs wx (w.heap.size+1) 28 (st.mass (addR st.m L[i].1.drop).s).cells∧wx.ownsRow (w.heap.size+1+1) 28 15 u6 S.length (S.flatMap State.cells)∧wx.ownsRow w.heap.size 81 16 u7 T.length (T.flatMap Tube.cells)∧Grew w wx)
   case first=>
    have c13:=zeG r5 13 rfl
    have c14:=zeG r5 14 rfl
    have e13:z.world.cell? ⟨b,o+i*15+13,none⟩=some (.int .i64 L[i].1.drop.lo):=rz.is 13 _ rfl
    have e14:z.world.cell? ⟨b,o+i*15+14,none⟩=some (.int .i64 L[i].1.drop.hi):=rz.is 14 _ rfl
    go_region_with (go_at_call 32;(with_reducible refine zaa (HM.out _) ?_);intro um)
    all_goals
     have gu:Grew z.world um.world:=Grew.trans (by first|exact Grew.refl _|exact (Grew.refl _).drew|exact (Grew.refl _).drew.drew) um.grew
     have hne5:u6.ownBlock≠some (w.heap.size+1):=fun e=>by have:=zaN hrow6 _ e;omega
     have q6':=zaR (zaR (za7 hrow6 gu) (w.heap.size+1) 13 (.int .i64 (addR st.m L[i].1.drop).s.lo) hne5) (w.heap.size+1) 14 (.int .i64 (addR st.m L[i].1.drop).s.hi) hne5
     have hne7:u7.ownBlock≠some (w.heap.size+1):=(r5.not_row (by decide) hrow7).symm
     have q7':=zaR (zaR (za7 hrow7 gu) (w.heap.size+1) 13 (.int .i64 (addR st.m L[i].1.drop).s.lo) hne7) (w.heap.size+1) 14 (.int .i64 (addR st.m L[i].1.drop).s.hi) hne7
     go_wp2
     go_meet
     case rel=>exact ⟨rfl,inferInstance,zdr inferInstance rfl,q6',q7',gwr⟩
   case rest=>
    clear i3 i5 r3 r5 hrow6 hrow7 rz
    obtain ⟨rfl,r3,r5,hrow6,hrow7,gY⟩:=hcut
    have hm64:St64 (st.mass (addR st.m L[i].1.drop).s):=⟨hst.t,hst.p,hst.v,HM64⟩
    have HA:=Lib.hid (fun v W (g:Grew w W) ho=>zhE p L[i].1 L[i].2 (st.mass (addR st.m L[i].1.drop).s) true T hp1 hp2 ht hst2 w W g hdr v ho hlen)
    have hA64:St64 (zan p L[i].1 L[i].2 (st.mass (addR st.m L[i].1.drop).s) T (zb3 L[i].1 true)).s:=inferInstance
    have Hlen2:=Lib.hid (zhw p L[i].1 L[i].2 (st.mass (addR st.m L[i].1.drop).s) T (zb3 L[i].1 true))
    obtain ⟨y,rfl⟩:=zal gY
    clear gY
    have i3:=r3.blockIn
    have i5:=r5.blockIn
    clear hx1 hx2 hx3 hx4 hok hp1 hp2 ht hst2 hdr hlen
    generalize zan p L[i].1 L[i].2 (st.mass (addR st.m L[i].1.drop).s) T (zb3 L[i].1 true)=A at *
    by_cases e1:(addR st.m L[i].1.drop).e=0
    rotate_left
    ·have te1:((addR st.m L[i].1.drop).e==0)=false:=by simp[e1]
     have te2:((addR st.m L[i].1.drop).e != 0)=true:=by simp[e1]
     have HE:=Lib.hid (Hgo2.out.trans (if_neg e1))
     go_wp2
     go_ret3
     rw[HE.out]
     exact zcS.bad gwr
    have te1:((addR st.m L[i].1.drop).e==0)=true:=by simp[e1]
    have HE:=Lib.hid (Hgo2.out.trans (if_pos e1))
    clear Hgo2
    go_upto_region 9 with (fail)
    go_cut [7,8] from 21 to 57 (fun v7 q wx=>q=.int .i64 A.e∧RowIs wx w.heap.size 43 p.cells∧RowIs wx (w.heap.size+1) 28 A.s.cells∧wx.ownsRow (w.heap.size+1+1) 28 15 u6 S.length (S.flatMap State.cells)∧wx.ownsRow w.heap.size 81 16 v7 A.T.length (A.T.flatMap Tube.cells)∧Grew w wx)
    case first=>
     have a0:=(hr.grew y.grew).is 0 _ rfl
     have a1:=(hr.grew y.grew).is 1 _ rfl
     have a2:=(hr.grew y.grew).is 2 _ rfl
     have a3:=(hr.grew y.grew).is 3 _ rfl
     have a4:=(hr.grew y.grew).is 4 _ rfl
     have a5:=(hr.grew y.grew).is 5 _ rfl
     have a6:=(hr.grew y.grew).is 6 _ rfl
     have a7:=(hr.grew y.grew).is 7 _ rfl
     have a8:=(hr.grew y.grew).is 8 _ rfl
     have a9:=(hr.grew y.grew).is 9 _ rfl
     have a10:=(hr.grew y.grew).is 10 _ rfl
     have a11:=(hr.grew y.grew).is 11 _ rfl
     have a12:=(hr.grew y.grew).is 12 _ rfl
     have a13:=(hr.grew y.grew).is 13 _ rfl
     have a14:=(hr.grew y.grew).is 14 _ rfl
     simp only[Nat.add_zero] at a0
     have HA2:=Lib.hid (fun v W (g:Grew w W) ho=>show Calls Tryz.prog 27 #[.agg #[.int .i64 p.mu.lo,.int .i64 p.mu.hi,.int .i64 p.radius.lo,.int .i64 p.radius.hi,.int .i64 p.oblate.lo,.int .i64 p.oblate.hi,.int .i64 p.spin.lo,.int .i64 p.spin.hi,.int .i64 p.pull.x.lo,.int .i64 p.pull.x.hi,.int .i64 p.pull.y.lo,.int .i64 p.pull.y.hi,.int .i64 p.pull.z.lo,.int .i64 p.pull.z.hi],.agg #[.int .i64 L[i].1.time,.int .i64 L[i].1.step,.int .i64 L[i].1.thrust.lo,.int .i64 L[i].1.thrust.hi,.int .i64 L[i].1.flow.lo,.int .i64 L[i].1.flow.hi,.int .i64 L[i].1.dir.x.lo,.int .i64 L[i].1.dir.x.hi,.int .i64 L[i].1.dir.y.lo,.int .i64 L[i].1.dir.y.hi,.int .i64 L[i].1.dir.z.lo,.int .i64 L[i].1.dir.z.hi,.slice L[i].1.drag.ao L[i].1.drag.n L[i].1.drag.cap,.int .i64 L[i].1.drop.lo,.int .i64 L[i].1.drop.hi],.agg #[.int .i64 ((st.mass (addR st.m L[i].1.drop).s)).t,.int .i64 ((st.mass (addR st.m L[i].1.drop).s)).p.x.lo,.int .i64 ((st.mass (addR st.m L[i].1.drop).s)).p.x.hi,.int .i64 ((st.mass (addR st.m L[i].1.drop).s)).p.y.lo,.int .i64 ((st.mass (addR st.m L[i].1.drop).s)).p.y.hi,.int .i64 ((st.mass (addR st.m L[i].1.drop).s)).p.z.lo,.int .i64 ((st.mass (addR st.m L[i].1.drop).s)).p.z.hi,.int .i64 ((st.mass (addR st.m L[i].1.drop).s)).v.x.lo,.int .i64 ((st.mass (addR st.m L[i].1.drop).s)).v.x.hi,.int .i64 ((st.mass (addR st.m L[i].1.drop).s)).v.y.lo,.int .i64 ((st.mass (addR st.m L[i].1.drop).s)).v.y.hi,.int .i64 ((st.mass (addR st.m L[i].1.drop).s)).v.z.lo,.int .i64 ((st.mass (addR st.m L[i].1.drop).s)).v.z.hi,.int .i64 ((st.mass (addR st.m L[i].1.drop).s)).m.lo,.int .i64 ((st.mass (addR st.m L[i].1.drop).s)).m.hi],.bool true,v] W _ from HA.out v W g ho)
     clear HA
     go_region_with (go_at_call 27;go_loud (refine (HA2.out _ _ ?_ ?_).mono ?_;(· exact gwr);(· exact za7 hrow7 (Grew.refl _).drew);rintro en w2 ⟨v7',rfl,ho2,hgr⟩;have r3w:=(r3.grew (Grew.refl _).drew).kept hgr ((r3.grew (Grew.refl _).drew).not_row (by decide) (za7 hrow7 (Grew.refl _).drew));have r5w:=(r5.grew (Grew.refl _).drew).kept hgr ((r5.grew (Grew.refl _).drew).not_row (by decide) (za7 hrow7 (Grew.refl _).drew));have hst:=zcQ w2 (w.heap.size+1) A.s.cells (st.mass (addR st.m L[i].1.drop).s).cells))
     all_goals
      have g0:=(Grew.refl y.world).drew
      have ho6:=(za7 hrow6 g0).kept hgr (zb9 (za7 hrow6 g0) (za7 hrow7 g0) (by decide))
      have hne5:u6.ownBlock≠some (w.heap.size+1):=fun e=>by have:=zaN hrow6 _ e;omega
      have q6:=ho6.kept (zaV w2 (w.heap.size+1) A.s.cells.toArray) (.inr hne5)
      have hne7:v7'.ownBlock≠some (w.heap.size+1):=(r5w.not_row (by decide) ho2).symm
      have q7:=ho2.kept (zaV w2 (w.heap.size+1) A.s.cells.toArray) (.inr hne7)
      have g2:Grew w w2:=Grew.grown (y.grew.trans g0) hgr (zaN hrow7)
      have g3:Grew w (w2.setRow (w.heap.size+1) A.s.cells.toArray):=by
       obtain ⟨x2,rfl⟩:=zal g2
       exact gwr
      go_wp2
      go_meet
      case rel=>exact ⟨rfl,r3w.kept (zaV _ _ _) (by simp),zcO w2 (w.heap.size+1) 28 15 A.s.cells,q6,q7,g3⟩
    case rest=>
     clear i3 i5 r3 r5 hrow6 hrow7
     obtain ⟨rfl,r3,r5,hrow6,hrow7,gY⟩:=hcut
     by_cases e2:A.e=0
     rotate_left
     ·obtain ⟨x,rfl⟩:=zal gY
      clear gY
      have te3:(A.e != 0)=true:=by simp[e2]
      have HE2:=Lib.hid (HE.out.trans (if_neg e2))
      go_wp2
      go_ret3
      rw[HE2.out]
      exact zcS.bad gwr
     have te3:(A.e != 0)=false:=by simp[e2]
     have HE2:=Lib.hid (HE.out.trans (if_pos e2))
     have hT2:=Hlen2.out e2
     generalize hcs:A.s=cs at *
     clear hcs
     have r5':RowIs wc (w.heap.size+1) 28 [.int .i64 cs.t,.int .i64 cs.p.x.lo,.int .i64 cs.p.x.hi,.int .i64 cs.p.y.lo,.int .i64 cs.p.y.hi,.int .i64 cs.p.z.lo,.int .i64 cs.p.z.hi,.int .i64 cs.v.x.lo,.int .i64 cs.v.x.hi,.int .i64 cs.v.y.lo,.int .i64 cs.v.y.hi,.int .i64 cs.v.z.lo,.int .i64 cs.v.z.hi,.int .i64 cs.m.lo,.int .i64 cs.m.hi]:=zdr r5 rfl
     have hyY:w.heap.size+1+1≤wc.heap.size:=by have:=r5.lt;omega
     have n5:some (w.heap.size+1)≠u6.ownBlock:=fun e=>by have:=zaN hrow6 _ e.symm;omega
     have b6:∀ k,u6.ownBlock=some k→w.heap.size≤k:=fun k e=>by have:=zaN hrow6 _ e;omega
     have i3:=r3.blockIn
     have i5:=r5.blockIn
     clear r5
     have hcs64:St64 cs:=hA64
     go_wp2_with (first|(with_reducible refine wLi ?_)|(at_builtin;go_loud (refine zdF (w.heap.size+1+1) wc hyY rfl _ _ rfl u6 S hrow6 rfl cs _ rfl (by omega) ?_;intro v' w1 ho6' hg6;have t3:=r3.kept hg6 (r3.not_row (by decide) hrow6);have t5:=r5'.kept hg6 n5;have t7:=hrow7.kept hg6 (zb9 hrow7 hrow6 (by decide));have g1:Grew w w1:=gY.grown hg6 b6)))
     go_roundw
     ·exact ⟨k+1,cs,S++[cs],A.T,by go_simp;omega,by go_simp,by omega,by simp[hSk],ho6',t7,t3,t5,g1,hcs64,HE2,Lib.hid (by have:=Hs1.out;have:=Hll.out;omega)⟩
     ·simp[intOf]
  ·have hend:=Hgo.out
   rw[List.drop_of_length_le (by simp;omega)] at hend
   have tf:decide ((0:Int)≤(L.length:Int)-1-k)=false:=by simp;omega
   go_wp2
   go_ret3
   rw[hend]
   exact ⟨_,_,rfl,SlAt.of_owns hrow6,SlAt.of_owns hrow7,z.grew⟩
theorem zmo (p:Planet) (L:Arcs) (s:State) [hp:Pl64 p] [hs:St64 s] (hL:zhe L) (v:Value) (w:World) (hd:zcl w v L):Calls Tryz.prog 13 #[.agg p.cells.toArray,v,.agg s.cells.toArray] w (zcS (zd8 p L s) w):=by
 by_cases h:za4 p L s=0
 ·exact zmq p L s hL v w hd h
 ·exact zmp p L s v w hd h
end Go.Proofs.YtdkfkalplmgoeaaGreat
namespace Go.Proofs.YtdkfkalplmgoeaaGreat
open Go.RowKit Go.Shelf
set_option maxRecDepth 100000
set_option maxHeartbeats 16000000
set_option linter.unusedSimpArgs false
theorem zkk {w:World} {v:Value} {T:List Tube} (h:SlAt w v T.length (T.flatMap Tube.cells)):∃ ao cap,v=.slice ao T.length cap∧T.length≤9223372036854775807∧∀ k (hk:k<T.length),∃ b o,ao=some ⟨b,o,none⟩∧b<w.heap.size∧RangeIs w b (o+k*16) 16 (T[k]'hk).cells:=by
 obtain ⟨ao,cap,rfl,hm,hc⟩:=h
 unfold maxLen at hm
 refine ⟨ao,cap,rfl,by omega,fun k hk=>?_⟩
 obtain ⟨b,o,e,hb,-,h2⟩:=SlAt.elem (f:=Tube.cells) (c:=16) (fun _=>rfl) (by omega) hc k hk
 exact ⟨b,o,e,hb,⟨fun j u hu=>h2 j u hu,rfl⟩⟩
theorem ziK {w:World} {v:Value} {S:List State} (h:SlAt w v S.length (S.flatMap State.cells)):∃ ao cap,v=.slice ao S.length cap∧S.length≤9223372036854775807∧∀ k (hk:k<S.length),∃ b o,ao=some ⟨b,o,none⟩∧b<w.heap.size∧RangeIs w b (o+k*15) 15 (S[k]'hk).cells:=by
 obtain ⟨ao,cap,rfl,hm,hc⟩:=h
 unfold maxLen at hm
 refine ⟨ao,cap,rfl,by omega,fun k hk=>?_⟩
 obtain ⟨b,o,e,hb,-,h2⟩:=SlAt.elem (f:=State.cells) (c:=15) (fun _=>rfl) (by omega) hc k hk
 exact ⟨b,o,e,hb,⟨fun j u hu=>h2 j u hu,rfl⟩⟩
def AnyB (e:Ending):Prop:=∃ b,e=.returned (.bool b)
end Go.Proofs.YtdkfkalplmgoeaaGreat
namespace Go.Proofs.YtdkfkalplmgoeaaGreat
open Go.RowKit Go.Shelf
set_option maxRecDepth 100000
set_option maxHeartbeats 16000000
set_option linter.unusedSimpArgs false
theorem zeP (p:Planet) (L:Arcs) (s:State) (v:Value) (w:World) (hd:zcl w v L):Calls Tryz.prog 29 #[.agg p.cells.toArray,v,.agg #[.int .i64 s.t,.int .i64 s.p.x.lo,.int .i64 s.p.x.hi,.int .i64 s.p.y.lo,.int .i64 s.p.y.hi,.int .i64 s.p.z.lo,.int .i64 s.p.z.hi,.int .i64 s.v.x.lo,.int .i64 s.v.x.hi,.int .i64 s.v.y.lo,.int .i64 s.v.y.hi,.int .i64 s.v.z.lo,.int .i64 s.v.z.hi,.int .i64 s.m.lo,.int .i64 s.m.hi]] w fun e w'=>e=.returned (.int .i64 (za4 p L s))∧Grew w w':=by
 have HP:=Lib.hid (fun w'=>show Calls Tryz.prog 49 #[.agg p.cells.toArray] w' _ from zfp p w')
 have HS:=Lib.hid (fun w'=>zfY s w')
 have Hdr:=Lib.hid hd.2
 obtain ⟨ao,cap,rfl,hm,hel⟩:=zdz hd
 have Hel:=Lib.hid hel
 clear hd hel
 cases h1:p.okB
 ·have HR:=Lib.hid (zf6 (L:=L) (show (p.okB&&s.okB)=false by rw[h1];rfl))
  rw[h1] at HP
  generalize za4 p L s=R at *
  clear h1 HS
  go_enter Tryz.func29,Tryz.ntmps29
  go_wp2_with (first|(go_at_call 49;(with_reducible refine zaa (HP.out _) ?_);intro u)|(with_reducible refine wLi ?_))
  go_ret
  exact ⟨zay HR.out.symm,gw⟩
 cases h2:s.okB
 ·have HR:=Lib.hid (zf6 (L:=L) (show (p.okB&&s.okB)=false by rw[h1,h2];rfl))
  rw[h1] at HP
  rw[h2] at HS
  generalize za4 p L s=R at *
  clear h1 h2
  go_enter Tryz.func29,Tryz.ntmps29
  go_wp2_with (first|(go_at_call 49;(with_reducible refine zaa (HP.out _) ?_);intro u)|(go_at_call 38;(with_reducible refine zaa (HS.out _) ?_);intro u)|(with_reducible refine wLi ?_))
  go_ret
  exact ⟨zay HR.out.symm,gw⟩
 have HR:=Lib.hid (zio (L:=L) h1 h2)
 rw[h1] at HP
 rw[h2] at HS
 generalize za4 p L s=R at *
 clear h1 h2
 go_enter Tryz.func29,Tryz.ntmps29
 go_wp2_with (first|(go_at_call 49;(with_reducible refine zaa (HP.out _) ?_);intro u)|(go_at_call 38;(with_reducible refine zaa (HS.out _) ?_);intro u')|(with_reducible refine wLi ?_))
 go_loopw [7] (fun t wr=>∃ k:Nat,t=.int .i64 k∧k≤L.length∧Hid (∀ j (hj:j<L.length),j<k→badB L[j]=false)∧Grew w wr) (fun t _=>L.length-(intOf t).toNat)
 case atStart=>exact ⟨0,rfl,by omega,Lib.hid (fun j hj h=>by omega),gw⟩
 case round=>
  obtain ⟨k,rfl,hk,Hall,hg⟩:=hrel
  obtain ⟨z,rfl⟩:=zal hg
  clear hg
  by_cases hlt:k<L.length
  ·obtain ⟨b,o,rfl,hb,hr⟩:=Hel.out k hlt
   obtain ⟨hdr,-,-⟩:=Hdr.out _ (List.getElem_mem hlt)
   have HA:=Lib.hid (fun w' (g:Grew w w')=>show Calls Tryz.prog 42 #[.agg L[k].1.cells.toArray] w' _ from zdq L[k].1 L[k].2 w' (hdr.grew g))
   have ib:BlockIn w b:=⟨hb⟩
   have rz:=hr.grew z.grew
   cases hy:L[k].1.okB L[k].2
   ·have Hno:=Lib.hid (show zcN L=2 by
     unfold zcN
     rw[if_pos]
     rw[List.any_eq_true]
     exact ⟨L[k],List.getElem_mem hlt,by unfold badB;rw[hy];rfl⟩)
    rw[hy] at HA
    clear hy hdr hr Hel Hdr
    go_wp2_with (first|(go_at_call 42;(with_reducible refine zaa (HA.out _ ?_) ?_);(· exact gwr);intro u)|(with_reducible refine wLr ?_)|(with_reducible refine wLi ?_)|(with_reducible refine wSf ?_)|(with_reducible refine wSi ?_))
    go_ret
    exact ⟨zay (by rw[HR.out,Hno.out]),gwr⟩
   ·have Hall2:=Lib.hid (show ∀ j (hj:j<L.length),j<k+1→badB L[j]=false from fun j hj h=>by
     by_cases e:j=k
     ·subst e
      unfold badB
      rw[hy]
      rfl
     ·exact Hall.out j hj (by omega))
    rw[hy] at HA
    clear hy hdr hr Hel Hdr
    go_wp2_with (first|(go_at_call 42;(with_reducible refine zaa (HA.out _ ?_) ?_);(· exact gwr);intro u)|(with_reducible refine wLr ?_)|(with_reducible refine wLi ?_)|(with_reducible refine wSf ?_)|(with_reducible refine wSi ?_))
    go_roundw
    case rel=>exact ⟨k+1,by go_num,by omega,Hall2,gwr⟩
    case measure=>simp[intOf];omega
  ·have Hany:=Lib.hid (zni (L:=L) (k:=k) (by omega) Hall.out)
   clear Hall
   by_cases h32:L.length≤32
   ·have h32':¬ ((32:Int)<L.length):=by omega
    have HR2:=Lib.hid (show R=if fitB 4096 0 L then 0 else 3 by rw[HR.out];unfold zcN;rw[if_neg (by rw[Hany.out];decide),decide_eq_true h32,Bool.true_and])
    clear HR Hany
    go_wp2
    go_loopw [8,9] (fun q t wr=>∃ (k:Nat) (sm:Int),t=.int .i64 k∧q=.int .i64 sm∧k≤L.length∧0≤sm∧sm≤4096∧Hid (fitB 4096 0 L=fitB 4096 sm (L.drop k))∧Grew w wr) (fun _ t _=>L.length-(intOf t).toNat)
    case atStart=>exact ⟨0,0,rfl,rfl,by omega,by omega,by omega,Lib.hid rfl,gw⟩
    case round=>
     obtain ⟨k,sm,rfl,rfl,hk,hs1,hs2,Hfit,hg⟩:=hrel
     obtain ⟨z,rfl⟩:=zal hg
     clear hg
     by_cases hlt:k<L.length
     ·obtain ⟨b,o,rfl,hb,hr⟩:=Hel.out k hlt
      obtain ⟨hdr,ht,hst⟩:=Hdr.out _ (List.getElem_mem hlt)
      have HA:=Lib.hid (fun w' (g:Grew w w')=>show Calls Tryz.prog 25 #[.agg L[k].1.cells.toArray] w' _ from zhT L[k].1 L[k].2 w' (hdr.grew g) ht hst)
      have ib:BlockIn w b:=⟨hb⟩
      have rz:=hr.grew z.grew
      have hfit:=Hfit.out
      rw[zep L k hlt,fitB] at hfit
      obtain ⟨hb1,hb2⟩:=ze0 L[k].1 L[k].2
      clear Hel Hdr hdr hr Hfit ht hst
      generalize zaF L[k].1 L[k].2=sn at *
      by_cases h11:zaE L[k].1 L[k].2=0
      ·have h11':(zaE L[k].1 L[k].2 != 0)=false:=by simp[h11]
       rw[decide_eq_true h11,Bool.true_and] at hfit
       by_cases h12:sm+sn≤4096
       ·rw[decide_eq_true h12,Bool.true_and] at hfit
        have Hf:=Lib.hid hfit
        clear hfit h11
        generalize zaE L[k].1 L[k].2=sc at *
        go_wp2_with (first|(go_at_call 25;(with_reducible refine zaa (HA.out _ ?_) ?_);(· exact gwr);intro u)|(with_reducible refine wLr ?_)|(with_reducible refine wLi ?_)|(with_reducible refine wSf ?_)|(with_reducible refine wSi ?_))
        go_roundw
        case rel=>exact ⟨k+1,sm+sn,by go_num,by go_num,by omega,by omega,h12,Hf,gwr⟩
        case measure=>simp[intOf];omega
       ·rw[decide_eq_false h12,Bool.false_and] at hfit
        have Hf:=Lib.hid hfit
        clear hfit h11
        generalize zaE L[k].1 L[k].2=sc at *
        go_wp2_with (first|(go_at_call 25;(with_reducible refine zaa (HA.out _ ?_) ?_);(· exact gwr);intro u)|(with_reducible refine wLr ?_)|(with_reducible refine wLi ?_)|(with_reducible refine wSf ?_)|(with_reducible refine wSi ?_))
        go_ret
        exact ⟨zay (by rw[HR2.out,Hf.out];rfl),gwr⟩
      ·have h11':(zaE L[k].1 L[k].2 != 0)=true:=by simp[h11]
       rw[decide_eq_false h11,Bool.false_and,Bool.false_and] at hfit
       have Hf:=Lib.hid hfit
       clear hfit h11
       generalize zaE L[k].1 L[k].2=sc at *
       go_wp2_with (first|(go_at_call 25;(with_reducible refine zaa (HA.out _ ?_) ?_);(· exact gwr);intro u)|(with_reducible refine wLr ?_)|(with_reducible refine wLi ?_)|(with_reducible refine wSf ?_)|(with_reducible refine wSi ?_))
       go_ret
       exact ⟨zay (by rw[HR2.out,Hf.out];rfl),gwr⟩
     ·have hend:=Hfit.out
      rw[List.drop_of_length_le (by omega)] at hend
      have Hend:=Lib.hid hend
      clear Hfit hend
      go_wp2
      go_ret
      exact ⟨zay (by rw[HR2.out,Hend.out];rfl),gwr⟩
   ·have h32':(32:Int)<L.length:=by omega
    have HR2:=Lib.hid (show R=3 by rw[HR.out];unfold zcN;rw[if_neg (by rw[Hany.out];decide),decide_eq_false h32,Bool.false_and];rfl)
    go_wp2
    go_ret
    exact ⟨zay HR2.out.symm,gwr⟩
end Go.Proofs.YtdkfkalplmgoeaaGreat
