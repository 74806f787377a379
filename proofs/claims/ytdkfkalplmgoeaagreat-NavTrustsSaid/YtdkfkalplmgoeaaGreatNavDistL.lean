/-
  Joined: NavDist.
-/
import Derived.Test.YtdkfkalplmgoeaaGreatMonoLawL
import Derived.Test.YtdkfkalplmgoeaaGreatDistLawL
namespace Go.Proofs.YtdkfkalplmgoeaaGreat
open Go.RowKit Go.Shelf
set_option maxRecDepth 100000
set_option maxHeartbeats 16000000
section
variable {p f:Bx} {r:Sp}
theorem di_S (h:(diS p f r).e≠0):(diTo p f r 3).e=(diS p f r).e:=zjS 0 (by omega) h
theorem di_2 (h:(di2 p f r).e≠0):(diTo p f r 3).e=(di2 p f r).e:=by
 have e:(diS p f r).e=(di2 p f r).e:=zaF _ h
 rw[di_S (by rw[e];exact h),e]
theorem di_1 (h:(di1 p f r).e≠0):(diTo p f r 3).e=(di1 p f r).e:=by
 have e:(di2 p f r).e=(di1 p f r).e:=zaF _ h
 rw[di_2 (by rw[e];exact h),e]
theorem di_0 (h:(di0 p f r).e≠0):(diTo p f r 3).e=(di0 p f r).e:=by
 have e:(di1 p f r).e=(di0 p f r).e:=zaF _ h
 rw[di_1 (by rw[e];exact h),e]
theorem di_E (h:diE p f r≠0):(diTo p f r 3).e=diE p f r:=by
 have e:(di0 p f r).e=diE p f r:=zaF _ h
 rw[di_0 (by rw[e];exact h),e]
theorem di_R (h:(diR r).e≠0):(diTo p f r 3).e=(diR r).e:=by
 have e0:(aw0 (diR r).e p f).e=(diR r).e:=zaF _ h
 have e1:(aw1 (diR r).e p f).e=(aw0 (diR r).e p f).e:=zaF _ (by rw[e0];exact h)
 have e:diE p f r=(diR r).e:=(zaF _ (by rw[e1,e0];exact h)).trans (by rw[e1,e0])
 rw[di_E (by rw[e];exact h),e]
theorem di_A (h0:(diR r).e=0):diE p f r=zbt p f:=by unfold diE;rw[h0,aw_e]
theorem di_D (h0:(diR r).e=0) (h1:zbt p f=0):diD p f r=zba p f∧di0 p f r=zai (zba p f).x:=by
 have e:=(zlC h1).2
 have e2:diD p f r=zba p f:=by unfold diD;rw[h0,e]
 refine ⟨e2,?_⟩
 unfold di0
 rw[di_A h0,h1,zb1,e2]
end
theorem zrh {p f:Bx} {r:Sp} (h0:(diR r).e=0) (h1:zbt p f=0) :
 ((zai (zba p f).x).e≠0→(diTo p f r 3).e=(zai (zba p f).x).e)∧
 ((zai (zba p f).x).e=0→(zai (zba p f).y).e≠0→(diTo p f r 3).e=(zai (zba p f).y).e)∧
 ((zai (zba p f).x).e=0→(zai (zba p f).y).e=0→(zai (zba p f).z).e≠0→(diTo p f r 3).e=(zai (zba p f).z).e)∧
 ((zai (zba p f).x).e=0→(zai (zba p f).y).e=0→(zai (zba p f).z).e=0→diS p f r=zai (diR r).s∧zhg p f r=⟨zba p f,⟨(zai (zba p f).x).s,(zai (zba p f).y).s,(zai (zba p f).z).s⟩,p,(zai (diR r).s).e⟩):=by
 obtain ⟨eD,e0⟩:=di_D h0 h1
 have e1:(zai (zba p f).x).e=0→di1 p f r=zai (zba p f).y:=fun h=>by unfold di1;rw[e0,h,zb1,eD]
 have e2:(zai (zba p f).x).e=0→(zai (zba p f).y).e=0→di2 p f r=zai (zba p f).z:=fun h k=>by unfold di2;rw[e1 h,k,zb1,eD]
 refine ⟨fun h=>?_,fun h k=>?_,fun h k l=>?_,fun h k l=>?_⟩
 ·rw[di_0 (by rw[e0];exact h),e0]
 ·rw[di_1 (by rw[e1 h];exact k),e1 h]
 ·rw[di_2 (by rw[e2 h k];exact l),e2 h k]
 ·have e3:diS p f r=zai (diR r).s:=by unfold diS;rw[e2 h k,l,zb1]
  refine ⟨e3,?_⟩
  unfold zhg
  rw[eD,e0,e1 h,e2 h k,e3]
theorem zcB {w:World} {q:Nat} {v0 v1 v2 v3 v4 v5:Value} (h0:w.cell? ⟨q,0,none⟩=some v0∧w.frozen? ⟨q,0,none⟩=false) (h1:w.cell? ⟨q,1,none⟩=some v1∧w.frozen? ⟨q,1,none⟩=false) (h2:w.cell? ⟨q,2,none⟩=some v2∧w.frozen? ⟨q,2,none⟩=false)
 (h3:w.cell? ⟨q,3,none⟩=some v3∧w.frozen? ⟨q,3,none⟩=false) (h4:w.cell? ⟨q,4,none⟩=some v4∧w.frozen? ⟨q,4,none⟩=false) (h5:w.cell? ⟨q,5,none⟩=some v5∧w.frozen? ⟨q,5,none⟩=false):zan w q [v0,v1,v2,v3,v4,v5]:=fun i v hv=>by
 match i,hv with
 |0,hv=>cases hv;exact h0
 |1,hv=>cases hv;exact h1
 |2,hv=>cases hv;exact h2
 |3,hv=>cases hv;exact h3
 |4,hv=>cases hv;exact h4
 |5,hv=>cases hv;exact h5
 |n+6,hv=>simp at hv
theorem zef {w:World} {q:Nat} {X:Bx} (h:XAt w q 0 X) (j:Nat) (hj:j<3):(w.cell? ⟨q,j*2,none⟩=some (.int .i64 (X.at j).lo)∧w.frozen? ⟨q,j*2,none⟩=false)∧w.cell? ⟨q,j*2+1,none⟩=some (.int .i64 (X.at j).hi)∧w.frozen? ⟨q,j*2+1,none⟩=false:=by
 have:=h j hj
 rwa [Nat.zero_add] at this
theorem zh1 {w:World} {q:Nat} {X:Bx} (h:XAt w q 0 X) (i:Nat) (hi:i<3) (v:Sp):XAt ((w.setCell ⟨q,i*2,none⟩ (.int .i64 v.lo)).setCell ⟨q,i*2+1,none⟩ (.int .i64 v.hi)) q 0 (X.put i v):=by
 have:=h.put i hi v
 rwa [Nat.zero_add] at this
theorem zjM {w:World} {q:Nat} {X:Bx} (h:zan w q [.int .i64 X.x.lo,.int .i64 X.x.hi,.int .i64 X.y.lo,.int .i64 X.y.hi,.int .i64 X.z.lo,.int .i64 X.z.hi]):XAt w q 0 X:=fun j hj=>by
 rw[Nat.zero_add]
 exact zgN h j hj
theorem zbu {w:World} {b off q j:Nat} {X:Bx} {v:Value} (h:XAt w b off X) (hne:q≠b):XAt (w.setCell ⟨q,j,none⟩ v) b off X:=fun k hk=>by
 obtain ⟨⟨h1,h2⟩,h3,h4⟩:=h k hk
 have ne:∀ i,(⟨q,j,none⟩:Addr)≠⟨b,i,none⟩:=fun i e=>by injection e with e1;exact hne e1
 exact ⟨⟨by rw[World.cell?_setCell_other _ _ _ _ (ne _)];exact h1,by rw[World.frozen?_setCell];exact h2⟩,by rw[World.cell?_setCell_other _ _ _ _ (ne _)];exact h3,by rw[World.frozen?_setCell];exact h4⟩
theorem zah {w:World} {q q' j:Nat} {l:List Value} {v:Value} (h:zan w q l) (hne:q'≠q):zan (w.setCell ⟨q',j,none⟩ v) q l:=fun i u hu=>by
 obtain ⟨h1,h2⟩:=h i u hu
 exact ⟨by rw[World.cell?_setCell_other _ _ _ _ (fun e=>by injection e with e1;exact hne e1)];exact h1,by rw[World.frozen?_setCell];exact h2⟩
theorem ButX.new {b off:Nat} {w w':World} (h:ButX b off w w') (q j:Nat) (v:Value) (hq:w.heap.size≤q):ButX b off w (w'.setCell ⟨q,j,none⟩ v):=by
 have hb:=h.lt
 refine ⟨h.os,h.tape,h.output,by simpa [World.setCell] using h.size,h.lt,fun k hk hc=>(Below.heap_setCell _ _ _ _ (by show k≠q;omega)).trans (h.block k hk hc),fun i hi=>?_,fun i=>?_⟩
 ·rw[World.cell?_setCell_other _ _ _ _ (by intro e;injection e with e1;omega)]
  exact h.cell i hi
 ·rw[World.frozen?_setCell]
  exact h.mark i
theorem ButX.later {b off:Nat} {w w':World} (h:ButX b off w w') (u:Later w'):ButX b off w u.world:=h.grew u.grew
theorem ButX.drew {b off:Nat} {w w':World} (h:ButX b off w w'):ButX b off w w'.drew:=h.grew (Grew.refl _).drew
theorem zon {P:Program} {c:Code} {Q:Exit→Act→World→Prop} {a:Act} {w:World} (h:∀ z,z=w→c.wp P Q a z):c.wp P Q a w:=h w rfl
structure DistAt (X f:Bx) (r:Sp) (b off:Nat) (w:World) (q4 q6 q7 qs i:Nat) (z:World):Prop where
 but:ButX b off w z
 boxF:zan z q4 [.int .i64 f.x.lo,.int .i64 f.x.hi,.int .i64 f.y.lo,.int .i64 f.y.hi,.int .i64 f.z.lo,.int .i64 f.z.hi]
 boxS:zan z qs [.int .i64 ((diS X f r).s).lo,.int .i64 ((diS X f r).s).hi]
 dAt:XAt z q6 0 (diTo X f r i).d
 qAt:XAt z q7 0 (diTo X f r i).q
 pAt:XAt z b off (diTo X f r i).pl
 good:(diTo X f r i).e=0
theorem zmM (a:Sp) [ha:S64 a]:(za5 a).s.okB=true:=by
 obtain ⟨⟨h1,h2⟩,h3,h4⟩:=zjw a
 have h5:(za5 a).s.lo≤(za5 a).s.hi:=by
  by_cases h:(za5 a).e=0
  ·exact (zn3 h ha.hi.2).2
  ·unfold za5 at h ⊢
   split at h
   ·split at h
    ·rename_i h6 h7
     rw[if_pos h6,if_pos h7]
     exact Int.le_refl _
    ·exact absurd rfl h
   ·rename_i h6
    rw[if_neg h6]
    exact Int.le_refl _
 unfold Sp.okB numB
 simp
 omega
theorem zo7 {X f:Bx} {r:Sp} {i:Nat} (hi:i<3) (h:(zbl (diTo X f r i) f (diS X f r).s i).e≠0):(diTo X f r 3).e=(zbl (diTo X f r i) f (diS X f r).s i).e:=zjS (p:=X) (f:=f) (r:=r) (i+1) (by omega) h
theorem zgB (X f:Bx) (r:Sp) [hX:B64 X] [hf:B64 f] [hr:S64 r] (b off:Nat) (w:World) (hx:XAt w b off X) :
 Calls Tryz.prog 76 #[.pointer (some ⟨b,off,none⟩),.agg #[.int .i64 f.x.lo,.int .i64 f.x.hi,.int .i64 f.y.lo,.int .i64 f.y.hi,.int .i64 f.z.lo,.int .i64 f.z.hi],.agg #[.int .i64 r.lo,.int .i64 r.hi]] w (zes b off (diTo X f r 3).pl (diTo X f r 3).e w):=by
 have hb:=World.block_lt_of_cell? w _ (hx 0 (by omega)).1.1
 have Hbut:=Lib.hid (ButX.refl (off:=off) hb)
 have HX:=Lib.hid hx
 obtain ⟨x0,x1,x2,x3,x4,x5⟩:=ziS hx
 have ib:BlockIn w b:=⟨hb⟩
 clear hx
 have HM:=Lib.hid (fun w=>(show Calls Tryz.prog 130 #[.agg #[.int .i64 r.lo,.int .i64 r.hi],.agg #[.int .i64 0,.int .i64 9223372036854775807]] w fun e w'=>e=.returned (.tuple #[.agg #[.int .i64 (diR r).s.lo,.int .i64 (diR r).s.hi],.int .i64 (diR r).e])∧Grew w w' from zcO r ⟨0,9223372036854775807⟩ w))
 have HMu:=Lib.hid (fun w=>zaZ (diR r).s (diR r).e w)
 have s0:S64 (⟨0,9223372036854775807⟩:Sp):=⟨⟨by simp only[];omega,by simp only[];omega⟩,⟨by simp only[];omega,by simp only[];omega⟩⟩
 have sM:S64 (diR r).s:=by unfold diR;infer_instance
 have HR:=Lib.hid (fun h:(diR r).e≠0=>di_R (p:=X) (f:=f) h)
 have HA:=Lib.hid (fun w=>zgb X f w)
 have HAe:=Lib.hid (fun (h0:(diR r).e=0) (h:zbt X f≠0)=>show (diTo X f r 3).e=zbt X f by rw[di_E (by rw[di_A h0];exact h),di_A h0])
 go_enter Tryz.func76,Tryz.ntmps76
 go_wp2_with (first|(go_at_call 130;(with_reducible refine zaa (HM.out _) ?_);intro u1)|(go_at_call 129;(with_reducible refine za7 (HMu.out _) ?_ ?_);(· intro hz u;exact ⟨rfl,za1 (HR.out hz.out) hz.out (Hbut.out.grew gw)⟩);intro hz1 u2))
 have hz1':=hz1.out
 replace HAe:=Lib.hid (HAe.out hz1')
 refine za9 [zbt X f] (diTo X f r 3).e 6 [5] [4] [] (fun W0=>[(5,BoxR W0 [.int .i64 0,.int .i64 0,.int .i64 0,.int .i64 0,.int .i64 0,.int .i64 0])]) [.agg #[.int .i64 ((zba X f)).x.lo,.int .i64 ((zba X f)).x.hi,.int .i64 ((zba X f)).y.lo,.int .i64 ((zba X f)).y.hi,.int .i64 ((zba X f)).z.lo,.int .i64 ((zba X f)).z.hi]] [6] (by rfl) (by intro W0 x hx;simp only[List.mem_cons,List.not_mem_nil,or_false] at hx;rcases hx with rfl;exact zbW _ _) (by kernel_rfl) (by kernel_rfl) (by kernel_rfl) (fun htot u a hdf=>by exact ⟨hdf,za1 rfl htot (Hbut.out.grew gw)⟩) ?_
 intro p
 apply Exists.intro
 apply And.intro
 apply zag (by kernel_rfl)
 ·intro u;unfold zae;go_simp;rfl
 apply zag (by kernel_rfl)
 ·intro u;unfold zae;go_simp;rfl
 apply zag (by kernel_rfl)
 ·intro u;unfold zae;go_simp;rfl
 apply zag (by kernel_rfl)
 ·intro u;unfold zae;go_simp;rfl
 apply zaU 0 (by kernel_rfl) (by rfl) (by decide) (fun he zn=>by replace zn:zbt X f≠0:=zn;show (diTo X f r 3).e=zbt X f;exact HAe.out zn)
 ·intro u hF;clear hF;unfold zb4;go_simp;exact HA.out _
 apply zf8 (by kernel_rfl)
 ·intro u hF;clear hF;unfold za6;go_simp;exact zbX _ _ _ _
 apply zdA
 rotate_left
 ·rfl
 intro u hE hR hD
 have y0:Hid (zbt X f=0):=Lib.hid (hE 0 (by decide))
 clear hE
 obtain ⟨q5,e5,hB5,kB5,nB5⟩:=(show BoxR _ [.int .i64 0,.int .i64 0,.int .i64 0,.int .i64 0,.int .i64 0,.int .i64 0] (p 5) u.world from hR 5 (by decide))
 clear hR hD
 rw[e5]
 clear e5
 have oB5:=zaO nB5
 have oC5:=zaP nB5
 have nC5:NewFor w q5:=⟨Nat.le_trans (Grew.size gw) nB5.le⟩
 have hB5_0:=(hB5 0 _ rfl).1
 have hB5f0:=(hB5 0 _ rfl).2
 have hB5i0:HasCell (u.world) (q5) 0:=⟨_,hB5_0⟩
 have hB5_1:=(hB5 1 _ rfl).1
 have hB5f1:=(hB5 1 _ rfl).2
 have hB5i1:HasCell (u.world) (q5) 1:=⟨_,hB5_1⟩
 have hB5_2:=(hB5 2 _ rfl).1
 have hB5f2:=(hB5 2 _ rfl).2
 have hB5i2:HasCell (u.world) (q5) 2:=⟨_,hB5_2⟩
 have hB5_3:=(hB5 3 _ rfl).1
 have hB5f3:=(hB5 3 _ rfl).2
 have hB5i3:HasCell (u.world) (q5) 3:=⟨_,hB5_3⟩
 have hB5_4:=(hB5 4 _ rfl).1
 have hB5f4:=(hB5 4 _ rfl).2
 have hB5i4:HasCell (u.world) (q5) 4:=⟨_,hB5_4⟩
 have hB5_5:=(hB5 5 _ rfl).1
 have hB5f5:=(hB5 5 _ rfl).2
 have hB5i5:HasCell (u.world) (q5) 5:=⟨_,hB5_5⟩
 have hB5b:BlockIn (u.world) (q5):=BlockIn.of_cell hB5_0
 clear hB5
 refine zak (by rfl) ?_;unfold zav;go_simp
 refine zau ?_
 obtain ⟨n1,n2,n3,n4⟩:=zrh (p:=X) (f:=f) (r:=r) hz1' y0.out
 have N1:=Lib.hid n1
 have N2:=Lib.hid n2
 have N3:=Lib.hid n3
 have N4:=Lib.hid n4
 have sD:B64 (zba X f):=inferInstance
 clear n1 n2 n3 n4 HA HAe HR HM hz1'
 generalize zba X f=D at *
 have sx:S64 D.x:=sD.x
 have sy:S64 D.y:=sD.y
 have sz:S64 D.z:=sD.z
 have Q0:=Lib.hid (fun w=>zb7 D.x w)
 have Q1:=Lib.hid (fun w=>zb7 D.y w)
 have Q2:=Lib.hid (fun w=>zb7 D.z w)
 have Q3:=Lib.hid (fun w=>zb7 (diR r).s w)
 have M0:=Lib.hid (fun w=>zaZ (zai D.x).s (zai D.x).e w)
 have M1:=Lib.hid (fun w=>zaZ (zai D.y).s (zai D.y).e w)
 have M2:=Lib.hid (fun w=>zaZ (zai D.z).s (zai D.z).e w)
 have M3:=Lib.hid (fun w=>zaZ (zai (diR r).s).s (zai (diR r).s).e w)
 generalize zai D.x=S0 at *
 generalize zai D.y=S1 at *
 generalize zai D.z=S2 at *
 generalize zai (diR r).s=SR at *
 go_wp2
 refine wp_loop_rounds 4 ?_
 rw[rounds_succ]
 go_wp2_with (first|(go_at_call 131;(with_reducible refine zaa (Q0.out _) ?_);intro v0)|(go_at_call 129;(with_reducible refine za7 (M0.out _) ?_ ?_);(· intro hz u;exact ⟨rfl,za1 (N1.out hz.out) hz.out (Hbut.out.grew gw)⟩);intro k0 m0))
 rw[rounds_succ]
 go_wp2_with (first|(go_at_call 131;(with_reducible refine zaa (Q1.out _) ?_);intro v1)|(go_at_call 129;(with_reducible refine za7 (M1.out _) ?_ ?_);(· intro hz u;exact ⟨rfl,za1 (N2.out k0.out hz.out) hz.out (Hbut.out.grew gw)⟩);intro k1 m1))
 rw[rounds_succ]
 go_wp2_with (first|(go_at_call 131;(with_reducible refine zaa (Q2.out _) ?_);intro v2)|(go_at_call 129;(with_reducible refine za7 (M2.out _) ?_ ?_);(· intro hz u;exact ⟨rfl,za1 (N3.out k0.out k1.out hz.out) hz.out (Hbut.out.grew gw)⟩);intro k2 m2))
 rw[rounds_succ]
 go_wp2_with (first|(go_at_call 131;(with_reducible refine zaa (Q3.out _) ?_);intro v3)|(go_at_call 129;(with_reducible refine za7 (M3.out _) ?_ ?_);(· intro hz u;exact ⟨rfl,za1 (by have e:=(N4.out k0.out k1.out k2.out).1;rw[di_S (by rw[e];exact hz.out),e]) hz.out (Hbut.out.grew gw)⟩);intro k3 m3))
 have He3:=Lib.hid (N4.out k0.out k1.out k2.out).1
 have HeS:=Lib.hid (show diTo X f r 0=⟨D,⟨S0.s,S1.s,S2.s⟩,X,SR.e⟩ from (N4.out k0.out k1.out k2.out).2)
 have l4:w.heap.size+1≤q5:=by
  have h:=Grew.size (show Grew (w.alloc (.cells #[.int .i64 f.x.lo,.int .i64 f.x.hi,.int .i64 f.y.lo,.int .i64 f.y.hi,.int .i64 f.z.lo,.int .i64 f.z.hi] 26)) u2.world from gw)
  have h3:u2.world.heap.size≤q5:=by have:=nB5.le;simpa [World.setCell,World.drew] using this
  simp at h
  omega
 have l5:q5<u.world.heap.size:=kB5.lt
 have l7:u.world.heap.size<m3.world.heap.size:=(inferInstance:BlockIn m3.world u.world.heap.size).lt
 have n7:NewFor w u.world.heap.size:=⟨by omega⟩
 go_loopw [43] (fun t wr=>∃ (i:Nat) (z:World),z=wr∧t=.int .i64 i∧i≤3∧Hid (DistAt X f r b off w w.heap.size q5 u.world.heap.size m3.world.heap.size i z)) (fun t _=>3-(intOf t).toNat)
 case atStart=>
  exact ⟨0,_,rfl,rfl,by omega,Lib.hid ⟨Hbut.out.grew gw,zcB ⟨by go_simp,by go_simp⟩ ⟨by go_simp,by go_simp⟩ ⟨by go_simp,by go_simp⟩ ⟨by go_simp,by go_simp⟩ ⟨by go_simp,by go_simp⟩ ⟨by go_simp,by go_simp⟩,by rw[He3.out];exact bxt,
   by rw[HeS.out];exact zjM (zcB ⟨by go_simp,by go_simp⟩ ⟨by go_simp,by go_simp⟩ ⟨by go_simp,by go_simp⟩ ⟨by go_simp,by go_simp⟩ ⟨by go_simp,by go_simp⟩ ⟨by go_simp,by go_simp⟩),by rw[HeS.out];exact zjM (zcB ⟨by go_simp,by go_simp⟩ ⟨by go_simp,by go_simp⟩ ⟨by go_simp,by go_simp⟩ ⟨by go_simp,by go_simp⟩ ⟨by go_simp,by go_simp⟩ ⟨by go_simp,by go_simp⟩),by rw[HeS.out];exact HX.out.grew gw,by rw[HeS.out];exact k3.out⟩⟩
 case round=>
  obtain ⟨i,z,rfl,rfl,hi,HS⟩:=hrel
  have l9:w.heap.size<m3.world.heap.size:=by omega
  clear k0 k1 k2 k3 N1 N2 N3 N4 Q0 Q1 Q2 Q3 M0 M1 M2 M3 He3 HeS HMu n7 x0 x1 x2 x3 x4 x5 ib HX Hbut
  generalize hq4:w.heap.size=q4 at *
  generalize u.world.heap.size=q7 at *
  generalize m3.world.heap.size=qs at *
  have ib:BlockIn z b:=⟨Nat.lt_of_lt_of_le HS.out.but.lt HS.out.but.size⟩
  have ib4:BlockIn z q4:=BlockIn.of_cell (HS.out.boxF 0 _ rfl).1
  have ib9:BlockIn z qs:=BlockIn.of_cell (HS.out.boxS 0 _ rfl).1
  have ib6:BlockIn z q5:=BlockIn.of_cell (HS.out.dAt 0 (by omega)).1.1
  have ib7:BlockIn z q7:=BlockIn.of_cell (HS.out.qAt 0 (by omega)).1.1
  by_cases hlt:i<3
  ·obtain ⟨but,bF,bS,dAt,qAt,pAt,h0⟩:=HS.out
   obtain ⟨⟨fi0,-⟩,fi1,-⟩:=zgN bF i hlt
   obtain ⟨⟨di0,df0⟩,di1,df1⟩:=zef dAt i hlt
   obtain ⟨⟨qi0,qf0⟩,qi1,qf1⟩:=zef qAt i hlt
   obtain ⟨⟨qj0,-⟩,qj1,-⟩:=zef qAt (oj i) (zmh i)
   obtain ⟨⟨qk0,-⟩,qk1,-⟩:=zef qAt (ok i) (zmi i hlt)
   obtain ⟨⟨pi0,pf0⟩,pi1,pf1⟩:=pAt i hlt
   obtain ⟨sd,sq,sp⟩:=zdZ X f r i
   have sS:S64 (diS X f r).s:=zbL _ _
   have step:=fun h=>zo7 (X:=X) (f:=f) (r:=r) (i:=i) hlt h
   have nxt:diTo X f r (i+1)=zbl (diTo X f r i) f (diS X f r).s i:=rfl
   have HB:=Lib.hid bF
   have HBS:=Lib.hid bS
   have HDA:=Lib.hid dAt
   have HQA:=Lib.hid qAt
   have HPA:=Lib.hid pAt
   have Hbut:=Lib.hid but
   have Hst:=Lib.hid step
   have Hnx:=Lib.hid nxt
   have H00:=Lib.hid h0
   have HO:=Lib.hid (fun w=>zgZ i hlt w)
   have bS_0:=(bS 0 _ rfl).1
   have bSf0:=(bS 0 _ rfl).2
   have bSi0:HasCell (z) (qs) 0:=⟨_,bS_0⟩
   have bS_1:=(bS 1 _ rfl).1
   have bSf1:=(bS 1 _ rfl).2
   have bSi1:HasCell (z) (qs) 1:=⟨_,bS_1⟩
   have bSb:BlockIn (z) (qs):=BlockIn.of_cell bS_0
   clear bS
   have jl':((oj i:Nat):Int)<3:=by have:=zmh i;omega
   have kl':((ok i:Nat):Int)<3:=by have:=zmi i hlt;omega
   have il':(i:Int)<3:=by omega
   clear HS bF dAt qAt pAt but step nxt h0
   generalize diTo X f r i=x at *
   generalize hsg:(diS X f r).s=sg at *
   have Hsg:=Lib.hid hsg
   clear hsg
   have hA:=ds_A (i:=i) H00.out
   have cA:=Lib.hid (fun w=>ze6 (x.q.at (oj i)) (x.q.at (ok i)) w)
   have sA:S64 (addR (x.q.at (oj i)) (x.q.at (ok i))).s:=inferInstance
   generalize addR (x.q.at (oj i)) (x.q.at (ok i))=A at *
   have EA:=Lib.hid (fun h:A.e≠0=>show (diTo X f r 3).e=A.e by
    have e:(zbl x f sg i).e=A.e:=(zow (by rw[hA];exact h)).trans (by rw[hA])
    rw[Hst.out (by rw[e];exact h),e])
   have hF:=fun h=>ds_F (s:=sg) hA h
   have cF:=Lib.hid (fun w=>zdq sg A.s w)
   have sF:S64 (subR sg A.s).s:=inferInstance
   generalize subR sg A.s=F at *
   have EF:=Lib.hid (fun (h0:A.e=0) (h:F.e≠0)=>show (diTo X f r 3).e=F.e by
    have e:(zbl x f sg i).e=F.e:=(zoz (by rw[hF h0];exact h)).trans (by rw[hF h0])
    rw[Hst.out (by rw[e];exact h),e])
   have HF:=Lib.hid hF
   clear hA hF
   go_wp2_with (first|(go_at_call 132;(with_reducible refine zaa (HO.out _) ?_);intro v1))
   refine za9 [A.e,F.e] (diTo X f r 3).e 10 [9] [7,8] [] (fun W0=>[(9,BoxR W0 [.int .i64 0,.int .i64 0])]) [.agg #[.int .i64 A.s.lo,.int .i64 A.s.hi],.agg #[.int .i64 F.s.lo,.int .i64 F.s.hi]] [10] (by rfl) (by intro W0 x hx;simp only[List.mem_cons,List.not_mem_nil,or_false] at hx;rcases hx with rfl;exact zbW _ _) (by kernel_rfl) (by kernel_rfl) (by kernel_rfl) (fun htot u a hdf=>by exact ⟨hdf,za1 rfl htot (Hbut.out.grew gw)⟩) ?_
   intro p
   apply Exists.intro
   apply And.intro
   apply zag (by kernel_rfl)
   ·intro u;unfold zae;go_simp;rfl
   apply zag (by kernel_rfl)
   ·intro u;unfold zae;go_simp;rfl
   apply zag (by kernel_rfl)
   ·intro u;unfold zae;go_simp;rfl
   apply zag (by kernel_rfl)
   ·intro u;unfold zae;go_simp;rfl
   apply zag (by kernel_rfl)
   ·intro u;unfold zae;go_simp;rfl
   apply zag (by kernel_rfl)
   ·intro u;unfold zae;go_simp;rfl
   apply zag (by kernel_rfl)
   ·intro u;unfold zae;go_simp;rfl
   apply zaU 0 (by kernel_rfl) (by rfl) (by decide) (fun he zn=>by replace zn:A.e≠0:=zn;show (diTo X f r 3).e=A.e;exact EA.out zn)
   ·intro u hF;clear hF;unfold zb4;go_simp;exact cA.out _
   apply zaU 1 (by kernel_rfl) (by rfl) (by decide) (fun he zn=>by have z0:A.e=0:=he 0 (by decide);replace zn:F.e≠0:=zn;show (diTo X f r 3).e=F.e;exact EF.out z0 zn)
   ·intro u hF;clear hF;unfold zb4;go_simp;exact cF.out _
   apply zf8 (by kernel_rfl)
   ·intro u hF;clear hF;unfold za6;go_simp;exact zbX _ _ _ _
   apply zdA
   rotate_left
   ·rfl
   intro u hE hR hD
   have y0:Hid (A.e=0):=Lib.hid (hE 0 (by decide))
   have y1:Hid (F.e=0):=Lib.hid (hE 1 (by decide))
   clear hE
   obtain ⟨q9,e9,hB9,kB9,nB9⟩:=(show BoxR _ [.int .i64 0,.int .i64 0] (p 9) u.world from hR 9 (by decide))
   clear hR hD
   rw[e9]
   clear e9
   have oB9:=zaO nB9
   have oC9:=zaP nB9
   have nC9:NewFor z q9:=⟨Nat.le_trans (Grew.size gw) nB9.le⟩
   have hB9_0:=(hB9 0 _ rfl).1
   have hB9f0:=(hB9 0 _ rfl).2
   have hB9i0:HasCell (u.world) (q9) 0:=⟨_,hB9_0⟩
   have hB9_1:=(hB9 1 _ rfl).1
   have hB9f1:=(hB9 1 _ rfl).2
   have hB9i1:HasCell (u.world) (q9) 1:=⟨_,hB9_1⟩
   have hB9b:BlockIn (u.world) (q9):=BlockIn.of_cell hB9_0
   clear hB9
   refine zak (by rfl) ?_;unfold zav;go_simp
   refine zau ?_
   have hF:=HF.out y0.out
   have y1':=y1.out
   by_cases hneg:F.s.hi<0
   ·have hneg':decide (F.s.hi<0)=true:=by simp[hneg]
    have E7:=Lib.hid (show (diTo X f r 3).e=7 by
     have e7:=zns hF y1' hneg
     have e:(zbl x f sg i).e=7:=(zoy (by rw[e7];decide)).trans e7
     rw[Hst.out (by rw[e];decide),e])
    clear hneg hF y1'
    go_wp2
    exact ⟨rfl,za1 E7.out (by decide) (Hbut.out.grew gw)⟩
   have hneg':decide (F.s.hi<0)=false:=by simp[hneg]
   have hE:=ds_E hF y1' hneg
   have hG:=ds_G hF hE
   have cG:=Lib.hid (fun w=>zfg F.s w)
   have oG:=zmM F.s
   have sG:S64 (za5 F.s).s:=inferInstance
   have nG:S64 (negS (za5 F.s).s):=by
    obtain ⟨⟨b1,b2⟩,b3,b4⟩:=zjw F.s
    exact ⟨⟨by unfold negS;simp only[];omega,by unfold negS;simp only[];omega⟩,⟨by unfold negS;simp only[];omega,by unfold negS;simp only[];omega⟩⟩
   generalize za5 F.s=G at *
   have cGm:=Lib.hid (fun w=>zaZ G.s G.e w)
   have EG:=Lib.hid (fun h:G.e≠0=>show (diTo X f r 3).e=G.e by
    have e:(zbl x f sg i).e=G.e:=(zoA (by rw[hG];exact h)).trans (by rw[hG])
    rw[Hst.out (by rw[e];exact h),e])
   have hD:=fun h=>ds_D hG h
   have cD:=Lib.hid (fun w=>zio (x.d.at i) G.s oG w)
   have sDD:S64 (zbU (x.d.at i) G.s).s:=zdW _ _
   generalize zbU (x.d.at i) G.s=DD at *
   have ED:=Lib.hid (fun (h0:G.e=0) (h:DD.e≠0)=>show (diTo X f r 3).e=DD.e by
    have e:(zbl x f sg i).e=DD.e:=(zox (by rw[hD h0];exact h)).trans (by rw[hD h0])
    rw[Hst.out (by rw[e];exact h),e])
   have HD:=Lib.hid hD
   clear hneg hF y1' hE hG hD oG
   go_wp2
   refine za9 [(0:Int),G.e,DD.e] (diTo X f r 3).e 11 [] [5,8,9] [] (fun W0=>[]) [.tuple #[.agg #[.int .i64 G.s.lo,.int .i64 G.s.hi],.int .i64 G.e],.agg #[.int .i64 G.s.lo,.int .i64 G.s.hi],.agg #[.int .i64 DD.s.lo,.int .i64 DD.s.hi]] [11] (by rfl) (fun _ x hx=>absurd hx (List.not_mem_nil)) (by kernel_rfl) (by kernel_rfl) (by kernel_rfl) (fun htot u a hdf=>by exact ⟨hdf,za1 rfl htot (Hbut.out.grew gw)⟩) ?_
   intro p
   apply Exists.intro
   apply And.intro
   apply zag (by kernel_rfl)
   ·intro u;unfold zae;go_simp;rfl
   apply zag (by kernel_rfl)
   ·intro u;unfold zae;go_simp;rfl
   apply zag (by kernel_rfl)
   ·intro u;unfold zae;go_simp;rfl
   apply zag (by kernel_rfl)
   ·intro u;unfold zae;go_simp;rfl
   apply zag (by kernel_rfl)
   ·intro u;unfold zae;go_simp;rfl
   apply zaU 0 (by kernel_rfl) (by rfl) (by decide) (fun he zn=>by replace zn:(0:Int)≠0:=zn;show (diTo X f r 3).e=(0:Int);exact absurd rfl zn)
   ·intro u hF;clear hF;unfold zb4;go_simp;exact zdb (cG.out _)
   apply zag (by kernel_rfl)
   ·intro u;unfold zae;go_simp;rfl
   apply zag (by kernel_rfl)
   ·intro u;unfold zae;go_simp;rfl
   apply zaU 1 (by kernel_rfl) (by rfl) (by decide) (fun he zn=>by have z0:(0:Int)=0:=he 0 (by decide);replace zn:G.e≠0:=zn;show (diTo X f r 3).e=G.e;exact EG.out zn)
   ·intro u hF;clear hF;unfold zb4;go_simp;exact cGm.out _
   apply zaU 2 (by kernel_rfl) (by rfl) (by decide) (fun he zn=>by have z0:(0:Int)=0:=he 0 (by decide);have z1:G.e=0:=he 1 (by decide);replace zn:DD.e≠0:=zn;show (diTo X f r 3).e=DD.e;exact ED.out z1 zn)
   ·intro u hF;clear hF;unfold zb4;go_simp;exact cD.out _
   apply zag (by kernel_rfl)
   ·intro u;unfold zae;go_simp;rfl
   apply zdA
   rotate_left
   ·rfl
   intro u hE hR hD
   have y0:Hid ((0:Int)=0):=Lib.hid (hE 0 (by decide))
   have y1:Hid (G.e=0):=Lib.hid (hE 1 (by decide))
   have y2:Hid (DD.e=0):=Lib.hid (hE 2 (by decide))
   clear hE
   clear hR hD
   refine zak (by rfl) ?_;unfold zav;go_simp
   refine zau ?_
   have g17:Grew z u.world:=gw
   go_wp2
   refine zon ?_
   intro z1 hz1
   have e5:q5≠b:=by omega
   have e54:q5≠q4:=by omega
   have e59:q5≠qs:=by omega
   have e57:q5≠q7:=by omega
   have e7:q7≠b:=by omega
   have e74:q7≠q4:=by omega
   have e79:q7≠qs:=by omega
   have e75:q7≠q5:=by omega
   have eb4:b≠q4:=by omega
   have eb9:b≠qs:=by omega
   have eb5:b≠q5:=by omega
   have eb7:b≠q7:=by omega
   have B1:=Lib.hid (show ButX b off w z1 by rw[hz1];exact ((Hbut.out.grew g17).new q5 _ _ (by omega)).new q5 _ _ (by omega))
   have F1:=Lib.hid (show zan z1 q4 [.int .i64 f.x.lo,.int .i64 f.x.hi,.int .i64 f.y.lo,.int .i64 f.y.hi,.int .i64 f.z.lo,.int .i64 f.z.hi] by rw[hz1];exact zah (zah (HB.out.grew ib4.lt g17) e54) e54)
   have S1:=Lib.hid (show zan z1 qs [.int .i64 sg.lo,.int .i64 sg.hi] by rw[hz1];exact zah (zah (HBS.out.grew ib9.lt g17) e59) e59)
   have D1:=Lib.hid (show XAt z1 q5 0 (x.d.put i DD.s) by rw[hz1];exact zh1 (HDA.out.grew g17) i hlt DD.s)
   have Q1:=Lib.hid (show XAt z1 q7 0 x.q by rw[hz1];exact zbu (zbu (HQA.out.grew g17) e57) e57)
   have P1:=Lib.hid (show XAt z1 b off x.pl by rw[hz1];exact zbu (zbu (HPA.out.grew g17) e5) e5)
   have HDD:=HD.out y1.out
   have dd0:=y2.out
   clear hz1 g17 HB HBS HDA HQA HPA Hbut fi0 fi1 di0 df0 di1 df1 qi0 qf0 qi1 qf1 qj0 qj1 qk0 qk1 pi0 pf0 pi1 pf1
   obtain ⟨⟨fi0,-⟩,fi1,-⟩:=zgN F1.out i hlt
   obtain ⟨⟨di0,-⟩,di1,-⟩:=zef D1.out i hlt
   rw[Bx.put_at _ _ _ hlt hlt,if_pos rfl] at di0 di1
   obtain ⟨⟨pi0,pf0⟩,pi1,pf1⟩:=P1.out i hlt
   obtain ⟨⟨qi0,qf0⟩,qi1,qf1⟩:=zef Q1.out i hlt
   have jb:BlockIn z1 b:=BlockIn.of_cell pi0
   have j4:BlockIn z1 q4:=BlockIn.of_cell fi0
   have j5:BlockIn z1 q5:=BlockIn.of_cell di0
   have j7:BlockIn z1 q7:=BlockIn.of_cell qi0
   have j9:BlockIn z1 qs:=BlockIn.of_cell (S1.out 0 _ rfl).1
   have a1:Apart q5 b:=⟨e5⟩
   have a2:Apart b q5:=⟨eb5⟩
   have a3:Apart q7 b:=⟨e7⟩
   have a4:Apart b q7:=⟨eb7⟩
   have a5:Apart q4 b:=⟨eb4.symm⟩
   have hP:=ds_P (f:=f) HDD dd0
   have cP:=Lib.hid (fun w=>ze6 DD.s (f.at i) w)
   have sPP:S64 (addR DD.s (f.at i)).s:=inferInstance
   generalize addR DD.s (f.at i)=PP at *
   have EP:=Lib.hid (fun h:PP.e≠0=>show (diTo X f r 3).e=PP.e by
    have e:(zbl x f sg i).e=PP.e:=(zoC (by rw[hP];exact h)).trans (by rw[hP])
    rw[Hst.out (by rw[e];exact h),e])
   have hM:=fun h=>ds_M hP h
   have sPl:S64 (x.pl.at i):=inferInstance
   have cM:=Lib.hid (fun w=>zcO (x.pl.at i) PP.s w)
   have sMM:S64 (zaG (x.pl.at i) PP.s).s:=inferInstance
   generalize zaG (x.pl.at i) PP.s=MM at *
   have cMm:=Lib.hid (fun w=>zaZ MM.s MM.e w)
   have EM:=Lib.hid (fun (h0:PP.e=0) (h:MM.e≠0)=>show (diTo X f r 3).e=MM.e by
    have e:(zbl x f sg i).e=MM.e:=(zoB (by rw[hM h0];exact h)).trans (by rw[hM h0])
    rw[Hst.out (by rw[e];exact h),e])
   have HMM:=Lib.hid hM
   have HDD2:=Lib.hid HDD
   clear hP hM HDD dd0
   refine za9 [PP.e,(0:Int),MM.e] (diTo X f r 3).e 20 [] [13,14,17] [] (fun W0=>[]) [.agg #[.int .i64 PP.s.lo,.int .i64 PP.s.hi],.tuple #[.agg #[.int .i64 MM.s.lo,.int .i64 MM.s.hi],.int .i64 MM.e],.agg #[.int .i64 MM.s.lo,.int .i64 MM.s.hi]] [20] (by rfl) (fun _ x hx=>absurd hx (List.not_mem_nil)) (by kernel_rfl) (by kernel_rfl) (by kernel_rfl) (fun htot u a hdf=>by exact ⟨hdf,za1 rfl htot (B1.out.grew gw)⟩) ?_
   intro p
   apply Exists.intro
   apply And.intro
   apply zag (by kernel_rfl)
   ·intro u;unfold zae;go_simp;rfl
   apply zag (by kernel_rfl)
   ·intro u;unfold zae;go_simp;rfl
   apply zag (by kernel_rfl)
   ·intro u;unfold zae;go_simp;rfl
   apply zag (by kernel_rfl)
   ·intro u;unfold zae;go_simp;rfl
   apply zag (by kernel_rfl)
   ·intro u;unfold zae;go_simp;rfl
   apply zag (by kernel_rfl)
   ·intro u;unfold zae;go_simp;rfl
   apply zag (by kernel_rfl)
   ·intro u;unfold zae;go_simp;rfl
   apply zag (by kernel_rfl)
   ·intro u;unfold zae;go_simp;rfl
   apply zag (by kernel_rfl)
   ·intro u;unfold zae;go_simp;rfl
   apply zag (by kernel_rfl)
   ·intro u;unfold zae;go_simp;rfl
   apply zag (by kernel_rfl)
   ·intro u;unfold zae;go_simp;rfl
   apply zag (by kernel_rfl)
   ·intro u;unfold zae;go_simp;rfl
   apply zag (by kernel_rfl)
   ·intro u;unfold zae;go_simp;rfl
   apply zaU 0 (by kernel_rfl) (by rfl) (by decide) (fun he zn=>by replace zn:PP.e≠0:=zn;show (diTo X f r 3).e=PP.e;exact EP.out zn)
   ·intro u hF;clear hF;unfold zb4;go_simp;exact cP.out _
   apply zaU 1 (by kernel_rfl) (by rfl) (by decide) (fun he zn=>by have z0:PP.e=0:=he 0 (by decide);replace zn:(0:Int)≠0:=zn;show (diTo X f r 3).e=(0:Int);exact absurd rfl zn)
   ·intro u hF;clear hF;unfold zb4;go_simp;exact zdb (cM.out _)
   apply zag (by kernel_rfl)
   ·intro u;unfold zae;go_simp;rfl
   apply zag (by kernel_rfl)
   ·intro u;unfold zae;go_simp;rfl
   apply zaU 2 (by kernel_rfl) (by rfl) (by decide) (fun he zn=>by have z0:PP.e=0:=he 0 (by decide);have z1:(0:Int)=0:=he 1 (by decide);replace zn:MM.e≠0:=zn;show (diTo X f r 3).e=MM.e;exact EM.out z0 zn)
   ·intro u hF;clear hF;unfold zb4;go_simp;exact cMm.out _
   apply zag (by kernel_rfl)
   ·intro u;unfold zae;go_simp;rfl
   apply zag (by kernel_rfl)
   ·intro u;unfold zae;go_simp;rfl
   apply zdA
   rotate_left
   ·rfl
   intro u hE hR hD
   have y0:Hid (PP.e=0):=Lib.hid (hE 0 (by decide))
   have y1:Hid ((0:Int)=0):=Lib.hid (hE 1 (by decide))
   have y2:Hid (MM.e=0):=Lib.hid (hE 2 (by decide))
   clear hE
   clear hR hD
   refine zak (by rfl) ?_;unfold zav;go_simp
   refine zau ?_
   have g18:Grew z1 u.world:=gw
   have cQ:=Lib.hid (fun w=>zb7 DD.s w)
   have hQ:=ds_Q (HMM.out y0.out) y2.out HDD2.out
   generalize zai DD.s=QQ at *
   have cQm:=Lib.hid (fun w=>zaZ QQ.s QQ.e w)
   have EQ:=Lib.hid (fun h:QQ.e≠0=>show (diTo X f r 3).e=QQ.e by
    have e:(zbl x f sg i).e=QQ.e:=by show (dsQ x f sg i).e=QQ.e;rw[hQ]
    rw[Hst.out (by rw[e];exact h),e])
   have Hnew:=Lib.hid (show diTo X f r (i+1)=⟨x.d.put i DD.s,x.q.put i QQ.s,x.pl.put i MM.s,QQ.e⟩ by
    rw[Hnx.out]
    unfold zbl
    rw[HDD2.out,hQ,HMM.out y0.out])
   clear hQ
   go_wp2_with (first|(go_at_call 131;(with_reducible refine zaa (cQ.out _) ?_);intro v19)|(go_at_call 129;(with_reducible refine za7 (cQm.out _) ?_ ?_);(· intro hz v;exact ⟨rfl,za1 (EQ.out hz.out) hz.out (((((B1.out.grew g18).put _ (by omega) _).put _ (by omega) _).later _).later _)⟩);intro k19 m19))
   go_roundw
   case rel=>
    refine ⟨i+1,_,rfl,by go_num,by omega,Lib.hid ⟨?_,?_,?_,?_,?_,?_,?_⟩⟩
    ·exact (((((((B1.out.grew g18).put _ (by omega) _).put _ (by omega) _).later _).later _).new q7 _ _ (by omega)).new q7 _ _ (by omega))
    ·exact zah (zah (((zah (zah (F1.out.grew j4.lt g18) eb4) eb4).grew (BlockIn.lt) v19.grew).grew (BlockIn.lt) m19.grew) e74) e74
    ·rw[Hsg.out]
     exact zah (zah (((zah (zah (S1.out.grew j9.lt g18) eb9) eb9).grew (BlockIn.lt) v19.grew).grew (BlockIn.lt) m19.grew) e79) e79
    ·rw[Hnew.out]
     exact zbu (zbu (((zbu (zbu (D1.out.grew g18) eb5) eb5).grew v19.grew).grew m19.grew) e75) e75
    ·rw[Hnew.out]
     exact zh1 (((zbu (zbu (Q1.out.grew g18) eb7) eb7).grew v19.grew).grew m19.grew) i hlt QQ.s
    ·rw[Hnew.out]
     exact zbu (zbu ((((P1.out.grew g18).put i hlt MM.s).grew v19.grew).grew m19.grew) e7) e7
    ·rw[Hnew.out]
     exact k19.out
   case measure=>simp[intOf];omega
  ·have hi3:i=3:=by omega
   have Hb:=Lib.hid HS.out.but
   have Hp:=Lib.hid HS.out.pAt
   have Hg:=Lib.hid HS.out.good
   rw[hi3] at Hp Hg
   have hd3:decide ((i:Int)<3)=false:=by simp;omega
   clear hi3 HS
   go_wp2
   go_end0
   exact ⟨by rw[Hg.out];rfl,Hb.out,fun _=>Hp.out⟩
end Go.Proofs.YtdkfkalplmgoeaaGreat
