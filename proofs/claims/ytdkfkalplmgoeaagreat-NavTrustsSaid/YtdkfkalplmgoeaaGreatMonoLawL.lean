/-
  Joined: NavSum, MonoFew, MonoLaw.
-/
import Derived.Test.YtdkfkalplmgoeaaGreatLexStopL
import Derived.Test.YtdkfkalplmgoeaaGreatNumAllL
namespace Go.Proofs.YtdkfkalplmgoeaaGreat
open Go.RowKit Go.Shelf
set_option maxRecDepth 100000
set_option maxHeartbeats 16000000
theorem zdb {P:Program} {f:FuncId} {args:Array Value} {w:World} {v:Value} (h:Calls P f args w fun e w'=>e=.returned v∧Grew w w'):Calls P f args w (zdH v 0 w):=h.mono fun e w' ⟨he,g⟩=>⟨by rw[he,if_pos rfl],g⟩
theorem zoa {a x:Bx} {r:Sp} {i:Nat} :
 ((mulR (a.at (oj i)) (x.at (oj i))).e≠0→(smn 0 a x r i).e=(mulR (a.at (oj i)) (x.at (oj i))).e)∧
 ((mulR (a.at (oj i)) (x.at (oj i))).e=0→(mulR (a.at (ok i)) (x.at (ok i))).e≠0→(smn 0 a x r i).e=(mulR (a.at (ok i)) (x.at (ok i))).e)∧
 ((mulR (a.at (oj i)) (x.at (oj i))).e=0→(mulR (a.at (ok i)) (x.at (ok i))).e=0→smn 0 a x r i=doR (addR (mulR (a.at (oj i)) (x.at (oj i))).s (mulR (a.at (ok i)) (x.at (ok i))).s).e (subR r (addR (mulR (a.at (oj i)) (x.at (oj i))).s (mulR (a.at (ok i)) (x.at (ok i))).s).s)):=by
 refine ⟨fun h=>?_,fun h1 h=>?_,fun h1 h2=>?_⟩
 ·have e1:(sm1 0 a x i).e=(mulR (a.at (oj i)) (x.at (oj i))).e:=rfl
  have e2:(sm2 0 a x i).e=_:=zaF _ (by rw[e1];exact h)
  have e3:(sms 0 a x i).e=_:=zaF _ (by rw[e2,e1];exact h)
  have e4:(smn 0 a x r i).e=_:=zaF _ (by rw[e3,e2,e1];exact h)
  rw[e4,e3,e2,e1]
 ·have e1:(sm1 0 a x i).e=0:=h1
  have e2:sm2 0 a x i=mulR (a.at (ok i)) (x.at (ok i)):=by unfold sm2;rw[e1,zb1]
  have e3:(sms 0 a x i).e=_:=zaF _ (by rw[e2];exact h)
  have e4:(smn 0 a x r i).e=_:=zaF _ (by rw[e3,e2];exact h)
  rw[e4,e3,e2]
 ·have e1:(sm1 0 a x i).e=0:=h1
  have e0:sm1 0 a x i=mulR (a.at (oj i)) (x.at (oj i)):=rfl
  have e2:sm2 0 a x i=mulR (a.at (ok i)) (x.at (ok i)):=by unfold sm2;rw[e1,zb1]
  have e3:sms 0 a x i=addR (mulR (a.at (oj i)) (x.at (oj i))).s (mulR (a.at (ok i)) (x.at (ok i))).s:=by unfold sms;rw[e2,h2,zb1,e0]
  unfold smn
  rw[e3]
theorem zhV (a X:Bx) (r:Sp) (i:Nat):zam 0 a X r (i+1)=zbd (zam 0 a X r i).2 a (zam 0 a X r i).1 r i:=rfl
theorem zpM {a X:Bx} {r:Sp} {i:Nat} (hi:i<3) (h0:(zam 0 a X r i).2=0) (h:(smn 0 a (zam 0 a X r i).1 r i).e≠0):(sumM 0 a X r).e=(smn 0 a (zam 0 a X r i).1 r i).e:=by
 have e:(zam 0 a X r (i+1)).2=(smn 0 a (zam 0 a X r i).1 r i).e:=by
  rw[zhV,h0]
  unfold zbd
  split
  ·exact zaF _ h
  ·rfl
 rw[zfh (i+1) (by omega) (by rw[e];exact h),e]
theorem zoe {a X:Bx} {r:Sp} {i:Nat} (h0:(zam 0 a X r i).2=0) (h1:(smn 0 a (zam 0 a X r i).1 r i).e=0) (h:(divR (smn 0 a (zam 0 a X r i).1 r i).s (a.at i)).e≠0):zam 0 a X r (i+1)=((zam 0 a X r i).1,0):=by
 rw[zhV,h0]
 unfold zbd
 rw[if_neg h,h1]
theorem zpN {a X:Bx} {r:Sp} {i:Nat} (h0:(zam 0 a X r i).2=0) (h1:(smn 0 a (zam 0 a X r i).1 r i).e=0) (h:(divR (smn 0 a (zam 0 a X r i).1 r i).s (a.at i)).e=0) :
 zam 0 a X r (i+1)=((zam 0 a X r i).1.put i (zaG ((zam 0 a X r i).1.at i) (divR (smn 0 a (zam 0 a X r i).1 r i).s (a.at i)).s).s,(zaG ((zam 0 a X r i).1.at i) (divR (smn 0 a (zam 0 a X r i).1 r i).s (a.at i)).s).e):=by
 rw[zhV,h0]
 unfold zbd
 rw[if_pos h]
 unfold smt
 rw[h1,zb1]
structure SumAt (a X:Bx) (r:Sp) (b off:Nat) (w:World) (q3 q5:Nat) (i:Nat) (wr:World):Prop where
 but:ButX b off w wr
 boxA:zan wr q3 [.int .i64 a.x.lo,.int .i64 a.x.hi,.int .i64 a.y.lo,.int .i64 a.y.hi,.int .i64 a.z.lo,.int .i64 a.z.hi]
 boxR:zan wr q5 [.int .i64 r.lo,.int .i64 r.hi]
 at_:XAt wr b off (zam 0 a X r i).1
 good:(zam 0 a X r i).2=0
theorem zgN {w:World} {q:Nat} {a:Bx} (h:zan w q [.int .i64 a.x.lo,.int .i64 a.x.hi,.int .i64 a.y.lo,.int .i64 a.y.hi,.int .i64 a.z.lo,.int .i64 a.z.hi]) (j:Nat) (hj:j<3):(w.cell? ⟨q,j*2,none⟩=some (.int .i64 (a.at j).lo)∧w.frozen? ⟨q,j*2,none⟩=false)∧w.cell? ⟨q,j*2+1,none⟩=some (.int .i64 (a.at j).hi)∧w.frozen? ⟨q,j*2+1,none⟩=false:=by
 match j,hj with
 |0,_=>exact ⟨h 0 _ rfl,h 1 _ rfl⟩
 |1,_=>exact ⟨h 2 _ rfl,h 3 _ rfl⟩
 |2,_=>exact ⟨h 4 _ rfl,h 5 _ rfl⟩
theorem ziS {w:World} {b off:Nat} {X:Bx} (h:XAt w b off X):w.cell? ⟨b,off,none⟩=some (.int .i64 X.x.lo)∧w.cell? ⟨b,off+1,none⟩=some (.int .i64 X.x.hi)∧w.cell? ⟨b,off+2,none⟩=some (.int .i64 X.y.lo)∧
 w.cell? ⟨b,off+3,none⟩=some (.int .i64 X.y.hi)∧w.cell? ⟨b,off+4,none⟩=some (.int .i64 X.z.lo)∧w.cell? ⟨b,off+5,none⟩=some (.int .i64 X.z.hi):=
 ⟨(h 0 (by omega)).1.1,(h 0 (by omega)).2.1,(h 1 (by omega)).1.1,(h 1 (by omega)).2.1,(h 2 (by omega)).1.1,(h 2 (by omega)).2.1⟩
theorem SumAt.stay {a X:Bx} {r:Sp} {b off:Nat} {w z W:World} {q3 q5 i:Nat} {Y:Bx} (but:ButX b off w z) (bA:zan z q3 [.int .i64 a.x.lo,.int .i64 a.x.hi,.int .i64 a.y.lo,.int .i64 a.y.hi,.int .i64 a.z.lo,.int .i64 a.z.hi]) (bR:zan z q5 [.int .i64 r.lo,.int .i64 r.hi]) (hat:XAt z b off Y) (h:zam 0 a X r (i+1)=(Y,0)) (g:Grew z W):SumAt a X r b off w q3 q5 (i+1) W:=
 ⟨but.grew g,bA.grew (World.block_lt_of_cell? _ _ (bA 0 _ rfl).1) g,bR.grew (World.block_lt_of_cell? _ _ (bR 0 _ rfl).1) g,by rw[h];exact hat.grew g,by rw[h]⟩
theorem SumAt.put {a X:Bx} {r:Sp} {b off:Nat} {w z W:World} {q3 q5 i:Nat} {Y:Bx} {v:Sp} (hi:i<3) (h3:q3≠b) (h5:q5≠b) (but:ButX b off w z) (bA:zan z q3 [.int .i64 a.x.lo,.int .i64 a.x.hi,.int .i64 a.y.lo,.int .i64 a.y.hi,.int .i64 a.z.lo,.int .i64 a.z.hi]) (bR:zan z q5 [.int .i64 r.lo,.int .i64 r.hi]) (hat:XAt z b off Y) (h:zam 0 a X r (i+1)=(Y.put i v,0)) (g:Grew z W) :
 SumAt a X r b off w q3 q5 (i+1) ((W.setCell ⟨b,off+i*2,none⟩ (.int .i64 v.lo)).setCell ⟨b,off+i*2+1,none⟩ (.int .i64 v.hi)):=by
 have k1:ButX b off w W:=but.grew g
 have hbW:=Nat.lt_of_lt_of_le k1.lt k1.size
 have k2:ButX b off W ((W.setCell ⟨b,off+i*2,none⟩ (.int .i64 v.lo)).setCell ⟨b,off+i*2+1,none⟩ (.int .i64 v.hi)):=((ButX.refl hbW).put _ (by omega) _).put _ (by omega) _
 have lA:q3<z.heap.size:=World.block_lt_of_cell? _ _ (bA 0 _ rfl).1
 have lR:q5<z.heap.size:=World.block_lt_of_cell? _ _ (bR 0 _ rfl).1
 have hs:=Below.size g
 exact ⟨k1.trans k2,(bA.grew lA g).butx k2 (by omega) h3,(bR.grew lR g).butx k2 (by omega) h5,by rw[h];exact (hat.grew g).put i hi v,by rw[h]⟩
theorem za1 {b off:Nat} {X:Bx} {c c':Int} {w w':World} (he:c'=c) (hc:c≠0) (g:ButX b off w w'):zes b off X c' w (zcn c) w':=by
 subst he
 exact ⟨by rw[if_neg hc],g,fun h=>absurd h hc⟩
theorem zfQ (a X:Bx) (r:Sp) [ha:B64 a] [hX:B64 X] [hr:S64 r] (b off:Nat) (w:World) (hx:XAt w b off X) :
 Calls Tryz.prog 79 #[.agg #[.int .i64 a.x.lo,.int .i64 a.x.hi,.int .i64 a.y.lo,.int .i64 a.y.hi,.int .i64 a.z.lo,.int .i64 a.z.hi],.pointer (some ⟨b,off,none⟩),.agg #[.int .i64 r.lo,.int .i64 r.hi]] w (zes b off (zam 0 a X r 3).1 (sumM 0 a X r).e w):=by
 have hb:=World.block_lt_of_cell? w _ (hx 0 (by omega)).1.1
 have HX:=Lib.hid hx
 clear hx
 go_enter Tryz.func79,Tryz.ntmps79
 go_wp2
 have H0:=Lib.hid (show SumAt a X r b off w w.heap.size (w.heap.size+1) 0 ((w.alloc (.cells #[.int .i64 a.x.lo,.int .i64 a.x.hi,.int .i64 a.y.lo,.int .i64 a.y.hi,.int .i64 a.z.lo,.int .i64 a.z.hi] 26)).alloc (.cells #[.int .i64 r.lo,.int .i64 r.hi] 24)) from
  ⟨.of_grew hb gw,(zev w [.int .i64 a.x.lo,.int .i64 a.x.hi,.int .i64 a.y.lo,.int .i64 a.y.hi,.int .i64 a.z.lo,.int .i64 a.z.hi] _).grew (by simp) gw,zi0 [.int .i64 r.lo,.int .i64 r.hi] _,HX.out.grew gw,rfl⟩)
 have hn3:w.heap.size≤w.heap.size:=Nat.le_refl _
 have hn5:w.heap.size≤w.heap.size+1:=by omega
 generalize hq3:w.heap.size=q3 at *
 generalize hq5:q3+1=q5 at *
 clear hq5
 go_loopw [12] (fun t wr=>∃ (i:Nat) (z:World),z=wr∧t=.int .i64 i∧i≤3∧Hid (SumAt a X r b off w q3 q5 i wr)) (fun t _=>3-(intOf t).toNat)
 case atStart=>exact ⟨0,_,rfl,rfl,by omega,H0⟩
 case round=>
  obtain ⟨i,z,rfl,rfl,hi,HS⟩:=hrel
  have ib:BlockIn z b:=⟨Nat.lt_of_lt_of_le HS.out.but.lt HS.out.but.size⟩
  have ib3:BlockIn z q3:=BlockIn.of_cell (HS.out.boxA 0 _ rfl).1
  have ib5:BlockIn z q5:=BlockIn.of_cell (HS.out.boxR 0 _ rfl).1
  by_cases hlt:i<3
  ·obtain ⟨but,bA,bR,hat,h0⟩:=HS.out
   obtain ⟨⟨aj0,-⟩,aj1,-⟩:=zgN bA (oj i) (zmh i)
   obtain ⟨⟨ak0,-⟩,ak1,-⟩:=zgN bA (ok i) (zmi i hlt)
   obtain ⟨⟨ai0,-⟩,ai1,-⟩:=zgN bA i hlt
   obtain ⟨⟨xj0,-⟩,xj1,-⟩:=hat (oj i) (zmh i)
   obtain ⟨⟨xk0,-⟩,xk1,-⟩:=hat (ok i) (zmi i hlt)
   obtain ⟨⟨xi0,xf0⟩,xi1,xf1⟩:=hat i hlt
   have Hbut:=Lib.hid but
   have Hat:=Lib.hid hat
   have HbA:=Lib.hid bA
   have HbR:=Lib.hid bR
   have bR_0:=(bR 0 _ rfl).1
   have bRf0:=(bR 0 _ rfl).2
   have bRi0:HasCell (z) (q5) 0:=⟨_,bR_0⟩
   have bR_1:=(bR 1 _ rfl).1
   have bRf1:=(bR 1 _ rfl).2
   have bRi1:HasCell (z) (q5) 1:=⟨_,bR_1⟩
   have bRb:BlockIn (z) (q5):=BlockIn.of_cell bR_0
   clear bR
   have jl:=zmh i
   have kl:=zmi i hlt
   have jl':((oj i:Nat):Int)<3:=by omega
   have kl':((ok i:Nat):Int)<3:=by omega
   have il':(i:Int)<3:=by omega
   have sX:=zbP 0 a X r i
   have hbad:=Lib.hid (fun h=>zpM (a:=a) (X:=X) (r:=r) hlt h0 h)
   have hskip:=Lib.hid (fun h1 h=>zoe (a:=a) (X:=X) (r:=r) (i:=i) h0 h1 h)
   have hput:=Lib.hid (fun h1 h=>zpN (a:=a) (X:=X) (r:=r) (i:=i) h0 h1 h)
   obtain ⟨n1,n2,n3⟩:=@zoa a (zam 0 a X r i).1 r i
   have N1:=Lib.hid n1
   have N2:=Lib.hid n2
   have N3:=Lib.hid n3
   have HO:=Lib.hid (fun w=>zgZ i hlt w)
   clear but bA hat n1 n2 n3 h0
   generalize (zam 0 a X r i).1=Y at *
   generalize oj i=j at *
   generalize ok i=k at *
   have sP:S64 (mulR (a.at j) (Y.at j)).s:=inferInstance
   have sQ:S64 (mulR (a.at k) (Y.at k)).s:=inferInstance
   have sY:S64 (Y.at i):=inferInstance
   have HP:=Lib.hid (fun w=>ze7 (a.at j) (Y.at j) w)
   have HQ:=Lib.hid (fun w=>ze7 (a.at k) (Y.at k) w)
   have HS1:=Lib.hid (fun w=>ze6 (mulR (a.at j) (Y.at j)).s (mulR (a.at k) (Y.at k)).s w)
   have HS2:=Lib.hid (fun w=>zdq r (addR (mulR (a.at j) (Y.at j)).s (mulR (a.at k) (Y.at k)).s).s w)
   have HD:=Lib.hid (fun w=>zmP (subR r (addR (mulR (a.at j) (Y.at j)).s (mulR (a.at k) (Y.at k)).s).s).s (a.at i) w)
   have sD:S64 (subR r (addR (mulR (a.at j) (Y.at j)).s (mulR (a.at k) (Y.at k)).s).s).s:=inferInstance
   generalize mulR (a.at j) (Y.at j)=P at *
   generalize mulR (a.at k) (Y.at k)=Q at *
   generalize addR P.s Q.s=S at *
   generalize subR r S.s=D at *
   go_wp2_with (first|(go_at_call 132;(with_reducible refine zaa (HO.out _) ?_);intro u1))
   refine za9 [P.e,Q.e,S.e,D.e] (sumM 0 a X r).e 22 [21] [9,18,19,20] [] (fun W0=>[(21,BoxR W0 [.int .i64 0,.int .i64 0])]) [.agg #[.int .i64 P.s.lo,.int .i64 P.s.hi],.agg #[.int .i64 Q.s.lo,.int .i64 Q.s.hi],.agg #[.int .i64 S.s.lo,.int .i64 S.s.hi],.agg #[.int .i64 D.s.lo,.int .i64 D.s.hi]] [22] (by rfl) (by intro W0 x hx;simp only[List.mem_cons,List.not_mem_nil,or_false] at hx;rcases hx with rfl;exact zbW _ _) (by kernel_rfl) (by kernel_rfl) (by kernel_rfl) (fun htot u a hdf=>by exact ⟨hdf,za1 rfl htot (Hbut.out.grew gw)⟩) ?_
   intro p
   apply Exists.intro
   apply And.intro
   apply zag (by kernel_rfl)
   ·intro u;unfold zae;go_simp;rfl
   apply zag (by kernel_rfl)
   ·intro u;unfold zae;go_simp;rfl
   apply zag (by kernel_rfl)
   ·intro u;unfold zae;go_simp;rfl
   apply zag (by kernel_rfl)
   ·intro u;unfold zae;go_simp;rfl
   apply zag (by kernel_rfl)
   ·intro u;unfold zae;go_simp;rfl
   apply zag (by kernel_rfl)
   ·intro u;unfold zae;go_simp;rfl
   apply zag (by kernel_rfl)
   ·intro u;unfold zae;go_simp;rfl
   apply zag (by kernel_rfl)
   ·intro u;unfold zae;go_simp;rfl
   apply zag (by kernel_rfl)
   ·intro u;unfold zae;go_simp;rfl
   apply zaU 0 (by kernel_rfl) (by rfl) (by decide) (fun he zn=>by replace zn:P.e≠0:=zn;show (sumM 0 a X r).e=P.e;(have e:=N1.out zn;rw[hbad.out (by rw[e];exact zn),e]))
   ·intro u hF;clear hF;unfold zb4;go_simp;exact HP.out _
   apply zag (by kernel_rfl)
   ·intro u;unfold zae;go_simp;rfl
   apply zag (by kernel_rfl)
   ·intro u;unfold zae;go_simp;rfl
   apply zag (by kernel_rfl)
   ·intro u;unfold zae;go_simp;rfl
   apply zag (by kernel_rfl)
   ·intro u;unfold zae;go_simp;rfl
   apply zag (by kernel_rfl)
   ·intro u;unfold zae;go_simp;rfl
   apply zag (by kernel_rfl)
   ·intro u;unfold zae;go_simp;rfl
   apply zag (by kernel_rfl)
   ·intro u;unfold zae;go_simp;rfl
   apply zag (by kernel_rfl)
   ·intro u;unfold zae;go_simp;rfl
   apply zaU 1 (by kernel_rfl) (by rfl) (by decide) (fun he zn=>by have z0:P.e=0:=he 0 (by decide);replace zn:Q.e≠0:=zn;show (sumM 0 a X r).e=Q.e;(have e:=N2.out z0 zn;rw[hbad.out (by rw[e];exact zn),e]))
   ·intro u hF;clear hF;unfold zb4;go_simp;exact HQ.out _
   apply zaU 2 (by kernel_rfl) (by rfl) (by decide) (fun he zn=>by have z0:P.e=0:=he 0 (by decide);have z1:Q.e=0:=he 1 (by decide);replace zn:S.e≠0:=zn;show (sumM 0 a X r).e=S.e;(have e:(smn 0 a Y r i).e=S.e:=(congrArg Res.e (N3.out z0 z1)).trans (zaF _ zn);rw[hbad.out (by rw[e];exact zn),e]))
   ·intro u hF;clear hF;unfold zb4;go_simp;exact HS1.out _
   apply zaU 3 (by kernel_rfl) (by rfl) (by decide) (fun he zn=>by have z0:P.e=0:=he 0 (by decide);have z1:Q.e=0:=he 1 (by decide);have z2:S.e=0:=he 2 (by decide);replace zn:D.e≠0:=zn;show (sumM 0 a X r).e=D.e;(have e:(smn 0 a Y r i).e=D.e:=(by rw[N3.out z0 z1,z2,zb1]);rw[hbad.out (by rw[e];exact zn),e]))
   ·intro u hF;clear hF;unfold zb4;go_simp;exact HS2.out _
   apply zf8 (by kernel_rfl)
   ·intro u hF;clear hF;unfold za6;go_simp;exact zbX _ _ _ _
   apply zdA
   rotate_left
   ·rfl
   intro u hE hR hD
   have y0:Hid (P.e=0):=Lib.hid (hE 0 (by decide))
   have y1:Hid (Q.e=0):=Lib.hid (hE 1 (by decide))
   have y2:Hid (S.e=0):=Lib.hid (hE 2 (by decide))
   have y3:Hid (D.e=0):=Lib.hid (hE 3 (by decide))
   clear hE
   obtain ⟨q21,e21,hB21,kB21,nB21⟩:=(show BoxR _ [.int .i64 0,.int .i64 0] (p 21) u.world from hR 21 (by decide))
   clear hR hD
   rw[e21]
   clear e21
   have oB21:=zaO nB21
   have oC21:=zaP nB21
   have nC21:NewFor z q21:=⟨Nat.le_trans (Grew.size gw) nB21.le⟩
   have hB21_0:=(hB21 0 _ rfl).1
   have hB21f0:=(hB21 0 _ rfl).2
   have hB21i0:HasCell (u.world) (q21) 0:=⟨_,hB21_0⟩
   have hB21_1:=(hB21 1 _ rfl).1
   have hB21f1:=(hB21 1 _ rfl).2
   have hB21i1:HasCell (u.world) (q21) 1:=⟨_,hB21_1⟩
   have hB21b:BlockIn (u.world) (q21):=BlockIn.of_cell hB21_0
   clear hB21
   refine zak (by rfl) ?_;unfold zav;go_simp
   refine zau ?_
   have hN:smn 0 a Y r i=D:=by rw[N3.out y0.out y1.out,y2.out,zb1]
   rw[hN] at hskip hput
   clear N1 N2 N3 hbad HP HQ HS1 HS2 HO hN
   have sI:S64 (a.at i):=inferInstance
   have HM:=Lib.hid (fun w=>zcO (Y.at i) (divR D.s (a.at i)).s w)
   have Hadv:=Lib.hid (fun (h1:D.e=0) (h:(divR D.s (a.at i)).e=0) (h2:(zaG (Y.at i) (divR D.s (a.at i)).s).e≠0)=>show (sumM 0 a X r).e=(zaG (Y.at i) (divR D.s (a.at i)).s).e by
    have e:=hput.out h1 h
    rw[zfh (i+1) (by omega) (by rw[e];exact h2),e])
   replace hput:=Lib.hid (hput.out y3.out)
   replace hskip:=Lib.hid (hskip.out y3.out)
   replace Hadv:=Lib.hid (Hadv.out y3.out)
   generalize divR D.s (a.at i)=dq at *
   generalize zaG (Y.at i) dq.s=M at *
   have HMu:=Lib.hid (fun w=>zaZ M.s M.e w)
   by_cases hq:dq.e=0
   ·have hput2:=Lib.hid (hput.out hq)
    have hadv2:=Lib.hid (Hadv.out hq)
    have hq':(dq.e==0)=true:=by simp[hq]
    clear hq hput hskip Hadv
    go_wp2
    go_region_held3 (fun w'=>w'.cell? ⟨q21,0,none⟩=some (.int .i64 D.s.lo)∧w'.cell? ⟨q21,1,none⟩=some (.int .i64 D.s.hi)∧w'.cell? ⟨q3,i*2,none⟩=some (.int .i64 (a.at i).lo)∧w'.cell? ⟨q3,i*2+1,none⟩=some (.int .i64 (a.at i).hi)) (first|exact ⟨(by go_simp),(by go_simp),(by go_simp),(by go_simp)⟩) (first|(go_at_call 137;(with_reducible refine zaa (HD.out _) ?_);intro u6))
    all_goals go_wp2
    all_goals
     refine za9 [(0:Int),M.e] (sumM 0 a X r).e 14 [] [8,11] [] (fun W0=>[]) [.tuple #[.agg #[.int .i64 M.s.lo,.int .i64 M.s.hi],.int .i64 M.e],.agg #[.int .i64 M.s.lo,.int .i64 M.s.hi]] [14] (by rfl) (fun _ x hx=>absurd hx (List.not_mem_nil)) (by kernel_rfl) (by kernel_rfl) (by kernel_rfl) (fun htot u a hdf=>by exact ⟨hdf,za1 rfl htot (Hbut.out.grew gw)⟩) ?_
     intro p
     apply Exists.intro
     apply And.intro
     apply zag (by kernel_rfl)
     ·intro u;unfold zae;go_simp;rfl
     apply zag (by kernel_rfl)
     ·intro u;unfold zae;go_simp;rfl
     apply zag (by kernel_rfl)
     ·intro u;unfold zae;go_simp;rfl
     apply zag (by kernel_rfl)
     ·intro u;unfold zae;go_simp;rfl
     apply zag (by kernel_rfl)
     ·intro u;unfold zae;go_simp;rfl
     apply zag (by kernel_rfl)
     ·intro u;unfold zae;go_simp;rfl
     apply zag (by kernel_rfl)
     ·intro u;unfold zae;go_simp;rfl
     apply zag (by kernel_rfl)
     ·intro u;unfold zae;go_simp;rfl
     apply zaU 0 (by kernel_rfl) (by rfl) (by decide) (fun he zn=>by replace zn:(0:Int)≠0:=zn;show (sumM 0 a X r).e=(0:Int);exact absurd rfl zn)
     ·intro u hF;clear hF;unfold zb4;go_simp;exact zdb (HM.out _)
     apply zag (by kernel_rfl)
     ·intro u;unfold zae;go_simp;rfl
     apply zag (by kernel_rfl)
     ·intro u;unfold zae;go_simp;rfl
     apply zaU 1 (by kernel_rfl) (by rfl) (by decide) (fun he zn=>by have z0:(0:Int)=0:=he 0 (by decide);replace zn:M.e≠0:=zn;show (sumM 0 a X r).e=M.e;exact hadv2.out zn)
     ·intro u hF;clear hF;unfold zb4;go_simp;exact HMu.out _
     apply zag (by kernel_rfl)
     ·intro u;unfold zae;go_simp;rfl
     apply zag (by kernel_rfl)
     ·intro u;unfold zae;go_simp;rfl
     apply zdA
     rotate_left
     ·rfl
     intro u hE hR hD
     have y0:Hid ((0:Int)=0):=Lib.hid (hE 0 (by decide))
     have y1:Hid (M.e=0):=Lib.hid (hE 1 (by decide))
     clear hE
     clear hR hD
     refine zak (by rfl) ?_;unfold zav;go_simp
     refine zau ?_
     go_wp2
     have g8:Grew z u.world:=gw
     have hp:=hput2.out
     rw[y1.out] at hp
     go_roundw
     case rel=>exact ⟨i+1,_,rfl,by go_num,by omega,Lib.hid (SumAt.put hlt (by omega) (by omega) Hbut.out HbA.out HbR.out Hat.out hp g8)⟩
     case measure=>simp[intOf];omega
   ·have hskip2:=Lib.hid (hskip.out hq)
    have hq':(dq.e==0)=false:=by simp[hq]
    clear hq hput hskip Hadv
    go_wp2
    go_region_held3 (fun w'=>w'.cell? ⟨q21,0,none⟩=some (.int .i64 D.s.lo)∧w'.cell? ⟨q21,1,none⟩=some (.int .i64 D.s.hi)∧w'.cell? ⟨q3,i*2,none⟩=some (.int .i64 (a.at i).lo)∧w'.cell? ⟨q3,i*2+1,none⟩=some (.int .i64 (a.at i).hi)) (first|exact ⟨(by go_simp),(by go_simp),(by go_simp),(by go_simp)⟩) (first|(go_at_call 137;(with_reducible refine zaa (HD.out _) ?_);intro u6))
    all_goals go_wp2
    all_goals
     go_roundw
     case rel=>exact ⟨i+1,_,rfl,by go_num,by omega,Lib.hid (SumAt.stay Hbut.out HbA.out HbR.out Hat.out hskip2.out gw)⟩
     case measure=>simp[intOf];omega
  ·obtain ⟨but,bA,bR,hat,h0⟩:=HS.out
   have hi3:decide ((i:Int)<3)=false:=by simp;omega
   have hi:i=3:=by omega
   rw[hi] at hat h0
   clear hi
   have Hbut:=Lib.hid but
   have Hat:=Lib.hid hat
   have bA_0:=(bA 0 _ rfl).1
   have bAf0:=(bA 0 _ rfl).2
   have bAi0:HasCell (z) (q3) 0:=⟨_,bA_0⟩
   have bA_1:=(bA 1 _ rfl).1
   have bAf1:=(bA 1 _ rfl).2
   have bAi1:HasCell (z) (q3) 1:=⟨_,bA_1⟩
   have bA_2:=(bA 2 _ rfl).1
   have bAf2:=(bA 2 _ rfl).2
   have bAi2:HasCell (z) (q3) 2:=⟨_,bA_2⟩
   have bA_3:=(bA 3 _ rfl).1
   have bAf3:=(bA 3 _ rfl).2
   have bAi3:HasCell (z) (q3) 3:=⟨_,bA_3⟩
   have bA_4:=(bA 4 _ rfl).1
   have bAf4:=(bA 4 _ rfl).2
   have bAi4:HasCell (z) (q3) 4:=⟨_,bA_4⟩
   have bA_5:=(bA 5 _ rfl).1
   have bAf5:=(bA 5 _ rfl).2
   have bAi5:HasCell (z) (q3) 5:=⟨_,bA_5⟩
   have bAb:BlockIn (z) (q3):=BlockIn.of_cell bA_0
   clear bA
   have bR_0:=(bR 0 _ rfl).1
   have bRf0:=(bR 0 _ rfl).2
   have bRi0:HasCell (z) (q5) 0:=⟨_,bR_0⟩
   have bR_1:=(bR 1 _ rfl).1
   have bRf1:=(bR 1 _ rfl).2
   have bRi1:HasCell (z) (q5) 1:=⟨_,bR_1⟩
   have bRb:BlockIn (z) (q5):=BlockIn.of_cell bR_0
   clear bR
   obtain ⟨x0,x1,x2,x3,x4,x5⟩:=ziS hat
   have sY:=zbP 0 a X r 3
   have sT:S64 (zbn a (zam 0 a X r 3).1).s:=inferInstance
   have HT:=Lib.hid (fun w=>zkS a (zam 0 a X r 3).1 w)
   have HM:=Lib.hid (fun w=>zcO (zbn a (zam 0 a X r 3).1).s r w)
   have eD:sumD 0 a X r=zbn a (zam 0 a X r 3).1:=by unfold sumD;rw[h0,zb1]
   have E1:=Lib.hid (fun h:(zbn a (zam 0 a X r 3).1).e≠0=>show (sumM 0 a X r).e=(zbn a (zam 0 a X r 3).1).e by rw[ziN (by rw[eD];exact h),eD])
   have E2:=Lib.hid (fun h:(zbn a (zam 0 a X r 3).1).e=0=>show sumM 0 a X r=zaG (zbn a (zam 0 a X r 3).1).s r by unfold sumM;rw[eD,h,zb1])
   clear but hat h0 eD HS
   generalize (zam 0 a X r 3).1=Y at *
   generalize zbn a Y=T at *
   generalize zaG T.s r=M at *
   have HMu:=Lib.hid (fun w=>zaZ M.s M.e w)
   go_wp2
   refine za9 [T.e,(0:Int),M.e] (sumM 0 a X r).e 10 [] [4,6,9] [] (fun W0=>[]) [.agg #[.int .i64 T.s.lo,.int .i64 T.s.hi],.tuple #[.agg #[.int .i64 M.s.lo,.int .i64 M.s.hi],.int .i64 M.e],.agg #[.int .i64 M.s.lo,.int .i64 M.s.hi]] [] (by rfl) (fun _ x hx=>absurd hx (List.not_mem_nil)) (by kernel_rfl) (by kernel_rfl) (by kernel_rfl) (fun htot u a hdf=>by exact ⟨hdf,za1 rfl htot (Hbut.out.grew gw)⟩) ?_
   intro p
   apply Exists.intro
   apply And.intro
   apply zag (by kernel_rfl)
   ·intro u;unfold zae;go_simp;rfl
   apply zag (by kernel_rfl)
   ·intro u;unfold zae;go_simp;rfl
   apply zag (by kernel_rfl)
   ·intro u;unfold zae;go_simp;rfl
   apply zag (by kernel_rfl)
   ·intro u;unfold zae;go_simp;rfl
   apply zaU 0 (by kernel_rfl) (by rfl) (by decide) (fun he zn=>by replace zn:T.e≠0:=zn;show (sumM 0 a X r).e=T.e;exact E1.out zn)
   ·intro u hF;clear hF;unfold zb4;go_simp;exact HT.out _
   apply zag (by kernel_rfl)
   ·intro u;unfold zae;go_simp;rfl
   apply zaU 1 (by kernel_rfl) (by rfl) (by decide) (fun he zn=>by have z0:T.e=0:=he 0 (by decide);replace zn:(0:Int)≠0:=zn;show (sumM 0 a X r).e=(0:Int);exact absurd rfl zn)
   ·intro u hF;clear hF;unfold zb4;go_simp;exact zdb (HM.out _)
   apply zag (by kernel_rfl)
   ·intro u;unfold zae;go_simp;rfl
   apply zag (by kernel_rfl)
   ·intro u;unfold zae;go_simp;rfl
   apply zaU 2 (by kernel_rfl) (by rfl) (by decide) (fun he zn=>by have z0:T.e=0:=he 0 (by decide);have z1:(0:Int)=0:=he 1 (by decide);replace zn:M.e≠0:=zn;show (sumM 0 a X r).e=M.e;rw[E2.out z0])
   ·intro u hF;clear hF;unfold zb4;go_simp;exact HMu.out _
   apply zdA
   rotate_left
   ·rfl
   intro u hE hR hD
   have y0:Hid (T.e=0):=Lib.hid (hE 0 (by decide))
   have y1:Hid ((0:Int)=0):=Lib.hid (hE 1 (by decide))
   have y2:Hid (M.e=0):=Lib.hid (hE 2 (by decide))
   clear hE
   clear hR hD
   refine zau ?_
   have g9:Grew z u.world:=gw
   have e0:(sumM 0 a X r).e=0:=by rw[E2.out y0.out];exact y2.out
   go_wp2
   go_end0
   exact ⟨by first|rfl|simp,Hbut.out.grew g9,fun _=>Hat.out.grew g9⟩
end Go.Proofs.YtdkfkalplmgoeaaGreat
namespace Go.Proofs.YtdkfkalplmgoeaaGreat
open Go.RowKit
def Wi (a b:Sp):Prop:=b.lo≤a.lo∧a.hi≤b.hi
theorem Wi.refl (a:Sp):Wi a a:=⟨Int.le_refl _,Int.le_refl _⟩
theorem Wi.trans {a b c:Sp} (h:Wi a b) (k:Wi b c):Wi a c:=⟨Int.le_trans k.1 h.1,Int.le_trans h.2 k.2⟩
theorem zjY {x y:Int} (h:(fitR x y).e=0):fitR x y=⟨⟨x,y⟩,0⟩∧(-9223372036854775807≤x∧x≤9223372036854775807)∧-9223372036854775807≤y∧y≤9223372036854775807:=by
 unfold fitR at *
 split at h
 ·rename_i h1
  rw[if_pos h1]
  unfold ze2 at h1
  simp at h1
  exact ⟨rfl,h1.1,h1.2⟩
 ·exact absurd h (by decide)
theorem zql {a:Sp} (h:a.okB=true):a.lo≤a.hi:=by
 unfold Sp.okB at h
 simp at h
 exact h.2
theorem add_zero {a b:Sp} (h:(addR a b).e=0):a.okB=true∧b.okB=true∧addR a b=⟨⟨a.lo+b.lo,a.hi+b.hi⟩,0⟩:=by
 unfold addR at *
 split at h
 ·rename_i h1
  rw[if_pos h1]
  simp at h1
  exact ⟨h1.1,h1.2,(zjY h).1⟩
 ·exact absurd h (by decide)
theorem mul_zero {a b:Sp} (h:(mulR a b).e=0):a.okB=true∧b.okB=true∧mulR a b=⟨⟨zbY (min4 (a.lo*b.lo) (a.lo*b.hi) (a.hi*b.lo) (a.hi*b.hi)) 4294967296,upZ (max4 (a.lo*b.lo) (a.lo*b.hi) (a.hi*b.lo) (a.hi*b.hi)) 4294967296⟩,0⟩:=by
 unfold mulR at *
 split at h
 ·rename_i h1
  rw[if_pos h1]
  simp at h1
  exact ⟨h1.1,h1.2,(zjY h).1⟩
 ·exact absurd h (by decide)
theorem zeq {a:Sp} (h:(zai a).e=0):a.okB=true∧zai a=mulR (absS a) (absS a):=by
 unfold zai at *
 split at h
 ·rename_i h1
  rw[if_pos h1]
  exact ⟨h1,rfl⟩
 ·exact absurd h (by decide)
theorem zlc (k:Nat) (r x:Int) (h0:0≤r) (h1:r*r≤x) (h2:x<(r+2^k)*(r+2^k)):0≤zbG k r x∧zbG k r x*zbG k r x≤x∧x<(zbG k r x+1)*(zbG k r x+1):=by
 induction k generalizing r with
 |zero=>exact ⟨h0,h1,h2⟩
 |succ k ih=>
  unfold zbG
  have hp:(0:Int)<2^k:=Int.pow_pos (by decide)
  have e:(2:Int)^(k+1)=2^k+2^k:=by rw[Int.pow_succ];omega
  rw[e] at h2
  split
  ·exact ih _ (by omega) (by assumption) (by rw[Int.add_assoc];exact h2)
  ·exact ih _ h0 h1 (by omega)
theorem zeO (x:Int) (h0:0≤x) (h1:x<316912650057057350374175801344):0≤zaW x∧zaW x*zaW x≤x∧x<(zaW x+1)*(zaW x+1):=
 zlc 49 0 x (by decide) (by simpa using h0) (by
  have:((0:Int)+2^49)*(0+2^49)=316912650057057350374175801344:=by decide +kernel
  rw[this];exact h1)
theorem zpL {a b:Int} (hb:0≤b) (h:a*a<b*b):a<b:=by
 by_cases c:a<b
 ·exact c
 ·have:=Int.mul_le_mul (show b≤a by omega) (show b≤a by omega) hb (by omega)
  omega
theorem zle {x y:Int} (h0:0≤x) (h:x≤y) (h1:y<316912650057057350374175801344):zaW x≤zaW y:=by
 obtain ⟨a1,a2,-⟩:=zeO x h0 (by omega)
 obtain ⟨b1,-,b3⟩:=zeO y (by omega) h1
 have:=zpL (a:=zaW x) (b:=zaW y+1) (by omega) (by omega)
 omega
theorem zld (x:Int) (h0:0≤x) (h1:x<316912650057057350374175801344):zaW x≤zc0 x∧x≤zc0 x*zc0 x∧∀ r,0≤r→x≤r*r→zc0 x≤r:=by
 obtain ⟨a1,a2,a3⟩:=zeO x h0 h1
 unfold zc0
 split
 ·rename_i h
  refine ⟨Int.le_refl _,by omega,fun r hr hx=>?_⟩
  have hrr:(r+1)*(r+1)=r*r+r+r+1:=by rw[Int.add_mul,Int.mul_add];omega
  have:=zpL (a:=zaW x) (b:=r+1) (by omega) (by rw[h];omega)
  omega
 ·rename_i h
  refine ⟨by omega,by omega,fun r hr hx=>?_⟩
  have h2:zaW x*zaW x<r*r:=by omega
  have:=zpL hr h2
  omega
theorem zmN {a:Sp} (h:(za5 a).e=0):a.okB=true∧0≤a.hi∧za5 a=⟨⟨zaW (imax a.lo 0*4294967296),zc0 (a.hi*4294967296)⟩,0⟩:=by
 unfold za5 at *
 split at h
 ·rename_i h1
  rw[if_pos h1]
  split at h
  ·exact absurd h (by decide)
  ·rename_i h2
   rw[if_neg h2]
   exact ⟨h1,by omega,rfl⟩
 ·exact absurd h (by decide)
theorem zn3 {a:Sp} (h:(za5 a).e=0) (hi:a.hi≤9223372036854775807):0≤(za5 a).s.lo∧(za5 a).s.lo≤(za5 a).s.hi:=by
 obtain ⟨k,n,e⟩:=zmN h
 have l:=zql k
 rw[e]
 have h1:imax a.lo 0*4294967296≤a.hi*4294967296:=by unfold imax;split<;>omega
 have h2:0≤imax a.lo 0*4294967296:=by unfold imax;split<;>omega
 have h3:=zle h2 h1 (by omega)
 have h4:=(zld (a.hi*4294967296) (by omega) (by omega)).1
 exact ⟨(zeO _ h2 (by omega)).1,Int.le_trans h3 h4⟩
inductive All2 {α:Type} (Q:α→α→Prop):List α→List α→Prop
 |nil:All2 Q [] []
 |cons {x y:α} {l l':List α}:Q x y→All2 Q l l'→All2 Q (x::l) (y::l')
end Go.Proofs.YtdkfkalplmgoeaaGreat
namespace Go.Proofs.YtdkfkalplmgoeaaGreat
open Go.RowKit

def sumR (l:List Sp):Res:=zaK (fun x=>⟨x,0⟩) z0 l
end Go.Proofs.YtdkfkalplmgoeaaGreat
