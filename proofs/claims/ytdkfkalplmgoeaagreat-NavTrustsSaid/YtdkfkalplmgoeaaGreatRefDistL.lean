/-
  Joined: RefDist.
-/
import Derived.Test.YtdkfkalplmgoeaaGreatRefSumL
import Derived.Test.YtdkfkalplmgoeaaGreatRefSidesL
namespace Go.Proofs.YtdkfkalplmgoeaaGreat
open Go.RowKit Go.Shelf
set_option maxRecDepth 100000
set_option maxHeartbeats 16000000
theorem zfc (c:Nat) (e:Int) (a:Sp) [ha:S64 a] (w:World) (hc:w.cell? ⟨c,0,none⟩=some (.int .i64 e)) (hf:w.frozen? ⟨c,0,none⟩=false) :
 Calls Tryz.prog 142 #[.pointer (some ⟨c,0,none⟩),.agg #[.int .i64 a.lo,.int .i64 a.hi]] w (RetC c (.agg #[.int .i64 ((doR e (za5 a)).s).lo,.int .i64 ((doR e (za5 a)).s).hi]) (doR e (za5 a)).e w):=by
 have ib:BlockIn w c:=BlockIn.of_cell hc
 have hci:HasCell w c 0:=⟨_,hc⟩
 have Hb:=Lib.hid (But.refl hc)
 have Hc:=Lib.hid hc
 go_enter Tryz.func142,Tryz.ntmps142
 go_wp2_with (first|(go_at_call 185;(with_reducible refine zaa (ziG a _) ?_);intro u)|(go_at_call 109;refine zar (zcg c e (za5 a) _ (by go_simp) (by go_simp)) ?_;intro u))
 refine bodyPost_ret (by (simp[results,Tryz.results142,go_sem]<;>rfl)) rfl ?_
 exact ⟨rfl,But.out btw Hc.out (by go_simp)⟩
theorem zez {e:Int} {r:Res} (h:(doR e r).e=0):e=0∧doR e r=r:=by
 by_cases h0:e=0
 ·subst h0
  exact ⟨rfl,rfl⟩
 ·rw[zaF r h0] at h
  exact absurd h h0
theorem zrg {p f:Bx} {r:Sp} (h:(zhg p f r).e=0):(diD p f r).x.okB=true∧(diD p f r).y.okB=true∧(diD p f r).z.okB=true:=by
 obtain ⟨h2,-⟩:=zez (show (diS p f r).e=0 from h)
 obtain ⟨h1,e2⟩:=zez (show (di2 p f r).e=0 from h2)
 obtain ⟨h0,e1⟩:=zez (show (di1 p f r).e=0 from h1)
 obtain ⟨-,e0⟩:=zez (show (di0 p f r).e=0 from h0)
 refine ⟨(zeq (?_:(zai (diD p f r).x).e=0)).1,(zeq (?_:(zai (diD p f r).y).e=0)).1,(zeq (?_:(zai (diD p f r).z).e=0)).1⟩
 ·rw[←e0];exact h0
 ·rw[←e1];exact h1
 ·rw[←e2];exact h2
theorem zo8 {x:Ds} {f:Bx} {s:Sp} {i:Nat} (h:(zbl x f s i).e=0):x.e=0:=by
 by_cases h0:x.e=0
 ·exact h0
 ·rw[zi3 h0] at h
  exact absurd h h0
theorem zhh (p f:Bx) (r:Sp):∀ i,(diTo p f r i).e=0→∀ j,i≤j→j<3→((diTo p f r i).d.at j).okB=true
 |0,h,j,_,hj=>by
  obtain ⟨h1,h2,h3⟩:=zrg h
  match j,hj with
  |0,_=>exact h1
  |1,_=>exact h2
  |2,_=>exact h3
 |i+1,h,j,hij,hj=>by
  have h0:(diTo p f r i).e=0:=zo8 h
  have:=zhh p f r i h0 j (by omega) hj
  show (((diTo p f r i).d.put i _).at j).okB=true
  rw[Bx.put_at _ i j (by omega) hj,if_neg (by omega)]
  exact this
instance zrs (x:Ds) (s:Sp) (i:Nat):S64 (dsF x s i).s:=zbL _ _
theorem zgQ {x:Ds} {s:Sp} {i:Nat} (h:(dsG x s i).e=0):x.e=0∧(dsG x s i).s.okB=true:=by
 obtain ⟨h1,e1⟩:=zez h
 refine ⟨?_,by show (doR (dsE x s i) (za5 (dsF x s i).s)).s.okB=true;rw[e1];exact zmM _⟩
 by_cases h0:x.e=0
 ·exact h0
 ·have k1:=zjU (i:=i) h0
  have k2:=zjW (s:=s) (i:=i) (show (dsA x i).e≠0 by rw[k1];exact h0)
  have k3:=zjV (s:=s) (i:=i) (show (dsF x s i).e≠0 by rw[k2,k1];exact h0)
  rw[h1,k2,k1] at k3
  exact k3.symm
theorem zct {p:World→Prop} {w:World} (h:∀ z,z=w→p z):p w:=h w rfl
structure RDistAt (X f:Bx) (r:Sp) (c:Nat) (w:World) (q5 q6 q7 q8 q9 q10 q12 i:Nat) (z:World):Prop where
 but:But c w z
 bP:zan z q5 [.int .i64 ((diTo X f r i).pl).x.lo,.int .i64 ((diTo X f r i).pl).x.hi,.int .i64 ((diTo X f r i).pl).y.lo,.int .i64 ((diTo X f r i).pl).y.hi,.int .i64 ((diTo X f r i).pl).z.lo,.int .i64 ((diTo X f r i).pl).z.hi]
 bF:zan z q6 [.int .i64 f.x.lo,.int .i64 f.x.hi,.int .i64 f.y.lo,.int .i64 f.y.hi,.int .i64 f.z.lo,.int .i64 f.z.hi]
 b8:zan z q8 [.int .i64 0,.int .i64 0,.int .i64 0,.int .i64 0,.int .i64 0,.int .i64 0]
 bD:zan z q9 [.int .i64 ((diTo X f r i).d).x.lo,.int .i64 ((diTo X f r i).d).x.hi,.int .i64 ((diTo X f r i).d).y.lo,.int .i64 ((diTo X f r i).d).y.hi,.int .i64 ((diTo X f r i).d).z.lo,.int .i64 ((diTo X f r i).d).z.hi]
 bQ:zan z q10 [.int .i64 ((diTo X f r i).q).x.lo,.int .i64 ((diTo X f r i).q).x.hi,.int .i64 ((diTo X f r i).q).y.lo,.int .i64 ((diTo X f r i).q).y.hi,.int .i64 ((diTo X f r i).q).z.lo,.int .i64 ((diTo X f r i).q).z.hi]
 bS:zan z q12 [.int .i64 ((diS X f r).s).lo,.int .i64 ((diS X f r).s).hi]
 cell:z.cell? ⟨c,0,none⟩=some (.int .i64 (diTo X f r i).e)
 mark:z.frozen? ⟨c,0,none⟩=false
structure Six (q5 q6 q8 q9 q10 q12 c:Nat) (P F D Q:Bx) (S:Sp) (E:Int) (z:World):Prop where
 bP:zan z q5 [.int .i64 P.x.lo,.int .i64 P.x.hi,.int .i64 P.y.lo,.int .i64 P.y.hi,.int .i64 P.z.lo,.int .i64 P.z.hi]
 bF:zan z q6 [.int .i64 F.x.lo,.int .i64 F.x.hi,.int .i64 F.y.lo,.int .i64 F.y.hi,.int .i64 F.z.lo,.int .i64 F.z.hi]
 b8:zan z q8 [.int .i64 0,.int .i64 0,.int .i64 0,.int .i64 0,.int .i64 0,.int .i64 0]
 bD:zan z q9 [.int .i64 D.x.lo,.int .i64 D.x.hi,.int .i64 D.y.lo,.int .i64 D.y.hi,.int .i64 D.z.lo,.int .i64 D.z.hi]
 bQ:zan z q10 [.int .i64 Q.x.lo,.int .i64 Q.x.hi,.int .i64 Q.y.lo,.int .i64 Q.y.hi,.int .i64 Q.z.lo,.int .i64 Q.z.hi]
 bS:zan z q12 [.int .i64 S.lo,.int .i64 S.hi]
 cell:z.cell? ⟨c,0,none⟩=some (.int .i64 E)
 mark:z.frozen? ⟨c,0,none⟩=false
section
variable {q5 q6 q8 q9 q10 q12 c:Nat} {P F D Q:Bx} {S:Sp} {E E':Int} {z W:World}
theorem Six.but (h:Six q5 q6 q8 q9 q10 q12 c P F D Q S E z) (n5:q5≠c) (n6:q6≠c) (n8:q8≠c) (n9:q9≠c) (n10:q10≠c) (n12:q12≠c) (k:But c z W) (hc:W.cell? ⟨c,0,none⟩=some (.int .i64 E')) (hf:W.frozen? ⟨c,0,none⟩=false):Six q5 q6 q8 q9 q10 q12 c P F D Q S E' W:=
 ⟨zbg h.bP k (World.block_lt_of_cell? _ _ (h.bP 0 _ rfl).1) n5,zbg h.bF k (World.block_lt_of_cell? _ _ (h.bF 0 _ rfl).1) n6,zbg h.b8 k (World.block_lt_of_cell? _ _ (h.b8 0 _ rfl).1) n8,zbg h.bD k (World.block_lt_of_cell? _ _ (h.bD 0 _ rfl).1) n9,zbg h.bQ k (World.block_lt_of_cell? _ _ (h.bQ 0 _ rfl).1) n10,zbg h.bS k (World.block_lt_of_cell? _ _ (h.bS 0 _ rfl).1) n12,hc,hf⟩
theorem zhd {q i j:Nat} {x y v:Value} (h:W.cell? ⟨c,0,none⟩=some v) (hne:q≠c):((W.setCell ⟨q,i,none⟩ x).setCell ⟨q,j,none⟩ y).cell? ⟨c,0,none⟩=some v:=by
 have ne:∀ j,(⟨q,j,none⟩:Addr)≠⟨c,0,none⟩:=fun j e=>by injection e with e1;exact hne e1
 rw[World.cell?_setCell_other _ _ _ _ (ne _),World.cell?_setCell_other _ _ _ _ (ne _)]
 exact h
theorem zhv {q i j:Nat} {x y:Value} (h:W.frozen? ⟨c,0,none⟩=false):((W.setCell ⟨q,i,none⟩ x).setCell ⟨q,j,none⟩ y).frozen? ⟨c,0,none⟩=false:=by
 rw[World.frozen?_setCell,World.frozen?_setCell]
 exact h
theorem Six.putD (h:Six q5 q6 q8 q9 q10 q12 c P F D Q S E z) (i:Nat) (hi:i<3) (v:Sp) (hc:q9≠c) (n5:q9≠q5) (n6:q9≠q6) (n8:q9≠q8) (n10:q9≠q10) (n12:q9≠q12):Six q5 q6 q8 q9 q10 q12 c P F (D.put i v) Q S E ((z.setCell ⟨q9,i*2,none⟩ (.int .i64 v.lo)).setCell ⟨q9,i*2+1,none⟩ (.int .i64 v.hi)):=
 ⟨zah (zah h.bP n5) n5,zah (zah h.bF n6) n6,zah (zah h.b8 n8) n8,zhc h.bD i hi v,zah (zah h.bQ n10) n10,zah (zah h.bS n12) n12,zhd h.cell hc,zhv h.mark⟩
theorem Six.putP (h:Six q5 q6 q8 q9 q10 q12 c P F D Q S E z) (i:Nat) (hi:i<3) (v:Sp) (hc:q5≠c) (n9:q5≠q9) (n6:q5≠q6) (n8:q5≠q8) (n10:q5≠q10) (n12:q5≠q12):Six q5 q6 q8 q9 q10 q12 c (P.put i v) F D Q S E ((z.setCell ⟨q5,i*2,none⟩ (.int .i64 v.lo)).setCell ⟨q5,i*2+1,none⟩ (.int .i64 v.hi)):=
 ⟨zhc h.bP i hi v,zah (zah h.bF n6) n6,zah (zah h.b8 n8) n8,zah (zah h.bD n9) n9,zah (zah h.bQ n10) n10,zah (zah h.bS n12) n12,zhd h.cell hc,zhv h.mark⟩
theorem Six.putQ (h:Six q5 q6 q8 q9 q10 q12 c P F D Q S E z) (i:Nat) (hi:i<3) (v:Sp) (hc:q10≠c) (n9:q10≠q9) (n6:q10≠q6) (n8:q10≠q8) (n5:q10≠q5) (n12:q10≠q12):Six q5 q6 q8 q9 q10 q12 c P F D (Q.put i v) S E ((z.setCell ⟨q10,i*2,none⟩ (.int .i64 v.lo)).setCell ⟨q10,i*2+1,none⟩ (.int .i64 v.hi)):=
 ⟨zah (zah h.bP n5) n5,zah (zah h.bF n6) n6,zah (zah h.b8 n8) n8,zah (zah h.bD n9) n9,zhc h.bQ i hi v,zah (zah h.bS n12) n12,zhd h.cell hc,zhv h.mark⟩
end
theorem RDistAt.of {X f P D Q:Bx} {r sg:Sp} {E:Int} {c:Nat} {w z:World} {q5 q6 q7 q8 q9 q10 q12 i:Nat} (h:diTo X f r i=⟨D,Q,P,E⟩) (hs:(diS X f r).s=sg) (but:But c w z) (s:Six q5 q6 q8 q9 q10 q12 c P f D Q sg E z):RDistAt X f r c w q5 q6 q7 q8 q9 q10 q12 i z:=
 ⟨but,by rw[h];exact s.bP,s.bF,s.b8,by rw[h];exact s.bD,by rw[h];exact s.bQ,by rw[hs];exact s.bS,by rw[h];exact s.cell,s.mark⟩
theorem zgG (c:Nat) (X f:Bx) (r:Sp) [hX:B64 X] [hfr:B64 f] [hr:S64 r] (w:World) (hc0:w.cell? ⟨c,0,none⟩=some (.int .i64 0)) (hfz0:w.frozen? ⟨c,0,none⟩=false) :
 Calls Tryz.prog 88 #[.pointer (some ⟨c,0,none⟩),.agg #[.int .i64 X.x.lo,.int .i64 X.x.hi,.int .i64 X.y.lo,.int .i64 X.y.hi,.int .i64 X.z.lo,.int .i64 X.z.hi],.agg #[.int .i64 f.x.lo,.int .i64 f.x.hi,.int .i64 f.y.lo,.int .i64 f.y.hi,.int .i64 f.z.lo,.int .i64 f.z.hi],.agg #[.int .i64 r.lo,.int .i64 r.hi]] w (RetC c (.agg #[.int .i64 ((diTo X f r 3).pl).x.lo,.int .i64 ((diTo X f r 3).pl).x.hi,.int .i64 ((diTo X f r 3).pl).y.lo,.int .i64 ((diTo X f r 3).pl).y.hi,.int .i64 ((diTo X f r 3).pl).z.lo,.int .i64 ((diTo X f r 3).pl).z.hi]) (diTo X f r 3).e w):=by
 have ib:BlockIn w c:=BlockIn.of_cell hc0
 have hci0:HasCell w c 0:=⟨_,hc0⟩
 have Hb:=Lib.hid (But.refl hc0)
 have Hc:=Lib.hid hc0
 have lc:=ib.lt
 have s0:S64 (⟨0,9223372036854775807⟩:Sp):=⟨⟨by simp only[];omega,by simp only[];omega⟩,⟨by simp only[];omega,by simp only[];omega⟩⟩
 have sR:S64 (diR r).s:=by unfold diR;infer_instance
 have sD:B64 (diD X f r):=by unfold diD;infer_instance
 have sDx:S64 (diD X f r).x:=sD.x
 have sDy:S64 (diD X f r).y:=sD.y
 have sDz:S64 (diD X f r).z:=sD.z
 have K1:=Lib.hid (fun w' hc hf=>show Calls Tryz.prog 141 #[.pointer (some ⟨c,0,none⟩),.agg #[.int .i64 r.lo,.int .i64 r.hi],.agg #[.int .i64 0,.int .i64 9223372036854775807]] w' (RetC c (.agg #[.int .i64 ((diR r).s).lo,.int .i64 ((diR r).s).hi]) (diR r).e w') from zb6 c 0 r ⟨0,9223372036854775807⟩ w' hc hf)
 have K2:=Lib.hid (fun w' hc hf=>show Calls Tryz.prog 89 #[.pointer (some ⟨c,0,none⟩),.agg #[.int .i64 X.x.lo,.int .i64 X.x.hi,.int .i64 X.y.lo,.int .i64 X.y.hi,.int .i64 X.z.lo,.int .i64 X.z.hi],.agg #[.int .i64 f.x.lo,.int .i64 f.x.hi,.int .i64 f.y.lo,.int .i64 f.y.hi,.int .i64 f.z.lo,.int .i64 f.z.hi]] w' (RetC c (.agg #[.int .i64 ((diD X f r)).x.lo,.int .i64 ((diD X f r)).x.hi,.int .i64 ((diD X f r)).y.lo,.int .i64 ((diD X f r)).y.hi,.int .i64 ((diD X f r)).z.lo,.int .i64 ((diD X f r)).z.hi]) (diE X f r) w') from zg1 c (diR r).e X f w' hc hf)
 have K3:=Lib.hid (fun w' hc hf=>show Calls Tryz.prog 114 #[.pointer (some ⟨c,0,none⟩),.agg #[.int .i64 ((diD X f r).x).lo,.int .i64 ((diD X f r).x).hi]] w' (RetC c (.agg #[.int .i64 ((di0 X f r).s).lo,.int .i64 ((di0 X f r).s).hi]) (di0 X f r).e w') from zbF c (diE X f r) (diD X f r).x w' hc hf)
 have K4:=Lib.hid (fun w' hc hf=>show Calls Tryz.prog 114 #[.pointer (some ⟨c,0,none⟩),.agg #[.int .i64 ((diD X f r).y).lo,.int .i64 ((diD X f r).y).hi]] w' (RetC c (.agg #[.int .i64 ((di1 X f r).s).lo,.int .i64 ((di1 X f r).s).hi]) (di1 X f r).e w') from zbF c (di0 X f r).e (diD X f r).y w' hc hf)
 have K5:=Lib.hid (fun w' hc hf=>show Calls Tryz.prog 114 #[.pointer (some ⟨c,0,none⟩),.agg #[.int .i64 ((diD X f r).z).lo,.int .i64 ((diD X f r).z).hi]] w' (RetC c (.agg #[.int .i64 ((di2 X f r).s).lo,.int .i64 ((di2 X f r).s).hi]) (di2 X f r).e w') from zbF c (di1 X f r).e (diD X f r).z w' hc hf)
 have K6:=Lib.hid (fun w' hc hf=>show Calls Tryz.prog 114 #[.pointer (some ⟨c,0,none⟩),.agg #[.int .i64 ((diR r).s).lo,.int .i64 ((diR r).s).hi]] w' (RetC c (.agg #[.int .i64 ((diS X f r).s).lo,.int .i64 ((diS X f r).s).hi]) (diS X f r).e w') from zbF c (di2 X f r).e (diR r).s w' hc hf)
 have HStart:=Lib.hid (show diTo X f r 0=⟨diD X f r,⟨(di0 X f r).s,(di1 X f r).s,(di2 X f r).s⟩,X,(diS X f r).e⟩ from rfl)
 go_enter Tryz.func88,Tryz.ntmps88
 go_wp2_with (first|(go_at_call 141;(with_reducible refine zar (K1.out _ ?_ ?_) ?_);(· go_simp);(· go_simp);intro u1)|(go_at_call 89;(with_reducible refine zar (K2.out _ ?_ ?_) ?_);(· go_simp);(· go_simp);intro u2))
 refine wp_loop_rounds 4 ?_
 rw[rounds_succ]
 go_wp2_with (go_at_call 114;(with_reducible refine zar (K3.out _ ?_ ?_) ?_);(· go_simp);(· go_simp);intro u3)
 rw[rounds_succ]
 go_wp2_with (go_at_call 114;(with_reducible refine zar (K4.out _ ?_ ?_) ?_);(· go_simp);(· go_simp);intro u4)
 rw[rounds_succ]
 go_wp2_with (go_at_call 114;(with_reducible refine zar (K5.out _ ?_ ?_) ?_);(· go_simp);(· go_simp);intro u5)
 rw[rounds_succ]
 go_wp2_with (go_at_call 114;(with_reducible refine zar (K6.out _ ?_ ?_) ?_);(· go_simp);(· go_simp);intro u6)
 have l9:w.heap.size+1+1+1<u2.world.heap.size:=(inferInstance:BlockIn u2.world (w.heap.size+1+1+1)).lt
 have l12:u2.world.heap.size+1<u6.world.heap.size:=(inferInstance:BlockIn u6.world (u2.world.heap.size+1)).lt
 go_loopw [13] (fun t wr=>∃ (n:Int) (i:Nat) (z:World),z=wr∧t=.int .i64 n∧n=i∧i≤3∧Hid (RDistAt X f r c w w.heap.size (w.heap.size+1) (w.heap.size+1+1) (w.heap.size+1+1+1) u2.world.heap.size (u2.world.heap.size+1) u6.world.heap.size i z)) (fun t _=>3-(intOf t).toNat)
 case atStart=>
  have n9:NewFor w u2.world.heap.size:=⟨by omega⟩
  have n10:NewFor w (u2.world.heap.size+1):=⟨by omega⟩
  have n12:NewFor w u6.world.heap.size:=⟨by omega⟩
  exact ⟨0,0,_,rfl,rfl,rfl,by omega,Lib.hid (RDistAt.of HStart.out rfl btw ⟨zcB ⟨by go_simp,by go_simp⟩ ⟨by go_simp,by go_simp⟩ ⟨by go_simp,by go_simp⟩ ⟨by go_simp,by go_simp⟩ ⟨by go_simp,by go_simp⟩ ⟨by go_simp,by go_simp⟩,zcB ⟨by go_simp,by go_simp⟩ ⟨by go_simp,by go_simp⟩ ⟨by go_simp,by go_simp⟩ ⟨by go_simp,by go_simp⟩ ⟨by go_simp,by go_simp⟩ ⟨by go_simp,by go_simp⟩,zcB ⟨by go_simp,by go_simp⟩ ⟨by go_simp,by go_simp⟩ ⟨by go_simp,by go_simp⟩ ⟨by go_simp,by go_simp⟩ ⟨by go_simp,by go_simp⟩ ⟨by go_simp,by go_simp⟩,zcB ⟨by go_simp,by go_simp⟩ ⟨by go_simp,by go_simp⟩ ⟨by go_simp,by go_simp⟩ ⟨by go_simp,by go_simp⟩ ⟨by go_simp,by go_simp⟩ ⟨by go_simp,by go_simp⟩,zcB ⟨by go_simp,by go_simp⟩ ⟨by go_simp,by go_simp⟩ ⟨by go_simp,by go_simp⟩ ⟨by go_simp,by go_simp⟩ ⟨by go_simp,by go_simp⟩ ⟨by go_simp,by go_simp⟩,bxt,by go_simp,by go_simp⟩)⟩
 case round=>
  obtain ⟨n,i,z,rfl,rfl,hn,hi,HS⟩:=hrel
  have ls:u6.world.heap.size<z.heap.size:=World.block_lt_of_cell? z _ (HS.out.bS 0 _ rfl).1
  clear Hb hc0 hfz0 hci0 K1 K2 K3 K4 K5 K6 HStart s0 sR sD sDx sDy sDz
  generalize h9:u2.world.heap.size=q9 at *
  generalize h12:u6.world.heap.size=q12 at *
  clear h9 h12
  generalize h5:w.heap.size=q5 at *
  have nw5:NewFor w q5:=⟨by omega⟩
  have nw6:NewFor w (q5+1):=⟨by omega⟩
  have nw8:NewFor w (q5+1+1+1):=⟨by omega⟩
  have nw9:NewFor w q9:=⟨by omega⟩
  have nw10:NewFor w (q9+1):=⟨by omega⟩
  have nw12:NewFor w q12:=⟨by omega⟩
  generalize h6:q5+1=q6 at *
  generalize h7:q6+1=q7 at *
  generalize h8:q7+1=q8 at *
  generalize h10:q9+1=q10 at *
  have:Apart (q5) (q6):=⟨by omega⟩
  have:Apart (q5) (q8):=⟨by omega⟩
  have:Apart (q5) (q9):=⟨by omega⟩
  have:Apart (q5) (q10):=⟨by omega⟩
  have:Apart (q5) (q12):=⟨by omega⟩
  have:Apart (q5) (c):=⟨by omega⟩
  have:Apart (q6) (q5):=⟨by omega⟩
  have:Apart (q6) (q8):=⟨by omega⟩
  have:Apart (q6) (q9):=⟨by omega⟩
  have:Apart (q6) (q10):=⟨by omega⟩
  have:Apart (q6) (q12):=⟨by omega⟩
  have:Apart (q6) (c):=⟨by omega⟩
  have:Apart (q8) (q5):=⟨by omega⟩
  have:Apart (q8) (q6):=⟨by omega⟩
  have:Apart (q8) (q9):=⟨by omega⟩
  have:Apart (q8) (q10):=⟨by omega⟩
  have:Apart (q8) (q12):=⟨by omega⟩
  have:Apart (q8) (c):=⟨by omega⟩
  have:Apart (q9) (q5):=⟨by omega⟩
  have:Apart (q9) (q6):=⟨by omega⟩
  have:Apart (q9) (q8):=⟨by omega⟩
  have:Apart (q9) (q10):=⟨by omega⟩
  have:Apart (q9) (q12):=⟨by omega⟩
  have:Apart (q9) (c):=⟨by omega⟩
  have:Apart (q10) (q5):=⟨by omega⟩
  have:Apart (q10) (q6):=⟨by omega⟩
  have:Apart (q10) (q8):=⟨by omega⟩
  have:Apart (q10) (q9):=⟨by omega⟩
  have:Apart (q10) (q12):=⟨by omega⟩
  have:Apart (q10) (c):=⟨by omega⟩
  have:Apart (q12) (q5):=⟨by omega⟩
  have:Apart (q12) (q6):=⟨by omega⟩
  have:Apart (q12) (q8):=⟨by omega⟩
  have:Apart (q12) (q9):=⟨by omega⟩
  have:Apart (q12) (q10):=⟨by omega⟩
  have:Apart (q12) (c):=⟨by omega⟩
  have:Apart (c) (q5):=⟨by omega⟩
  have:Apart (c) (q6):=⟨by omega⟩
  have:Apart (c) (q8):=⟨by omega⟩
  have:Apart (c) (q9):=⟨by omega⟩
  have:Apart (c) (q10):=⟨by omega⟩
  have:Apart (c) (q12):=⟨by omega⟩
  rcases (by omega:i=0∨i=1∨i=2∨i=3) with rfl|rfl|rfl|rfl
  ·obtain rfl:n=0:=by omega
   clear hi hn
   have hnext:diTo X f r (0+1)=zbl (diTo X f r 0) f (diS X f r).s 0:=rfl
   obtain ⟨sD,sQ,sP⟩:=zdZ X f r 0
   have hokx:=fun h=>zhh X f r 0 h 0 (by omega) (by omega)
   have sS:S64 (diS X f r).s:=zbL _ _
   have Hbut:=Lib.hid HS.out.but
   have S0:Hid (Six q5 q6 q8 q9 q10 q12 c (diTo X f r 0).pl f (diTo X f r 0).d (diTo X f r 0).q (diS X f r).s (diTo X f r 0).e z):=Lib.hid ⟨HS.out.bP,HS.out.bF,HS.out.b8,HS.out.bD,HS.out.bQ,HS.out.bS,HS.out.cell,HS.out.mark⟩
   clear HS
   generalize diTo X f r 0=x at *
   generalize hsg:(diS X f r).s=sg at *
   have sQj:S64 x.q.y:=sQ.y
   have sQk:S64 x.q.z:=sQ.z
   have sfi:S64 f.x:=hfr.x
   have sA:S64 (dsA x 0).s:=zbL _ _
   have sF:S64 (dsF x sg 0).s:=zbL _ _
   have sG:S64 (dsG x sg 0).s:=inferInstance
   have sGn:S64 (negS (dsG x sg 0).s):=inferInstance
   have sDi:S64 (x.d.at 0):=inferInstance
   have sSd:S64 (zbU (x.d.at 0) (dsG x sg 0).s).s:=zdW _ _
   have sDD:S64 (dsD x sg 0).s:=zbL _ _
   have sPP:S64 (dsP x f sg 0).s:=zbL _ _
   have H1:=Lib.hid (fun w' hc hf=>show Calls Tryz.prog 55 #[.pointer (some ⟨c,0,none⟩),.agg #[.int .i64 x.q.y.lo,.int .i64 x.q.y.hi],.agg #[.int .i64 x.q.z.lo,.int .i64 x.q.z.hi]] w' (RetC c (.agg #[.int .i64 ((dsA x 0).s).lo,.int .i64 ((dsA x 0).s).hi]) (dsA x 0).e w') from zch c x.e x.q.y x.q.z w' hc hf)
   have H2:=Lib.hid (fun w' hc hf=>show Calls Tryz.prog 52 #[.pointer (some ⟨c,0,none⟩),.agg #[.int .i64 sg.lo,.int .i64 sg.hi],.agg #[.int .i64 ((dsA x 0).s).lo,.int .i64 ((dsA x 0).s).hi]] w' (RetC c (.agg #[.int .i64 ((dsF x sg 0).s).lo,.int .i64 ((dsF x sg 0).s).hi]) (dsF x sg 0).e w') from zci c (dsA x 0).e sg (dsA x 0).s w' hc hf)
   have H3:=Lib.hid (fun w' hc hf=>show Calls Tryz.prog 142 #[.pointer (some ⟨c,0,none⟩),.agg #[.int .i64 ((dsF x sg 0).s).lo,.int .i64 ((dsF x sg 0).s).hi]] w' (RetC c (.agg #[.int .i64 ((dsG x sg 0).s).lo,.int .i64 ((dsG x sg 0).s).hi]) (dsG x sg 0).e w') from zfc c (dsE x sg 0) (dsF x sg 0).s w' hc hf)
   have H4:=Lib.hid (fun w' hc hf=>show Calls Tryz.prog 143 #[.pointer (some ⟨c,0,none⟩),.agg #[.int .i64 x.d.x.lo,.int .i64 x.d.x.hi],.agg #[.int .i64 ((dsG x sg 0).s).lo,.int .i64 ((dsG x sg 0).s).hi]] w' (RetC c (.agg #[.int .i64 ((dsD x sg 0).s).lo,.int .i64 ((dsD x sg 0).s).hi]) (dsD x sg 0).e w') from zfa c (dsG x sg 0).e x.d.x (dsG x sg 0).s (fun h=>⟨hokx (zgQ h).1,(zgQ h).2⟩) w' hc hf)
   have H5:=Lib.hid (fun w' hc hf=>show Calls Tryz.prog 55 #[.pointer (some ⟨c,0,none⟩),.agg #[.int .i64 ((dsD x sg 0).s).lo,.int .i64 ((dsD x sg 0).s).hi],.agg #[.int .i64 f.x.lo,.int .i64 f.x.hi]] w' (RetC c (.agg #[.int .i64 ((dsP x f sg 0).s).lo,.int .i64 ((dsP x f sg 0).s).hi]) (dsP x f sg 0).e w') from zch c (dsD x sg 0).e (dsD x sg 0).s f.x w' hc hf)
   have H6:=Lib.hid (fun w' hc hf=>show Calls Tryz.prog 141 #[.pointer (some ⟨c,0,none⟩),.agg #[.int .i64 x.pl.x.lo,.int .i64 x.pl.x.hi],.agg #[.int .i64 ((dsP x f sg 0).s).lo,.int .i64 ((dsP x f sg 0).s).hi]] w' (RetC c (.agg #[.int .i64 ((dsM x f sg 0).s).lo,.int .i64 ((dsM x f sg 0).s).hi]) (dsM x f sg 0).e w') from zb6 c (dsP x f sg 0).e x.pl.x (dsP x f sg 0).s w' hc hf)
   have H7:=Lib.hid (fun w' hc hf=>show Calls Tryz.prog 114 #[.pointer (some ⟨c,0,none⟩),.agg #[.int .i64 ((dsD x sg 0).s).lo,.int .i64 ((dsD x sg 0).s).hi]] w' (RetC c (.agg #[.int .i64 ((dsQ x f sg 0).s).lo,.int .i64 ((dsQ x f sg 0).s).hi]) (dsQ x f sg 0).e w') from zbF c (dsM x f sg 0).e (dsD x sg 0).s w' hc hf)
   have h3:((dsF x sg 0).e==0)=false∧dsE x sg 0=(dsF x sg 0).e∨((dsF x sg 0).e==0)=true∧decide ((dsF x sg 0).s.hi<0)=false∧dsE x sg 0=(dsF x sg 0).e∨((dsF x sg 0).e==0)=true∧decide ((dsF x sg 0).s.hi<0)=true∧dsE x sg 0=7:=by
    unfold dsE
    by_cases h0:(dsF x sg 0).e=0
    ·by_cases h1:(dsF x sg 0).s.hi<0
     ·exact .inr (.inr ⟨by simp[h0],by simp[h1],by rw[if_pos h0,if_pos h1]⟩)
     ·exact .inr (.inl ⟨by simp[h0],by simp[h1],by rw[if_pos h0,if_neg h1,h0]⟩)
    ·exact .inl ⟨by simp[h0],by rw[if_neg h0]⟩
   have HN:=Lib.hid (show diTo X f r (0+1)=⟨x.d.put 0 (dsD x sg 0).s,x.q.put 0 (dsQ x f sg 0).s,x.pl.put 0 (dsM x f sg 0).s,(dsQ x f sg 0).e⟩ from hnext)
   clear hnext hokx sDi sSd sGn
   have Hsg:=Lib.hid hsg
   clear hsg
   generalize dsQ x f sg 0=Q at *
   generalize dsM x f sg 0=M at *
   generalize dsP x f sg 0=P at *
   generalize dsD x sg 0=D at *
   generalize dsG x sg 0=G at *
   generalize dsE x sg 0=E at *
   generalize dsF x sg 0=F at *
   generalize dsA x 0=A at *
   have S0':=S0
   have ib5:BlockIn z q5:=BlockIn.of_cell (S0.out.bP 0 _ rfl).1
   have ib6:BlockIn z q6:=BlockIn.of_cell (S0.out.bF 0 _ rfl).1
   have ib8:BlockIn z q8:=BlockIn.of_cell (S0.out.b8 0 _ rfl).1
   have ib9:BlockIn z q9:=BlockIn.of_cell (S0.out.bD 0 _ rfl).1
   have ib10:BlockIn z q10:=BlockIn.of_cell (S0.out.bQ 0 _ rfl).1
   have ib12:BlockIn z q12:=BlockIn.of_cell (S0.out.bS 0 _ rfl).1
   have hc:=S0.out.cell
   have hf:=S0.out.mark
   have ibc:BlockIn z c:=BlockIn.of_cell hc
   have hci:HasCell z c 0:=⟨_,hc⟩
   have bP:=S0.out.bP
   have bF:=S0.out.bF
   have bD:=S0.out.bD
   have bQ:=S0.out.bQ
   have bS:=S0.out.bS
   have bP_0:=(bP 0 _ rfl).1
   have bPf0:=(bP 0 _ rfl).2
   have bPi0:HasCell (z) (q5) 0:=⟨_,bP_0⟩
   have bP_1:=(bP 1 _ rfl).1
   have bPf1:=(bP 1 _ rfl).2
   have bPi1:HasCell (z) (q5) 1:=⟨_,bP_1⟩
   have bP_2:=(bP 2 _ rfl).1
   have bPf2:=(bP 2 _ rfl).2
   have bPi2:HasCell (z) (q5) 2:=⟨_,bP_2⟩
   have bP_3:=(bP 3 _ rfl).1
   have bPf3:=(bP 3 _ rfl).2
   have bPi3:HasCell (z) (q5) 3:=⟨_,bP_3⟩
   have bP_4:=(bP 4 _ rfl).1
   have bPf4:=(bP 4 _ rfl).2
   have bPi4:HasCell (z) (q5) 4:=⟨_,bP_4⟩
   have bP_5:=(bP 5 _ rfl).1
   have bPf5:=(bP 5 _ rfl).2
   have bPi5:HasCell (z) (q5) 5:=⟨_,bP_5⟩
   have bPb:BlockIn (z) (q5):=BlockIn.of_cell bP_0
   clear bP
   have bF_0:=(bF 0 _ rfl).1
   have bFf0:=(bF 0 _ rfl).2
   have bFi0:HasCell (z) (q6) 0:=⟨_,bF_0⟩
   have bF_1:=(bF 1 _ rfl).1
   have bFf1:=(bF 1 _ rfl).2
   have bFi1:HasCell (z) (q6) 1:=⟨_,bF_1⟩
   have bF_2:=(bF 2 _ rfl).1
   have bFf2:=(bF 2 _ rfl).2
   have bFi2:HasCell (z) (q6) 2:=⟨_,bF_2⟩
   have bF_3:=(bF 3 _ rfl).1
   have bFf3:=(bF 3 _ rfl).2
   have bFi3:HasCell (z) (q6) 3:=⟨_,bF_3⟩
   have bF_4:=(bF 4 _ rfl).1
   have bFf4:=(bF 4 _ rfl).2
   have bFi4:HasCell (z) (q6) 4:=⟨_,bF_4⟩
   have bF_5:=(bF 5 _ rfl).1
   have bFf5:=(bF 5 _ rfl).2
   have bFi5:HasCell (z) (q6) 5:=⟨_,bF_5⟩
   have bFb:BlockIn (z) (q6):=BlockIn.of_cell bF_0
   clear bF
   have bD_0:=(bD 0 _ rfl).1
   have bDf0:=(bD 0 _ rfl).2
   have bDi0:HasCell (z) (q9) 0:=⟨_,bD_0⟩
   have bD_1:=(bD 1 _ rfl).1
   have bDf1:=(bD 1 _ rfl).2
   have bDi1:HasCell (z) (q9) 1:=⟨_,bD_1⟩
   have bD_2:=(bD 2 _ rfl).1
   have bDf2:=(bD 2 _ rfl).2
   have bDi2:HasCell (z) (q9) 2:=⟨_,bD_2⟩
   have bD_3:=(bD 3 _ rfl).1
   have bDf3:=(bD 3 _ rfl).2
   have bDi3:HasCell (z) (q9) 3:=⟨_,bD_3⟩
   have bD_4:=(bD 4 _ rfl).1
   have bDf4:=(bD 4 _ rfl).2
   have bDi4:HasCell (z) (q9) 4:=⟨_,bD_4⟩
   have bD_5:=(bD 5 _ rfl).1
   have bDf5:=(bD 5 _ rfl).2
   have bDi5:HasCell (z) (q9) 5:=⟨_,bD_5⟩
   have bDb:BlockIn (z) (q9):=BlockIn.of_cell bD_0
   clear bD
   have bQ_0:=(bQ 0 _ rfl).1
   have bQf0:=(bQ 0 _ rfl).2
   have bQi0:HasCell (z) (q10) 0:=⟨_,bQ_0⟩
   have bQ_1:=(bQ 1 _ rfl).1
   have bQf1:=(bQ 1 _ rfl).2
   have bQi1:HasCell (z) (q10) 1:=⟨_,bQ_1⟩
   have bQ_2:=(bQ 2 _ rfl).1
   have bQf2:=(bQ 2 _ rfl).2
   have bQi2:HasCell (z) (q10) 2:=⟨_,bQ_2⟩
   have bQ_3:=(bQ 3 _ rfl).1
   have bQf3:=(bQ 3 _ rfl).2
   have bQi3:HasCell (z) (q10) 3:=⟨_,bQ_3⟩
   have bQ_4:=(bQ 4 _ rfl).1
   have bQf4:=(bQ 4 _ rfl).2
   have bQi4:HasCell (z) (q10) 4:=⟨_,bQ_4⟩
   have bQ_5:=(bQ 5 _ rfl).1
   have bQf5:=(bQ 5 _ rfl).2
   have bQi5:HasCell (z) (q10) 5:=⟨_,bQ_5⟩
   have bQb:BlockIn (z) (q10):=BlockIn.of_cell bQ_0
   clear bQ
   have bS_0:=(bS 0 _ rfl).1
   have bSf0:=(bS 0 _ rfl).2
   have bSi0:HasCell (z) (q12) 0:=⟨_,bS_0⟩
   have bS_1:=(bS 1 _ rfl).1
   have bSf1:=(bS 1 _ rfl).2
   have bSi1:HasCell (z) (q12) 1:=⟨_,bS_1⟩
   have bSb:BlockIn (z) (q12):=BlockIn.of_cell bS_0
   clear bS
   have Hb:=Lib.hid (But.refl hc)
   go_wp2
   refine zaq c [x.e,A.e,F.e] 12 [11] [9,10] [] (fun W0=>[(11,BoxR W0 [.int .i64 0,.int .i64 0])]) [.agg #[.int .i64 A.s.lo,.int .i64 A.s.hi],.agg #[.int .i64 F.s.lo,.int .i64 F.s.hi]] [12] (by rfl) (by go_simp) (by go_simp) (by intro W0 hW0 x hx;simp only[List.mem_cons,List.not_mem_nil,or_false] at hx;rcases hx with rfl<;>first|exact zdm _ _ hW0 _) (by kernel_rfl) (by kernel_rfl) (by kernel_rfl) ?_
   intro pz hd0
   apply Exists.intro
   apply And.intro
   iterate 9 (apply zas hd0 (by kernel_rfl);(· intro uz xc;unfold zae;go_simp;rfl))
   apply zat hd0 0 (by kernel_rfl) (by rfl) (by decide)
   ·intro uz hfz hF;clear hF;unfold zaw;go_simp;exact H1.out _ (by go_simp) hfz
   apply zat hd0 1 (by kernel_rfl) (by rfl) (by decide)
   ·intro uz hfz hF;clear hF;unfold zaw;go_simp;exact H2.out _ (by go_simp) hfz
   apply zdo hd0 (by kernel_rfl)
   ·intro uz xc hF;clear hF;unfold za6;go_simp;refine (show Made (BoxR _ [.int .i64 0,.int .i64 0]) _ _ _ from ?_);exact zdp _ _ _ _
   apply zaY
   rotate_left
   ·rfl
   intro uz hR hD hfz
   obtain ⟨q11,e11,hB11,kB11,nB11⟩:=(show BoxR _ [.int .i64 0,.int .i64 0] (pz 11) _ from hR 11 (by decide))
   clear hR hD
   rw[e11]
   clear e11
   have oB11:=zaO nB11
   have oC11:=zaP nB11
   have hB11:=zd0 hB11 hd0 nB11
   have kB11:=zcL kB11
   have hB11_0:=(hB11 0 _ rfl).1
   have hB11f0:=(hB11 0 _ rfl).2
   have hB11i0:HasCell (uz.world) (q11) 0:=⟨_,hB11_0⟩
   have hB11_1:=(hB11 1 _ rfl).1
   have hB11f1:=(hB11 1 _ rfl).2
   have hB11i1:HasCell (uz.world) (q11) 1:=⟨_,hB11_1⟩
   have hB11b:BlockIn (uz.world) (q11):=BlockIn.of_cell hB11_0
   clear hB11
   refine zak (by rfl) ?_;unfold zav;go_simp
   refine zau ?_
   have nz11:NewFor z q11:=⟨nB11.le⟩
   rcases h3 with ⟨t1,hE⟩|⟨t1,t2,hE⟩|⟨t1,t2,hE⟩
   all_goals
    rw[hE] at H3
    clear hE
    go_wp2_with (go_at_call 142;(with_reducible refine zar (H3.out _ (by go_simp) (by go_simp)) ?_);intro u3)
    refine zaq c [G.e,D.e] 8 [] [6] [] (fun W0=>[]) [.agg #[.int .i64 D.s.lo,.int .i64 D.s.hi]] [8] (by rfl) (by go_simp) (by go_simp) (fun _ _ x hx=>absurd hx (List.not_mem_nil)) (by kernel_rfl) (by kernel_rfl) (by kernel_rfl) ?_
    intro pz hd0
    apply Exists.intro
    apply And.intro
    iterate 6 (apply zas hd0 (by kernel_rfl);(· intro uz xc;unfold zae;go_simp;rfl))
    apply zat hd0 0 (by kernel_rfl) (by rfl) (by decide)
    ·intro uz hfz hF;clear hF;unfold zaw;go_simp;exact H4.out _ (by go_simp) hfz
    apply zas hd0 (by kernel_rfl)
    ·intro uz xc;unfold zae;go_simp;rfl
    apply zaY
    rotate_left
    ·rfl
    intro uz hR hD hfz
    clear hR hD
    refine zak (by rfl) ?_;unfold zav;go_simp
    refine zau ?_
    refine zct (w:=_) fun z1 hz1=>?_
    have S1:Hid (Six q5 q6 q8 q9 q10 q12 c x.pl f ⟨D.s,x.d.y,x.d.z⟩ x.q sg D.e z1)∧Hid (But c w z1):=by
     rw[hz1]
     exact ⟨Lib.hid (Six.putD (Six.but S0'.out (by omega) (by omega) (by omega) (by omega) (by omega) (by omega) btw (by go_simp) (by go_simp)) 0 (by omega) D.s (by omega) (by omega) (by omega) (by omega) (by omega) (by omega)),Lib.hid (zcu (Hbut.out.trans btw) (by omega) _ _ _ _)⟩
    clear hz1 Hbut
    obtain ⟨S1,Hbut⟩:=S1
    clear bP_0 bPf0 bPi0 bP_1 bPf1 bPi1 bP_2 bPf2 bPi2 bP_3 bPf3 bPi3 bP_4 bPf4 bPi4 bP_5 bPf5 bPi5 bPb bF_0 bFf0 bFi0 bF_1 bFf1 bFi1 bF_2 bFf2 bFi2 bF_3 bFf3 bFi3 bF_4 bFf4 bFi4 bF_5 bFf5 bFi5 bFb bD_0 bDf0 bDi0 bD_1 bDf1 bDi1 bD_2 bDf2 bDi2 bD_3 bDf3 bDi3 bD_4 bDf4 bDi4 bD_5 bDf5 bDi5 bDb bQ_0 bQf0 bQi0 bQ_1 bQf1 bQi1 bQ_2 bQf2 bQi2 bQ_3 bQf3 bQi3 bQ_4 bQf4 bQi4 bQ_5 bQf5 bQi5 bQb bS_0 bSf0 bSi0 bS_1 bSf1 bSi1 bSb ib5 ib6 ib8 ib9 ib10 ib12 hc hf ibc hci Hb
    have ib5:BlockIn z1 q5:=BlockIn.of_cell (S1.out.bP 0 _ rfl).1
    have ib6:BlockIn z1 q6:=BlockIn.of_cell (S1.out.bF 0 _ rfl).1
    have ib8:BlockIn z1 q8:=BlockIn.of_cell (S1.out.b8 0 _ rfl).1
    have ib9:BlockIn z1 q9:=BlockIn.of_cell (S1.out.bD 0 _ rfl).1
    have ib10:BlockIn z1 q10:=BlockIn.of_cell (S1.out.bQ 0 _ rfl).1
    have ib12:BlockIn z1 q12:=BlockIn.of_cell (S1.out.bS 0 _ rfl).1
    have hc:=S1.out.cell
    have hf:=S1.out.mark
    have ibc:BlockIn z1 c:=BlockIn.of_cell hc
    have hci:HasCell z1 c 0:=⟨_,hc⟩
    have bP:=S1.out.bP
    have bF:=S1.out.bF
    have bD:=S1.out.bD
    have bQ:=S1.out.bQ
    have bS:=S1.out.bS
    have bP_0:=(bP 0 _ rfl).1
    have bPf0:=(bP 0 _ rfl).2
    have bPi0:HasCell (z1) (q5) 0:=⟨_,bP_0⟩
    have bP_1:=(bP 1 _ rfl).1
    have bPf1:=(bP 1 _ rfl).2
    have bPi1:HasCell (z1) (q5) 1:=⟨_,bP_1⟩
    have bP_2:=(bP 2 _ rfl).1
    have bPf2:=(bP 2 _ rfl).2
    have bPi2:HasCell (z1) (q5) 2:=⟨_,bP_2⟩
    have bP_3:=(bP 3 _ rfl).1
    have bPf3:=(bP 3 _ rfl).2
    have bPi3:HasCell (z1) (q5) 3:=⟨_,bP_3⟩
    have bP_4:=(bP 4 _ rfl).1
    have bPf4:=(bP 4 _ rfl).2
    have bPi4:HasCell (z1) (q5) 4:=⟨_,bP_4⟩
    have bP_5:=(bP 5 _ rfl).1
    have bPf5:=(bP 5 _ rfl).2
    have bPi5:HasCell (z1) (q5) 5:=⟨_,bP_5⟩
    have bPb:BlockIn (z1) (q5):=BlockIn.of_cell bP_0
    clear bP
    have bF_0:=(bF 0 _ rfl).1
    have bFf0:=(bF 0 _ rfl).2
    have bFi0:HasCell (z1) (q6) 0:=⟨_,bF_0⟩
    have bF_1:=(bF 1 _ rfl).1
    have bFf1:=(bF 1 _ rfl).2
    have bFi1:HasCell (z1) (q6) 1:=⟨_,bF_1⟩
    have bF_2:=(bF 2 _ rfl).1
    have bFf2:=(bF 2 _ rfl).2
    have bFi2:HasCell (z1) (q6) 2:=⟨_,bF_2⟩
    have bF_3:=(bF 3 _ rfl).1
    have bFf3:=(bF 3 _ rfl).2
    have bFi3:HasCell (z1) (q6) 3:=⟨_,bF_3⟩
    have bF_4:=(bF 4 _ rfl).1
    have bFf4:=(bF 4 _ rfl).2
    have bFi4:HasCell (z1) (q6) 4:=⟨_,bF_4⟩
    have bF_5:=(bF 5 _ rfl).1
    have bFf5:=(bF 5 _ rfl).2
    have bFi5:HasCell (z1) (q6) 5:=⟨_,bF_5⟩
    have bFb:BlockIn (z1) (q6):=BlockIn.of_cell bF_0
    clear bF
    have bD_0:=(bD 0 _ rfl).1
    have bDf0:=(bD 0 _ rfl).2
    have bDi0:HasCell (z1) (q9) 0:=⟨_,bD_0⟩
    have bD_1:=(bD 1 _ rfl).1
    have bDf1:=(bD 1 _ rfl).2
    have bDi1:HasCell (z1) (q9) 1:=⟨_,bD_1⟩
    have bD_2:=(bD 2 _ rfl).1
    have bDf2:=(bD 2 _ rfl).2
    have bDi2:HasCell (z1) (q9) 2:=⟨_,bD_2⟩
    have bD_3:=(bD 3 _ rfl).1
    have bDf3:=(bD 3 _ rfl).2
    have bDi3:HasCell (z1) (q9) 3:=⟨_,bD_3⟩
    have bD_4:=(bD 4 _ rfl).1
    have bDf4:=(bD 4 _ rfl).2
    have bDi4:HasCell (z1) (q9) 4:=⟨_,bD_4⟩
    have bD_5:=(bD 5 _ rfl).1
    have bDf5:=(bD 5 _ rfl).2
    have bDi5:HasCell (z1) (q9) 5:=⟨_,bD_5⟩
    have bDb:BlockIn (z1) (q9):=BlockIn.of_cell bD_0
    clear bD
    have bQ_0:=(bQ 0 _ rfl).1
    have bQf0:=(bQ 0 _ rfl).2
    have bQi0:HasCell (z1) (q10) 0:=⟨_,bQ_0⟩
    have bQ_1:=(bQ 1 _ rfl).1
    have bQf1:=(bQ 1 _ rfl).2
    have bQi1:HasCell (z1) (q10) 1:=⟨_,bQ_1⟩
    have bQ_2:=(bQ 2 _ rfl).1
    have bQf2:=(bQ 2 _ rfl).2
    have bQi2:HasCell (z1) (q10) 2:=⟨_,bQ_2⟩
    have bQ_3:=(bQ 3 _ rfl).1
    have bQf3:=(bQ 3 _ rfl).2
    have bQi3:HasCell (z1) (q10) 3:=⟨_,bQ_3⟩
    have bQ_4:=(bQ 4 _ rfl).1
    have bQf4:=(bQ 4 _ rfl).2
    have bQi4:HasCell (z1) (q10) 4:=⟨_,bQ_4⟩
    have bQ_5:=(bQ 5 _ rfl).1
    have bQf5:=(bQ 5 _ rfl).2
    have bQi5:HasCell (z1) (q10) 5:=⟨_,bQ_5⟩
    have bQb:BlockIn (z1) (q10):=BlockIn.of_cell bQ_0
    clear bQ
    have bS_0:=(bS 0 _ rfl).1
    have bSf0:=(bS 0 _ rfl).2
    have bSi0:HasCell (z1) (q12) 0:=⟨_,bS_0⟩
    have bS_1:=(bS 1 _ rfl).1
    have bSf1:=(bS 1 _ rfl).2
    have bSi1:HasCell (z1) (q12) 1:=⟨_,bS_1⟩
    have bSb:BlockIn (z1) (q12):=BlockIn.of_cell bS_0
    clear bS
    have Hb:=Lib.hid (But.refl hc)
    go_wp2
    refine zaq c [D.e,P.e,M.e] 15 [] [12,13] [] (fun W0=>[]) [.agg #[.int .i64 P.s.lo,.int .i64 P.s.hi],.agg #[.int .i64 M.s.lo,.int .i64 M.s.hi]] [15] (by rfl) (by go_simp) (by go_simp) (fun _ _ x hx=>absurd hx (List.not_mem_nil)) (by kernel_rfl) (by kernel_rfl) (by kernel_rfl) ?_
    intro pz hd0
    apply Exists.intro
    apply And.intro
    iterate 12 (apply zas hd0 (by kernel_rfl);(· intro uz xc;unfold zae;go_simp;rfl))
    apply zat hd0 0 (by kernel_rfl) (by rfl) (by decide)
    ·intro uz hfz hF;clear hF;unfold zaw;go_simp;exact H5.out _ (by go_simp) hfz
    apply zat hd0 1 (by kernel_rfl) (by rfl) (by decide)
    ·intro uz hfz hF;clear hF;unfold zaw;go_simp;exact H6.out _ (by go_simp) hfz
    apply zas hd0 (by kernel_rfl)
    ·intro uz xc;unfold zae;go_simp;rfl
    apply zaY
    rotate_left
    ·rfl
    intro uz hR hD hfz
    clear hR hD
    refine zak (by rfl) ?_;unfold zav;go_simp
    refine zau ?_
    refine zct (w:=_) fun z2 hz2=>?_
    have S2:Hid (Six q5 q6 q8 q9 q10 q12 c ⟨M.s,x.pl.y,x.pl.z⟩ f ⟨D.s,x.d.y,x.d.z⟩ x.q sg M.e z2)∧Hid (But c w z2):=by
     rw[hz2]
     exact ⟨Lib.hid (Six.putP (Six.but S1.out (by omega) (by omega) (by omega) (by omega) (by omega) (by omega) btw (by go_simp) (by go_simp)) 0 (by omega) M.s (by omega) (by omega) (by omega) (by omega) (by omega) (by omega)),Lib.hid (zcu (Hbut.out.trans btw) (by omega) _ _ _ _)⟩
    clear hz2 Hbut
    obtain ⟨S2,Hbut⟩:=S2
    clear bP_0 bPf0 bPi0 bP_1 bPf1 bPi1 bP_2 bPf2 bPi2 bP_3 bPf3 bPi3 bP_4 bPf4 bPi4 bP_5 bPf5 bPi5 bPb bF_0 bFf0 bFi0 bF_1 bFf1 bFi1 bF_2 bFf2 bFi2 bF_3 bFf3 bFi3 bF_4 bFf4 bFi4 bF_5 bFf5 bFi5 bFb bD_0 bDf0 bDi0 bD_1 bDf1 bDi1 bD_2 bDf2 bDi2 bD_3 bDf3 bDi3 bD_4 bDf4 bDi4 bD_5 bDf5 bDi5 bDb bQ_0 bQf0 bQi0 bQ_1 bQf1 bQi1 bQ_2 bQf2 bQi2 bQ_3 bQf3 bQi3 bQ_4 bQf4 bQi4 bQ_5 bQf5 bQi5 bQb bS_0 bSf0 bSi0 bS_1 bSf1 bSi1 bSb ib5 ib6 ib8 ib9 ib10 ib12 hc hf ibc hci Hb
    have ib5:BlockIn z2 q5:=BlockIn.of_cell (S2.out.bP 0 _ rfl).1
    have ib6:BlockIn z2 q6:=BlockIn.of_cell (S2.out.bF 0 _ rfl).1
    have ib8:BlockIn z2 q8:=BlockIn.of_cell (S2.out.b8 0 _ rfl).1
    have ib9:BlockIn z2 q9:=BlockIn.of_cell (S2.out.bD 0 _ rfl).1
    have ib10:BlockIn z2 q10:=BlockIn.of_cell (S2.out.bQ 0 _ rfl).1
    have ib12:BlockIn z2 q12:=BlockIn.of_cell (S2.out.bS 0 _ rfl).1
    have hc:=S2.out.cell
    have hf:=S2.out.mark
    have ibc:BlockIn z2 c:=BlockIn.of_cell hc
    have hci:HasCell z2 c 0:=⟨_,hc⟩
    have bP:=S2.out.bP
    have bF:=S2.out.bF
    have bD:=S2.out.bD
    have bQ:=S2.out.bQ
    have bS:=S2.out.bS
    have bP_0:=(bP 0 _ rfl).1
    have bPf0:=(bP 0 _ rfl).2
    have bPi0:HasCell (z2) (q5) 0:=⟨_,bP_0⟩
    have bP_1:=(bP 1 _ rfl).1
    have bPf1:=(bP 1 _ rfl).2
    have bPi1:HasCell (z2) (q5) 1:=⟨_,bP_1⟩
    have bP_2:=(bP 2 _ rfl).1
    have bPf2:=(bP 2 _ rfl).2
    have bPi2:HasCell (z2) (q5) 2:=⟨_,bP_2⟩
    have bP_3:=(bP 3 _ rfl).1
    have bPf3:=(bP 3 _ rfl).2
    have bPi3:HasCell (z2) (q5) 3:=⟨_,bP_3⟩
    have bP_4:=(bP 4 _ rfl).1
    have bPf4:=(bP 4 _ rfl).2
    have bPi4:HasCell (z2) (q5) 4:=⟨_,bP_4⟩
    have bP_5:=(bP 5 _ rfl).1
    have bPf5:=(bP 5 _ rfl).2
    have bPi5:HasCell (z2) (q5) 5:=⟨_,bP_5⟩
    have bPb:BlockIn (z2) (q5):=BlockIn.of_cell bP_0
    clear bP
    have bF_0:=(bF 0 _ rfl).1
    have bFf0:=(bF 0 _ rfl).2
    have bFi0:HasCell (z2) (q6) 0:=⟨_,bF_0⟩
    have bF_1:=(bF 1 _ rfl).1
    have bFf1:=(bF 1 _ rfl).2
    have bFi1:HasCell (z2) (q6) 1:=⟨_,bF_1⟩
    have bF_2:=(bF 2 _ rfl).1
    have bFf2:=(bF 2 _ rfl).2
    have bFi2:HasCell (z2) (q6) 2:=⟨_,bF_2⟩
    have bF_3:=(bF 3 _ rfl).1
    have bFf3:=(bF 3 _ rfl).2
    have bFi3:HasCell (z2) (q6) 3:=⟨_,bF_3⟩
    have bF_4:=(bF 4 _ rfl).1
    have bFf4:=(bF 4 _ rfl).2
    have bFi4:HasCell (z2) (q6) 4:=⟨_,bF_4⟩
    have bF_5:=(bF 5 _ rfl).1
    have bFf5:=(bF 5 _ rfl).2
    have bFi5:HasCell (z2) (q6) 5:=⟨_,bF_5⟩
    have bFb:BlockIn (z2) (q6):=BlockIn.of_cell bF_0
    clear bF
    have bD_0:=(bD 0 _ rfl).1
    have bDf0:=(bD 0 _ rfl).2
    have bDi0:HasCell (z2) (q9) 0:=⟨_,bD_0⟩
    have bD_1:=(bD 1 _ rfl).1
    have bDf1:=(bD 1 _ rfl).2
    have bDi1:HasCell (z2) (q9) 1:=⟨_,bD_1⟩
    have bD_2:=(bD 2 _ rfl).1
    have bDf2:=(bD 2 _ rfl).2
    have bDi2:HasCell (z2) (q9) 2:=⟨_,bD_2⟩
    have bD_3:=(bD 3 _ rfl).1
    have bDf3:=(bD 3 _ rfl).2
    have bDi3:HasCell (z2) (q9) 3:=⟨_,bD_3⟩
    have bD_4:=(bD 4 _ rfl).1
    have bDf4:=(bD 4 _ rfl).2
    have bDi4:HasCell (z2) (q9) 4:=⟨_,bD_4⟩
    have bD_5:=(bD 5 _ rfl).1
    have bDf5:=(bD 5 _ rfl).2
    have bDi5:HasCell (z2) (q9) 5:=⟨_,bD_5⟩
    have bDb:BlockIn (z2) (q9):=BlockIn.of_cell bD_0
    clear bD
    have bQ_0:=(bQ 0 _ rfl).1
    have bQf0:=(bQ 0 _ rfl).2
    have bQi0:HasCell (z2) (q10) 0:=⟨_,bQ_0⟩
    have bQ_1:=(bQ 1 _ rfl).1
    have bQf1:=(bQ 1 _ rfl).2
    have bQi1:HasCell (z2) (q10) 1:=⟨_,bQ_1⟩
    have bQ_2:=(bQ 2 _ rfl).1
    have bQf2:=(bQ 2 _ rfl).2
    have bQi2:HasCell (z2) (q10) 2:=⟨_,bQ_2⟩
    have bQ_3:=(bQ 3 _ rfl).1
    have bQf3:=(bQ 3 _ rfl).2
    have bQi3:HasCell (z2) (q10) 3:=⟨_,bQ_3⟩
    have bQ_4:=(bQ 4 _ rfl).1
    have bQf4:=(bQ 4 _ rfl).2
    have bQi4:HasCell (z2) (q10) 4:=⟨_,bQ_4⟩
    have bQ_5:=(bQ 5 _ rfl).1
    have bQf5:=(bQ 5 _ rfl).2
    have bQi5:HasCell (z2) (q10) 5:=⟨_,bQ_5⟩
    have bQb:BlockIn (z2) (q10):=BlockIn.of_cell bQ_0
    clear bQ
    have bS_0:=(bS 0 _ rfl).1
    have bSf0:=(bS 0 _ rfl).2
    have bSi0:HasCell (z2) (q12) 0:=⟨_,bS_0⟩
    have bS_1:=(bS 1 _ rfl).1
    have bSf1:=(bS 1 _ rfl).2
    have bSi1:HasCell (z2) (q12) 1:=⟨_,bS_1⟩
    have bSb:BlockIn (z2) (q12):=BlockIn.of_cell bS_0
    clear bS
    have Hb:=Lib.hid (But.refl hc)
    go_wp2_with (go_at_call 114;(with_reducible refine zar (H7.out _ (by go_simp) (by go_simp)) ?_);intro u7)
    go_roundw
    case rel=>exact ⟨1,1,_,rfl,rfl,rfl,by omega,Lib.hid (RDistAt.of HN.out Hsg.out (zcu (Hbut.out.trans btw) (by omega) _ _ _ _) (Six.putQ (Six.but S2.out (by omega) (by omega) (by omega) (by omega) (by omega) (by omega) btw (by go_simp) (by go_simp)) 0 (by omega) Q.s (by omega) (by omega) (by omega) (by omega) (by omega) (by omega)))⟩
    case measure=>simp[intOf]
  ·obtain rfl:n=1:=by omega
   clear hi hn
   have hnext:diTo X f r (1+1)=zbl (diTo X f r 1) f (diS X f r).s 1:=rfl
   obtain ⟨sD,sQ,sP⟩:=zdZ X f r 1
   have hokx:=fun h=>zhh X f r 1 h 1 (by omega) (by omega)
   have sS:S64 (diS X f r).s:=zbL _ _
   have Hbut:=Lib.hid HS.out.but
   have S0:Hid (Six q5 q6 q8 q9 q10 q12 c (diTo X f r 1).pl f (diTo X f r 1).d (diTo X f r 1).q (diS X f r).s (diTo X f r 1).e z):=Lib.hid ⟨HS.out.bP,HS.out.bF,HS.out.b8,HS.out.bD,HS.out.bQ,HS.out.bS,HS.out.cell,HS.out.mark⟩
   clear HS
   generalize diTo X f r 1=x at *
   generalize hsg:(diS X f r).s=sg at *
   have sQj:S64 x.q.x:=sQ.x
   have sQk:S64 x.q.z:=sQ.z
   have sfi:S64 f.y:=hfr.y
   have sA:S64 (dsA x 1).s:=zbL _ _
   have sF:S64 (dsF x sg 1).s:=zbL _ _
   have sG:S64 (dsG x sg 1).s:=inferInstance
   have sGn:S64 (negS (dsG x sg 1).s):=inferInstance
   have sDi:S64 (x.d.at 1):=inferInstance
   have sSd:S64 (zbU (x.d.at 1) (dsG x sg 1).s).s:=zdW _ _
   have sDD:S64 (dsD x sg 1).s:=zbL _ _
   have sPP:S64 (dsP x f sg 1).s:=zbL _ _
   have H1:=Lib.hid (fun w' hc hf=>show Calls Tryz.prog 55 #[.pointer (some ⟨c,0,none⟩),.agg #[.int .i64 x.q.x.lo,.int .i64 x.q.x.hi],.agg #[.int .i64 x.q.z.lo,.int .i64 x.q.z.hi]] w' (RetC c (.agg #[.int .i64 ((dsA x 1).s).lo,.int .i64 ((dsA x 1).s).hi]) (dsA x 1).e w') from zch c x.e x.q.x x.q.z w' hc hf)
   have H2:=Lib.hid (fun w' hc hf=>show Calls Tryz.prog 52 #[.pointer (some ⟨c,0,none⟩),.agg #[.int .i64 sg.lo,.int .i64 sg.hi],.agg #[.int .i64 ((dsA x 1).s).lo,.int .i64 ((dsA x 1).s).hi]] w' (RetC c (.agg #[.int .i64 ((dsF x sg 1).s).lo,.int .i64 ((dsF x sg 1).s).hi]) (dsF x sg 1).e w') from zci c (dsA x 1).e sg (dsA x 1).s w' hc hf)
   have H3:=Lib.hid (fun w' hc hf=>show Calls Tryz.prog 142 #[.pointer (some ⟨c,0,none⟩),.agg #[.int .i64 ((dsF x sg 1).s).lo,.int .i64 ((dsF x sg 1).s).hi]] w' (RetC c (.agg #[.int .i64 ((dsG x sg 1).s).lo,.int .i64 ((dsG x sg 1).s).hi]) (dsG x sg 1).e w') from zfc c (dsE x sg 1) (dsF x sg 1).s w' hc hf)
   have H4:=Lib.hid (fun w' hc hf=>show Calls Tryz.prog 143 #[.pointer (some ⟨c,0,none⟩),.agg #[.int .i64 x.d.y.lo,.int .i64 x.d.y.hi],.agg #[.int .i64 ((dsG x sg 1).s).lo,.int .i64 ((dsG x sg 1).s).hi]] w' (RetC c (.agg #[.int .i64 ((dsD x sg 1).s).lo,.int .i64 ((dsD x sg 1).s).hi]) (dsD x sg 1).e w') from zfa c (dsG x sg 1).e x.d.y (dsG x sg 1).s (fun h=>⟨hokx (zgQ h).1,(zgQ h).2⟩) w' hc hf)
   have H5:=Lib.hid (fun w' hc hf=>show Calls Tryz.prog 55 #[.pointer (some ⟨c,0,none⟩),.agg #[.int .i64 ((dsD x sg 1).s).lo,.int .i64 ((dsD x sg 1).s).hi],.agg #[.int .i64 f.y.lo,.int .i64 f.y.hi]] w' (RetC c (.agg #[.int .i64 ((dsP x f sg 1).s).lo,.int .i64 ((dsP x f sg 1).s).hi]) (dsP x f sg 1).e w') from zch c (dsD x sg 1).e (dsD x sg 1).s f.y w' hc hf)
   have H6:=Lib.hid (fun w' hc hf=>show Calls Tryz.prog 141 #[.pointer (some ⟨c,0,none⟩),.agg #[.int .i64 x.pl.y.lo,.int .i64 x.pl.y.hi],.agg #[.int .i64 ((dsP x f sg 1).s).lo,.int .i64 ((dsP x f sg 1).s).hi]] w' (RetC c (.agg #[.int .i64 ((dsM x f sg 1).s).lo,.int .i64 ((dsM x f sg 1).s).hi]) (dsM x f sg 1).e w') from zb6 c (dsP x f sg 1).e x.pl.y (dsP x f sg 1).s w' hc hf)
   have H7:=Lib.hid (fun w' hc hf=>show Calls Tryz.prog 114 #[.pointer (some ⟨c,0,none⟩),.agg #[.int .i64 ((dsD x sg 1).s).lo,.int .i64 ((dsD x sg 1).s).hi]] w' (RetC c (.agg #[.int .i64 ((dsQ x f sg 1).s).lo,.int .i64 ((dsQ x f sg 1).s).hi]) (dsQ x f sg 1).e w') from zbF c (dsM x f sg 1).e (dsD x sg 1).s w' hc hf)
   have h3:((dsF x sg 1).e==0)=false∧dsE x sg 1=(dsF x sg 1).e∨((dsF x sg 1).e==0)=true∧decide ((dsF x sg 1).s.hi<0)=false∧dsE x sg 1=(dsF x sg 1).e∨((dsF x sg 1).e==0)=true∧decide ((dsF x sg 1).s.hi<0)=true∧dsE x sg 1=7:=by
    unfold dsE
    by_cases h0:(dsF x sg 1).e=0
    ·by_cases h1:(dsF x sg 1).s.hi<0
     ·exact .inr (.inr ⟨by simp[h0],by simp[h1],by rw[if_pos h0,if_pos h1]⟩)
     ·exact .inr (.inl ⟨by simp[h0],by simp[h1],by rw[if_pos h0,if_neg h1,h0]⟩)
    ·exact .inl ⟨by simp[h0],by rw[if_neg h0]⟩
   have HN:=Lib.hid (show diTo X f r (1+1)=⟨x.d.put 1 (dsD x sg 1).s,x.q.put 1 (dsQ x f sg 1).s,x.pl.put 1 (dsM x f sg 1).s,(dsQ x f sg 1).e⟩ from hnext)
   clear hnext hokx sDi sSd sGn
   have Hsg:=Lib.hid hsg
   clear hsg
   generalize dsQ x f sg 1=Q at *
   generalize dsM x f sg 1=M at *
   generalize dsP x f sg 1=P at *
   generalize dsD x sg 1=D at *
   generalize dsG x sg 1=G at *
   generalize dsE x sg 1=E at *
   generalize dsF x sg 1=F at *
   generalize dsA x 1=A at *
   have S0':=S0
   have ib5:BlockIn z q5:=BlockIn.of_cell (S0.out.bP 0 _ rfl).1
   have ib6:BlockIn z q6:=BlockIn.of_cell (S0.out.bF 0 _ rfl).1
   have ib8:BlockIn z q8:=BlockIn.of_cell (S0.out.b8 0 _ rfl).1
   have ib9:BlockIn z q9:=BlockIn.of_cell (S0.out.bD 0 _ rfl).1
   have ib10:BlockIn z q10:=BlockIn.of_cell (S0.out.bQ 0 _ rfl).1
   have ib12:BlockIn z q12:=BlockIn.of_cell (S0.out.bS 0 _ rfl).1
   have hc:=S0.out.cell
   have hf:=S0.out.mark
   have ibc:BlockIn z c:=BlockIn.of_cell hc
   have hci:HasCell z c 0:=⟨_,hc⟩
   have bP:=S0.out.bP
   have bF:=S0.out.bF
   have bD:=S0.out.bD
   have bQ:=S0.out.bQ
   have bS:=S0.out.bS
   have bP_0:=(bP 0 _ rfl).1
   have bPf0:=(bP 0 _ rfl).2
   have bPi0:HasCell (z) (q5) 0:=⟨_,bP_0⟩
   have bP_1:=(bP 1 _ rfl).1
   have bPf1:=(bP 1 _ rfl).2
   have bPi1:HasCell (z) (q5) 1:=⟨_,bP_1⟩
   have bP_2:=(bP 2 _ rfl).1
   have bPf2:=(bP 2 _ rfl).2
   have bPi2:HasCell (z) (q5) 2:=⟨_,bP_2⟩
   have bP_3:=(bP 3 _ rfl).1
   have bPf3:=(bP 3 _ rfl).2
   have bPi3:HasCell (z) (q5) 3:=⟨_,bP_3⟩
   have bP_4:=(bP 4 _ rfl).1
   have bPf4:=(bP 4 _ rfl).2
   have bPi4:HasCell (z) (q5) 4:=⟨_,bP_4⟩
   have bP_5:=(bP 5 _ rfl).1
   have bPf5:=(bP 5 _ rfl).2
   have bPi5:HasCell (z) (q5) 5:=⟨_,bP_5⟩
   have bPb:BlockIn (z) (q5):=BlockIn.of_cell bP_0
   clear bP
   have bF_0:=(bF 0 _ rfl).1
   have bFf0:=(bF 0 _ rfl).2
   have bFi0:HasCell (z) (q6) 0:=⟨_,bF_0⟩
   have bF_1:=(bF 1 _ rfl).1
   have bFf1:=(bF 1 _ rfl).2
   have bFi1:HasCell (z) (q6) 1:=⟨_,bF_1⟩
   have bF_2:=(bF 2 _ rfl).1
   have bFf2:=(bF 2 _ rfl).2
   have bFi2:HasCell (z) (q6) 2:=⟨_,bF_2⟩
   have bF_3:=(bF 3 _ rfl).1
   have bFf3:=(bF 3 _ rfl).2
   have bFi3:HasCell (z) (q6) 3:=⟨_,bF_3⟩
   have bF_4:=(bF 4 _ rfl).1
   have bFf4:=(bF 4 _ rfl).2
   have bFi4:HasCell (z) (q6) 4:=⟨_,bF_4⟩
   have bF_5:=(bF 5 _ rfl).1
   have bFf5:=(bF 5 _ rfl).2
   have bFi5:HasCell (z) (q6) 5:=⟨_,bF_5⟩
   have bFb:BlockIn (z) (q6):=BlockIn.of_cell bF_0
   clear bF
   have bD_0:=(bD 0 _ rfl).1
   have bDf0:=(bD 0 _ rfl).2
   have bDi0:HasCell (z) (q9) 0:=⟨_,bD_0⟩
   have bD_1:=(bD 1 _ rfl).1
   have bDf1:=(bD 1 _ rfl).2
   have bDi1:HasCell (z) (q9) 1:=⟨_,bD_1⟩
   have bD_2:=(bD 2 _ rfl).1
   have bDf2:=(bD 2 _ rfl).2
   have bDi2:HasCell (z) (q9) 2:=⟨_,bD_2⟩
   have bD_3:=(bD 3 _ rfl).1
   have bDf3:=(bD 3 _ rfl).2
   have bDi3:HasCell (z) (q9) 3:=⟨_,bD_3⟩
   have bD_4:=(bD 4 _ rfl).1
   have bDf4:=(bD 4 _ rfl).2
   have bDi4:HasCell (z) (q9) 4:=⟨_,bD_4⟩
   have bD_5:=(bD 5 _ rfl).1
   have bDf5:=(bD 5 _ rfl).2
   have bDi5:HasCell (z) (q9) 5:=⟨_,bD_5⟩
   have bDb:BlockIn (z) (q9):=BlockIn.of_cell bD_0
   clear bD
   have bQ_0:=(bQ 0 _ rfl).1
   have bQf0:=(bQ 0 _ rfl).2
   have bQi0:HasCell (z) (q10) 0:=⟨_,bQ_0⟩
   have bQ_1:=(bQ 1 _ rfl).1
   have bQf1:=(bQ 1 _ rfl).2
   have bQi1:HasCell (z) (q10) 1:=⟨_,bQ_1⟩
   have bQ_2:=(bQ 2 _ rfl).1
   have bQf2:=(bQ 2 _ rfl).2
   have bQi2:HasCell (z) (q10) 2:=⟨_,bQ_2⟩
   have bQ_3:=(bQ 3 _ rfl).1
   have bQf3:=(bQ 3 _ rfl).2
   have bQi3:HasCell (z) (q10) 3:=⟨_,bQ_3⟩
   have bQ_4:=(bQ 4 _ rfl).1
   have bQf4:=(bQ 4 _ rfl).2
   have bQi4:HasCell (z) (q10) 4:=⟨_,bQ_4⟩
   have bQ_5:=(bQ 5 _ rfl).1
   have bQf5:=(bQ 5 _ rfl).2
   have bQi5:HasCell (z) (q10) 5:=⟨_,bQ_5⟩
   have bQb:BlockIn (z) (q10):=BlockIn.of_cell bQ_0
   clear bQ
   have bS_0:=(bS 0 _ rfl).1
   have bSf0:=(bS 0 _ rfl).2
   have bSi0:HasCell (z) (q12) 0:=⟨_,bS_0⟩
   have bS_1:=(bS 1 _ rfl).1
   have bSf1:=(bS 1 _ rfl).2
   have bSi1:HasCell (z) (q12) 1:=⟨_,bS_1⟩
   have bSb:BlockIn (z) (q12):=BlockIn.of_cell bS_0
   clear bS
   have Hb:=Lib.hid (But.refl hc)
   go_wp2
   refine zaq c [x.e,A.e,F.e] 12 [11] [9,10] [] (fun W0=>[(11,BoxR W0 [.int .i64 0,.int .i64 0])]) [.agg #[.int .i64 A.s.lo,.int .i64 A.s.hi],.agg #[.int .i64 F.s.lo,.int .i64 F.s.hi]] [12] (by rfl) (by go_simp) (by go_simp) (by intro W0 hW0 x hx;simp only[List.mem_cons,List.not_mem_nil,or_false] at hx;rcases hx with rfl<;>first|exact zdm _ _ hW0 _) (by kernel_rfl) (by kernel_rfl) (by kernel_rfl) ?_
   intro pz hd0
   apply Exists.intro
   apply And.intro
   iterate 9 (apply zas hd0 (by kernel_rfl);(· intro uz xc;unfold zae;go_simp;rfl))
   apply zat hd0 0 (by kernel_rfl) (by rfl) (by decide)
   ·intro uz hfz hF;clear hF;unfold zaw;go_simp;exact H1.out _ (by go_simp) hfz
   apply zat hd0 1 (by kernel_rfl) (by rfl) (by decide)
   ·intro uz hfz hF;clear hF;unfold zaw;go_simp;exact H2.out _ (by go_simp) hfz
   apply zdo hd0 (by kernel_rfl)
   ·intro uz xc hF;clear hF;unfold za6;go_simp;refine (show Made (BoxR _ [.int .i64 0,.int .i64 0]) _ _ _ from ?_);exact zdp _ _ _ _
   apply zaY
   rotate_left
   ·rfl
   intro uz hR hD hfz
   obtain ⟨q11,e11,hB11,kB11,nB11⟩:=(show BoxR _ [.int .i64 0,.int .i64 0] (pz 11) _ from hR 11 (by decide))
   clear hR hD
   rw[e11]
   clear e11
   have oB11:=zaO nB11
   have oC11:=zaP nB11
   have hB11:=zd0 hB11 hd0 nB11
   have kB11:=zcL kB11
   have hB11_0:=(hB11 0 _ rfl).1
   have hB11f0:=(hB11 0 _ rfl).2
   have hB11i0:HasCell (uz.world) (q11) 0:=⟨_,hB11_0⟩
   have hB11_1:=(hB11 1 _ rfl).1
   have hB11f1:=(hB11 1 _ rfl).2
   have hB11i1:HasCell (uz.world) (q11) 1:=⟨_,hB11_1⟩
   have hB11b:BlockIn (uz.world) (q11):=BlockIn.of_cell hB11_0
   clear hB11
   refine zak (by rfl) ?_;unfold zav;go_simp
   refine zau ?_
   have nz11:NewFor z q11:=⟨nB11.le⟩
   rcases h3 with ⟨t1,hE⟩|⟨t1,t2,hE⟩|⟨t1,t2,hE⟩
   all_goals
    rw[hE] at H3
    clear hE
    go_wp2_with (go_at_call 142;(with_reducible refine zar (H3.out _ (by go_simp) (by go_simp)) ?_);intro u3)
    refine zaq c [G.e,D.e] 8 [] [6] [] (fun W0=>[]) [.agg #[.int .i64 D.s.lo,.int .i64 D.s.hi]] [8] (by rfl) (by go_simp) (by go_simp) (fun _ _ x hx=>absurd hx (List.not_mem_nil)) (by kernel_rfl) (by kernel_rfl) (by kernel_rfl) ?_
    intro pz hd0
    apply Exists.intro
    apply And.intro
    iterate 6 (apply zas hd0 (by kernel_rfl);(· intro uz xc;unfold zae;go_simp;rfl))
    apply zat hd0 0 (by kernel_rfl) (by rfl) (by decide)
    ·intro uz hfz hF;clear hF;unfold zaw;go_simp;exact H4.out _ (by go_simp) hfz
    apply zas hd0 (by kernel_rfl)
    ·intro uz xc;unfold zae;go_simp;rfl
    apply zaY
    rotate_left
    ·rfl
    intro uz hR hD hfz
    clear hR hD
    refine zak (by rfl) ?_;unfold zav;go_simp
    refine zau ?_
    refine zct (w:=_) fun z1 hz1=>?_
    have S1:Hid (Six q5 q6 q8 q9 q10 q12 c x.pl f ⟨x.d.x,D.s,x.d.z⟩ x.q sg D.e z1)∧Hid (But c w z1):=by
     rw[hz1]
     exact ⟨Lib.hid (Six.putD (Six.but S0'.out (by omega) (by omega) (by omega) (by omega) (by omega) (by omega) btw (by go_simp) (by go_simp)) 1 (by omega) D.s (by omega) (by omega) (by omega) (by omega) (by omega) (by omega)),Lib.hid (zcu (Hbut.out.trans btw) (by omega) _ _ _ _)⟩
    clear hz1 Hbut
    obtain ⟨S1,Hbut⟩:=S1
    clear bP_0 bPf0 bPi0 bP_1 bPf1 bPi1 bP_2 bPf2 bPi2 bP_3 bPf3 bPi3 bP_4 bPf4 bPi4 bP_5 bPf5 bPi5 bPb bF_0 bFf0 bFi0 bF_1 bFf1 bFi1 bF_2 bFf2 bFi2 bF_3 bFf3 bFi3 bF_4 bFf4 bFi4 bF_5 bFf5 bFi5 bFb bD_0 bDf0 bDi0 bD_1 bDf1 bDi1 bD_2 bDf2 bDi2 bD_3 bDf3 bDi3 bD_4 bDf4 bDi4 bD_5 bDf5 bDi5 bDb bQ_0 bQf0 bQi0 bQ_1 bQf1 bQi1 bQ_2 bQf2 bQi2 bQ_3 bQf3 bQi3 bQ_4 bQf4 bQi4 bQ_5 bQf5 bQi5 bQb bS_0 bSf0 bSi0 bS_1 bSf1 bSi1 bSb ib5 ib6 ib8 ib9 ib10 ib12 hc hf ibc hci Hb
    have ib5:BlockIn z1 q5:=BlockIn.of_cell (S1.out.bP 0 _ rfl).1
    have ib6:BlockIn z1 q6:=BlockIn.of_cell (S1.out.bF 0 _ rfl).1
    have ib8:BlockIn z1 q8:=BlockIn.of_cell (S1.out.b8 0 _ rfl).1
    have ib9:BlockIn z1 q9:=BlockIn.of_cell (S1.out.bD 0 _ rfl).1
    have ib10:BlockIn z1 q10:=BlockIn.of_cell (S1.out.bQ 0 _ rfl).1
    have ib12:BlockIn z1 q12:=BlockIn.of_cell (S1.out.bS 0 _ rfl).1
    have hc:=S1.out.cell
    have hf:=S1.out.mark
    have ibc:BlockIn z1 c:=BlockIn.of_cell hc
    have hci:HasCell z1 c 0:=⟨_,hc⟩
    have bP:=S1.out.bP
    have bF:=S1.out.bF
    have bD:=S1.out.bD
    have bQ:=S1.out.bQ
    have bS:=S1.out.bS
    have bP_0:=(bP 0 _ rfl).1
    have bPf0:=(bP 0 _ rfl).2
    have bPi0:HasCell (z1) (q5) 0:=⟨_,bP_0⟩
    have bP_1:=(bP 1 _ rfl).1
    have bPf1:=(bP 1 _ rfl).2
    have bPi1:HasCell (z1) (q5) 1:=⟨_,bP_1⟩
    have bP_2:=(bP 2 _ rfl).1
    have bPf2:=(bP 2 _ rfl).2
    have bPi2:HasCell (z1) (q5) 2:=⟨_,bP_2⟩
    have bP_3:=(bP 3 _ rfl).1
    have bPf3:=(bP 3 _ rfl).2
    have bPi3:HasCell (z1) (q5) 3:=⟨_,bP_3⟩
    have bP_4:=(bP 4 _ rfl).1
    have bPf4:=(bP 4 _ rfl).2
    have bPi4:HasCell (z1) (q5) 4:=⟨_,bP_4⟩
    have bP_5:=(bP 5 _ rfl).1
    have bPf5:=(bP 5 _ rfl).2
    have bPi5:HasCell (z1) (q5) 5:=⟨_,bP_5⟩
    have bPb:BlockIn (z1) (q5):=BlockIn.of_cell bP_0
    clear bP
    have bF_0:=(bF 0 _ rfl).1
    have bFf0:=(bF 0 _ rfl).2
    have bFi0:HasCell (z1) (q6) 0:=⟨_,bF_0⟩
    have bF_1:=(bF 1 _ rfl).1
    have bFf1:=(bF 1 _ rfl).2
    have bFi1:HasCell (z1) (q6) 1:=⟨_,bF_1⟩
    have bF_2:=(bF 2 _ rfl).1
    have bFf2:=(bF 2 _ rfl).2
    have bFi2:HasCell (z1) (q6) 2:=⟨_,bF_2⟩
    have bF_3:=(bF 3 _ rfl).1
    have bFf3:=(bF 3 _ rfl).2
    have bFi3:HasCell (z1) (q6) 3:=⟨_,bF_3⟩
    have bF_4:=(bF 4 _ rfl).1
    have bFf4:=(bF 4 _ rfl).2
    have bFi4:HasCell (z1) (q6) 4:=⟨_,bF_4⟩
    have bF_5:=(bF 5 _ rfl).1
    have bFf5:=(bF 5 _ rfl).2
    have bFi5:HasCell (z1) (q6) 5:=⟨_,bF_5⟩
    have bFb:BlockIn (z1) (q6):=BlockIn.of_cell bF_0
    clear bF
    have bD_0:=(bD 0 _ rfl).1
    have bDf0:=(bD 0 _ rfl).2
    have bDi0:HasCell (z1) (q9) 0:=⟨_,bD_0⟩
    have bD_1:=(bD 1 _ rfl).1
    have bDf1:=(bD 1 _ rfl).2
    have bDi1:HasCell (z1) (q9) 1:=⟨_,bD_1⟩
    have bD_2:=(bD 2 _ rfl).1
    have bDf2:=(bD 2 _ rfl).2
    have bDi2:HasCell (z1) (q9) 2:=⟨_,bD_2⟩
    have bD_3:=(bD 3 _ rfl).1
    have bDf3:=(bD 3 _ rfl).2
    have bDi3:HasCell (z1) (q9) 3:=⟨_,bD_3⟩
    have bD_4:=(bD 4 _ rfl).1
    have bDf4:=(bD 4 _ rfl).2
    have bDi4:HasCell (z1) (q9) 4:=⟨_,bD_4⟩
    have bD_5:=(bD 5 _ rfl).1
    have bDf5:=(bD 5 _ rfl).2
    have bDi5:HasCell (z1) (q9) 5:=⟨_,bD_5⟩
    have bDb:BlockIn (z1) (q9):=BlockIn.of_cell bD_0
    clear bD
    have bQ_0:=(bQ 0 _ rfl).1
    have bQf0:=(bQ 0 _ rfl).2
    have bQi0:HasCell (z1) (q10) 0:=⟨_,bQ_0⟩
    have bQ_1:=(bQ 1 _ rfl).1
    have bQf1:=(bQ 1 _ rfl).2
    have bQi1:HasCell (z1) (q10) 1:=⟨_,bQ_1⟩
    have bQ_2:=(bQ 2 _ rfl).1
    have bQf2:=(bQ 2 _ rfl).2
    have bQi2:HasCell (z1) (q10) 2:=⟨_,bQ_2⟩
    have bQ_3:=(bQ 3 _ rfl).1
    have bQf3:=(bQ 3 _ rfl).2
    have bQi3:HasCell (z1) (q10) 3:=⟨_,bQ_3⟩
    have bQ_4:=(bQ 4 _ rfl).1
    have bQf4:=(bQ 4 _ rfl).2
    have bQi4:HasCell (z1) (q10) 4:=⟨_,bQ_4⟩
    have bQ_5:=(bQ 5 _ rfl).1
    have bQf5:=(bQ 5 _ rfl).2
    have bQi5:HasCell (z1) (q10) 5:=⟨_,bQ_5⟩
    have bQb:BlockIn (z1) (q10):=BlockIn.of_cell bQ_0
    clear bQ
    have bS_0:=(bS 0 _ rfl).1
    have bSf0:=(bS 0 _ rfl).2
    have bSi0:HasCell (z1) (q12) 0:=⟨_,bS_0⟩
    have bS_1:=(bS 1 _ rfl).1
    have bSf1:=(bS 1 _ rfl).2
    have bSi1:HasCell (z1) (q12) 1:=⟨_,bS_1⟩
    have bSb:BlockIn (z1) (q12):=BlockIn.of_cell bS_0
    clear bS
    have Hb:=Lib.hid (But.refl hc)
    go_wp2
    refine zaq c [D.e,P.e,M.e] 15 [] [12,13] [] (fun W0=>[]) [.agg #[.int .i64 P.s.lo,.int .i64 P.s.hi],.agg #[.int .i64 M.s.lo,.int .i64 M.s.hi]] [15] (by rfl) (by go_simp) (by go_simp) (fun _ _ x hx=>absurd hx (List.not_mem_nil)) (by kernel_rfl) (by kernel_rfl) (by kernel_rfl) ?_
    intro pz hd0
    apply Exists.intro
    apply And.intro
    iterate 12 (apply zas hd0 (by kernel_rfl);(· intro uz xc;unfold zae;go_simp;rfl))
    apply zat hd0 0 (by kernel_rfl) (by rfl) (by decide)
    ·intro uz hfz hF;clear hF;unfold zaw;go_simp;exact H5.out _ (by go_simp) hfz
    apply zat hd0 1 (by kernel_rfl) (by rfl) (by decide)
    ·intro uz hfz hF;clear hF;unfold zaw;go_simp;exact H6.out _ (by go_simp) hfz
    apply zas hd0 (by kernel_rfl)
    ·intro uz xc;unfold zae;go_simp;rfl
    apply zaY
    rotate_left
    ·rfl
    intro uz hR hD hfz
    clear hR hD
    refine zak (by rfl) ?_;unfold zav;go_simp
    refine zau ?_
    refine zct (w:=_) fun z2 hz2=>?_
    have S2:Hid (Six q5 q6 q8 q9 q10 q12 c ⟨x.pl.x,M.s,x.pl.z⟩ f ⟨x.d.x,D.s,x.d.z⟩ x.q sg M.e z2)∧Hid (But c w z2):=by
     rw[hz2]
     exact ⟨Lib.hid (Six.putP (Six.but S1.out (by omega) (by omega) (by omega) (by omega) (by omega) (by omega) btw (by go_simp) (by go_simp)) 1 (by omega) M.s (by omega) (by omega) (by omega) (by omega) (by omega) (by omega)),Lib.hid (zcu (Hbut.out.trans btw) (by omega) _ _ _ _)⟩
    clear hz2 Hbut
    obtain ⟨S2,Hbut⟩:=S2
    clear bP_0 bPf0 bPi0 bP_1 bPf1 bPi1 bP_2 bPf2 bPi2 bP_3 bPf3 bPi3 bP_4 bPf4 bPi4 bP_5 bPf5 bPi5 bPb bF_0 bFf0 bFi0 bF_1 bFf1 bFi1 bF_2 bFf2 bFi2 bF_3 bFf3 bFi3 bF_4 bFf4 bFi4 bF_5 bFf5 bFi5 bFb bD_0 bDf0 bDi0 bD_1 bDf1 bDi1 bD_2 bDf2 bDi2 bD_3 bDf3 bDi3 bD_4 bDf4 bDi4 bD_5 bDf5 bDi5 bDb bQ_0 bQf0 bQi0 bQ_1 bQf1 bQi1 bQ_2 bQf2 bQi2 bQ_3 bQf3 bQi3 bQ_4 bQf4 bQi4 bQ_5 bQf5 bQi5 bQb bS_0 bSf0 bSi0 bS_1 bSf1 bSi1 bSb ib5 ib6 ib8 ib9 ib10 ib12 hc hf ibc hci Hb
    have ib5:BlockIn z2 q5:=BlockIn.of_cell (S2.out.bP 0 _ rfl).1
    have ib6:BlockIn z2 q6:=BlockIn.of_cell (S2.out.bF 0 _ rfl).1
    have ib8:BlockIn z2 q8:=BlockIn.of_cell (S2.out.b8 0 _ rfl).1
    have ib9:BlockIn z2 q9:=BlockIn.of_cell (S2.out.bD 0 _ rfl).1
    have ib10:BlockIn z2 q10:=BlockIn.of_cell (S2.out.bQ 0 _ rfl).1
    have ib12:BlockIn z2 q12:=BlockIn.of_cell (S2.out.bS 0 _ rfl).1
    have hc:=S2.out.cell
    have hf:=S2.out.mark
    have ibc:BlockIn z2 c:=BlockIn.of_cell hc
    have hci:HasCell z2 c 0:=⟨_,hc⟩
    have bP:=S2.out.bP
    have bF:=S2.out.bF
    have bD:=S2.out.bD
    have bQ:=S2.out.bQ
    have bS:=S2.out.bS
    have bP_0:=(bP 0 _ rfl).1
    have bPf0:=(bP 0 _ rfl).2
    have bPi0:HasCell (z2) (q5) 0:=⟨_,bP_0⟩
    have bP_1:=(bP 1 _ rfl).1
    have bPf1:=(bP 1 _ rfl).2
    have bPi1:HasCell (z2) (q5) 1:=⟨_,bP_1⟩
    have bP_2:=(bP 2 _ rfl).1
    have bPf2:=(bP 2 _ rfl).2
    have bPi2:HasCell (z2) (q5) 2:=⟨_,bP_2⟩
    have bP_3:=(bP 3 _ rfl).1
    have bPf3:=(bP 3 _ rfl).2
    have bPi3:HasCell (z2) (q5) 3:=⟨_,bP_3⟩
    have bP_4:=(bP 4 _ rfl).1
    have bPf4:=(bP 4 _ rfl).2
    have bPi4:HasCell (z2) (q5) 4:=⟨_,bP_4⟩
    have bP_5:=(bP 5 _ rfl).1
    have bPf5:=(bP 5 _ rfl).2
    have bPi5:HasCell (z2) (q5) 5:=⟨_,bP_5⟩
    have bPb:BlockIn (z2) (q5):=BlockIn.of_cell bP_0
    clear bP
    have bF_0:=(bF 0 _ rfl).1
    have bFf0:=(bF 0 _ rfl).2
    have bFi0:HasCell (z2) (q6) 0:=⟨_,bF_0⟩
    have bF_1:=(bF 1 _ rfl).1
    have bFf1:=(bF 1 _ rfl).2
    have bFi1:HasCell (z2) (q6) 1:=⟨_,bF_1⟩
    have bF_2:=(bF 2 _ rfl).1
    have bFf2:=(bF 2 _ rfl).2
    have bFi2:HasCell (z2) (q6) 2:=⟨_,bF_2⟩
    have bF_3:=(bF 3 _ rfl).1
    have bFf3:=(bF 3 _ rfl).2
    have bFi3:HasCell (z2) (q6) 3:=⟨_,bF_3⟩
    have bF_4:=(bF 4 _ rfl).1
    have bFf4:=(bF 4 _ rfl).2
    have bFi4:HasCell (z2) (q6) 4:=⟨_,bF_4⟩
    have bF_5:=(bF 5 _ rfl).1
    have bFf5:=(bF 5 _ rfl).2
    have bFi5:HasCell (z2) (q6) 5:=⟨_,bF_5⟩
    have bFb:BlockIn (z2) (q6):=BlockIn.of_cell bF_0
    clear bF
    have bD_0:=(bD 0 _ rfl).1
    have bDf0:=(bD 0 _ rfl).2
    have bDi0:HasCell (z2) (q9) 0:=⟨_,bD_0⟩
    have bD_1:=(bD 1 _ rfl).1
    have bDf1:=(bD 1 _ rfl).2
    have bDi1:HasCell (z2) (q9) 1:=⟨_,bD_1⟩
    have bD_2:=(bD 2 _ rfl).1
    have bDf2:=(bD 2 _ rfl).2
    have bDi2:HasCell (z2) (q9) 2:=⟨_,bD_2⟩
    have bD_3:=(bD 3 _ rfl).1
    have bDf3:=(bD 3 _ rfl).2
    have bDi3:HasCell (z2) (q9) 3:=⟨_,bD_3⟩
    have bD_4:=(bD 4 _ rfl).1
    have bDf4:=(bD 4 _ rfl).2
    have bDi4:HasCell (z2) (q9) 4:=⟨_,bD_4⟩
    have bD_5:=(bD 5 _ rfl).1
    have bDf5:=(bD 5 _ rfl).2
    have bDi5:HasCell (z2) (q9) 5:=⟨_,bD_5⟩
    have bDb:BlockIn (z2) (q9):=BlockIn.of_cell bD_0
    clear bD
    have bQ_0:=(bQ 0 _ rfl).1
    have bQf0:=(bQ 0 _ rfl).2
    have bQi0:HasCell (z2) (q10) 0:=⟨_,bQ_0⟩
    have bQ_1:=(bQ 1 _ rfl).1
    have bQf1:=(bQ 1 _ rfl).2
    have bQi1:HasCell (z2) (q10) 1:=⟨_,bQ_1⟩
    have bQ_2:=(bQ 2 _ rfl).1
    have bQf2:=(bQ 2 _ rfl).2
    have bQi2:HasCell (z2) (q10) 2:=⟨_,bQ_2⟩
    have bQ_3:=(bQ 3 _ rfl).1
    have bQf3:=(bQ 3 _ rfl).2
    have bQi3:HasCell (z2) (q10) 3:=⟨_,bQ_3⟩
    have bQ_4:=(bQ 4 _ rfl).1
    have bQf4:=(bQ 4 _ rfl).2
    have bQi4:HasCell (z2) (q10) 4:=⟨_,bQ_4⟩
    have bQ_5:=(bQ 5 _ rfl).1
    have bQf5:=(bQ 5 _ rfl).2
    have bQi5:HasCell (z2) (q10) 5:=⟨_,bQ_5⟩
    have bQb:BlockIn (z2) (q10):=BlockIn.of_cell bQ_0
    clear bQ
    have bS_0:=(bS 0 _ rfl).1
    have bSf0:=(bS 0 _ rfl).2
    have bSi0:HasCell (z2) (q12) 0:=⟨_,bS_0⟩
    have bS_1:=(bS 1 _ rfl).1
    have bSf1:=(bS 1 _ rfl).2
    have bSi1:HasCell (z2) (q12) 1:=⟨_,bS_1⟩
    have bSb:BlockIn (z2) (q12):=BlockIn.of_cell bS_0
    clear bS
    have Hb:=Lib.hid (But.refl hc)
    go_wp2_with (go_at_call 114;(with_reducible refine zar (H7.out _ (by go_simp) (by go_simp)) ?_);intro u7)
    go_roundw
    case rel=>exact ⟨2,2,_,rfl,rfl,rfl,by omega,Lib.hid (RDistAt.of HN.out Hsg.out (zcu (Hbut.out.trans btw) (by omega) _ _ _ _) (Six.putQ (Six.but S2.out (by omega) (by omega) (by omega) (by omega) (by omega) (by omega) btw (by go_simp) (by go_simp)) 1 (by omega) Q.s (by omega) (by omega) (by omega) (by omega) (by omega) (by omega)))⟩
    case measure=>simp[intOf]
  ·obtain rfl:n=2:=by omega
   clear hi hn
   have hnext:diTo X f r (2+1)=zbl (diTo X f r 2) f (diS X f r).s 2:=rfl
   obtain ⟨sD,sQ,sP⟩:=zdZ X f r 2
   have hokx:=fun h=>zhh X f r 2 h 2 (by omega) (by omega)
   have sS:S64 (diS X f r).s:=zbL _ _
   have Hbut:=Lib.hid HS.out.but
   have S0:Hid (Six q5 q6 q8 q9 q10 q12 c (diTo X f r 2).pl f (diTo X f r 2).d (diTo X f r 2).q (diS X f r).s (diTo X f r 2).e z):=Lib.hid ⟨HS.out.bP,HS.out.bF,HS.out.b8,HS.out.bD,HS.out.bQ,HS.out.bS,HS.out.cell,HS.out.mark⟩
   clear HS
   generalize diTo X f r 2=x at *
   generalize hsg:(diS X f r).s=sg at *
   have sQj:S64 x.q.x:=sQ.x
   have sQk:S64 x.q.y:=sQ.y
   have sfi:S64 f.z:=hfr.z
   have sA:S64 (dsA x 2).s:=zbL _ _
   have sF:S64 (dsF x sg 2).s:=zbL _ _
   have sG:S64 (dsG x sg 2).s:=inferInstance
   have sGn:S64 (negS (dsG x sg 2).s):=inferInstance
   have sDi:S64 (x.d.at 2):=inferInstance
   have sSd:S64 (zbU (x.d.at 2) (dsG x sg 2).s).s:=zdW _ _
   have sDD:S64 (dsD x sg 2).s:=zbL _ _
   have sPP:S64 (dsP x f sg 2).s:=zbL _ _
   have H1:=Lib.hid (fun w' hc hf=>show Calls Tryz.prog 55 #[.pointer (some ⟨c,0,none⟩),.agg #[.int .i64 x.q.x.lo,.int .i64 x.q.x.hi],.agg #[.int .i64 x.q.y.lo,.int .i64 x.q.y.hi]] w' (RetC c (.agg #[.int .i64 ((dsA x 2).s).lo,.int .i64 ((dsA x 2).s).hi]) (dsA x 2).e w') from zch c x.e x.q.x x.q.y w' hc hf)
   have H2:=Lib.hid (fun w' hc hf=>show Calls Tryz.prog 52 #[.pointer (some ⟨c,0,none⟩),.agg #[.int .i64 sg.lo,.int .i64 sg.hi],.agg #[.int .i64 ((dsA x 2).s).lo,.int .i64 ((dsA x 2).s).hi]] w' (RetC c (.agg #[.int .i64 ((dsF x sg 2).s).lo,.int .i64 ((dsF x sg 2).s).hi]) (dsF x sg 2).e w') from zci c (dsA x 2).e sg (dsA x 2).s w' hc hf)
   have H3:=Lib.hid (fun w' hc hf=>show Calls Tryz.prog 142 #[.pointer (some ⟨c,0,none⟩),.agg #[.int .i64 ((dsF x sg 2).s).lo,.int .i64 ((dsF x sg 2).s).hi]] w' (RetC c (.agg #[.int .i64 ((dsG x sg 2).s).lo,.int .i64 ((dsG x sg 2).s).hi]) (dsG x sg 2).e w') from zfc c (dsE x sg 2) (dsF x sg 2).s w' hc hf)
   have H4:=Lib.hid (fun w' hc hf=>show Calls Tryz.prog 143 #[.pointer (some ⟨c,0,none⟩),.agg #[.int .i64 x.d.z.lo,.int .i64 x.d.z.hi],.agg #[.int .i64 ((dsG x sg 2).s).lo,.int .i64 ((dsG x sg 2).s).hi]] w' (RetC c (.agg #[.int .i64 ((dsD x sg 2).s).lo,.int .i64 ((dsD x sg 2).s).hi]) (dsD x sg 2).e w') from zfa c (dsG x sg 2).e x.d.z (dsG x sg 2).s (fun h=>⟨hokx (zgQ h).1,(zgQ h).2⟩) w' hc hf)
   have H5:=Lib.hid (fun w' hc hf=>show Calls Tryz.prog 55 #[.pointer (some ⟨c,0,none⟩),.agg #[.int .i64 ((dsD x sg 2).s).lo,.int .i64 ((dsD x sg 2).s).hi],.agg #[.int .i64 f.z.lo,.int .i64 f.z.hi]] w' (RetC c (.agg #[.int .i64 ((dsP x f sg 2).s).lo,.int .i64 ((dsP x f sg 2).s).hi]) (dsP x f sg 2).e w') from zch c (dsD x sg 2).e (dsD x sg 2).s f.z w' hc hf)
   have H6:=Lib.hid (fun w' hc hf=>show Calls Tryz.prog 141 #[.pointer (some ⟨c,0,none⟩),.agg #[.int .i64 x.pl.z.lo,.int .i64 x.pl.z.hi],.agg #[.int .i64 ((dsP x f sg 2).s).lo,.int .i64 ((dsP x f sg 2).s).hi]] w' (RetC c (.agg #[.int .i64 ((dsM x f sg 2).s).lo,.int .i64 ((dsM x f sg 2).s).hi]) (dsM x f sg 2).e w') from zb6 c (dsP x f sg 2).e x.pl.z (dsP x f sg 2).s w' hc hf)
   have H7:=Lib.hid (fun w' hc hf=>show Calls Tryz.prog 114 #[.pointer (some ⟨c,0,none⟩),.agg #[.int .i64 ((dsD x sg 2).s).lo,.int .i64 ((dsD x sg 2).s).hi]] w' (RetC c (.agg #[.int .i64 ((dsQ x f sg 2).s).lo,.int .i64 ((dsQ x f sg 2).s).hi]) (dsQ x f sg 2).e w') from zbF c (dsM x f sg 2).e (dsD x sg 2).s w' hc hf)
   have h3:((dsF x sg 2).e==0)=false∧dsE x sg 2=(dsF x sg 2).e∨((dsF x sg 2).e==0)=true∧decide ((dsF x sg 2).s.hi<0)=false∧dsE x sg 2=(dsF x sg 2).e∨((dsF x sg 2).e==0)=true∧decide ((dsF x sg 2).s.hi<0)=true∧dsE x sg 2=7:=by
    unfold dsE
    by_cases h0:(dsF x sg 2).e=0
    ·by_cases h1:(dsF x sg 2).s.hi<0
     ·exact .inr (.inr ⟨by simp[h0],by simp[h1],by rw[if_pos h0,if_pos h1]⟩)
     ·exact .inr (.inl ⟨by simp[h0],by simp[h1],by rw[if_pos h0,if_neg h1,h0]⟩)
    ·exact .inl ⟨by simp[h0],by rw[if_neg h0]⟩
   have HN:=Lib.hid (show diTo X f r (2+1)=⟨x.d.put 2 (dsD x sg 2).s,x.q.put 2 (dsQ x f sg 2).s,x.pl.put 2 (dsM x f sg 2).s,(dsQ x f sg 2).e⟩ from hnext)
   clear hnext hokx sDi sSd sGn
   have Hsg:=Lib.hid hsg
   clear hsg
   generalize dsQ x f sg 2=Q at *
   generalize dsM x f sg 2=M at *
   generalize dsP x f sg 2=P at *
   generalize dsD x sg 2=D at *
   generalize dsG x sg 2=G at *
   generalize dsE x sg 2=E at *
   generalize dsF x sg 2=F at *
   generalize dsA x 2=A at *
   have S0':=S0
   have ib5:BlockIn z q5:=BlockIn.of_cell (S0.out.bP 0 _ rfl).1
   have ib6:BlockIn z q6:=BlockIn.of_cell (S0.out.bF 0 _ rfl).1
   have ib8:BlockIn z q8:=BlockIn.of_cell (S0.out.b8 0 _ rfl).1
   have ib9:BlockIn z q9:=BlockIn.of_cell (S0.out.bD 0 _ rfl).1
   have ib10:BlockIn z q10:=BlockIn.of_cell (S0.out.bQ 0 _ rfl).1
   have ib12:BlockIn z q12:=BlockIn.of_cell (S0.out.bS 0 _ rfl).1
   have hc:=S0.out.cell
   have hf:=S0.out.mark
   have ibc:BlockIn z c:=BlockIn.of_cell hc
   have hci:HasCell z c 0:=⟨_,hc⟩
   have bP:=S0.out.bP
   have bF:=S0.out.bF
   have bD:=S0.out.bD
   have bQ:=S0.out.bQ
   have bS:=S0.out.bS
   have bP_0:=(bP 0 _ rfl).1
   have bPf0:=(bP 0 _ rfl).2
   have bPi0:HasCell (z) (q5) 0:=⟨_,bP_0⟩
   have bP_1:=(bP 1 _ rfl).1
   have bPf1:=(bP 1 _ rfl).2
   have bPi1:HasCell (z) (q5) 1:=⟨_,bP_1⟩
   have bP_2:=(bP 2 _ rfl).1
   have bPf2:=(bP 2 _ rfl).2
   have bPi2:HasCell (z) (q5) 2:=⟨_,bP_2⟩
   have bP_3:=(bP 3 _ rfl).1
   have bPf3:=(bP 3 _ rfl).2
   have bPi3:HasCell (z) (q5) 3:=⟨_,bP_3⟩
   have bP_4:=(bP 4 _ rfl).1
   have bPf4:=(bP 4 _ rfl).2
   have bPi4:HasCell (z) (q5) 4:=⟨_,bP_4⟩
   have bP_5:=(bP 5 _ rfl).1
   have bPf5:=(bP 5 _ rfl).2
   have bPi5:HasCell (z) (q5) 5:=⟨_,bP_5⟩
   have bPb:BlockIn (z) (q5):=BlockIn.of_cell bP_0
   clear bP
   have bF_0:=(bF 0 _ rfl).1
   have bFf0:=(bF 0 _ rfl).2
   have bFi0:HasCell (z) (q6) 0:=⟨_,bF_0⟩
   have bF_1:=(bF 1 _ rfl).1
   have bFf1:=(bF 1 _ rfl).2
   have bFi1:HasCell (z) (q6) 1:=⟨_,bF_1⟩
   have bF_2:=(bF 2 _ rfl).1
   have bFf2:=(bF 2 _ rfl).2
   have bFi2:HasCell (z) (q6) 2:=⟨_,bF_2⟩
   have bF_3:=(bF 3 _ rfl).1
   have bFf3:=(bF 3 _ rfl).2
   have bFi3:HasCell (z) (q6) 3:=⟨_,bF_3⟩
   have bF_4:=(bF 4 _ rfl).1
   have bFf4:=(bF 4 _ rfl).2
   have bFi4:HasCell (z) (q6) 4:=⟨_,bF_4⟩
   have bF_5:=(bF 5 _ rfl).1
   have bFf5:=(bF 5 _ rfl).2
   have bFi5:HasCell (z) (q6) 5:=⟨_,bF_5⟩
   have bFb:BlockIn (z) (q6):=BlockIn.of_cell bF_0
   clear bF
   have bD_0:=(bD 0 _ rfl).1
   have bDf0:=(bD 0 _ rfl).2
   have bDi0:HasCell (z) (q9) 0:=⟨_,bD_0⟩
   have bD_1:=(bD 1 _ rfl).1
   have bDf1:=(bD 1 _ rfl).2
   have bDi1:HasCell (z) (q9) 1:=⟨_,bD_1⟩
   have bD_2:=(bD 2 _ rfl).1
   have bDf2:=(bD 2 _ rfl).2
   have bDi2:HasCell (z) (q9) 2:=⟨_,bD_2⟩
   have bD_3:=(bD 3 _ rfl).1
   have bDf3:=(bD 3 _ rfl).2
   have bDi3:HasCell (z) (q9) 3:=⟨_,bD_3⟩
   have bD_4:=(bD 4 _ rfl).1
   have bDf4:=(bD 4 _ rfl).2
   have bDi4:HasCell (z) (q9) 4:=⟨_,bD_4⟩
   have bD_5:=(bD 5 _ rfl).1
   have bDf5:=(bD 5 _ rfl).2
   have bDi5:HasCell (z) (q9) 5:=⟨_,bD_5⟩
   have bDb:BlockIn (z) (q9):=BlockIn.of_cell bD_0
   clear bD
   have bQ_0:=(bQ 0 _ rfl).1
   have bQf0:=(bQ 0 _ rfl).2
   have bQi0:HasCell (z) (q10) 0:=⟨_,bQ_0⟩
   have bQ_1:=(bQ 1 _ rfl).1
   have bQf1:=(bQ 1 _ rfl).2
   have bQi1:HasCell (z) (q10) 1:=⟨_,bQ_1⟩
   have bQ_2:=(bQ 2 _ rfl).1
   have bQf2:=(bQ 2 _ rfl).2
   have bQi2:HasCell (z) (q10) 2:=⟨_,bQ_2⟩
   have bQ_3:=(bQ 3 _ rfl).1
   have bQf3:=(bQ 3 _ rfl).2
   have bQi3:HasCell (z) (q10) 3:=⟨_,bQ_3⟩
   have bQ_4:=(bQ 4 _ rfl).1
   have bQf4:=(bQ 4 _ rfl).2
   have bQi4:HasCell (z) (q10) 4:=⟨_,bQ_4⟩
   have bQ_5:=(bQ 5 _ rfl).1
   have bQf5:=(bQ 5 _ rfl).2
   have bQi5:HasCell (z) (q10) 5:=⟨_,bQ_5⟩
   have bQb:BlockIn (z) (q10):=BlockIn.of_cell bQ_0
   clear bQ
   have bS_0:=(bS 0 _ rfl).1
   have bSf0:=(bS 0 _ rfl).2
   have bSi0:HasCell (z) (q12) 0:=⟨_,bS_0⟩
   have bS_1:=(bS 1 _ rfl).1
   have bSf1:=(bS 1 _ rfl).2
   have bSi1:HasCell (z) (q12) 1:=⟨_,bS_1⟩
   have bSb:BlockIn (z) (q12):=BlockIn.of_cell bS_0
   clear bS
   have Hb:=Lib.hid (But.refl hc)
   go_wp2
   refine zaq c [x.e,A.e,F.e] 12 [11] [9,10] [] (fun W0=>[(11,BoxR W0 [.int .i64 0,.int .i64 0])]) [.agg #[.int .i64 A.s.lo,.int .i64 A.s.hi],.agg #[.int .i64 F.s.lo,.int .i64 F.s.hi]] [12] (by rfl) (by go_simp) (by go_simp) (by intro W0 hW0 x hx;simp only[List.mem_cons,List.not_mem_nil,or_false] at hx;rcases hx with rfl<;>first|exact zdm _ _ hW0 _) (by kernel_rfl) (by kernel_rfl) (by kernel_rfl) ?_
   intro pz hd0
   apply Exists.intro
   apply And.intro
   iterate 9 (apply zas hd0 (by kernel_rfl);(· intro uz xc;unfold zae;go_simp;rfl))
   apply zat hd0 0 (by kernel_rfl) (by rfl) (by decide)
   ·intro uz hfz hF;clear hF;unfold zaw;go_simp;exact H1.out _ (by go_simp) hfz
   apply zat hd0 1 (by kernel_rfl) (by rfl) (by decide)
   ·intro uz hfz hF;clear hF;unfold zaw;go_simp;exact H2.out _ (by go_simp) hfz
   apply zdo hd0 (by kernel_rfl)
   ·intro uz xc hF;clear hF;unfold za6;go_simp;refine (show Made (BoxR _ [.int .i64 0,.int .i64 0]) _ _ _ from ?_);exact zdp _ _ _ _
   apply zaY
   rotate_left
   ·rfl
   intro uz hR hD hfz
   obtain ⟨q11,e11,hB11,kB11,nB11⟩:=(show BoxR _ [.int .i64 0,.int .i64 0] (pz 11) _ from hR 11 (by decide))
   clear hR hD
   rw[e11]
   clear e11
   have oB11:=zaO nB11
   have oC11:=zaP nB11
   have hB11:=zd0 hB11 hd0 nB11
   have kB11:=zcL kB11
   have hB11_0:=(hB11 0 _ rfl).1
   have hB11f0:=(hB11 0 _ rfl).2
   have hB11i0:HasCell (uz.world) (q11) 0:=⟨_,hB11_0⟩
   have hB11_1:=(hB11 1 _ rfl).1
   have hB11f1:=(hB11 1 _ rfl).2
   have hB11i1:HasCell (uz.world) (q11) 1:=⟨_,hB11_1⟩
   have hB11b:BlockIn (uz.world) (q11):=BlockIn.of_cell hB11_0
   clear hB11
   refine zak (by rfl) ?_;unfold zav;go_simp
   refine zau ?_
   have nz11:NewFor z q11:=⟨nB11.le⟩
   rcases h3 with ⟨t1,hE⟩|⟨t1,t2,hE⟩|⟨t1,t2,hE⟩
   all_goals
    rw[hE] at H3
    clear hE
    go_wp2_with (go_at_call 142;(with_reducible refine zar (H3.out _ (by go_simp) (by go_simp)) ?_);intro u3)
    refine zaq c [G.e,D.e] 8 [] [6] [] (fun W0=>[]) [.agg #[.int .i64 D.s.lo,.int .i64 D.s.hi]] [8] (by rfl) (by go_simp) (by go_simp) (fun _ _ x hx=>absurd hx (List.not_mem_nil)) (by kernel_rfl) (by kernel_rfl) (by kernel_rfl) ?_
    intro pz hd0
    apply Exists.intro
    apply And.intro
    iterate 6 (apply zas hd0 (by kernel_rfl);(· intro uz xc;unfold zae;go_simp;rfl))
    apply zat hd0 0 (by kernel_rfl) (by rfl) (by decide)
    ·intro uz hfz hF;clear hF;unfold zaw;go_simp;exact H4.out _ (by go_simp) hfz
    apply zas hd0 (by kernel_rfl)
    ·intro uz xc;unfold zae;go_simp;rfl
    apply zaY
    rotate_left
    ·rfl
    intro uz hR hD hfz
    clear hR hD
    refine zak (by rfl) ?_;unfold zav;go_simp
    refine zau ?_
    refine zct (w:=_) fun z1 hz1=>?_
    have S1:Hid (Six q5 q6 q8 q9 q10 q12 c x.pl f ⟨x.d.x,x.d.y,D.s⟩ x.q sg D.e z1)∧Hid (But c w z1):=by
     rw[hz1]
     exact ⟨Lib.hid (Six.putD (Six.but S0'.out (by omega) (by omega) (by omega) (by omega) (by omega) (by omega) btw (by go_simp) (by go_simp)) 2 (by omega) D.s (by omega) (by omega) (by omega) (by omega) (by omega) (by omega)),Lib.hid (zcu (Hbut.out.trans btw) (by omega) _ _ _ _)⟩
    clear hz1 Hbut
    obtain ⟨S1,Hbut⟩:=S1
    clear bP_0 bPf0 bPi0 bP_1 bPf1 bPi1 bP_2 bPf2 bPi2 bP_3 bPf3 bPi3 bP_4 bPf4 bPi4 bP_5 bPf5 bPi5 bPb bF_0 bFf0 bFi0 bF_1 bFf1 bFi1 bF_2 bFf2 bFi2 bF_3 bFf3 bFi3 bF_4 bFf4 bFi4 bF_5 bFf5 bFi5 bFb bD_0 bDf0 bDi0 bD_1 bDf1 bDi1 bD_2 bDf2 bDi2 bD_3 bDf3 bDi3 bD_4 bDf4 bDi4 bD_5 bDf5 bDi5 bDb bQ_0 bQf0 bQi0 bQ_1 bQf1 bQi1 bQ_2 bQf2 bQi2 bQ_3 bQf3 bQi3 bQ_4 bQf4 bQi4 bQ_5 bQf5 bQi5 bQb bS_0 bSf0 bSi0 bS_1 bSf1 bSi1 bSb ib5 ib6 ib8 ib9 ib10 ib12 hc hf ibc hci Hb
    have ib5:BlockIn z1 q5:=BlockIn.of_cell (S1.out.bP 0 _ rfl).1
    have ib6:BlockIn z1 q6:=BlockIn.of_cell (S1.out.bF 0 _ rfl).1
    have ib8:BlockIn z1 q8:=BlockIn.of_cell (S1.out.b8 0 _ rfl).1
    have ib9:BlockIn z1 q9:=BlockIn.of_cell (S1.out.bD 0 _ rfl).1
    have ib10:BlockIn z1 q10:=BlockIn.of_cell (S1.out.bQ 0 _ rfl).1
    have ib12:BlockIn z1 q12:=BlockIn.of_cell (S1.out.bS 0 _ rfl).1
    have hc:=S1.out.cell
    have hf:=S1.out.mark
    have ibc:BlockIn z1 c:=BlockIn.of_cell hc
    have hci:HasCell z1 c 0:=⟨_,hc⟩
    have bP:=S1.out.bP
    have bF:=S1.out.bF
    have bD:=S1.out.bD
    have bQ:=S1.out.bQ
    have bS:=S1.out.bS
    have bP_0:=(bP 0 _ rfl).1
    have bPf0:=(bP 0 _ rfl).2
    have bPi0:HasCell (z1) (q5) 0:=⟨_,bP_0⟩
    have bP_1:=(bP 1 _ rfl).1
    have bPf1:=(bP 1 _ rfl).2
    have bPi1:HasCell (z1) (q5) 1:=⟨_,bP_1⟩
    have bP_2:=(bP 2 _ rfl).1
    have bPf2:=(bP 2 _ rfl).2
    have bPi2:HasCell (z1) (q5) 2:=⟨_,bP_2⟩
    have bP_3:=(bP 3 _ rfl).1
    have bPf3:=(bP 3 _ rfl).2
    have bPi3:HasCell (z1) (q5) 3:=⟨_,bP_3⟩
    have bP_4:=(bP 4 _ rfl).1
    have bPf4:=(bP 4 _ rfl).2
    have bPi4:HasCell (z1) (q5) 4:=⟨_,bP_4⟩
    have bP_5:=(bP 5 _ rfl).1
    have bPf5:=(bP 5 _ rfl).2
    have bPi5:HasCell (z1) (q5) 5:=⟨_,bP_5⟩
    have bPb:BlockIn (z1) (q5):=BlockIn.of_cell bP_0
    clear bP
    have bF_0:=(bF 0 _ rfl).1
    have bFf0:=(bF 0 _ rfl).2
    have bFi0:HasCell (z1) (q6) 0:=⟨_,bF_0⟩
    have bF_1:=(bF 1 _ rfl).1
    have bFf1:=(bF 1 _ rfl).2
    have bFi1:HasCell (z1) (q6) 1:=⟨_,bF_1⟩
    have bF_2:=(bF 2 _ rfl).1
    have bFf2:=(bF 2 _ rfl).2
    have bFi2:HasCell (z1) (q6) 2:=⟨_,bF_2⟩
    have bF_3:=(bF 3 _ rfl).1
    have bFf3:=(bF 3 _ rfl).2
    have bFi3:HasCell (z1) (q6) 3:=⟨_,bF_3⟩
    have bF_4:=(bF 4 _ rfl).1
    have bFf4:=(bF 4 _ rfl).2
    have bFi4:HasCell (z1) (q6) 4:=⟨_,bF_4⟩
    have bF_5:=(bF 5 _ rfl).1
    have bFf5:=(bF 5 _ rfl).2
    have bFi5:HasCell (z1) (q6) 5:=⟨_,bF_5⟩
    have bFb:BlockIn (z1) (q6):=BlockIn.of_cell bF_0
    clear bF
    have bD_0:=(bD 0 _ rfl).1
    have bDf0:=(bD 0 _ rfl).2
    have bDi0:HasCell (z1) (q9) 0:=⟨_,bD_0⟩
    have bD_1:=(bD 1 _ rfl).1
    have bDf1:=(bD 1 _ rfl).2
    have bDi1:HasCell (z1) (q9) 1:=⟨_,bD_1⟩
    have bD_2:=(bD 2 _ rfl).1
    have bDf2:=(bD 2 _ rfl).2
    have bDi2:HasCell (z1) (q9) 2:=⟨_,bD_2⟩
    have bD_3:=(bD 3 _ rfl).1
    have bDf3:=(bD 3 _ rfl).2
    have bDi3:HasCell (z1) (q9) 3:=⟨_,bD_3⟩
    have bD_4:=(bD 4 _ rfl).1
    have bDf4:=(bD 4 _ rfl).2
    have bDi4:HasCell (z1) (q9) 4:=⟨_,bD_4⟩
    have bD_5:=(bD 5 _ rfl).1
    have bDf5:=(bD 5 _ rfl).2
    have bDi5:HasCell (z1) (q9) 5:=⟨_,bD_5⟩
    have bDb:BlockIn (z1) (q9):=BlockIn.of_cell bD_0
    clear bD
    have bQ_0:=(bQ 0 _ rfl).1
    have bQf0:=(bQ 0 _ rfl).2
    have bQi0:HasCell (z1) (q10) 0:=⟨_,bQ_0⟩
    have bQ_1:=(bQ 1 _ rfl).1
    have bQf1:=(bQ 1 _ rfl).2
    have bQi1:HasCell (z1) (q10) 1:=⟨_,bQ_1⟩
    have bQ_2:=(bQ 2 _ rfl).1
    have bQf2:=(bQ 2 _ rfl).2
    have bQi2:HasCell (z1) (q10) 2:=⟨_,bQ_2⟩
    have bQ_3:=(bQ 3 _ rfl).1
    have bQf3:=(bQ 3 _ rfl).2
    have bQi3:HasCell (z1) (q10) 3:=⟨_,bQ_3⟩
    have bQ_4:=(bQ 4 _ rfl).1
    have bQf4:=(bQ 4 _ rfl).2
    have bQi4:HasCell (z1) (q10) 4:=⟨_,bQ_4⟩
    have bQ_5:=(bQ 5 _ rfl).1
    have bQf5:=(bQ 5 _ rfl).2
    have bQi5:HasCell (z1) (q10) 5:=⟨_,bQ_5⟩
    have bQb:BlockIn (z1) (q10):=BlockIn.of_cell bQ_0
    clear bQ
    have bS_0:=(bS 0 _ rfl).1
    have bSf0:=(bS 0 _ rfl).2
    have bSi0:HasCell (z1) (q12) 0:=⟨_,bS_0⟩
    have bS_1:=(bS 1 _ rfl).1
    have bSf1:=(bS 1 _ rfl).2
    have bSi1:HasCell (z1) (q12) 1:=⟨_,bS_1⟩
    have bSb:BlockIn (z1) (q12):=BlockIn.of_cell bS_0
    clear bS
    have Hb:=Lib.hid (But.refl hc)
    go_wp2
    refine zaq c [D.e,P.e,M.e] 15 [] [12,13] [] (fun W0=>[]) [.agg #[.int .i64 P.s.lo,.int .i64 P.s.hi],.agg #[.int .i64 M.s.lo,.int .i64 M.s.hi]] [15] (by rfl) (by go_simp) (by go_simp) (fun _ _ x hx=>absurd hx (List.not_mem_nil)) (by kernel_rfl) (by kernel_rfl) (by kernel_rfl) ?_
    intro pz hd0
    apply Exists.intro
    apply And.intro
    iterate 12 (apply zas hd0 (by kernel_rfl);(· intro uz xc;unfold zae;go_simp;rfl))
    apply zat hd0 0 (by kernel_rfl) (by rfl) (by decide)
    ·intro uz hfz hF;clear hF;unfold zaw;go_simp;exact H5.out _ (by go_simp) hfz
    apply zat hd0 1 (by kernel_rfl) (by rfl) (by decide)
    ·intro uz hfz hF;clear hF;unfold zaw;go_simp;exact H6.out _ (by go_simp) hfz
    apply zas hd0 (by kernel_rfl)
    ·intro uz xc;unfold zae;go_simp;rfl
    apply zaY
    rotate_left
    ·rfl
    intro uz hR hD hfz
    clear hR hD
    refine zak (by rfl) ?_;unfold zav;go_simp
    refine zau ?_
    refine zct (w:=_) fun z2 hz2=>?_
    have S2:Hid (Six q5 q6 q8 q9 q10 q12 c ⟨x.pl.x,x.pl.y,M.s⟩ f ⟨x.d.x,x.d.y,D.s⟩ x.q sg M.e z2)∧Hid (But c w z2):=by
     rw[hz2]
     exact ⟨Lib.hid (Six.putP (Six.but S1.out (by omega) (by omega) (by omega) (by omega) (by omega) (by omega) btw (by go_simp) (by go_simp)) 2 (by omega) M.s (by omega) (by omega) (by omega) (by omega) (by omega) (by omega)),Lib.hid (zcu (Hbut.out.trans btw) (by omega) _ _ _ _)⟩
    clear hz2 Hbut
    obtain ⟨S2,Hbut⟩:=S2
    clear bP_0 bPf0 bPi0 bP_1 bPf1 bPi1 bP_2 bPf2 bPi2 bP_3 bPf3 bPi3 bP_4 bPf4 bPi4 bP_5 bPf5 bPi5 bPb bF_0 bFf0 bFi0 bF_1 bFf1 bFi1 bF_2 bFf2 bFi2 bF_3 bFf3 bFi3 bF_4 bFf4 bFi4 bF_5 bFf5 bFi5 bFb bD_0 bDf0 bDi0 bD_1 bDf1 bDi1 bD_2 bDf2 bDi2 bD_3 bDf3 bDi3 bD_4 bDf4 bDi4 bD_5 bDf5 bDi5 bDb bQ_0 bQf0 bQi0 bQ_1 bQf1 bQi1 bQ_2 bQf2 bQi2 bQ_3 bQf3 bQi3 bQ_4 bQf4 bQi4 bQ_5 bQf5 bQi5 bQb bS_0 bSf0 bSi0 bS_1 bSf1 bSi1 bSb ib5 ib6 ib8 ib9 ib10 ib12 hc hf ibc hci Hb
    have ib5:BlockIn z2 q5:=BlockIn.of_cell (S2.out.bP 0 _ rfl).1
    have ib6:BlockIn z2 q6:=BlockIn.of_cell (S2.out.bF 0 _ rfl).1
    have ib8:BlockIn z2 q8:=BlockIn.of_cell (S2.out.b8 0 _ rfl).1
    have ib9:BlockIn z2 q9:=BlockIn.of_cell (S2.out.bD 0 _ rfl).1
    have ib10:BlockIn z2 q10:=BlockIn.of_cell (S2.out.bQ 0 _ rfl).1
    have ib12:BlockIn z2 q12:=BlockIn.of_cell (S2.out.bS 0 _ rfl).1
    have hc:=S2.out.cell
    have hf:=S2.out.mark
    have ibc:BlockIn z2 c:=BlockIn.of_cell hc
    have hci:HasCell z2 c 0:=⟨_,hc⟩
    have bP:=S2.out.bP
    have bF:=S2.out.bF
    have bD:=S2.out.bD
    have bQ:=S2.out.bQ
    have bS:=S2.out.bS
    have bP_0:=(bP 0 _ rfl).1
    have bPf0:=(bP 0 _ rfl).2
    have bPi0:HasCell (z2) (q5) 0:=⟨_,bP_0⟩
    have bP_1:=(bP 1 _ rfl).1
    have bPf1:=(bP 1 _ rfl).2
    have bPi1:HasCell (z2) (q5) 1:=⟨_,bP_1⟩
    have bP_2:=(bP 2 _ rfl).1
    have bPf2:=(bP 2 _ rfl).2
    have bPi2:HasCell (z2) (q5) 2:=⟨_,bP_2⟩
    have bP_3:=(bP 3 _ rfl).1
    have bPf3:=(bP 3 _ rfl).2
    have bPi3:HasCell (z2) (q5) 3:=⟨_,bP_3⟩
    have bP_4:=(bP 4 _ rfl).1
    have bPf4:=(bP 4 _ rfl).2
    have bPi4:HasCell (z2) (q5) 4:=⟨_,bP_4⟩
    have bP_5:=(bP 5 _ rfl).1
    have bPf5:=(bP 5 _ rfl).2
    have bPi5:HasCell (z2) (q5) 5:=⟨_,bP_5⟩
    have bPb:BlockIn (z2) (q5):=BlockIn.of_cell bP_0
    clear bP
    have bF_0:=(bF 0 _ rfl).1
    have bFf0:=(bF 0 _ rfl).2
    have bFi0:HasCell (z2) (q6) 0:=⟨_,bF_0⟩
    have bF_1:=(bF 1 _ rfl).1
    have bFf1:=(bF 1 _ rfl).2
    have bFi1:HasCell (z2) (q6) 1:=⟨_,bF_1⟩
    have bF_2:=(bF 2 _ rfl).1
    have bFf2:=(bF 2 _ rfl).2
    have bFi2:HasCell (z2) (q6) 2:=⟨_,bF_2⟩
    have bF_3:=(bF 3 _ rfl).1
    have bFf3:=(bF 3 _ rfl).2
    have bFi3:HasCell (z2) (q6) 3:=⟨_,bF_3⟩
    have bF_4:=(bF 4 _ rfl).1
    have bFf4:=(bF 4 _ rfl).2
    have bFi4:HasCell (z2) (q6) 4:=⟨_,bF_4⟩
    have bF_5:=(bF 5 _ rfl).1
    have bFf5:=(bF 5 _ rfl).2
    have bFi5:HasCell (z2) (q6) 5:=⟨_,bF_5⟩
    have bFb:BlockIn (z2) (q6):=BlockIn.of_cell bF_0
    clear bF
    have bD_0:=(bD 0 _ rfl).1
    have bDf0:=(bD 0 _ rfl).2
    have bDi0:HasCell (z2) (q9) 0:=⟨_,bD_0⟩
    have bD_1:=(bD 1 _ rfl).1
    have bDf1:=(bD 1 _ rfl).2
    have bDi1:HasCell (z2) (q9) 1:=⟨_,bD_1⟩
    have bD_2:=(bD 2 _ rfl).1
    have bDf2:=(bD 2 _ rfl).2
    have bDi2:HasCell (z2) (q9) 2:=⟨_,bD_2⟩
    have bD_3:=(bD 3 _ rfl).1
    have bDf3:=(bD 3 _ rfl).2
    have bDi3:HasCell (z2) (q9) 3:=⟨_,bD_3⟩
    have bD_4:=(bD 4 _ rfl).1
    have bDf4:=(bD 4 _ rfl).2
    have bDi4:HasCell (z2) (q9) 4:=⟨_,bD_4⟩
    have bD_5:=(bD 5 _ rfl).1
    have bDf5:=(bD 5 _ rfl).2
    have bDi5:HasCell (z2) (q9) 5:=⟨_,bD_5⟩
    have bDb:BlockIn (z2) (q9):=BlockIn.of_cell bD_0
    clear bD
    have bQ_0:=(bQ 0 _ rfl).1
    have bQf0:=(bQ 0 _ rfl).2
    have bQi0:HasCell (z2) (q10) 0:=⟨_,bQ_0⟩
    have bQ_1:=(bQ 1 _ rfl).1
    have bQf1:=(bQ 1 _ rfl).2
    have bQi1:HasCell (z2) (q10) 1:=⟨_,bQ_1⟩
    have bQ_2:=(bQ 2 _ rfl).1
    have bQf2:=(bQ 2 _ rfl).2
    have bQi2:HasCell (z2) (q10) 2:=⟨_,bQ_2⟩
    have bQ_3:=(bQ 3 _ rfl).1
    have bQf3:=(bQ 3 _ rfl).2
    have bQi3:HasCell (z2) (q10) 3:=⟨_,bQ_3⟩
    have bQ_4:=(bQ 4 _ rfl).1
    have bQf4:=(bQ 4 _ rfl).2
    have bQi4:HasCell (z2) (q10) 4:=⟨_,bQ_4⟩
    have bQ_5:=(bQ 5 _ rfl).1
    have bQf5:=(bQ 5 _ rfl).2
    have bQi5:HasCell (z2) (q10) 5:=⟨_,bQ_5⟩
    have bQb:BlockIn (z2) (q10):=BlockIn.of_cell bQ_0
    clear bQ
    have bS_0:=(bS 0 _ rfl).1
    have bSf0:=(bS 0 _ rfl).2
    have bSi0:HasCell (z2) (q12) 0:=⟨_,bS_0⟩
    have bS_1:=(bS 1 _ rfl).1
    have bSf1:=(bS 1 _ rfl).2
    have bSi1:HasCell (z2) (q12) 1:=⟨_,bS_1⟩
    have bSb:BlockIn (z2) (q12):=BlockIn.of_cell bS_0
    clear bS
    have Hb:=Lib.hid (But.refl hc)
    go_wp2_with (go_at_call 114;(with_reducible refine zar (H7.out _ (by go_simp) (by go_simp)) ?_);intro u7)
    go_roundw
    case rel=>exact ⟨3,3,_,rfl,rfl,rfl,by omega,Lib.hid (RDistAt.of HN.out Hsg.out (zcu (Hbut.out.trans btw) (by omega) _ _ _ _) (Six.putQ (Six.but S2.out (by omega) (by omega) (by omega) (by omega) (by omega) (by omega) btw (by go_simp) (by go_simp)) 2 (by omega) Q.s (by omega) (by omega) (by omega) (by omega) (by omega) (by omega)))⟩
    case measure=>simp[intOf]
  ·obtain rfl:n=3:=by omega
   clear hi hn
   obtain ⟨but,bP,bF,b8,bD,bQ,bS,hc,hf⟩:=HS.out
   have Hb:=Lib.hid but
   clear but HS bF bD bQ bS
   generalize diTo X f r 3=x at *
   have ibc:BlockIn z c:=BlockIn.of_cell hc
   have hci:HasCell z c 0:=⟨_,hc⟩
   have bP_0:=(bP 0 _ rfl).1
   have bPf0:=(bP 0 _ rfl).2
   have bPi0:HasCell (z) (q5) 0:=⟨_,bP_0⟩
   have bP_1:=(bP 1 _ rfl).1
   have bPf1:=(bP 1 _ rfl).2
   have bPi1:HasCell (z) (q5) 1:=⟨_,bP_1⟩
   have bP_2:=(bP 2 _ rfl).1
   have bPf2:=(bP 2 _ rfl).2
   have bPi2:HasCell (z) (q5) 2:=⟨_,bP_2⟩
   have bP_3:=(bP 3 _ rfl).1
   have bPf3:=(bP 3 _ rfl).2
   have bPi3:HasCell (z) (q5) 3:=⟨_,bP_3⟩
   have bP_4:=(bP 4 _ rfl).1
   have bPf4:=(bP 4 _ rfl).2
   have bPi4:HasCell (z) (q5) 4:=⟨_,bP_4⟩
   have bP_5:=(bP 5 _ rfl).1
   have bPf5:=(bP 5 _ rfl).2
   have bPi5:HasCell (z) (q5) 5:=⟨_,bP_5⟩
   have bPb:BlockIn (z) (q5):=BlockIn.of_cell bP_0
   clear bP
   have b8_0:=(b8 0 _ rfl).1
   have b8f0:=(b8 0 _ rfl).2
   have b8i0:HasCell (z) (q8) 0:=⟨_,b8_0⟩
   have b8_1:=(b8 1 _ rfl).1
   have b8f1:=(b8 1 _ rfl).2
   have b8i1:HasCell (z) (q8) 1:=⟨_,b8_1⟩
   have b8_2:=(b8 2 _ rfl).1
   have b8f2:=(b8 2 _ rfl).2
   have b8i2:HasCell (z) (q8) 2:=⟨_,b8_2⟩
   have b8_3:=(b8 3 _ rfl).1
   have b8f3:=(b8 3 _ rfl).2
   have b8i3:HasCell (z) (q8) 3:=⟨_,b8_3⟩
   have b8_4:=(b8 4 _ rfl).1
   have b8f4:=(b8 4 _ rfl).2
   have b8i4:HasCell (z) (q8) 4:=⟨_,b8_4⟩
   have b8_5:=(b8 5 _ rfl).1
   have b8f5:=(b8 5 _ rfl).2
   have b8i5:HasCell (z) (q8) 5:=⟨_,b8_5⟩
   have b8b:BlockIn (z) (q8):=BlockIn.of_cell b8_0
   clear b8
   go_wp2
   refine bodyPost_ret (by (simp[results,Tryz.results88,go_sem]<;>rfl)) rfl ?_
   exact ⟨rfl,But.out btw Hc.out (by go_simp)⟩
end Go.Proofs.YtdkfkalplmgoeaaGreat
