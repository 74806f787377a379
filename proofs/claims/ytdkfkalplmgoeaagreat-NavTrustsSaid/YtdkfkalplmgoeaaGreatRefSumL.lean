/-
  Joined: RefSum.
-/
import Derived.Test.YtdkfkalplmgoeaaGreatLexStopL
import Derived.Test.YtdkfkalplmgoeaaGreatDistLawL
import Derived.Test.YtdkfkalplmgoeaaGreatNavDistL
namespace Go.Proofs.YtdkfkalplmgoeaaGreat
open Go.RowKit Go.Shelf
set_option maxRecDepth 100000
set_option maxHeartbeats 16000000
theorem But.trans {c:Nat} {a b d:World} (h:But c a b) (k:But c b d):But c a d:=
 ⟨k.os.trans h.os,k.tape.trans h.tape,k.output.trans h.output,Nat.le_trans h.size k.size,h.lt,fun j hj hc=>(k.block j (Nat.lt_of_lt_of_le hj h.size) hc).trans (h.block j hj hc),by
  obtain ⟨v,hv⟩:=h.kept
  obtain ⟨x,hx⟩:=k.kept
  refine ⟨x,?_⟩
  rw[hx]
  rw[zdd hv,zcK]⟩
theorem zbg {c q:Nat} {w w':World} {l:List Value} (h:zan w q l) (k:But c w w') (hq:q<w.heap.size) (hc:q≠c):zan w' q l:=fun i v hv=>by
 obtain ⟨h1,h2⟩:=h i v hv
 exact ⟨by rw[zcI (k.block q hq hc),h1],by rw[zbm (k.block q hq hc),h2]⟩
theorem zks {w:World} {q:Nat} {X:Bx} (h:XAt w q 0 X):zan w q [.int .i64 X.x.lo,.int .i64 X.x.hi,.int .i64 X.y.lo,.int .i64 X.y.hi,.int .i64 X.z.lo,.int .i64 X.z.hi]:=
 zcB (h 0 (by omega)).1 (h 0 (by omega)).2 (h 1 (by omega)).1 (h 1 (by omega)).2 (h 2 (by omega)).1 (h 2 (by omega)).2
theorem zhc {w:World} {q:Nat} {X:Bx} (h:zan w q [.int .i64 X.x.lo,.int .i64 X.x.hi,.int .i64 X.y.lo,.int .i64 X.y.hi,.int .i64 X.z.lo,.int .i64 X.z.hi]) (i:Nat) (hi:i<3) (v:Sp):zan ((w.setCell ⟨q,i*2,none⟩ (.int .i64 v.lo)).setCell ⟨q,i*2+1,none⟩ (.int .i64 v.hi)) q [.int .i64 (X.put i v).x.lo,.int .i64 (X.put i v).x.hi,.int .i64 (X.put i v).y.lo,.int .i64 (X.put i v).y.hi,.int .i64 (X.put i v).z.lo,.int .i64 (X.put i v).z.hi]:=
 zks (zh1 (zjM h) i hi v)
theorem zcu {c q:Nat} {w w':World} (h:But c w w') (hq:w.heap.size≤q) (i j:Nat) (x y:Value):But c w ((w'.setCell ⟨q,i,none⟩ x).setCell ⟨q,j,none⟩ y):=by
 have:NewFor w q:=⟨hq⟩
 exact (h.store q i x).store q j y
structure RSumAt (a X:Bx) (r:Sp) (e:Int) (c:Nat) (w:World) (q5 q6 q7 q8 i:Nat) (z:World):Prop where
 but:But c w z
 bA:zan z q5 [.int .i64 a.x.lo,.int .i64 a.x.hi,.int .i64 a.y.lo,.int .i64 a.y.hi,.int .i64 a.z.lo,.int .i64 a.z.hi]
 bX:zan z q6 [.int .i64 ((zam e a X r i).1).x.lo,.int .i64 ((zam e a X r i).1).x.hi,.int .i64 ((zam e a X r i).1).y.lo,.int .i64 ((zam e a X r i).1).y.hi,.int .i64 ((zam e a X r i).1).z.lo,.int .i64 ((zam e a X r i).1).z.hi]
 bR:zan z q7 [.int .i64 r.lo,.int .i64 r.hi]
 b8:zan z q8 [.int .i64 0,.int .i64 0,.int .i64 0,.int .i64 0,.int .i64 0,.int .i64 0]
 cell:z.cell? ⟨c,0,none⟩=some (.int .i64 (zam e a X r i).2)
 mark:z.frozen? ⟨c,0,none⟩=false
theorem RSumAt.stay {a X Y:Bx} {r:Sp} {e E':Int} {c:Nat} {w z W:World} {q5 q6 q7 q8 i:Nat} (but:But c w z) (bA:zan z q5 [.int .i64 a.x.lo,.int .i64 a.x.hi,.int .i64 a.y.lo,.int .i64 a.y.hi,.int .i64 a.z.lo,.int .i64 a.z.hi]) (bX:zan z q6 [.int .i64 Y.x.lo,.int .i64 Y.x.hi,.int .i64 Y.y.lo,.int .i64 Y.y.hi,.int .i64 Y.z.lo,.int .i64 Y.z.hi]) (bR:zan z q7 [.int .i64 r.lo,.int .i64 r.hi]) (b8:zan z q8 [.int .i64 0,.int .i64 0,.int .i64 0,.int .i64 0,.int .i64 0,.int .i64 0])
 (n5:q5≠c) (n6:q6≠c) (n7:q7≠c) (n8:q8≠c) (h:zam e a X r (i+1)=(Y,E')) (k:But c z W) (hc:W.cell? ⟨c,0,none⟩=some (.int .i64 E')) (hf:W.frozen? ⟨c,0,none⟩=false):RSumAt a X r e c w q5 q6 q7 q8 (i+1) W:=
 ⟨but.trans k,zbg bA k (World.block_lt_of_cell? _ _ (bA 0 _ rfl).1) n5,by rw[h];exact zbg bX k (World.block_lt_of_cell? _ _ (bX 0 _ rfl).1) n6,zbg bR k (World.block_lt_of_cell? _ _ (bR 0 _ rfl).1) n7,zbg b8 k (World.block_lt_of_cell? _ _ (b8 0 _ rfl).1) n8,by rw[h];exact hc,hf⟩
theorem RSumAt.put {a X Y:Bx} {v:Sp} {r:Sp} {e E':Int} {c:Nat} {w z W:World} {q5 q6 q7 q8 i:Nat} (hi:i<3) (but:But c w z) (bA:zan z q5 [.int .i64 a.x.lo,.int .i64 a.x.hi,.int .i64 a.y.lo,.int .i64 a.y.hi,.int .i64 a.z.lo,.int .i64 a.z.hi]) (bX:zan z q6 [.int .i64 Y.x.lo,.int .i64 Y.x.hi,.int .i64 Y.y.lo,.int .i64 Y.y.hi,.int .i64 Y.z.lo,.int .i64 Y.z.hi]) (bR:zan z q7 [.int .i64 r.lo,.int .i64 r.hi]) (b8:zan z q8 [.int .i64 0,.int .i64 0,.int .i64 0,.int .i64 0,.int .i64 0,.int .i64 0])
 (n5:q5≠c) (n6:q6≠c) (n7:q7≠c) (n8:q8≠c) (m5:q6≠q5) (m7:q6≠q7) (m8:q6≠q8) (hn:w.heap.size≤q6) (h:zam e a X r (i+1)=(Y.put i v,E')) (k:But c z W) (hc:W.cell? ⟨c,0,none⟩=some (.int .i64 E')) (hf:W.frozen? ⟨c,0,none⟩=false) :
 RSumAt a X r e c w q5 q6 q7 q8 (i+1) ((W.setCell ⟨q6,i*2,none⟩ (.int .i64 v.lo)).setCell ⟨q6,i*2+1,none⟩ (.int .i64 v.hi)):=by
 have ne:∀ j,(⟨q6,j,none⟩:Addr)≠⟨c,0,none⟩:=fun j e=>by injection e with e1;exact n6 e1
 refine ⟨zcu (but.trans k) hn _ _ _ _,zah (zah (zbg bA k (World.block_lt_of_cell? _ _ (bA 0 _ rfl).1) n5) m5) m5,?_,zah (zah (zbg bR k (World.block_lt_of_cell? _ _ (bR 0 _ rfl).1) n7) m7) m7,zah (zah (zbg b8 k (World.block_lt_of_cell? _ _ (b8 0 _ rfl).1) n8) m8) m8,?_,?_⟩
 ·rw[h]
  exact zhc (zbg bX k (World.block_lt_of_cell? _ _ (bX 0 _ rfl).1) n6) i hi v
 ·rw[h,World.cell?_setCell_other _ _ _ _ (ne _),World.cell?_setCell_other _ _ _ _ (ne _)]
  exact hc
 ·rw[World.frozen?_setCell,World.frozen?_setCell]
  exact hf
section
variable {e:Int} {a Y:Bx} {r:Sp} {i:Nat}
theorem zgu (h:zfC (a.at i)=true):zbd e a Y r i=(Y,(smn e a Y r i).e):=by unfold zbd;rw[if_neg (znk h)]
theorem zhR (h:(divR (smn e a Y r i).s (a.at i)).e≠0):zbd e a Y r i=(Y,(smn e a Y r i).e):=by unfold zbd;rw[if_neg h]
theorem zhT (h:(divR (smn e a Y r i).s (a.at i)).e=0):zbd e a Y r i=(Y.put i (smt e a Y r i).s,(smt e a Y r i).e):=by unfold zbd;rw[if_pos h]
instance zru:S64 (sm1 e a Y i).s:=by unfold sm1;infer_instance
instance zrv:S64 (sm2 e a Y i).s:=by unfold sm2;infer_instance
instance zrx:S64 (sms e a Y i).s:=by unfold sms;infer_instance
instance zrw:S64 (smn e a Y r i).s:=by unfold smn;infer_instance
end
theorem zgk (c:Nat) (e:Int) (a X:Bx) (r:Sp) [ha:B64 a] [hX:B64 X] [hr:S64 r] (w:World) (hc0:w.cell? ⟨c,0,none⟩=some (.int .i64 e)) (hfz0:w.frozen? ⟨c,0,none⟩=false) :
 Calls Tryz.prog 90 #[.pointer (some ⟨c,0,none⟩),.agg #[.int .i64 a.x.lo,.int .i64 a.x.hi,.int .i64 a.y.lo,.int .i64 a.y.hi,.int .i64 a.z.lo,.int .i64 a.z.hi],.agg #[.int .i64 X.x.lo,.int .i64 X.x.hi,.int .i64 X.y.lo,.int .i64 X.y.hi,.int .i64 X.z.lo,.int .i64 X.z.hi],.agg #[.int .i64 r.lo,.int .i64 r.hi]] w (RetC c (.agg #[.int .i64 ((zam e a X r 3).1).x.lo,.int .i64 ((zam e a X r 3).1).x.hi,.int .i64 ((zam e a X r 3).1).y.lo,.int .i64 ((zam e a X r 3).1).y.hi,.int .i64 ((zam e a X r 3).1).z.lo,.int .i64 ((zam e a X r 3).1).z.hi]) (sumM e a X r).e w):=by
 have ib:BlockIn w c:=BlockIn.of_cell hc0
 have hci0:HasCell w c 0:=⟨_,hc0⟩
 have Hb:=Lib.hid (But.refl hc0)
 have Hc:=Lib.hid hc0
 have lc:=ib.lt
 go_enter Tryz.func90,Tryz.ntmps90
 go_wp2
 go_loopw [9] (fun t wr=>∃ (n:Int) (i:Nat) (z:World),z=wr∧t=.int .i64 n∧n=i∧i≤3∧Hid (RSumAt a X r e c w w.heap.size (w.heap.size+1) (w.heap.size+1+1) (w.heap.size+1+1+1) i z)) (fun t _=>3-(intOf t).toNat)
 case atStart=>
  exact ⟨0,0,_,rfl,rfl,rfl,by omega,Lib.hid ⟨btw,zcB ⟨by go_simp,by go_simp⟩ ⟨by go_simp,by go_simp⟩ ⟨by go_simp,by go_simp⟩ ⟨by go_simp,by go_simp⟩ ⟨by go_simp,by go_simp⟩ ⟨by go_simp,by go_simp⟩,by show zan _ _ [.int .i64 X.x.lo,.int .i64 X.x.hi,.int .i64 X.y.lo,.int .i64 X.y.hi,.int .i64 X.z.lo,.int .i64 X.z.hi];exact zcB ⟨by go_simp,by go_simp⟩ ⟨by go_simp,by go_simp⟩ ⟨by go_simp,by go_simp⟩ ⟨by go_simp,by go_simp⟩ ⟨by go_simp,by go_simp⟩ ⟨by go_simp,by go_simp⟩,bxt,zcB ⟨by go_simp,by go_simp⟩ ⟨by go_simp,by go_simp⟩ ⟨by go_simp,by go_simp⟩ ⟨by go_simp,by go_simp⟩ ⟨by go_simp,by go_simp⟩ ⟨by go_simp,by go_simp⟩,(by show _=some (Value.int .i64 e);go_simp),by go_simp⟩⟩
 case round=>
  obtain ⟨n,i,z,rfl,rfl,hn,hi,HS⟩:=hrel
  have ls:w.heap.size+1+1+1<z.heap.size:=World.block_lt_of_cell? z _ (HS.out.b8 0 _ rfl).1
  clear Hb hc0 hfz0 hci0
  generalize h5:w.heap.size=q5 at *
  have nw5:NewFor w q5:=⟨by omega⟩
  have nw6:NewFor w (q5+1):=⟨by omega⟩
  have nw7:NewFor w (q5+1+1):=⟨by omega⟩
  have nw8:NewFor w (q5+1+1+1):=⟨by omega⟩
  generalize h6:q5+1=q6 at *
  generalize h7:q6+1=q7 at *
  generalize h8:q7+1=q8 at *
  have:Apart (q5) (q6):=⟨by omega⟩
  have:Apart (q5) (q7):=⟨by omega⟩
  have:Apart (q5) (q8):=⟨by omega⟩
  have:Apart (q5) (c):=⟨by omega⟩
  have:Apart (q6) (q5):=⟨by omega⟩
  have:Apart (q6) (q7):=⟨by omega⟩
  have:Apart (q6) (q8):=⟨by omega⟩
  have:Apart (q6) (c):=⟨by omega⟩
  have:Apart (q7) (q5):=⟨by omega⟩
  have:Apart (q7) (q6):=⟨by omega⟩
  have:Apart (q7) (q8):=⟨by omega⟩
  have:Apart (q7) (c):=⟨by omega⟩
  have:Apart (q8) (q5):=⟨by omega⟩
  have:Apart (q8) (q6):=⟨by omega⟩
  have:Apart (q8) (q7):=⟨by omega⟩
  have:Apart (q8) (c):=⟨by omega⟩
  have:Apart (c) (q5):=⟨by omega⟩
  have:Apart (c) (q6):=⟨by omega⟩
  have:Apart (c) (q7):=⟨by omega⟩
  have:Apart (c) (q8):=⟨by omega⟩
  rcases (by omega:i=0∨i=1∨i=2∨i=3) with rfl|rfl|rfl|rfl
  ·obtain rfl:n=0:=by omega
   clear hi hn
   have hstep:zam e a X r (0+1)=zbd (zam e a X r 0).2 a (zam e a X r 0).1 r 0:=rfl
   have sY:=zbP e a X r 0
   have Hhave:=Lib.hid HS.out
   obtain ⟨but,bA,bX,bR,b8,hc,hf⟩:=Hhave.out
   clear Hhave HS
   generalize (zam e a X r 0).1=Y at *
   generalize (zam e a X r 0).2=E at *
   have Hbut:=Lib.hid but
   have HbA:=Lib.hid bA
   have HbX:=Lib.hid bX
   have HbR:=Lib.hid bR
   have Hb8:=Lib.hid b8
   have sYj:S64 Y.y:=sY.y
   have sYk:S64 Y.z:=sY.z
   have sYi:S64 Y.x:=sY.x
   have saj:S64 a.y:=ha.y
   have sak:S64 a.z:=ha.z
   have sai:S64 a.x:=ha.x
   have H1:=Lib.hid (fun w' hc hf=>show Calls Tryz.prog 53 #[.pointer (some ⟨c,0,none⟩),.agg #[.int .i64 a.y.lo,.int .i64 a.y.hi],.agg #[.int .i64 Y.y.lo,.int .i64 Y.y.hi]] w' (RetC c (.agg #[.int .i64 ((sm1 E a Y 0).s).lo,.int .i64 ((sm1 E a Y 0).s).hi]) (sm1 E a Y 0).e w') from zcZ c E a.y Y.y w' hc hf)
   have H2:=Lib.hid (fun w' hc hf=>show Calls Tryz.prog 53 #[.pointer (some ⟨c,0,none⟩),.agg #[.int .i64 a.z.lo,.int .i64 a.z.hi],.agg #[.int .i64 Y.z.lo,.int .i64 Y.z.hi]] w' (RetC c (.agg #[.int .i64 ((sm2 E a Y 0).s).lo,.int .i64 ((sm2 E a Y 0).s).hi]) (sm2 E a Y 0).e w') from zcZ c (sm1 E a Y 0).e a.z Y.z w' hc hf)
   have H3:=Lib.hid (fun w' hc hf=>show Calls Tryz.prog 55 #[.pointer (some ⟨c,0,none⟩),.agg #[.int .i64 ((sm1 E a Y 0).s).lo,.int .i64 ((sm1 E a Y 0).s).hi],.agg #[.int .i64 ((sm2 E a Y 0).s).lo,.int .i64 ((sm2 E a Y 0).s).hi]] w' (RetC c (.agg #[.int .i64 ((sms E a Y 0).s).lo,.int .i64 ((sms E a Y 0).s).hi]) (sms E a Y 0).e w') from zch c (sm2 E a Y 0).e (sm1 E a Y 0).s (sm2 E a Y 0).s w' hc hf)
   have H4:=Lib.hid (fun w' hc hf=>show Calls Tryz.prog 52 #[.pointer (some ⟨c,0,none⟩),.agg #[.int .i64 r.lo,.int .i64 r.hi],.agg #[.int .i64 ((sms E a Y 0).s).lo,.int .i64 ((sms E a Y 0).s).hi]] w' (RetC c (.agg #[.int .i64 ((smn E a Y r 0).s).lo,.int .i64 ((smn E a Y r 0).s).hi]) (smn E a Y r 0).e w') from zci c (sms E a Y 0).e r (sms E a Y 0).s w' hc hf)
   have H5:=Lib.hid (fun w=>show Calls Tryz.prog 145 #[.agg #[.int .i64 ((smn E a Y r 0).s).lo,.int .i64 ((smn E a Y r 0).s).hi],.agg #[.int .i64 a.x.lo,.int .i64 a.x.hi]] w fun e w'=>e=.returned (.tuple #[.agg #[.int .i64 (divR (smn E a Y r 0).s a.x).s.lo,.int .i64 (divR (smn E a Y r 0).s a.x).s.hi],.int .i64 (divR (smn E a Y r 0).s a.x).e])∧Grew w w' from zhK (smn E a Y r 0).s a.x w)
   have H6:=Lib.hid (fun w' hc hf=>show Calls Tryz.prog 141 #[.pointer (some ⟨c,0,none⟩),.agg #[.int .i64 Y.x.lo,.int .i64 Y.x.hi],.agg #[.int .i64 ((divR (smn E a Y r 0).s a.x).s).lo,.int .i64 ((divR (smn E a Y r 0).s a.x).s).hi]] w' (RetC c (.agg #[.int .i64 ((smt E a Y r 0).s).lo,.int .i64 ((smt E a Y r 0).s).hi]) (smt E a Y r 0).e w') from zb6 c (smn E a Y r 0).e Y.x (divR (smn E a Y r 0).s a.x).s w' hc hf)
   have HZ:=Lib.hid (fun w=>show Calls Tryz.prog 144 #[.agg #[.int .i64 a.x.lo,.int .i64 a.x.hi]] w fun e w'=>e=.returned (.bool (zfC a.x))∧Grew w w' from zfb a.x w)
   have G1:=Lib.hid (fun h:zfC a.x=true=>hstep.trans (zgu (i:=0) h))
   have G2:=Lib.hid (fun h:(divR (smn E a Y r 0).s a.x).e≠0=>hstep.trans (zhR (i:=0) h))
   have G3:=Lib.hid (fun h:(divR (smn E a Y r 0).s a.x).e=0=>hstep.trans (zhT (i:=0) h))
   clear hstep but
   generalize sm1 E a Y 0=P at *
   generalize sm2 E a Y 0=Q at *
   generalize sms E a Y 0=S at *
   generalize divR (smn E a Y r 0).s a.x=dq at *
   generalize smn E a Y r 0=D at *
   generalize smt E a Y r 0=M at *
   have ib5:BlockIn z q5:=BlockIn.of_cell (bA 0 _ rfl).1
   have ib6:BlockIn z q6:=BlockIn.of_cell (bX 0 _ rfl).1
   have ib7:BlockIn z q7:=BlockIn.of_cell (bR 0 _ rfl).1
   have ib8:BlockIn z q8:=BlockIn.of_cell (b8 0 _ rfl).1
   have ibc:BlockIn z c:=BlockIn.of_cell hc
   have hci:HasCell z c 0:=⟨_,hc⟩
   have bA_0:=(bA 0 _ rfl).1
   have bAf0:=(bA 0 _ rfl).2
   have bAi0:HasCell (z) (q5) 0:=⟨_,bA_0⟩
   have bA_1:=(bA 1 _ rfl).1
   have bAf1:=(bA 1 _ rfl).2
   have bAi1:HasCell (z) (q5) 1:=⟨_,bA_1⟩
   have bA_2:=(bA 2 _ rfl).1
   have bAf2:=(bA 2 _ rfl).2
   have bAi2:HasCell (z) (q5) 2:=⟨_,bA_2⟩
   have bA_3:=(bA 3 _ rfl).1
   have bAf3:=(bA 3 _ rfl).2
   have bAi3:HasCell (z) (q5) 3:=⟨_,bA_3⟩
   have bA_4:=(bA 4 _ rfl).1
   have bAf4:=(bA 4 _ rfl).2
   have bAi4:HasCell (z) (q5) 4:=⟨_,bA_4⟩
   have bA_5:=(bA 5 _ rfl).1
   have bAf5:=(bA 5 _ rfl).2
   have bAi5:HasCell (z) (q5) 5:=⟨_,bA_5⟩
   have bAb:BlockIn (z) (q5):=BlockIn.of_cell bA_0
   clear bA
   have bX_0:=(bX 0 _ rfl).1
   have bXf0:=(bX 0 _ rfl).2
   have bXi0:HasCell (z) (q6) 0:=⟨_,bX_0⟩
   have bX_1:=(bX 1 _ rfl).1
   have bXf1:=(bX 1 _ rfl).2
   have bXi1:HasCell (z) (q6) 1:=⟨_,bX_1⟩
   have bX_2:=(bX 2 _ rfl).1
   have bXf2:=(bX 2 _ rfl).2
   have bXi2:HasCell (z) (q6) 2:=⟨_,bX_2⟩
   have bX_3:=(bX 3 _ rfl).1
   have bXf3:=(bX 3 _ rfl).2
   have bXi3:HasCell (z) (q6) 3:=⟨_,bX_3⟩
   have bX_4:=(bX 4 _ rfl).1
   have bXf4:=(bX 4 _ rfl).2
   have bXi4:HasCell (z) (q6) 4:=⟨_,bX_4⟩
   have bX_5:=(bX 5 _ rfl).1
   have bXf5:=(bX 5 _ rfl).2
   have bXi5:HasCell (z) (q6) 5:=⟨_,bX_5⟩
   have bXb:BlockIn (z) (q6):=BlockIn.of_cell bX_0
   clear bX
   have bR_0:=(bR 0 _ rfl).1
   have bRf0:=(bR 0 _ rfl).2
   have bRi0:HasCell (z) (q7) 0:=⟨_,bR_0⟩
   have bR_1:=(bR 1 _ rfl).1
   have bRf1:=(bR 1 _ rfl).2
   have bRi1:HasCell (z) (q7) 1:=⟨_,bR_1⟩
   have bRb:BlockIn (z) (q7):=BlockIn.of_cell bR_0
   clear bR
   clear b8
   have Hb:=Lib.hid (But.refl hc)
   go_wp2
   refine zaq c [E,P.e,Q.e,S.e] 19 [18] [8,16,17] [] (fun W0=>[(18,BoxR W0 [.int .i64 0,.int .i64 0])]) [.agg #[.int .i64 P.s.lo,.int .i64 P.s.hi],.agg #[.int .i64 Q.s.lo,.int .i64 Q.s.hi],.agg #[.int .i64 S.s.lo,.int .i64 S.s.hi]] [19] (by rfl) (by go_simp) (by go_simp) (by intro W0 hW0 x hx;simp only[List.mem_cons,List.not_mem_nil,or_false] at hx;rcases hx with rfl<;>first|exact zdm _ _ hW0 _) (by kernel_rfl) (by kernel_rfl) (by kernel_rfl) ?_
   intro pz hd0
   apply Exists.intro
   apply And.intro
   iterate 8 (apply zas hd0 (by kernel_rfl);(· intro uz xc;unfold zae;go_simp;rfl))
   apply zat hd0 0 (by kernel_rfl) (by rfl) (by decide)
   ·intro uz hfz hF;clear hF;unfold zaw;go_simp;exact H1.out _ (by go_simp) hfz
   iterate 7 (apply zas hd0 (by kernel_rfl);(· intro uz xc;unfold zae;go_simp;rfl))
   apply zat hd0 1 (by kernel_rfl) (by rfl) (by decide)
   ·intro uz hfz hF;clear hF;unfold zaw;go_simp;exact H2.out _ (by go_simp) hfz
   apply zat hd0 2 (by kernel_rfl) (by rfl) (by decide)
   ·intro uz hfz hF;clear hF;unfold zaw;go_simp;exact H3.out _ (by go_simp) hfz
   apply zdo hd0 (by kernel_rfl)
   ·intro uz xc hF;clear hF;unfold za6;go_simp;refine (show Made (BoxR _ [.int .i64 0,.int .i64 0]) _ _ _ from ?_);exact zdp _ _ _ _
   apply zaY
   rotate_left
   ·rfl
   intro uz hR hD hfz
   obtain ⟨q18,e18,hB18,kB18,nB18⟩:=(show BoxR _ [.int .i64 0,.int .i64 0] (pz 18) _ from hR 18 (by decide))
   clear hR hD
   rw[e18]
   clear e18
   have oB18:=zaO nB18
   have oC18:=zaP nB18
   have hB18:=zd0 hB18 hd0 nB18
   have kB18:=zcL kB18
   have hB18_0:=(hB18 0 _ rfl).1
   have hB18f0:=(hB18 0 _ rfl).2
   have hB18i0:HasCell (uz.world) (q18) 0:=⟨_,hB18_0⟩
   have hB18_1:=(hB18 1 _ rfl).1
   have hB18f1:=(hB18 1 _ rfl).2
   have hB18i1:HasCell (uz.world) (q18) 1:=⟨_,hB18_1⟩
   have hB18b:BlockIn (uz.world) (q18):=BlockIn.of_cell hB18_0
   clear hB18
   refine zak (by rfl) ?_;unfold zav;go_simp
   refine zau ?_
   have nz18:NewFor z q18:=⟨nB18.le⟩
   cases hz:zfC a.x
   ·rw[hz] at HZ
    have hd5:=G2
    by_cases hq:dq.e=0
    ·have hg:=Lib.hid (G3.out hq)
     have hq':(dq.e==0)=true:=by simp[hq]
     clear hq G1 G2 G3 hz hd5
     go_wp2_with (first|(go_at_call 52;(with_reducible refine zar (H4.out _ (by go_simp) (by go_simp)) ?_);intro u4)|(go_at_call 144;(with_reducible refine zaa (HZ.out _) ?_);intro u5))
     go_region_held3 (fun w'=>w'.cell? ⟨u4.world.heap.size,0,none⟩=some (.int .i64 D.s.lo)∧w'.cell? ⟨u4.world.heap.size,1,none⟩=some (.int .i64 D.s.hi)∧w'.cell? ⟨q5,0,none⟩=some (.int .i64 (a.x).lo)∧w'.cell? ⟨q5,1,none⟩=some (.int .i64 (a.x).hi)) (first|exact ⟨(by go_simp),(by go_simp),(by go_simp),(by go_simp)⟩) (first|(go_at_call 145;(with_reducible refine zaa (H5.out _) ?_);intro u6))
     all_goals go_wp2
     all_goals
      refine zaq c [D.e,M.e] 8 [] [6] [] (fun W0=>[]) [.agg #[.int .i64 M.s.lo,.int .i64 M.s.hi]] [8] (by rfl) (by go_simp) (by go_simp) (fun _ _ x hx=>absurd hx (List.not_mem_nil)) (by kernel_rfl) (by kernel_rfl) (by kernel_rfl) ?_
      intro pz hd0
      apply Exists.intro
      apply And.intro
      iterate 6 (apply zas hd0 (by kernel_rfl);(· intro uz xc;unfold zae;go_simp;rfl))
      apply zat hd0 0 (by kernel_rfl) (by rfl) (by decide)
      ·intro uz hfz hF;clear hF;unfold zaw;go_simp;exact H6.out _ (by go_simp) hfz
      apply zas hd0 (by kernel_rfl)
      ·intro uz xc;unfold zae;go_simp;rfl
      apply zaY
      rotate_left
      ·rfl
      intro uz hR hD hfz
      clear hR hD
      refine zak (by rfl) ?_;unfold zav;go_simp
      refine zau ?_
      go_wp2
      go_roundw
      case rel=>exact ⟨1,1,_,rfl,rfl,rfl,by omega,Lib.hid (RSumAt.put (by omega) Hbut.out HbA.out HbX.out HbR.out Hb8.out (by omega) (by omega) (by omega) (by omega) (by omega) (by omega) (by omega) (by omega) hg.out btw (by go_simp) (by go_simp))⟩
      case measure=>simp[intOf]
    ·have hg:=Lib.hid (G2.out hq)
     have hq':(dq.e==0)=false:=by simp[hq]
     clear hq G1 G2 G3 hz hd5
     go_wp2_with (first|(go_at_call 52;(with_reducible refine zar (H4.out _ (by go_simp) (by go_simp)) ?_);intro u4)|(go_at_call 144;(with_reducible refine zaa (HZ.out _) ?_);intro u5))
     go_region_held3 (fun w'=>w'.cell? ⟨u4.world.heap.size,0,none⟩=some (.int .i64 D.s.lo)∧w'.cell? ⟨u4.world.heap.size,1,none⟩=some (.int .i64 D.s.hi)∧w'.cell? ⟨q5,0,none⟩=some (.int .i64 (a.x).lo)∧w'.cell? ⟨q5,1,none⟩=some (.int .i64 (a.x).hi)) (first|exact ⟨(by go_simp),(by go_simp),(by go_simp),(by go_simp)⟩) (first|(go_at_call 145;(with_reducible refine zaa (H5.out _) ?_);intro u6))
     all_goals go_wp2
     all_goals
      go_roundw
      case rel=>exact ⟨1,1,_,rfl,rfl,rfl,by omega,Lib.hid (RSumAt.stay Hbut.out HbA.out HbX.out HbR.out Hb8.out (by omega) (by omega) (by omega) (by omega) hg.out btw (by go_simp) (by go_simp))⟩
      case measure=>simp[intOf]
   ·rw[hz] at HZ
    have hg:=Lib.hid (G1.out hz)
    clear G1 G2 G3 hz
    go_wp2_with (first|(go_at_call 52;(with_reducible refine zar (H4.out _ (by go_simp) (by go_simp)) ?_);intro u4)|(go_at_call 144;(with_reducible refine zaa (HZ.out _) ?_);intro u5))
    go_roundw
    case rel=>exact ⟨1,1,_,rfl,rfl,rfl,by omega,Lib.hid (RSumAt.stay Hbut.out HbA.out HbX.out HbR.out Hb8.out (by omega) (by omega) (by omega) (by omega) hg.out btw (by go_simp) (by go_simp))⟩
    case measure=>simp[intOf]
  ·obtain rfl:n=1:=by omega
   clear hi hn
   have hstep:zam e a X r (1+1)=zbd (zam e a X r 1).2 a (zam e a X r 1).1 r 1:=rfl
   have sY:=zbP e a X r 1
   have Hhave:=Lib.hid HS.out
   obtain ⟨but,bA,bX,bR,b8,hc,hf⟩:=Hhave.out
   clear Hhave HS
   generalize (zam e a X r 1).1=Y at *
   generalize (zam e a X r 1).2=E at *
   have Hbut:=Lib.hid but
   have HbA:=Lib.hid bA
   have HbX:=Lib.hid bX
   have HbR:=Lib.hid bR
   have Hb8:=Lib.hid b8
   have sYj:S64 Y.x:=sY.x
   have sYk:S64 Y.z:=sY.z
   have sYi:S64 Y.y:=sY.y
   have saj:S64 a.x:=ha.x
   have sak:S64 a.z:=ha.z
   have sai:S64 a.y:=ha.y
   have H1:=Lib.hid (fun w' hc hf=>show Calls Tryz.prog 53 #[.pointer (some ⟨c,0,none⟩),.agg #[.int .i64 a.x.lo,.int .i64 a.x.hi],.agg #[.int .i64 Y.x.lo,.int .i64 Y.x.hi]] w' (RetC c (.agg #[.int .i64 ((sm1 E a Y 1).s).lo,.int .i64 ((sm1 E a Y 1).s).hi]) (sm1 E a Y 1).e w') from zcZ c E a.x Y.x w' hc hf)
   have H2:=Lib.hid (fun w' hc hf=>show Calls Tryz.prog 53 #[.pointer (some ⟨c,0,none⟩),.agg #[.int .i64 a.z.lo,.int .i64 a.z.hi],.agg #[.int .i64 Y.z.lo,.int .i64 Y.z.hi]] w' (RetC c (.agg #[.int .i64 ((sm2 E a Y 1).s).lo,.int .i64 ((sm2 E a Y 1).s).hi]) (sm2 E a Y 1).e w') from zcZ c (sm1 E a Y 1).e a.z Y.z w' hc hf)
   have H3:=Lib.hid (fun w' hc hf=>show Calls Tryz.prog 55 #[.pointer (some ⟨c,0,none⟩),.agg #[.int .i64 ((sm1 E a Y 1).s).lo,.int .i64 ((sm1 E a Y 1).s).hi],.agg #[.int .i64 ((sm2 E a Y 1).s).lo,.int .i64 ((sm2 E a Y 1).s).hi]] w' (RetC c (.agg #[.int .i64 ((sms E a Y 1).s).lo,.int .i64 ((sms E a Y 1).s).hi]) (sms E a Y 1).e w') from zch c (sm2 E a Y 1).e (sm1 E a Y 1).s (sm2 E a Y 1).s w' hc hf)
   have H4:=Lib.hid (fun w' hc hf=>show Calls Tryz.prog 52 #[.pointer (some ⟨c,0,none⟩),.agg #[.int .i64 r.lo,.int .i64 r.hi],.agg #[.int .i64 ((sms E a Y 1).s).lo,.int .i64 ((sms E a Y 1).s).hi]] w' (RetC c (.agg #[.int .i64 ((smn E a Y r 1).s).lo,.int .i64 ((smn E a Y r 1).s).hi]) (smn E a Y r 1).e w') from zci c (sms E a Y 1).e r (sms E a Y 1).s w' hc hf)
   have H5:=Lib.hid (fun w=>show Calls Tryz.prog 145 #[.agg #[.int .i64 ((smn E a Y r 1).s).lo,.int .i64 ((smn E a Y r 1).s).hi],.agg #[.int .i64 a.y.lo,.int .i64 a.y.hi]] w fun e w'=>e=.returned (.tuple #[.agg #[.int .i64 (divR (smn E a Y r 1).s a.y).s.lo,.int .i64 (divR (smn E a Y r 1).s a.y).s.hi],.int .i64 (divR (smn E a Y r 1).s a.y).e])∧Grew w w' from zhK (smn E a Y r 1).s a.y w)
   have H6:=Lib.hid (fun w' hc hf=>show Calls Tryz.prog 141 #[.pointer (some ⟨c,0,none⟩),.agg #[.int .i64 Y.y.lo,.int .i64 Y.y.hi],.agg #[.int .i64 ((divR (smn E a Y r 1).s a.y).s).lo,.int .i64 ((divR (smn E a Y r 1).s a.y).s).hi]] w' (RetC c (.agg #[.int .i64 ((smt E a Y r 1).s).lo,.int .i64 ((smt E a Y r 1).s).hi]) (smt E a Y r 1).e w') from zb6 c (smn E a Y r 1).e Y.y (divR (smn E a Y r 1).s a.y).s w' hc hf)
   have HZ:=Lib.hid (fun w=>show Calls Tryz.prog 144 #[.agg #[.int .i64 a.y.lo,.int .i64 a.y.hi]] w fun e w'=>e=.returned (.bool (zfC a.y))∧Grew w w' from zfb a.y w)
   have G1:=Lib.hid (fun h:zfC a.y=true=>hstep.trans (zgu (i:=1) h))
   have G2:=Lib.hid (fun h:(divR (smn E a Y r 1).s a.y).e≠0=>hstep.trans (zhR (i:=1) h))
   have G3:=Lib.hid (fun h:(divR (smn E a Y r 1).s a.y).e=0=>hstep.trans (zhT (i:=1) h))
   clear hstep but
   generalize sm1 E a Y 1=P at *
   generalize sm2 E a Y 1=Q at *
   generalize sms E a Y 1=S at *
   generalize divR (smn E a Y r 1).s a.y=dq at *
   generalize smn E a Y r 1=D at *
   generalize smt E a Y r 1=M at *
   have ib5:BlockIn z q5:=BlockIn.of_cell (bA 0 _ rfl).1
   have ib6:BlockIn z q6:=BlockIn.of_cell (bX 0 _ rfl).1
   have ib7:BlockIn z q7:=BlockIn.of_cell (bR 0 _ rfl).1
   have ib8:BlockIn z q8:=BlockIn.of_cell (b8 0 _ rfl).1
   have ibc:BlockIn z c:=BlockIn.of_cell hc
   have hci:HasCell z c 0:=⟨_,hc⟩
   have bA_0:=(bA 0 _ rfl).1
   have bAf0:=(bA 0 _ rfl).2
   have bAi0:HasCell (z) (q5) 0:=⟨_,bA_0⟩
   have bA_1:=(bA 1 _ rfl).1
   have bAf1:=(bA 1 _ rfl).2
   have bAi1:HasCell (z) (q5) 1:=⟨_,bA_1⟩
   have bA_2:=(bA 2 _ rfl).1
   have bAf2:=(bA 2 _ rfl).2
   have bAi2:HasCell (z) (q5) 2:=⟨_,bA_2⟩
   have bA_3:=(bA 3 _ rfl).1
   have bAf3:=(bA 3 _ rfl).2
   have bAi3:HasCell (z) (q5) 3:=⟨_,bA_3⟩
   have bA_4:=(bA 4 _ rfl).1
   have bAf4:=(bA 4 _ rfl).2
   have bAi4:HasCell (z) (q5) 4:=⟨_,bA_4⟩
   have bA_5:=(bA 5 _ rfl).1
   have bAf5:=(bA 5 _ rfl).2
   have bAi5:HasCell (z) (q5) 5:=⟨_,bA_5⟩
   have bAb:BlockIn (z) (q5):=BlockIn.of_cell bA_0
   clear bA
   have bX_0:=(bX 0 _ rfl).1
   have bXf0:=(bX 0 _ rfl).2
   have bXi0:HasCell (z) (q6) 0:=⟨_,bX_0⟩
   have bX_1:=(bX 1 _ rfl).1
   have bXf1:=(bX 1 _ rfl).2
   have bXi1:HasCell (z) (q6) 1:=⟨_,bX_1⟩
   have bX_2:=(bX 2 _ rfl).1
   have bXf2:=(bX 2 _ rfl).2
   have bXi2:HasCell (z) (q6) 2:=⟨_,bX_2⟩
   have bX_3:=(bX 3 _ rfl).1
   have bXf3:=(bX 3 _ rfl).2
   have bXi3:HasCell (z) (q6) 3:=⟨_,bX_3⟩
   have bX_4:=(bX 4 _ rfl).1
   have bXf4:=(bX 4 _ rfl).2
   have bXi4:HasCell (z) (q6) 4:=⟨_,bX_4⟩
   have bX_5:=(bX 5 _ rfl).1
   have bXf5:=(bX 5 _ rfl).2
   have bXi5:HasCell (z) (q6) 5:=⟨_,bX_5⟩
   have bXb:BlockIn (z) (q6):=BlockIn.of_cell bX_0
   clear bX
   have bR_0:=(bR 0 _ rfl).1
   have bRf0:=(bR 0 _ rfl).2
   have bRi0:HasCell (z) (q7) 0:=⟨_,bR_0⟩
   have bR_1:=(bR 1 _ rfl).1
   have bRf1:=(bR 1 _ rfl).2
   have bRi1:HasCell (z) (q7) 1:=⟨_,bR_1⟩
   have bRb:BlockIn (z) (q7):=BlockIn.of_cell bR_0
   clear bR
   clear b8
   have Hb:=Lib.hid (But.refl hc)
   go_wp2
   refine zaq c [E,P.e,Q.e,S.e] 19 [18] [8,16,17] [] (fun W0=>[(18,BoxR W0 [.int .i64 0,.int .i64 0])]) [.agg #[.int .i64 P.s.lo,.int .i64 P.s.hi],.agg #[.int .i64 Q.s.lo,.int .i64 Q.s.hi],.agg #[.int .i64 S.s.lo,.int .i64 S.s.hi]] [19] (by rfl) (by go_simp) (by go_simp) (by intro W0 hW0 x hx;simp only[List.mem_cons,List.not_mem_nil,or_false] at hx;rcases hx with rfl<;>first|exact zdm _ _ hW0 _) (by kernel_rfl) (by kernel_rfl) (by kernel_rfl) ?_
   intro pz hd0
   apply Exists.intro
   apply And.intro
   iterate 8 (apply zas hd0 (by kernel_rfl);(· intro uz xc;unfold zae;go_simp;rfl))
   apply zat hd0 0 (by kernel_rfl) (by rfl) (by decide)
   ·intro uz hfz hF;clear hF;unfold zaw;go_simp;exact H1.out _ (by go_simp) hfz
   iterate 7 (apply zas hd0 (by kernel_rfl);(· intro uz xc;unfold zae;go_simp;rfl))
   apply zat hd0 1 (by kernel_rfl) (by rfl) (by decide)
   ·intro uz hfz hF;clear hF;unfold zaw;go_simp;exact H2.out _ (by go_simp) hfz
   apply zat hd0 2 (by kernel_rfl) (by rfl) (by decide)
   ·intro uz hfz hF;clear hF;unfold zaw;go_simp;exact H3.out _ (by go_simp) hfz
   apply zdo hd0 (by kernel_rfl)
   ·intro uz xc hF;clear hF;unfold za6;go_simp;refine (show Made (BoxR _ [.int .i64 0,.int .i64 0]) _ _ _ from ?_);exact zdp _ _ _ _
   apply zaY
   rotate_left
   ·rfl
   intro uz hR hD hfz
   obtain ⟨q18,e18,hB18,kB18,nB18⟩:=(show BoxR _ [.int .i64 0,.int .i64 0] (pz 18) _ from hR 18 (by decide))
   clear hR hD
   rw[e18]
   clear e18
   have oB18:=zaO nB18
   have oC18:=zaP nB18
   have hB18:=zd0 hB18 hd0 nB18
   have kB18:=zcL kB18
   have hB18_0:=(hB18 0 _ rfl).1
   have hB18f0:=(hB18 0 _ rfl).2
   have hB18i0:HasCell (uz.world) (q18) 0:=⟨_,hB18_0⟩
   have hB18_1:=(hB18 1 _ rfl).1
   have hB18f1:=(hB18 1 _ rfl).2
   have hB18i1:HasCell (uz.world) (q18) 1:=⟨_,hB18_1⟩
   have hB18b:BlockIn (uz.world) (q18):=BlockIn.of_cell hB18_0
   clear hB18
   refine zak (by rfl) ?_;unfold zav;go_simp
   refine zau ?_
   have nz18:NewFor z q18:=⟨nB18.le⟩
   cases hz:zfC a.y
   ·rw[hz] at HZ
    have hd5:=G2
    by_cases hq:dq.e=0
    ·have hg:=Lib.hid (G3.out hq)
     have hq':(dq.e==0)=true:=by simp[hq]
     clear hq G1 G2 G3 hz hd5
     go_wp2_with (first|(go_at_call 52;(with_reducible refine zar (H4.out _ (by go_simp) (by go_simp)) ?_);intro u4)|(go_at_call 144;(with_reducible refine zaa (HZ.out _) ?_);intro u5))
     go_region_held3 (fun w'=>w'.cell? ⟨u4.world.heap.size,0,none⟩=some (.int .i64 D.s.lo)∧w'.cell? ⟨u4.world.heap.size,1,none⟩=some (.int .i64 D.s.hi)∧w'.cell? ⟨q5,2,none⟩=some (.int .i64 (a.y).lo)∧w'.cell? ⟨q5,3,none⟩=some (.int .i64 (a.y).hi)) (first|exact ⟨(by go_simp),(by go_simp),(by go_simp),(by go_simp)⟩) (first|(go_at_call 145;(with_reducible refine zaa (H5.out _) ?_);intro u6))
     all_goals go_wp2
     all_goals
      refine zaq c [D.e,M.e] 8 [] [6] [] (fun W0=>[]) [.agg #[.int .i64 M.s.lo,.int .i64 M.s.hi]] [8] (by rfl) (by go_simp) (by go_simp) (fun _ _ x hx=>absurd hx (List.not_mem_nil)) (by kernel_rfl) (by kernel_rfl) (by kernel_rfl) ?_
      intro pz hd0
      apply Exists.intro
      apply And.intro
      iterate 6 (apply zas hd0 (by kernel_rfl);(· intro uz xc;unfold zae;go_simp;rfl))
      apply zat hd0 0 (by kernel_rfl) (by rfl) (by decide)
      ·intro uz hfz hF;clear hF;unfold zaw;go_simp;exact H6.out _ (by go_simp) hfz
      apply zas hd0 (by kernel_rfl)
      ·intro uz xc;unfold zae;go_simp;rfl
      apply zaY
      rotate_left
      ·rfl
      intro uz hR hD hfz
      clear hR hD
      refine zak (by rfl) ?_;unfold zav;go_simp
      refine zau ?_
      go_wp2
      go_roundw
      case rel=>exact ⟨2,2,_,rfl,rfl,rfl,by omega,Lib.hid (RSumAt.put (by omega) Hbut.out HbA.out HbX.out HbR.out Hb8.out (by omega) (by omega) (by omega) (by omega) (by omega) (by omega) (by omega) (by omega) hg.out btw (by go_simp) (by go_simp))⟩
      case measure=>simp[intOf]
    ·have hg:=Lib.hid (G2.out hq)
     have hq':(dq.e==0)=false:=by simp[hq]
     clear hq G1 G2 G3 hz hd5
     go_wp2_with (first|(go_at_call 52;(with_reducible refine zar (H4.out _ (by go_simp) (by go_simp)) ?_);intro u4)|(go_at_call 144;(with_reducible refine zaa (HZ.out _) ?_);intro u5))
     go_region_held3 (fun w'=>w'.cell? ⟨u4.world.heap.size,0,none⟩=some (.int .i64 D.s.lo)∧w'.cell? ⟨u4.world.heap.size,1,none⟩=some (.int .i64 D.s.hi)∧w'.cell? ⟨q5,2,none⟩=some (.int .i64 (a.y).lo)∧w'.cell? ⟨q5,3,none⟩=some (.int .i64 (a.y).hi)) (first|exact ⟨(by go_simp),(by go_simp),(by go_simp),(by go_simp)⟩) (first|(go_at_call 145;(with_reducible refine zaa (H5.out _) ?_);intro u6))
     all_goals go_wp2
     all_goals
      go_roundw
      case rel=>exact ⟨2,2,_,rfl,rfl,rfl,by omega,Lib.hid (RSumAt.stay Hbut.out HbA.out HbX.out HbR.out Hb8.out (by omega) (by omega) (by omega) (by omega) hg.out btw (by go_simp) (by go_simp))⟩
      case measure=>simp[intOf]
   ·rw[hz] at HZ
    have hg:=Lib.hid (G1.out hz)
    clear G1 G2 G3 hz
    go_wp2_with (first|(go_at_call 52;(with_reducible refine zar (H4.out _ (by go_simp) (by go_simp)) ?_);intro u4)|(go_at_call 144;(with_reducible refine zaa (HZ.out _) ?_);intro u5))
    go_roundw
    case rel=>exact ⟨2,2,_,rfl,rfl,rfl,by omega,Lib.hid (RSumAt.stay Hbut.out HbA.out HbX.out HbR.out Hb8.out (by omega) (by omega) (by omega) (by omega) hg.out btw (by go_simp) (by go_simp))⟩
    case measure=>simp[intOf]
  ·obtain rfl:n=2:=by omega
   clear hi hn
   have hstep:zam e a X r (2+1)=zbd (zam e a X r 2).2 a (zam e a X r 2).1 r 2:=rfl
   have sY:=zbP e a X r 2
   have Hhave:=Lib.hid HS.out
   obtain ⟨but,bA,bX,bR,b8,hc,hf⟩:=Hhave.out
   clear Hhave HS
   generalize (zam e a X r 2).1=Y at *
   generalize (zam e a X r 2).2=E at *
   have Hbut:=Lib.hid but
   have HbA:=Lib.hid bA
   have HbX:=Lib.hid bX
   have HbR:=Lib.hid bR
   have Hb8:=Lib.hid b8
   have sYj:S64 Y.x:=sY.x
   have sYk:S64 Y.y:=sY.y
   have sYi:S64 Y.z:=sY.z
   have saj:S64 a.x:=ha.x
   have sak:S64 a.y:=ha.y
   have sai:S64 a.z:=ha.z
   have H1:=Lib.hid (fun w' hc hf=>show Calls Tryz.prog 53 #[.pointer (some ⟨c,0,none⟩),.agg #[.int .i64 a.x.lo,.int .i64 a.x.hi],.agg #[.int .i64 Y.x.lo,.int .i64 Y.x.hi]] w' (RetC c (.agg #[.int .i64 ((sm1 E a Y 2).s).lo,.int .i64 ((sm1 E a Y 2).s).hi]) (sm1 E a Y 2).e w') from zcZ c E a.x Y.x w' hc hf)
   have H2:=Lib.hid (fun w' hc hf=>show Calls Tryz.prog 53 #[.pointer (some ⟨c,0,none⟩),.agg #[.int .i64 a.y.lo,.int .i64 a.y.hi],.agg #[.int .i64 Y.y.lo,.int .i64 Y.y.hi]] w' (RetC c (.agg #[.int .i64 ((sm2 E a Y 2).s).lo,.int .i64 ((sm2 E a Y 2).s).hi]) (sm2 E a Y 2).e w') from zcZ c (sm1 E a Y 2).e a.y Y.y w' hc hf)
   have H3:=Lib.hid (fun w' hc hf=>show Calls Tryz.prog 55 #[.pointer (some ⟨c,0,none⟩),.agg #[.int .i64 ((sm1 E a Y 2).s).lo,.int .i64 ((sm1 E a Y 2).s).hi],.agg #[.int .i64 ((sm2 E a Y 2).s).lo,.int .i64 ((sm2 E a Y 2).s).hi]] w' (RetC c (.agg #[.int .i64 ((sms E a Y 2).s).lo,.int .i64 ((sms E a Y 2).s).hi]) (sms E a Y 2).e w') from zch c (sm2 E a Y 2).e (sm1 E a Y 2).s (sm2 E a Y 2).s w' hc hf)
   have H4:=Lib.hid (fun w' hc hf=>show Calls Tryz.prog 52 #[.pointer (some ⟨c,0,none⟩),.agg #[.int .i64 r.lo,.int .i64 r.hi],.agg #[.int .i64 ((sms E a Y 2).s).lo,.int .i64 ((sms E a Y 2).s).hi]] w' (RetC c (.agg #[.int .i64 ((smn E a Y r 2).s).lo,.int .i64 ((smn E a Y r 2).s).hi]) (smn E a Y r 2).e w') from zci c (sms E a Y 2).e r (sms E a Y 2).s w' hc hf)
   have H5:=Lib.hid (fun w=>show Calls Tryz.prog 145 #[.agg #[.int .i64 ((smn E a Y r 2).s).lo,.int .i64 ((smn E a Y r 2).s).hi],.agg #[.int .i64 a.z.lo,.int .i64 a.z.hi]] w fun e w'=>e=.returned (.tuple #[.agg #[.int .i64 (divR (smn E a Y r 2).s a.z).s.lo,.int .i64 (divR (smn E a Y r 2).s a.z).s.hi],.int .i64 (divR (smn E a Y r 2).s a.z).e])∧Grew w w' from zhK (smn E a Y r 2).s a.z w)
   have H6:=Lib.hid (fun w' hc hf=>show Calls Tryz.prog 141 #[.pointer (some ⟨c,0,none⟩),.agg #[.int .i64 Y.z.lo,.int .i64 Y.z.hi],.agg #[.int .i64 ((divR (smn E a Y r 2).s a.z).s).lo,.int .i64 ((divR (smn E a Y r 2).s a.z).s).hi]] w' (RetC c (.agg #[.int .i64 ((smt E a Y r 2).s).lo,.int .i64 ((smt E a Y r 2).s).hi]) (smt E a Y r 2).e w') from zb6 c (smn E a Y r 2).e Y.z (divR (smn E a Y r 2).s a.z).s w' hc hf)
   have HZ:=Lib.hid (fun w=>show Calls Tryz.prog 144 #[.agg #[.int .i64 a.z.lo,.int .i64 a.z.hi]] w fun e w'=>e=.returned (.bool (zfC a.z))∧Grew w w' from zfb a.z w)
   have G1:=Lib.hid (fun h:zfC a.z=true=>hstep.trans (zgu (i:=2) h))
   have G2:=Lib.hid (fun h:(divR (smn E a Y r 2).s a.z).e≠0=>hstep.trans (zhR (i:=2) h))
   have G3:=Lib.hid (fun h:(divR (smn E a Y r 2).s a.z).e=0=>hstep.trans (zhT (i:=2) h))
   clear hstep but
   generalize sm1 E a Y 2=P at *
   generalize sm2 E a Y 2=Q at *
   generalize sms E a Y 2=S at *
   generalize divR (smn E a Y r 2).s a.z=dq at *
   generalize smn E a Y r 2=D at *
   generalize smt E a Y r 2=M at *
   have ib5:BlockIn z q5:=BlockIn.of_cell (bA 0 _ rfl).1
   have ib6:BlockIn z q6:=BlockIn.of_cell (bX 0 _ rfl).1
   have ib7:BlockIn z q7:=BlockIn.of_cell (bR 0 _ rfl).1
   have ib8:BlockIn z q8:=BlockIn.of_cell (b8 0 _ rfl).1
   have ibc:BlockIn z c:=BlockIn.of_cell hc
   have hci:HasCell z c 0:=⟨_,hc⟩
   have bA_0:=(bA 0 _ rfl).1
   have bAf0:=(bA 0 _ rfl).2
   have bAi0:HasCell (z) (q5) 0:=⟨_,bA_0⟩
   have bA_1:=(bA 1 _ rfl).1
   have bAf1:=(bA 1 _ rfl).2
   have bAi1:HasCell (z) (q5) 1:=⟨_,bA_1⟩
   have bA_2:=(bA 2 _ rfl).1
   have bAf2:=(bA 2 _ rfl).2
   have bAi2:HasCell (z) (q5) 2:=⟨_,bA_2⟩
   have bA_3:=(bA 3 _ rfl).1
   have bAf3:=(bA 3 _ rfl).2
   have bAi3:HasCell (z) (q5) 3:=⟨_,bA_3⟩
   have bA_4:=(bA 4 _ rfl).1
   have bAf4:=(bA 4 _ rfl).2
   have bAi4:HasCell (z) (q5) 4:=⟨_,bA_4⟩
   have bA_5:=(bA 5 _ rfl).1
   have bAf5:=(bA 5 _ rfl).2
   have bAi5:HasCell (z) (q5) 5:=⟨_,bA_5⟩
   have bAb:BlockIn (z) (q5):=BlockIn.of_cell bA_0
   clear bA
   have bX_0:=(bX 0 _ rfl).1
   have bXf0:=(bX 0 _ rfl).2
   have bXi0:HasCell (z) (q6) 0:=⟨_,bX_0⟩
   have bX_1:=(bX 1 _ rfl).1
   have bXf1:=(bX 1 _ rfl).2
   have bXi1:HasCell (z) (q6) 1:=⟨_,bX_1⟩
   have bX_2:=(bX 2 _ rfl).1
   have bXf2:=(bX 2 _ rfl).2
   have bXi2:HasCell (z) (q6) 2:=⟨_,bX_2⟩
   have bX_3:=(bX 3 _ rfl).1
   have bXf3:=(bX 3 _ rfl).2
   have bXi3:HasCell (z) (q6) 3:=⟨_,bX_3⟩
   have bX_4:=(bX 4 _ rfl).1
   have bXf4:=(bX 4 _ rfl).2
   have bXi4:HasCell (z) (q6) 4:=⟨_,bX_4⟩
   have bX_5:=(bX 5 _ rfl).1
   have bXf5:=(bX 5 _ rfl).2
   have bXi5:HasCell (z) (q6) 5:=⟨_,bX_5⟩
   have bXb:BlockIn (z) (q6):=BlockIn.of_cell bX_0
   clear bX
   have bR_0:=(bR 0 _ rfl).1
   have bRf0:=(bR 0 _ rfl).2
   have bRi0:HasCell (z) (q7) 0:=⟨_,bR_0⟩
   have bR_1:=(bR 1 _ rfl).1
   have bRf1:=(bR 1 _ rfl).2
   have bRi1:HasCell (z) (q7) 1:=⟨_,bR_1⟩
   have bRb:BlockIn (z) (q7):=BlockIn.of_cell bR_0
   clear bR
   clear b8
   have Hb:=Lib.hid (But.refl hc)
   go_wp2
   refine zaq c [E,P.e,Q.e,S.e] 19 [18] [8,16,17] [] (fun W0=>[(18,BoxR W0 [.int .i64 0,.int .i64 0])]) [.agg #[.int .i64 P.s.lo,.int .i64 P.s.hi],.agg #[.int .i64 Q.s.lo,.int .i64 Q.s.hi],.agg #[.int .i64 S.s.lo,.int .i64 S.s.hi]] [19] (by rfl) (by go_simp) (by go_simp) (by intro W0 hW0 x hx;simp only[List.mem_cons,List.not_mem_nil,or_false] at hx;rcases hx with rfl<;>first|exact zdm _ _ hW0 _) (by kernel_rfl) (by kernel_rfl) (by kernel_rfl) ?_
   intro pz hd0
   apply Exists.intro
   apply And.intro
   iterate 8 (apply zas hd0 (by kernel_rfl);(· intro uz xc;unfold zae;go_simp;rfl))
   apply zat hd0 0 (by kernel_rfl) (by rfl) (by decide)
   ·intro uz hfz hF;clear hF;unfold zaw;go_simp;exact H1.out _ (by go_simp) hfz
   iterate 7 (apply zas hd0 (by kernel_rfl);(· intro uz xc;unfold zae;go_simp;rfl))
   apply zat hd0 1 (by kernel_rfl) (by rfl) (by decide)
   ·intro uz hfz hF;clear hF;unfold zaw;go_simp;exact H2.out _ (by go_simp) hfz
   apply zat hd0 2 (by kernel_rfl) (by rfl) (by decide)
   ·intro uz hfz hF;clear hF;unfold zaw;go_simp;exact H3.out _ (by go_simp) hfz
   apply zdo hd0 (by kernel_rfl)
   ·intro uz xc hF;clear hF;unfold za6;go_simp;refine (show Made (BoxR _ [.int .i64 0,.int .i64 0]) _ _ _ from ?_);exact zdp _ _ _ _
   apply zaY
   rotate_left
   ·rfl
   intro uz hR hD hfz
   obtain ⟨q18,e18,hB18,kB18,nB18⟩:=(show BoxR _ [.int .i64 0,.int .i64 0] (pz 18) _ from hR 18 (by decide))
   clear hR hD
   rw[e18]
   clear e18
   have oB18:=zaO nB18
   have oC18:=zaP nB18
   have hB18:=zd0 hB18 hd0 nB18
   have kB18:=zcL kB18
   have hB18_0:=(hB18 0 _ rfl).1
   have hB18f0:=(hB18 0 _ rfl).2
   have hB18i0:HasCell (uz.world) (q18) 0:=⟨_,hB18_0⟩
   have hB18_1:=(hB18 1 _ rfl).1
   have hB18f1:=(hB18 1 _ rfl).2
   have hB18i1:HasCell (uz.world) (q18) 1:=⟨_,hB18_1⟩
   have hB18b:BlockIn (uz.world) (q18):=BlockIn.of_cell hB18_0
   clear hB18
   refine zak (by rfl) ?_;unfold zav;go_simp
   refine zau ?_
   have nz18:NewFor z q18:=⟨nB18.le⟩
   cases hz:zfC a.z
   ·rw[hz] at HZ
    have hd5:=G2
    by_cases hq:dq.e=0
    ·have hg:=Lib.hid (G3.out hq)
     have hq':(dq.e==0)=true:=by simp[hq]
     clear hq G1 G2 G3 hz hd5
     go_wp2_with (first|(go_at_call 52;(with_reducible refine zar (H4.out _ (by go_simp) (by go_simp)) ?_);intro u4)|(go_at_call 144;(with_reducible refine zaa (HZ.out _) ?_);intro u5))
     go_region_held3 (fun w'=>w'.cell? ⟨u4.world.heap.size,0,none⟩=some (.int .i64 D.s.lo)∧w'.cell? ⟨u4.world.heap.size,1,none⟩=some (.int .i64 D.s.hi)∧w'.cell? ⟨q5,4,none⟩=some (.int .i64 (a.z).lo)∧w'.cell? ⟨q5,5,none⟩=some (.int .i64 (a.z).hi)) (first|exact ⟨(by go_simp),(by go_simp),(by go_simp),(by go_simp)⟩) (first|(go_at_call 145;(with_reducible refine zaa (H5.out _) ?_);intro u6))
     all_goals go_wp2
     all_goals
      refine zaq c [D.e,M.e] 8 [] [6] [] (fun W0=>[]) [.agg #[.int .i64 M.s.lo,.int .i64 M.s.hi]] [8] (by rfl) (by go_simp) (by go_simp) (fun _ _ x hx=>absurd hx (List.not_mem_nil)) (by kernel_rfl) (by kernel_rfl) (by kernel_rfl) ?_
      intro pz hd0
      apply Exists.intro
      apply And.intro
      iterate 6 (apply zas hd0 (by kernel_rfl);(· intro uz xc;unfold zae;go_simp;rfl))
      apply zat hd0 0 (by kernel_rfl) (by rfl) (by decide)
      ·intro uz hfz hF;clear hF;unfold zaw;go_simp;exact H6.out _ (by go_simp) hfz
      apply zas hd0 (by kernel_rfl)
      ·intro uz xc;unfold zae;go_simp;rfl
      apply zaY
      rotate_left
      ·rfl
      intro uz hR hD hfz
      clear hR hD
      refine zak (by rfl) ?_;unfold zav;go_simp
      refine zau ?_
      go_wp2
      go_roundw
      case rel=>exact ⟨3,3,_,rfl,rfl,rfl,by omega,Lib.hid (RSumAt.put (by omega) Hbut.out HbA.out HbX.out HbR.out Hb8.out (by omega) (by omega) (by omega) (by omega) (by omega) (by omega) (by omega) (by omega) hg.out btw (by go_simp) (by go_simp))⟩
      case measure=>simp[intOf]
    ·have hg:=Lib.hid (G2.out hq)
     have hq':(dq.e==0)=false:=by simp[hq]
     clear hq G1 G2 G3 hz hd5
     go_wp2_with (first|(go_at_call 52;(with_reducible refine zar (H4.out _ (by go_simp) (by go_simp)) ?_);intro u4)|(go_at_call 144;(with_reducible refine zaa (HZ.out _) ?_);intro u5))
     go_region_held3 (fun w'=>w'.cell? ⟨u4.world.heap.size,0,none⟩=some (.int .i64 D.s.lo)∧w'.cell? ⟨u4.world.heap.size,1,none⟩=some (.int .i64 D.s.hi)∧w'.cell? ⟨q5,4,none⟩=some (.int .i64 (a.z).lo)∧w'.cell? ⟨q5,5,none⟩=some (.int .i64 (a.z).hi)) (first|exact ⟨(by go_simp),(by go_simp),(by go_simp),(by go_simp)⟩) (first|(go_at_call 145;(with_reducible refine zaa (H5.out _) ?_);intro u6))
     all_goals go_wp2
     all_goals
      go_roundw
      case rel=>exact ⟨3,3,_,rfl,rfl,rfl,by omega,Lib.hid (RSumAt.stay Hbut.out HbA.out HbX.out HbR.out Hb8.out (by omega) (by omega) (by omega) (by omega) hg.out btw (by go_simp) (by go_simp))⟩
      case measure=>simp[intOf]
   ·rw[hz] at HZ
    have hg:=Lib.hid (G1.out hz)
    clear G1 G2 G3 hz
    go_wp2_with (first|(go_at_call 52;(with_reducible refine zar (H4.out _ (by go_simp) (by go_simp)) ?_);intro u4)|(go_at_call 144;(with_reducible refine zaa (HZ.out _) ?_);intro u5))
    go_roundw
    case rel=>exact ⟨3,3,_,rfl,rfl,rfl,by omega,Lib.hid (RSumAt.stay Hbut.out HbA.out HbX.out HbR.out Hb8.out (by omega) (by omega) (by omega) (by omega) hg.out btw (by go_simp) (by go_simp))⟩
    case measure=>simp[intOf]
  ·obtain rfl:n=3:=by omega
   clear hi hn
   obtain ⟨but,bA,bX,bR,b8,hc,hf⟩:=HS.out
   have Hb:=Lib.hid but
   have sY:=zbP e a X r 3
   have H1:=Lib.hid (fun w' hc hf=>show Calls Tryz.prog 146 #[.pointer (some ⟨c,0,none⟩),.agg #[.int .i64 a.x.lo,.int .i64 a.x.hi,.int .i64 a.y.lo,.int .i64 a.y.hi,.int .i64 a.z.lo,.int .i64 a.z.hi],.agg #[.int .i64 ((zam e a X r 3).1).x.lo,.int .i64 ((zam e a X r 3).1).x.hi,.int .i64 ((zam e a X r 3).1).y.lo,.int .i64 ((zam e a X r 3).1).y.hi,.int .i64 ((zam e a X r 3).1).z.lo,.int .i64 ((zam e a X r 3).1).z.hi]] w' (RetC c (.agg #[.int .i64 ((sumD e a X r).s).lo,.int .i64 ((sumD e a X r).s).hi]) (sumD e a X r).e w') from zmH c (zam e a X r 3).2 a (zam e a X r 3).1 w' hc hf)
   have H2:=Lib.hid (fun w' hc hf=>show Calls Tryz.prog 141 #[.pointer (some ⟨c,0,none⟩),.agg #[.int .i64 ((sumD e a X r).s).lo,.int .i64 ((sumD e a X r).s).hi],.agg #[.int .i64 r.lo,.int .i64 r.hi]] w' (RetC c (.agg #[.int .i64 ((sumM e a X r).s).lo,.int .i64 ((sumM e a X r).s).hi]) (sumM e a X r).e w') from zb6 c (sumD e a X r).e (sumD e a X r).s r w' hc hf)
   clear but HS
   generalize (zam e a X r 3).1=Y at *
   generalize (zam e a X r 3).2=E at *
   generalize sumD e a X r=T at *
   generalize sumM e a X r=M at *
   have ibc:BlockIn z c:=BlockIn.of_cell hc
   have hci:HasCell z c 0:=⟨_,hc⟩
   have bA_0:=(bA 0 _ rfl).1
   have bAf0:=(bA 0 _ rfl).2
   have bAi0:HasCell (z) (q5) 0:=⟨_,bA_0⟩
   have bA_1:=(bA 1 _ rfl).1
   have bAf1:=(bA 1 _ rfl).2
   have bAi1:HasCell (z) (q5) 1:=⟨_,bA_1⟩
   have bA_2:=(bA 2 _ rfl).1
   have bAf2:=(bA 2 _ rfl).2
   have bAi2:HasCell (z) (q5) 2:=⟨_,bA_2⟩
   have bA_3:=(bA 3 _ rfl).1
   have bAf3:=(bA 3 _ rfl).2
   have bAi3:HasCell (z) (q5) 3:=⟨_,bA_3⟩
   have bA_4:=(bA 4 _ rfl).1
   have bAf4:=(bA 4 _ rfl).2
   have bAi4:HasCell (z) (q5) 4:=⟨_,bA_4⟩
   have bA_5:=(bA 5 _ rfl).1
   have bAf5:=(bA 5 _ rfl).2
   have bAi5:HasCell (z) (q5) 5:=⟨_,bA_5⟩
   have bAb:BlockIn (z) (q5):=BlockIn.of_cell bA_0
   clear bA
   have bX_0:=(bX 0 _ rfl).1
   have bXf0:=(bX 0 _ rfl).2
   have bXi0:HasCell (z) (q6) 0:=⟨_,bX_0⟩
   have bX_1:=(bX 1 _ rfl).1
   have bXf1:=(bX 1 _ rfl).2
   have bXi1:HasCell (z) (q6) 1:=⟨_,bX_1⟩
   have bX_2:=(bX 2 _ rfl).1
   have bXf2:=(bX 2 _ rfl).2
   have bXi2:HasCell (z) (q6) 2:=⟨_,bX_2⟩
   have bX_3:=(bX 3 _ rfl).1
   have bXf3:=(bX 3 _ rfl).2
   have bXi3:HasCell (z) (q6) 3:=⟨_,bX_3⟩
   have bX_4:=(bX 4 _ rfl).1
   have bXf4:=(bX 4 _ rfl).2
   have bXi4:HasCell (z) (q6) 4:=⟨_,bX_4⟩
   have bX_5:=(bX 5 _ rfl).1
   have bXf5:=(bX 5 _ rfl).2
   have bXi5:HasCell (z) (q6) 5:=⟨_,bX_5⟩
   have bXb:BlockIn (z) (q6):=BlockIn.of_cell bX_0
   clear bX
   have bR_0:=(bR 0 _ rfl).1
   have bRf0:=(bR 0 _ rfl).2
   have bRi0:HasCell (z) (q7) 0:=⟨_,bR_0⟩
   have bR_1:=(bR 1 _ rfl).1
   have bRf1:=(bR 1 _ rfl).2
   have bRi1:HasCell (z) (q7) 1:=⟨_,bR_1⟩
   have bRb:BlockIn (z) (q7):=BlockIn.of_cell bR_0
   clear bR
   have b8_0:=(b8 0 _ rfl).1
   have b8f0:=(b8 0 _ rfl).2
   have b8i0:HasCell (z) (q8) 0:=⟨_,b8_0⟩
   have b8_1:=(b8 1 _ rfl).1
   have b8f1:=(b8 1 _ rfl).2
   have b8i1:HasCell (z) (q8) 1:=⟨_,b8_1⟩
   have b8_2:=(b8 2 _ rfl).1
   have b8f2:=(b8 2 _ rfl).2
   have b8i2:HasCell (z) (q8) 2:=⟨_,b8_2⟩
   have b8_3:=(b8 3 _ rfl).1
   have b8f3:=(b8 3 _ rfl).2
   have b8i3:HasCell (z) (q8) 3:=⟨_,b8_3⟩
   have b8_4:=(b8 4 _ rfl).1
   have b8f4:=(b8 4 _ rfl).2
   have b8i4:HasCell (z) (q8) 4:=⟨_,b8_4⟩
   have b8_5:=(b8 5 _ rfl).1
   have b8f5:=(b8 5 _ rfl).2
   have b8i5:HasCell (z) (q8) 5:=⟨_,b8_5⟩
   have b8b:BlockIn (z) (q8):=BlockIn.of_cell b8_0
   clear b8
   go_wp2
   refine zaq c [E,T.e,M.e] 7 [] [4,6] [] (fun W0=>[]) [.agg #[.int .i64 T.s.lo,.int .i64 T.s.hi],.agg #[.int .i64 M.s.lo,.int .i64 M.s.hi]] [] (by rfl) (by go_simp) (by go_simp) (fun _ _ x hx=>absurd hx (List.not_mem_nil)) (by kernel_rfl) (by kernel_rfl) (by kernel_rfl) ?_
   intro pz hd0
   apply Exists.intro
   apply And.intro
   iterate 4 (apply zas hd0 (by kernel_rfl);(· intro uz xc;unfold zae;go_simp;rfl))
   apply zat hd0 0 (by kernel_rfl) (by rfl) (by decide)
   ·intro uz hfz hF;clear hF;unfold zaw;go_simp;exact H1.out _ (by go_simp) hfz
   apply zas hd0 (by kernel_rfl)
   ·intro uz xc;unfold zae;go_simp;rfl
   apply zat hd0 1 (by kernel_rfl) (by rfl) (by decide)
   ·intro uz hfz hF;clear hF;unfold zaw;go_simp;exact H2.out _ (by go_simp) hfz
   apply zaY
   rotate_left
   ·rfl
   intro uz hR hD hfz
   clear hR hD
   refine zau ?_
   go_wp2
   refine bodyPost_ret (by (simp[results,Tryz.results90,go_sem]<;>rfl)) rfl ?_
   exact ⟨rfl,But.out btw Hc.out (by go_simp)⟩
end Go.Proofs.YtdkfkalplmgoeaaGreat
