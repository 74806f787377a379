/-
  Joined: Row, SpanDivs.
-/
import Derived.Test.YtdkfkalplmgoeaaGreatCoreH
import Derived.Deep.AppendLies
import Derived.Test.YtdkfkalplmgoeaaGreatDivLawH
import Derived.Test.YtdkfkalplmgoeaaGreatSpanMul2H
import Derived.Deep.RegionHeld3
namespace Go.Proofs.YtdkfkalplmgoeaaGreat
open Go.RowKit
class Own (w:World) (base:Nat) (e:TypeId) (size:Nat) (v:Value) (n:outParam Nat) (xs:outParam (List Value)):Prop where
 is:w.ownsRow base e size v n xs
section
variable {w:World} {base:Nat} {e:TypeId} {size:Nat} {v:Value} {n:Nat} {xs:List Value}
instance zuc (o:Obj) [h:Own w base e size v n xs]:Own (w.alloc o) base e size v n xs:=⟨h.is.alloc o⟩
instance zvb [h:Own w base e size v n xs]:Own w.drew base e size v n xs:=⟨h.is.drew⟩
instance zud (u:Later w) [h:Own w base e size v n xs]:Own u.world base e size v n xs:=⟨za7 h.is u.grew⟩
theorem zov [h:Own w base e size v n xs] {k:Nat} (hk:v.ownBlock=some k):k<w.heap.size:=by
 rcases h.is.2 with ⟨rfl,-⟩|⟨g,cap,cur,rfl,-,hh,-⟩
 ·cases hk
 ·cases hk
  exact (Array.getElem?_eq_some_iff.1 hh).1
theorem zd4 {w':World} {row:Option Nat} (h:w.ownsRow base e size v n xs) (g:w.grownBy w' row) (hne:∀ k,v.ownBlock=some k→row≠some k):w'.ownsRow base e size v n xs:=by
 obtain ⟨h1,h2⟩:=h
 refine ⟨h1,?_⟩
 rcases h2 with h2|⟨b,cap,cur,rfl,hg,hh,r⟩
 ·exact .inl h2
 ·refine .inr ⟨b,cap,cur,rfl,hg,?_,r⟩
  rw[g.block b (Array.getElem?_eq_some_iff.1 hh).1 (fun e=>hne b rfl e.symm),hh]
theorem zaR (h:w.ownsRow base e size v n xs) (c j:Nat) (x:Value) (hne:v.ownBlock≠some c):(w.setCell ⟨c,j,none⟩ x).ownsRow base e size v n xs:=by
 obtain ⟨h1,h2⟩:=h
 refine ⟨h1,?_⟩
 rcases h2 with h2|⟨b,cap,cur,rfl,hg,hh,r⟩
 ·exact .inl h2
 ·refine .inr ⟨b,cap,cur,rfl,hg,?_,r⟩
  rw[Below.heap_setCell _ _ _ _ (show b≠c from fun e=>hne (by rw[←e];rfl)),hh]
end
class NotRow (b:Nat) (v:Value):Prop where
 ne:v.ownBlock≠some b
instance zr4 (w:World) (base:Nat) (e:TypeId) (size:Nat) (v:Value) (n:Nat) (xs:List Value) (c j:Nat) (x:Value) [h:Own w base e size v n xs] [k:NotRow c v]:Own (w.setCell ⟨c,j,none⟩ x) base e size v n xs:=⟨zaR h.is c j x k.ne⟩
theorem zdH {w:World} {base:Nat} {e:TypeId} {size:Nat} {v:Value} {n:Nat} {xs:List Value} (h:w.ownsRow base e size v n xs) (b:Nat) [k:NewFor w b]:NotRow b v:=
 ⟨fun hb=>by
  have:Own w base e size v n xs:=⟨h⟩
  have:=zov (w:=w) (base:=base) (e:=e) (size:=size) hb
  have:=k.le
  omega⟩
theorem zfE {w:World} {base:Nat} {e:TypeId} {size:Nat} {v:Value} {n:Nat} {xs:List Value} (h:w.ownsRow base e size v n xs) (b:Nat) (hb:b<base):NotRow b v:=
 ⟨fun hk=>by have:=zaN h b hk;omega⟩
theorem zdA {w:World} {b:Nat} {l:List Value} [h:RowAt w b l]:∀ j u,l[j]?=some u→w.cell? ((⟨b,0,none⟩:Addr).add j)=some u:=by
 intro j u hj
 rw[Addr.add_lit,Nat.zero_add]
 exact h.is j u hj
theorem zst {w w':World} {v:Value} (g:w.grownBy w' v.ownBlock) (b:Nat) (l:List Value) [h:RowAt w b l] [k:NotRow b v]:RowAt w' b l:=
 ⟨fun i x hx=>by rw[g.cell_far _ (World.block_lt_of_cell? w _ (h.is i x hx)) (fun e=>k.ne e.symm),h.is i x hx]⟩
theorem zd2 {w w':World} {v:Value} (g:w.grownBy w' v.ownBlock):∀ (b:Nat) (l:List Value) [RowAt w b l] [NotRow b v],RowAt w' b l:=fun b l _ _=>zst g b l
theorem zry {w w':World} {v:Value} (g:w.grownBy w' v.ownBlock) (b:Nat) (l:List Value) (h:zav w b l) (k:NotRow b v):zav w' b l:=fun i x hx=>by
 obtain ⟨h1,h2⟩:=h i x hx
 have hlt:=World.block_lt_of_cell? w _ h1
 exact ⟨by rw[g.cell_far _ hlt (fun e=>k.ne e.symm),h1],by rw[g.frozen_far _ hlt (fun e=>k.ne e.symm),h2]⟩
def zbC (v1 v2:Value):Prop:=∀ k,v1.ownBlock=some k→v2.ownBlock≠some k
theorem zgx (v:Value):zbC (.slice none 0 0) v:=fun k h=>by cases h
theorem zbC.symm {v1 v2:Value} (h:zbC v1 v2):zbC v2 v1:=fun k h2 h1=>h k h1 h2
theorem zdL {w:World} {base:Nat} {e:TypeId} {size:Nat} {v1 v2:Value} {n:Nat} {xs:List Value} (h:w.ownsRow base e size v2 n xs) (hap:zbC v1 v2) {g m cap:Nat} (hat:v1.ownBlock=some g∨g=w.heap.size):zbC (.slice (some ⟨g,0,none⟩) m cap) v2:=by
 intro k hk
 cases hk
 have:Own w base e size v2 n xs:=⟨h⟩
 rcases hat with h1|h1
 ·exact hap g h1
 ·intro h2
  have h3:=zov (w:=w) (base:=base) (e:=e) (size:=size) h2
  simp only[] at h3
  omega
theorem zdZ {w:World} {base:Nat} {e:TypeId} {size:Nat} {v1 v2:Value} {n:Nat} {xs:List Value} (h:w.ownsRow base e size v1 n xs) (hap:zbC v1 v2) {g m cap:Nat} (hat:v2.ownBlock=some g∨g=w.heap.size):zbC v1 (.slice (some ⟨g,0,none⟩) m cap):=
 (zdL h hap.symm hat).symm
theorem zd6 {w:World} {b:Nat} {l:List Value} (h:zav w b l):RowAt w b l:=⟨fun i x hx=>(h i x hx).1⟩
theorem ze2 {P:Program} {c:Code} {Q:Exit→Act→World→Prop} {a:Act} {z w:World} (g:Grew z w) (h:∀ y:Later z,y.world=w→c.wp P Q a y.world):c.wp P Q a w:=h ⟨w,g⟩ rfl
theorem zg2 {w:World} {b:Nat} {v:Value} [h:NotRow b v] {g m cap:Nat} (hb:b<w.heap.size) (hat:v.ownBlock=some g∨g=w.heap.size):NotRow b (.slice (some ⟨g,0,none⟩) m cap):=
 ⟨fun e=>by
  obtain rfl:g=b:=by simpa [Value.ownBlock] using e
  rcases hat with h1|h1
  ·exact h.ne h1
  ·omega⟩
theorem zgm {w:World} {base:Nat} {e:TypeId} {size:Nat} {v:Value} {n:Nat} {xs:List Value} (h:w.ownsRow base e size v n xs) (h0:0<n):∃ ao cap,v=.slice ao n cap∧n≤cap∧n≤maxLen:=by
 rcases h.2 with ⟨-,h1⟩|⟨g,cap,cur,rfl,-,-,h2,h3,-⟩
 ·omega
 ·exact ⟨_,_,rfl,h2,Nat.le_trans h2 h3⟩
end Go.Proofs.YtdkfkalplmgoeaaGreat
namespace Go.Proofs.YtdkfkalplmgoeaaGreat
open Go.RowKit
set_option maxRecDepth 100000
set_option maxHeartbeats 2000000
def ratX (a b:Int):Big:=zcC (decide (a<0) != decide (b<0)) (a.natAbs*4294967296)
def zcJ (a b:Int):Big:=zbk (ratX a b) b.natAbs
def zcK (a b:Int):Big:=zdb (ratX a b) b.natAbs
theorem zsf (a b:Int) (ha:I64 a):(ratX a b).ok:=zch _ _ (by unfold I64 at ha;unfold B128;omega)
theorem zlW (a b:Int):(ratX a b).val=if b<0 then -a*4294967296 else a*4294967296:=by
 unfold ratX
 rw[zfl]
 by_cases h1:a<0<;>by_cases h2:b<0<;>simp[h1,h2]<;>omega
theorem zgt (a b:Int):(zcJ a b).val=zbU a b:=by
 unfold zcJ zbU
 rw[zfT,zlW]
 split
 ·rw[show (b.natAbs:Int)=-b by omega]
 ·rw[show (b.natAbs:Int)=b by omega]
theorem zgu (a b:Int):(zcK a b).val=zez a b:=by
 unfold zcK zez
 rw[zhA,zlW]
 split
 ·rw[show (b.natAbs:Int)=-b by omega]
 ·rw[show (b.natAbs:Int)=b by omega]
theorem ziX (m d:Int) (h0:0≤m) (hm:m<170141183460469231731687303715884105728) (hd:1≤d):B128 (zbl m d)∧B128 (upZ m d):=by
 have h1:=Int.ediv_nonneg h0 (show 0≤d by omega)
 have h2:=Int.ediv_le_self d h0
 rw[zh9 m d hd]
 unfold B128 zbl
 refine ⟨by omega,?_⟩
 split<;>omega
theorem zlV (a b:Int):(ratX a b).m=a.natAbs*4294967296:=zgL _ _
theorem zhm (a b:Int) (ha:I64 a) (hb:b≠0):(zcJ a b).ok:=by
 have h:=ziX (ratX a b).m b.natAbs (by rw[zlV];omega) (by rw[zlV];unfold I64 at ha;omega) (by omega)
 unfold zcJ zbk
 split
 ·exact zch _ _ h.2
 ·exact zch _ _ h.1
theorem zhn (a b:Int) (ha:I64 a) (hb:b≠0):(zcK a b).ok:=by
 have h:=ziX (ratX a b).m b.natAbs (by rw[zlV];omega) (by rw[zlV];unfold I64 at ha;omega) (by omega)
 unfold zcK zdb
 split
 ·exact zch _ _ h.1
 ·exact zch _ _ h.2
theorem zlb (a b:Int) (ha:I64 a) (hb:I64 b) (h0:b≠0) (w:World):Calls Tryz.prog 175 #[.int .i64 a,.int .i64 b] w fun e w'=>e=.returned (.tuple #[.agg #[.bool (zcJ a b).neg,.int .u64 (zcJ a b).hi,.int .u64 (zcJ a b).lo],.agg #[.bool (zcK a b).neg,.int .u64 (zcK a b).hi,.int .u64 (zcK a b).lo]])∧Grew w w':=by
 have hm:(ofB a).m<79228162514264337593543950336:=by rw[zmG];unfold I64 at ha;omega
 have ex:zln (ofB a)=zcC (decide (a<0)) (a.natAbs*4294967296):=by unfold zln;rw[zmG];rfl
 have Hu:=Lib.hid (fun w=>zgY (ofB a) (zgi a ha) hm w)
 rw[ex] at Hu
 have Ha:=Lib.hid (fun w=>zbI a ha w)
 have Hb:=Lib.hid (fun w=>zbI b hb w)
 have e1:ofB b=⟨decide (b<0),0,b.natAbs⟩:=by
  unfold ofB zcC
  unfold I64 at hb
  congr 1<;>omega
 have e2:zcC (decide (a<0)) (a.natAbs*4294967296)=⟨decide (a<0),(ratX a b).hi,(ratX a b).lo⟩:=rfl
 have e3:ratX a b=⟨decide (a<0) != decide (b<0),(ratX a b).hi,(ratX a b).lo⟩:=rfl
 have hd:=fun w=>zgF (ratX a b) ⟨false,0,b.natAbs⟩ (zsf a b ha) (ziZ b.natAbs (by omega) (by unfold I64 at hb;omega)) rfl (by show 1≤(b.natAbs:Int);omega) rfl w
 have Hdw:=Lib.hid (show (⟨(zcJ a b).neg,(zcJ a b).hi,(zcJ a b).lo⟩:Big)=zcJ a b from rfl)
 have Huw:=Lib.hid (show (⟨(zcK a b).neg,(zcK a b).hi,(zcK a b).lo⟩:Big)=zcK a b from rfl)
 change ∀ w,Calls Tryz.prog 180 #[.agg #[.bool (decide (a<0) != decide (b<0)),.int .u64 (ratX a b).hi,.int .u64 (ratX a b).lo],.agg #[.bool false,.int .u64 0,.int .u64 b.natAbs]] w fun e w'=>e=.returned (.tuple #[.agg #[.bool (zcJ a b).neg,.int .u64 (zcJ a b).hi,.int .u64 (zcJ a b).lo],.agg #[.bool (zcK a b).neg,.int .u64 (zcK a b).hi,.int .u64 (zcK a b).lo]])∧Grew w w' at hd
 rw[e2] at Hu
 rw[e1] at Hb
 clear e1 e2 e3 ex hm ha hb
 generalize zcJ a b=D at *
 generalize zcK a b=U at *
 generalize (ratX a b).hi=xh at *
 generalize (ratX a b).lo=xl at *
 generalize decide (a<0)=sa at *
 generalize decide (b<0)=sb at *
 generalize (b.natAbs:Int)=nb at *
 have e11:(true != true)=false:=rfl
 have e10:(true != false)=true:=rfl
 have e01:(false != true)=true:=rfl
 have e00:(false != false)=false:=rfl
 cases sa<;>cases sb
 all_goals
  simp only[e11,e10,e01,e00] at hd
  have Hd:=Lib.hid hd
  clear hd e11 e10 e01 e00
  go_enter Tryz.func175,Tryz.ntmps175
  go_wp2_with (first|(go_at_call 63;(with_reducible refine zaa (Ha.out _) ?_);intro u)|(go_at_call 63;(with_reducible refine zaa (Hb.out _) ?_);intro u)|(go_at_call 196;(with_reducible refine zaa (Hu.out _) ?_);intro u)|(go_at_call 180;(with_reducible refine zaa (Hd.out _) ?_);intro u))
  refine bodyPost_ret (by (simp[results,Tryz.results175,go_sem]<;>rfl)) rfl ?_
  exact ⟨rfl,gw⟩
end Go.Proofs.YtdkfkalplmgoeaaGreat
namespace Go.Proofs.YtdkfkalplmgoeaaGreat
open Go.RowKit
set_option maxRecDepth 100000
set_option maxHeartbeats 8000000
def nthS (a:Sp) (k:Nat):Int:=if k=0 then a.lo else a.hi
theorem zlP (a:Sp) [h:S64 a] (k:Nat):I64 (nthS a k):=by
 unfold nthS
 split
 ·exact h.lo
 ·exact h.hi
def zoU (a b:Sp):List (Int × Int):=[(a.lo,b.lo),(a.lo,b.hi),(a.hi,b.lo),(a.hi,b.hi)]
def zhB (a b:Sp) (n:Nat):List Big:=((zoU a b).take n).map fun p=>zcJ p.1 p.2
def zfb (a b:Sp) (n:Nat):List Big:=((zoU a b).take n).map fun p=>zcK p.1 p.2
theorem zqN (a b:Sp) (k j:Nat) (hk:k<2) (hj:j<2):(zoU a b)[2*k+j]?=some (nthS a k,nthS b j):=by
 rcases (show k=0∨k=1 by omega) with rfl|rfl<;>rcases (show j=0∨j=1 by omega) with rfl|rfl<;>rfl
theorem zkA (a b:Sp) (k j:Nat) (hk:k<2) (hj:j<2):(zhB a b (2*k+j+1)).flatMap Big.cells=(zhB a b (2*k+j)).flatMap Big.cells++[.bool ((zcJ (nthS a k) (nthS b j))).neg,.int .u64 ((zcJ (nthS a k) (nthS b j))).hi,.int .u64 ((zcJ (nthS a k) (nthS b j))).lo]:=by
 unfold zhB
 rw[List.take_add_one,zqN a b k j hk hj]
 simp[Big.cells]
theorem zjx (a b:Sp) (k j:Nat) (hk:k<2) (hj:j<2):(zfb a b (2*k+j+1)).flatMap Big.cells=(zfb a b (2*k+j)).flatMap Big.cells++[.bool ((zcK (nthS a k) (nthS b j))).neg,.int .u64 ((zcK (nthS a k) (nthS b j))).hi,.int .u64 ((zcK (nthS a k) (nthS b j))).lo]:=by
 unfold zfb
 rw[List.take_add_one,zqN a b k j hk hj]
 simp[Big.cells]
theorem znS:(Tryz.prog.info? 123).map (fun i=>(i.zero,i.size,i.bytes))=some (some (.agg #[.bool false,.int .u64 0,.int .u64 0]),3,24):=by kernel_rfl
structure DivAt (a b:Sp) (W:World) (n:Nat) (v1 v2:Value) (wr:World):Prop where
 grew:Grew W wr
 own1:wr.ownsRow W.heap.size 123 3 v1 n ((zhB a b n).flatMap Big.cells)
 own2:wr.ownsRow W.heap.size 123 3 v2 n ((zfb a b n).flatMap Big.cells)
 apart:zbC v1 v2
theorem zo7 (a b:Sp) [ha:S64 a] [hb:S64 b] (hk:(a.okB&&b.okB)=true) (hb1:b.lo≠0) (hb2:b.hi≠0) (w:World) (hz:decide (b.lo≤0)=false∨(decide (b.lo≤0)=true∧decide (0≤b.hi)=false))
 (R:Res) (hR:fitR (leastB (zcJ a.lo b.lo) [zcJ a.lo b.hi,zcJ a.hi b.lo,zcJ a.hi b.hi]).val (zcp (zcK a.lo b.lo) [zcK a.lo b.hi,zcK a.hi b.lo,zcK a.hi b.hi]).val=R):Calls Tryz.prog 137 #[.agg #[.int .i64 a.lo,.int .i64 a.hi],.agg #[.int .i64 b.lo,.int .i64 b.hi]] w fun e w'=>e=.returned (.tuple #[.agg #[.int .i64 R.s.lo,.int .i64 R.s.hi],.int .i64 R.e])∧Grew w w':=by
 have Hf:=Lib.hid hR
 have hne:∀ j,nthS b j≠0:=fun j=>by unfold nthS;split<;>assumption
 have Hne:=Lib.hid hne
 obtain ⟨i0,hi,hz0,hzz1,hzz2⟩:=info_parts znS
 have Hinf:=Lib.hid (And.intro hi (And.intro hz0 (And.intro hzz1 hzz2)))
 clear hi hz0 hzz1 hzz2
 clear hR hne hb1 hb2
 rcases hz with hz1|⟨hz1,hz2⟩
 all_goals
  go_enter Tryz.func137,Tryz.ntmps137
  go_wp2_with (first|(go_at_call 60;(with_reducible refine zaa (zbx a b hk _ _ (SlAt.fresh _ _ _ _ (by simp[maxLen]))) ?_);intro u)|((with_reducible refine zab ?_ ?_ ?_);(· kernel_rfl);(· kernel_rfl);(try simp only[List.append_eq,List.cons_append,List.nil_append]);(repeat (go_big_quiet_step ((first|(go_at_call 60;(with_reducible exact zac (zbx a b hk _ _ (SlAt.fresh _ _ _ _ (by simp[maxLen])))))))));refine wpQuiet_nil ?_;rintro _ ⟨u,rfl⟩))
  refine ze2 (z:=w) gw ?_
  intro W hW
  have hA:zav W.world w.heap.size [.int .i64 a.lo,.int .i64 a.hi]:=by rw[hW];exact bxt
  have hB:zav W.world (w.heap.size+1) [.int .i64 b.lo,.int .i64 b.hi]:=by rw[hW];exact bxt
  have hC:zav W.world (w.heap.size+1+1) [.int .i64 0,.int .i64 0]:=by rw[hW];exact bxt
  have hS:RowAt W.world u.world.heap.size [.int .i64 (nthS a 0),.int .i64 (nthS a 1)]:=by
   rw[hW]
   show RowAt _ _ [.int .i64 a.lo,.int .i64 a.hi]
   infer_instance
  have gW:Grew w W.world:=W.grew
  clear hW
  have hA_0:=(hA 0 _ rfl).1
  have hAf0:=(hA 0 _ rfl).2
  have hAi0:HasCell (W.world) (w.heap.size) 0:=⟨_,hA_0⟩
  have hA_1:=(hA 1 _ rfl).1
  have hAf1:=(hA 1 _ rfl).2
  have hAi1:HasCell (W.world) (w.heap.size) 1:=⟨_,hA_1⟩
  have hAb:BlockIn (W.world) (w.heap.size):=BlockIn.of_cell hA_0
  clear hA
  have hB_0:=(hB 0 _ rfl).1
  have hBf0:=(hB 0 _ rfl).2
  have hBi0:HasCell (W.world) (w.heap.size+1) 0:=⟨_,hB_0⟩
  have hB_1:=(hB 1 _ rfl).1
  have hBf1:=(hB 1 _ rfl).2
  have hBi1:HasCell (W.world) (w.heap.size+1) 1:=⟨_,hB_1⟩
  have hBb:BlockIn (W.world) (w.heap.size+1):=BlockIn.of_cell hB_0
  clear hB
  have hC_0:=(hC 0 _ rfl).1
  have hCf0:=(hC 0 _ rfl).2
  have hCi0:HasCell (W.world) (w.heap.size+1+1) 0:=⟨_,hC_0⟩
  have hC_1:=(hC 1 _ rfl).1
  have hCf1:=(hC 1 _ rfl).2
  have hCi1:HasCell (W.world) (w.heap.size+1+1) 1:=⟨_,hC_1⟩
  have hCb:BlockIn (W.world) (w.heap.size+1+1):=BlockIn.of_cell hC_0
  clear hC
  have hS0:=hS.is 0 _ rfl
  have ibS:BlockIn W.world u.world.heap.size:=BlockIn.of_cell hS0
  go_loopw [7,8,42] (fun v1 v2 t wr=>∃ (k:Nat) (v7 v8:Value),t=.int .i64 k∧v7=v1∧v8=v2∧k≤2∧DivAt a b W.world (2*k) v7 v8 wr) (fun _ _ t _=>2-(intOf t).toNat)
  case atStart=>exact ⟨0,_,_,rfl,rfl,rfl,by omega,Grew.refl _,World.ownsRow_nil _ _ _ _,World.ownsRow_nil _ _ _ _,zgx _⟩
  case round=>
   obtain ⟨k,v7,v8,rfl,rfl,rfl,hk2,hD⟩:=hrel
   obtain ⟨hg,ho1,ho2,hap⟩:=hD
   obtain ⟨z,rfl⟩:=zal hg
   clear hg
   by_cases hlt:k<2
   ·have hx:z.world.cell? ⟨u.world.heap.size,k,none⟩=some (.int .i64 (nthS a k)):=by
     rw[z.cell]
     rcases (show k=0∨k=1 by omega) with rfl|rfl
     ·exact hS.is 0 _ rfl
     ·exact hS.is 1 _ rfl
    have Hxi:=Lib.hid (zlP a k)
    generalize hxe:nthS a k=x at *
    have Hxe:=Lib.hid hxe
    clear hxe
    have io1:Own z.world W.world.heap.size 123 3 v7 (2*k) ((zhB a b (2*k)).flatMap Big.cells):=⟨ho1⟩
    have io2:Own z.world W.world.heap.size 123 3 v8 (2*k) ((zfb a b (2*k)).flatMap Big.cells):=⟨ho2⟩
    have hltd:decide ((k:Int)<2)=true:=by simp;omega
    go_wp2
    go_loopw [7,8,52] (fun v1 v2 t wr=>∃ (j:Nat) (v7 v8:Value),t=.int .i64 j∧v7=v1∧v8=v2∧j≤2∧DivAt a b W.world (2*k+j) v7 v8 wr∧RowAt wr z.world.heap.size [.int .i64 (nthS b 0),.int .i64 (nthS b 1)]∧NotRow z.world.heap.size v7∧NotRow z.world.heap.size v8) (fun _ _ t _=>2-(intOf t).toNat)
    case atStart=>
     refine ⟨0,_,_,rfl,rfl,rfl,by omega,⟨gw,(io1.is.alloc _),(io2.is.alloc _),hap⟩,?_,zdH io1.is _,zdH io2.is _⟩
     show RowAt _ _ [.int .i64 b.lo,.int .i64 b.hi]
     infer_instance
    case round=>
     obtain ⟨j,v7,v8,rfl,rfl,rfl,hj2,hD,hS5,hn7,hn8⟩:=hrel
     clear io1 io2 ho1 ho2 hap
     obtain ⟨hg,ho1,ho2,hap⟩:=hD
     obtain ⟨y,rfl⟩:=zal hg
     clear hg
     have hS50:=hS5.is 0 _ rfl
     have ib5:BlockIn y.world z.world.heap.size:=BlockIn.of_cell hS50
     by_cases hlt2:j<2
     ·have hy:y.world.cell? ⟨z.world.heap.size,j,none⟩=some (.int .i64 (nthS b j)):=by
       rcases (show j=0∨j=1 by omega) with rfl|rfl
       ·exact hS5.is 0 _ rfl
       ·exact hS5.is 1 _ rfl
      have io1:Own y.world W.world.heap.size 123 3 v7 (2*k+j) ((zhB a b (2*k+j)).flatMap Big.cells):=⟨ho1⟩
      have io2:Own y.world W.world.heap.size 123 3 v8 (2*k+j) ((zfb a b (2*k+j)).flatMap Big.cells):=⟨ho2⟩
      have Hd1:=Lib.hid (zkA a b k j hlt hlt2)
      have Hd2:=Lib.hid (zjx a b k j hlt hlt2)
      have Hyi:=Lib.hid (zlP b j)
      have Hyn:=Lib.hid (Hne.out j)
      rw[Hxe.out] at Hd1 Hd2
      generalize nthS b j=yv at *
      have HT:=Lib.hid (fun w=>zlb x yv Hxi.out Hyi.out Hyn.out w)
      generalize zcJ x yv=D at *
      generalize zcK x yv=U at *
      go_wp2_with (first|(go_at_call 175;(with_reducible refine zaa (HT.out _) ?_);intro u5))
      have nq13:NewFor y.world u5.world.heap.size:=inferInstance
      have nq14:NewFor y.world (u5.world.heap.size+1):=inferInstance
      refine ze2 (z:=y.world) gw ?_
      intro Y hY
      have b13:zav Y.world u5.world.heap.size [.bool D.neg,.int .u64 D.hi,.int .u64 D.lo]:=by rw[hY];exact zbO (by go_simp) (by go_simp) (by go_simp) (by go_simp) (by go_simp) (by go_simp)
      have b14:zav Y.world (u5.world.heap.size+1) [.bool U.neg,.int .u64 U.hi,.int .u64 U.lo]:=by rw[hY];exact zbO (by go_simp) (by go_simp) (by go_simp) (by go_simp) (by go_simp) (by go_simp)
      clear hY
      have r13:=zd6 b13
      have r14:=zd6 b14
      clear b13 b14
      have inr1:∀ b,[NewFor y.world b]→NotRow b v7:=fun b=>zdH io1.is b
      have inr2:∀ b,[NewFor y.world b]→NotRow b v8:=fun b=>zdH io2.is b
      have hbase:W.world.heap.size≤Y.world.heap.size:=Nat.le_trans y.grew.size Y.grew.size
      have hm:2*k+j<4:=by omega
      have ns13:NewFor y.world Y.world.heap.size:=inferInstance
      obtain ⟨hi,hz0,hzz1,hzz2⟩:=Hinf.out
      go_region_held3 (fun w'=>w'.cell? ⟨u5.world.heap.size,0,none⟩=some (.bool D.neg)∧w'.cell? ⟨u5.world.heap.size,1,none⟩=some (.int .u64 D.hi)∧w'.cell? ⟨u5.world.heap.size,2,none⟩=some (.int .u64 D.lo)∧w'.cell? ⟨u5.world.heap.size+1,0,none⟩=some (.bool U.neg)∧w'.cell? ⟨u5.world.heap.size+1,1,none⟩=some (.int .u64 U.hi)∧w'.cell? ⟨u5.world.heap.size+1,2,none⟩=some (.int .u64 U.lo))
       (exact ⟨RowAt.is (l:=[.bool D.neg,.int .u64 D.hi,.int .u64 D.lo]) 0 _ rfl,RowAt.is (l:=[.bool D.neg,.int .u64 D.hi,.int .u64 D.lo]) 1 _ rfl,RowAt.is (l:=[.bool D.neg,.int .u64 D.hi,.int .u64 D.lo]) 2 _ rfl,RowAt.is (l:=[.bool U.neg,.int .u64 U.hi,.int .u64 U.lo]) 0 _ rfl,RowAt.is (l:=[.bool U.neg,.int .u64 U.hi,.int .u64 U.lo]) 1 _ rfl,RowAt.is (l:=[.bool U.neg,.int .u64 U.hi,.int .u64 U.lo]) 2 _ rfl⟩)
       (first
         |(refine step_append_lies _ (by rfl) _ _ 214 (by rfl) W.world.heap.size 123 i0 _ 3 24 Tryz.underlying214 hi hz0 hzz1 hzz2 (by rfl) (by decide) v7 _ _ (by rfl) Own.is ⟨_,0,none⟩ 1 1 [.bool D.neg,.int .u64 D.hi,.int .u64 D.lo] (by rfl) (by rfl) zdA (by simp[Value.oneCell']) (by decide) (by simp[maxLen];omega) (by omega) (by (try simp);omega) _ rfl ?_
           intro g1 cap1 w1 hown1 hgrow1 hat1 hlt1
           have hg1:Grew W.world w1:=Grew.append gw (Own.is (v:=v7) (base:=W.world.heap.size) (e:=123) (size:=3)) (Nat.le_refl _) hgrow1
           have io3:Own w1 W.world.heap.size 123 3 v8 (2*k+j) ((zfb a b (2*k+j)).flatMap Big.cells):=⟨zd4 Own.is hgrow1 hap.symm⟩
           have hap1:zbC (.slice (some ⟨g1,0,none⟩) (2*k+j+1) cap1) v8:=zdL (Own.is (v:=v8) (base:=W.world.heap.size) (e:=123) (size:=3)) hap hat1
           have io4:Own w1 W.world.heap.size 123 3 (.slice (some ⟨g1,0,none⟩) (2*k+j+1) cap1) (2*k+j+1) _:=⟨hown1⟩
           have ifar:=zd2 hgrow1
           have hsz1:=hg1.size
           have hn71:NotRow z.world.heap.size (.slice (some ⟨g1,0,none⟩) (2*k+j+1) cap1):=zg2 BlockIn.lt hat1
           have ib51:BlockIn w1 z.world.heap.size:=⟨Nat.lt_of_lt_of_le BlockIn.lt hgrow1.size⟩
           have inw:NewFor y.world w1.heap.size:=⟨Nat.le_trans (NewFor.le (a:=y.world)) hgrow1.size⟩)
         |(refine step_append_lies _ (by rfl) _ _ 214 (by rfl) W.world.heap.size 123 i0 _ 3 24 Tryz.underlying214 hi hz0 hzz1 hzz2 (by rfl) (by decide) v8 _ _ (by rfl) Own.is ⟨_,0,none⟩ 1 1 [.bool U.neg,.int .u64 U.hi,.int .u64 U.lo] (by rfl) (by rfl) zdA (by simp[Value.oneCell']) (by decide) (by simp[maxLen];omega) (by omega) (by (try simp);omega) _ rfl ?_
           intro g2 cap2 w2 hown2 hgrow2 hat2 hlt2
           have ifar2:=zd2 hgrow2
           have hg2:Grew W.world w2:=Grew.append gw (Own.is (v:=v8) (base:=W.world.heap.size) (e:=123) (size:=3)) (Nat.le_refl _) hgrow2
           have hown1':w2.ownsRow W.world.heap.size 123 3 (.slice (some ⟨g1,0,none⟩) (2*k+j+1) cap1) (2*k+j+1) _:=zd4 Own.is hgrow2 hap1
           have hap2:=zdZ (m:=2*k+j+1) (cap:=cap2) (Own.is (v:=.slice (some ⟨g1,0,none⟩) (2*k+j+1) cap1) (base:=W.world.heap.size) (e:=123) (size:=3)) hap1 hat2
           have hn81:NotRow z.world.heap.size (.slice (some ⟨g2,0,none⟩) (2*k+j+1) cap2):=zg2 BlockIn.lt hat2
           have ib52:RowAt w2 z.world.heap.size [.int .i64 (nthS b 0),.int .i64 (nthS b 1)]:=inferInstance))
      all_goals go_wp2
      all_goals
       go_roundw
       case rel=>
        refine ⟨j+1,_,_,by go_num,rfl,rfl,by omega,⟨hg2,?_,?_,hap2⟩,ib52,hn71,hn81⟩
        ·show World.ownsRow _ _ _ _ _ (2*k+j+1) ((zhB a b (2*k+j+1)).flatMap Big.cells)
         rw[Hd1.out]
         exact hown1'
        ·show World.ownsRow _ _ _ _ _ (2*k+j+1) ((zfb a b (2*k+j+1)).flatMap Big.cells)
         rw[Hd2.out]
         exact hown2
       case measure=>simp[intOf];omega
     ·obtain rfl:j=2:=by omega
      rw[show ((2:Nat):Int)=2 from rfl]
      have gy:Grew W.world y.world:=gw
      go_wp2
      go_roundw
      case rel=>exact ⟨k+1,_,_,by go_num,rfl,rfl,by omega,gy,ho1,ho2,hap⟩
      case measure=>simp[intOf];omega
   ·obtain rfl:k=2:=by omega
    rw[show ((2:Nat):Int)=2 from rfl]
    obtain ⟨ao1,cap1,rfl,hc1,hm1⟩:=zgm ho1 (by omega)
    obtain ⟨ao2,cap2,rfl,hc2,hm2⟩:=zgm ho2 (by omega)
    have HD1:=Lib.hid (zhm a.lo b.lo ha.lo (Hne.out 0))
    have HD2:=Lib.hid (zhm a.lo b.hi ha.lo (Hne.out 1))
    have HD3:=Lib.hid (zhm a.hi b.lo ha.hi (Hne.out 0))
    have HD4:=Lib.hid (zhm a.hi b.hi ha.hi (Hne.out 1))
    have HU1:=Lib.hid (zhn a.lo b.lo ha.lo (Hne.out 0))
    have HU2:=Lib.hid (zhn a.lo b.hi ha.lo (Hne.out 1))
    have HU3:=Lib.hid (zhn a.hi b.lo ha.hi (Hne.out 0))
    have HU4:=Lib.hid (zhn a.hi b.hi ha.hi (Hne.out 1))
    have hs1:SlAt z.world (.slice ao1 4 cap1) 4 ((zcJ a.lo b.lo::[zcJ a.lo b.hi,zcJ a.hi b.lo,zcJ a.hi b.hi]).flatMap Big.cells):=SlAt.of_owns ho1
    have hs2:SlAt z.world (.slice ao2 4 cap2) 4 ((zcK a.lo b.lo::[zcK a.lo b.hi,zcK a.hi b.lo,zcK a.hi b.hi]).flatMap Big.cells):=SlAt.of_owns ho2
    clear ho1 ho2 hap
    generalize zcJ a.lo b.lo=x1 at *
    generalize zcJ a.lo b.hi=x2 at *
    generalize zcJ a.hi b.lo=x3 at *
    generalize zcJ a.hi b.hi=x4 at *
    generalize zcK a.lo b.lo=y1 at *
    generalize zcK a.lo b.hi=y2 at *
    generalize zcK a.hi b.lo=y3 at *
    generalize zcK a.hi b.hi=y4 at *
    have HX:=Lib.hid (fun w h=>zfC x1 [x2,x3,x4] HD1.out (by simpa using ⟨HD2.out,HD3.out,HD4.out⟩) ao1 cap1 hc1 w h)
    have HY:=Lib.hid (fun w h=>zfC y1 [y2,y3,y4] HU1.out (by simpa using ⟨HU2.out,HU3.out,HU4.out⟩) ao2 cap2 hc2 w h)
    have HF:=Lib.hid (fun w=>zc9 (leastB x1 [x2,x3,x4]) (zcp y1 [y2,y3,y4]) (zir HD1.out HD2.out HD3.out HD4.out) (zjV HU1.out HU2.out HU3.out HU4.out) w)
    have Hs1:=Lib.hid hs1
    have Hs2:=Lib.hid hs2
    clear hs1 hs2
    go_wp2_with (first|(go_at_call 176;(with_reducible refine zaa (HX.out _ (Hs1.out.grew gw)) ?_);intro u6)|(go_at_call 176;(with_reducible refine zaa (HY.out _ (Hs2.out.grew gw)) ?_);intro u7)|(go_at_call 64;(with_reducible refine zaa (HF.out _) ?_);intro u8))
    refine bodyPost_ret (by (simp[results,Tryz.results137,go_sem]<;>rfl)) rfl ?_
    exact ⟨zbb (by rw[←Hf.out]),gw⟩
theorem zo6 (a b:Sp) [ha:S64 a] [hb:S64 b] (w:World):Calls Tryz.prog 137 #[.agg #[.int .i64 a.lo,.int .i64 a.hi],.agg #[.int .i64 b.lo,.int .i64 b.hi]] w fun e w'=>e=.returned (.tuple #[.agg #[.int .i64 (divR a b).s.lo,.int .i64 (divR a b).s.hi],.int .i64 (divR a b).e])∧Grew w w':=by
 cases hk:(a.okB&&b.okB)
 ·have Hf:=Lib.hid (show errR 2=divR a b by unfold divR;rw[hk];rfl)
  go_enter Tryz.func137,Tryz.ntmps137
  go_wp2_with (first|(go_at_call 60;(with_reducible refine zaa (zct a b hk _ _ (SlAt.fresh _ _ _ _ (by simp[maxLen]))) ?_);intro u)|((with_reducible refine zab ?_ ?_ ?_);(· kernel_rfl);(· kernel_rfl);(try simp only[List.append_eq,List.cons_append,List.nil_append]);(repeat (go_big_quiet_step ((first|(go_at_call 60;(with_reducible exact zac (zct a b hk _ _ (SlAt.fresh _ _ _ _ (by simp[maxLen])))))))));refine wpQuiet_nil ?_;rintro _ ⟨u,rfl⟩))
  refine bodyPost_ret (by (simp[results,Tryz.results137,go_sem]<;>rfl)) rfl ?_
  exact ⟨za1 Hf.out rfl,gw⟩
 ·by_cases hz:b.lo≤0∧0≤b.hi
  ·have Hf:=Lib.hid (show errR 10=divR a b by unfold divR;rw[hk,show (decide (b.lo≤0)&&decide (0≤b.hi))=true by simp[hz]];rfl)
   obtain ⟨hz1,hz2⟩:=hz
   go_enter Tryz.func137,Tryz.ntmps137
   go_wp2_with (first|(go_at_call 60;(with_reducible refine zaa (zbx a b hk _ _ (SlAt.fresh _ _ _ _ (by simp[maxLen]))) ?_);intro u)|((with_reducible refine zab ?_ ?_ ?_);(· kernel_rfl);(· kernel_rfl);(try simp only[List.append_eq,List.cons_append,List.nil_append]);(repeat (go_big_quiet_step ((first|(go_at_call 60;(with_reducible exact zac (zbx a b hk _ _ (SlAt.fresh _ _ _ _ (by simp[maxLen])))))))));refine wpQuiet_nil ?_;rintro _ ⟨u,rfl⟩))
   refine bodyPost_ret (by (simp[results,Tryz.results137,go_sem]<;>rfl)) rfl ?_
   exact ⟨za1 Hf.out rfl,gw⟩
  ·have hlo:=(zdd (Bool.and_eq_true_iff.1 hk).2).2.2
   have hz':(decide (b.lo≤0)&&decide (0≤b.hi))=false:=by
    by_cases h1:b.lo≤0<;>simp[h1] ;omega
   have hzz:decide (b.lo≤0)=false∨(decide (b.lo≤0)=true∧decide (0≤b.hi)=false):=by
    by_cases h1:b.lo≤0<;>simp[h1] ;omega
   refine zo7 a b hk (by omega) (by omega) w hzz _ ?_
   unfold divR
   rw[hk,hz',zhK,zix,zgt,zgt,zgt,zgt,zgu,zgu,zgu,zgu]
   rfl
end Go.Proofs.YtdkfkalplmgoeaaGreat
