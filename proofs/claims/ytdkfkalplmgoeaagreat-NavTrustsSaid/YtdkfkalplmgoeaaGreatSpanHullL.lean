/-
  Joined: SpanDivs, NavOps, SpanHull.
-/
import Derived.Test.YtdkfkalplmgoeaaGreatRowL
import Derived.Test.YtdkfkalplmgoeaaGreatSpanMul2L
import Derived.Test.YtdkfkalplmgoeaaGreatChecksL
import Derived.Deep.RegionHeld3
import Derived.Test.YtdkfkalplmgoeaaGreatSpanAddL
namespace Go.Proofs.YtdkfkalplmgoeaaGreat
open Go.RowKit
set_option maxRecDepth 100000
set_option maxHeartbeats 2000000
def ratX (a b:Int):Big:=zb9 (decide (a<0) != decide (b<0)) (a.natAbs*4294967296)
def zbS (a b:Int):Big:=zcb (ratX a b) b.natAbs
def zbT (a b:Int):Big:=zey (ratX a b) b.natAbs
theorem zpw (a b:Int) (ha:I64 a):(ratX a b).ok:=zbJ _ _ (by unfold I64 at ha;unfold B128;omega)
theorem zkk (a b:Int):(ratX a b).val=if b<0 then -a*4294967296 else a*4294967296:=by
 unfold ratX
 rw[zdO]
 by_cases h1:a<0<;>by_cases h2:b<0<;>simp[h1,h2]<;>omega
theorem zeM (a b:Int):(zbS a b).val=zbC a b:=by
 unfold zbS zbC
 rw[zfT,zkk]
 split
 ·rw[show (b.natAbs:Int)=-b by omega]
 ·rw[show (b.natAbs:Int)=b by omega]
theorem zeN (a b:Int):(zbT a b).val=zdI a b:=by
 unfold zbT zdI
 rw[zh9,zkk]
 split
 ·rw[show (b.natAbs:Int)=-b by omega]
 ·rw[show (b.natAbs:Int)=b by omega]
theorem zjP (m d:Int) (h0:0≤m) (hm:m<170141183460469231731687303715884105728) (hd:1≤d):B128 (zbY m d)∧B128 (upZ m d):=by
 have h1:=Int.ediv_nonneg h0 (show 0≤d by omega)
 have h2:=Int.ediv_le_self d h0
 rw[zjH m d hd]
 unfold B128 zbY
 refine ⟨by omega,?_⟩
 split<;>omega
theorem zkj (a b:Int):(ratX a b).m=a.natAbs*4294967296:=zhw _ _
theorem zfJ (a b:Int) (ha:I64 a) (hb:b≠0):(zbS a b).ok:=by
 have h:=zjP (ratX a b).m b.natAbs (by rw[zkj];omega) (by rw[zkj];unfold I64 at ha;omega) (by omega)
 unfold zbS zcb
 split
 ·exact zbJ _ _ h.2
 ·exact zbJ _ _ h.1
theorem zfK (a b:Int) (ha:I64 a) (hb:b≠0):(zbT a b).ok:=by
 have h:=zjP (ratX a b).m b.natAbs (by rw[zkj];omega) (by rw[zkj];unfold I64 at ha;omega) (by omega)
 unfold zbT zey
 split
 ·exact zbJ _ _ h.1
 ·exact zbJ _ _ h.2
theorem zjy (a b:Int) (ha:I64 a) (hb:I64 b) (h0:b≠0) (w:World):Calls Tryz.prog 175 #[.int .i64 a,.int .i64 b] w fun e w'=>e=.returned (.tuple #[.agg #[.bool (zbS a b).neg,.int .u64 (zbS a b).hi,.int .u64 (zbS a b).lo],.agg #[.bool (zbT a b).neg,.int .u64 (zbT a b).hi,.int .u64 (zbT a b).lo]])∧Grew w w':=by
 have hm:(ofB a).m<79228162514264337593543950336:=by rw[zmf];unfold I64 at ha;omega
 have ex:zjG (ofB a)=zb9 (decide (a<0)) (a.natAbs*4294967296):=by unfold zjG;rw[zmf];rfl
 have Hu:=Lib.hid (fun w=>zfl (ofB a) (zgd a ha) hm w)
 rw[ex] at Hu
 have Ha:=Lib.hid (fun w=>zco a ha w)
 have Hb:=Lib.hid (fun w=>zco b hb w)
 have e1:ofB b=⟨decide (b<0),0,b.natAbs⟩:=by
  unfold ofB zb9
  unfold I64 at hb
  congr 1<;>omega
 have e2:zb9 (decide (a<0)) (a.natAbs*4294967296)=⟨decide (a<0),(ratX a b).hi,(ratX a b).lo⟩:=rfl
 have e3:ratX a b=⟨decide (a<0) != decide (b<0),(ratX a b).hi,(ratX a b).lo⟩:=rfl
 have hd:=fun w=>zgP (ratX a b) ⟨false,0,b.natAbs⟩ (zpw a b ha) (ziZ b.natAbs (by omega) (by unfold I64 at hb;omega)) rfl (by show 1≤(b.natAbs:Int);omega) rfl w
 have Hdw:=Lib.hid (show (⟨(zbS a b).neg,(zbS a b).hi,(zbS a b).lo⟩:Big)=zbS a b from rfl)
 have Huw:=Lib.hid (show (⟨(zbT a b).neg,(zbT a b).hi,(zbT a b).lo⟩:Big)=zbT a b from rfl)
 change ∀ w,Calls Tryz.prog 180 #[.agg #[.bool (decide (a<0) != decide (b<0)),.int .u64 (ratX a b).hi,.int .u64 (ratX a b).lo],.agg #[.bool false,.int .u64 0,.int .u64 b.natAbs]] w fun e w'=>e=.returned (.tuple #[.agg #[.bool (zbS a b).neg,.int .u64 (zbS a b).hi,.int .u64 (zbS a b).lo],.agg #[.bool (zbT a b).neg,.int .u64 (zbT a b).hi,.int .u64 (zbT a b).lo]])∧Grew w w' at hd
 rw[e2] at Hu
 rw[e1] at Hb
 clear e1 e2 e3 ex hm ha hb
 generalize zbS a b=D at *
 generalize zbT a b=U at *
 generalize (ratX a b).hi=xh at *
 generalize (ratX a b).lo=xl at *
 generalize decide (a<0)=sa at *
 generalize decide (b<0)=sb at *
 generalize (b.natAbs:Int)=nb at *
 have e11:(true != true)=false:=rfl
 have e10:(true != false)=true:=rfl
 have e01:(false != true)=true:=rfl
 have e00:(false != false)=false:=rfl
 cases sa<;>cases sb
 all_goals
  simp only[e11,e10,e01,e00] at hd
  have Hd:=Lib.hid hd
  clear hd e11 e10 e01 e00
  go_enter Tryz.func175,Tryz.ntmps175
  go_wp2_with (first|(go_at_call 63;(with_reducible refine zaa (Ha.out _) ?_);intro u)|(go_at_call 63;(with_reducible refine zaa (Hb.out _) ?_);intro u)|(go_at_call 196;(with_reducible refine zaa (Hu.out _) ?_);intro u)|(go_at_call 180;(with_reducible refine zaa (Hd.out _) ?_);intro u))
  refine bodyPost_ret (by (simp[results,Tryz.results175,go_sem]<;>rfl)) rfl ?_
  exact ⟨rfl,gw⟩
end Go.Proofs.YtdkfkalplmgoeaaGreat
namespace Go.Proofs.YtdkfkalplmgoeaaGreat
open Go.RowKit
set_option maxRecDepth 100000
set_option maxHeartbeats 8000000
def nthS (a:Sp) (k:Nat):Int:=if k=0 then a.lo else a.hi
theorem zka (a:Sp) [h:S64 a] (k:Nat):I64 (nthS a k):=by
 unfold nthS
 split
 ·exact h.lo
 ·exact h.hi
def zmF (a b:Sp):List (Int × Int):=[(a.lo,b.lo),(a.lo,b.hi),(a.hi,b.lo),(a.hi,b.hi)]
def zfU (a b:Sp) (n:Nat):List Big:=((zmF a b).take n).map fun p=>zbS p.1 p.2
def zdJ (a b:Sp) (n:Nat):List Big:=((zmF a b).take n).map fun p=>zbT p.1 p.2
theorem zos (a b:Sp) (k j:Nat) (hk:k<2) (hj:j<2):(zmF a b)[2*k+j]?=some (nthS a k,nthS b j):=by
 rcases (show k=0∨k=1 by omega) with rfl|rfl<;>rcases (show j=0∨j=1 by omega) with rfl|rfl<;>rfl
theorem zi2 (a b:Sp) (k j:Nat) (hk:k<2) (hj:j<2):(zfU a b (2*k+j+1)).flatMap Big.cells=(zfU a b (2*k+j)).flatMap Big.cells++[.bool ((zbS (nthS a k) (nthS b j))).neg,.int .u64 ((zbS (nthS a k) (nthS b j))).hi,.int .u64 ((zbS (nthS a k) (nthS b j))).lo]:=by
 unfold zfU
 rw[List.take_add_one,zos a b k j hk hj]
 simp[Big.cells]
theorem zh3 (a b:Sp) (k j:Nat) (hk:k<2) (hj:j<2):(zdJ a b (2*k+j+1)).flatMap Big.cells=(zdJ a b (2*k+j)).flatMap Big.cells++[.bool ((zbT (nthS a k) (nthS b j))).neg,.int .u64 ((zbT (nthS a k) (nthS b j))).hi,.int .u64 ((zbT (nthS a k) (nthS b j))).lo]:=by
 unfold zdJ
 rw[List.take_add_one,zos a b k j hk hj]
 simp[Big.cells]
theorem zph:(Tryz.prog.info? 123).map (fun i=>(i.zero,i.size,i.bytes))=some (some (.agg #[.bool false,.int .u64 0,.int .u64 0]),3,24):=by kernel_rfl
structure DivAt (a b:Sp) (W:World) (n:Nat) (v1 v2:Value) (wr:World):Prop where
 grew:Grew W wr
 own1:wr.ownsRow W.heap.size 123 3 v1 n ((zfU a b n).flatMap Big.cells)
 own2:wr.ownsRow W.heap.size 123 3 v2 n ((zdJ a b n).flatMap Big.cells)
 apart:zbO v1 v2
theorem zmQ (a b:Sp) [ha:S64 a] [hb:S64 b] (hk:(a.okB&&b.okB)=true) (hb1:b.lo≠0) (hb2:b.hi≠0) (w:World) (hz:decide (b.lo≤0)=false∨(decide (b.lo≤0)=true∧decide (0≤b.hi)=false))
 (R:Res) (hR:fitR (leastB (zbS a.lo b.lo) [zbS a.lo b.hi,zbS a.hi b.lo,zbS a.hi b.hi]).val (zcW (zbT a.lo b.lo) [zbT a.lo b.hi,zbT a.hi b.lo,zbT a.hi b.hi]).val=R):Calls Tryz.prog 137 #[.agg #[.int .i64 a.lo,.int .i64 a.hi],.agg #[.int .i64 b.lo,.int .i64 b.hi]] w fun e w'=>e=.returned (.tuple #[.agg #[.int .i64 R.s.lo,.int .i64 R.s.hi],.int .i64 R.e])∧Grew w w':=by
 have Hf:=Lib.hid hR
 have hne:∀ j,nthS b j≠0:=fun j=>by unfold nthS;split<;>assumption
 have Hne:=Lib.hid hne
 obtain ⟨i0,hi,hz0,hzz1,hzz2⟩:=info_parts zph
 have Hinf:=Lib.hid (And.intro hi (And.intro hz0 (And.intro hzz1 hzz2)))
 clear hi hz0 hzz1 hzz2
 clear hR hne hb1 hb2
 rcases hz with hz1|⟨hz1,hz2⟩
 all_goals
  go_enter Tryz.func137,Tryz.ntmps137
  go_wp2_with (first|(go_at_call 60;(with_reducible refine zaa (za0 a b hk _ _ (SlAt.fresh _ _ _ _ (by simp[maxLen]))) ?_);intro u)|((with_reducible refine zac ?_ ?_ ?_);(· kernel_rfl);(· kernel_rfl);(try simp only[List.append_eq,List.cons_append,List.nil_append]);(repeat (go_big_quiet_step ((first|(go_at_call 60;(with_reducible exact zad (za0 a b hk _ _ (SlAt.fresh _ _ _ _ (by simp[maxLen])))))))));refine wpQuiet_nil ?_;rintro _ ⟨u,rfl⟩))
  refine zdF (z:=w) gw ?_
  intro W hW
  have hA:zan W.world w.heap.size [.int .i64 a.lo,.int .i64 a.hi]:=by rw[hW];exact bxt
  have hB:zan W.world (w.heap.size+1) [.int .i64 b.lo,.int .i64 b.hi]:=by rw[hW];exact bxt
  have hC:zan W.world (w.heap.size+1+1) [.int .i64 0,.int .i64 0]:=by rw[hW];exact bxt
  have hS:RowAt W.world u.world.heap.size [.int .i64 (nthS a 0),.int .i64 (nthS a 1)]:=by
   rw[hW]
   show RowAt _ _ [.int .i64 a.lo,.int .i64 a.hi]
   infer_instance
  have gW:Grew w W.world:=W.grew
  clear hW
  have hA_0:=(hA 0 _ rfl).1
  have hAf0:=(hA 0 _ rfl).2
  have hAi0:HasCell (W.world) (w.heap.size) 0:=⟨_,hA_0⟩
  have hA_1:=(hA 1 _ rfl).1
  have hAf1:=(hA 1 _ rfl).2
  have hAi1:HasCell (W.world) (w.heap.size) 1:=⟨_,hA_1⟩
  have hAb:BlockIn (W.world) (w.heap.size):=BlockIn.of_cell hA_0
  clear hA
  have hB_0:=(hB 0 _ rfl).1
  have hBf0:=(hB 0 _ rfl).2
  have hBi0:HasCell (W.world) (w.heap.size+1) 0:=⟨_,hB_0⟩
  have hB_1:=(hB 1 _ rfl).1
  have hBf1:=(hB 1 _ rfl).2
  have hBi1:HasCell (W.world) (w.heap.size+1) 1:=⟨_,hB_1⟩
  have hBb:BlockIn (W.world) (w.heap.size+1):=BlockIn.of_cell hB_0
  clear hB
  have hC_0:=(hC 0 _ rfl).1
  have hCf0:=(hC 0 _ rfl).2
  have hCi0:HasCell (W.world) (w.heap.size+1+1) 0:=⟨_,hC_0⟩
  have hC_1:=(hC 1 _ rfl).1
  have hCf1:=(hC 1 _ rfl).2
  have hCi1:HasCell (W.world) (w.heap.size+1+1) 1:=⟨_,hC_1⟩
  have hCb:BlockIn (W.world) (w.heap.size+1+1):=BlockIn.of_cell hC_0
  clear hC
  have hS0:=hS.is 0 _ rfl
  have ibS:BlockIn W.world u.world.heap.size:=BlockIn.of_cell hS0
  go_loopw [7,8,42] (fun v1 v2 t wr=>∃ (k:Nat) (v7 v8:Value),t=.int .i64 k∧v7=v1∧v8=v2∧k≤2∧DivAt a b W.world (2*k) v7 v8 wr) (fun _ _ t _=>2-(intOf t).toNat)
  case atStart=>exact ⟨0,_,_,rfl,rfl,rfl,by omega,Grew.refl _,World.ownsRow_nil _ _ _ _,World.ownsRow_nil _ _ _ _,zhN _⟩
  case round=>
   obtain ⟨k,v7,v8,rfl,rfl,rfl,hk2,hD⟩:=hrel
   obtain ⟨hg,ho1,ho2,hap⟩:=hD
   obtain ⟨z,rfl⟩:=zaj hg
   clear hg
   by_cases hlt:k<2
   ·have hx:z.world.cell? ⟨u.world.heap.size,k,none⟩=some (.int .i64 (nthS a k)):=by
     rw[z.cell]
     rcases (show k=0∨k=1 by omega) with rfl|rfl
     ·exact hS.is 0 _ rfl
     ·exact hS.is 1 _ rfl
    have Hxi:=Lib.hid (zka a k)
    generalize hxe:nthS a k=x at *
    have Hxe:=Lib.hid hxe
    clear hxe
    have io1:Own z.world W.world.heap.size 123 3 v7 (2*k) ((zfU a b (2*k)).flatMap Big.cells):=⟨ho1⟩
    have io2:Own z.world W.world.heap.size 123 3 v8 (2*k) ((zdJ a b (2*k)).flatMap Big.cells):=⟨ho2⟩
    have hltd:decide ((k:Int)<2)=true:=by simp;omega
    go_wp2
    go_loopw [7,8,52] (fun v1 v2 t wr=>∃ (j:Nat) (v7 v8:Value),t=.int .i64 j∧v7=v1∧v8=v2∧j≤2∧DivAt a b W.world (2*k+j) v7 v8 wr∧RowAt wr z.world.heap.size [.int .i64 (nthS b 0),.int .i64 (nthS b 1)]∧NotRow z.world.heap.size v7∧NotRow z.world.heap.size v8) (fun _ _ t _=>2-(intOf t).toNat)
    case atStart=>
     refine ⟨0,_,_,rfl,rfl,rfl,by omega,⟨gw,(io1.is.alloc _),(io2.is.alloc _),hap⟩,?_,zd6 io1.is _,zd6 io2.is _⟩
     show RowAt _ _ [.int .i64 b.lo,.int .i64 b.hi]
     infer_instance
    case round=>
     obtain ⟨j,v7,v8,rfl,rfl,rfl,hj2,hD,hS5,hn7,hn8⟩:=hrel
     clear io1 io2 ho1 ho2 hap
     obtain ⟨hg,ho1,ho2,hap⟩:=hD
     obtain ⟨y,rfl⟩:=zaj hg
     clear hg
     have hS50:=hS5.is 0 _ rfl
     have ib5:BlockIn y.world z.world.heap.size:=BlockIn.of_cell hS50
     by_cases hlt2:j<2
     ·have hy:y.world.cell? ⟨z.world.heap.size,j,none⟩=some (.int .i64 (nthS b j)):=by
       rcases (show j=0∨j=1 by omega) with rfl|rfl
       ·exact hS5.is 0 _ rfl
       ·exact hS5.is 1 _ rfl
      have io1:Own y.world W.world.heap.size 123 3 v7 (2*k+j) ((zfU a b (2*k+j)).flatMap Big.cells):=⟨ho1⟩
      have io2:Own y.world W.world.heap.size 123 3 v8 (2*k+j) ((zdJ a b (2*k+j)).flatMap Big.cells):=⟨ho2⟩
      have Hd1:=Lib.hid (zi2 a b k j hlt hlt2)
      have Hd2:=Lib.hid (zh3 a b k j hlt hlt2)
      have Hyi:=Lib.hid (zka b j)
      have Hyn:=Lib.hid (Hne.out j)
      rw[Hxe.out] at Hd1 Hd2
      generalize nthS b j=yv at *
      have HT:=Lib.hid (fun w=>zjy x yv Hxi.out Hyi.out Hyn.out w)
      generalize zbS x yv=D at *
      generalize zbT x yv=U at *
      go_wp2_with (first|(go_at_call 175;(with_reducible refine zaa (HT.out _) ?_);intro u5))
      have nq13:NewFor y.world u5.world.heap.size:=inferInstance
      have nq14:NewFor y.world (u5.world.heap.size+1):=inferInstance
      refine zdF (z:=y.world) gw ?_
      intro Y hY
      have b13:zan Y.world u5.world.heap.size [.bool D.neg,.int .u64 D.hi,.int .u64 D.lo]:=by rw[hY];exact zbD (by go_simp) (by go_simp) (by go_simp) (by go_simp) (by go_simp) (by go_simp)
      have b14:zan Y.world (u5.world.heap.size+1) [.bool U.neg,.int .u64 U.hi,.int .u64 U.lo]:=by rw[hY];exact zbD (by go_simp) (by go_simp) (by go_simp) (by go_simp) (by go_simp) (by go_simp)
      clear hY
      have r13:=zft b13
      have r14:=zft b14
      clear b13 b14
      have inr1:∀ b,[NewFor y.world b]→NotRow b v7:=fun b=>zd6 io1.is b
      have inr2:∀ b,[NewFor y.world b]→NotRow b v8:=fun b=>zd6 io2.is b
      have hbase:W.world.heap.size≤Y.world.heap.size:=Nat.le_trans y.grew.size Y.grew.size
      have hm:2*k+j<4:=by omega
      have ns13:NewFor y.world Y.world.heap.size:=inferInstance
      obtain ⟨hi,hz0,hzz1,hzz2⟩:=Hinf.out
      go_region_held3 (fun w'=>w'.cell? ⟨u5.world.heap.size,0,none⟩=some (.bool D.neg)∧w'.cell? ⟨u5.world.heap.size,1,none⟩=some (.int .u64 D.hi)∧w'.cell? ⟨u5.world.heap.size,2,none⟩=some (.int .u64 D.lo)∧w'.cell? ⟨u5.world.heap.size+1,0,none⟩=some (.bool U.neg)∧w'.cell? ⟨u5.world.heap.size+1,1,none⟩=some (.int .u64 U.hi)∧w'.cell? ⟨u5.world.heap.size+1,2,none⟩=some (.int .u64 U.lo))
       (exact ⟨RowAt.is (l:=[.bool D.neg,.int .u64 D.hi,.int .u64 D.lo]) 0 _ rfl,RowAt.is (l:=[.bool D.neg,.int .u64 D.hi,.int .u64 D.lo]) 1 _ rfl,RowAt.is (l:=[.bool D.neg,.int .u64 D.hi,.int .u64 D.lo]) 2 _ rfl,RowAt.is (l:=[.bool U.neg,.int .u64 U.hi,.int .u64 U.lo]) 0 _ rfl,RowAt.is (l:=[.bool U.neg,.int .u64 U.hi,.int .u64 U.lo]) 1 _ rfl,RowAt.is (l:=[.bool U.neg,.int .u64 U.hi,.int .u64 U.lo]) 2 _ rfl⟩)
       (first
         |(refine step_append_lies _ (by rfl) _ _ 214 (by rfl) W.world.heap.size 123 i0 _ 3 24 Tryz.underlying214 hi hz0 hzz1 hzz2 (by rfl) (by decide) v7 _ _ (by rfl) Own.is ⟨_,0,none⟩ 1 1 [.bool D.neg,.int .u64 D.hi,.int .u64 D.lo] (by rfl) (by rfl) zj9 (by simp[Value.oneCell']) (by decide) (by simp[maxLen];omega) (by omega) (by (try simp);omega) _ rfl ?_
           intro g1 cap1 w1 hown1 hgrow1 hat1 hlt1
           have hg1:Grew W.world w1:=Grew.append gw (Own.is (v:=v7) (base:=W.world.heap.size) (e:=123) (size:=3)) (Nat.le_refl _) hgrow1
           have io3:Own w1 W.world.heap.size 123 3 v8 (2*k+j) ((zdJ a b (2*k+j)).flatMap Big.cells):=⟨zkd Own.is hgrow1 hap.symm⟩
           have hap1:zbO (.slice (some ⟨g1,0,none⟩) (2*k+j+1) cap1) v8:=zfO (Own.is (v:=v8) (base:=W.world.heap.size) (e:=123) (size:=3)) hap hat1
           have io4:Own w1 W.world.heap.size 123 3 (.slice (some ⟨g1,0,none⟩) (2*k+j+1) cap1) (2*k+j+1) _:=⟨hown1⟩
           have ifar:=zjX hgrow1
           have hsz1:=hg1.size
           have hn71:NotRow z.world.heap.size (.slice (some ⟨g1,0,none⟩) (2*k+j+1) cap1):=zfp BlockIn.lt hat1
           have ib51:BlockIn w1 z.world.heap.size:=⟨Nat.lt_of_lt_of_le BlockIn.lt hgrow1.size⟩
           have inw:NewFor y.world w1.heap.size:=⟨Nat.le_trans (NewFor.le (a:=y.world)) hgrow1.size⟩)
         |(refine step_append_lies _ (by rfl) _ _ 214 (by rfl) W.world.heap.size 123 i0 _ 3 24 Tryz.underlying214 hi hz0 hzz1 hzz2 (by rfl) (by decide) v8 _ _ (by rfl) Own.is ⟨_,0,none⟩ 1 1 [.bool U.neg,.int .u64 U.hi,.int .u64 U.lo] (by rfl) (by rfl) zj9 (by simp[Value.oneCell']) (by decide) (by simp[maxLen];omega) (by omega) (by (try simp);omega) _ rfl ?_
           intro g2 cap2 w2 hown2 hgrow2 hat2 hlt2
           have ifar2:=zjX hgrow2
           have hg2:Grew W.world w2:=Grew.append gw (Own.is (v:=v8) (base:=W.world.heap.size) (e:=123) (size:=3)) (Nat.le_refl _) hgrow2
           have hown1':w2.ownsRow W.world.heap.size 123 3 (.slice (some ⟨g1,0,none⟩) (2*k+j+1) cap1) (2*k+j+1) _:=zkd Own.is hgrow2 hap1
           have hap2:=zh5 (m:=2*k+j+1) (cap:=cap2) (Own.is (v:=.slice (some ⟨g1,0,none⟩) (2*k+j+1) cap1) (base:=W.world.heap.size) (e:=123) (size:=3)) hap1 hat2
           have hn81:NotRow z.world.heap.size (.slice (some ⟨g2,0,none⟩) (2*k+j+1) cap2):=zfp BlockIn.lt hat2
           have ib52:RowAt w2 z.world.heap.size [.int .i64 (nthS b 0),.int .i64 (nthS b 1)]:=inferInstance))
      all_goals go_wp2
      all_goals
       go_roundw
       case rel=>
        refine ⟨j+1,_,_,by go_num,rfl,rfl,by omega,⟨hg2,?_,?_,hap2⟩,ib52,hn71,hn81⟩
        ·show World.ownsRow _ _ _ _ _ (2*k+j+1) ((zfU a b (2*k+j+1)).flatMap Big.cells)
         rw[Hd1.out]
         exact hown1'
        ·show World.ownsRow _ _ _ _ _ (2*k+j+1) ((zdJ a b (2*k+j+1)).flatMap Big.cells)
         rw[Hd2.out]
         exact hown2
       case measure=>simp[intOf];omega
     ·obtain rfl:j=2:=by omega
      rw[show ((2:Nat):Int)=2 from rfl]
      have gy:Grew W.world y.world:=gw
      go_wp2
      go_roundw
      case rel=>exact ⟨k+1,_,_,by go_num,rfl,rfl,by omega,gy,ho1,ho2,hap⟩
      case measure=>simp[intOf];omega
   ·obtain rfl:k=2:=by omega
    rw[show ((2:Nat):Int)=2 from rfl]
    obtain ⟨ao1,cap1,rfl,hc1,hm1⟩:=zkc ho1 (by omega)
    obtain ⟨ao2,cap2,rfl,hc2,hm2⟩:=zkc ho2 (by omega)
    have HD1:=Lib.hid (zfJ a.lo b.lo ha.lo (Hne.out 0))
    have HD2:=Lib.hid (zfJ a.lo b.hi ha.lo (Hne.out 1))
    have HD3:=Lib.hid (zfJ a.hi b.lo ha.hi (Hne.out 0))
    have HD4:=Lib.hid (zfJ a.hi b.hi ha.hi (Hne.out 1))
    have HU1:=Lib.hid (zfK a.lo b.lo ha.lo (Hne.out 0))
    have HU2:=Lib.hid (zfK a.lo b.hi ha.lo (Hne.out 1))
    have HU3:=Lib.hid (zfK a.hi b.lo ha.hi (Hne.out 0))
    have HU4:=Lib.hid (zfK a.hi b.hi ha.hi (Hne.out 1))
    have hs1:SlAt z.world (.slice ao1 4 cap1) 4 ((zbS a.lo b.lo::[zbS a.lo b.hi,zbS a.hi b.lo,zbS a.hi b.hi]).flatMap Big.cells):=SlAt.of_owns ho1
    have hs2:SlAt z.world (.slice ao2 4 cap2) 4 ((zbT a.lo b.lo::[zbT a.lo b.hi,zbT a.hi b.lo,zbT a.hi b.hi]).flatMap Big.cells):=SlAt.of_owns ho2
    clear ho1 ho2 hap
    generalize zbS a.lo b.lo=x1 at *
    generalize zbS a.lo b.hi=x2 at *
    generalize zbS a.hi b.lo=x3 at *
    generalize zbS a.hi b.hi=x4 at *
    generalize zbT a.lo b.lo=y1 at *
    generalize zbT a.lo b.hi=y2 at *
    generalize zbT a.hi b.lo=y3 at *
    generalize zbT a.hi b.hi=y4 at *
    have HX:=Lib.hid (fun w h=>zho x1 [x2,x3,x4] HD1.out (by simpa using ⟨HD2.out,HD3.out,HD4.out⟩) ao1 cap1 hc1 w h)
    have HY:=Lib.hid (fun w h=>zho y1 [y2,y3,y4] HU1.out (by simpa using ⟨HU2.out,HU3.out,HU4.out⟩) ao2 cap2 hc2 w h)
    have HF:=Lib.hid (fun w=>zdx (leastB x1 [x2,x3,x4]) (zcW y1 [y2,y3,y4]) (zgS HD1.out HD2.out HD3.out HD4.out) (zin HU1.out HU2.out HU3.out HU4.out) w)
    have Hs1:=Lib.hid hs1
    have Hs2:=Lib.hid hs2
    clear hs1 hs2
    go_wp2_with (first|(go_at_call 176;(with_reducible refine zaa (HX.out _ (Hs1.out.grew gw)) ?_);intro u6)|(go_at_call 176;(with_reducible refine zaa (HY.out _ (Hs2.out.grew gw)) ?_);intro u7)|(go_at_call 64;(with_reducible refine zaa (HF.out _) ?_);intro u8))
    refine bodyPost_ret (by (simp[results,Tryz.results137,go_sem]<;>rfl)) rfl ?_
    exact ⟨zaS (by rw[←Hf.out]),gw⟩
theorem zmP (a b:Sp) [ha:S64 a] [hb:S64 b] (w:World):Calls Tryz.prog 137 #[.agg #[.int .i64 a.lo,.int .i64 a.hi],.agg #[.int .i64 b.lo,.int .i64 b.hi]] w fun e w'=>e=.returned (.tuple #[.agg #[.int .i64 (divR a b).s.lo,.int .i64 (divR a b).s.hi],.int .i64 (divR a b).e])∧Grew w w':=by
 cases hk:(a.okB&&b.okB)
 ·have Hf:=Lib.hid (show errR 2=divR a b by unfold divR;rw[hk];rfl)
  go_enter Tryz.func137,Tryz.ntmps137
  go_wp2_with (first|(go_at_call 60;(with_reducible refine zaa (zbr a b hk _ _ (SlAt.fresh _ _ _ _ (by simp[maxLen]))) ?_);intro u)|((with_reducible refine zac ?_ ?_ ?_);(· kernel_rfl);(· kernel_rfl);(try simp only[List.append_eq,List.cons_append,List.nil_append]);(repeat (go_big_quiet_step ((first|(go_at_call 60;(with_reducible exact zad (zbr a b hk _ _ (SlAt.fresh _ _ _ _ (by simp[maxLen])))))))));refine wpQuiet_nil ?_;rintro _ ⟨u,rfl⟩))
  refine bodyPost_ret (by (simp[results,Tryz.results137,go_sem]<;>rfl)) rfl ?_
  exact ⟨zaJ Hf.out rfl,gw⟩
 ·by_cases hz:b.lo≤0∧0≤b.hi
  ·have Hf:=Lib.hid (show errR 10=divR a b by unfold divR;rw[hk,show (decide (b.lo≤0)&&decide (0≤b.hi))=true by simp[hz]];rfl)
   obtain ⟨hz1,hz2⟩:=hz
   go_enter Tryz.func137,Tryz.ntmps137
   go_wp2_with (first|(go_at_call 60;(with_reducible refine zaa (za0 a b hk _ _ (SlAt.fresh _ _ _ _ (by simp[maxLen]))) ?_);intro u)|((with_reducible refine zac ?_ ?_ ?_);(· kernel_rfl);(· kernel_rfl);(try simp only[List.append_eq,List.cons_append,List.nil_append]);(repeat (go_big_quiet_step ((first|(go_at_call 60;(with_reducible exact zad (za0 a b hk _ _ (SlAt.fresh _ _ _ _ (by simp[maxLen])))))))));refine wpQuiet_nil ?_;rintro _ ⟨u,rfl⟩))
   refine bodyPost_ret (by (simp[results,Tryz.results137,go_sem]<;>rfl)) rfl ?_
   exact ⟨zaJ Hf.out rfl,gw⟩
  ·have hlo:=(zbZ (Bool.and_eq_true_iff.1 hk).2).2.2
   have hz':(decide (b.lo≤0)&&decide (0≤b.hi))=false:=by
    by_cases h1:b.lo≤0<;>simp[h1] ;omega
   have hzz:decide (b.lo≤0)=false∨(decide (b.lo≤0)=true∧decide (0≤b.hi)=false):=by
    by_cases h1:b.lo≤0<;>simp[h1] ;omega
   refine zmQ a b hk (by omega) (by omega) w hzz _ ?_
   unfold divR
   rw[hk,hz',zf6,zgV,zeM,zeM,zeM,zeM,zeN,zeN,zeN,zeN]
   rfl
end Go.Proofs.YtdkfkalplmgoeaaGreat
namespace Go.Proofs.YtdkfkalplmgoeaaGreat
open Go.RowKit Go.Shelf
set_option maxRecDepth 100000
set_option maxHeartbeats 4000000
theorem ze7 (a b:Sp) [ha:S64 a] [hb:S64 b] (w:World):Calls Tryz.prog 80 #[.agg #[.int .i64 a.lo,.int .i64 a.hi],.agg #[.int .i64 b.lo,.int .i64 b.hi]] w (zdH (.agg #[.int .i64 ((mulR a b).s).lo,.int .i64 ((mulR a b).s).hi]) (mulR a b).e w):=by
 by_cases hc:(mulR a b).e=0
 ·have HM:=Lib.hid (fun w'=>zfN (zaZ (mulR a b).s (mulR a b).e w') hc)
  have Hc:=Lib.hid hc
  clear hc
  go_enter Tryz.func80,Tryz.ntmps80
  go_wp2_with (first|(go_at_call 139;(with_reducible refine zaa (zeR a b _) ?_);intro u)|(go_at_call 129;(with_reducible refine zaa (HM.out _) ?_);intro u9))
  refine bodyPost_ret (by (simp[results,Tryz.results80,go_sem]<;>rfl)) rfl ?_
  exact zbV Hc.out rfl gw
 ·have HM:=Lib.hid (fun w'=>zfM (zaZ (mulR a b).s (mulR a b).e w') hc)
  have Hc:=Lib.hid hc
  clear hc
  go_enter Tryz.func80,Tryz.ntmps80
  go_wp2_with (first|(go_at_call 139;(with_reducible refine zaa (zeR a b _) ?_);intro u)|(go_at_call 129;(with_reducible refine zew (HM.out _) ?_);intro u9))
  exact ⟨rfl,zdt Hc.out gw⟩
theorem zji (b:Bx) [hb:B64 b] (w:World):Calls Tryz.prog 82 #[.agg #[.int .i64 b.x.lo,.int .i64 b.x.hi,.int .i64 b.y.lo,.int .i64 b.y.hi,.int .i64 b.z.lo,.int .i64 b.z.hi]] w (zdH (.agg #[.int .i64 ((zbp b.list).s).lo,.int .i64 ((zbp b.list).s).hi]) (zbp b.list).e w):=by
 have S1:=Lib.hid (SlAt.fresh (w:=w) (m:=w.heap.size) [.int .i64 b.x.lo,.int .i64 b.x.hi,.int .i64 b.y.lo,.int .i64 b.y.hi,.int .i64 b.z.lo,.int .i64 b.z.hi] 26 3 3 (by simp[maxLen]))
 by_cases hc:(zbp b.list).e=0
 ·have HM:=Lib.hid (fun w'=>zfN (zaZ (zbp b.list).s (zbp b.list).e w') hc)
  have Hc:=Lib.hid hc
  clear hc
  go_enter Tryz.func82,Tryz.ntmps82
  go_wp2_with (first|(go_at_call 140;(with_reducible refine zaa (zg5 b _ _ (S1.out.grew gw)) ?_);intro u)|(go_at_call 129;(with_reducible refine zaa (HM.out _) ?_);intro u))
  refine bodyPost_ret (by (simp[results,Tryz.results82,go_sem]<;>rfl)) rfl ?_
  exact zbV Hc.out rfl gw
 ·have HM:=Lib.hid (fun w'=>zfM (zaZ (zbp b.list).s (zbp b.list).e w') hc)
  have Hc:=Lib.hid hc
  clear hc
  go_enter Tryz.func82,Tryz.ntmps82
  go_wp2_with (first|(go_at_call 140;(with_reducible refine zaa (zg5 b _ _ (S1.out.grew gw)) ?_);intro u)|(go_at_call 129;(with_reducible refine zew (HM.out _) ?_);intro u9))
  exact ⟨rfl,zdt Hc.out gw⟩
theorem zkS (a b:Bx) [ha:B64 a] [hb:B64 b] (w:World):Calls Tryz.prog 138 #[.agg #[.int .i64 a.x.lo,.int .i64 a.x.hi,.int .i64 a.y.lo,.int .i64 a.y.hi,.int .i64 a.z.lo,.int .i64 a.z.hi],.agg #[.int .i64 b.x.lo,.int .i64 b.x.hi,.int .i64 b.y.lo,.int .i64 b.y.hi,.int .i64 b.z.lo,.int .i64 b.z.hi]] w (zdH (.agg #[.int .i64 ((zbn a b).s).lo,.int .i64 ((zbn a b).s).hi]) (zbn a b).e w):=by
 have S1:=Lib.hid (SlAt.fresh (w:=w) (m:=w.heap.size) [.int .i64 a.x.lo,.int .i64 a.x.hi,.int .i64 a.y.lo,.int .i64 a.y.hi,.int .i64 a.z.lo,.int .i64 a.z.hi] 26 3 3 (by simp[maxLen]))
 have S2:=Lib.hid (SlAt.fresh (w:=w.alloc (.cells [.int .i64 a.x.lo,.int .i64 a.x.hi,.int .i64 a.y.lo,.int .i64 a.y.hi,.int .i64 a.z.lo,.int .i64 a.z.hi].toArray 26)) (m:=w.heap.size+1) [.int .i64 b.x.lo,.int .i64 b.x.hi,.int .i64 b.y.lo,.int .i64 b.y.hi,.int .i64 b.z.lo,.int .i64 b.z.hi] 26 3 3 (by simp[maxLen]))
 go_enter Tryz.func138,Tryz.ntmps138
 go_wp2
 go_region_with (first|(go_at_call 177;refine zaa (zmR a b _ _ _ (S1.out.grew gw) (S2.out.grew gw)) ?_;intro u1)|(go_at_call 129;(with_reducible refine za7 (zaZ (zbn a b).s (zbn a b).e _) ?_ ?_);(· intro hz u;exact ⟨rfl,zec rfl hz.out gw⟩);intro hz u2))
 all_goals go_wp2
 all_goals
  refine bodyPost_ret (by (simp[results,Tryz.results138,go_sem]<;>rfl)) rfl ?_
  exact zbV hz.out rfl gw
end Go.Proofs.YtdkfkalplmgoeaaGreat
namespace Go.Proofs.YtdkfkalplmgoeaaGreat
open Go.RowKit
set_option maxRecDepth 100000
set_option maxHeartbeats 8000000
theorem zli (a b:Sp) (w:World):Calls Tryz.prog 173 #[.agg #[.int .i64 a.lo,.int .i64 a.hi],.agg #[.int .i64 b.lo,.int .i64 b.hi]] w fun e w'=>e=.returned (.tuple #[.agg #[.int .i64 (zcp a b).s.lo,.int .i64 (zcp a b).s.hi],.int .i64 (zcp a b).e])∧Grew w w':=by
 cases hk:(a.okB&&b.okB)
 ·have Hf:=Lib.hid (show errR 2=zcp a b by unfold zcp;rw[hk];rfl)
  go_enter Tryz.func173,Tryz.ntmps173
  go_wp2_with (first|(go_at_call 60;(with_reducible refine zaa (zbr a b hk _ _ (SlAt.fresh _ _ _ _ (by simp[maxLen]))) ?_);intro u))
  refine bodyPost_ret (by (simp[results,Tryz.results173,go_sem]<;>rfl)) rfl ?_
  exact ⟨zaJ Hf.out rfl,gw⟩
 ·have Hf:=Lib.hid (show (⟨zbb a b,0⟩:Res)=zcp a b by unfold zcp;rw[hk];rfl)
  go_enter Tryz.func173,Tryz.ntmps173
  go_wp2_with (first|(go_at_call 60;(with_reducible refine zaa (za0 a b hk _ _ (SlAt.fresh _ _ _ _ (by simp[maxLen]))) ?_);intro u))
  all_goals
   refine bodyPost_ret (by (simp[results,Tryz.results173,go_sem]<;>rfl)) rfl ?_
   exact ⟨zaS (by rw[←Hf.out];unfold zbb imin imax;congr 2<;>(repeat' split)<;>omega),gw⟩
end Go.Proofs.YtdkfkalplmgoeaaGreat
