/-
  Joined: FlightCalc, DivLaw.
-/
import Derived.Test.YtdkfkalplmgoeaaGreatCalcsH
import Derived.Test.YtdkfkalplmgoeaaGreatFoldsH
import Derived.Test.YtdkfkalplmgoeaaGreatWidesH
import Derived.Test.YtdkfkalplmgoeaaGreatSpanMul2H
namespace Go.Proofs.YtdkfkalplmgoeaaGreat
open Go.RowKit Go.Shelf
set_option maxRecDepth 100000
set_option maxHeartbeats 2000000
theorem zf4 (c:Nat) (e:Int) (r:Res) (w:World) (hc:w.cell? ⟨c,0,none⟩=some (.int .i64 e)) (hf:w.frozen? ⟨c,0,none⟩=false) :
 Calls Tryz.prog 160 #[.pointer (some ⟨c,0,none⟩),.agg #[.int .i64 r.s.lo,.int .i64 r.s.hi],.int .i64 r.e] w (RetC c (.agg #[.int .i64 ((doR e r).s).lo,.int .i64 ((doR e r).s).hi]) (doR e r).e w):=by
 have ib:BlockIn w c:=BlockIn.of_cell hc
 have hci:HasCell w c 0:=⟨_,hc⟩
 have Hb:=Lib.hid (But.refl hc)
 have Hc:=Lib.hid hc
 by_cases he:e=0
 ·subst he
  have HD:=Lib.hid (zen r)
  go_enter Tryz.func160,Tryz.ntmps160
  go_wp2
  refine bodyPost_ret (by (simp[results,Tryz.results160,go_sem]<;>rfl)) rfl ?_
  refine ⟨zgR (by rw[HD.out]) (by rw[HD.out]),But.out btw Hc.out ?_⟩
  rw[HD.out]
  go_simp
 ·have he':(e != 0)=true:=by simp[he]
  have HD:=Lib.hid (zd9 r he)
  clear he
  go_enter Tryz.func160,Tryz.ntmps160
  go_wp2
  refine bodyPost_ret (by (simp[results,Tryz.results160,go_sem]<;>rfl)) rfl ?_
  refine ⟨zgR (by rw[HD.out];rfl) (by rw[HD.out];rfl),But.out btw Hc.out ?_⟩
  rw[HD.out]
  show _=some (Value.int .i64 e)
  go_simp
def zkr (g:Nat) (op:Sp→Sp→Res):Prop:=∀ (w:World) (a b:Sp),S64 a→S64 b→Calls Tryz.prog g #[.agg #[.int .i64 a.lo,.int .i64 a.hi],.agg #[.int .i64 b.lo,.int .i64 b.hi]] w fun e w'=>e=.returned (.tuple #[.agg #[.int .i64 (op a b).s.lo,.int .i64 (op a b).s.hi],.int .i64 (op a b).e])∧Grew w w'
theorem zgC (g:Nat) (op:Sp→Sp→Res) (eg:∀ args w,(callFunc g args).run Tryz.prog w=.ok (.enter g args) w) (hop:zkr g op) (c:Nat) (e:Int) (a b:Sp) [ha:S64 a] [hb:S64 b] (w:World) (hc:w.cell? ⟨c,0,none⟩=some (.int .i64 e)) (hf:w.frozen? ⟨c,0,none⟩=false) :
 Calls Tryz.prog 150 #[.pointer (some ⟨c,0,none⟩),.func (.func g) #[] #[],.agg #[.int .i64 a.lo,.int .i64 a.hi],.agg #[.int .i64 b.lo,.int .i64 b.hi]] w (RetC c (.agg #[.int .i64 ((doR e (op a b)).s).lo,.int .i64 ((doR e (op a b)).s).hi]) (doR e (op a b)).e w):=by
 have ib:BlockIn w c:=BlockIn.of_cell hc
 have hci:HasCell w c 0:=⟨_,hc⟩
 have Hb:=Lib.hid (But.refl hc)
 have Hc:=Lib.hid hc
 have Hop:=Lib.hid hop
 clear hop
 by_cases he:e=0
 ·subst he
  have HD:=Lib.hid (zen (op a b))
  go_enter Tryz.func150,Tryz.ntmps150
  go_wp2_with (first|(go_at_fn g;refine zaa (Hop.out _ a b ha hb) ?_;intro u))
  refine bodyPost_ret (by (simp[results,Tryz.results150,go_sem]<;>rfl)) rfl ?_
  refine ⟨zgR (by rw[HD.out]) (by rw[HD.out]),But.out btw Hc.out ?_⟩
  rw[HD.out]
  go_simp
 ·have he':(e != 0)=true:=by simp[he]
  have HD:=Lib.hid (zd9 (op a b) he)
  clear he
  go_enter Tryz.func150,Tryz.ntmps150
  go_wp2
  refine bodyPost_ret (by (simp[results,Tryz.results150,go_sem]<;>rfl)) rfl ?_
  refine ⟨zgR (by rw[HD.out];rfl) (by rw[HD.out];rfl),But.out btw Hc.out ?_⟩
  rw[HD.out]
  show _=some (Value.int .i64 e)
  go_simp
theorem zrt:zkr 28 subR:=fun w a b _ _=>zke a b w
theorem zeF (c:Nat) (e:Int) (a b:Sp) [ha:S64 a] [hb:S64 b] (w:World) (hc:w.cell? ⟨c,0,none⟩=some (.int .i64 e)) (hf:w.frozen? ⟨c,0,none⟩=false) :
 Calls Tryz.prog 99 #[.pointer (some ⟨c,0,none⟩),.agg #[.int .i64 a.lo,.int .i64 a.hi],.agg #[.int .i64 b.lo,.int .i64 b.hi]] w (RetC c (.agg #[.int .i64 ((doR e (subR a b)).s).lo,.int .i64 ((doR e (subR a b)).s).hi]) (doR e (subR a b)).e w):=by
 have ib:BlockIn w c:=BlockIn.of_cell hc
 have hci:HasCell w c 0:=⟨_,hc⟩
 have Hb:=Lib.hid (But.refl hc)
 have Hc:=Lib.hid hc
 go_enter Tryz.func99,Tryz.ntmps99
 go_wp2_with (go_at_call 150;refine zar (zgC 28 subR (enters_of Tryz.func28 (by kernel_rfl) rfl) zrt c e a b _ (by go_simp) (by go_simp)) ?_;intro u)
 refine bodyPost_ret (by (simp[results,Tryz.results99,go_sem]<;>rfl)) rfl ?_
 exact ⟨rfl,But.out btw Hc.out (by go_simp)⟩
theorem zm0 (b:Bx) [h:B64 b] (ao:Option Addr) (w:World) (hs:SlAt w (.slice ao 3 3) 3 [.int .i64 b.x.lo,.int .i64 b.x.hi,.int .i64 b.y.lo,.int .i64 b.y.hi,.int .i64 b.z.lo,.int .i64 b.z.hi]):Calls Tryz.prog 140 #[.slice ao 3 3] w fun e w'=>e=.returned (.tuple #[.agg #[.int .i64 (zbA b.list).s.lo,.int .i64 (zbA b.list).s.hi],.int .i64 (zbA b.list).e])∧Grew w w':=zmZ (boxS b) ao 3 w hs
theorem zjE (c:Nat) (e:Int) (b:Bx) [hb:B64 b] (w:World) (hc:w.cell? ⟨c,0,none⟩=some (.int .i64 e)) (hf:w.frozen? ⟨c,0,none⟩=false) :
 Calls Tryz.prog 154 #[.pointer (some ⟨c,0,none⟩),.agg #[.int .i64 b.x.lo,.int .i64 b.x.hi,.int .i64 b.y.lo,.int .i64 b.y.hi,.int .i64 b.z.lo,.int .i64 b.z.hi]] w (RetC c (.agg #[.int .i64 ((doR e (zbA b.list)).s).lo,.int .i64 ((doR e (zbA b.list)).s).hi]) (doR e (zbA b.list)).e w):=by
 have ib:BlockIn w c:=BlockIn.of_cell hc
 have hci:HasCell w c 0:=⟨_,hc⟩
 have Hb:=Lib.hid (But.refl hc)
 have Hc:=Lib.hid hc
 go_enter Tryz.func154,Tryz.ntmps154
 go_wp2_with (first|(go_at_call 140;(with_reducible refine zaa (zm0 b _ _ (SlAt.row _ _ (by decide))) ?_);intro u)|(go_at_call 160;refine zar (zf4 c e (zbA b.list) _ (by go_simp) (by go_simp)) ?_;intro u))
 refine bodyPost_ret (by (simp[results,Tryz.results154,go_sem]<;>rfl)) rfl ?_
 exact ⟨rfl,But.out btw Hc.out (by go_simp)⟩
def zdv (f:Sp→Sp→Res) (e:Int) (a b:Bx):Res:=doR e (f a.x b.x)
def zdO (f:Sp→Sp→Res) (e:Int) (a b:Bx):Res:=doR (zdv f e a b).e (f a.y b.y)
def zdP (f:Sp→Sp→Res) (e:Int) (a b:Bx):Res:=doR (zdO f e a b).e (f a.z b.z)
def zvz (f:Sp→Sp→Res) (e:Int) (a b:Bx):Bx:=⟨(zdv f e a b).s,(zdO f e a b).s,(zdP f e a b).s⟩
def OpC (g:Nat) (lb:Array Value) (op:Sp→Sp→Res) (c:Nat) (w0:World):Prop:=
 ∀ (w:World) (e:Int) (a b:Sp),S64 a→S64 b→ButT c w0 w→w.cell? ⟨c,0,none⟩=some (.int .i64 e)→w.frozen? ⟨c,0,none⟩=false→
  Calls Tryz.prog g (#[.agg #[.int .i64 a.lo,.int .i64 a.hi],.agg #[.int .i64 b.lo,.int .i64 b.hi]]++lb) w (RetC c (.agg #[.int .i64 ((doR e (op a b)).s).lo,.int .i64 ((doR e (op a b)).s).hi]) (doR e (op a b)).e w)
def zff (f:Sp→Sp→Res) (e:Int) (a b:Bx):Nat→List Value
 |0=>[.int .i64 0,.int .i64 0,.int .i64 0,.int .i64 0,.int .i64 0,.int .i64 0]
 |1=>[.int .i64 ((zdv f e a b).s).lo,.int .i64 ((zdv f e a b).s).hi,.int .i64 0,.int .i64 0,.int .i64 0,.int .i64 0]
 |2=>[.int .i64 ((zdv f e a b).s).lo,.int .i64 ((zdv f e a b).s).hi,.int .i64 ((zdO f e a b).s).lo,.int .i64 ((zdO f e a b).s).hi,.int .i64 0,.int .i64 0]
 |_=>[.int .i64 ((zdv f e a b).s).lo,.int .i64 ((zdv f e a b).s).hi,.int .i64 ((zdO f e a b).s).lo,.int .i64 ((zdO f e a b).s).hi,.int .i64 ((zdP f e a b).s).lo,.int .i64 ((zdP f e a b).s).hi]
def zhD (f:Sp→Sp→Res) (e:Int) (a b:Bx):Nat→Int
 |0=>e
 |1=>(zdv f e a b).e
 |2=>(zdO f e a b).e
 |_=>(zdP f e a b).e
structure EachAt (f:Sp→Sp→Res) (e:Int) (a b:Bx) (c B:Nat) (w:World) (k:Nat) (wr:World):Prop where
 but:But c w wr
 cell:wr.cell? ⟨c,0,none⟩=some (.int .i64 (zhD f e a b k))
 mark:wr.frozen? ⟨c,0,none⟩=false
 fst:zav wr w.heap.size [.int .i64 a.x.lo,.int .i64 a.x.hi,.int .i64 a.y.lo,.int .i64 a.y.hi,.int .i64 a.z.lo,.int .i64 a.z.hi]
 snd:zav wr (w.heap.size+1) [.int .i64 b.x.lo,.int .i64 b.x.hi,.int .i64 b.y.lo,.int .i64 b.y.hi,.int .i64 b.z.lo,.int .i64 b.z.hi]
 res:zav wr (w.heap.size+1+1) [.int .i64 0,.int .i64 0,.int .i64 0,.int .i64 0,.int .i64 0,.int .i64 0]
 out:zav wr B (zff f e a b k)
theorem zbw {w:World} {b:Nat} {x0 x1 x2 x3 x4 x5:Value} (h0:w.cell? ⟨b,0,none⟩=some x0) (f0:w.frozen? ⟨b,0,none⟩=false) (h1:w.cell? ⟨b,1,none⟩=some x1) (f1:w.frozen? ⟨b,1,none⟩=false) (h2:w.cell? ⟨b,2,none⟩=some x2) (f2:w.frozen? ⟨b,2,none⟩=false)
 (h3:w.cell? ⟨b,3,none⟩=some x3) (f3:w.frozen? ⟨b,3,none⟩=false) (h4:w.cell? ⟨b,4,none⟩=some x4) (f4:w.frozen? ⟨b,4,none⟩=false) (h5:w.cell? ⟨b,5,none⟩=some x5) (f5:w.frozen? ⟨b,5,none⟩=false):zav w b [x0,x1,x2,x3,x4,x5]:=by
 intro i v hv
 match i,hv with
 |0,hv=>simp at hv;subst hv;exact ⟨h0,f0⟩
 |1,hv=>simp at hv;subst hv;exact ⟨h1,f1⟩
 |2,hv=>simp at hv;subst hv;exact ⟨h2,f2⟩
 |3,hv=>simp at hv;subst hv;exact ⟨h3,f3⟩
 |4,hv=>simp at hv;subst hv;exact ⟨h4,f4⟩
 |5,hv=>simp at hv;subst hv;exact ⟨h5,f5⟩
end Go.Proofs.YtdkfkalplmgoeaaGreat
namespace Go.Proofs.YtdkfkalplmgoeaaGreat
open Go.RowKit
theorem zoC {A b q r:Int} (hA:A=b*q+r) (h0:0≤r) (h1:r<b):A/b=q∧A % b=r:=by
 have:=Int.ediv_emod_unique (a:=A) (b:=b) (r:=r) (q:=q) (by omega)
 exact this.2 ⟨by omega,h0,h1⟩
theorem zjC (x:Int) (i:Nat):x/2^i=2*(x/2^(i+1))+bitZ x i:=by
 unfold bitZ
 rw[Int.pow_succ,←Int.ediv_ediv_of_nonneg (Int.le_of_lt (Int.pow_pos (by omega)))]
 omega
theorem zi0 (x:Int) (i:Nat):bitZ x i=0∨bitZ x i=1:=by unfold bitZ;omega
theorem zn9 (x b:Int) (i:Nat) (hb:0<b) (t:Int) (ht:t=2*(x/2^(i+1) % b)+bitZ x i) :
 (t<b→x/2^i/b=2*(x/2^(i+1)/b)∧x/2^i % b=t)∧(b≤t→x/2^i/b=2*(x/2^(i+1)/b)+1∧x/2^i % b=t-b):=by
 have h1:=zjC x i
 have h2:=Int.mul_ediv_add_emod (x/2^(i+1)) b
 have h3:=Int.emod_nonneg (x/2^(i+1)) (show b≠0 by omega)
 have h4:=Int.emod_lt_of_pos (x/2^(i+1)) hb
 have h5:=zi0 x i
 generalize x/2^(i+1)=y at *
 generalize x/2^i=z at *
 generalize y % b=r at *
 generalize y/b=q at *
 have e2:b*(2*q)=2*(b*q):=Int.mul_left_comm b 2 q
 have e3:b*(2*q+1)=2*(b*q)+b:=by rw[Int.mul_add,e2,Int.mul_one]
 generalize b*q=m at *
 refine ⟨fun h=>zoC (by rw[e2];omega) (by omega) h,fun h=>zoC (by rw[e3];omega) (by omega) (by omega)⟩
theorem zoB (x b:Int) (i:Nat) (h0:0≤x) (hb:0<b):0≤x/2^i/b∧x/2^i/b≤x∧0≤x/2^i % b∧x/2^i % b<b∧x/2^i % b≤x:=by
 have hp:(0:Int)<2^i:=Int.pow_pos (by omega)
 have h1:=Int.ediv_nonneg h0 (Int.le_of_lt hp)
 have h2:=Int.ediv_le_self (2^i) h0
 have h3:=Int.ediv_nonneg h1 (Int.le_of_lt hb)
 have h4:=Int.ediv_le_self b h1
 have h5:=Int.emod_nonneg (x/2^i) (show b≠0 by omega)
 have h6:=Int.emod_lt_of_pos (x/2^i) hb
 have h7:=Int.mul_ediv_add_emod (x/2^i) b
 have h8:=Int.mul_nonneg (Int.le_of_lt hb) h3
 exact ⟨h3,by omega,h5,h6,by omega⟩
theorem zh9 (m d:Int) (hd:1≤d):upZ m d=if m % d=0 then m/d else m/d+1:=zpf m d hd
theorem znA (m d:Int):zbl (-m) d=-upZ m d:=by unfold zbl upZ;omega
theorem zsI (m d:Int):upZ (-m) d=-zbl m d:=by unfold zbl upZ;rw[Int.neg_neg]
theorem zi4 (m d M:Int) (hM:0≤M) (h1:-M≤m) (h2:m≤M) (hd:1≤d):-M≤zbl m d∧zbl m d≤M:=by
 unfold zbl
 have a:(-M)/d≤m/d:=Int.ediv_le_ediv (by omega) h1
 have b:m/d≤M/d:=Int.ediv_le_ediv (by omega) h2
 have c:M/d≤M:=Int.ediv_le_self d hM
 have e:-M≤(-M)/d:=by
  rw[Int.le_ediv_iff_mul_le (by omega),Int.neg_mul]
  have:=Int.mul_le_mul_of_nonneg_left hd hM
  omega
 omega
theorem zrc (m d M:Int) (hM:0≤M) (h1:-M≤m) (h2:m≤M) (hd:1≤d):-M≤upZ m d∧upZ m d≤M:=by
 have:=zi4 (-m) d M hM (by omega) (by omega) hd
 unfold zbl at this
 unfold upZ
 omega
theorem zum (a b:Int) (ha:I64 a) (hb:b≠0):(-39614081257132168796771975168≤zbU a b∧zbU a b≤39614081257132168796771975168)∧(-39614081257132168796771975168≤zez a b∧zez a b≤39614081257132168796771975168):=by
 unfold I64 at ha
 unfold zbU zez
 split
 ·exact ⟨zi4 _ _ _ (by omega) (by omega) (by omega) (by omega),zrc _ _ _ (by omega) (by omega) (by omega) (by omega)⟩
 ·exact ⟨zi4 _ _ _ (by omega) (by omega) (by omega) (by omega),zrc _ _ _ (by omega) (by omega) (by omega) (by omega)⟩
end Go.Proofs.YtdkfkalplmgoeaaGreat
