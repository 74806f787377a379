/-
  Joined: NavSusp, NavOuts, NavFind, Evers.
-/
import Derived.Test.YtdkfkalplmgoeaaGreatAppRadL
import Derived.Test.YtdkfkalplmgoeaaGreatRowL
import Derived.Test.YtdkfkalplmgoeaaGreatTrustOutL
import Derived.LoopN
import Derived.BigRegion
import Derived.Shelf.Abstract
import Derived.Test.YtdkfkalplmgoeaaGreatProg
import Derived.Test.YtdkfkalplmgoeaaGreatChecksL
import Derived.Maps.AppendAt
namespace Go.Proofs.YtdkfkalplmgoeaaGreat
open Go.RowKit Go.Shelf
set_option maxRecDepth 100000
set_option maxHeartbeats 8000000
theorem zjk (s:State) (l:List Radio) (n:Int) (ao:Option Addr) (cap:Nat) (w:World) (hs:SlAt w (.slice ao l.length cap) l.length (l.flatMap Radio.cells)) (hE:zaQ s l n≠0) :
 Calls Tryz.prog 7 #[.agg s.cells.toArray,.slice ao l.length cap,.int .i64 n] w fun e w'=>e=.returned (.tuple #[.slice none 0 0,.int .i64 (zaQ s l n)])∧Grew w w':=by
 have HC:=Lib.hid (fun w' (g:Grew w w')=>show Calls Tryz.prog 17 #[.agg s.cells.toArray,.slice ao l.length cap,.int .i64 n] w' (fun e w''=>e=.returned (.int .i64 (zaQ s l n))∧Grew w' w'') from zb3 s l n ao cap w' (hs.grew g))
 have t0:(zaQ s l n != 0)=true:=by simp[hE]
 clear hE hs
 generalize zaQ s l n=E at *
 go_enter Tryz.func7,Tryz.ntmps7
 go_wp2_with (first|(go_at_call 17;(with_reducible refine zaa (HC.out _ gw) ?_);intro u)|(with_reducible refine wLr ?_)|(with_reducible refine wLi ?_)|(with_reducible refine wSf ?_)|(with_reducible refine wSi ?_)|((with_reducible refine zac ?_ ?_ ?_);(· kernel_rfl);(· kernel_rfl);(try simp only[List.append_eq,List.cons_append,List.nil_append]);(repeat (go_big_quiet_step ((first|(go_at_call 17;(with_reducible exact zad (HC.out _ gw)))))));refine wpQuiet_nil ?_;rintro _ ⟨u,rfl⟩))
 go_ret2
 exact ⟨rfl,gw⟩
theorem zip (s:State) (l:List Radio) (n:Int) [hp:Pv64 s] (hT:∀ m∈l,Ra64 m) (ao:Option Addr) (cap:Nat) (w:World) (hs:SlAt w (.slice ao l.length cap) l.length (l.flatMap Radio.cells)) (hE:zaQ s l n=0) (h0:(zaB za2 l n.toNat 0 s).e=0) :
 Calls Tryz.prog 7 #[.agg s.cells.toArray,.slice ao l.length cap,.int .i64 n] w fun e w'=>e=.returned (.tuple #[.slice none 0 0,.int .i64 0])∧Grew w w':=by
 obtain ⟨v1,v2,v3,v4⟩:=zcM hE
 have HC:=Lib.hid (fun w' (g:Grew w w')=>show Calls Tryz.prog 17 #[.agg s.cells.toArray,.slice ao l.length cap,.int .i64 n] w' (fun e w''=>e=.returned (.int .i64 0)∧Grew w' w'') from zaH hE (zb3 s l n ao cap w' (hs.grew g)))
 have HF:=Lib.hid (fun w' (g:Grew w w')=>show Calls Tryz.prog 19 #[.agg s.cells.toArray,.slice ao l.length cap,.int .i64 n,.int .i64 0] w' (fun e w''=>e=.returned (.tuple #[.agg (zaB za2 l n.toNat 0 s).s.cells.toArray,.int .i64 (zaB za2 l n.toNat 0 s).n,.bool true])∧Grew w' w'') from by
  have:=zdB s l n 0 hT v4 v2 v3 v1 ao cap w' (hs.grew g)
  rw[zgR] at this
  unfold RetF at this
  rw[decide_eq_true h0] at this
  exact this)
 clear hE h0 hs v1 v2 v3 v4
 generalize zaB za2 l n.toNat 0 s=r at *
 go_enter Tryz.func7,Tryz.ntmps7
 go_wp2_with (first|(go_at_call 17;(with_reducible refine zaa (HC.out _ gw) ?_);intro u)|(go_at_call 19;(with_reducible refine zaa (HF.out _ gw) ?_);intro u)|(with_reducible refine wLr ?_)|(with_reducible refine wLi ?_)|(with_reducible refine wSf ?_)|(with_reducible refine wSi ?_)|((with_reducible refine zac ?_ ?_ ?_);(· kernel_rfl);(· kernel_rfl);(try simp only[List.append_eq,List.cons_append,List.nil_append]);(repeat (go_big_quiet_step ((first|(go_at_call 17;(with_reducible exact zad (HC.out _ gw)))|(go_at_call 19;(with_reducible exact zad (HF.out _ gw)))))));refine wpQuiet_nil ?_;rintro _ ⟨u,rfl⟩))
 go_ret2
 exact ⟨rfl,gw⟩
theorem zl2:∀ k,k<20→∀ j,j<20→zbQ (2^k) j=decide (j≠k):=by
 decide +kernel
end Go.Proofs.YtdkfkalplmgoeaaGreat
namespace Go.Proofs.YtdkfkalplmgoeaaGreat
open Go.RowKit Go.Shelf
set_option maxRecDepth 100000
set_option maxHeartbeats 8000000
def hasTo (s t:State) (k:Nat):Prop:=∀ i,i<k→(t.p.at i).inB (s.p.at i)=true∧(t.v.at i).inB (s.v.at i)=true
@[go_sem] theorem stGet0 (s:State):s.cells[0]?=some (.int .i64 s.t):=rfl
@[go_sem] theorem stGet1 (s:State):s.cells[1]?=some (.int .i64 s.p.x.lo):=rfl
@[go_sem] theorem stGet2 (s:State):s.cells[2]?=some (.int .i64 s.p.x.hi):=rfl
@[go_sem] theorem stGet3 (s:State):s.cells[3]?=some (.int .i64 s.p.y.lo):=rfl
@[go_sem] theorem stGet4 (s:State):s.cells[4]?=some (.int .i64 s.p.y.hi):=rfl
@[go_sem] theorem stGet5 (s:State):s.cells[5]?=some (.int .i64 s.p.z.lo):=rfl
@[go_sem] theorem stGet6 (s:State):s.cells[6]?=some (.int .i64 s.p.z.hi):=rfl
@[go_sem] theorem stGet7 (s:State):s.cells[7]?=some (.int .i64 s.v.x.lo):=rfl
@[go_sem] theorem stGet8 (s:State):s.cells[8]?=some (.int .i64 s.v.x.hi):=rfl
@[go_sem] theorem stGet9 (s:State):s.cells[9]?=some (.int .i64 s.v.y.lo):=rfl
@[go_sem] theorem zrB (s:State):s.cells[10]?=some (.int .i64 s.v.y.hi):=rfl
@[go_sem] theorem zrC (s:State):s.cells[11]?=some (.int .i64 s.v.z.lo):=rfl
@[go_sem] theorem zrD (s:State):s.cells[12]?=some (.int .i64 s.v.z.hi):=rfl
@[go_sem] theorem zrE (s:State):s.cells[13]?=some (.int .i64 s.m.lo):=rfl
@[go_sem] theorem zrF (s:State):s.cells[14]?=some (.int .i64 s.m.hi):=rfl
end Go.Proofs.YtdkfkalplmgoeaaGreat
namespace Go.Proofs.YtdkfkalplmgoeaaGreat
open Go.RowKit Go.Shelf
set_option maxRecDepth 100000
set_option maxHeartbeats 8000000
def aS0:State:=⟨0,⟨⟨12884901888,12884901888⟩,⟨17179869184,17179869184⟩,⟨51539607552,51539607552⟩⟩,⟨⟨0,0⟩,⟨0,0⟩,⟨55834574848,55834574848⟩⟩,⟨4294967296,4294967296⟩⟩
def aS2:State:=⟨0,⟨⟨-42949672960,42949672960⟩,⟨0,0⟩,⟨0,0⟩⟩,⟨⟨0,0⟩,⟨0,0⟩,⟨55834574848,55834574848⟩⟩,⟨4294967296,4294967296⟩⟩
def aS3:State:=⟨0,⟨⟨-21474836480,21474836480⟩,⟨0,0⟩,⟨0,0⟩⟩,⟨⟨0,0⟩,⟨0,0⟩,⟨55834574848,55834574848⟩⟩,⟨4294967296,4294967296⟩⟩
def aM0:Radio:=⟨0,⟨⟨0,0⟩,⟨0,0⟩,⟨0,0⟩⟩,⟨⟨0,0⟩,⟨0,0⟩,⟨0,0⟩⟩,⟨0,0⟩⟩
def aM1:Radio:=⟨1,⟨⟨0,0⟩,⟨0,0⟩,⟨0,0⟩⟩,⟨⟨0,0⟩,⟨0,0⟩,⟨0,0⟩⟩,⟨0,0⟩⟩
def aM2:Radio:=⟨0,⟨⟨0,0⟩,⟨0,0⟩,⟨0,0⟩⟩,⟨⟨0,0⟩,⟨0,0⟩,⟨0,0⟩⟩,⟨12884901888,21474836480⟩⟩
instance:Pv64 aS0:=⟨⟨⟨by unfold I64 aS0;decide,by unfold I64 aS0;decide⟩,⟨by unfold I64 aS0;decide,by unfold I64 aS0;decide⟩,⟨by unfold I64 aS0;decide,by unfold I64 aS0;decide⟩⟩,⟨⟨by unfold I64 aS0;decide,by unfold I64 aS0;decide⟩,⟨by unfold I64 aS0;decide,by unfold I64 aS0;decide⟩,⟨by unfold I64 aS0;decide,by unfold I64 aS0;decide⟩⟩⟩
instance:Pv64 aS2:=⟨⟨⟨by unfold I64 aS2;decide,by unfold I64 aS2;decide⟩,⟨by unfold I64 aS2;decide,by unfold I64 aS2;decide⟩,⟨by unfold I64 aS2;decide,by unfold I64 aS2;decide⟩⟩,⟨⟨by unfold I64 aS2;decide,by unfold I64 aS2;decide⟩,⟨by unfold I64 aS2;decide,by unfold I64 aS2;decide⟩,⟨by unfold I64 aS2;decide,by unfold I64 aS2;decide⟩⟩⟩
instance:Pv64 aS3:=⟨⟨⟨by unfold I64 aS3;decide,by unfold I64 aS3;decide⟩,⟨by unfold I64 aS3;decide,by unfold I64 aS3;decide⟩,⟨by unfold I64 aS3;decide,by unfold I64 aS3;decide⟩⟩,⟨⟨by unfold I64 aS3;decide,by unfold I64 aS3;decide⟩,⟨by unfold I64 aS3;decide,by unfold I64 aS3;decide⟩,⟨by unfold I64 aS3;decide,by unfold I64 aS3;decide⟩⟩⟩
instance:Ra64 aM0:=⟨⟨⟨by unfold I64 aM0;decide,by unfold I64 aM0;decide⟩,⟨by unfold I64 aM0;decide,by unfold I64 aM0;decide⟩,⟨by unfold I64 aM0;decide,by unfold I64 aM0;decide⟩⟩,⟨⟨by unfold I64 aM0;decide,by unfold I64 aM0;decide⟩,⟨by unfold I64 aM0;decide,by unfold I64 aM0;decide⟩,⟨by unfold I64 aM0;decide,by unfold I64 aM0;decide⟩⟩,⟨by unfold I64 aM0;decide,by unfold I64 aM0;decide⟩⟩
instance:Ra64 aM1:=⟨⟨⟨by unfold I64 aM1;decide,by unfold I64 aM1;decide⟩,⟨by unfold I64 aM1;decide,by unfold I64 aM1;decide⟩,⟨by unfold I64 aM1;decide,by unfold I64 aM1;decide⟩⟩,⟨⟨by unfold I64 aM1;decide,by unfold I64 aM1;decide⟩,⟨by unfold I64 aM1;decide,by unfold I64 aM1;decide⟩,⟨by unfold I64 aM1;decide,by unfold I64 aM1;decide⟩⟩,⟨by unfold I64 aM1;decide,by unfold I64 aM1;decide⟩⟩
instance:Ra64 aM2:=⟨⟨⟨by unfold I64 aM2;decide,by unfold I64 aM2;decide⟩,⟨by unfold I64 aM2;decide,by unfold I64 aM2;decide⟩,⟨by unfold I64 aM2;decide,by unfold I64 aM2;decide⟩⟩,⟨⟨by unfold I64 aM2;decide,by unfold I64 aM2;decide⟩,⟨by unfold I64 aM2;decide,by unfold I64 aM2;decide⟩,⟨by unfold I64 aM2;decide,by unfold I64 aM2;decide⟩⟩,⟨by unfold I64 aM2;decide,by unfold I64 aM2;decide⟩⟩
end Go.Proofs.YtdkfkalplmgoeaaGreat
namespace Go.Proofs.YtdkfkalplmgoeaaGreat
open Go.RowKit Go.Shelf
set_option maxRecDepth 100000
set_option maxHeartbeats 8000000
structure Tr where
 p:Nat→Int
 v:Nat→Int
 w:Nat→Int
def Tr.cells (x:Tr):List Value:=[.int .i32 (x.p 0),.int .i32 (x.p 1),.int .i32 (x.p 2),.int .i32 (x.v 0),.int .i32 (x.v 1),.int .i32 (x.v 2),.int .u16 (x.w 0),.int .u16 (x.w 1),.int .u16 (x.w 2),.int .u16 (x.w 3),.int .u16 (x.w 4),.int .u16 (x.w 5)]
structure Tr.Ok (x:Tr):Prop where
 p:∀ i,-2147483648≤x.p i∧x.p i≤2147483647
 v:∀ i,-2147483648≤x.v i∧x.v i≤2147483647
 w:∀ i,0≤x.w i∧x.w i≤65535
structure GoodP (s t:Sp):Prop where
 pt:t=⟨t.lo,t.lo⟩
 lo:-1152921504606846976≤t.lo
 hi:t.lo≤1152921504606846976
 has:s.lo≤t.lo∧t.lo≤s.hi
 num:-4611686018427387904≤s.lo∧s.hi≤4611686018427387904
structure AbTo (S T:State) (k:Nat):Prop where
 st:S.t=0
 tt:T.t=0
 sm:S.m=oneS
 tm:T.m=oneS
 p:∀ i,i<k→GoodP (S.p.at i) (T.p.at i)
 v:∀ i,i<k→GoodP (S.v.at i) (T.v.at i)
theorem put_at (b:Bx) (k i:Nat) (hk:k<3) (hi:i≤k) (s:Sp):(b.put k s).at i=if i=k then s else b.at i:=by
 rcases (show k=0∨k=1∨k=2 by omega) with rfl|rfl|rfl
 ·obtain rfl:i=0:=by omega
  rfl
 ·rcases (show i=0∨i=1 by omega) with rfl|rfl<;>rfl
 ·rcases (show i=0∨i=1∨i=2 by omega) with rfl|rfl|rfl<;>rfl
theorem GoodP.ok {s t:Sp} (h:GoodP s t):s.okB=true:=zme (by have:=h.num.1;omega) (by have:=h.has;omega)
instance zp8 (l:List Value) (i:Nat) (v:Value) (n:Nat) [h:CLen l n]:CLen (l.set i v) n:=⟨by rw[List.length_set];exact h.len⟩
def RetAb (w:World) (e:Ending) (w':World):Prop:=∃ (s t:State) (u v:V3),About s t u v∧Pv64 s∧Pv64 t∧e=.returned (.tuple #[.agg s.cells.toArray,.agg t.cells.toArray])∧Grew w w'
instance zre (x:Tr):CLen x.cells 12:=⟨rfl⟩
@[go_sem] theorem trGet0 (x:Tr):x.cells[0]?=some (.int .i32 (x.p 0)):=rfl
@[go_sem] theorem trGet1 (x:Tr):x.cells[1]?=some (.int .i32 (x.p 1)):=rfl
@[go_sem] theorem trGet2 (x:Tr):x.cells[2]?=some (.int .i32 (x.p 2)):=rfl
@[go_sem] theorem trGet3 (x:Tr):x.cells[3]?=some (.int .i32 (x.v 0)):=rfl
@[go_sem] theorem trGet4 (x:Tr):x.cells[4]?=some (.int .i32 (x.v 1)):=rfl
@[go_sem] theorem trGet5 (x:Tr):x.cells[5]?=some (.int .i32 (x.v 2)):=rfl
@[go_sem] theorem trGet6 (x:Tr):x.cells[6]?=some (.int .u16 (x.w 0)):=rfl
@[go_sem] theorem trGet7 (x:Tr):x.cells[7]?=some (.int .u16 (x.w 1)):=rfl
@[go_sem] theorem trGet8 (x:Tr):x.cells[8]?=some (.int .u16 (x.w 2)):=rfl
@[go_sem] theorem trGet9 (x:Tr):x.cells[9]?=some (.int .u16 (x.w 3)):=rfl
@[go_sem] theorem zrH (x:Tr):x.cells[10]?=some (.int .u16 (x.w 4)):=rfl
@[go_sem] theorem zrI (x:Tr):x.cells[11]?=some (.int .u16 (x.w 5)):=rfl
def pLo (P w:Int):Int:=IntKind.i64.wrap (P-IntKind.i64.wrap (IntKind.i64.wrap w*67108864))
def pHi (P w:Int):Int:=IntKind.i64.wrap (P+IntKind.i64.wrap (IntKind.i64.wrap w*33554432))
def vLo (P w:Int):Int:=wrap64 (P-wrap64 (wrap64 w*524288))
def vHi (P w:Int):Int:=wrap64 (P+wrap64 (wrap64 w*1048576))
end Go.Proofs.YtdkfkalplmgoeaaGreat
namespace Go.Proofs.YtdkfkalplmgoeaaGreat
set_option maxRecDepth 100000
def butK (k j:Nat):Bool:=decide (j≠k)
noncomputable def susR (s:State) (l:List Radio) (n:Int):List Nat:=(List.range l.length).filter fun i=>decide ((zaB (butK i) l n.toNat 0 s).e=0)
end Go.Proofs.YtdkfkalplmgoeaaGreat
namespace Go.Proofs.YtdkfkalplmgoeaaGreat
open Go.RowKit
set_option maxRecDepth 100000
set_option maxHeartbeats 2000000
def intC (a:Int):List Value:=[.int .i64 a]
def zrk {α:Type} (p:α→Bool):Nat→List α→Int
 |_,[]=>-1
 |k,x::r=>if p x=true then k else zrk p (k+1) r
def zlw (g:Nat) (lb:Array Value) (p:Int→Bool) (w0:World):Prop:=∀ (w:World) (x:Int),Grew w0 w→Calls Tryz.prog g (#[.int .i64 x]++lb) w fun e w'=>e=.returned (.bool (p x))∧Grew w w'
theorem zlw.grew {g:Nat} {lb:Array Value} {p:Int→Bool} {w w':World} (h:zlw g lb p w) (k:Grew w w'):zlw g lb p w':=fun W x hW=>h W x (k.trans hW)
end Go.Proofs.YtdkfkalplmgoeaaGreat
namespace Go.Proofs.YtdkfkalplmgoeaaGreat
open Go.RowKit
set_option maxRecDepth 100000
set_option maxHeartbeats 2000000
theorem zpi:(Tryz.prog.info? 3).map (fun i=>(i.zero,i.size,i.bytes))=some (some (.int .i64 0),1,8):=by kernel_rfl
theorem zl1 (l:List Int) (k:Int):l.flatMap intC++[.int .i64 k]=(l++[k]).flatMap intC:=by simp[intC]
theorem zek {ops:Array Oper} {rest:List Oper} {o:Oper} {a:Act} {Q:Exit→Act→World→Prop} (a0 w:World) (g0:Grew a0 w) {m:Nat} [hm:SizeAt w m] (hgd:o.guard=none) (s x:Operand)
 (ho:o.op=.call { callee:=.builtin .append,args:=#[s,x],argTypes:=#[35, 35] }) (v:Value) (l:List Int) (hown:w.ownsRow a0.heap.size 3 1 v l.length (l.flatMap intC)) (hs:a.eval s=v) (k:Int) (ty:TypeId)
 (hx:a.eval x=.slice (some ⟨m,0,none⟩) 1 1) (hn:l.length≤1099511627776)
 (h:∀ v' (y:Later a0),y.world.ownsRow a0.heap.size 3 1 v' (l++[k]).length ((l++[k]).flatMap intC)→wpList Tryz.prog ops Q rest (a.put o.dst v') y.world) :
 wpList Tryz.prog ops Q (o::rest) a (w.alloc (.cells #[.int .i64 k] ty)):=by
 obtain rfl:=hm.eq
 obtain ⟨i0,hi,hz0,hzz1,hzz2⟩:=info_parts zpi
 refine wpList_append_own _ hgd s x 35 ho a0.heap.size 3 i0 (.int .i64 0) 1 8 Tryz.underlying35 hi hz0 hzz1 hzz2 rfl (by decide) v _ _ hs (hown.alloc _) ⟨w.heap.size,0,none⟩ 1 1 [.int .i64 k] hx rfl (by simpa using zfR w [.int .i64 k] ty) (by simp[Value.oneCell']) (by simp[maxLen];omega) (by omega) (by have:=g0.size;simp;omega) ?_
 intro v' w1 hown' hgrow _
 obtain ⟨y,rfl⟩:=zaj (Grew.append (g0.alloc (.cells #[.int .i64 k] ty)) (hown.alloc (.cells #[.int .i64 k] ty)) (Nat.le_refl _) hgrow)
 refine h v' y ?_
 rw[←zl1,List.length_append]
 exact hown'
def zra (l:List Int) (w:World) (e:Ending) (w':World):Prop:=
 ∃ v,e=.returned v∧SlAt w' v l.length (l.flatMap intC)∧Grew w w'
def zqJ (l:List Int) (c:Int) (w:World) (e:Ending) (w':World):Prop:=
 ∃ v,e=.returned (.tuple #[v,.int .i64 c])∧SlAt w' v l.length (l.flatMap intC)∧Grew w w'
theorem zj4 {w:World} {v:Value} {l:List Int} (h:SlAt w v l.length (l.flatMap intC)) (k:Nat) (hk:k<l.length) :
 ∃ b off cap,v=.slice (some ⟨b,off,none⟩) l.length cap∧BlockIn w b∧w.cell? ⟨b,off+k,none⟩=some (.int .i64 l[k]):=by
 obtain ⟨ao,cap,rfl,hm,hc⟩:=h
 obtain ⟨b,off,rfl,hb,h1,-⟩:=SlAt.elem (f:=intC) (c:=1) (fun _=>rfl) (by omega) hc k hk
 refine ⟨b,off,cap,rfl,⟨hb⟩,?_⟩
 have:=h1 _ rfl
 rwa [Nat.mul_one] at this
theorem zmO {w:World} {v:Value} {n:Nat} {xs:List Value} (h:SlAt w v n xs):∃ ao cap,v=.slice ao n cap∧n≤2^63-1:=by
 obtain ⟨ao,cap,rfl,hm,-⟩:=h
 exact ⟨ao,cap,rfl,by unfold maxLen at hm;exact hm⟩
end Go.Proofs.YtdkfkalplmgoeaaGreat
