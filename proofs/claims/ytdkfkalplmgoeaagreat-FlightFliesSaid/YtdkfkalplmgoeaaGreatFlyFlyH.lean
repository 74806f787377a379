/-
  Joined: FlyFly.
-/
import Derived.OwnWalkIn
import Derived.OrdersIn
import Derived.StillTailTactics
import Derived.Deep.RegionHeld3
import Derived.Deep.AppendLies
import Derived.RangeFuncNested
import Derived.RangeFuncCalls
import Derived.Test.YtdkfkalplmgoeaaGreatLexAllH
import Derived.Sort.BigQuietIn
import Derived.Test.YtdkfkalplmgoeaaGreatFoldsH
import Derived.Test.YtdkfkalplmgoeaaGreatRowMidH
import Derived.Test.YtdkfkalplmgoeaaGreatAlive03H
import Derived.Test.YtdkfkalplmgoeaaGreatLookCH
import Derived.Test.YtdkfkalplmgoeaaGreatLookAllH
import Derived.Test.YtdkfkalplmgoeaaGreatForceNH
namespace Go.Proofs.YtdkfkalplmgoeaaGreat
open Go.RowKit
section
variable {P:Program}
end
def zfo (o:Oper):Bool:=match o.op with | .defer _=>false|_=>true
theorem zmE {o:Oper} (h:zfo o=true):∀ c,o.op≠.defer c:=fun c e=>by unfold zfo at h;rw[e] at h;cases h
def zmn (Q:Exit→Act→World→Prop) (e:Exit) (a:Act) (w:World):Prop:=e=.normal∧Q .normal a w
theorem ziB {P:Program} {n l:Nat} {o:Oper} (hd:zfo o=true) {Q:Exit→Act→World→Prop} {a:Act} {w:World} {K K':Act→World→Prop} (hK:∀ a w,K a w→K' a w) (h:o.wp P a w K (zmn Q)):o.wpIn (Fence.wide.inRound l) n P a w K' Q:=by
 refine ⟨fun _ _=>trivial,?_⟩
 rw[Oper.semAt_plain (Fence.wide.inRound l) _ _ (zmE hd)]
 unfold Oper.wp at h
 generalize (execOp a.eval o).run P w=r at h ⊢
 cases r with
 |ok x w'=>
  cases x with
  |value v=>exact hK _ _ h
  |skip=>exact hK _ _ h
  |defer d=>exact hK _ _ h
  |enter f args=>
   refine ⟨(fun h=>by cases h),CallsIn.inRound l (callsIn_wide.2 (Calls.mono h fun e w'' he=>?_))⟩
   cases e with
   |returned v=>exact hK _ _ he
   |panicked c=>exact absurd he.1 (by simp)
   |outgrown=>obtain ⟨_,_,he⟩:=he;exact absurd he.1 (by simp)
  |row r args=>
   refine ⟨(fun h=>by cases h),fun c cs _=>?_⟩
   obtain ⟨v,w2,hv,hs⟩:=h c cs
   exact ⟨v,w2,hK _ _ hv,stepsIn_wide.2 hs⟩
  |_=>exact h.elim
 |halt x w'=>
  cases x<;>first|exact h.elim|exact absurd h.1 (by simp)
theorem zeC {P:Program} {n l:Nat} {ops:Array Oper} (hd:ops.all zfo=true) {Q:Exit→Act→World→Prop}:∀ (fuel:Nat) (listed:Array Bool) (a:Act) (w:World),wpAny P .any ops (zmn Q) fuel listed a w→wpAnyIn (Fence.wide.inRound l) n P .any ops Q fuel listed a w
 |0,_,_,_,h=>⟨h.1,h.2.2⟩
 |fuel+1,listed,a,w,h=>by
  refine ⟨fun hr=>(h.1 hr).2,fun i hi=>?_⟩
  have hi2:=h.2 i hi
  unfold wpOp at hi2
  unfold wpOpIn
  cases ho:ops[i]? with
  |none=>rw[ho] at hi2;exact zeC hd fuel _ _ _ hi2
  |some o=>
   rw[ho] at hi2
   simp only[] at hi2 ⊢
   have hdo:zfo o=true:=by
    have:=Array.all_eq_true_iff_forall_mem.1 hd o (by
     obtain ⟨h1,h2⟩:=Array.getElem?_eq_some_iff.1 ho
     rw[←h2]
     exact Array.getElem_mem h1)
    exact this
   split
   ·rename_i hw
    rw[if_pos hw] at hi2
    rcases hi2 with hi2|⟨-,_,_,hi2⟩
    ·exact ziB hdo (fun a w h=>zeC hd fuel _ _ _ h) hi2
    ·exact absurd hi2.1 (by simp)
   ·rename_i hw
    rw[if_neg hw] at hi2
    exact ⟨fun _ _=>trivial,zeC hd fuel _ _ _ hi2⟩
theorem zgz {P:Program} {n l id:Nat} {lo:List Oper} {Q:Exit→Act→World→Prop} {a:Act} {w:World} (hm:P.follows .mixedOrders=true) (hd:lo.toArray.all zfo=true) (h:wpAny P .any lo.toArray (zmn Q) lo.toArray.size (Array.replicate lo.toArray.size false) a w.drew):(Code.region id lo.toArray true).wpIn (Fence.wide.inRound l) n P Q a w:=
 wpIn_region_any hm (zeC hd _ _ _ _ h)
def opVal (P:Program) (o:Oper) (a:Act) (w:World) (v:Value):Prop:=
 match (execOp a.eval o).run P w with
 |.ok (.value u) w'=>w'=w∧u=v
 |_=>False
end Go.Proofs.YtdkfkalplmgoeaaGreat
namespace Go.Proofs.YtdkfkalplmgoeaaGreat
open Go.RowKit Go.Shelf
set_option maxRecDepth 100000
set_option maxHeartbeats 4000000
attribute [local go_sem] Oper.semAt_some
theorem zfk {P:Program} {n r:Nat} {ops:Array Oper} {Q:Exit→Act→World→Prop}:∀ (l:List Oper) (a:Act) (w:World),l.all zfo=true→wpList P ops (zmn Q) l a w→wpListIn (Fence.wide.inRound r) n P ops Q l a w
 |[],_,_,_,h=>h.2
 |o::l,a,w,hd,h=>by
  rw[List.all_cons,Bool.and_eq_true] at hd
  unfold wpList at h
  unfold wpListIn
  split
  ·rename_i hw
   rw[if_pos hw] at h
   rcases h with h|⟨-,_,_,h⟩
   ·exact ziB hd.1 (fun a w h=>zfk l a w hd.2 h) h
   ·exact absurd h.1 (by simp)
  ·rename_i hw
   rw[if_neg hw] at h
   exact ⟨fun _ _=>trivial,zfk l _ w hd.2 h⟩
theorem zb7 {P:Program} {n r id:Nat} {lo:List Oper} {Q:Exit→Act→World→Prop} {a:Act} {w:World} (hd:lo.all zfo=true) (h:wpList P lo.toArray (zmn Q) lo a w):(Code.region id lo.toArray false).wpIn (Fence.wide.inRound r) n P Q a w:=
 wpIn_region_lit (zfk lo a w hd h)
structure KeepTwo (b c:Nat) (w w':World):Prop where
 one:w'.heap[b]?=w.heap[b]?
 two:w'.heap[c]?=w.heap[c]?
theorem KeepTwo.refl (b c:Nat) (w:World):KeepTwo b c w w:=⟨rfl,rfl⟩
theorem KeepTwo.trans {b c:Nat} {u v w:World} (h:KeepTwo b c u v) (k:KeepTwo b c v w):KeepTwo b c u w:=⟨k.one.trans h.one,k.two.trans h.two⟩
theorem KeepTwo.cell1 {b c o:Nat} {u v:World} (h:KeepTwo b c u v):v.cell? ⟨b,o,none⟩=u.cell? ⟨b,o,none⟩:=by simp[World.cell?,h.one]
theorem KeepTwo.cell2 {b c o:Nat} {u v:World} (h:KeepTwo b c u v):v.cell? ⟨c,o,none⟩=u.cell? ⟨c,o,none⟩:=by simp[World.cell?,h.two]
def encN (x:Int):Array Value:=#[.int .i64 x]
section
variable (N:Nat) (hn:1≤N) (l Ba Bb:Nat) (a:Arc) (h1:1≤a.time) (h2:1≤a.step) (h3:a.time≤9223372036854775807) (h4:a.step≤9223372036854775807) (J Jx:List Int→World→Prop)
include hn h1 h2 h3 h4
theorem zpU (hY:∀ pre x W,I64 x→J pre W→pre.length<(zaZ a).length→YieldAt Fence.wide (N-1) Tryz.prog l (encN x) W fun e W'=>
 (e=.returned (.bool true)∧J (pre++[x]) W'∧KeepTwo Ba Bb W W')∨(e=.returned (.bool false)∧Jx (pre++[x]) W'))
 (W:World) (hA0:W.cell? ⟨Ba,0,none⟩=some (.int .i64 a.time)) (hA1:W.cell? ⟨Ba,1,none⟩=some (.int .i64 a.step)) (hB:W.cell? ⟨Bb,0,none⟩=some (.bool false)) (h0:J [] W) :
 CallsIn Fence.wide N Tryz.prog 96 #[.func (.yield l) #[] #[],.pointer (some ⟨Ba,0,none⟩),.pointer (some ⟨Bb,0,none⟩)] W fun e W'=>(∃ v,e=.returned v)∧
  ((∃ ys,ys=zaZ a∧J ys W')∨(∃ pre,(∃ k,pre=(zaZ a).take k)∧Jx pre W')):=by
 have hq0:0≤a.time/a.step:=Int.ediv_nonneg (by omega) (by omega)
 have hq1:a.time/a.step≤a.time:=Int.ediv_le_self _ (by omega)
 have hr0:=Int.emod_nonneg a.time (show a.step≠0 by omega)
 have hr1:=Int.emod_lt_of_pos a.time (show 0<a.step by omega)
 have HY:=Lib.hid hY
 have hq:((zcv a:Nat):Int)=a.time/a.step:=by unfold zcv;omega
 have Hr:=Lib.hid (show zcU a=a.time % a.step from rfl)
 have iA:BlockIn W Ba:=BlockIn.of_cell hA0
 have iB:BlockIn W Bb:=BlockIn.of_cell hB
 have hlen:zaZ a=List.replicate (zcv a) a.step++(if 0<zcU a then [zcU a] else []):=rfl
 clear hY
 generalize zaZ a=LL at *
 generalize zcv a=q at *
 generalize zcU a=rr at *
 have Hlen:=Lib.hid hlen
 clear hlen
 have Hsnoc:=Lib.hid (fun k:Nat=>show List.replicate k a.step++[a.step]=List.replicate (k+1) a.step from List.replicate_succ'.symm)
 have Htk:=Lib.hid (fun (k:Nat) (hk:k≤q) (x:List Int) (hx:x=List.replicate k a.step)=>show ∃ k,x=LL.take k from ⟨k,by rw[hx,Hlen.out,List.take_append_of_le_length (by simpa using hk),List.take_replicate,Nat.min_eq_left hk]⟩)
 have Hll:=Lib.hid (show q≤LL.length by rw[Hlen.out];simp)
 by_cases hr:0<a.time % a.step
 ·have Hl2:=Lib.hid (show LL=List.replicate q a.step++[a.time % a.step] by rw[Hlen.out,Hr.out,if_pos hr])
  refine callsIn_of_wp Tryz.func96 rfl trivial ?_ rfl
  simp only[Tryz.ntmps96,List.size_toArray,List.length_cons,List.length_nil,Nat.reduceAdd,Nat.reduceSub,Array.replicate_succ,Array.replicate_zero,List.push_toArray,List.append_toArray,List.nil_append,List.cons_append]
  gi_wp2;iterate 12 (try (refine ⟨(fun _ h=>by cases h),?_⟩;gi_wp2))
  gi_loopw [33] (fun i wr=>∃ k:Nat,i=.int .i64 k∧k≤q∧J (List.replicate k a.step) wr∧KeepTwo Ba Bb W wr) (fun i _=>q-(intOf i).toNat)
  case atStart=>exact ⟨0,rfl,Nat.zero_le _,h0,KeepTwo.refl _ _ _⟩
  case round=>
   obtain ⟨k,rfl,hk,hJs,hkeep⟩:=hrel
   have hA1':=(hkeep.cell1 (o:=1)).trans hA1
   have hB':=(hkeep.cell2 (o:=0)).trans hB
   by_cases hlt:k<q
   ·have hlt':(k:Int)<a.time/a.step:=by omega
    obtain ⟨fn,tmps,assign,body,hy,hR⟩:=HY.out _ a.step wr (by unfold I64;omega) hJs (by have:=Hll.out;simp;omega)
    unfold encN at hy
    have Hsn:=Lib.hid (Hsnoc.out k)
    gi_wp2;iterate 12 (try (refine ⟨(fun _ h=>by cases h),?_⟩;gi_wp2))
    refine hR.mono ?_
    rintro e W3 (⟨rfl,hJ3,hk3⟩|⟨rfl,hJx3⟩)
    ·gi_wp2;iterate 12 (try (refine ⟨(fun _ h=>by cases h),?_⟩;gi_wp2))
     go_roundw
     case rel=>exact ⟨k+1,by go_num,by omega,by rw[←Hsn.out];exact hJ3,hkeep.trans hk3⟩
     case measure=>simp[intOf];omega
    ·gi_wp2;iterate 12 (try (refine ⟨(fun _ h=>by cases h),?_⟩;gi_wp2))
     refine bodyPost_ret (results_none rfl _ _ _) rfl ?_
     exact ⟨⟨_,rfl⟩,.inr ⟨_,Htk.out (k+1) (by omega) _ Hsn.out,hJx3⟩⟩
   ·obtain rfl:k=q:=by omega
    have hlt':¬ ((k:Int)<a.time/a.step):=by omega
    obtain ⟨fn,tmps,assign,body,hy,hR⟩:=HY.out _ (a.time % a.step) wr (by unfold I64;omega) hJs (by have:=Hl2.out;rw[this];simp)
    unfold encN at hy
    gi_wp2;iterate 12 (try (refine ⟨(fun _ h=>by cases h),?_⟩;gi_wp2))
    refine hR.mono ?_
    rintro e W3 (⟨rfl,hJ3,hk3⟩|⟨rfl,hJx3⟩)
    ·gi_wp2;iterate 12 (try (refine ⟨(fun _ h=>by cases h),?_⟩;gi_wp2))
     go_end0
     exact ⟨⟨_,rfl⟩,.inl ⟨_,rfl,by rw[Hl2.out];exact hJ3⟩⟩
    ·gi_wp2;iterate 12 (try (refine ⟨(fun _ h=>by cases h),?_⟩;gi_wp2))
     go_end0
     exact ⟨⟨_,rfl⟩,.inr ⟨_,⟨LL.length,by rw[List.take_length]⟩,by rw[Hl2.out];exact hJx3⟩⟩
 ·have Hl2:=Lib.hid (show LL=List.replicate q a.step by rw[Hlen.out,Hr.out,if_neg hr,List.append_nil])
  refine callsIn_of_wp Tryz.func96 rfl trivial ?_ rfl
  simp only[Tryz.ntmps96,List.size_toArray,List.length_cons,List.length_nil,Nat.reduceAdd,Nat.reduceSub,Array.replicate_succ,Array.replicate_zero,List.push_toArray,List.append_toArray,List.nil_append,List.cons_append]
  gi_wp2;iterate 12 (try (refine ⟨(fun _ h=>by cases h),?_⟩;gi_wp2))
  gi_loopw [33] (fun i wr=>∃ k:Nat,i=.int .i64 k∧k≤q∧J (List.replicate k a.step) wr∧KeepTwo Ba Bb W wr) (fun i _=>q-(intOf i).toNat)
  case atStart=>exact ⟨0,rfl,Nat.zero_le _,h0,KeepTwo.refl _ _ _⟩
  case round=>
   obtain ⟨k,rfl,hk,hJs,hkeep⟩:=hrel
   have hA1':=(hkeep.cell1 (o:=1)).trans hA1
   have hB':=(hkeep.cell2 (o:=0)).trans hB
   by_cases hlt:k<q
   ·have hlt':(k:Int)<a.time/a.step:=by omega
    obtain ⟨fn,tmps,assign,body,hy,hR⟩:=HY.out _ a.step wr (by unfold I64;omega) hJs (by have:=Hll.out;simp;omega)
    unfold encN at hy
    have Hsn:=Lib.hid (Hsnoc.out k)
    gi_wp2;iterate 12 (try (refine ⟨(fun _ h=>by cases h),?_⟩;gi_wp2))
    refine hR.mono ?_
    rintro e W3 (⟨rfl,hJ3,hk3⟩|⟨rfl,hJx3⟩)
    ·gi_wp2;iterate 12 (try (refine ⟨(fun _ h=>by cases h),?_⟩;gi_wp2))
     go_roundw
     case rel=>exact ⟨k+1,by go_num,by omega,by rw[←Hsn.out];exact hJ3,hkeep.trans hk3⟩
     case measure=>simp[intOf];omega
    ·gi_wp2;iterate 12 (try (refine ⟨(fun _ h=>by cases h),?_⟩;gi_wp2))
     refine bodyPost_ret (results_none rfl _ _ _) rfl ?_
     exact ⟨⟨_,rfl⟩,.inr ⟨_,Htk.out (k+1) (by omega) _ Hsn.out,hJx3⟩⟩
   ·obtain rfl:k=q:=by omega
    have hlt':¬ ((k:Int)<a.time/a.step):=by omega
    gi_wp2;iterate 12 (try (refine ⟨(fun _ h=>by cases h),?_⟩;gi_wp2))
    go_end0
    exact ⟨⟨_,rfl⟩,.inl (by rw[Hl2.out];exact hJs)⟩
theorem zpT (hY:∀ pre x W,I64 x→J pre W→pre.length<(zc1 a).length→YieldAt Fence.wide (N-1) Tryz.prog l (encN x) W fun e W'=>
 (e=.returned (.bool true)∧J (pre++[x]) W'∧KeepTwo Ba Bb W W')∨(e=.returned (.bool false)∧Jx (pre++[x]) W'))
 (W:World) (hA0:W.cell? ⟨Ba,0,none⟩=some (.int .i64 a.time)) (hA1:W.cell? ⟨Ba,1,none⟩=some (.int .i64 a.step)) (hB:W.cell? ⟨Bb,0,none⟩=some (.bool true)) (h0:J [] W) :
 CallsIn Fence.wide N Tryz.prog 96 #[.func (.yield l) #[] #[],.pointer (some ⟨Ba,0,none⟩),.pointer (some ⟨Bb,0,none⟩)] W fun e W'=>(∃ v,e=.returned v)∧
  ((∃ ys,ys=zc1 a∧J ys W')∨(∃ pre,(∃ k,pre=(zc1 a).take k)∧Jx pre W')):=by
 have hq0:0≤a.time/a.step:=Int.ediv_nonneg (by omega) (by omega)
 have hq1:a.time/a.step≤a.time:=Int.ediv_le_self _ (by omega)
 have hr0:=Int.emod_nonneg a.time (show a.step≠0 by omega)
 have hr1:=Int.emod_lt_of_pos a.time (show 0<a.step by omega)
 have HY:=Lib.hid hY
 have hq:((zcv a:Nat):Int)=a.time/a.step:=by unfold zcv;omega
 have Hr:=Lib.hid (show zcU a=a.time % a.step from rfl)
 have iA:BlockIn W Ba:=BlockIn.of_cell hA0
 have iB:BlockIn W Bb:=BlockIn.of_cell hB
 have hlen:zc1 a=(if 0<zcU a then [-zcU a] else [])++List.replicate (zcv a) (-a.step):=rfl
 clear hY
 generalize zc1 a=LL at *
 generalize zcv a=q at *
 generalize zcU a=rr at *
 have Hlen:=Lib.hid hlen
 clear hlen
 by_cases hr:0<a.time % a.step
 ·have Hl2:=Lib.hid (show LL=-(a.time % a.step)::List.replicate q (-a.step) by rw[Hlen.out,Hr.out,if_pos hr];rfl)
  have Hsnoc:=Lib.hid (fun k:Nat=>show (-(a.time % a.step)::List.replicate k (-a.step))++[-a.step]=-(a.time % a.step)::List.replicate (k+1) (-a.step) by rw[List.replicate_succ'];rfl)
  have Htk:=Lib.hid (fun (k:Nat) (hk:k≤q) (x:List Int) (hx:x=-(a.time % a.step)::List.replicate k (-a.step))=>show ∃ k,x=LL.take k from ⟨k+1,by rw[hx,Hl2.out,List.take_succ_cons,List.take_replicate,Nat.min_eq_left hk]⟩)
  have Hll:=Lib.hid (show q+1≤LL.length by rw[Hl2.out];simp)
  obtain ⟨fn,tmps,assign,body,hy,hR⟩:=HY.out _ (-(a.time % a.step)) W (by unfold I64;omega) h0 (by have:=Hll.out;simp;omega)
  unfold encN at hy
  refine callsIn_of_wp Tryz.func96 rfl trivial ?_ rfl
  simp only[Tryz.ntmps96,List.size_toArray,List.length_cons,List.length_nil,Nat.reduceAdd,Nat.reduceSub,Array.replicate_succ,Array.replicate_zero,List.push_toArray,List.append_toArray,List.nil_append,List.cons_append]
  gi_wp2;iterate 12 (try (refine ⟨(fun _ h=>by cases h),?_⟩;gi_wp2))
  refine hR.mono ?_
  rintro e W1 (⟨rfl,hJ1,hkeep0⟩|⟨rfl,hJx1⟩)
  rotate_left
  ·gi_wp2;iterate 12 (try (refine ⟨(fun _ h=>by cases h),?_⟩;gi_wp2))
   refine bodyPost_ret (results_none rfl _ _ _) rfl ?_
   exact ⟨⟨_,rfl⟩,.inr ⟨_,⟨1,by rw[Hl2.out];rfl⟩,hJx1⟩⟩
  have hA1w:=hA1
  have hBw:=hB
  have hA0:=(hkeep0.cell1 (o:=0)).trans hA0
  have hA1:=(hkeep0.cell1 (o:=1)).trans hA1
  have hB:=(hkeep0.cell2 (o:=0)).trans hB
  have iA:BlockIn W1 Ba:=BlockIn.of_cell hA0
  have iB:BlockIn W1 Bb:=BlockIn.of_cell hB
  clear hy hR
  gi_wp2;iterate 12 (try (refine ⟨(fun _ h=>by cases h),?_⟩;gi_wp2))
  gi_loopw [33] (fun i wr=>∃ k:Nat,i=.int .i64 k∧k≤q∧J (-(a.time % a.step)::List.replicate k (-a.step)) wr∧KeepTwo Ba Bb W wr) (fun i _=>q-(intOf i).toNat)
  case atStart=>exact ⟨0,rfl,Nat.zero_le _,hJ1,hkeep0⟩
  case round=>
   obtain ⟨k,rfl,hk,hJs,hkeep⟩:=hrel
   have hA1':=(hkeep.cell1 (o:=1)).trans hA1w
   have hB':=(hkeep.cell2 (o:=0)).trans hBw
   by_cases hlt:k<q
   ·have hlt':(k:Int)<a.time/a.step:=by omega
    obtain ⟨fn,tmps,assign,body,hy,hR⟩:=HY.out _ (-a.step) wr (by unfold I64;omega) hJs (by have:=Hll.out;simp;omega)
    unfold encN at hy
    have Hsn:=Lib.hid (Hsnoc.out k)
    gi_wp2;iterate 12 (try (refine ⟨(fun _ h=>by cases h),?_⟩;gi_wp2))
    refine hR.mono ?_
    rintro e W3 (⟨rfl,hJ3,hk3⟩|⟨rfl,hJx3⟩)
    ·gi_wp2;iterate 12 (try (refine ⟨(fun _ h=>by cases h),?_⟩;gi_wp2))
     go_roundw
     case rel=>exact ⟨k+1,by go_num,by omega,by rw[←Hsn.out];exact hJ3,hkeep.trans hk3⟩
     case measure=>simp[intOf];omega
    ·gi_wp2;iterate 12 (try (refine ⟨(fun _ h=>by cases h),?_⟩;gi_wp2))
     refine bodyPost_ret (results_none rfl _ _ _) rfl ?_
     exact ⟨⟨_,rfl⟩,.inr ⟨_,Htk.out (k+1) (by omega) _ Hsn.out,hJx3⟩⟩
   ·obtain rfl:k=q:=by omega
    have hlt':¬ ((k:Int)<a.time/a.step):=by omega
    gi_wp2;iterate 12 (try (refine ⟨(fun _ h=>by cases h),?_⟩;gi_wp2))
    go_end0
    exact ⟨⟨_,rfl⟩,.inl (by rw[Hl2.out];exact hJs)⟩
 ·have Hl2:=Lib.hid (show LL=List.replicate q (-a.step) by rw[Hlen.out,Hr.out,if_neg hr,List.nil_append])
  have Hsnoc:=Lib.hid (fun k:Nat=>show List.replicate k (-a.step)++[-a.step]=List.replicate (k+1) (-a.step) from List.replicate_succ'.symm)
  have Htk:=Lib.hid (fun (k:Nat) (hk:k≤q) (x:List Int) (hx:x=List.replicate k (-a.step))=>show ∃ k,x=LL.take k from ⟨k,by rw[hx,Hl2.out,List.take_replicate,Nat.min_eq_left hk]⟩)
  have Hll:=Lib.hid (show q≤LL.length by rw[Hl2.out];simp)
  refine callsIn_of_wp Tryz.func96 rfl trivial ?_ rfl
  simp only[Tryz.ntmps96,List.size_toArray,List.length_cons,List.length_nil,Nat.reduceAdd,Nat.reduceSub,Array.replicate_succ,Array.replicate_zero,List.push_toArray,List.append_toArray,List.nil_append,List.cons_append]
  gi_wp2;iterate 12 (try (refine ⟨(fun _ h=>by cases h),?_⟩;gi_wp2))
  gi_loopw [33] (fun i wr=>∃ k:Nat,i=.int .i64 k∧k≤q∧J (List.replicate k (-a.step)) wr∧KeepTwo Ba Bb W wr) (fun i _=>q-(intOf i).toNat)
  case atStart=>exact ⟨0,rfl,Nat.zero_le _,h0,KeepTwo.refl _ _ _⟩
  case round=>
   obtain ⟨k,rfl,hk,hJs,hkeep⟩:=hrel
   have hA1':=(hkeep.cell1 (o:=1)).trans hA1
   have hB':=(hkeep.cell2 (o:=0)).trans hB
   by_cases hlt:k<q
   ·have hlt':(k:Int)<a.time/a.step:=by omega
    obtain ⟨fn,tmps,assign,body,hy,hR⟩:=HY.out _ (-a.step) wr (by unfold I64;omega) hJs (by have:=Hll.out;simp;omega)
    unfold encN at hy
    have Hsn:=Lib.hid (Hsnoc.out k)
    gi_wp2;iterate 12 (try (refine ⟨(fun _ h=>by cases h),?_⟩;gi_wp2))
    refine hR.mono ?_
    rintro e W3 (⟨rfl,hJ3,hk3⟩|⟨rfl,hJx3⟩)
    ·gi_wp2;iterate 12 (try (refine ⟨(fun _ h=>by cases h),?_⟩;gi_wp2))
     go_roundw
     case rel=>exact ⟨k+1,by go_num,by omega,by rw[←Hsn.out];exact hJ3,hkeep.trans hk3⟩
     case measure=>simp[intOf];omega
    ·gi_wp2;iterate 12 (try (refine ⟨(fun _ h=>by cases h),?_⟩;gi_wp2))
     refine bodyPost_ret (results_none rfl _ _ _) rfl ?_
     exact ⟨⟨_,rfl⟩,.inr ⟨_,Htk.out (k+1) (by omega) _ Hsn.out,hJx3⟩⟩
   ·obtain rfl:k=q:=by omega
    have hlt':¬ ((k:Int)<a.time/a.step):=by omega
    gi_wp2;iterate 12 (try (refine ⟨(fun _ h=>by cases h),?_⟩;gi_wp2))
    go_end0
    exact ⟨⟨_,rfl⟩,.inl (by rw[Hl2.out];exact hJs)⟩
end
end Go.Proofs.YtdkfkalplmgoeaaGreat
namespace Go.Proofs.YtdkfkalplmgoeaaGreat
open Go.RowKit Go.Shelf
set_option maxRecDepth 100000
set_option maxHeartbeats 16000000
set_option linter.unusedSimpArgs false
attribute [local go_sem] Oper.semAt_some
theorem zi7 (a:Arc) (back:Bool) (w:World) :
 Calls Tryz.prog 46 #[.agg a.cells.toArray,.bool back] w fun e w'=>e=.returned (.func (.func 96) #[] #[.pointer (some ⟨w.heap.size,0,none⟩),.pointer (some ⟨w.heap.size+1,0,none⟩)])∧w'=(w.alloc (.cells a.cells.toArray 48)).alloc (.cells #[.bool back] 4):=by
 go_enter Tryz.func46,Tryz.ntmps46
 go_wp2
 go_ret
 exact ⟨rfl,rfl⟩
def Hx:Type:={ x:Int // I64 x }
def encH (x:Hx):Array Value:=#[.int .i64 x.1]
def zcg (l:List Hx):List Int:=l.map fun x=>x.1
theorem zgT (l:List Hx) (x:Hx):zcg (l++[x])=zcg l++[x.1]:=by simp[zcg]
theorem zmx (N:Nat) (hn:1≤N) (Ba Bb:Nat) (a:Arc) (h1:1≤a.time) (h2:1≤a.step) (h3:a.time≤9223372036854775807) (h4:a.step≤9223372036854775807) (back:Bool) (w:World) (hA0:w.cell? ⟨Ba,0,none⟩=some (.int .i64 a.time)) (hA1:w.cell? ⟨Ba,1,none⟩=some (.int .i64 a.step)) (hB:w.cell? ⟨Bb,0,none⟩=some (.bool back)) :
 SeqStopsK Fence.wide N Tryz.prog 96 #[.pointer (some ⟨Ba,0,none⟩),.pointer (some ⟨Bb,0,none⟩)] encH (KeepTwo Ba Bb) (fun ys=>zcg ys=zb3 a back) (fun pre=>∃ k,zcg pre=(zb3 a back).take k) (zb3 a back).length w:=by
 intro l J Jx W hW _ _ hY h0
 have bA:=World.block_lt_of_cell? w _ hA0
 have bB:=World.block_lt_of_cell? w _ hB
 have k0:=(hW.cell (p:=⟨Ba,0,none⟩) bA).trans hA0
 have k1:=(hW.cell (p:=⟨Ba,1,none⟩) bA).trans hA1
 have k2:=(hW.cell (p:=⟨Bb,0,none⟩) bB).trans hB
 have hY':∀ (pre:List Int) (x:Int) (W:World),I64 x→(∃ ys,zcg ys=pre∧J ys W)→pre.length<(zb3 a back).length→YieldAt Fence.wide (N-1) Tryz.prog l (encN x) W fun e W'=>
  (e=.returned (.bool true)∧(∃ ys,zcg ys=pre++[x]∧J ys W')∧KeepTwo Ba Bb W W')∨(e=.returned (.bool false)∧∃ ys,zcg ys=pre++[x]∧Jx ys W'):=by
  rintro _ x W hx ⟨ys,rfl,hJ⟩ hl
  refine (hY ys ⟨x,hx⟩ W hJ (by simpa [zcg] using hl)).mono ?_
  rintro e W' (⟨h1,h2,h3⟩|⟨h1,h2⟩)
  ·exact .inl ⟨h1,⟨_,zgT _ _,h2⟩,h3⟩
  ·exact .inr ⟨h1,_,zgT _ _,h2⟩
 have fin:∀ (e:Ending) (W':World),((∃ v,e=.returned v)∧((∃ ys,ys=zb3 a back∧∃ zs,zcg zs=ys∧J zs W')∨(∃ pre,(∃ k,pre=(zb3 a back).take k)∧∃ zs,zcg zs=pre∧Jx zs W')))→((∃ v,e=.returned v)∧((∃ ys,zcg ys=zb3 a back∧J ys W')∨(∃ pre,(∃ k,zcg pre=(zb3 a back).take k)∧Jx pre W'))):=by
  rintro e W' ⟨hv,⟨_,rfl,zs,hz,hJ⟩|⟨_,⟨k,rfl⟩,zs,hz,hJ⟩⟩
  ·exact ⟨hv,.inl ⟨zs,hz,hJ⟩⟩
  ·exact ⟨hv,.inr ⟨zs,⟨k,hz⟩,hJ⟩⟩
 cases back
 ·exact (zpU N hn l Ba Bb a h1 h2 h3 h4 _ _ hY' W k0 k1 k2 ⟨[],rfl,h0⟩).mono fin
 ·exact (zpT N hn l Ba Bb a h1 h2 h3 h4 _ _ hY' W k0 k1 k2 ⟨[],rfl,h0⟩).mono fin
theorem znU {b c:Nat} {w:World} (hb:b<w.heap.size) (hc:c<w.heap.size) (W:World) (l:Nat) (o o':Obj) (hl:w.heap.size≤l) (h:W.heap[l]?=some o) (_h1:o.isCells=false) (_h2:o.isWalk=false):KeepTwo b c W (W.putObj l o'):=
 ⟨(grownBy_putObj' W l o').block b (by have:=(Array.getElem?_eq_some_iff.1 h).1;omega) (fun e=>by cases e;omega),(grownBy_putObj' W l o').block c (by have:=(Array.getElem?_eq_some_iff.1 h).1;omega) (fun e=>by cases e;omega)⟩
def Held (W:World) (l:List (Nat × List Value × TypeId)):Prop:=∀ p∈l,W.heap[p.1]?=some (.cells p.2.1.toArray p.2.2 (0,0))
theorem Held.nil (W:World):Held W []:=fun p h=>by simp at h
theorem Held.cons {W:World} {b:Nat} {v:List Value} {t:TypeId} {l:List (Nat × List Value × TypeId)} (h1:RowIs W b t v) (h:Held W l):Held W ((b,v,t)::l):=by
 intro p hp
 rcases List.mem_cons.1 hp with rfl|hp
 ·exact h1.is
 ·exact h p hp
theorem Held.head {W:World} {b:Nat} {v:List Value} {t:TypeId} {l:List (Nat × List Value × TypeId)} (h:Held W ((b,v,t)::l)):RowIs W b t v∧Held W l:=⟨⟨h (b,v,t) (by simp)⟩,fun p hp=>h p (by simp[hp])⟩
theorem Held.kept {W W':World} {row:Option Nat} {l:List (Nat × List Value × TypeId)} (h:Held W l) (hg:W.grownBy W' row) (hr:∀ r,row=some r→∃ o:Obj,W.heap[r]?=some o∧o.isCells=false):Held W' l:=by
 intro p hp
 have h1:=h p hp
 refine (hg.block p.1 (Array.getElem?_eq_some_iff.1 h1).1 (fun e=>?_)).trans h1
 obtain ⟨o,ho,hc⟩:=hr _ e.symm
 rw[h1] at ho
 cases ho
 cases hc
theorem zg4 {β:Type} {B:Nat} (l:β→List (Nat × List Value × TypeId)):OwnFrom B (fun s W=>Held W (l s)):=fun _ _ _ _ h hg hr=>h.kept hg (fun r e=>(hr r e).2)
theorem zgl {β:Type} {B:Nat} {w:World} {row:Option Nat} (hB:w.heap.size≤B):OwnFrom B (fun (_:β) W=>w.grownBy W row):=fun _ A C r h hg hr=>⟨hg.os.trans h.os,hg.tape.trans h.tape,hg.output.trans h.output,Nat.le_trans h.size hg.size,fun i hi hne=>by
 refine (hg.block i (Nat.lt_of_lt_of_le hi h.size) (fun e=>?_)).trans (h.block i hi hne)
 have:=(hr i e.symm).1
 omega⟩
theorem RowIs.kept {W W':World} {row:Option Nat} {b:Nat} {t:TypeId} {l:List Value} (h:RowIs W b t l) (hg:W.grownBy W' row) (hne:some b≠row):RowIs W' b t l:=⟨(hg.block b h.lt hne).trans h.is⟩
theorem RowIs.not_row {W:World} {B:Nat} {t e:TypeId} {l:List Value} (h:RowIs W B t l) (hte:t≠e) {base size k:Nat} {v:Value} {xs:List Value} (hr:W.ownsRow base e size v k xs):some B≠v.ownBlock:=by
 rcases hr.2 with ⟨rfl,_⟩|⟨g,cap,cur,rfl,_,hgb,_⟩
 ·simp[Value.ownBlock]
 ·intro e'
  obtain rfl:B=g:=by simpa [Value.ownBlock] using e'
  have:=h.is
  rw[hgb] at this
  cases this
  exact hte rfl
theorem zaV (W:World) (b:Nat) (cs:Array Value):W.grownBy (W.setRow b cs) (some b):=
 ⟨rfl,rfl,rfl,by simp,fun k _ hk=>setRow_other W b k cs (fun e=>hk (by rw[e]))⟩
theorem RowIs.cells_at {W:World} {b:Nat} {t:TypeId} {l:List Value} (h:RowIs W b t l) (o:Obj) (ho:W.heap[b]?=some o):o.isCells=true:=by
 rw[h.is] at ho
 cases ho
 rfl
def Near (n:Nat) (row0:Option Nat) (v:Value):Prop:=∀ k,v.ownBlock=some k→row0=some k∨n≤k
theorem zbr {w W W':World} {row0 r:Option Nat} (h:w.grownBy W row0) (k:W.grownBy W' r) (hr:∀ j,r=some j→row0=some j∨w.heap.size≤j):w.grownBy W' row0:=
 ⟨k.os.trans h.os,k.tape.trans h.tape,k.output.trans h.output,Nat.le_trans h.size k.size,fun i hi hne=>by
  refine (k.block i (Nat.lt_of_lt_of_le hi h.size) (fun e=>?_)).trans (h.block i hi hne)
  rcases hr i e.symm with e2|e2
  ·exact hne e2.symm
  ·omega⟩
theorem ziQ (T:List Tube) (t:Tube):(T++[t]).flatMap Tube.cells=T.flatMap Tube.cells++[.int .i64 t.a,.int .i64 t.z,.int .i64 t.p.x.lo,.int .i64 t.p.x.hi,.int .i64 t.p.y.lo,.int .i64 t.p.y.hi,.int .i64 t.p.z.lo,.int .i64 t.p.z.hi,.int .i64 t.v.x.lo,.int .i64 t.v.x.hi,.int .i64 t.v.y.lo,.int .i64 t.v.y.hi,.int .i64 t.v.z.lo,.int .i64 t.v.z.hi,.int .i64 t.m.lo,.int .i64 t.m.hi]:=by rw[List.flatMap_append];rfl
theorem zqV:(Tryz.prog.info? 81).map (fun i=>(i.zero,i.size,i.bytes))=some (some (.agg #[.int .i64 0,.int .i64 0,.int .i64 0,.int .i64 0,.int .i64 0,.int .i64 0,.int .i64 0,.int .i64 0,.int .i64 0,.int .i64 0,.int .i64 0,.int .i64 0,.int .i64 0,.int .i64 0,.int .i64 0,.int .i64 0]),16,128):=by kernel_rfl
def zvi (R:AlRes) (base:Nat) (w:World) (row:Option Nat) (e:Ending) (w':World):Prop:=
 ∃ v',e=.returned (.tuple #[.agg R.s.cells.toArray,v',.int .i64 R.e])∧w'.ownsRow base 81 16 v' R.T.length (R.T.flatMap Tube.cells)∧w.grownBy w' row
instance md_one (p:Planet) (x:Arc):OneCells (zak p x) 29:=by unfold zak;infer_instance
theorem zdr {W:World} {b:Nat} {t:TypeId} {l l':List Value} (h:RowIs W b t l) (e:l=l'):RowIs W b t l':=e▸h
theorem zeG {W:World} {b:Nat} {t:TypeId} {l:List Value} (h:RowIs W b t l) (i:Nat) {v:Value} (e:l[i]?=some v):W.cell? ⟨b,i,none⟩=some v:=(zem W b i t l).trans e
theorem zgH {a w:World} (h:Grew a w) (row:Option Nat):a.grownBy w row:=⟨h.os,h.tape,h.output,h.size,fun i hi _=>h.block i hi⟩
theorem ziS {Fc:Fence} {n:Nat} {P:Program} {c:Code} {Q:Exit→Act→World→Prop} {a:Act} {w:World} (F:World→Prop) (h:F w) (k:∀ Y,F Y→c.wpIn Fc n P Q a Y):c.wpIn Fc n P Q a w:=k w h
theorem zsK {P:Program} {c:Code} {Q:Exit→Act→World→Prop} {a:Act} {w:World} (h:c.wp P (zmn Q) a w):c.wp P Q a w:=wp_mono h fun _ _ _ k=>by
 obtain ⟨rfl,k⟩:=k
 exact k
theorem zcR {P:Program} {c:Code} {Q:Exit→Act→World→Prop} {a:Act} {w:World} (F:World→Prop) (h:F w) (k:∀ Y,F Y→c.wp P Q a Y):c.wp P Q a w:=k w h
theorem zng (p:Planet) (a:Arc) (l:List Pt) (s:State) (T:List Tube) (r:List Int) (h:(zan p a l s T r).e≠0):zan p a l s T r=⟨zaL,[],(zan p a l s T r).e⟩:=by
 induction r generalizing s T with
 |nil=>exact absurd rfl h
 |cons x r ih=>
  rw[zbz] at h ⊢
  split
  ·rename_i k
   rw[if_pos k] at h
   exact ih _ _ h
  ·rfl
theorem zf2 (p:Planet) (a:Arc) (l:List Pt) (s:State) (T:List Tube) (r:List Int) (h:Int) (k:(zan p a l s T r).e=0):zan p a l s T (r++[h])=if (zaO p a l (zan p a l s T r).s h).e=0 then ⟨(zaO p a l (zan p a l s T r).s h).s,(zan p a l s T r).T++[(zaO p a l (zan p a l s T r).s h).t],0⟩ else ⟨zaL,[],(zaO p a l (zan p a l s T r).s h).e⟩:=by
 rw[zjz p a l s T r [h] k,zbz,znh]
theorem zoV {fn:Func} {tmps:Array Value} {W:World} {p q r:Tmp} {ty t2 t3:TypeId} {b b2 b3:Nat} {v1 v2 v3:Value} (h:fn.results=#[.cell p ty,.cell q t2,.cell r t3]) (hp:tmps.getD p undef=.pointer (some ⟨b,0,none⟩)) (hq:tmps.getD q undef=.pointer (some ⟨b2,0,none⟩)) (hr:tmps.getD r undef=.pointer (some ⟨b3,0,none⟩))
 (h3:(loadVar ty ⟨b,0,none⟩).run Tryz.prog W=.ok v1 W) (h4:(loadVar t2 ⟨b2,0,none⟩).run Tryz.prog W=.ok v2 W) (h5:(loadVar t3 ⟨b3,0,none⟩).run Tryz.prog W=.ok v3 W):(results fn tmps).run Tryz.prog W=.ok (.tuple #[v1,v2,v3]) W:=by
 simp only[Array.getD_eq_getD_getElem?] at hp hq hr
 simp[results,h,asAddr,hp,hq,hr,h3,h4,h5]
theorem ziw {W:World} {b:Nat} {t:TypeId} {ao:Option Addr} {n cap:Nat} (h:RowIs W b t [.slice ao n cap]):(loadVar 50 ⟨b,0,none⟩).run Tryz.prog W=.ok (.slice ao n cap) W:=by
 have:=zeG h 0 rfl
 simp[go_sem,this]
theorem ziv {W:World} {b:Nat} {t:TypeId} {e:Int} (h:RowIs W b t [.int .i64 e]):(loadVar 30 ⟨b,0,none⟩).run Tryz.prog W=.ok (.int .i64 e) W:=by
 have:=zeG h 0 rfl
 simp[go_sem,this]
def frA (p:Planet) (a:Arc) (s:State) (back:Bool) (ao:Option Addr) (m cap n:Nat) (u14 u15 u16 u17 u24:Value):Act:={ tmps:=#[.agg p.cells.toArray,.agg a.cells.toArray,.agg s.cells.toArray,.bool back,.slice ao m cap,.pointer (some ⟨n,0,none⟩),.pointer (some ⟨n+1,0,none⟩),.pointer (some ⟨n+1+1,0,none⟩),undef,.pointer (some ⟨n+1+1+1,0,none⟩),.pointer (some ⟨n+1+1+1+1,0,none⟩),.pointer (some ⟨n+1+1+1+1+1,0,none⟩),.pointer (some ⟨n+1+1+1+1+1+1,0,none⟩),.pointer (some ⟨n+1+1+1+1+1+1+1,0,none⟩),u14,u15,u16,u17,.agg p.cells.toArray,.agg a.cells.toArray,.agg (zak p a).toArray,.agg a.cells.toArray,.bool back,.func (.func 96) #[] #[.pointer (some ⟨n+1+1+1+1+1+1+1+1,0,none⟩),.pointer (some ⟨n+1+1+1+1+1+1+1+1+1,0,none⟩)],u24,undef,undef,undef,undef,undef,undef,undef,undef,undef,undef,undef,undef,undef,undef,undef,undef,undef,undef,undef],defers:=[] }
theorem zhE (p:Planet) (a:Arc) (l:List Pt) (s:State) (back:Bool) (T0:List Tube) [hp:Pl64 p] [hs:St64 s] [hat:S64 a.thrust] [haf:S64 a.flow] [had:B64 a.dir] (h1:1≤a.time) (h2:1≤a.step) (h3:a.time≤9223372036854775807) (h4:a.step≤9223372036854775807)
 (a0 w:World) (hg:Grew a0 w) (hd:zcF a0 a l) (v:Value) (hown:w.ownsRow a0.heap.size 81 16 v T0.length (T0.flatMap Tube.cells)) (hlen:T0.length+(zb3 a back).length≤8192) :
 Calls Tryz.prog 27 #[.agg p.cells.toArray,.agg a.cells.toArray,.agg s.cells.toArray,.bool back,v] w (zvi (zan p a l s T0 (zb3 a back)) a0.heap.size w v.ownBlock):=by
 have HS:=Lib.hid (fun (s':State) (h:Int) (hs:St64 s') (hh:S64 (⟨h,h⟩:Sp)) (W:World) (g:Grew a0 W)=>show Calls Tryz.prog 47 #[.agg (zak p a).toArray,.agg s'.cells.toArray,.int .i64 h] W (zhv (zaO p a l s' h) W) from zmr zpZ p a l s' h W (hd.grew g))
 have Hseq:=Lib.hid (fun (W:World) (Ba Bb:Nat) k0 k1 k2=>zmx 5 (by omega) Ba Bb a h1 h2 h3 h4 back W k0 k1 k2)
 have HLen:=Lib.hid (fun (r:List Int) (h:r.length≤(zb3 a back).length) (k:(zan p a l s T0 r).e=0)=>show (zan p a l s T0 r).T.length≤8192 by rw[zhw p a l s T0 r k];omega)
 obtain ⟨ao,cap,rfl⟩:=zhQ hown
 have hrow0:∀ k,(Value.slice ao T0.length cap).ownBlock=some k→a0.heap.size≤k:=zaN hown
 have Hown:=Lib.hid hown
 clear hown hd
 refine (callsIn_wide (n:=6)).1 ?_
 refine callsIn_of_wp_marks Tryz.func27 rfl trivial ?_ rfl
 simp only[Tryz.ntmps27,List.size_toArray,List.length_cons,List.length_nil,Nat.reduceAdd,Nat.reduceSub,Array.replicate_succ,Array.replicate_zero,List.push_toArray,List.append_toArray,List.nil_append,List.cons_append]
 refine wpIn_wide.2 ?_
 go_wp2_with (first|(go_at_call 46;refine (zi7 _ _ _).mono ?_;rintro e w' ⟨rfl,rfl⟩)|((with_reducible refine zfv _ ?_ [(0,.agg p.cells.toArray),(1,.agg a.cells.toArray)] (zak p a) ?_ ?_ ?_ (zpC p a) ?_);rotate_left 1;(· rfl);(· rfl);(· go_simp))|(with_reducible refine wLi ?_)|(with_reducible refine wSf ?_)|(with_reducible refine wSi ?_))
 refine zcR (fun V=>Held V [(w.heap.size+1+1,s.cells, 28),(w.heap.size+1+1+1+1,zaL.cells, 28),(w.heap.size+1+1+1+1+1,[.slice none 0 0], 50),(w.heap.size+1+1+1+1+1+1,[.int .i64 0], 30),(w.heap.size+1+1+1+1+1+1+1,zak p a, 101),(w.heap.size+1+1+1+1+1+1+1+1,a.cells, 48),(w.heap.size+1+1+1+1+1+1+1+1+1,[.bool back], 4)]∧Boxed V (w.heap.size+1+1+1) 50 (.slice ao T0.length cap)∧Grew w V) ?_ ?_
 ·exact ⟨Held.cons inferInstance (Held.cons (zdr inferInstance rfl) (Held.cons inferInstance (Held.cons inferInstance (Held.cons inferInstance (Held.cons inferInstance (Held.cons inferInstance (Held.nil _))))))),(inferInstance:RowIs _ _ 50 [.slice ao T0.length cap]).is,gwr⟩
 rintro V ⟨hH,hX,hW⟩
 obtain ⟨r7,hH⟩:=hH.head
 obtain ⟨r10,hH⟩:=hH.head
 obtain ⟨r11,hH⟩:=hH.head
 obtain ⟨r12,hH⟩:=hH.head
 obtain ⟨r13,hH⟩:=hH.head
 obtain ⟨rA,hH⟩:=hH.head
 obtain ⟨rB,-⟩:=hH.head
 have hseq:=Hseq.out V (w.heap.size+1+1+1+1+1+1+1+1) (w.heap.size+1+1+1+1+1+1+1+1+1) (zeG rA 0 rfl) (zeG rA 1 rfl) (zeG rB 0 rfl)
 have hsz:=rB.lt
 have hG0:Grew a0 V:=hg.trans hW
 refine (wpIn_wide (n:=6)).1 ?_
 refine wpIn_rangeFunc_ownH rfl (by omega) (gf:=96) (lb:=#[.pointer (some ⟨w.heap.size+1+1+1+1+1+1+1+1,0,none⟩),.pointer (some ⟨w.heap.size+1+1+1+1+1+1+1+1+1,0,none⟩)]) rfl trivial (enters_of Tryz.func96 (by kernel_rfl) rfl)
  hseq KeepTwo.trans (znU (by omega) (by omega)) (Below.refl _ _) (fun _=>rfl)
  (fun pre W=>(∃ v,Boxed W (w.heap.size+1+1+1) 50 v∧W.ownsRow a0.heap.size 81 16 v (zan p a l s T0 (zcg pre)).T.length ((zan p a l s T0 (zcg pre)).T.flatMap Tube.cells)∧Near w.heap.size (Value.slice ao T0.length cap).ownBlock v)∧(Held W [(w.heap.size+1+1,(zan p a l s T0 (zcg pre)).s.cells, 28),(w.heap.size+1+1+1+1,zaL.cells, 28),(w.heap.size+1+1+1+1+1,[.slice none 0 0], 50),(w.heap.size+1+1+1+1+1+1,[.int .i64 0], 30),(w.heap.size+1+1+1+1+1+1+1,zak p a, 101),(w.heap.size+1+1+1+1+1+1+1+1,a.cells, 48),(w.heap.size+1+1+1+1+1+1+1+1+1,[.bool back], 4)]∧(w.grownBy W (Value.slice ao T0.length cap).ownBlock∧(zan p a l s T0 (zcg pre)).e=0)))
  (fun c pre W=>Held W [(w.heap.size+1+1+1+1,zaL.cells, 28),(w.heap.size+1+1+1+1+1,[.slice none 0 0], 50),(w.heap.size+1+1+1+1+1+1,[.int .i64 (zan p a l s T0 (zcg pre)).e], 30)]∧(w.grownBy W (Value.slice ao T0.length cap).ownBlock∧(c=.ret∧(zan p a l s T0 (zcg pre)).e≠0)))
  (OwnFrom.and (Own.from (holdsRow_own a0.heap.size (w.heap.size+1+1+1) 50 81 16 (fun pre=>(zan p a l s T0 (zcg pre)).T.length) (fun pre=>(zan p a l s T0 (zcg pre)).T.flatMap Tube.cells) (fun _ v=>Near w.heap.size (Value.slice ao T0.length cap).ownBlock v)) _) (OwnFrom.and (zg4 _) (OwnFrom.and (zgl hW.size) (ownFrom_pure _ _))))
  (fun _=>OwnFrom.and (zg4 _) (OwnFrom.and (zgl hW.size) (ownFrom_pure _ _)))
  ⟨⟨_,hX,za7 Hown.out hW,fun _ h=>.inl h⟩,Held.cons r7 (Held.cons r10 (Held.cons r11 (Held.cons r12 (Held.cons r13 (Held.cons rA (Held.cons rB (Held.nil _))))))),(zgH hW _),rfl⟩
  (fun x a' _=>a'=frA p a s back ao T0.length cap w.heap.size (.int .i64 x.1) undef undef undef (.int .i64 x.1))
  (fun _ _=>fun _ _ _ _ h _ _=>h) ?assign ?body ?done ?stop
 case assign=>
  rintro l' pre x W K hI hK
  unfold encH
  gi_wp2
  exact hK _ _ (KeepsFrom.refl _ _) (KeepTwo.refl _ _ _) hI rfl
 case body=>
  rintro l' pre x a' W hl ⟨r,hr⟩ ⟨⟨v,hv,hrow,hnear⟩,hH,hgr0,hE⟩ rfl hlt
  obtain ⟨r7,hH⟩:=hH.head
  obtain ⟨r10,hH⟩:=hH.head
  obtain ⟨r11,hH⟩:=hH.head
  obtain ⟨r12,hH⟩:=hH.head
  obtain ⟨r13,hH⟩:=hH.head
  obtain ⟨rA,hH⟩:=hH.head
  obtain ⟨rB,-⟩:=hH.head
  have i7:=r7.blockIn
  have i10:=r10.blockIn
  have i11:=r11.blockIn
  have i12:=r12.blockIn
  have i13:=r13.blockIn
  have iA:=rA.blockIn
  have iB:=rB.blockIn
  have i9:BlockIn W (w.heap.size+1+1+1):=⟨hv.lt⟩
  have hG:Grew a0 W:=hg.grown hgr0 hrow0
  have hx:S64 (⟨x.1,x.1⟩:Sp):=⟨x.2,x.2⟩
  have hst:St64 (zan p a l s T0 (zcg pre)).s:=inferInstance
  have HSx:=Lib.hid (HS.out (zan p a l s T0 (zcg pre)).s x.1 hst hx)
  have Hone:=Lib.hid (zf2 p a l s T0 (zcg pre) x.1 hE)
  have Hsn:=Lib.hid (zgT pre x)
  have Hle:=Lib.hid (HLen.out (zcg pre) (by simp[zcg];omega) hE)
  by_cases e1:(zaO p a l (zan p a l s T0 (zcg pre)).s x.1).e=0
  ·have te:((zaO p a l (zan p a l s T0 (zcg pre)).s x.1).e != 0)=false:=by simp[e1]
   have Hin:=Lib.hid (Hone.out.trans (if_pos e1))
   clear HS Hseq HLen Hown hlen
   generalize zaO p a l (zan p a l s T0 (zcg pre)).s x.1=N at *
   unfold frA
   gi_step
   gi_step
   gi_step
   refine zb7 (by kernel_rfl) ?_
   go_wp2_with (first|(go_at_call 47;refine (HSx.out _ ?_).mono ?_;(· exact hG);rintro en w2 ⟨rfl,hg2⟩;obtain ⟨u,rfl⟩:=zal hg2;clear hg2)|(with_reducible refine wLi ?_)|(with_reducible refine wSf ?_)|(with_reducible refine wSi ?_))
   refine ⟨rfl,?_⟩
   gi_wp2
   refine ziS (fun Y=>RowIs Y u.world.heap.size 28 N.s.cells∧RowIs Y (u.world.heap.size+1) 81 [.int .i64 N.t.a,.int .i64 N.t.z,.int .i64 N.t.p.x.lo,.int .i64 N.t.p.x.hi,.int .i64 N.t.p.y.lo,.int .i64 N.t.p.y.hi,.int .i64 N.t.p.z.lo,.int .i64 N.t.p.z.hi,.int .i64 N.t.v.x.lo,.int .i64 N.t.v.x.hi,.int .i64 N.t.v.y.lo,.int .i64 N.t.v.y.hi,.int .i64 N.t.v.z.lo,.int .i64 N.t.v.z.hi,.int .i64 N.t.m.lo,.int .i64 N.t.m.hi]∧Grew W Y) ⟨zdr inferInstance rfl,inferInstance,gwr⟩ ?_
   rintro Y ⟨rN,rT,gY⟩
   have hbN:=u.grew.size
   generalize u.world.heap.size=bN at *
   clear HSx u
   have Hone':=Lib.hid ((congrArg (zan p a l s T0) Hsn.out).trans Hin.out)
   have hrowY:=za7 hrow gY
   have hvY:Boxed Y (w.heap.size+1+1+1) 50 v:=(gY.block _ hv.lt).trans hv
   have r7Y:=r7.grew gY
   have hle:=Hle.out
   clear Hone Hin Hsn Hle hlt
   generalize zan p a l s T0 (zcg pre)=A at *
   obtain ⟨i0,hi,hz0,hzz1,hzz2⟩:=info_parts zqV
   have hlen2:A.T.length+1≤maxLen:=by simp[maxLen];omega
   have hlen3:(A.T.length+1)*128≤140737488355328:=by omega
   refine zgz (by kernel_rfl) (by kernel_rfl) (zgU (S:=fun w'=>RowIs w' bN 28 N.s.cells∧RowIs w' (bN+1) 81 [.int .i64 N.t.a,.int .i64 N.t.z,.int .i64 N.t.p.x.lo,.int .i64 N.t.p.x.hi,.int .i64 N.t.p.y.lo,.int .i64 N.t.p.y.hi,.int .i64 N.t.p.z.lo,.int .i64 N.t.p.z.hi,.int .i64 N.t.v.x.lo,.int .i64 N.t.v.x.hi,.int .i64 N.t.v.y.lo,.int .i64 N.t.v.y.hi,.int .i64 N.t.v.z.lo,.int .i64 N.t.v.z.hi,.int .i64 N.t.m.lo,.int .i64 N.t.m.hi]∧Boxed w' (w.heap.size+1+1+1) 50 v) (T:=[6]) _ _ _ _ ?_)
   have hS:RowIs Y.drew bN 28 N.s.cells∧RowIs Y.drew (bN+1) 81 [.int .i64 N.t.a,.int .i64 N.t.z,.int .i64 N.t.p.x.lo,.int .i64 N.t.p.x.hi,.int .i64 N.t.p.y.lo,.int .i64 N.t.p.y.hi,.int .i64 N.t.p.z.lo,.int .i64 N.t.p.z.hi,.int .i64 N.t.v.x.lo,.int .i64 N.t.v.x.hi,.int .i64 N.t.v.y.lo,.int .i64 N.t.v.y.hi,.int .i64 N.t.v.z.lo,.int .i64 N.t.v.z.hi,.int .i64 N.t.m.lo,.int .i64 N.t.m.hi]∧Boxed Y.drew (w.heap.size+1+1+1) 50 v:=⟨inferInstance,inferInstance,hvY⟩
   refine zaj 0 [] (v:=.agg N.s.cells.toArray) rfl (by kernel_rfl) (by kernel_rfl) (by kernel_rfl) (by kernel_rfl) (fun _ _ _ h=>absurd h.1 (by simp)) (by rfl) (hS) (fun w' hw=>?_) ?_
   ·obtain ⟨q1,q2,q3⟩:=hw
    exact zbZ _ _ rfl rfl
   try simp only[Act.put,List.setIfInBounds_toArray,List.set_cons_zero,List.set_cons_succ]
   refine zaj 1 [] (v:=v) rfl (by kernel_rfl) (by kernel_rfl) (by kernel_rfl) (by kernel_rfl) (fun _ _ _ h=>absurd h.1 (by simp)) (by rfl) (hS) (fun w' hw=>?_) ?_
   ·obtain ⟨q1,q2,q3⟩:=hw
    have q4:=q3.cell;go_simp
   try simp only[Act.put,List.setIfInBounds_toArray,List.set_cons_zero,List.set_cons_succ]
   refine zaj 2 [] (v:=.agg #[.int .i64 N.t.a,.int .i64 N.t.z,.int .i64 N.t.p.x.lo,.int .i64 N.t.p.x.hi,.int .i64 N.t.p.y.lo,.int .i64 N.t.p.y.hi,.int .i64 N.t.p.z.lo,.int .i64 N.t.p.z.hi,.int .i64 N.t.v.x.lo,.int .i64 N.t.v.x.hi,.int .i64 N.t.v.y.lo,.int .i64 N.t.v.y.hi,.int .i64 N.t.v.z.lo,.int .i64 N.t.v.z.hi,.int .i64 N.t.m.lo,.int .i64 N.t.m.hi]) rfl (by kernel_rfl) (by kernel_rfl) (by kernel_rfl) (by kernel_rfl) (fun _ _ _ h=>absurd h.1 (by simp)) (by rfl) (hS) (fun w' hw=>?_) ?_
   ·obtain ⟨q1,q2,q3⟩:=hw
    exact zbZ _ _ rfl rfl
   try simp only[Act.put,List.setIfInBounds_toArray,List.set_cons_zero,List.set_cons_succ]
   refine zaq 3 (by kernel_rfl) rfl fun K hK=>?_
   go_simp
   refine hK.out _ _ (fun _=>⟨inferInstance,inferInstance,hvY.alloc _⟩) ?_
   clear hK K
   try simp only[Act.put,List.setIfInBounds_toArray,List.set_cons_zero,List.set_cons_succ]
   have io:Own Y a0.heap.size 81 16 v A.T.length (A.T.flatMap Tube.cells):=⟨hrowY⟩
   have hnt:=hv.not_row (show 50≠81 by decide) hrow
   have hntY:=hvY.not_row (show 50≠81 by decide) hrowY
   refine zaq 4 (by kernel_rfl) rfl fun K hK=>?_
   refine step_append_lies _ (by rfl) _ _ 50 (by rfl) a0.heap.size 81 i0 _ 16 128 Tryz.underlying50 hi hz0 hzz1 hzz2 (by rfl) (by decide) v _ _ (by rfl) Own.is ⟨_,0,none⟩ 1 1 [.int .i64 N.t.a,.int .i64 N.t.z,.int .i64 N.t.p.x.lo,.int .i64 N.t.p.x.hi,.int .i64 N.t.p.y.lo,.int .i64 N.t.p.y.hi,.int .i64 N.t.p.z.lo,.int .i64 N.t.p.z.hi,.int .i64 N.t.v.x.lo,.int .i64 N.t.v.x.hi,.int .i64 N.t.v.y.lo,.int .i64 N.t.v.y.hi,.int .i64 N.t.v.z.lo,.int .i64 N.t.v.z.hi,.int .i64 N.t.m.lo,.int .i64 N.t.m.hi] (by rfl) (by rfl) zdA (by simp[Value.oneCell']) (by decide) hlen2 hlen3 (Nat.le_trans hG.size (Nat.le_trans gY.size (by simp))) _ rfl ?_
   intro g1 cap1' w1 hown1 hgrow1 hat1 hlt1
   have hgr:Y.grownBy w1 v.ownBlock:=⟨hgrow1.os,hgrow1.tape,hgrow1.output,Nat.le_trans (by simp) hgrow1.size,fun i hi hne=>(hgrow1.block i (by simp;omega) hne).trans (Below.heap_alloc Y.drew _ _ hi)⟩
   have hv1:=hvY.kept hgr hntY
   have r7w:=r7Y.kept hgr (r7Y.not_row (by decide) hrowY)
   have hrl:∀ g,v.ownBlock=some g→g<W.heap.size:=fun g h=>by
    have io2:Own W a0.heap.size 81 16 v A.T.length (A.T.flatMap Tube.cells):=⟨hrow⟩
    exact zov (h:=io2) h
   have hnT:some (bN+1)≠v.ownBlock:=fun e=>by have:=hrl _ e.symm;omega
   have rNw:=rN.kept hgr (rN.not_row (by decide) hrowY)
   have rTw:=rT.kept hgr hnT
   have r10w:=(r10.grew gY).kept hgr ((r10.grew gY).not_row (by decide) hrowY)
   have r11w:=(r11.grew gY).kept hgr ((r11.grew gY).not_row (by decide) hrowY)
   have r12w:=(r12.grew gY).kept hgr ((r12.grew gY).not_row (by decide) hrowY)
   have r13w:=(r13.grew gY).kept hgr ((r13.grew gY).not_row (by decide) hrowY)
   have rAw:=(rA.grew gY).kept hgr ((rA.grew gY).not_row (by decide) hrowY)
   have rBw:=(rB.grew gY).kept hgr ((rB.grew gY).not_row (by decide) hrowY)
   have hc9:=hv1.cell
   have hf9:=hv1.frozen
   go_simp
   refine hK.out _ _ (fun _=>⟨rNw,rTw,hv1⟩) ?_
   clear hK K
   try simp only[Act.put,List.setIfInBounds_toArray,List.set_cons_zero,List.set_cons_succ]
   have hst:=zcQ w1 (w.heap.size+1+1) N.s.cells A.s.cells
   have ap79:Apart (w.heap.size+1+1+1) (w.heap.size+1+1):=inferInstance
   have apN:Apart bN (w.heap.size+1+1):=⟨by have:=r7.lt;omega⟩
   have apT:Apart (bN+1) (w.heap.size+1+1):=⟨by have:=r7.lt;omega⟩
   refine zaq 5 (by kernel_rfl) rfl fun K hK=>?_
   go_simp
   have hv2:Boxed (w1.setRow (w.heap.size+1+1) N.s.cells.toArray) (w.heap.size+1+1+1) 50 v:=hv1.kept (zaV _ _ _) (by simp)
   refine hK.out _ _ (fun _=>⟨zbJ _ _ N.s.cells _ _ _,zbJ _ _ N.s.cells _ _ _,hv2⟩) ?_
   clear hK K
   try simp only[Act.put,List.setIfInBounds_toArray,List.set_cons_zero,List.set_cons_succ]
   refine zaq 6 (by kernel_rfl) rfl fun K hK=>?_
   have hc9':=hv2.cell
   have hf9':=hv2.frozen
   go_simp
   refine hK.out _ _ (fun h=>absurd h (by decide)) ?_
   clear hK K
   refine zbi (by kernel_rfl) ⟨rfl,?_⟩
   gi_wp2
   have sl:∀ (b:Nat) (ty:TypeId) (cs:List Value),RowIs w1 b ty cs→b≠w.heap.size+1+1→b≠w.heap.size+1+1+1→RowIs ((w1.setRow (w.heap.size+1+1) N.s.cells.toArray).setCell ⟨w.heap.size+1+1+1,0,none⟩ (.slice (some ⟨g1,0,none⟩) (A.T.length+1) cap1')) b ty cs:=fun b ty cs hr n1 n2=>(hr.kept (zaV _ _ _) (by simpa using n1)).kept (grownBy_setCell' _ _ _) (by simpa using n2)
   have kA:=sl _ _ _ rAw (by omega) (by omega)
   have kB:=sl _ _ _ rBw (by omega) (by omega)
   have k7:RowIs ((w1.setRow (w.heap.size+1+1) N.s.cells.toArray).setCell ⟨w.heap.size+1+1+1,0,none⟩ (.slice (some ⟨g1,0,none⟩) (A.T.length+1) cap1')) (w.heap.size+1+1) 28 N.s.cells:=RowIs.kept (zcO w1 (w.heap.size+1+1) 28 15 N.s.cells) (grownBy_setCell' _ _ _) (by simp)
   have ro1:=hown1.kept (zaV w1 (w.heap.size+1+1) N.s.cells.toArray) (.inr (r7w.not_row (by decide) hown1).symm)
   have ro2:=ro1.kept (grownBy_setCell' (w1.setRow (w.heap.size+1+1) N.s.cells.toArray) (w.heap.size+1+1+1) (.slice (some ⟨g1,0,none⟩) (A.T.length+1) cap1')) (.inr (hv2.not_row (by decide) ro1).symm)
   have ko:KeepsOthers W ((w1.setRow (w.heap.size+1+1) N.s.cells.toArray).setCell ⟨w.heap.size+1+1+1,0,none⟩ (.slice (some ⟨g1,0,none⟩) (A.T.length+1) cap1')):=
    (((KeepsOthers.of_grownBy (zgH gY none) (fun _ _ e=>by cases e)).trans (KeepsOthers.of_grownBy hgr (fun j o ej hj=>by
      rcases hrowY.2 with ⟨rfl,_⟩|⟨g,cc,cur,rfl,_,hgb,_⟩
      ·cases ej
      ·obtain rfl:g=j:=by simpa [Value.ownBlock] using ej
       rw[hgb] at hj;cases hj;rfl))).trans (KeepsOthers.of_grownBy (zaV _ _ _) (fun j o ej hj=>by cases ej;exact r7w.cells_at o hj))).trans (KeepsOthers.setCell _ _ _)
   have gf:w.grownBy ((w1.setRow (w.heap.size+1+1) N.s.cells.toArray).setCell ⟨w.heap.size+1+1+1,0,none⟩ (.slice (some ⟨g1,0,none⟩) (A.T.length+1) cap1')) (Value.slice ao T0.length cap).ownBlock:=
    zbr (zbr (zbr (zbr hgr0 (zgH gY none) (fun _ e=>by cases e)) hgr hnear) (zaV _ _ _) (fun j e=>by cases e;exact .inr (by omega))) (grownBy_setCell' _ _ _) (fun j e=>by cases e;exact .inr (by omega))
   refine ⟨ko.from _,⟨kA.is.trans rA.is.symm,kB.is.trans rB.is.symm⟩,?_⟩
   dsimp only
   rw[Hone'.out]
   refine ⟨⟨_,hv2.set _,?_,?_⟩,Held.cons k7 (Held.cons (sl _ _ _ r10w (by omega) (by omega)) (Held.cons (sl _ _ _ r11w (by omega) (by omega)) (Held.cons (sl _ _ _ r12w (by omega) (by omega)) (Held.cons (sl _ _ _ r13w (by omega) (by omega)) (Held.cons kA (Held.cons kB (Held.nil _))))))),gf,rfl⟩
   ·rw[ziQ,List.length_append]
    exact ro2
   ·intro k hk
    obtain rfl:g1=k:=by simpa [Value.ownBlock] using hk
    rcases hat1 with e|e
    ·exact hnear _ e
    ·refine .inr ?_
     rw[e]
     have:=Nat.le_trans hgr0.size (gY.size)
     simp
     omega
  ·have te:((zaO p a l (zan p a l s T0 (zcg pre)).s x.1).e != 0)=true:=by simp[e1]
   have Hin:=Lib.hid (Hone.out.trans (if_neg e1))
   clear HS Hseq HLen Hown hlen
   generalize zaO p a l (zan p a l s T0 (zcg pre)).s x.1=N at *
   unfold frA
   gi_step
   gi_step
   gi_step
   refine zb7 (by kernel_rfl) ?_
   go_wp2_with (first|(go_at_call 47;refine (HSx.out _ ?_).mono ?_;(· exact hG);rintro en w2 ⟨rfl,hg2⟩;obtain ⟨u,rfl⟩:=zal hg2;clear hg2)|(with_reducible refine wLi ?_)|(with_reducible refine wSf ?_)|(with_reducible refine wSi ?_))
   refine ⟨rfl,?_⟩
   gi_step
   gi_step
   refine ziS (fun Y=>Grew W Y) gwr ?_
   intro Y gY
   generalize u.world.heap.size=bN at *
   clear HSx u
   have Hone':=Lib.hid ((congrArg (zan p a l s T0) Hsn.out).trans Hin.out)
   have r10Y:=r10.grew gY
   have r11Y:=r11.grew gY
   have r12Y:=r12.grew gY
   have i10Y:=r10Y.blockIn
   have i11Y:=r11Y.blockIn
   have i12Y:=r12Y.blockIn
   have hsz2:=r12.lt
   clear Hone Hin Hsn Hle hlt
   gi_step
   gi_step
   refine zb7 (by kernel_rfl) ?_
   go_wp2
   refine ⟨rfl,?_⟩
   gi_step
   gi_step
   gi_step
   gi_step
   refine zb7 (by kernel_rfl) ?_
   go_wp2_with (first|((with_reducible refine zfv ?_ ?_ ?_ ?_ ?_ ?_ ?_ ?_ ?_);rotate_left 4;(· rfl);(· rfl);(· rfl);(· infer_instance))|(with_reducible refine wLi ?_)|(with_reducible refine wSi ?_))
   refine ⟨rfl,?_⟩
   gi_wp2
   have g1:=zaV Y (w.heap.size+1+1+1+1) zaL.cells.toArray
   have g2:=grownBy_setCell' (Y.setRow (w.heap.size+1+1+1+1) zaL.cells.toArray) (w.heap.size+1+1+1+1+1) (.slice none 0 0)
   have g3:=grownBy_setCell' ((Y.setRow (w.heap.size+1+1+1+1) zaL.cells.toArray).setCell ⟨w.heap.size+1+1+1+1+1,0,none⟩ (.slice none 0 0)) (w.heap.size+1+1+1+1+1+1) (.int .i64 N.e)
   have q10:RowIs (Y.setRow (w.heap.size+1+1+1+1) zaL.cells.toArray) (w.heap.size+1+1+1+1) 28 zaL.cells:=zcO Y (w.heap.size+1+1+1+1) 28 15 zaL.cells
   have q11:=r11Y.kept g1 (by simp<;>omega)
   have q12:=r12Y.kept g1 (by simp<;>omega)
   have p10:=q10.kept g2 (by simp<;>omega)
   have p11:RowIs ((Y.setRow (w.heap.size+1+1+1+1) zaL.cells.toArray).setCell ⟨w.heap.size+1+1+1+1+1,0,none⟩ (.slice none 0 0)) (w.heap.size+1+1+1+1+1) 50 [.slice none 0 0]:=zdr (zdB _ 0 (.slice none 0 0) _ _ _ (h:=q11)) rfl
   have p12:=q12.kept g2 (by simp<;>omega)
   have o10:=p10.kept g3 (by simp<;>omega)
   have o11:=p11.kept g3 (by simp<;>omega)
   have o12:RowIs (((Y.setRow (w.heap.size+1+1+1+1) zaL.cells.toArray).setCell ⟨w.heap.size+1+1+1+1+1,0,none⟩ (.slice none 0 0)).setCell ⟨w.heap.size+1+1+1+1+1+1,0,none⟩ (.int .i64 N.e)) (w.heap.size+1+1+1+1+1+1) 30 [.int .i64 N.e]:=zdr (zdB _ 0 (.int .i64 N.e) _ _ _ (h:=p12)) rfl
   have ko:KeepsOthers W (((Y.setRow (w.heap.size+1+1+1+1) zaL.cells.toArray).setCell ⟨w.heap.size+1+1+1+1+1,0,none⟩ (.slice none 0 0)).setCell ⟨w.heap.size+1+1+1+1+1+1,0,none⟩ (.int .i64 N.e)):=
    (((KeepsOthers.of_grownBy (zgH gY none) (fun _ _ e=>by cases e)).trans (KeepsOthers.of_grownBy g1 (fun j o ej hj=>by cases ej;exact r10Y.cells_at o hj))).trans (KeepsOthers.setCell _ _ _)).trans (KeepsOthers.setCell _ _ _)
   have gf:w.grownBy (((Y.setRow (w.heap.size+1+1+1+1) zaL.cells.toArray).setCell ⟨w.heap.size+1+1+1+1+1,0,none⟩ (.slice none 0 0)).setCell ⟨w.heap.size+1+1+1+1+1+1,0,none⟩ (.int .i64 N.e)) (Value.slice ao T0.length cap).ownBlock:=
    zbr (zbr (zbr (zbr hgr0 (zgH gY none) (fun _ e=>by cases e)) g1 (fun j e=>by cases e;exact .inr (by omega))) g2 (fun j e=>by cases e;exact .inr (by omega))) g3 (fun j e=>by cases e;exact .inr (by omega))
   refine ⟨ko.from _,?_⟩
   dsimp only
   rw[Hone'.out]
   exact ⟨Held.cons o10 (Held.cons o11 (Held.cons o12 (Held.nil _))),gf,rfl,e1⟩
 case done=>
  rintro D ys W hD hys ⟨⟨v,hv,hrow,hnear⟩,hH,hgr0,hE⟩ hK
  obtain ⟨r7,hH⟩:=hH.head
  obtain ⟨r10,hH⟩:=hH.head
  obtain ⟨r11,hH⟩:=hH.head
  obtain ⟨r12,hH⟩:=hH.head
  clear hH
  have i7:=r7.blockIn
  have i10:=r10.blockIn
  have i11:=r11.blockIn
  have i12:=r12.blockIn
  have hsz2:=r12.lt
  have HA:=Lib.hid (congrArg (zan p a l s T0) hys)
  clear HS Hseq HLen Hown hlen
  generalize zan p a l s T0 (zcg ys)=A at *
  have hEz:=Lib.hid hE
  obtain ⟨ao2,cap2,rfl⟩:=zhQ hrow
  have hn9:=hv.not_row (show 50≠81 by decide) hrow
  go_wp2
  refine zsK ?_
  refine za8 (fun w'=>RowIs w' (w.heap.size+1+1) 28 A.s.cells∧Boxed w' (w.heap.size+1+1+1) 50 (.slice ao2 A.T.length cap2)∧True) [] rfl ?_
  have hS:RowIs W.drew (w.heap.size+1+1) 28 A.s.cells∧Boxed W.drew (w.heap.size+1+1+1) 50 (.slice ao2 A.T.length cap2)∧True:=⟨inferInstance,hv,trivial⟩
  refine zaj 0 [] (v:=.agg A.s.cells.toArray) rfl (by kernel_rfl) (by kernel_rfl) (by kernel_rfl) (by kernel_rfl) (fun _ _ _ h=>absurd h.1 (by simp)) (by rfl) (hS) (fun w' hw=>?_) ?_
  ·obtain ⟨q1,q2,q3⟩:=hw
   exact zbZ _ _ rfl rfl
  try simp only[Act.put,List.setIfInBounds_toArray,List.set_cons_zero,List.set_cons_succ]
  refine zaj 1 [] (v:=.slice ao2 A.T.length cap2) rfl (by kernel_rfl) (by kernel_rfl) (by kernel_rfl) (by kernel_rfl) (fun _ _ _ h=>absurd h.1 (by simp)) (by rfl) (hS) (fun w' hw=>?_) ?_
  ·obtain ⟨q1,q2,q3⟩:=hw
   have q4:=q2.cell;go_simp
  try simp only[Act.put,List.setIfInBounds_toArray,List.set_cons_zero,List.set_cons_succ]
  have hst:=zcQ W.drew (w.heap.size+1+1+1+1) A.s.cells zaL.cells
  refine zaq 2 (by kernel_rfl) rfl fun K hK=>?_
  go_simp
  have g1:=zaV W.drew (w.heap.size+1+1+1+1) A.s.cells.toArray
  have hv1:Boxed (W.drew.setRow (w.heap.size+1+1+1+1) A.s.cells.toArray) (w.heap.size+1+1+1) 50 (.slice ao2 A.T.length cap2):=(show Boxed W.drew _ _ _ from hv).kept g1 (by simp<;>omega)
  refine hK.out _ _ (fun _=>⟨zbJ _ _ A.s.cells _ _ _,hv1,trivial⟩) ?_
  clear hK K
  try simp only[Act.put,List.setIfInBounds_toArray,List.set_cons_zero,List.set_cons_succ]
  refine zaq 3 (by kernel_rfl) rfl fun K hK=>?_
  go_simp
  have g2:=grownBy_setCell' (W.drew.setRow (w.heap.size+1+1+1+1) A.s.cells.toArray) (w.heap.size+1+1+1+1+1) (.slice ao2 A.T.length cap2)
  have hv2:=hv1.kept g2 (by simp<;>omega)
  have x7:RowIs (W.drew.setRow (w.heap.size+1+1+1+1) A.s.cells.toArray) (w.heap.size+1+1) 28 A.s.cells:=zbJ _ _ A.s.cells _ _ _
  refine hK.out _ _ (fun _=>⟨x7.kept g2 (by simp<;>omega),hv2,trivial⟩) ?_
  clear hK K
  try simp only[Act.put,List.setIfInBounds_toArray,List.set_cons_zero,List.set_cons_succ]
  refine zaq 4 (by kernel_rfl) rfl fun K hK=>?_
  go_simp
  have g3:=grownBy_setCell' ((W.drew.setRow (w.heap.size+1+1+1+1) A.s.cells.toArray).setCell ⟨w.heap.size+1+1+1+1+1,0,none⟩ (.slice ao2 A.T.length cap2)) (w.heap.size+1+1+1+1+1+1) (.int .i64 0)
  have hv3:=hv2.kept g3 (by simp<;>omega)
  refine hK.out _ _ (fun _=>⟨(x7.kept g2 (by simp<;>omega)).kept g3 (by simp<;>omega),hv3,trivial⟩) ?_
  clear hK K
  try simp only[Act.put,List.setIfInBounds_toArray,List.set_cons_zero,List.set_cons_succ]
  refine zbi (by kernel_rfl) ⟨rfl,?_⟩
  go_wp2
  have x10:RowIs (W.drew.setRow (w.heap.size+1+1+1+1) A.s.cells.toArray) (w.heap.size+1+1+1+1) 28 A.s.cells:=zcO W.drew (w.heap.size+1+1+1+1) 28 15 A.s.cells
  have x11:RowIs (W.drew.setRow (w.heap.size+1+1+1+1) A.s.cells.toArray) (w.heap.size+1+1+1+1+1) 50 [.slice none 0 0]:=zbJ _ _ A.s.cells _ _ _
  have x12:RowIs (W.drew.setRow (w.heap.size+1+1+1+1) A.s.cells.toArray) (w.heap.size+1+1+1+1+1+1) 30 [.int .i64 0]:=zbJ _ _ A.s.cells _ _ _
  have y10:=(x10.kept g2 (by simp<;>omega)).kept g3 (by simp<;>omega)
  have y11:=(zdr (zdB _ 0 (.slice ao2 A.T.length cap2) _ _ _ (h:=x11)) (show _=[(.slice ao2 A.T.length cap2)] from rfl)).kept g3 (by simp<;>omega)
  have y12:=zdr (zdB _ 0 (.int .i64 0) _ _ _ (h:=x12.kept g2 (by simp<;>omega))) (show _=[Value.int .i64 0] from rfl)
  have kD:(((W.drew.setRow (w.heap.size+1+1+1+1) A.s.cells.toArray).setCell ⟨w.heap.size+1+1+1+1+1,0,none⟩ (.slice ao2 A.T.length cap2)).setCell ⟨w.heap.size+1+1+1+1+1+1,0,none⟩ (.int .i64 0)).heap[D]?=some (.deferred (some [])):=(((KeepsOthers.drew W).trans (KeepsOthers.of_grownBy g1 (fun j o ej hj=>by cases ej;exact (show RowIs W.drew _ _ _ from inferInstance).cells_at o hj))).trans ((KeepsOthers.setCell _ _ _).trans (KeepsOthers.setCell _ _ _))).same D _ hK rfl
  have gD:=grownBy_putObj' (((W.drew.setRow (w.heap.size+1+1+1+1) A.s.cells.toArray).setCell ⟨w.heap.size+1+1+1+1+1,0,none⟩ (.slice ao2 A.T.length cap2)).setCell ⟨w.heap.size+1+1+1+1+1+1,0,none⟩ (.int .i64 0)) D (.deferred none)
  have nD:∀ {b:Nat} {ty:TypeId} {l:List Value},RowIs (((W.drew.setRow (w.heap.size+1+1+1+1) A.s.cells.toArray).setCell ⟨w.heap.size+1+1+1+1+1,0,none⟩ (.slice ao2 A.T.length cap2)).setCell ⟨w.heap.size+1+1+1+1+1+1,0,none⟩ (.int .i64 0)) b ty l→some b≠some D:=fun hr e=>by
   cases e
   have:=hr.is
   rw[kD] at this
   cases this
  have z10:=y10.kept gD (nD y10)
  have z11:=y11.kept gD (nD y11)
  have z12:=y12.kept gD (nD y12)
  refine ⟨by simp,.inl ⟨_,_,rfl,run_takeDeferred kD,?_⟩⟩
  have l10:=zet (ty:=28) inferInstance z10 rfl
  have l11:=ziw z11
  have l12:=ziv z12
  have ro1:=(show W.drew.ownsRow _ _ _ _ _ _ from hrow).kept g1 (.inr (r10.not_row (by decide) hrow).symm)
  have ro2:=ro1.kept g2 (.inr (x11.not_row (by decide) ro1).symm)
  have ro3:=ro2.kept g3 (.inr ((x12.kept g2 (by simp<;>omega)).not_row (by decide) ro2).symm)
  have ro4:=ownsRow_putObj ro3 (.deferred none) kD rfl
  have gf:=zbr (zbr (zbr (zbr hgr0 (zgH (show Grew W W.drew from gw) none) (fun _ e=>by cases e)) g1 (fun j e=>by cases e;exact .inr (by omega))) g2 (fun j e=>by cases e;exact .inr (by omega))) g3 (fun j e=>by cases e;exact .inr (by omega))
  have gf2:=zbr gf gD (fun j e=>by cases e;exact .inr (by omega))
  rw[←HA.out]
  refine ⟨.tuple #[.agg A.s.cells.toArray,.slice ao2 A.T.length cap2,.int .i64 0],?_,⟨_,by rw[hEz.out],ro4,gf2⟩⟩
  exact zoV Tryz.results27 rfl rfl rfl l10 l11 l12
 case stop=>
  rintro D c pre W hD ⟨k,hk⟩ ⟨hH,hgr0,rfl,hE⟩ hK
  obtain ⟨y10,hH⟩:=hH.head
  obtain ⟨y11,hH⟩:=hH.head
  obtain ⟨y12,hH⟩:=hH.head
  clear hH
  have hA:zan p a l s T0 (zb3 a back)=⟨zaL,[],(zan p a l s T0 (zcg pre)).e⟩:=by
   rw[←zng p a l s T0 (zcg pre) hE,←zf1 p a l s T0 (zcg pre) ((zb3 a back).drop k) hE,hk,List.take_append_drop]
  rw[hA]
  gi_wp2
  have kD:W.heap[D]?=some (.deferred (some [])):=hK
  have gD:=grownBy_putObj' (W) D (.deferred none)
  have nD:∀ {b:Nat} {ty:TypeId} {l:List Value},RowIs (W) b ty l→some b≠some D:=fun hr e=>by
   cases e
   have:=hr.is
   rw[kD] at this
   cases this
  have z10:=y10.kept gD (nD y10)
  have z11:=y11.kept gD (nD y11)
  have z12:=y12.kept gD (nD y12)
  refine ⟨by simp,.inl ⟨_,_,rfl,run_takeDeferred kD,?_⟩⟩
  have l10:=zet (ty:=28) inferInstance z10 rfl
  have l11:=ziw z11
  have l12:=ziv z12
  have gf2:=zbr hgr0 gD (fun j e=>by cases e;exact .inr (by omega))
  refine ⟨.tuple #[.agg zaL.cells.toArray,.slice none 0 0,.int .i64 (zan p a l s T0 (zcg pre)).e],?_,⟨_,rfl,World.ownsRow_nil _ _ _ _,gf2⟩⟩
  exact zoV Tryz.results27 rfl rfl rfl l10 l11 l12
end Go.Proofs.YtdkfkalplmgoeaaGreat
namespace Go.Proofs.YtdkfkalplmgoeaaGreat
open Go.RowKit Go.Shelf
set_option maxRecDepth 100000
set_option maxHeartbeats 16000000
set_option linter.unusedSimpArgs false
instance arOne (x:Arc):OneCells x.cells 15:=by unfold Arc.cells;infer_instance
theorem zdz {w:World} {v:Value} {L:Arcs} (hd:zcl w v L):∃ ao cap,v=.slice ao L.length cap∧L.length≤9223372036854775807∧∀ k (hk:k<L.length),∃ b o,ao=some ⟨b,o,none⟩∧b<w.heap.size∧RangeIs w b (o+k*15) 15 (L[k]'hk).1.cells:=by
 obtain ⟨⟨ao,cap,rfl,hm,hc⟩,-⟩:=hd
 unfold maxLen at hm
 refine ⟨ao,cap,rfl,by omega,fun k hk=>?_⟩
 obtain ⟨b,o,e,hb,-,h2⟩:=SlAt.elem (f:=zcM) (c:=15) (fun _=>rfl) (by omega) hc k hk
 exact ⟨b,o,e,hb,⟨fun j u hu=>h2 j u hu,rfl⟩⟩
theorem zf6 {p:Planet} {L:Arcs} {s:State} (h:(p.okB&&s.okB)=false):za4 p L s=2:=by
 unfold za4
 rw[h]
 rfl
theorem zio {p:Planet} {L:Arcs} {s:State} (h1:p.okB=true) (h2:s.okB=true):za4 p L s=zcN L:=by
 unfold za4
 rw[h1,h2]
 rfl
theorem zni {L:Arcs} {k:Nat} (hk:L.length≤k) (h:∀ j (hj:j<L.length),j<k→badB L[j]=false):L.any badB=false:=by
 rw[List.any_eq_false]
 intro x hx
 obtain ⟨j,hj,rfl⟩:=List.getElem_of_mem hx
 rw[h j hj (by omega)]
 decide
theorem zeI (p:Planet) (L:Arcs) (s:State) (v:Value) (w:World) (hd:zcl w v L):Calls Tryz.prog 26 #[.agg p.cells.toArray,v,.agg #[.int .i64 s.t,.int .i64 s.p.x.lo,.int .i64 s.p.x.hi,.int .i64 s.p.y.lo,.int .i64 s.p.y.hi,.int .i64 s.p.z.lo,.int .i64 s.p.z.hi,.int .i64 s.v.x.lo,.int .i64 s.v.x.hi,.int .i64 s.v.y.lo,.int .i64 s.v.y.hi,.int .i64 s.v.z.lo,.int .i64 s.v.z.hi,.int .i64 s.m.lo,.int .i64 s.m.hi]] w fun e w'=>e=.returned (.int .i64 (za4 p L s))∧Grew w w':=by
 have HP:=Lib.hid (fun w'=>show Calls Tryz.prog 43 #[.agg p.cells.toArray] w' _ from zjN p w')
 have HS:=Lib.hid (fun w'=>zkE s w')
 have Hdr:=Lib.hid hd.2
 obtain ⟨ao,cap,rfl,hm,hel⟩:=zdz hd
 have Hel:=Lib.hid hel
 clear hd hel
 cases h1:p.okB
 ·have HR:=Lib.hid (zf6 (L:=L) (show (p.okB&&s.okB)=false by rw[h1];rfl))
  rw[h1] at HP
  generalize za4 p L s=R at *
  clear h1 HS
  go_enter Tryz.func26,Tryz.ntmps26
  go_wp2_with (first|(go_at_call 43;(with_reducible refine zaa (HP.out _) ?_);intro u)|(with_reducible refine wLi ?_))
  go_ret
  exact ⟨zay HR.out.symm,gw⟩
 cases h2:s.okB
 ·have HR:=Lib.hid (zf6 (L:=L) (show (p.okB&&s.okB)=false by rw[h1,h2];rfl))
  rw[h1] at HP
  rw[h2] at HS
  generalize za4 p L s=R at *
  clear h1 h2
  go_enter Tryz.func26,Tryz.ntmps26
  go_wp2_with (first|(go_at_call 43;(with_reducible refine zaa (HP.out _) ?_);intro u)|(go_at_call 34;(with_reducible refine zaa (HS.out _) ?_);intro u)|(with_reducible refine wLi ?_))
  go_ret
  exact ⟨zay HR.out.symm,gw⟩
 have HR:=Lib.hid (zio (L:=L) h1 h2)
 rw[h1] at HP
 rw[h2] at HS
 generalize za4 p L s=R at *
 clear h1 h2
 go_enter Tryz.func26,Tryz.ntmps26
 go_wp2_with (first|(go_at_call 43;(with_reducible refine zaa (HP.out _) ?_);intro u)|(go_at_call 34;(with_reducible refine zaa (HS.out _) ?_);intro u')|(with_reducible refine wLi ?_))
 go_loopw [25] (fun t wr=>∃ k:Nat,t=.int .i64 k∧k≤L.length∧Hid (∀ j (hj:j<L.length),j<k→badB L[j]=false)∧Grew w wr) (fun t _=>L.length-(intOf t).toNat)
 case atStart=>exact ⟨0,rfl,by omega,Lib.hid (fun j hj h=>by omega),gw⟩
 case round=>
  obtain ⟨k,rfl,hk,Hall,hg⟩:=hrel
  obtain ⟨z,rfl⟩:=zal hg
  clear hg
  by_cases hlt:k<L.length
  ·obtain ⟨b,o,rfl,hb,hr⟩:=Hel.out k hlt
   obtain ⟨hdr,-,-⟩:=Hdr.out _ (List.getElem_mem hlt)
   have HA:=Lib.hid (fun w' (g:Grew w w')=>show Calls Tryz.prog 44 #[.agg L[k].1.cells.toArray] w' _ from zf9 L[k].1 L[k].2 w' (hdr.grew g))
   have ib:BlockIn w b:=⟨hb⟩
   have rz:=hr.grew z.grew
   cases hy:L[k].1.okB L[k].2
   ·have Hno:=Lib.hid (show zcN L=2 by
     unfold zcN
     rw[if_pos]
     rw[List.any_eq_true]
     exact ⟨L[k],List.getElem_mem hlt,by unfold badB;rw[hy];rfl⟩)
    rw[hy] at HA
    clear hy hdr hr Hel Hdr
    go_wp2_with (first|(go_at_call 44;(with_reducible refine zaa (HA.out _ ?_) ?_);(· exact gwr);intro u)|(with_reducible refine wLr ?_)|(with_reducible refine wLi ?_)|(with_reducible refine wSf ?_)|(with_reducible refine wSi ?_))
    go_ret
    exact ⟨zay (by rw[HR.out,Hno.out]),gwr⟩
   ·have Hall2:=Lib.hid (show ∀ j (hj:j<L.length),j<k+1→badB L[j]=false from fun j hj h=>by
     by_cases e:j=k
     ·subst e
      unfold badB
      rw[hy]
      rfl
     ·exact Hall.out j hj (by omega))
    rw[hy] at HA
    clear hy hdr hr Hel Hdr
    go_wp2_with (first|(go_at_call 44;(with_reducible refine zaa (HA.out _ ?_) ?_);(· exact gwr);intro u)|(with_reducible refine wLr ?_)|(with_reducible refine wLi ?_)|(with_reducible refine wSf ?_)|(with_reducible refine wSi ?_))
    go_roundw
    case rel=>exact ⟨k+1,by go_num,by omega,Hall2,gwr⟩
    case measure=>simp[intOf];omega
  ·have Hany:=Lib.hid (zni (L:=L) (k:=k) (by omega) Hall.out)
   clear Hall
   by_cases h32:L.length≤32
   ·have h32':¬ ((32:Int)<L.length):=by omega
    have HR2:=Lib.hid (show R=if fitB 4096 0 L then 0 else 3 by rw[HR.out];unfold zcN;rw[if_neg (by rw[Hany.out];decide),decide_eq_true h32,Bool.true_and])
    clear HR Hany
    go_wp2
    go_loopw [10,40] (fun q t wr=>∃ (k:Nat) (sm:Int),t=.int .i64 k∧q=.int .i64 sm∧k≤L.length∧0≤sm∧sm≤4096∧Hid (fitB 4096 0 L=fitB 4096 sm (L.drop k))∧Grew w wr) (fun _ t _=>L.length-(intOf t).toNat)
    case atStart=>exact ⟨0,0,rfl,rfl,by omega,by omega,by omega,Lib.hid rfl,gw⟩
    case round=>
     obtain ⟨k,sm,rfl,rfl,hk,hs1,hs2,Hfit,hg⟩:=hrel
     obtain ⟨z,rfl⟩:=zal hg
     clear hg
     by_cases hlt:k<L.length
     ·obtain ⟨b,o,rfl,hb,hr⟩:=Hel.out k hlt
      obtain ⟨hdr,ht,hst⟩:=Hdr.out _ (List.getElem_mem hlt)
      have HA:=Lib.hid (fun w' (g:Grew w w')=>show Calls Tryz.prog 45 #[.agg L[k].1.cells.toArray] w' _ from zkF L[k].1 L[k].2 w' (hdr.grew g) ht hst)
      have ib:BlockIn w b:=⟨hb⟩
      have rz:=hr.grew z.grew
      have hfit:=Hfit.out
      rw[zep L k hlt,fitB] at hfit
      obtain ⟨hb1,hb2⟩:=ze0 L[k].1 L[k].2
      clear Hel Hdr hdr hr Hfit ht hst
      generalize zaF L[k].1 L[k].2=sn at *
      by_cases h11:zaE L[k].1 L[k].2=0
      ·have h11':(zaE L[k].1 L[k].2 != 0)=false:=by simp[h11]
       rw[decide_eq_true h11,Bool.true_and] at hfit
       by_cases h12:sm+sn≤4096
       ·rw[decide_eq_true h12,Bool.true_and] at hfit
        have Hf:=Lib.hid hfit
        clear hfit h11
        generalize zaE L[k].1 L[k].2=sc at *
        go_wp2_with (first|(go_at_call 45;(with_reducible refine zaa (HA.out _ ?_) ?_);(· exact gwr);intro u)|(with_reducible refine wLr ?_)|(with_reducible refine wLi ?_)|(with_reducible refine wSf ?_)|(with_reducible refine wSi ?_))
        go_roundw
        case rel=>exact ⟨k+1,sm+sn,by go_num,by go_num,by omega,by omega,h12,Hf,gwr⟩
        case measure=>simp[intOf];omega
       ·rw[decide_eq_false h12,Bool.false_and] at hfit
        have Hf:=Lib.hid hfit
        clear hfit h11
        generalize zaE L[k].1 L[k].2=sc at *
        go_wp2_with (first|(go_at_call 45;(with_reducible refine zaa (HA.out _ ?_) ?_);(· exact gwr);intro u)|(with_reducible refine wLr ?_)|(with_reducible refine wLi ?_)|(with_reducible refine wSf ?_)|(with_reducible refine wSi ?_))
        go_ret
        exact ⟨zay (by rw[HR2.out,Hf.out];rfl),gwr⟩
      ·have h11':(zaE L[k].1 L[k].2 != 0)=true:=by simp[h11]
       rw[decide_eq_false h11,Bool.false_and,Bool.false_and] at hfit
       have Hf:=Lib.hid hfit
       clear hfit h11
       generalize zaE L[k].1 L[k].2=sc at *
       go_wp2_with (first|(go_at_call 45;(with_reducible refine zaa (HA.out _ ?_) ?_);(· exact gwr);intro u)|(with_reducible refine wLr ?_)|(with_reducible refine wLi ?_)|(with_reducible refine wSf ?_)|(with_reducible refine wSi ?_))
       go_ret
       exact ⟨zay (by rw[HR2.out,Hf.out];rfl),gwr⟩
     ·have hend:=Hfit.out
      rw[List.drop_of_length_le (by omega)] at hend
      have Hend:=Lib.hid hend
      clear Hfit hend
      go_wp2
      go_ret
      exact ⟨zay (by rw[HR2.out,Hend.out];rfl),gwr⟩
   ·have h32':(32:Int)<L.length:=by omega
    have HR2:=Lib.hid (show R=3 by rw[HR.out];unfold zcN;rw[if_neg (by rw[Hany.out];decide),decide_eq_false h32,Bool.false_and];rfl)
    go_wp2
    go_ret
    exact ⟨zay HR2.out.symm,gwr⟩
end Go.Proofs.YtdkfkalplmgoeaaGreat
namespace Go.Proofs.YtdkfkalplmgoeaaGreat
open Go.RowKit Go.Shelf
set_option maxRecDepth 100000
set_option maxHeartbeats 16000000
set_option linter.unusedSimpArgs false
def zhe (L:Arcs):Prop:=∀ x∈L,S64 x.1.thrust∧S64 x.1.flow∧B64 x.1.dir∧S64 x.1.drop
def zcS (R:FlyRes) (w:World) (e:Ending) (w':World):Prop:=
 ∃ v1 v2,e=.returned (.tuple #[v1,v2,.int .i64 R.e])∧SlAt w' v1 R.stops.length (R.stops.flatMap State.cells)∧SlAt w' v2 R.tubes.length (R.tubes.flatMap Tube.cells)∧Grew w w'
theorem zcS.bad {w w':World} {e:Int} (g:Grew w w'):zcS (zbS e) w (.returned (.tuple #[.slice none 0 0,.slice none 0 0,.int .i64 e])) w':=⟨_,_,rfl,SlAt.nil _,SlAt.nil _,g⟩
theorem ztN:(Tryz.prog.info? 28).map (fun i=>(i.zero,i.size,i.bytes))=some (some (.agg #[.int .i64 0,.int .i64 0,.int .i64 0,.int .i64 0,.int .i64 0,.int .i64 0,.int .i64 0,.int .i64 0,.int .i64 0,.int .i64 0,.int .i64 0,.int .i64 0,.int .i64 0,.int .i64 0,.int .i64 0]),15,120):=by kernel_rfl
theorem zle (S:List State) (t:State):(S++[t]).flatMap State.cells=S.flatMap State.cells++[.int .i64 t.t,.int .i64 t.p.x.lo,.int .i64 t.p.x.hi,.int .i64 t.p.y.lo,.int .i64 t.p.y.hi,.int .i64 t.p.z.lo,.int .i64 t.p.z.hi,.int .i64 t.v.x.lo,.int .i64 t.v.x.hi,.int .i64 t.v.y.lo,.int .i64 t.v.y.hi,.int .i64 t.v.z.lo,.int .i64 t.v.z.hi,.int .i64 t.m.lo,.int .i64 t.m.hi]:=by rw[List.flatMap_append];rfl
theorem zdF {ops:Array Oper} {rest:List Oper} {o:Oper} {a:Act} {Q:Exit→Act→World→Prop} (base:Nat) (w0:World) (hb:base≤w0.heap.size) {m:Nat} [hm:SizeAt w0 m] (hgd:o.guard=none) (s x:Operand)
 (ho:o.op=.call { callee:=.builtin .append,args:=#[s,x],argTypes:=#[49, 49] }) (v:Value) (S:List State) (hown:w0.ownsRow base 28 15 v S.length (S.flatMap State.cells)) (hs:a.eval s=v) (t:State) (ty:TypeId)
 (hx:a.eval x=.slice (some ⟨m,0,none⟩) 1 1) (hn:S.length≤4096)
 (h:∀ v' w1,w1.ownsRow base 28 15 v' (S++[t]).length ((S++[t]).flatMap State.cells)→w0.grownBy w1 v.ownBlock→wpList Tryz.prog ops Q rest (a.put o.dst v') w1) :
 wpList Tryz.prog ops Q (o::rest) a (w0.alloc (.cells #[.int .i64 t.t,.int .i64 t.p.x.lo,.int .i64 t.p.x.hi,.int .i64 t.p.y.lo,.int .i64 t.p.y.hi,.int .i64 t.p.z.lo,.int .i64 t.p.z.hi,.int .i64 t.v.x.lo,.int .i64 t.v.x.hi,.int .i64 t.v.y.lo,.int .i64 t.v.y.hi,.int .i64 t.v.z.lo,.int .i64 t.v.z.hi,.int .i64 t.m.lo,.int .i64 t.m.hi] ty)):=by
 obtain rfl:=hm.eq
 obtain ⟨i0,hi,hz0,hzz1,hzz2⟩:=info_parts ztN
 refine wpList_append_lies _ hgd s x 49 ho base 28 i0 _ 15 120 Tryz.underlying49 hi hz0 hzz1 hzz2 rfl (by decide) v _ _ hs (hown.alloc _) ⟨w0.heap.size,0,none⟩ 1 1 [.int .i64 t.t,.int .i64 t.p.x.lo,.int .i64 t.p.x.hi,.int .i64 t.p.y.lo,.int .i64 t.p.y.hi,.int .i64 t.p.z.lo,.int .i64 t.p.z.hi,.int .i64 t.v.x.lo,.int .i64 t.v.x.hi,.int .i64 t.v.y.lo,.int .i64 t.v.y.hi,.int .i64 t.v.z.lo,.int .i64 t.v.z.hi,.int .i64 t.m.lo,.int .i64 t.m.hi] hx rfl (by simpa using zf5 w0 [.int .i64 t.t,.int .i64 t.p.x.lo,.int .i64 t.p.x.hi,.int .i64 t.p.y.lo,.int .i64 t.p.y.hi,.int .i64 t.p.z.lo,.int .i64 t.p.z.hi,.int .i64 t.v.x.lo,.int .i64 t.v.x.hi,.int .i64 t.v.y.lo,.int .i64 t.v.y.hi,.int .i64 t.v.z.lo,.int .i64 t.v.z.hi,.int .i64 t.m.lo,.int .i64 t.m.hi] ty) (by simp[Value.oneCell']) (by decide) (by simp[maxLen];omega) (by omega) (by simp;omega) _ rfl ?_
 intro g cap w1 hown1 hgrow1 _ _
 refine h _ w1 ?_ ⟨hgrow1.os,hgrow1.tape,hgrow1.output,Nat.le_trans (by simp) hgrow1.size,fun i hi hne=>(hgrow1.block i (by simp;omega) hne).trans (Below.heap_alloc w0 _ _ hi)⟩
 rw[zle,List.length_append]
 exact hown1
theorem zb9 {W:World} {base base2 size size2 n n2:Nat} {e e2:TypeId} {v v2:Value} {xs xs2:List Value} (hr:W.ownsRow base e size v n xs) (hr2:W.ownsRow base2 e2 size2 v2 n2 xs2) (hte:e≠e2):v.ownBlock=none∨v.ownBlock≠v2.ownBlock:=by
 rcases hr.2 with ⟨rfl,_⟩|⟨g,cap,cur,rfl,_,hg,_⟩
 ·exact .inl rfl
 ·right
  rcases hr2.2 with ⟨rfl,_⟩|⟨g2,cap2,cur2,rfl,_,hg2,_⟩
  ·simp[Value.ownBlock]
  ·intro e'
   obtain rfl:g=g2:=by simpa [Value.ownBlock] using e'
   rw[hg] at hg2
   cases hg2
   exact hte rfl
theorem zlB {x:Arc × List Pt} {r:Arcs} {s:Int} (h:fitB 4096 s (x::r)=true):zaE x.1 x.2=0∧s+zaF x.1 x.2≤4096∧fitB 4096 (s+zaF x.1 x.2) r=true:=by
 unfold fitB at h
 simp only[Bool.and_eq_true,decide_eq_true_eq] at h
 exact ⟨h.1.1,h.1.2,h.2⟩
theorem zfy {p:Planet} {L:Arcs} {s:State} (h:za4 p L s=0):p.okB=true∧s.okB=true∧L.length≤32∧fitB 4096 0 L=true∧∀ x∈L,x.1.okB x.2=true:=by
 unfold za4 at h
 split at h
 ·rename_i k
  simp only[Bool.and_eq_true] at k
  unfold zcN at h
  split at h
  ·exact absurd h (by decide)
  ·rename_i k2
   split at h
   ·rename_i k3
    simp only[Bool.and_eq_true,decide_eq_true_eq] at k3
    refine ⟨k.1,k.2,k3.1,k3.2,fun x hx=>?_⟩
    have:=List.any_eq_false.1 (by simpa using k2) x hx
    unfold badB at this
    simpa using this
   ·exact absurd h (by decide)
 ·exact absurd h (by decide)
theorem zhk {x:Arc × List Pt} (back:Bool) (hok:x.1.okB x.2=true) (hc:zaE x.1 x.2=0):((zb3 x.1 back).length:Int)=zaF x.1 x.2:=by
 obtain ⟨h1,h2⟩:=zfe hok
 rw[zpV x.1 back h1 h2]
 unfold zaF
 rw[if_pos hc]
theorem znF (p:Planet) (L:Arcs) (s:State) (v:Value) (w:World) (hd:zcl w v L) (hc:za4 p L s≠0):Calls Tryz.prog 11 #[.agg p.cells.toArray,v,.agg s.cells.toArray] w (zcS (flyR p L s) w):=by
 have HC:=Lib.hid (fun w' (g:Grew w w')=>show Calls Tryz.prog 26 #[.agg p.cells.toArray,v,.agg s.cells.toArray] w' _ from zeI p L s v w' (hd.grew g))
 have HR:=Lib.hid (show flyR p L s=zbS (za4 p L s) by unfold flyR;rw[if_neg hc])
 have te:(za4 p L s != 0)=true:=by simp[hc]
 clear hd hc
 rw[HR.out]
 generalize za4 p L s=e at *
 clear HR
 go_enter Tryz.func11,Tryz.ntmps11
 go_wp2_with (first|(go_at_call 26;(with_reducible refine zaa (HC.out _ ?_) ?_);(· exact gwr);intro u)|(with_reducible refine wLi ?_))
 go_ret3
 exact zcS.bad gwr
@[go_sem] theorem zvX (s:State) (a b:Int):(s.cells.set 13 (.int .i64 a)).set 14 (.int .i64 b)=(s.mass ⟨a,b⟩).cells:=rfl
@[go_sem] theorem mass_m (s:State) (m:Sp):(s.mass m).m=m:=rfl
instance zqT (w:World) (b:Nat) (t:TypeId) (s:State) [h:RowIs w b t s.cells]:HasCell w b 13:=⟨_,zeG h 13 rfl⟩
instance zqU (w:World) (b:Nat) (t:TypeId) (s:State) [h:RowIs w b t s.cells]:HasCell w b 14:=⟨_,zeG h 14 rfl⟩
theorem znG (p:Planet) (L:Arcs) (s:State) [hp:Pl64 p] [hs:St64 s] (hL:zhe L) (v:Value) (w:World) (hd:zcl w v L) (hc:za4 p L s=0):Calls Tryz.prog 11 #[.agg p.cells.toArray,v,.agg s.cells.toArray] w (zcS (flyR p L s) w):=by
 have HC:=Lib.hid (fun w' (g:Grew w w')=>show Calls Tryz.prog 26 #[.agg p.cells.toArray,v,.agg s.cells.toArray] w' (fun e w2=>e=.returned (.int .i64 0)∧Grew w' w2) from zb0 hc (zeI p L s v w' (hd.grew g)))
 have HR:=Lib.hid (show flyR p L s=zgb p s [] [] L by unfold flyR;rw[if_pos hc])
 obtain ⟨-,-,hl32,hfit,hoks⟩:=zfy hc
 have Hfit0:=Lib.hid hfit
 have Hoks:=Lib.hid hoks
 have HL:=Lib.hid hL
 have Hdr:=Lib.hid hd.2
 obtain ⟨ao,cap,rfl,hm,hel⟩:=zdz hd
 have Hel:=Lib.hid hel
 clear hd hel hc hfit hoks hL
 generalize flyR p L s=R at *
 go_enter Tryz.func11,Tryz.ntmps11
 go_wp2_with (first|(go_at_call 26;(with_reducible refine zaa (HC.out _ ?_) ?_);(· exact gwr);intro u)|(with_reducible refine wLi ?_))
 go_loopw [6,7,8,11,21] (fun v6 v7 v8 v11 t wr=>∃ (k:Nat) (st:State) (S:List State) (T:List Tube),t=.int .i64 k∧k≤L.length∧S.length=k∧wr.ownsRow (w.heap.size+1+1) 28 15 v6 S.length (S.flatMap State.cells)∧wr.ownsRow w.heap.size 81 16 v7 T.length (T.flatMap Tube.cells)∧RowIs wr w.heap.size 43 p.cells∧RowIs wr (w.heap.size+1) 28 st.cells∧Grew w wr∧St64 st∧Hid (R=zgb p st S T (L.drop k))∧Hid (fitB 4096 (T.length:Int) (L.drop k)=true)) (fun _ _ _ _ t _=>L.length-(intOf t).toNat)
 case atStart=>exact ⟨0,s,[],[],rfl,by omega,rfl,World.ownsRow_nil _ _ _ _,World.ownsRow_nil _ _ _ _,inferInstance,inferInstance,gwr,hs,HR,Hfit0⟩
 case round=>
  obtain ⟨k,st,S,T,rfl,hk,hSk,hrow6,hrow7,r3,r5,hg,hst,Hgo,Hfit⟩:=hrel
  obtain ⟨z,rfl⟩:=zal hg
  clear hg
  have i3:=r3.blockIn
  have i5:=r5.blockIn
  by_cases hlt:k<L.length
  ·obtain ⟨b,o,rfl,hb,hr⟩:=Hel.out k hlt
   obtain ⟨hdr,ht,hst2⟩:=Hdr.out _ (List.getElem_mem hlt)
   obtain ⟨hx1,hx2,hx3,hx4⟩:=HL.out _ (List.getElem_mem hlt)
   have hok:=Hoks.out _ (List.getElem_mem hlt)
   obtain ⟨hp1,hp2⟩:=zfe hok
   have ib:BlockIn w b:=⟨hb⟩
   have rz:=hr.grew z.grew
   have hfit:=Hfit.out
   rw[zep L k hlt] at hfit
   obtain ⟨f1,f2,f3⟩:=zlB hfit
   have hll:=zhk false hok f1
   have hlen:T.length+(zb3 L[k].1 false).length≤8192:=by omega
   have HA:=Lib.hid (fun v W (g:Grew w W) ho=>zhE p L[k].1 L[k].2 st false T hp1 hp2 ht hst2 w W g hdr v ho hlen)
   have hgo:=Hgo.out
   rw[zep L k hlt] at hgo
   have HM:=Lib.hid (fun w'=>zke (zan p L[k].1 L[k].2 st T (zb3 L[k].1 false)).s.m L[k].1.drop w')
   have hTl:=Lib.hid (zhw p L[k].1 L[k].2 st T (zb3 L[k].1 false))
   have hgo2:R=if (zan p L[k].1 L[k].2 st T (zb3 L[k].1 false)).e=0 then (if (zeo (zan p L[k].1 L[k].2 st T (zb3 L[k].1 false)).s.m L[k].1).e=0 then zgb p ((zan p L[k].1 L[k].2 st T (zb3 L[k].1 false)).s.mass (zeo (zan p L[k].1 L[k].2 st T (zb3 L[k].1 false)).s.m L[k].1).s) (S++[(zan p L[k].1 L[k].2 st T (zb3 L[k].1 false)).s.mass (zeo (zan p L[k].1 L[k].2 st T (zb3 L[k].1 false)).s.m L[k].1).s]) (zan p L[k].1 L[k].2 st T (zb3 L[k].1 false)).T (L.drop (k+1)) else zbS (zeo (zan p L[k].1 L[k].2 st T (zb3 L[k].1 false)).s.m L[k].1).e) else zbS (zan p L[k].1 L[k].2 st T (zb3 L[k].1 false)).e:=hgo
   have Hgo2:=Lib.hid hgo2
   have hA64:St64 (zan p L[k].1 L[k].2 st T (zb3 L[k].1 false)).s:=inferInstance
   have Hll:=Lib.hid hll
   have Hf3:=Lib.hid f3
   clear Hel Hdr HL Hoks hdr hr Hfit Hgo hgo hgo2 hfit f1 f2 f3 hll hlen hx1 hx2 hx3 hok hp1 hp2 ht hst2
   generalize zan p L[k].1 L[k].2 st T (zb3 L[k].1 false)=A at *
   have h7a:=hrow7.alloc (.cells L[k].1.cells.toArray 48)
   have h6a:=hrow6.alloc (.cells L[k].1.cells.toArray 48)
   have r3a:=zeW z.world (.cells L[k].1.cells.toArray 48) w.heap.size _ _ (h:=r3)
   have r5a:=zeW z.world (.cells L[k].1.cells.toArray 48) (w.heap.size+1) _ _ (h:=r5)
   have r11a:=zhZ z.world L[k].1.cells 48 z.world.heap.size
   by_cases e1:A.e=0
   rotate_left
   ·have te1:(A.e==0)=false:=by simp[e1]
    have te2:(A.e != 0)=true:=by simp[e1]
    have HE:=Lib.hid (Hgo2.out.trans (if_neg e1))
    clear e1
    go_wp2_with (first|(go_at_call 27;go_loud ((with_reducible refine (HA.out _ _ ?_ ?_).mono ?_);(· exact gwr);(· exact h7a);rintro en w2 ⟨v7',rfl,ho2,hgr⟩;have r3w:=r3a.kept hgr (r3a.not_row (by decide) h7a);have r5w:=r5a.kept hgr (r5a.not_row (by decide) h7a);have r11w:=r11a.kept hgr (r11a.not_row (by decide) h7a);have ho6:=h6a.kept hgr (zb9 h6a h7a (by decide));have g2:Grew w w2:=Grew.grown gwr hgr (zaN h7a);obtain ⟨y,rfl⟩:=zal g2;clear hgr g2))|(with_reducible refine wLr ?_)|(with_reducible refine wLi ?_)|(with_reducible refine wSf ?_)|(with_reducible refine wSi ?_))
    go_ret3
    rw[HE.out]
    exact zcS.bad gwr
   have te1:(A.e==0)=true:=by simp[e1]
   have te2:(A.e != 0)=false:=by simp[e1]
   have HE:=Lib.hid (Hgo2.out.trans (if_pos e1))
   have hdp:zeo A.s.m L[k].1=if (subR A.s.m L[k].1.drop).e=0∧(subR A.s.m L[k].1.drop).s.lo≤0 then ⟨(subR A.s.m L[k].1.drop).s,4⟩ else subR A.s.m L[k].1.drop:=rfl
   have HT2:=Lib.hid (hTl.out e1)
   clear Hgo2 hTl
   have HM64:S64 (subR A.s.m L[k].1.drop).s:=inferInstance
   generalize subR A.s.m L[k].1.drop=M at *
   by_cases e2:M.e=0
   rotate_left
   ·have te3:(M.e==0)=false:=by simp[e2]
    have te4:(M.e != 0)=true:=by simp[e2]
    have HE2:=Lib.hid (show R=zbS M.e by
     have h:=HE.out
     rw[hdp.trans (if_neg (fun k=>e2 k.1)),if_neg e2] at h
     exact h)
    clear e1 e2 hdp HE
    go_wp2_with (first|(go_at_call 27;go_loud ((with_reducible refine (HA.out _ _ ?_ ?_).mono ?_);(· exact gwr);(· exact h7a);rintro en w2 ⟨v7',rfl,ho2,hgr⟩;have r3w:=r3a.kept hgr (r3a.not_row (by decide) h7a);have r5w:=r5a.kept hgr (r5a.not_row (by decide) h7a);have r11w:=r11a.kept hgr (r11a.not_row (by decide) h7a);have ho6:=h6a.kept hgr (zb9 h6a h7a (by decide));have g2:Grew w w2:=Grew.grown gwr hgr (zaN h7a);obtain ⟨y,rfl⟩:=zal g2;clear hgr g2))|(go_at_call 28;(with_reducible refine zaa (HM.out _) ?_);intro um)|(with_reducible refine wLr ?_)|(with_reducible refine wLi ?_)|(with_reducible refine wSf ?_)|(with_reducible refine wSi ?_))
    go_ret3
    rw[HE2.out]
    exact zcS.bad gwr
   have te3:(M.e==0)=true:=by simp[e2]
   have te4:(M.e != 0)=false:=by simp[e2]
   by_cases e3:M.s.lo≤0
   ·have te5:decide (M.s.lo≤0)=true:=by simp[e3]
    have HE2:=Lib.hid (show R=zbS 4 by
     have h:=HE.out
     rw[hdp.trans (if_pos ⟨e2,e3⟩),if_neg (show ¬ ((4:Int)=0) by decide)] at h
     exact h)
    clear e1 e2 e3 hdp HE
    go_wp2_with (first|(go_at_call 27;go_loud ((with_reducible refine (HA.out _ _ ?_ ?_).mono ?_);(· exact gwr);(· exact h7a);rintro en w2 ⟨v7',rfl,ho2,hgr⟩;have r3w:=r3a.kept hgr (r3a.not_row (by decide) h7a);have r5w:=r5a.kept hgr (r5a.not_row (by decide) h7a);have r11w:=r11a.kept hgr (r11a.not_row (by decide) h7a);have ho6:=h6a.kept hgr (zb9 h6a h7a (by decide));have g2:Grew w w2:=Grew.grown gwr hgr (zaN h7a);obtain ⟨y,rfl⟩:=zal g2;clear hgr g2))|(go_at_call 28;(with_reducible refine zaa (HM.out _) ?_);intro um)|(with_reducible refine wLr ?_)|(with_reducible refine wLi ?_)|(with_reducible refine wSf ?_)|(with_reducible refine wSi ?_))
    go_ret3
    rw[HE2.out]
    exact zcS.bad gwr
   have te5:decide (M.s.lo≤0)=false:=by simp;omega
   have HE2:=Lib.hid (show R=zgb p (A.s.mass M.s) (S++[A.s.mass M.s]) A.T (L.drop (k+1)) by
    have h:=HE.out
    rw[hdp.trans (if_neg (fun k=>e3 k.2)),if_pos e2] at h
    exact h)
   clear e1 e2 e3 hdp HE
   go_upto_region 14 with (first|(go_at_call 27;go_loud ((with_reducible refine (HA.out _ _ ?_ ?_).mono ?_);(· exact gwr);(· exact h7a);rintro en w2 ⟨v7',rfl,ho2,hgr⟩;have r3w:=r3a.kept hgr (r3a.not_row (by decide) h7a);have r5w:=r5a.kept hgr (r5a.not_row (by decide) h7a);have r11w:=r11a.kept hgr (r11a.not_row (by decide) h7a);have ho6:=h6a.kept hgr (zb9 h6a h7a (by decide));have g2:Grew w w2:=Grew.grown gwr hgr (zaN h7a);obtain ⟨y,rfl⟩:=zal g2;clear hgr g2))|(go_at_call 28;(with_reducible refine zaa (HM.out _) ?_);intro um)|(with_reducible refine wLr ?_)|(with_reducible refine wLi ?_)|(with_reducible refine wSf ?_)|(with_reducible refine wSi ?_))
   have hne5:u6.ownBlock≠some (w.heap.size+1):=fun e=>by have:=zaN hrow6 _ e;omega
   have q6:=ho6.kept (zaV y.world (w.heap.size+1) A.s.cells.toArray) (.inr hne5)
   have q6':=zaR (zaR (za7 q6 um.grew) (w.heap.size+1) 13 (.int .i64 M.s.lo) hne5) (w.heap.size+1) 14 (.int .i64 M.s.hi) hne5
   have hne7:v7'.ownBlock≠some (w.heap.size+1):=(r5w.not_row (by decide) ho2).symm
   have q7:=ho2.kept (zaV y.world (w.heap.size+1) A.s.cells.toArray) (.inr hne7)
   have q7':=zaR (zaR (za7 q7 um.grew) (w.heap.size+1) 13 (.int .i64 M.s.lo) hne7) (w.heap.size+1) 14 (.int .i64 M.s.hi) hne7
   refine zcR (fun Y=>RowIs Y w.heap.size 43 p.cells∧RowIs Y (w.heap.size+1) 28 [.int .i64 ((A.s.mass M.s)).t,.int .i64 ((A.s.mass M.s)).p.x.lo,.int .i64 ((A.s.mass M.s)).p.x.hi,.int .i64 ((A.s.mass M.s)).p.y.lo,.int .i64 ((A.s.mass M.s)).p.y.hi,.int .i64 ((A.s.mass M.s)).p.z.lo,.int .i64 ((A.s.mass M.s)).p.z.hi,.int .i64 ((A.s.mass M.s)).v.x.lo,.int .i64 ((A.s.mass M.s)).v.x.hi,.int .i64 ((A.s.mass M.s)).v.y.lo,.int .i64 ((A.s.mass M.s)).v.y.hi,.int .i64 ((A.s.mass M.s)).v.z.lo,.int .i64 ((A.s.mass M.s)).v.z.hi,.int .i64 ((A.s.mass M.s)).m.lo,.int .i64 ((A.s.mass M.s)).m.hi]∧Y.ownsRow (w.heap.size+1+1) 28 15 u6 S.length (S.flatMap State.cells)∧Y.ownsRow w.heap.size 81 16 v7' A.T.length (A.T.flatMap Tube.cells)∧Grew w Y) ⟨inferInstance,zdr inferInstance rfl,q6',q7',gwr⟩ ?_
   rintro Y ⟨s3,s5,s6,s7,gY⟩
   have hyY:w.heap.size+1+1≤Y.heap.size:=by have:=s5.lt;omega
   clear q6 q6' q7 q7' ho6 ho2 r3w r5w r11w h7a h6a r3a r5a r11a hrow6 hrow7 hne7
   have j3:=s3.blockIn
   have j5:=s5.blockIn
   have hm64:St64 (A.s.mass M.s):=⟨hA64.t,hA64.p,hA64.v,HM64⟩
   generalize hAm:A.s.mass M.s=st' at *
   clear hAm
   have n5:some (w.heap.size+1)≠u6.ownBlock:=fun e=>by have:=zaN s6 _ e.symm;omega
   have b6:∀ k,u6.ownBlock=some k→w.heap.size≤k:=fun k e=>by have:=zaN s6 _ e;omega
   go_wp2_with (first|(with_reducible refine wLi ?_)|(at_builtin;go_loud (refine zdF (w.heap.size+1+1) Y hyY rfl _ _ rfl u6 S s6 rfl st' _ rfl (by omega) ?_;intro v' w1 ho6' hg6;have t3:=s3.kept hg6 (s3.not_row (by decide) s6);have t5:=s5.kept hg6 n5;have t7:=s7.kept hg6 (zb9 s7 s6 (by decide));have g1:Grew w w1:=gY.grown hg6 b6)))
   go_roundw
   ·exact ⟨k+1,st',S++[st'],A.T,by go_simp,by omega,by simp[hSk],ho6',t7,t3,t5,g1,hm64,HE2,Lib.hid (by have:=Hf3.out;have:=Hll.out;have:=HT2.out;rw[show ((A.T.length:Nat):Int)=(T.length:Int)+zaF L[k].1 L[k].2 by omega];assumption)⟩
   ·simp[intOf]
    omega
  ·have hend:=Hgo.out
   rw[List.drop_of_length_le (by omega)] at hend
   go_wp2
   go_ret3
   rw[hend]
   exact ⟨_,_,rfl,SlAt.of_owns hrow6,SlAt.of_owns hrow7,z.grew⟩
theorem znE (p:Planet) (L:Arcs) (s:State) [hp:Pl64 p] [hs:St64 s] (hL:zhe L) (v:Value) (w:World) (hd:zcl w v L):Calls Tryz.prog 11 #[.agg p.cells.toArray,v,.agg s.cells.toArray] w (zcS (flyR p L s) w):=by
 by_cases h:za4 p L s=0
 ·exact znG p L s hL v w hd h
 ·exact znF p L s v w hd h
end Go.Proofs.YtdkfkalplmgoeaaGreat
