/-
  Joined: RefDivs.
-/
import Derived.Test.YtdkfkalplmgoeaaGreatDivLawH
import Derived.Test.YtdkfkalplmgoeaaGreatLexAllH
import Derived.Test.YtdkfkalplmgoeaaGreatRefOpsAllH
import Derived.Test.YtdkfkalplmgoeaaGreatCalcsH
namespace Go.Proofs.YtdkfkalplmgoeaaGreat
open Go.RowKit
set_option maxRecDepth 100000
set_option maxHeartbeats 2000000
theorem zhY {x y x' y':Int} {r r':W} (h:(⟨x,y⟩:W)=r) (h':(⟨x',y'⟩:W)=r') :
 Ending.returned (.tuple #[.agg #[.int .i64 x,.int .u64 y],.agg #[.int .i64 x',.int .u64 y']])=.returned (.tuple #[.agg #[.int .i64 r.h,.int .u64 r.l],.agg #[.int .i64 (r').h,.int .u64 (r').l]]):=by rw[←h,←h']
theorem zrX:mkW 1=⟨0,1⟩:=(zdT (by unfold U64;omega) (by omega)).symm
theorem zgg:mkW 0=⟨0,0⟩:=(zdT (by unfold U64;omega) (by omega)).symm
theorem zcu (x:Int) (hx:R128 x) (hs:R128 (x+1)) (w:World):Calls Tryz.prog 67 #[.agg #[.int .i64 (mkW x).h,.int .u64 (mkW x).l],.agg #[.int .i64 0,.int .u64 1]] w fun e w'=>e=.returned (.agg #[.int .i64 (mkW (x+1)).h,.int .u64 (mkW (x+1)).l])∧Grew w w':=by
 have:=zcb x 1 hx (by unfold R128;omega) hs w
 rwa [zrX] at this
theorem zjt (x:Int) (hx:R128 x) (w:World):Calls Tryz.prog 219 #[.agg #[.int .i64 (mkW x).h,.int .u64 (mkW x).l],.agg #[.int .i64 0,.int .u64 0]] w fun e w'=>e=.returned (.bool (decide (x=0)))∧Grew w w':=by
 have:=zpj x 0 hx (by unfold R128;omega) w
 rwa [zgg] at this
theorem zpe (x:Int) (h0:0≤x) (hx:R128 x):x/2^(127+1)=0:=by
 apply Int.ediv_eq_zero_of_lt h0
 have:(2:Int)^(127+1)=340282366920938463463374607431768211456:=by decide +kernel
 unfold R128 at hx
 omega
theorem zqF (x:Int) (k:Nat) (h:x/2^(k+1)=0) (hb:decide (bitZ x k=1)=false):x/2^k=0:=by
 have:=zjC x k
 have h2:=zi0 x k
 simp at hb
 omega
def zlz (x b:Int) (w:World) (B7 B8:Nat) (n:Nat) (wr:World):Prop:=Grew w wr∧zav wr w.heap.size [.int .i64 (mkW x).h,.int .u64 (mkW x).l]∧zav wr (w.heap.size+1) [.int .i64 (mkW b).h,.int .u64 (mkW b).l]∧zav wr (w.heap.size+1+1) [.int .i64 0,.int .u64 0]∧zav wr (w.heap.size+1+1+1) [.int .i64 0,.int .u64 0]∧
 zav wr B7 [.int .i64 (mkW (x/2^n/b)).h,.int .u64 (mkW (x/2^n/b)).l]∧zav wr B8 [.int .i64 (mkW (x/2^n % b)).h,.int .u64 (mkW (x/2^n % b)).l]
theorem zjs (x b:Int) (h0:0≤x) (hx:x<18446744073709551616) (hb0:0<b) (hb:b<18446744073709551616) (w:World):Calls Tryz.prog 218 #[.agg #[.int .i64 (mkW x).h,.int .u64 (mkW x).l],.agg #[.int .i64 (mkW b).h,.int .u64 (mkW b).l]] w fun e w'=>e=.returned (.tuple #[.agg #[.int .i64 (mkW (x/b)).h,.int .u64 (mkW (x/b)).l],.agg #[.int .i64 (mkW (x % b)).h,.int .u64 (mkW (x % b)).l]])∧Grew w w':=by
 have e1:mkW x=⟨0,x⟩:=(zdT (by unfold U64;omega) (by omega)).symm
 have e2:mkW b=⟨0,b⟩:=(zdT (by unfold U64;omega) (by omega)).symm
 have h1:=Int.ediv_nonneg h0 (Int.le_of_lt hb0)
 have h2:=Int.ediv_le_self b h0
 have h3:=Int.emod_nonneg x (show b≠0 by omega)
 have h4:=Int.emod_lt_of_pos x hb0
 have Hq:=Lib.hid (show (⟨0,x/b⟩:W)=mkW (x/b) from zdT (by unfold U64;omega) (by omega))
 have Hr:=Lib.hid (show (⟨0,x % b⟩:W)=mkW (x % b) from zdT (by unfold U64;omega) (by omega))
 have hne:(b==0)=false:=by rw[beq_eq_false_iff_ne];omega
 rw[e1,e2]
 clear e1 e2
 go_enter Tryz.func218,Tryz.ntmps218
 go_wp2
 go_region
 all_goals go_wp2
 all_goals
  refine bodyPost_ret (by (simp[results,Tryz.results218,go_sem]<;>rfl)) rfl ?_
  exact ⟨zhY Hq.out Hr.out,gw⟩
theorem zqY (x:Int):(mkW x).h=x/18446744073709551616:=rfl
set_option maxHeartbeats 8000000 in
theorem zkn (x b:Int) (h0:0≤x) (hx:R128 x) (hb0:0<b) (hb:b≤42535295865117307932921825928971026432) (hlong:(((mkW x).h==0)&&((mkW b).h==0))=false) (w:World):Calls Tryz.prog 218 #[.agg #[.int .i64 (mkW x).h,.int .u64 (mkW x).l],.agg #[.int .i64 (mkW b).h,.int .u64 (mkW b).l]] w fun e w'=>e=.returned (.tuple #[.agg #[.int .i64 (mkW (x/b)).h,.int .u64 (mkW (x/b)).l],.agg #[.int .i64 (mkW (x % b)).h,.int .u64 (mkW (x % b)).l]])∧Grew w w':=by
 have Hx:=Lib.hid hx
 have Hb:=Lib.hid (show R128 b by unfold R128;omega)
 have Hnb:=Lib.hid (show R128 (-b) by unfold R128;omega)
 have Htop:=Lib.hid (zpe x h0 hx)
 have Hbd:=Lib.hid (fun i=>zoB x b i h0 hb0)
 have Hstep:=Lib.hid (fun i t=>zn9 x b i hb0 t)
 have Hbit:=Lib.hid (fun (i:Nat) (hi:i≤127) w=>zqI x i h0 hx hi w)
 have H0:=Lib.hid h0
 have Hbb:=Lib.hid hb
 have Hb0:=Lib.hid hb0
 clear h0 hx hb hb0
 rcases (show (((mkW x).h==0)=false)∨(((mkW x).h==0)=true∧((mkW b).h==0)=false) by cases h1:((mkW x).h==0)<;>cases h2:((mkW b).h==0)<;>simp_all) with hl|⟨hl1,hl2⟩
 all_goals
  clear hlong
  go_enter Tryz.func218,Tryz.ntmps218
  go_wp2
  go_loopw [6] (fun t wr=>∃ k:Nat,t=.int .i64 k∧k≤127∧Hid (x/2^(k+1)=0)∧Grew w wr∧zav wr w.heap.size [.int .i64 (mkW x).h,.int .u64 (mkW x).l]∧zav wr (w.heap.size+1) [.int .i64 (mkW b).h,.int .u64 (mkW b).l]∧zav wr (w.heap.size+1+1) [.int .i64 0,.int .u64 0]∧zav wr (w.heap.size+1+1+1) [.int .i64 0,.int .u64 0]) (fun t _=>(intOf t).toNat)
  case atStart=>exact ⟨127,rfl,by omega,Htop,gw,bxt,bxt,bxt,bxt⟩
  case round=>
   obtain ⟨k,rfl,hk,Hk,hg,hA,hB,hC,hD⟩:=hrel
   obtain ⟨z,rfl⟩:=zal hg
   clear hg
   have hA_0:=(hA 0 _ rfl).1
   have hAf0:=(hA 0 _ rfl).2
   have hAi0:HasCell (z.world) (w.heap.size) 0:=⟨_,hA_0⟩
   have hA_1:=(hA 1 _ rfl).1
   have hAf1:=(hA 1 _ rfl).2
   have hAi1:HasCell (z.world) (w.heap.size) 1:=⟨_,hA_1⟩
   have hAb:BlockIn (z.world) (w.heap.size):=BlockIn.of_cell hA_0
   clear hA
   have hB_0:=(hB 0 _ rfl).1
   have hBf0:=(hB 0 _ rfl).2
   have hBi0:HasCell (z.world) (w.heap.size+1) 0:=⟨_,hB_0⟩
   have hB_1:=(hB 1 _ rfl).1
   have hBf1:=(hB 1 _ rfl).2
   have hBi1:HasCell (z.world) (w.heap.size+1) 1:=⟨_,hB_1⟩
   have hBb:BlockIn (z.world) (w.heap.size+1):=BlockIn.of_cell hB_0
   clear hB
   have hC_0:=(hC 0 _ rfl).1
   have hCf0:=(hC 0 _ rfl).2
   have hCi0:HasCell (z.world) (w.heap.size+1+1) 0:=⟨_,hC_0⟩
   have hC_1:=(hC 1 _ rfl).1
   have hCf1:=(hC 1 _ rfl).2
   have hCi1:HasCell (z.world) (w.heap.size+1+1) 1:=⟨_,hC_1⟩
   have hCb:BlockIn (z.world) (w.heap.size+1+1):=BlockIn.of_cell hC_0
   clear hC
   have hD_0:=(hD 0 _ rfl).1
   have hDf0:=(hD 0 _ rfl).2
   have hDi0:HasCell (z.world) (w.heap.size+1+1+1) 0:=⟨_,hD_0⟩
   have hD_1:=(hD 1 _ rfl).1
   have hDf1:=(hD 1 _ rfl).2
   have hDi1:HasCell (z.world) (w.heap.size+1+1+1) 1:=⟨_,hD_1⟩
   have hDb:BlockIn (z.world) (w.heap.size+1+1+1):=BlockIn.of_cell hD_0
   clear hD
   have HbK:=Lib.hid (Hbit.out k hk)
   by_cases hgo:0<k∧decide (bitZ x k=1)=false
   ·obtain ⟨hk0,hbit⟩:=hgo
    have Hk2:=Lib.hid (zqF x k Hk.out hbit)
    have Hbt:=Lib.hid hbit
    clear hbit
    go_wp2_with (first|(go_at_call 221;(with_reducible refine zaa (zaz Hbt.out (HbK.out _)) ?_);intro u)|((with_reducible refine zab ?_ ?_ ?_);(· kernel_rfl);(· kernel_rfl);(try simp only[List.append_eq,List.cons_append,List.nil_append]);(repeat (go_big_quiet_step ((first|(go_at_call 221;(with_reducible exact zac (zaz Hbt.out (HbK.out _))))))));refine wpQuiet_nil ?_;rintro _ ⟨u,rfl⟩))
    go_roundw
    case rel=>exact ⟨k-1,by go_num,by omega,Lib.hid (by rw[show k-1+1=k by omega];exact Hk2.out),gw,bxt,bxt,bxt,bxt⟩
    case measure=>simp[intOf]<;>omega
   ·have hgo':k≤0∨(0<k∧decide (bitZ x k=1)=true):=by
     rcases Nat.eq_zero_or_pos k with h|h
     ·exact .inl (by omega)
     ·right
      refine ⟨h,?_⟩
      cases hb:decide (bitZ x k=1)
      ·exact absurd ⟨h,hb⟩ hgo
      ·rfl
    clear hgo
    rcases hgo' with hk0|⟨hk0,hbit⟩
    ·go_wp2
     have nu:w.heap.size+1+1+1+1≤z.world.heap.size:=by have h1:=hDb.lt;have h2:=Below.size z.grew;(try simp at h2);omega
     have:Apart (w.heap.size) (z.world.heap.size):=⟨by omega⟩
     have:Apart (w.heap.size) (z.world.heap.size+1):=⟨by omega⟩
     have:Apart (w.heap.size+1) (z.world.heap.size):=⟨by omega⟩
     have:Apart (w.heap.size+1) (z.world.heap.size+1):=⟨by omega⟩
     have:Apart (w.heap.size+1+1) (z.world.heap.size):=⟨by omega⟩
     have:Apart (w.heap.size+1+1) (z.world.heap.size+1):=⟨by omega⟩
     have:Apart (w.heap.size+1+1+1) (z.world.heap.size):=⟨by omega⟩
     have:Apart (w.heap.size+1+1+1) (z.world.heap.size+1):=⟨by omega⟩
     have:Apart (z.world.heap.size) (w.heap.size):=⟨by omega⟩
     have:Apart (z.world.heap.size) (w.heap.size+1):=⟨by omega⟩
     have:Apart (z.world.heap.size) (w.heap.size+1+1):=⟨by omega⟩
     have:Apart (z.world.heap.size) (w.heap.size+1+1+1):=⟨by omega⟩
     have:Apart (z.world.heap.size+1) (w.heap.size):=⟨by omega⟩
     have:Apart (z.world.heap.size+1) (w.heap.size+1):=⟨by omega⟩
     have:Apart (z.world.heap.size+1) (w.heap.size+1+1):=⟨by omega⟩
     have:Apart (z.world.heap.size+1) (w.heap.size+1+1+1):=⟨by omega⟩
     have nw7:NewFor w z.world.heap.size:=⟨by omega⟩
     have nw8:NewFor w (z.world.heap.size+1):=⟨by omega⟩
     have Hst:=Lib.hid (show mkW (x/2^(k+1)/b)=⟨0,0⟩∧mkW (x/2^(k+1) % b)=⟨0,0⟩ by rw[Hk.out,Int.zero_ediv,Int.zero_emod];exact ⟨zgg,zgg⟩)
     clear nu
     go_wp2
     go_loopw [9] (fun t wr=>∃ n:Nat,t=.int .i64 ((n:Int)-1)∧n≤128∧zlz x b w z.world.heap.size (z.world.heap.size+1) n wr) (fun t _=>(intOf t+1).toNat)
     case atStart=>exact ⟨k+1,by go_num,by omega,gw,bxt,bxt,bxt,bxt,by rw[Hst.out.1];exact bxt,by rw[Hst.out.2];exact bxt⟩
     case round=>
      obtain ⟨n,rfl,hn,hg,hA,hB,hC,hD,hQ,hR⟩:=hrel
      obtain ⟨y,rfl⟩:=zal hg
      clear hg
      have hA_0:=(hA 0 _ rfl).1
      have hAf0:=(hA 0 _ rfl).2
      have hAi0:HasCell (y.world) (w.heap.size) 0:=⟨_,hA_0⟩
      have hA_1:=(hA 1 _ rfl).1
      have hAf1:=(hA 1 _ rfl).2
      have hAi1:HasCell (y.world) (w.heap.size) 1:=⟨_,hA_1⟩
      have hAb:BlockIn (y.world) (w.heap.size):=BlockIn.of_cell hA_0
      clear hA
      have hB_0:=(hB 0 _ rfl).1
      have hBf0:=(hB 0 _ rfl).2
      have hBi0:HasCell (y.world) (w.heap.size+1) 0:=⟨_,hB_0⟩
      have hB_1:=(hB 1 _ rfl).1
      have hBf1:=(hB 1 _ rfl).2
      have hBi1:HasCell (y.world) (w.heap.size+1) 1:=⟨_,hB_1⟩
      have hBb:BlockIn (y.world) (w.heap.size+1):=BlockIn.of_cell hB_0
      clear hB
      have hC_0:=(hC 0 _ rfl).1
      have hCf0:=(hC 0 _ rfl).2
      have hCi0:HasCell (y.world) (w.heap.size+1+1) 0:=⟨_,hC_0⟩
      have hC_1:=(hC 1 _ rfl).1
      have hCf1:=(hC 1 _ rfl).2
      have hCi1:HasCell (y.world) (w.heap.size+1+1) 1:=⟨_,hC_1⟩
      have hCb:BlockIn (y.world) (w.heap.size+1+1):=BlockIn.of_cell hC_0
      clear hC
      have hD_0:=(hD 0 _ rfl).1
      have hDf0:=(hD 0 _ rfl).2
      have hDi0:HasCell (y.world) (w.heap.size+1+1+1) 0:=⟨_,hD_0⟩
      have hD_1:=(hD 1 _ rfl).1
      have hDf1:=(hD 1 _ rfl).2
      have hDi1:HasCell (y.world) (w.heap.size+1+1+1) 1:=⟨_,hD_1⟩
      have hDb:BlockIn (y.world) (w.heap.size+1+1+1):=BlockIn.of_cell hD_0
      clear hD
      cases n with
      |zero=>
       rw[Int.pow_zero,Int.ediv_one] at hQ hR
       have hQ_0:=(hQ 0 _ rfl).1
       have hQf0:=(hQ 0 _ rfl).2
       have hQi0:HasCell (y.world) (z.world.heap.size) 0:=⟨_,hQ_0⟩
       have hQ_1:=(hQ 1 _ rfl).1
       have hQf1:=(hQ 1 _ rfl).2
       have hQi1:HasCell (y.world) (z.world.heap.size) 1:=⟨_,hQ_1⟩
       have hQb:BlockIn (y.world) (z.world.heap.size):=BlockIn.of_cell hQ_0
       clear hQ
       have hR_0:=(hR 0 _ rfl).1
       have hRf0:=(hR 0 _ rfl).2
       have hRi0:HasCell (y.world) (z.world.heap.size+1) 0:=⟨_,hR_0⟩
       have hR_1:=(hR 1 _ rfl).1
       have hRf1:=(hR 1 _ rfl).2
       have hRi1:HasCell (y.world) (z.world.heap.size+1) 1:=⟨_,hR_1⟩
       have hRb:BlockIn (y.world) (z.world.heap.size+1):=BlockIn.of_cell hR_0
       clear hR
       go_wp2
       go_region
       all_goals go_wp2
       all_goals
        refine bodyPost_ret (by (simp[results,Tryz.results218,go_sem]<;>rfl)) rfl ?_
        exact ⟨rfl,gw⟩
      |succ i=>
       have hQ_0:=(hQ 0 _ rfl).1
       have hQf0:=(hQ 0 _ rfl).2
       have hQi0:HasCell (y.world) (z.world.heap.size) 0:=⟨_,hQ_0⟩
       have hQ_1:=(hQ 1 _ rfl).1
       have hQf1:=(hQ 1 _ rfl).2
       have hQi1:HasCell (y.world) (z.world.heap.size) 1:=⟨_,hQ_1⟩
       have hQb:BlockIn (y.world) (z.world.heap.size):=BlockIn.of_cell hQ_0
       clear hQ
       have hR_0:=(hR 0 _ rfl).1
       have hRf0:=(hR 0 _ rfl).2
       have hRi0:HasCell (y.world) (z.world.heap.size+1) 0:=⟨_,hR_0⟩
       have hR_1:=(hR 1 _ rfl).1
       have hRf1:=(hR 1 _ rfl).2
       have hRi1:HasCell (y.world) (z.world.heap.size+1) 1:=⟨_,hR_1⟩
       have hRb:BlockIn (y.world) (z.world.heap.size+1):=BlockIn.of_cell hR_0
       clear hR
       have hi:((i+1:Nat):Int)-1=i:=by omega
       rw[hi]
       clear hi
       obtain ⟨q0,q1,r0,r1,r2⟩:=Hbd.out (i+1)
       have hb2:=Hbb.out
       have hx2:=Hx.out
       unfold R128 at hx2
       have hst:=Hstep.out i
       have Hn:=Lib.hid (Hbd.out i)
       have HbI:=Lib.hid (Hbit.out i (by omega))
       generalize x/2^(i+1)/b=q at *
       generalize x/2^(i+1) % b=r at *
       have HH:=Lib.hid (show ∀ t,t=r+r+bitZ x i→(t<b→x/2^i/b=q+q∧x/2^i % b=t)∧(b≤t→x/2^i/b=q+q+1∧x/2^i % b=t+-b) by
        intro t ht
        have h:=hst t (by omega)
        exact ⟨fun k=>⟨by rw[(h.1 k).1];omega,(h.1 k).2⟩,fun k=>⟨by rw[(h.2 k).1];omega,by rw[(h.2 k).2];omega⟩⟩)
       have Hq:=Lib.hid (show R128 q by unfold R128;omega)
       have Hr:=Lib.hid (show R128 r by unfold R128;omega)
       have Hrr:=Lib.hid (show R128 (r+r) by unfold R128;omega)
       have Hrs:=Lib.hid (show R128 (r+r+1) by unfold R128;omega)
       have Hrm:=Lib.hid (show R128 (r+r+-b) by unfold R128;omega)
       have Hrn:=Lib.hid (show R128 (r+r+1+-b) by unfold R128;omega)
       have Hqx:=Lib.hid q0
       clear r1 r0 r2 q0 q1 hst hb2 hx2
       have HT1:=Lib.hid (fun w=>zcc r Hr.out Hrr.out w)
       have HM:=Lib.hid (fun w=>zbX b Hb.out Hnb.out w)
       have HP1:=Lib.hid (fun w=>zcu (r+r) Hrr.out Hrs.out w)
       rcases zaS (decide (bitZ x i=1)) with hbit|hbit
       ·have hbz:bitZ x i=0:=by have:=zi0 x i;simp at hbit;omega
        have H2:=Lib.hid (HH.out (r+r) (by omega))
        have Hbt:=Lib.hid hbit
        clear hbit hbz
        rcases zd0 (decide (r+r<b)) with hc|hc
        ·have Hf:=Lib.hid (H2.out.1 (by simpa using hc))
         have Hqq:=Lib.hid (show R128 (q+q) by have h1:=Hn.out;have h2:=Hx.out;rw[Hf.out.1] at h1;unfold R128 at *;omega)
         have HT2:=Lib.hid (fun w=>zcc q Hq.out Hqq.out w)
         have Hc:=Lib.hid hc
         have HL:=Lib.hid (fun w=>zaz Hc.out (zaQ (r+r) b Hrr.out Hb.out w))
         clear hc
         go_wp2_with (first|(go_at_call 222;(with_reducible refine zaa (HT1.out _) ?_);intro u)|(go_at_call 222;(with_reducible refine zaa (HT2.out _) ?_);intro u)|(go_at_call 221;(with_reducible refine zaa (zaz Hbt.out (HbI.out _)) ?_);intro u)|(go_at_call 67;(with_reducible refine zaa (HP1.out _) ?_);intro u)|(go_at_call 125;(with_reducible refine zaa (HL.out _) ?_);intro u))
         go_roundw
         case rel=>exact ⟨i,by go_num,by omega,gw,bxt,bxt,bxt,bxt,by rw[Hf.out.1];exact bxt,by rw[Hf.out.2];exact bxt⟩
         case measure=>simp[intOf]<;>omega
        ·have Hf:=Lib.hid (H2.out.2 (by simpa using hc))
         have Hqs:=Lib.hid (show R128 (q+q+1)∧R128 (q+q) by have h1:=Hn.out;have h2:=Hx.out;have h3:=Hqx.out;rw[Hf.out.1] at h1;unfold R128 at *;omega)
         have HT2:=Lib.hid (fun w=>zcc q Hq.out Hqs.out.2 w)
         have HPq:=Lib.hid (fun w=>zcu (q+q) Hqs.out.2 Hqs.out.1 w)
         have HPt:=Lib.hid (fun w=>zcb (r+r) (-b) Hrr.out Hnb.out Hrm.out w)
         have Hc:=Lib.hid hc
         have HL:=Lib.hid (fun w=>zaz Hc.out (zaQ (r+r) b Hrr.out Hb.out w))
         clear hc
         go_wp2_with (first|(go_at_call 222;(with_reducible refine zaa (HT1.out _) ?_);intro u)|(go_at_call 222;(with_reducible refine zaa (HT2.out _) ?_);intro u)|(go_at_call 221;(with_reducible refine zaa (zaz Hbt.out (HbI.out _)) ?_);intro u)|(go_at_call 67;(with_reducible refine zaa (HP1.out _) ?_);intro u)|(go_at_call 125;(with_reducible refine zaa (HL.out _) ?_);intro u))
         refine zaJ 4 [] [2,3] [] (fun W0=>[]) [.agg #[.int .i64 ((mkW (-b))).h,.int .u64 ((mkW (-b))).l],.agg #[.int .i64 ((mkW (r+r+-b))).h,.int .u64 ((mkW (r+r+-b))).l]] [4] (by rfl) (fun _ x hx=>absurd hx (List.not_mem_nil)) (by kernel_rfl) (by kernel_rfl) (by kernel_rfl) ?_
         intro p
         apply Exists.intro
         apply And.intro
         iterate 2 (apply zaA (by kernel_rfl);(· intro u;unfold zai;go_simp;rfl))
         apply zaw 0 (by kernel_rfl) (by rfl) (by decide)
         ·intro u hF;clear hF;unfold zah;go_simp;exact HM.out _
         apply zaw 1 (by kernel_rfl) (by rfl) (by decide)
         ·intro u hF;clear hF;unfold zah;go_simp;exact HPt.out _
         apply zbG
         rotate_left
         ·rfl
         intro u hR hD
         clear hR hD
         refine zag (by rfl) ?_;unfold zap;go_simp
         refine zao ?_
         go_wp2_with (first|(go_at_call 67;(with_reducible refine zaa (HPq.out _) ?_);intro u))
         go_roundw
         case rel=>exact ⟨i,by go_num,by omega,gw,bxt,bxt,bxt,bxt,by rw[Hf.out.1];exact bxt,by rw[Hf.out.2];exact bxt⟩
         case measure=>simp[intOf]<;>omega
       ·have hbz:bitZ x i=1:=by simpa using hbit
        have H2:=Lib.hid (HH.out (r+r+1) (by omega))
        have Hbt:=Lib.hid hbit
        clear hbit hbz
        rcases zd0 (decide (r+r+1<b)) with hc|hc
        ·have Hf:=Lib.hid (H2.out.1 (by simpa using hc))
         have Hqq:=Lib.hid (show R128 (q+q) by have h1:=Hn.out;have h2:=Hx.out;rw[Hf.out.1] at h1;unfold R128 at *;omega)
         have HT2:=Lib.hid (fun w=>zcc q Hq.out Hqq.out w)
         have Hc:=Lib.hid hc
         have HL:=Lib.hid (fun w=>zaz Hc.out (zaQ (r+r+1) b Hrs.out Hb.out w))
         clear hc
         go_wp2_with (first|(go_at_call 222;(with_reducible refine zaa (HT1.out _) ?_);intro u)|(go_at_call 222;(with_reducible refine zaa (HT2.out _) ?_);intro u)|(go_at_call 221;(with_reducible refine zaa (zaz Hbt.out (HbI.out _)) ?_);intro u)|(go_at_call 67;(with_reducible refine zaa (HP1.out _) ?_);intro u)|(go_at_call 125;(with_reducible refine zaa (HL.out _) ?_);intro u))
         go_roundw
         case rel=>exact ⟨i,by go_num,by omega,gw,bxt,bxt,bxt,bxt,by rw[Hf.out.1];exact bxt,by rw[Hf.out.2];exact bxt⟩
         case measure=>simp[intOf]<;>omega
        ·have Hf:=Lib.hid (H2.out.2 (by simpa using hc))
         have Hqs:=Lib.hid (show R128 (q+q+1)∧R128 (q+q) by have h1:=Hn.out;have h2:=Hx.out;have h3:=Hqx.out;rw[Hf.out.1] at h1;unfold R128 at *;omega)
         have HT2:=Lib.hid (fun w=>zcc q Hq.out Hqs.out.2 w)
         have HPq:=Lib.hid (fun w=>zcu (q+q) Hqs.out.2 Hqs.out.1 w)
         have HPt:=Lib.hid (fun w=>zcb (r+r+1) (-b) Hrs.out Hnb.out Hrn.out w)
         have Hc:=Lib.hid hc
         have HL:=Lib.hid (fun w=>zaz Hc.out (zaQ (r+r+1) b Hrs.out Hb.out w))
         clear hc
         go_wp2_with (first|(go_at_call 222;(with_reducible refine zaa (HT1.out _) ?_);intro u)|(go_at_call 222;(with_reducible refine zaa (HT2.out _) ?_);intro u)|(go_at_call 221;(with_reducible refine zaa (zaz Hbt.out (HbI.out _)) ?_);intro u)|(go_at_call 67;(with_reducible refine zaa (HP1.out _) ?_);intro u)|(go_at_call 125;(with_reducible refine zaa (HL.out _) ?_);intro u))
         refine zaJ 4 [] [2,3] [] (fun W0=>[]) [.agg #[.int .i64 ((mkW (-b))).h,.int .u64 ((mkW (-b))).l],.agg #[.int .i64 ((mkW (r+r+1+-b))).h,.int .u64 ((mkW (r+r+1+-b))).l]] [4] (by rfl) (fun _ x hx=>absurd hx (List.not_mem_nil)) (by kernel_rfl) (by kernel_rfl) (by kernel_rfl) ?_
         intro p
         apply Exists.intro
         apply And.intro
         iterate 2 (apply zaA (by kernel_rfl);(· intro u;unfold zai;go_simp;rfl))
         apply zaw 0 (by kernel_rfl) (by rfl) (by decide)
         ·intro u hF;clear hF;unfold zah;go_simp;exact HM.out _
         apply zaw 1 (by kernel_rfl) (by rfl) (by decide)
         ·intro u hF;clear hF;unfold zah;go_simp;exact HPt.out _
         apply zbG
         rotate_left
         ·rfl
         intro u hR hD
         clear hR hD
         refine zag (by rfl) ?_;unfold zap;go_simp
         refine zao ?_
         go_wp2_with (first|(go_at_call 67;(with_reducible refine zaa (HPq.out _) ?_);intro u))
         go_roundw
         case rel=>exact ⟨i,by go_num,by omega,gw,bxt,bxt,bxt,bxt,by rw[Hf.out.1];exact bxt,by rw[Hf.out.2];exact bxt⟩
         case measure=>simp[intOf]<;>omega
    ·have Hbt:=Lib.hid hbit
     clear hbit
     go_wp2_with (first|(go_at_call 221;(with_reducible refine zaa (zaz Hbt.out (HbK.out _)) ?_);intro u)|((with_reducible refine zab ?_ ?_ ?_);(· kernel_rfl);(· kernel_rfl);(try simp only[List.append_eq,List.cons_append,List.nil_append]);(repeat (go_big_quiet_step ((first|(go_at_call 221;(with_reducible exact zac (zaz Hbt.out (HbK.out _))))))));refine wpQuiet_nil ?_;rintro _ ⟨u,rfl⟩))
     have nu:w.heap.size+1+1+1+1≤u.world.heap.size:=by have h1:=hDb.lt;have h2:=Below.size u.grew;(try simp at h2);omega
     have:Apart (w.heap.size) (u.world.heap.size):=⟨by omega⟩
     have:Apart (w.heap.size) (u.world.heap.size+1):=⟨by omega⟩
     have:Apart (w.heap.size+1) (u.world.heap.size):=⟨by omega⟩
     have:Apart (w.heap.size+1) (u.world.heap.size+1):=⟨by omega⟩
     have:Apart (w.heap.size+1+1) (u.world.heap.size):=⟨by omega⟩
     have:Apart (w.heap.size+1+1) (u.world.heap.size+1):=⟨by omega⟩
     have:Apart (w.heap.size+1+1+1) (u.world.heap.size):=⟨by omega⟩
     have:Apart (w.heap.size+1+1+1) (u.world.heap.size+1):=⟨by omega⟩
     have:Apart (u.world.heap.size) (w.heap.size):=⟨by omega⟩
     have:Apart (u.world.heap.size) (w.heap.size+1):=⟨by omega⟩
     have:Apart (u.world.heap.size) (w.heap.size+1+1):=⟨by omega⟩
     have:Apart (u.world.heap.size) (w.heap.size+1+1+1):=⟨by omega⟩
     have:Apart (u.world.heap.size+1) (w.heap.size):=⟨by omega⟩
     have:Apart (u.world.heap.size+1) (w.heap.size+1):=⟨by omega⟩
     have:Apart (u.world.heap.size+1) (w.heap.size+1+1):=⟨by omega⟩
     have:Apart (u.world.heap.size+1) (w.heap.size+1+1+1):=⟨by omega⟩
     have nw7:NewFor w u.world.heap.size:=⟨by omega⟩
     have nw8:NewFor w (u.world.heap.size+1):=⟨by omega⟩
     have Hst:=Lib.hid (show mkW (x/2^(k+1)/b)=⟨0,0⟩∧mkW (x/2^(k+1) % b)=⟨0,0⟩ by rw[Hk.out,Int.zero_ediv,Int.zero_emod];exact ⟨zgg,zgg⟩)
     clear nu
     go_wp2
     go_loopw [9] (fun t wr=>∃ n:Nat,t=.int .i64 ((n:Int)-1)∧n≤128∧zlz x b w u.world.heap.size (u.world.heap.size+1) n wr) (fun t _=>(intOf t+1).toNat)
     case atStart=>exact ⟨k+1,by go_num,by omega,gw,bxt,bxt,bxt,bxt,by rw[Hst.out.1];exact bxt,by rw[Hst.out.2];exact bxt⟩
     case round=>
      obtain ⟨n,rfl,hn,hg,hA,hB,hC,hD,hQ,hR⟩:=hrel
      obtain ⟨y,rfl⟩:=zal hg
      clear hg
      have hA_0:=(hA 0 _ rfl).1
      have hAf0:=(hA 0 _ rfl).2
      have hAi0:HasCell (y.world) (w.heap.size) 0:=⟨_,hA_0⟩
      have hA_1:=(hA 1 _ rfl).1
      have hAf1:=(hA 1 _ rfl).2
      have hAi1:HasCell (y.world) (w.heap.size) 1:=⟨_,hA_1⟩
      have hAb:BlockIn (y.world) (w.heap.size):=BlockIn.of_cell hA_0
      clear hA
      have hB_0:=(hB 0 _ rfl).1
      have hBf0:=(hB 0 _ rfl).2
      have hBi0:HasCell (y.world) (w.heap.size+1) 0:=⟨_,hB_0⟩
      have hB_1:=(hB 1 _ rfl).1
      have hBf1:=(hB 1 _ rfl).2
      have hBi1:HasCell (y.world) (w.heap.size+1) 1:=⟨_,hB_1⟩
      have hBb:BlockIn (y.world) (w.heap.size+1):=BlockIn.of_cell hB_0
      clear hB
      have hC_0:=(hC 0 _ rfl).1
      have hCf0:=(hC 0 _ rfl).2
      have hCi0:HasCell (y.world) (w.heap.size+1+1) 0:=⟨_,hC_0⟩
      have hC_1:=(hC 1 _ rfl).1
      have hCf1:=(hC 1 _ rfl).2
      have hCi1:HasCell (y.world) (w.heap.size+1+1) 1:=⟨_,hC_1⟩
      have hCb:BlockIn (y.world) (w.heap.size+1+1):=BlockIn.of_cell hC_0
      clear hC
      have hD_0:=(hD 0 _ rfl).1
      have hDf0:=(hD 0 _ rfl).2
      have hDi0:HasCell (y.world) (w.heap.size+1+1+1) 0:=⟨_,hD_0⟩
      have hD_1:=(hD 1 _ rfl).1
      have hDf1:=(hD 1 _ rfl).2
      have hDi1:HasCell (y.world) (w.heap.size+1+1+1) 1:=⟨_,hD_1⟩
      have hDb:BlockIn (y.world) (w.heap.size+1+1+1):=BlockIn.of_cell hD_0
      clear hD
      cases n with
      |zero=>
       rw[Int.pow_zero,Int.ediv_one] at hQ hR
       have hQ_0:=(hQ 0 _ rfl).1
       have hQf0:=(hQ 0 _ rfl).2
       have hQi0:HasCell (y.world) (u.world.heap.size) 0:=⟨_,hQ_0⟩
       have hQ_1:=(hQ 1 _ rfl).1
       have hQf1:=(hQ 1 _ rfl).2
       have hQi1:HasCell (y.world) (u.world.heap.size) 1:=⟨_,hQ_1⟩
       have hQb:BlockIn (y.world) (u.world.heap.size):=BlockIn.of_cell hQ_0
       clear hQ
       have hR_0:=(hR 0 _ rfl).1
       have hRf0:=(hR 0 _ rfl).2
       have hRi0:HasCell (y.world) (u.world.heap.size+1) 0:=⟨_,hR_0⟩
       have hR_1:=(hR 1 _ rfl).1
       have hRf1:=(hR 1 _ rfl).2
       have hRi1:HasCell (y.world) (u.world.heap.size+1) 1:=⟨_,hR_1⟩
       have hRb:BlockIn (y.world) (u.world.heap.size+1):=BlockIn.of_cell hR_0
       clear hR
       go_wp2
       go_region
       all_goals go_wp2
       all_goals
        refine bodyPost_ret (by (simp[results,Tryz.results218,go_sem]<;>rfl)) rfl ?_
        exact ⟨rfl,gw⟩
      |succ i=>
       have hQ_0:=(hQ 0 _ rfl).1
       have hQf0:=(hQ 0 _ rfl).2
       have hQi0:HasCell (y.world) (u.world.heap.size) 0:=⟨_,hQ_0⟩
       have hQ_1:=(hQ 1 _ rfl).1
       have hQf1:=(hQ 1 _ rfl).2
       have hQi1:HasCell (y.world) (u.world.heap.size) 1:=⟨_,hQ_1⟩
       have hQb:BlockIn (y.world) (u.world.heap.size):=BlockIn.of_cell hQ_0
       clear hQ
       have hR_0:=(hR 0 _ rfl).1
       have hRf0:=(hR 0 _ rfl).2
       have hRi0:HasCell (y.world) (u.world.heap.size+1) 0:=⟨_,hR_0⟩
       have hR_1:=(hR 1 _ rfl).1
       have hRf1:=(hR 1 _ rfl).2
       have hRi1:HasCell (y.world) (u.world.heap.size+1) 1:=⟨_,hR_1⟩
       have hRb:BlockIn (y.world) (u.world.heap.size+1):=BlockIn.of_cell hR_0
       clear hR
       have hi:((i+1:Nat):Int)-1=i:=by omega
       rw[hi]
       clear hi
       obtain ⟨q0,q1,r0,r1,r2⟩:=Hbd.out (i+1)
       have hb2:=Hbb.out
       have hx2:=Hx.out
       unfold R128 at hx2
       have hst:=Hstep.out i
       have Hn:=Lib.hid (Hbd.out i)
       have HbI:=Lib.hid (Hbit.out i (by omega))
       generalize x/2^(i+1)/b=q at *
       generalize x/2^(i+1) % b=r at *
       have HH:=Lib.hid (show ∀ t,t=r+r+bitZ x i→(t<b→x/2^i/b=q+q∧x/2^i % b=t)∧(b≤t→x/2^i/b=q+q+1∧x/2^i % b=t+-b) by
        intro t ht
        have h:=hst t (by omega)
        exact ⟨fun k=>⟨by rw[(h.1 k).1];omega,(h.1 k).2⟩,fun k=>⟨by rw[(h.2 k).1];omega,by rw[(h.2 k).2];omega⟩⟩)
       have Hq:=Lib.hid (show R128 q by unfold R128;omega)
       have Hr:=Lib.hid (show R128 r by unfold R128;omega)
       have Hrr:=Lib.hid (show R128 (r+r) by unfold R128;omega)
       have Hrs:=Lib.hid (show R128 (r+r+1) by unfold R128;omega)
       have Hrm:=Lib.hid (show R128 (r+r+-b) by unfold R128;omega)
       have Hrn:=Lib.hid (show R128 (r+r+1+-b) by unfold R128;omega)
       have Hqx:=Lib.hid q0
       clear r1 r0 r2 q0 q1 hst hb2 hx2
       have HT1:=Lib.hid (fun w=>zcc r Hr.out Hrr.out w)
       have HM:=Lib.hid (fun w=>zbX b Hb.out Hnb.out w)
       have HP1:=Lib.hid (fun w=>zcu (r+r) Hrr.out Hrs.out w)
       rcases zaS (decide (bitZ x i=1)) with hbit|hbit
       ·have hbz:bitZ x i=0:=by have:=zi0 x i;simp at hbit;omega
        have H2:=Lib.hid (HH.out (r+r) (by omega))
        have Hbt:=Lib.hid hbit
        clear hbit hbz
        rcases zd0 (decide (r+r<b)) with hc|hc
        ·have Hf:=Lib.hid (H2.out.1 (by simpa using hc))
         have Hqq:=Lib.hid (show R128 (q+q) by have h1:=Hn.out;have h2:=Hx.out;rw[Hf.out.1] at h1;unfold R128 at *;omega)
         have HT2:=Lib.hid (fun w=>zcc q Hq.out Hqq.out w)
         have Hc:=Lib.hid hc
         have HL:=Lib.hid (fun w=>zaz Hc.out (zaQ (r+r) b Hrr.out Hb.out w))
         clear hc
         go_wp2_with (first|(go_at_call 222;(with_reducible refine zaa (HT1.out _) ?_);intro u)|(go_at_call 222;(with_reducible refine zaa (HT2.out _) ?_);intro u)|(go_at_call 221;(with_reducible refine zaa (zaz Hbt.out (HbI.out _)) ?_);intro u)|(go_at_call 67;(with_reducible refine zaa (HP1.out _) ?_);intro u)|(go_at_call 125;(with_reducible refine zaa (HL.out _) ?_);intro u))
         go_roundw
         case rel=>exact ⟨i,by go_num,by omega,gw,bxt,bxt,bxt,bxt,by rw[Hf.out.1];exact bxt,by rw[Hf.out.2];exact bxt⟩
         case measure=>simp[intOf]<;>omega
        ·have Hf:=Lib.hid (H2.out.2 (by simpa using hc))
         have Hqs:=Lib.hid (show R128 (q+q+1)∧R128 (q+q) by have h1:=Hn.out;have h2:=Hx.out;have h3:=Hqx.out;rw[Hf.out.1] at h1;unfold R128 at *;omega)
         have HT2:=Lib.hid (fun w=>zcc q Hq.out Hqs.out.2 w)
         have HPq:=Lib.hid (fun w=>zcu (q+q) Hqs.out.2 Hqs.out.1 w)
         have HPt:=Lib.hid (fun w=>zcb (r+r) (-b) Hrr.out Hnb.out Hrm.out w)
         have Hc:=Lib.hid hc
         have HL:=Lib.hid (fun w=>zaz Hc.out (zaQ (r+r) b Hrr.out Hb.out w))
         clear hc
         go_wp2_with (first|(go_at_call 222;(with_reducible refine zaa (HT1.out _) ?_);intro u)|(go_at_call 222;(with_reducible refine zaa (HT2.out _) ?_);intro u)|(go_at_call 221;(with_reducible refine zaa (zaz Hbt.out (HbI.out _)) ?_);intro u)|(go_at_call 67;(with_reducible refine zaa (HP1.out _) ?_);intro u)|(go_at_call 125;(with_reducible refine zaa (HL.out _) ?_);intro u))
         refine zaJ 4 [] [2,3] [] (fun W0=>[]) [.agg #[.int .i64 ((mkW (-b))).h,.int .u64 ((mkW (-b))).l],.agg #[.int .i64 ((mkW (r+r+-b))).h,.int .u64 ((mkW (r+r+-b))).l]] [4] (by rfl) (fun _ x hx=>absurd hx (List.not_mem_nil)) (by kernel_rfl) (by kernel_rfl) (by kernel_rfl) ?_
         intro p
         apply Exists.intro
         apply And.intro
         iterate 2 (apply zaA (by kernel_rfl);(· intro u;unfold zai;go_simp;rfl))
         apply zaw 0 (by kernel_rfl) (by rfl) (by decide)
         ·intro u hF;clear hF;unfold zah;go_simp;exact HM.out _
         apply zaw 1 (by kernel_rfl) (by rfl) (by decide)
         ·intro u hF;clear hF;unfold zah;go_simp;exact HPt.out _
         apply zbG
         rotate_left
         ·rfl
         intro u hR hD
         clear hR hD
         refine zag (by rfl) ?_;unfold zap;go_simp
         refine zao ?_
         go_wp2_with (first|(go_at_call 67;(with_reducible refine zaa (HPq.out _) ?_);intro u))
         go_roundw
         case rel=>exact ⟨i,by go_num,by omega,gw,bxt,bxt,bxt,bxt,by rw[Hf.out.1];exact bxt,by rw[Hf.out.2];exact bxt⟩
         case measure=>simp[intOf]<;>omega
       ·have hbz:bitZ x i=1:=by simpa using hbit
        have H2:=Lib.hid (HH.out (r+r+1) (by omega))
        have Hbt:=Lib.hid hbit
        clear hbit hbz
        rcases zd0 (decide (r+r+1<b)) with hc|hc
        ·have Hf:=Lib.hid (H2.out.1 (by simpa using hc))
         have Hqq:=Lib.hid (show R128 (q+q) by have h1:=Hn.out;have h2:=Hx.out;rw[Hf.out.1] at h1;unfold R128 at *;omega)
         have HT2:=Lib.hid (fun w=>zcc q Hq.out Hqq.out w)
         have Hc:=Lib.hid hc
         have HL:=Lib.hid (fun w=>zaz Hc.out (zaQ (r+r+1) b Hrs.out Hb.out w))
         clear hc
         go_wp2_with (first|(go_at_call 222;(with_reducible refine zaa (HT1.out _) ?_);intro u)|(go_at_call 222;(with_reducible refine zaa (HT2.out _) ?_);intro u)|(go_at_call 221;(with_reducible refine zaa (zaz Hbt.out (HbI.out _)) ?_);intro u)|(go_at_call 67;(with_reducible refine zaa (HP1.out _) ?_);intro u)|(go_at_call 125;(with_reducible refine zaa (HL.out _) ?_);intro u))
         go_roundw
         case rel=>exact ⟨i,by go_num,by omega,gw,bxt,bxt,bxt,bxt,by rw[Hf.out.1];exact bxt,by rw[Hf.out.2];exact bxt⟩
         case measure=>simp[intOf]<;>omega
        ·have Hf:=Lib.hid (H2.out.2 (by simpa using hc))
         have Hqs:=Lib.hid (show R128 (q+q+1)∧R128 (q+q) by have h1:=Hn.out;have h2:=Hx.out;have h3:=Hqx.out;rw[Hf.out.1] at h1;unfold R128 at *;omega)
         have HT2:=Lib.hid (fun w=>zcc q Hq.out Hqs.out.2 w)
         have HPq:=Lib.hid (fun w=>zcu (q+q) Hqs.out.2 Hqs.out.1 w)
         have HPt:=Lib.hid (fun w=>zcb (r+r+1) (-b) Hrs.out Hnb.out Hrn.out w)
         have Hc:=Lib.hid hc
         have HL:=Lib.hid (fun w=>zaz Hc.out (zaQ (r+r+1) b Hrs.out Hb.out w))
         clear hc
         go_wp2_with (first|(go_at_call 222;(with_reducible refine zaa (HT1.out _) ?_);intro u)|(go_at_call 222;(with_reducible refine zaa (HT2.out _) ?_);intro u)|(go_at_call 221;(with_reducible refine zaa (zaz Hbt.out (HbI.out _)) ?_);intro u)|(go_at_call 67;(with_reducible refine zaa (HP1.out _) ?_);intro u)|(go_at_call 125;(with_reducible refine zaa (HL.out _) ?_);intro u))
         refine zaJ 4 [] [2,3] [] (fun W0=>[]) [.agg #[.int .i64 ((mkW (-b))).h,.int .u64 ((mkW (-b))).l],.agg #[.int .i64 ((mkW (r+r+1+-b))).h,.int .u64 ((mkW (r+r+1+-b))).l]] [4] (by rfl) (fun _ x hx=>absurd hx (List.not_mem_nil)) (by kernel_rfl) (by kernel_rfl) (by kernel_rfl) ?_
         intro p
         apply Exists.intro
         apply And.intro
         iterate 2 (apply zaA (by kernel_rfl);(· intro u;unfold zai;go_simp;rfl))
         apply zaw 0 (by kernel_rfl) (by rfl) (by decide)
         ·intro u hF;clear hF;unfold zah;go_simp;exact HM.out _
         apply zaw 1 (by kernel_rfl) (by rfl) (by decide)
         ·intro u hF;clear hF;unfold zah;go_simp;exact HPt.out _
         apply zbG
         rotate_left
         ·rfl
         intro u hR hD
         clear hR hD
         refine zag (by rfl) ?_;unfold zap;go_simp
         refine zao ?_
         go_wp2_with (first|(go_at_call 67;(with_reducible refine zaa (HPq.out _) ?_);intro u))
         go_roundw
         case rel=>exact ⟨i,by go_num,by omega,gw,bxt,bxt,bxt,bxt,by rw[Hf.out.1];exact bxt,by rw[Hf.out.2];exact bxt⟩
         case measure=>simp[intOf]<;>omega
theorem zlq (x b:Int) (h0:0≤x) (hx:R128 x) (hb0:0<b) (hb:b≤42535295865117307932921825928971026432) (w:World):Calls Tryz.prog 218 #[.agg #[.int .i64 (mkW x).h,.int .u64 (mkW x).l],.agg #[.int .i64 (mkW b).h,.int .u64 (mkW b).l]] w fun e w'=>e=.returned (.tuple #[.agg #[.int .i64 (mkW (x/b)).h,.int .u64 (mkW (x/b)).l],.agg #[.int .i64 (mkW (x % b)).h,.int .u64 (mkW (x % b)).l]])∧Grew w w':=by
 by_cases h:x<18446744073709551616∧b<18446744073709551616
 ·exact zjs x b h0 h.1 hb0 h.2 w
 ·refine zkn x b h0 hx hb0 hb ?_ w
  rw[zqY,zqY,Bool.and_eq_false_iff,beq_eq_false_iff_ne,beq_eq_false_iff_ne]
  unfold R128 at hx
  omega
end Go.Proofs.YtdkfkalplmgoeaaGreat
namespace Go.Proofs.YtdkfkalplmgoeaaGreat
open Go.RowKit
set_option maxRecDepth 100000
set_option maxHeartbeats 4000000
theorem zuC (m d:Int) (hd:1≤d) (hb:decide (m % d=0)=true):upZ m d=m/d:=by rw[zh9 m d hd,if_pos (by simpa using hb)]
theorem zqH (m d:Int) (hd:1≤d) (hb:decide (m % d=0)=false):upZ m d=m/d+1:=by rw[zh9 m d hd,if_neg (by simpa using hb)]
theorem zdE (x b:Int) (h1:-42535295865117307932921825928971026432≤x) (h2:x≤42535295865117307932921825928971026432) (hb0:0<b) (hb:b≤42535295865117307932921825928971026432) (w:World):Calls Tryz.prog 207 #[.agg #[.int .i64 (mkW x).h,.int .u64 (mkW x).l],.agg #[.int .i64 (mkW b).h,.int .u64 (mkW b).l]] w fun e w'=>e=.returned (.tuple #[.agg #[.int .i64 (mkW (zbl x b)).h,.int .u64 (mkW (zbl x b)).l],.agg #[.int .i64 (mkW (upZ x b)).h,.int .u64 (mkW (upZ x b)).l]])∧Grew w w':=by
 obtain ⟨M,hM,hM0⟩:∃ M:Int,(x=M∨x=-M)∧0≤M∧(x<0→x=-M)∧(0≤x→x=M):=by
  by_cases h:x<0
  ·exact ⟨-x,by omega,by omega,by omega,by omega⟩
  ·exact ⟨x,by omega,by omega,by omega,by omega⟩
 obtain ⟨hM0,hneg,hpos⟩:=hM0
 have hMR:M≤42535295865117307932921825928971026432:=by omega
 have hq:=zoB M b 0 hM0 hb0
 rw[Int.pow_zero,Int.ediv_one] at hq
 obtain ⟨q0,q1,r0,r1,r2⟩:=hq
 have HD:=Lib.hid (fun w=>zlq M b hM0 (by unfold R128;omega) hb0 hb w)
 have HS:=Lib.hid (fun w=>zjt (M % b) (by unfold R128;omega) w)
 have HP:=Lib.hid (fun w=>zcu (M/b) (by unfold R128;omega) (by unfold R128;omega) w)
 have HMx:=Lib.hid (fun (h:x=-M) w=>(show Calls Tryz.prog 165 #[.agg #[.int .i64 (mkW x).h,.int .u64 (mkW x).l]] w fun e w'=>e=.returned (.agg #[.int .i64 (mkW M).h,.int .u64 (mkW M).l])∧Grew w w' from by have:=zbX x (by unfold R128;omega) (by unfold R128;omega) w;rwa [show -x=M by omega] at this))
 have HMq:=Lib.hid (fun w=>zbX (M/b) (by unfold R128;omega) (by unfold R128;omega) w)
 have HMs:=Lib.hid (fun w=>zbX (M/b+1) (by unfold R128;omega) (by unfold R128;omega) w)
 have hxh:(mkW x).h=x/18446744073709551616:=rfl
 have Hup1:=Lib.hid (zuC M b (by omega))
 have Hup2:=Lib.hid (zqH M b (by omega))
 by_cases hs:x<0
 ·have hx:=hneg hs
  have hlt:decide ((mkW x).h<0)=true:=by rw[hxh];simp;omega
  have Hd:=Lib.hid (show zbl x b=-upZ M b by rw[hx];exact znA M b)
  have Hu:=Lib.hid (show upZ x b=-(M/b) by rw[hx];exact zsI M b)
  have HMx:=Lib.hid (HMx.out hx)
  clear hM hneg hpos hxh hx hs h1 h2 hb0 hb hM0 hMR q0 q1 r0 r1 r2
  rcases zaS (decide (M % b=0)) with hz|hz
  ·have Hz:=Lib.hid hz
   have Hn:=Lib.hid (Hup2.out hz)
   clear hz
   go_enter Tryz.func207,Tryz.ntmps207
   go_wp2_with (first|(go_at_call 165;(with_reducible refine zaa (HMx.out _) ?_);intro ux)|(go_at_call 218;(with_reducible refine zaa (HD.out _) ?_);intro ud)|(go_at_call 219;(with_reducible refine zaa (zaz Hz.out (HS.out _)) ?_);intro us)|(go_at_call 67;(with_reducible refine zaa (HP.out _) ?_);intro up))
   go_region_held3 (fun w'=>w'.cell? ⟨ud.world.heap.size,0,none⟩=some (.int .i64 (mkW (M/b)).h)∧w'.cell? ⟨ud.world.heap.size,1,none⟩=some (.int .u64 (mkW (M/b)).l)∧w'.cell? ⟨ud.world.heap.size+1+1,0,none⟩=some (.int .i64 (mkW (M/b+1)).h)∧w'.cell? ⟨ud.world.heap.size+1+1,1,none⟩=some (.int .u64 (mkW (M/b+1)).l)) (first|exact ⟨(by go_simp),(by go_simp),(by go_simp),(by go_simp)⟩) (first|(go_at_call 165;(with_reducible refine zaa (HMs.out _) ?_);intro u)|(go_at_call 165;(with_reducible refine zaa (HMq.out _) ?_);intro u))
   go_wp2
   refine bodyPost_ret (by (simp[results,Tryz.results207,go_sem]<;>rfl)) rfl ?_
   exact ⟨zhY (by rw[Hd.out,Hn.out]) (by rw[Hu.out]),gw⟩
  ·have Hz:=Lib.hid hz
   have Hn:=Lib.hid (Hup1.out hz)
   clear hz
   go_enter Tryz.func207,Tryz.ntmps207
   go_wp2_with (first|(go_at_call 165;(with_reducible refine zaa (HMx.out _) ?_);intro ux)|(go_at_call 218;(with_reducible refine zaa (HD.out _) ?_);intro ud)|(go_at_call 219;(with_reducible refine zaa (zaz Hz.out (HS.out _)) ?_);intro us)|(go_at_call 67;(with_reducible refine zaa (HP.out _) ?_);intro up))
   go_region_held3 (fun w'=>w'.cell? ⟨ud.world.heap.size,0,none⟩=some (.int .i64 (mkW (M/b)).h)∧w'.cell? ⟨ud.world.heap.size,1,none⟩=some (.int .u64 (mkW (M/b)).l)∧w'.cell? ⟨ud.world.heap.size+1+1,0,none⟩=some (.int .i64 (mkW (M/b)).h)∧w'.cell? ⟨ud.world.heap.size+1+1,1,none⟩=some (.int .u64 (mkW (M/b)).l)) (first|exact ⟨(by go_simp),(by go_simp),(by go_simp),(by go_simp)⟩) (first|(go_at_call 165;(with_reducible refine zaa (HMq.out _) ?_);intro u))
   go_wp2
   refine bodyPost_ret (by (simp[results,Tryz.results207,go_sem]<;>rfl)) rfl ?_
   exact ⟨zhY (by rw[Hd.out,Hn.out]) (by rw[Hu.out]),gw⟩
 ·have hx:=hpos (by omega)
  have hlt:decide ((mkW x).h<0)=false:=by rw[hxh];simp;omega
  rw[hx] at hlt ⊢
  clear hM hneg hpos hxh hx hs h1 h2 hb0 hb hM0 hMR q0 q1 r0 r1 r2 HMx
  rcases zaS (decide (M % b=0)) with hz|hz
  ·have Hz:=Lib.hid hz
   have Hn:=Lib.hid (Hup2.out hz)
   clear hz
   go_enter Tryz.func207,Tryz.ntmps207
   go_wp2_with (first|(go_at_call 218;(with_reducible refine zaa (HD.out _) ?_);intro ud)|(go_at_call 219;(with_reducible refine zaa (zaz Hz.out (HS.out _)) ?_);intro us)|(go_at_call 67;(with_reducible refine zaa (HP.out _) ?_);intro up)|go_region)
   all_goals
    refine bodyPost_ret (by (simp[results,Tryz.results207,go_sem]<;>rfl)) rfl ?_
    exact ⟨zhY rfl (by rw[Hn.out]),gw⟩
  ·have Hz:=Lib.hid hz
   have Hn:=Lib.hid (Hup1.out hz)
   clear hz
   go_enter Tryz.func207,Tryz.ntmps207
   go_wp2_with (first|(go_at_call 218;(with_reducible refine zaa (HD.out _) ?_);intro ud)|(go_at_call 219;(with_reducible refine zaa (zaz Hz.out (HS.out _)) ?_);intro us)|(go_at_call 67;(with_reducible refine zaa (HP.out _) ?_);intro up)|go_region)
   all_goals
    refine bodyPost_ret (by (simp[results,Tryz.results207,go_sem]<;>rfl)) rfl ?_
    exact ⟨zhY rfl (by rw[Hn.out]),gw⟩
theorem zpi (a b:Int) (ha:I64 a) (hb:I64 b) (h0:b≠0) (w:World):Calls Tryz.prog 186 #[.agg #[.int .i64 (mkW a).h,.int .u64 (mkW a).l],.agg #[.int .i64 (mkW b).h,.int .u64 (mkW b).l]] w fun e w'=>e=.returned (.tuple #[.agg #[.int .i64 (mkW (zbU a b)).h,.int .u64 (mkW (zbU a b)).l],.agg #[.int .i64 (mkW (zez a b)).h,.int .u64 (mkW (zez a b)).l]])∧Grew w w':=by
 have hbh:(mkW b).h=b/18446744073709551616:=rfl
 have Ha:=ha
 have Hb:=hb
 unfold I64 at ha hb
 have HMa:=Lib.hid (fun w=>zbX a (zjh Ha) (zlR Ha) w)
 have HMb:=Lib.hid (fun w=>zbX b (zjh Hb) (zlR Hb) w)
 by_cases hs:b<0
 ·have hlt:decide ((mkW b).h<0)=true:=by rw[hbh];simp;omega
  have HU:=Lib.hid (fun w=>zfu (-a) (by omega) w)
  have HQ:=Lib.hid (fun w=>zdE (-a*4294967296) (-b) (by omega) (by omega) (by omega) (by omega) w)
  have Hr1:=Lib.hid (show zbl (-a*4294967296) (-b)=zbU a b by unfold zbU;rw[if_pos hs])
  have Hr2:=Lib.hid (show upZ (-a*4294967296) (-b)=zez a b by unfold zez;rw[if_pos hs])
  clear ha hb Ha Hb h0 hs hbh
  go_enter Tryz.func186,Tryz.ntmps186
  go_wp2_with (first|(go_at_call 165;(with_reducible refine zaa (HMa.out _) ?_);intro u)|(go_at_call 165;(with_reducible refine zaa (HMb.out _) ?_);intro u))
  refine zaJ 6 [] [1,3] [] (fun W0=>[]) [.agg #[.int .i64 ((mkW (-a*4294967296))).h,.int .u64 ((mkW (-a*4294967296))).l],.tuple #[.agg #[.int .i64 ((mkW (zbl (-a*4294967296) (-b)))).h,.int .u64 ((mkW (zbl (-a*4294967296) (-b)))).l],.agg #[.int .i64 ((mkW (upZ (-a*4294967296) (-b)))).h,.int .u64 ((mkW (upZ (-a*4294967296) (-b)))).l]]] [6,7] (by rfl) (fun _ x hx=>absurd hx (List.not_mem_nil)) (by kernel_rfl) (by kernel_rfl) (by kernel_rfl) ?_
  intro p
  apply Exists.intro
  apply And.intro
  apply zaA (by kernel_rfl)
  ·intro u;unfold zai;go_simp;rfl
  apply zaw 0 (by kernel_rfl) (by rfl) (by decide)
  ·intro u hF;clear hF;unfold zah;go_simp;exact HU.out _
  apply zaA (by kernel_rfl)
  ·intro u;unfold zai;go_simp;rfl
  apply zaw 1 (by kernel_rfl) (by rfl) (by decide)
  ·intro u hF;clear hF;unfold zah;go_simp;exact HQ.out _
  iterate 2 (apply zaA (by kernel_rfl);(· intro u;unfold zai;go_simp;rfl))
  apply zbG
  rotate_left
  ·rfl
  intro u hR hD
  clear hR hD
  refine zag (by rfl) ?_;unfold zap;go_simp
  refine zag (by rfl) ?_;unfold zap;go_simp
  refine zao ?_
  go_wp2
  refine bodyPost_ret (by (simp[results,Tryz.results186,go_sem]<;>rfl)) rfl ?_
  exact ⟨zhY (by rw[←Hr1.out]) (by rw[←Hr2.out]),gw⟩
 ·have hlt:decide ((mkW b).h<0)=false:=by rw[hbh];simp;omega
  have HU:=Lib.hid (fun w=>zfu a (by omega) w)
  have HQ:=Lib.hid (fun w=>zdE (a*4294967296) b (by omega) (by omega) (by omega) (by omega) w)
  have Hr1:=Lib.hid (show zbl (a*4294967296) b=zbU a b by unfold zbU;rw[if_neg hs])
  have Hr2:=Lib.hid (show upZ (a*4294967296) b=zez a b by unfold zez;rw[if_neg hs])
  clear ha hb Ha Hb h0 hs hbh
  go_enter Tryz.func186,Tryz.ntmps186
  go_wp2
  refine zaJ 6 [] [1,3] [] (fun W0=>[]) [.agg #[.int .i64 ((mkW (a*4294967296))).h,.int .u64 ((mkW (a*4294967296))).l],.tuple #[.agg #[.int .i64 ((mkW (zbl (a*4294967296) b))).h,.int .u64 ((mkW (zbl (a*4294967296) b))).l],.agg #[.int .i64 ((mkW (upZ (a*4294967296) b))).h,.int .u64 ((mkW (upZ (a*4294967296) b))).l]]] [6,7] (by rfl) (fun _ x hx=>absurd hx (List.not_mem_nil)) (by kernel_rfl) (by kernel_rfl) (by kernel_rfl) ?_
  intro p
  apply Exists.intro
  apply And.intro
  apply zaA (by kernel_rfl)
  ·intro u;unfold zai;go_simp;rfl
  apply zaw 0 (by kernel_rfl) (by rfl) (by decide)
  ·intro u hF;clear hF;unfold zah;go_simp;exact HU.out _
  apply zaA (by kernel_rfl)
  ·intro u;unfold zai;go_simp;rfl
  apply zaw 1 (by kernel_rfl) (by rfl) (by decide)
  ·intro u hF;clear hF;unfold zah;go_simp;exact HQ.out _
  iterate 2 (apply zaA (by kernel_rfl);(· intro u;unfold zai;go_simp;rfl))
  apply zbG
  rotate_left
  ·rfl
  intro u hR hD
  clear hR hD
  refine zag (by rfl) ?_;unfold zap;go_simp
  refine zag (by rfl) ?_;unfold zap;go_simp
  refine zao ?_
  go_wp2
  refine bodyPost_ret (by (simp[results,Tryz.results186,go_sem]<;>rfl)) rfl ?_
  exact ⟨zhY (by rw[←Hr1.out]) (by rw[←Hr2.out]),gw⟩
end Go.Proofs.YtdkfkalplmgoeaaGreat
namespace Go.Proofs.YtdkfkalplmgoeaaGreat
open Go.RowKit
set_option maxRecDepth 100000
set_option maxHeartbeats 4000000
def zed (a b:Sp) (k:Nat):Int:=zbU ((za9 a b)[k]?.getD (0,0)).1 ((za9 a b)[k]?.getD (0,0)).2
def zee (a b:Sp) (k:Nat):Int:=zez ((za9 a b)[k]?.getD (0,0)).1 ((za9 a b)[k]?.getD (0,0)).2
theorem zmh {a b:Sp} (h1:b.lo≠0) (h2:b.hi≠0) (k:Nat) (hk:k<4):((za9 a b)[k]?.getD (0,0)).2≠0:=by
 match k,hk with
 |0,_=>exact h1
 |1,_=>exact h2
 |2,_=>exact h1
 |3,_=>exact h2
theorem zk4 (a b:Sp) [ha:S64 a] [hb:S64 b] (k:Nat):(-39614081257132168796771975168≤zed a b k∧zed a b k≤39614081257132168796771975168)∧(-39614081257132168796771975168≤zee a b k∧zee a b k≤39614081257132168796771975168):=by
 have h:=zd1 a b k
 by_cases h0:((za9 a b)[k]?.getD (0,0)).2=0
 ·unfold zed zee
  rw[h0]
  unfold zbU zez zbl upZ
  simp
 ·exact zum _ _ h.1 h0
theorem zfK {x:Int} (h:-39614081257132168796771975168≤x∧x≤39614081257132168796771975168):R128 x:=by unfold R128;omega
theorem zpF {a b:Sp} (hk:(a.okB&&b.okB)=true) (hz:(decide (b.lo≤0)&&decide (0≤b.hi))=false):divR a b=fitR (loK (zed a b) 4) (hiK (zee a b) 4):=by
 unfold divR
 rw[hk,hz,ztQ,ztG]
 rfl
theorem zqf (a b:Sp) [ha:S64 a] [hb:S64 b] (w:World):Calls Tryz.prog 145 #[.agg #[.int .i64 a.lo,.int .i64 a.hi],.agg #[.int .i64 b.lo,.int .i64 b.hi]] w fun e w'=>e=.returned (.tuple #[.agg #[.int .i64 (divR a b).s.lo,.int .i64 (divR a b).s.hi],.int .i64 (divR a b).e])∧Grew w w':=by
 cases hk:(a.okB&&b.okB)
 ·have Hf:=Lib.hid (show errR 2=divR a b by unfold divR;rw[hk];rfl)
  go_enter Tryz.func145,Tryz.ntmps145
  go_wp2_with (first|(go_at_call 65;(with_reducible refine zaa (zeR a b hk _) ?_);intro u)|((with_reducible refine zab ?_ ?_ ?_);(· kernel_rfl);(· kernel_rfl);(try simp only[List.append_eq,List.cons_append,List.nil_append]);(repeat (go_big_quiet_step ((first|(go_at_call 65;(with_reducible exact zac (zeR a b hk _)))))));refine wpQuiet_nil ?_;rintro _ ⟨u,rfl⟩))
  refine bodyPost_ret (by (simp[results,Tryz.results145,go_sem]<;>rfl)) rfl ?_
  exact ⟨za1 Hf.out rfl,gw⟩
 ·by_cases hz:b.lo≤0∧0≤b.hi
  ·have Hf:=Lib.hid (show errR 10=divR a b by unfold divR;rw[hk,show (decide (b.lo≤0)&&decide (0≤b.hi))=true by simp[hz]];rfl)
   obtain ⟨hz1,hz2⟩:=hz
   go_enter Tryz.func145,Tryz.ntmps145
   go_wp2_with (first|(go_at_call 65;(with_reducible refine zaa (zc6 a b hk _) ?_);intro u)|((with_reducible refine zab ?_ ?_ ?_);(· kernel_rfl);(· kernel_rfl);(try simp only[List.append_eq,List.cons_append,List.nil_append]);(repeat (go_big_quiet_step ((first|(go_at_call 65;(with_reducible exact zac (zc6 a b hk _)))))));refine wpQuiet_nil ?_;rintro _ ⟨u,rfl⟩))
   refine bodyPost_ret (by (simp[results,Tryz.results145,go_sem]<;>rfl)) rfl ?_
   exact ⟨za1 Hf.out rfl,gw⟩
  ·have hlo:=(zdd (Bool.and_eq_true_iff.1 hk).2).2.2
   have hb1:b.lo≠0:=by omega
   have hb2:b.hi≠0:=by omega
   have hz':(decide (b.lo≤0)&&decide (0≤b.hi))=false:=by
    by_cases h1:b.lo≤0<;>simp[h1] ;omega
   have hzz:decide (b.lo≤0)=false∨(decide (b.lo≤0)=true∧decide (0≤b.hi)=false):=by
    by_cases h1:b.lo≤0<;>simp[h1] ;omega
   have Hf:=Lib.hid (zpF hk hz').symm
   have Hle:=Lib.hid (fun k=>zk4 a b k)
   have Hlo:=Lib.hid (fun k=>zn8 (zed a b) 39614081257132168796771975168 (by omega) (fun k=>(zk4 a b k).1) k)
   have Hhi:=Lib.hid (fun k=>znP (zee a b) 39614081257132168796771975168 (by omega) (fun k=>(zk4 a b k).2) k)
   have Hne:=Lib.hid (zmh (a:=a) hb1 hb2)
   clear hlo hb1 hb2 hz hz'
   rcases hzz with hz1|⟨hz1,hz2⟩
   all_goals
    go_enter Tryz.func145,Tryz.ntmps145
    go_wp2_with (first|(go_at_call 65;(with_reducible refine zaa (zc6 a b hk _) ?_);intro u)|((with_reducible refine zab ?_ ?_ ?_);(· kernel_rfl);(· kernel_rfl);(try simp only[List.append_eq,List.cons_append,List.nil_append]);(repeat (go_big_quiet_step ((first|(go_at_call 65;(with_reducible exact zac (zc6 a b hk _)))))));refine wpQuiet_nil ?_;rintro _ ⟨u,rfl⟩))
    go_wp2_with fail
    refine (zg9 a b _).mono ?_
    rintro e w' ⟨b1,rfl,hb1,hL,hg⟩
    simp only[World.size_alloc] at hb1
    obtain ⟨u2,rfl⟩:=zal hg
    clear hg
    have HL:=Lib.hid hL
    clear hL
    have ap1:Apart b1 u.world.heap.size:=⟨by omega⟩
    have ap2:Apart b1 (u.world.heap.size+1):=⟨by omega⟩
    have nu:w.heap.size+1+1+1≤u.world.heap.size:=by have:=u.grew.size;simpa using this
    have:Apart (w.heap.size+1+1) (u.world.heap.size):=⟨by omega⟩
    have:Apart (w.heap.size+1+1) (u.world.heap.size+1):=⟨by omega⟩
    have:Apart (u.world.heap.size) (w.heap.size+1+1):=⟨by omega⟩
    have:Apart (u.world.heap.size+1) (w.heap.size+1+1):=⟨by omega⟩
    have nw6:NewFor w u.world.heap.size:=⟨by have:=u.grew.size;simp at this;omega⟩
    have nw7:NewFor w (u.world.heap.size+1):=⟨by have:=u.grew.size;simp at this;omega⟩
    clear hb1
    go_wp2
    go_loopw [9] (fun t wr=>∃ k:Nat,t=.int .i64 k∧k≤4∧Grew w wr∧zav wr (w.heap.size+1+1) [.int .i64 0,.int .i64 0]∧zav wr u.world.heap.size [.int .i64 (mkW (loK (zed a b) k)).h,.int .u64 (mkW (loK (zed a b) k)).l]∧zav wr (u.world.heap.size+1) [.int .i64 (mkW (hiK (zee a b) k)).h,.int .u64 (mkW (hiK (zee a b) k)).l]∧LAt wr b1 a b) (fun t _=>4-(intOf t).toNat)
    case atStart=>exact ⟨0,rfl,by omega,gw,bxt,zdM (by go_simp;rfl) (by go_simp) (by go_simp;rfl) (by go_simp),zdM (by go_simp;rfl) (by go_simp) (by go_simp;rfl) (by go_simp),HL.out⟩
    case round=>
     obtain ⟨k,rfl,hk,hg,hC,hA,hB,hL⟩:=hrel
     obtain ⟨z,rfl⟩:=zal hg
     clear hg
     by_cases hlt:k<4
     ·obtain ⟨hc1,hc2⟩:=hL.elem k hlt
      have ib:BlockIn z.world b1:=BlockIn.of_cell hc1
      have HL:=Lib.hid hL
      clear hL
      have hC_0:=(hC 0 _ rfl).1
      have hCf0:=(hC 0 _ rfl).2
      have hCi0:HasCell (z.world) (w.heap.size+1+1) 0:=⟨_,hC_0⟩
      have hC_1:=(hC 1 _ rfl).1
      have hCf1:=(hC 1 _ rfl).2
      have hCi1:HasCell (z.world) (w.heap.size+1+1) 1:=⟨_,hC_1⟩
      have hCb:BlockIn (z.world) (w.heap.size+1+1):=BlockIn.of_cell hC_0
      clear hC
      have hA_0:=(hA 0 _ rfl).1
      have hAf0:=(hA 0 _ rfl).2
      have hAi0:HasCell (z.world) (u.world.heap.size) 0:=⟨_,hA_0⟩
      have hA_1:=(hA 1 _ rfl).1
      have hAf1:=(hA 1 _ rfl).2
      have hAi1:HasCell (z.world) (u.world.heap.size) 1:=⟨_,hA_1⟩
      have hAb:BlockIn (z.world) (u.world.heap.size):=BlockIn.of_cell hA_0
      clear hA
      have hB_0:=(hB 0 _ rfl).1
      have hBf0:=(hB 0 _ rfl).2
      have hBi0:HasCell (z.world) (u.world.heap.size+1) 0:=⟨_,hB_0⟩
      have hB_1:=(hB 1 _ rfl).1
      have hBf1:=(hB 1 _ rfl).2
      have hBi1:HasCell (z.world) (u.world.heap.size+1) 1:=⟨_,hB_1⟩
      have hBb:BlockIn (z.world) (u.world.heap.size+1):=BlockIn.of_cell hB_0
      clear hB
      obtain ⟨hi1,hi2⟩:=zd1 a b k
      have hT1:=fun w=>zc8 _ hi1 w
      have hT2:=fun w=>zc8 _ hi2 w
      have hT:=fun w=>zpi _ _ hi1 hi2 (Hne.out k hlt) w
      rw[show zbU ((za9 a b)[k]?.getD (0,0)).1 ((za9 a b)[k]?.getD (0,0)).2=zed a b k from rfl,show zez ((za9 a b)[k]?.getD (0,0)).1 ((za9 a b)[k]?.getD (0,0)).2=zee a b k from rfl] at hT
      have HT:=Lib.hid hT
      have HT1:=Lib.hid hT1
      have HT2:=Lib.hid hT2
      clear hi1 hi2 hT hT1 hT2
      generalize ((za9 a b)[k]?.getD (0,0)).1=x at *
      generalize ((za9 a b)[k]?.getD (0,0)).2=y at *
      have Hpr:=Lib.hid (zfK (Hle.out k).1)
      have Hqr:=Lib.hid (zfK (Hle.out k).2)
      have Hlr:=Lib.hid (zfK (Hlo.out k))
      have Hhr:=Lib.hid (zfK (Hhi.out k))
      have hsz:=hBb.lt
      rcases zaS ((k:Int)==0) with k0|k0
      ·have hk0:k≠0:=by simpa using k0
       have Hs1:=Lib.hid (zlL (zed a b) k hk0)
       have Hs2:=Lib.hid (zlG (zee a b) k hk0)
       clear hk0
       rcases zaS (decide (zed a b k<loK (zed a b) k)) with c1|c1<;>rcases zaS (decide (hiK (zee a b) k<zee a b k)) with c2|c2
       all_goals
        have C1:=Lib.hid c1
        have C2:=Lib.hid c2
        clear c1 c2
        have HL1:=Lib.hid (fun w=>zaz C1.out (zaQ (zed a b k) (loK (zed a b) k) Hpr.out Hlr.out w))
        have HL2:=Lib.hid (fun w=>zaz C2.out (zaQ (hiK (zee a b) k) (zee a b k) Hhr.out Hqr.out w))
        have Hs1':=Lib.hid (show loK (zed a b) (k+1)=_ from Hs1.out)
        have Hs2':=Lib.hid (show hiK (zee a b) (k+1)=_ from Hs2.out)
        rw[C1.out] at Hs1'
        rw[C2.out] at Hs2'
        clear Hs1 Hs2
        go_wp2
        refine zaJ 18 [16,17] [5,11,12] [15] (fun W0=>[(16,BoxR W0 [.int .i64 0,.int .u64 0]),(17,BoxR W0 [.int .i64 0,.int .u64 0])]) [.agg #[.int .i64 ((mkW x)).h,.int .u64 ((mkW x)).l],.agg #[.int .i64 ((mkW y)).h,.int .u64 ((mkW y)).l],.tuple #[.agg #[.int .i64 ((mkW (zed a b k))).h,.int .u64 ((mkW (zed a b k))).l],.agg #[.int .i64 ((mkW (zee a b k))).h,.int .u64 ((mkW (zee a b k))).l]]] [18,19] (by rfl) (by intro W0 x hx;simp only[List.mem_cons,List.not_mem_nil,or_false] at hx;rcases hx with rfl|rfl<;>first|exact zcw _ _|exact zcw _ _) (by kernel_rfl) (by kernel_rfl) (by kernel_rfl) ?_
        intro p
        apply Exists.intro
        apply And.intro
        iterate 5 (apply zaA (by kernel_rfl);(· intro u;unfold zai;go_simp;rfl))
        apply zaw 0 (by kernel_rfl) (by rfl) (by decide)
        ·intro u hF;clear hF;unfold zah;go_simp;exact HT1.out _
        iterate 5 (apply zaA (by kernel_rfl);(· intro u;unfold zai;go_simp;rfl))
        apply zaw 1 (by kernel_rfl) (by rfl) (by decide)
        ·intro u hF;clear hF;unfold zah;go_simp;exact HT2.out _
        apply zaw 2 (by kernel_rfl) (by rfl) (by decide)
        ·intro u hF;clear hF;unfold zah;go_simp;exact HT.out _
        iterate 2 (apply zaA (by kernel_rfl);(· intro u;unfold zai;go_simp;rfl))
        apply zgf (by kernel_rfl)
        ·intro u;unfold zai;go_simp;rfl
        apply zbT (by kernel_rfl)
        ·intro u hF;clear hF;unfold za5;go_simp;exact zcy _ _ _ _
        apply zbT (by kernel_rfl)
        ·intro u hF;clear hF;unfold za5;go_simp;exact zcy _ _ _ _
        apply zbG
        rotate_left
        ·rfl
        intro u hR hD
        obtain ⟨q16,e16,hB16,kB16,nB16⟩:=(show BoxR _ [.int .i64 0,.int .u64 0] (p 16) u.world from hR 16 (by decide))
        obtain ⟨q17,e17,hB17,kB17,nB17⟩:=(show BoxR _ [.int .i64 0,.int .u64 0] (p 17) u.world from hR 17 (by decide))
        have hd17:=hD 16 17 (by decide) (by decide) (by decide)
        rw[e16,e17] at hd17
        obtain ⟨ap16_17,ap17_16⟩:=zc3 hd17
        clear hd17
        clear hR hD
        rw[e16]
        clear e16
        have oB16:=zaG nB16
        have oC16:=zaH nB16
        have nC16:NewFor z.world q16:=⟨Nat.le_trans (Grew.size gw) nB16.le⟩
        have hB16_0:=(hB16 0 _ rfl).1
        have hB16f0:=(hB16 0 _ rfl).2
        have hB16i0:HasCell (u.world) (q16) 0:=⟨_,hB16_0⟩
        have hB16_1:=(hB16 1 _ rfl).1
        have hB16f1:=(hB16 1 _ rfl).2
        have hB16i1:HasCell (u.world) (q16) 1:=⟨_,hB16_1⟩
        have hB16b:BlockIn (u.world) (q16):=BlockIn.of_cell hB16_0
        clear hB16
        rw[e17]
        clear e17
        have oB17:=zaG nB17
        have oC17:=zaH nB17
        have nC17:NewFor z.world q17:=⟨Nat.le_trans (Grew.size gw) nB17.le⟩
        have hB17_0:=(hB17 0 _ rfl).1
        have hB17f0:=(hB17 0 _ rfl).2
        have hB17i0:HasCell (u.world) (q17) 0:=⟨_,hB17_0⟩
        have hB17_1:=(hB17 1 _ rfl).1
        have hB17f1:=(hB17 1 _ rfl).2
        have hB17i1:HasCell (u.world) (q17) 1:=⟨_,hB17_1⟩
        have hB17b:BlockIn (u.world) (q17):=BlockIn.of_cell hB17_0
        clear hB17
        refine zag (by rfl) ?_;unfold zap;go_simp
        refine zag (by rfl) ?_;unfold zap;go_simp
        refine zao ?_
        have nw16:NewFor w q16:=⟨Nat.le_trans (Grew.size z.grew) nC16.le⟩
        have nw17:NewFor w q17:=⟨Nat.le_trans (Grew.size z.grew) nC17.le⟩
        go_wp2_with (first|(go_at_call 125;(with_reducible refine zaa (HL1.out _) ?_);intro u)|(go_at_call 125;(with_reducible refine zaa (HL2.out _) ?_);intro u)|((with_reducible refine zab ?_ ?_ ?_);(· kernel_rfl);(· kernel_rfl);(try simp only[List.append_eq,List.cons_append,List.nil_append]);(repeat (go_big_quiet_step ((first|(go_at_call 125;(with_reducible exact zac (HL1.out _)))|(go_at_call 125;(with_reducible exact zac (HL2.out _)))))));refine wpQuiet_nil ?_;rintro _ ⟨u,rfl⟩))
        go_roundw
        case rel=>
         refine ⟨k+1,by go_num,by omega,gw,bxt,?_,?_,fun i x hx=>by have h1:=HL.out i x hx;go_simp⟩
         ·rw[Hs1'.out]
          exact bxt
         ·rw[Hs2'.out]
          exact bxt
        case measure=>simp[intOf];omega
      ·have hk0:k=0:=by simpa using k0
       have Hs1:=Lib.hid (show loK (zed a b) (k+1)=zed a b k by rw[hk0];rfl)
       have Hs2:=Lib.hid (show hiK (zee a b) (k+1)=zee a b k by rw[hk0];rfl)
       clear hk0
       go_wp2
       refine zaJ 18 [16,17] [5,11,12] [15] (fun W0=>[(16,BoxR W0 [.int .i64 0,.int .u64 0]),(17,BoxR W0 [.int .i64 0,.int .u64 0])]) [.agg #[.int .i64 ((mkW x)).h,.int .u64 ((mkW x)).l],.agg #[.int .i64 ((mkW y)).h,.int .u64 ((mkW y)).l],.tuple #[.agg #[.int .i64 ((mkW (zed a b k))).h,.int .u64 ((mkW (zed a b k))).l],.agg #[.int .i64 ((mkW (zee a b k))).h,.int .u64 ((mkW (zee a b k))).l]]] [18,19] (by rfl) (by intro W0 x hx;simp only[List.mem_cons,List.not_mem_nil,or_false] at hx;rcases hx with rfl|rfl<;>first|exact zcw _ _|exact zcw _ _) (by kernel_rfl) (by kernel_rfl) (by kernel_rfl) ?_
       intro p
       apply Exists.intro
       apply And.intro
       iterate 5 (apply zaA (by kernel_rfl);(· intro u;unfold zai;go_simp;rfl))
       apply zaw 0 (by kernel_rfl) (by rfl) (by decide)
       ·intro u hF;clear hF;unfold zah;go_simp;exact HT1.out _
       iterate 5 (apply zaA (by kernel_rfl);(· intro u;unfold zai;go_simp;rfl))
       apply zaw 1 (by kernel_rfl) (by rfl) (by decide)
       ·intro u hF;clear hF;unfold zah;go_simp;exact HT2.out _
       apply zaw 2 (by kernel_rfl) (by rfl) (by decide)
       ·intro u hF;clear hF;unfold zah;go_simp;exact HT.out _
       iterate 2 (apply zaA (by kernel_rfl);(· intro u;unfold zai;go_simp;rfl))
       apply zgf (by kernel_rfl)
       ·intro u;unfold zai;go_simp;rfl
       apply zbT (by kernel_rfl)
       ·intro u hF;clear hF;unfold za5;go_simp;exact zcy _ _ _ _
       apply zbT (by kernel_rfl)
       ·intro u hF;clear hF;unfold za5;go_simp;exact zcy _ _ _ _
       apply zbG
       rotate_left
       ·rfl
       intro u hR hD
       obtain ⟨q16,e16,hB16,kB16,nB16⟩:=(show BoxR _ [.int .i64 0,.int .u64 0] (p 16) u.world from hR 16 (by decide))
       obtain ⟨q17,e17,hB17,kB17,nB17⟩:=(show BoxR _ [.int .i64 0,.int .u64 0] (p 17) u.world from hR 17 (by decide))
       have hd17:=hD 16 17 (by decide) (by decide) (by decide)
       rw[e16,e17] at hd17
       obtain ⟨ap16_17,ap17_16⟩:=zc3 hd17
       clear hd17
       clear hR hD
       rw[e16]
       clear e16
       have oB16:=zaG nB16
       have oC16:=zaH nB16
       have nC16:NewFor z.world q16:=⟨Nat.le_trans (Grew.size gw) nB16.le⟩
       have hB16_0:=(hB16 0 _ rfl).1
       have hB16f0:=(hB16 0 _ rfl).2
       have hB16i0:HasCell (u.world) (q16) 0:=⟨_,hB16_0⟩
       have hB16_1:=(hB16 1 _ rfl).1
       have hB16f1:=(hB16 1 _ rfl).2
       have hB16i1:HasCell (u.world) (q16) 1:=⟨_,hB16_1⟩
       have hB16b:BlockIn (u.world) (q16):=BlockIn.of_cell hB16_0
       clear hB16
       rw[e17]
       clear e17
       have oB17:=zaG nB17
       have oC17:=zaH nB17
       have nC17:NewFor z.world q17:=⟨Nat.le_trans (Grew.size gw) nB17.le⟩
       have hB17_0:=(hB17 0 _ rfl).1
       have hB17f0:=(hB17 0 _ rfl).2
       have hB17i0:HasCell (u.world) (q17) 0:=⟨_,hB17_0⟩
       have hB17_1:=(hB17 1 _ rfl).1
       have hB17f1:=(hB17 1 _ rfl).2
       have hB17i1:HasCell (u.world) (q17) 1:=⟨_,hB17_1⟩
       have hB17b:BlockIn (u.world) (q17):=BlockIn.of_cell hB17_0
       clear hB17
       refine zag (by rfl) ?_;unfold zap;go_simp
       refine zag (by rfl) ?_;unfold zap;go_simp
       refine zao ?_
       have nw16:NewFor w q16:=⟨Nat.le_trans (Grew.size z.grew) nC16.le⟩
       have nw17:NewFor w q17:=⟨Nat.le_trans (Grew.size z.grew) nC17.le⟩
       go_wp2
       go_roundw
       case rel=>
        refine ⟨k+1,by go_num,by omega,gw,bxt,?_,?_,fun i x hx=>by have h1:=HL.out i x hx;go_simp⟩
        ·rw[Hs1.out]
         exact bxt
        ·rw[Hs2.out]
         exact bxt
       case measure=>simp[intOf];omega
     ·obtain rfl:k=4:=by omega
      rw[show ((4:Nat):Int)=4 from rfl]
      clear hL HL
      have hC_0:=(hC 0 _ rfl).1
      have hCf0:=(hC 0 _ rfl).2
      have hCi0:HasCell (z.world) (w.heap.size+1+1) 0:=⟨_,hC_0⟩
      have hC_1:=(hC 1 _ rfl).1
      have hCf1:=(hC 1 _ rfl).2
      have hCi1:HasCell (z.world) (w.heap.size+1+1) 1:=⟨_,hC_1⟩
      have hCb:BlockIn (z.world) (w.heap.size+1+1):=BlockIn.of_cell hC_0
      clear hC
      have hA_0:=(hA 0 _ rfl).1
      have hAf0:=(hA 0 _ rfl).2
      have hAi0:HasCell (z.world) (u.world.heap.size) 0:=⟨_,hA_0⟩
      have hA_1:=(hA 1 _ rfl).1
      have hAf1:=(hA 1 _ rfl).2
      have hAi1:HasCell (z.world) (u.world.heap.size) 1:=⟨_,hA_1⟩
      have hAb:BlockIn (z.world) (u.world.heap.size):=BlockIn.of_cell hA_0
      clear hA
      have hB_0:=(hB 0 _ rfl).1
      have hBf0:=(hB 0 _ rfl).2
      have hBi0:HasCell (z.world) (u.world.heap.size+1) 0:=⟨_,hB_0⟩
      have hB_1:=(hB 1 _ rfl).1
      have hBf1:=(hB 1 _ rfl).2
      have hBi1:HasCell (z.world) (u.world.heap.size+1) 1:=⟨_,hB_1⟩
      have hBb:BlockIn (z.world) (u.world.heap.size+1):=BlockIn.of_cell hB_0
      clear hB
      have h1:=Hlo.out 4
      have h2:=Hhi.out 4
      have H1:=Lib.hid h1
      have H2:=Lib.hid h2
      clear h1 h2 Hlo Hhi Hle
      generalize loK (zed a b) 4=x at *
      generalize hiK (zee a b) 4=y at *
      have HO:=Lib.hid (fun w=>zeT x y (zfK H1.out) (zfK H2.out) w)
      go_wp2_with (first|(go_at_call 66;(with_reducible refine zaa (HO.out _) ?_);intro u))
      refine bodyPost_ret (by (simp[results,Tryz.results145,go_sem]<;>rfl)) rfl ?_
      exact ⟨zbb (by rw[←Hf.out]),gw⟩
end Go.Proofs.YtdkfkalplmgoeaaGreat
namespace Go.Proofs.YtdkfkalplmgoeaaGreat
open Go.RowKit Go.Shelf
set_option maxRecDepth 100000
set_option maxHeartbeats 2000000
theorem zmQ (a:Sp) (n:Int) [ha:S64 a] [hn:N64 n] (w:World):Calls Tryz.prog 167 #[.agg #[.int .i64 a.lo,.int .i64 a.hi],.int .i64 n] w fun e w'=>e=.returned (.tuple #[.agg #[.int .i64 (zbP a n).s.lo,.int .i64 (zbP a n).s.hi],.int .i64 (zbP a n).e])∧Grew w w':=by
 cases hk:a.okB
 ·have Hf:=Lib.hid (show errR 2=zbP a n by unfold zbP;rw[hk];rfl)
  go_enter Tryz.func167,Tryz.ntmps167
  go_wp2_with (first|(go_at_call 87;(with_reducible refine zaa (zcH a hk _) ?_);intro u))
  refine bodyPost_ret (by (simp[results,Tryz.results167,go_sem]<;>rfl)) rfl ?_
  exact ⟨za1 Hf.out rfl,gw⟩
 ·have hf:zbP a n=fitR (imin (a.lo*n) (a.hi*n)) (imax (a.lo*n) (a.hi*n)):=by unfold zbP;rw[hk];rfl
  have HT1:=Lib.hid (fun w=>zcz a.lo n ha.lo hn.is w)
  have HT2:=Lib.hid (fun w=>zcz a.hi n ha.hi hn.is w)
  have Hr1:=Lib.hid (zdU (zkZ ha.lo hn.is))
  have Hr2:=Lib.hid (zdU (zkZ ha.hi hn.is))
  generalize a.lo*n=x at *
  generalize a.hi*n=y at *
  rcases zaS (decide (y<x)) with hc|hc
  ·have Hf:=Lib.hid (show fitR x y=zbP a n by rw[hf];simp at hc;unfold imin imax;rw[if_neg (by omega)];split<;>first|rfl|(congr 1;omega))
   have Hc:=Lib.hid hc
   have HL:=Lib.hid (fun w=>zaz Hc.out (zaQ y x Hr2.out Hr1.out w))
   have HO:=Lib.hid (fun w=>zeT x y Hr1.out Hr2.out w)
   clear hc hf
   go_enter Tryz.func167,Tryz.ntmps167
   go_wp2_with (first|(go_at_call 87;(with_reducible refine zaa (zbn a hk _) ?_);intro u)|(go_at_call 163;(with_reducible refine zaa (HT1.out _) ?_);intro u)|(go_at_call 163;(with_reducible refine zaa (HT2.out _) ?_);intro u)|(go_at_call 125;(with_reducible refine zaa (HL.out _) ?_);intro u)|(go_at_call 66;(with_reducible refine zaa (HO.out _) ?_);intro u))
   refine bodyPost_ret (by (simp[results,Tryz.results167,go_sem]<;>rfl)) rfl ?_
   exact ⟨zbb (by rw[←Hf.out]),gw⟩
  ·have Hf:=Lib.hid (show fitR y x=zbP a n by rw[hf];simp at hc;unfold imin imax;rw[if_pos (by omega)];split<;>first|rfl|(congr 1;omega))
   have Hc:=Lib.hid hc
   have HL:=Lib.hid (fun w=>zaz Hc.out (zaQ y x Hr2.out Hr1.out w))
   have HO:=Lib.hid (fun w=>zeT y x Hr2.out Hr1.out w)
   clear hc hf
   go_enter Tryz.func167,Tryz.ntmps167
   go_wp2_with (first|(go_at_call 87;(with_reducible refine zaa (zbn a hk _) ?_);intro u)|(go_at_call 163;(with_reducible refine zaa (HT1.out _) ?_);intro u)|(go_at_call 163;(with_reducible refine zaa (HT2.out _) ?_);intro u)|(go_at_call 125;(with_reducible refine zaa (HL.out _) ?_);intro u)|(go_at_call 66;(with_reducible refine zaa (HO.out _) ?_);intro u))
   refine bodyPost_ret (by (simp[results,Tryz.results167,go_sem]<;>rfl)) rfl ?_
   exact ⟨zbb (by rw[←Hf.out]),gw⟩
theorem zoH (a b:Sp) (w:World):Calls Tryz.prog 41 #[.agg #[.int .i64 a.lo,.int .i64 a.hi],.agg #[.int .i64 b.lo,.int .i64 b.hi]] w fun e w'=>e=.returned (.tuple #[.agg #[.int .i64 (zbh a b).s.lo,.int .i64 (zbh a b).s.hi],.int .i64 (zbh a b).e])∧Grew w w':=by
 cases hk:(a.okB&&b.okB)
 ·have Hf:=Lib.hid (show errR 2=zbh a b by unfold zbh;rw[hk];rfl)
  go_enter Tryz.func41,Tryz.ntmps41
  go_wp2_with (first|(go_at_call 65;(with_reducible refine zaa (zeR a b hk _) ?_);intro u))
  refine bodyPost_ret (by (simp[results,Tryz.results41,go_sem]<;>rfl)) rfl ?_
  exact ⟨za1 Hf.out rfl,gw⟩
 ·have Hf:=Lib.hid (show (⟨zfW a b,0⟩:Res)=zbh a b by unfold zbh;rw[hk];rfl)
  go_enter Tryz.func41,Tryz.ntmps41
  go_wp2_with (first|(go_at_call 65;(with_reducible refine zaa (zc6 a b hk _) ?_);intro u))
  all_goals
   refine bodyPost_ret (by (simp[results,Tryz.results41,go_sem]<;>rfl)) rfl ?_
   exact ⟨zbb (by rw[←Hf.out];unfold zfW imin imax;(try simp only[]);congr 2<;>(repeat' split)<;>omega),gw⟩
def zaI (n:Int):Sp:=⟨n*4294967296,n*4294967296⟩
theorem zna (n:Int) (h0:0≤n) (h1:n≤1000000):fitR (n*4294967296) (n*4294967296)=⟨zaI n,0⟩:=by
 unfold fitR zdX
 rw[if_pos (by simp;omega)]
 rfl
theorem zqg (n:Int) (h0:0≤n) (h1:n≤1000000) (w:World):Calls Tryz.prog 169 #[.int .i64 n] w fun e w'=>e=.returned (.tuple #[.agg #[.int .i64 ((⟨zaI n,0⟩:Res)).s.lo,.int .i64 ((⟨zaI n,0⟩:Res)).s.hi],.int .i64 ((⟨zaI n,0⟩:Res)).e])∧Grew w w':=by
 have HO:=Lib.hid (fun w=>zib n (by unfold I64;omega) w)
 have HU:=Lib.hid (fun w=>zfu n (by omega) w)
 have Hout:=Lib.hid (fun w=>zfj (zna n h0 h1) (zeT (n*4294967296) (n*4294967296) (by unfold R128;omega) (by unfold R128;omega) w))
 clear h0 h1
 go_enter Tryz.func169,Tryz.ntmps169
 go_wp2_with (first|(go_at_call 126;(with_reducible refine zaa (HO.out _) ?_);intro u)|(go_at_call 195;(with_reducible refine zaa (HU.out _) ?_);intro u)|(go_at_call 66;(with_reducible refine zaa (Hout.out _) ?_);intro u))
 refine bodyPost_ret (by (simp[results,Tryz.results169,go_sem]<;>rfl)) rfl ?_
 exact ⟨rfl,gw⟩
theorem zgQ (n:Int) (h0:0≤n) (h1:n≤1000000) (w:World):Calls Tryz.prog 117 #[.int .i64 n] w fun e w'=>e=.returned (.agg #[.int .i64 (zaI n).lo,.int .i64 (zaI n).hi])∧Grew w w':=by
 have HI:=Lib.hid (fun w=>zqg n h0 h1 w)
 clear h0 h1
 go_enter Tryz.func117,Tryz.ntmps117
 go_wp2_with (first|(go_at_call 169;(with_reducible refine zaa (HI.out _) ?_);intro u))
 refine bodyPost_ret (by (simp[results,Tryz.results117,go_sem]<;>rfl)) rfl ?_
 exact ⟨rfl,gw⟩
theorem zj4 (n:Int) (w:World):Calls Tryz.prog 51 #[.int .i64 n] w fun e w'=>e=.returned (.agg #[.int .i64 ((⟨n,n⟩:Sp)).lo,.int .i64 ((⟨n,n⟩:Sp)).hi])∧Grew w w':=by
 go_enter Tryz.func51,Tryz.ntmps51
 go_wp2
 refine bodyPost_ret (by (simp[results,Tryz.results51,go_sem]<;>rfl)) rfl ?_
 exact ⟨rfl,gw⟩
theorem zbV (c:Nat) (e:Int) (a b:Sp) [ha:S64 a] [hb:S64 b] (w:World) (hc:w.cell? ⟨c,0,none⟩=some (.int .i64 e)) (hf:w.frozen? ⟨c,0,none⟩=false) :
 Calls Tryz.prog 55 #[.pointer (some ⟨c,0,none⟩),.agg #[.int .i64 a.lo,.int .i64 a.hi],.agg #[.int .i64 b.lo,.int .i64 b.hi]] w (RetC c (.agg #[.int .i64 ((doR e (addR a b)).s).lo,.int .i64 ((doR e (addR a b)).s).hi]) (doR e (addR a b)).e w):=by
 have ib:BlockIn w c:=BlockIn.of_cell hc
 have hci:HasCell w c 0:=⟨_,hc⟩
 have Hb:=Lib.hid (But.refl hc)
 have Hc:=Lib.hid hc
 go_enter Tryz.func55,Tryz.ntmps55
 go_wp2_with (first|(go_at_call 33;(with_reducible refine zaa (zfH a b _) ?_);intro u)|(go_at_call 109;refine zar (zcI c e (addR a b) _ (by go_simp) (by go_simp)) ?_;intro u))
 refine bodyPost_ret (by (simp[results,Tryz.results55,go_sem]<;>rfl)) rfl ?_
 exact ⟨rfl,But.out btw Hc.out (by go_simp)⟩
theorem zaP (c:Nat) (e:Int) (a b:Sp) [ha:S64 a] [hb:S64 b] (w:World) (hc:w.cell? ⟨c,0,none⟩=some (.int .i64 e)) (hf:w.frozen? ⟨c,0,none⟩=false) :
 Calls Tryz.prog 53 #[.pointer (some ⟨c,0,none⟩),.agg #[.int .i64 a.lo,.int .i64 a.hi],.agg #[.int .i64 b.lo,.int .i64 b.hi]] w (RetC c (.agg #[.int .i64 ((doR e (mulR a b)).s).lo,.int .i64 ((doR e (mulR a b)).s).hi]) (doR e (mulR a b)).e w):=by
 have ib:BlockIn w c:=BlockIn.of_cell hc
 have hci:HasCell w c 0:=⟨_,hc⟩
 have Hb:=Lib.hid (But.refl hc)
 have Hc:=Lib.hid hc
 go_enter Tryz.func53,Tryz.ntmps53
 go_wp2_with (first|(go_at_call 110;(with_reducible refine zaa (zlT a b _) ?_);intro u)|(go_at_call 109;refine zar (zcI c e (mulR a b) _ (by go_simp) (by go_simp)) ?_;intro u))
 refine bodyPost_ret (by (simp[results,Tryz.results53,go_sem]<;>rfl)) rfl ?_
 exact ⟨rfl,But.out btw Hc.out (by go_simp)⟩
theorem zc7 (c:Nat) (e:Int) (a b:Sp) [ha:S64 a] [hb:S64 b] (w:World) (hc:w.cell? ⟨c,0,none⟩=some (.int .i64 e)) (hf:w.frozen? ⟨c,0,none⟩=false) :
 Calls Tryz.prog 112 #[.pointer (some ⟨c,0,none⟩),.agg #[.int .i64 a.lo,.int .i64 a.hi],.agg #[.int .i64 b.lo,.int .i64 b.hi]] w (RetC c (.agg #[.int .i64 ((doR e (divR a b)).s).lo,.int .i64 ((doR e (divR a b)).s).hi]) (doR e (divR a b)).e w):=by
 have ib:BlockIn w c:=BlockIn.of_cell hc
 have hci:HasCell w c 0:=⟨_,hc⟩
 have Hb:=Lib.hid (But.refl hc)
 have Hc:=Lib.hid hc
 go_enter Tryz.func112,Tryz.ntmps112
 go_wp2_with (first|(go_at_call 145;(with_reducible refine zaa (zqf a b _) ?_);intro u)|(go_at_call 109;refine zar (zcI c e (divR a b) _ (by go_simp) (by go_simp)) ?_;intro u))
 refine bodyPost_ret (by (simp[results,Tryz.results112,go_sem]<;>rfl)) rfl ?_
 exact ⟨rfl,But.out btw Hc.out (by go_simp)⟩
theorem zmS (c:Nat) (e:Int) (a b:Sp) (w:World) (hc:w.cell? ⟨c,0,none⟩=some (.int .i64 e)) (hf:w.frozen? ⟨c,0,none⟩=false) :
 Calls Tryz.prog 118 #[.pointer (some ⟨c,0,none⟩),.agg #[.int .i64 a.lo,.int .i64 a.hi],.agg #[.int .i64 b.lo,.int .i64 b.hi]] w (RetC c (.agg #[.int .i64 ((doR e (zbh a b)).s).lo,.int .i64 ((doR e (zbh a b)).s).hi]) (doR e (zbh a b)).e w):=by
 have ib:BlockIn w c:=BlockIn.of_cell hc
 have hci:HasCell w c 0:=⟨_,hc⟩
 have Hb:=Lib.hid (But.refl hc)
 have Hc:=Lib.hid hc
 go_enter Tryz.func118,Tryz.ntmps118
 go_wp2_with (first|(go_at_call 41;(with_reducible refine zaa (zoH a b _) ?_);intro u)|(go_at_call 109;refine zar (zcI c e (zbh a b) _ (by go_simp) (by go_simp)) ?_;intro u))
 refine bodyPost_ret (by (simp[results,Tryz.results118,go_sem]<;>rfl)) rfl ?_
 exact ⟨rfl,But.out btw Hc.out (by go_simp)⟩
theorem zfr (c:Nat) (e:Int) (a:Sp) [ha:S64 a] (w:World) (hc:w.cell? ⟨c,0,none⟩=some (.int .i64 e)) (hf:w.frozen? ⟨c,0,none⟩=false) :
 Calls Tryz.prog 114 #[.pointer (some ⟨c,0,none⟩),.agg #[.int .i64 a.lo,.int .i64 a.hi]] w (RetC c (.agg #[.int .i64 ((doR e (zaB a)).s).lo,.int .i64 ((doR e (zaB a)).s).hi]) (doR e (zaB a)).e w):=by
 have ib:BlockIn w c:=BlockIn.of_cell hc
 have hci:HasCell w c 0:=⟨_,hc⟩
 have Hb:=Lib.hid (But.refl hc)
 have Hc:=Lib.hid hc
 go_enter Tryz.func114,Tryz.ntmps114
 go_wp2_with (first|(go_at_call 166;(with_reducible refine zaa (zeU a _) ?_);intro u)|(go_at_call 109;refine zar (zcI c e (zaB a) _ (by go_simp) (by go_simp)) ?_;intro u))
 refine bodyPost_ret (by (simp[results,Tryz.results114,go_sem]<;>rfl)) rfl ?_
 exact ⟨rfl,But.out btw Hc.out (by go_simp)⟩
theorem zfZ (c:Nat) (e:Int) (a:Sp) (n:Int) [ha:S64 a] [hn:N64 n] (w:World) (hc:w.cell? ⟨c,0,none⟩=some (.int .i64 e)) (hf:w.frozen? ⟨c,0,none⟩=false) :
 Calls Tryz.prog 115 #[.pointer (some ⟨c,0,none⟩),.agg #[.int .i64 a.lo,.int .i64 a.hi],.int .i64 n] w (RetC c (.agg #[.int .i64 ((doR e (zbP a n)).s).lo,.int .i64 ((doR e (zbP a n)).s).hi]) (doR e (zbP a n)).e w):=by
 have ib:BlockIn w c:=BlockIn.of_cell hc
 have hci:HasCell w c 0:=⟨_,hc⟩
 have Hb:=Lib.hid (But.refl hc)
 have Hc:=Lib.hid hc
 go_enter Tryz.func115,Tryz.ntmps115
 go_wp2_with (first|(go_at_call 167;(with_reducible refine zaa (zmQ a n _) ?_);intro u)|(go_at_call 109;refine zar (zcI c e (zbP a n) _ (by go_simp) (by go_simp)) ?_;intro u))
 refine bodyPost_ret (by (simp[results,Tryz.results115,go_sem]<;>rfl)) rfl ?_
 exact ⟨rfl,But.out btw Hc.out (by go_simp)⟩
end Go.Proofs.YtdkfkalplmgoeaaGreat
