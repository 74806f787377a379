/-
  Joined: RefDivs.
-/
import Derived.Test.YtdkfkalplmgoeaaGreatRowL
import Derived.Test.YtdkfkalplmgoeaaGreatLexAllL
import Derived.Test.YtdkfkalplmgoeaaGreatRefOpsAllL
import Derived.Test.YtdkfkalplmgoeaaGreatCalcsL
namespace Go.Proofs.YtdkfkalplmgoeaaGreat
open Go.RowKit
set_option maxRecDepth 100000
set_option maxHeartbeats 2000000
theorem zgr {x y x' y':Int} {r r':W} (h:(⟨x,y⟩:W)=r) (h':(⟨x',y'⟩:W)=r') :
 Ending.returned (.tuple #[.agg #[.int .i64 x,.int .u64 y],.agg #[.int .i64 x',.int .u64 y']])=.returned (.tuple #[.agg #[.int .i64 r.h,.int .u64 r.l],.agg #[.int .i64 (r').h,.int .u64 (r').l]]):=by rw[←h,←h']
theorem zpn:mkW 1=⟨0,1⟩:=(zcV (by unfold U64;omega) (by omega)).symm
theorem zeG:mkW 0=⟨0,0⟩:=(zcV (by unfold U64;omega) (by omega)).symm
theorem zbI (x:Int) (hx:R128 x) (hs:R128 (x+1)) (w:World):Calls Tryz.prog 67 #[.agg #[.int .i64 (mkW x).h,.int .u64 (mkW x).l],.agg #[.int .i64 0,.int .u64 1]] w fun e w'=>e=.returned (.agg #[.int .i64 (mkW (x+1)).h,.int .u64 (mkW (x+1)).l])∧Grew w w':=by
 have:=zcl x 1 hx (by unfold R128;omega) hs w
 rwa [zpn] at this
theorem zhZ (x:Int) (hx:R128 x) (w:World):Calls Tryz.prog 219 #[.agg #[.int .i64 (mkW x).h,.int .u64 (mkW x).l],.agg #[.int .i64 0,.int .u64 0]] w fun e w'=>e=.returned (.bool (decide (x=0)))∧Grew w w':=by
 have:=zmZ x 0 hx (by unfold R128;omega) w
 rwa [zeG] at this
theorem zmV (x:Int) (h0:0≤x) (hx:R128 x):x/2^(127+1)=0:=by
 apply Int.ediv_eq_zero_of_lt h0
 have:(2:Int)^(127+1)=340282366920938463463374607431768211456:=by decide +kernel
 unfold R128 at hx
 omega
theorem zog (x:Int) (k:Nat) (h:x/2^(k+1)=0) (hb:decide (bitZ x k=1)=false):x/2^k=0:=by
 have:=zh6 x k
 have h2:=zhb x k
 simp at hb
 omega
def zjT (x b:Int) (w:World) (B7 B8:Nat) (n:Nat) (wr:World):Prop:=Grew w wr∧zan wr w.heap.size [.int .i64 (mkW x).h,.int .u64 (mkW x).l]∧zan wr (w.heap.size+1) [.int .i64 (mkW b).h,.int .u64 (mkW b).l]∧zan wr (w.heap.size+1+1) [.int .i64 0,.int .u64 0]∧zan wr (w.heap.size+1+1+1) [.int .i64 0,.int .u64 0]∧
 zan wr B7 [.int .i64 (mkW (x/2^n/b)).h,.int .u64 (mkW (x/2^n/b)).l]∧zan wr B8 [.int .i64 (mkW (x/2^n % b)).h,.int .u64 (mkW (x/2^n % b)).l]
theorem zhY (x b:Int) (h0:0≤x) (hx:x<18446744073709551616) (hb0:0<b) (hb:b<18446744073709551616) (w:World):Calls Tryz.prog 218 #[.agg #[.int .i64 (mkW x).h,.int .u64 (mkW x).l],.agg #[.int .i64 (mkW b).h,.int .u64 (mkW b).l]] w fun e w'=>e=.returned (.tuple #[.agg #[.int .i64 (mkW (x/b)).h,.int .u64 (mkW (x/b)).l],.agg #[.int .i64 (mkW (x % b)).h,.int .u64 (mkW (x % b)).l]])∧Grew w w':=by
 have e1:mkW x=⟨0,x⟩:=(zcV (by unfold U64;omega) (by omega)).symm
 have e2:mkW b=⟨0,b⟩:=(zcV (by unfold U64;omega) (by omega)).symm
 have h1:=Int.ediv_nonneg h0 (Int.le_of_lt hb0)
 have h2:=Int.ediv_le_self b h0
 have h3:=Int.emod_nonneg x (show b≠0 by omega)
 have h4:=Int.emod_lt_of_pos x hb0
 have Hq:=Lib.hid (show (⟨0,x/b⟩:W)=mkW (x/b) from zcV (by unfold U64;omega) (by omega))
 have Hr:=Lib.hid (show (⟨0,x % b⟩:W)=mkW (x % b) from zcV (by unfold U64;omega) (by omega))
 have hne:(b==0)=false:=by rw[beq_eq_false_iff_ne];omega
 rw[e1,e2]
 clear e1 e2
 go_enter Tryz.func218,Tryz.ntmps218
 go_wp2
 go_region
 all_goals go_wp2
 all_goals
  refine bodyPost_ret (by (simp[results,Tryz.results218,go_sem]<;>rfl)) rfl ?_
  exact ⟨zgr Hq.out Hr.out,gw⟩
theorem zoF (x:Int):(mkW x).h=x/18446744073709551616:=rfl
set_option maxHeartbeats 8000000 in
theorem ziP (x b:Int) (h0:0≤x) (hx:R128 x) (hb0:0<b) (hb:b≤42535295865117307932921825928971026432) (hlong:(((mkW x).h==0)&&((mkW b).h==0))=false) (w:World):Calls Tryz.prog 218 #[.agg #[.int .i64 (mkW x).h,.int .u64 (mkW x).l],.agg #[.int .i64 (mkW b).h,.int .u64 (mkW b).l]] w fun e w'=>e=.returned (.tuple #[.agg #[.int .i64 (mkW (x/b)).h,.int .u64 (mkW (x/b)).l],.agg #[.int .i64 (mkW (x % b)).h,.int .u64 (mkW (x % b)).l]])∧Grew w w':=by
 have Hx:=Lib.hid hx
 have Hb:=Lib.hid (show R128 b by unfold R128;omega)
 have Hnb:=Lib.hid (show R128 (-b) by unfold R128;omega)
 have Htop:=Lib.hid (zmV x h0 hx)
 have Hbd:=Lib.hid (fun i=>zmt x b i h0 hb0)
 have Hstep:=Lib.hid (fun i t=>zl8 x b i hb0 t)
 have Hbit:=Lib.hid (fun (i:Nat) (hi:i≤127) w=>zom x i h0 hx hi w)
 have H0:=Lib.hid h0
 have Hbb:=Lib.hid hb
 have Hb0:=Lib.hid hb0
 clear h0 hx hb hb0
 rcases (show (((mkW x).h==0)=false)∨(((mkW x).h==0)=true∧((mkW b).h==0)=false) by cases h1:((mkW x).h==0)<;>cases h2:((mkW b).h==0)<;>simp_all) with hl|⟨hl1,hl2⟩
 all_goals
  clear hlong
  go_enter Tryz.func218,Tryz.ntmps218
  go_wp2
  go_loopw [6] (fun t wr=>∃ k:Nat,t=.int .i64 k∧k≤127∧Hid (x/2^(k+1)=0)∧Grew w wr∧zan wr w.heap.size [.int .i64 (mkW x).h,.int .u64 (mkW x).l]∧zan wr (w.heap.size+1) [.int .i64 (mkW b).h,.int .u64 (mkW b).l]∧zan wr (w.heap.size+1+1) [.int .i64 0,.int .u64 0]∧zan wr (w.heap.size+1+1+1) [.int .i64 0,.int .u64 0]) (fun t _=>(intOf t).toNat)
  case atStart=>exact ⟨127,rfl,by omega,Htop,gw,bxt,bxt,bxt,bxt⟩
  case round=>
   obtain ⟨k,rfl,hk,Hk,hg,hA,hB,hC,hD⟩:=hrel
   obtain ⟨z,rfl⟩:=zaj hg
   clear hg
   have hA_0:=(hA 0 _ rfl).1
   have hAf0:=(hA 0 _ rfl).2
   have hAi0:HasCell (z.world) (w.heap.size) 0:=⟨_,hA_0⟩
   have hA_1:=(hA 1 _ rfl).1
   have hAf1:=(hA 1 _ rfl).2
   have hAi1:HasCell (z.world) (w.heap.size) 1:=⟨_,hA_1⟩
   have hAb:BlockIn (z.world) (w.heap.size):=BlockIn.of_cell hA_0
   clear hA
   have hB_0:=(hB 0 _ rfl).1
   have hBf0:=(hB 0 _ rfl).2
   have hBi0:HasCell (z.world) (w.heap.size+1) 0:=⟨_,hB_0⟩
   have hB_1:=(hB 1 _ rfl).1
   have hBf1:=(hB 1 _ rfl).2
   have hBi1:HasCell (z.world) (w.heap.size+1) 1:=⟨_,hB_1⟩
   have hBb:BlockIn (z.world) (w.heap.size+1):=BlockIn.of_cell hB_0
   clear hB
   have hC_0:=(hC 0 _ rfl).1
   have hCf0:=(hC 0 _ rfl).2
   have hCi0:HasCell (z.world) (w.heap.size+1+1) 0:=⟨_,hC_0⟩
   have hC_1:=(hC 1 _ rfl).1
   have hCf1:=(hC 1 _ rfl).2
   have hCi1:HasCell (z.world) (w.heap.size+1+1) 1:=⟨_,hC_1⟩
   have hCb:BlockIn (z.world) (w.heap.size+1+1):=BlockIn.of_cell hC_0
   clear hC
   have hD_0:=(hD 0 _ rfl).1
   have hDf0:=(hD 0 _ rfl).2
   have hDi0:HasCell (z.world) (w.heap.size+1+1+1) 0:=⟨_,hD_0⟩
   have hD_1:=(hD 1 _ rfl).1
   have hDf1:=(hD 1 _ rfl).2
   have hDi1:HasCell (z.world) (w.heap.size+1+1+1) 1:=⟨_,hD_1⟩
   have hDb:BlockIn (z.world) (w.heap.size+1+1+1):=BlockIn.of_cell hD_0
   clear hD
   have HbK:=Lib.hid (Hbit.out k hk)
   by_cases hgo:0<k∧decide (bitZ x k=1)=false
   ·obtain ⟨hk0,hbit⟩:=hgo
    have Hk2:=Lib.hid (zog x k Hk.out hbit)
    have Hbt:=Lib.hid hbit
    clear hbit
    go_wp2_with (first|(go_at_call 221;(with_reducible refine zaa (zax Hbt.out (HbK.out _)) ?_);intro u)|((with_reducible refine zac ?_ ?_ ?_);(· kernel_rfl);(· kernel_rfl);(try simp only[List.append_eq,List.cons_append,List.nil_append]);(repeat (go_big_quiet_step ((first|(go_at_call 221;(with_reducible exact zad (zax Hbt.out (HbK.out _))))))));refine wpQuiet_nil ?_;rintro _ ⟨u,rfl⟩))
    go_roundw
    case rel=>exact ⟨k-1,by go_num,by omega,Lib.hid (by rw[show k-1+1=k by omega];exact Hk2.out),gw,bxt,bxt,bxt,bxt⟩
    case measure=>simp[intOf]<;>omega
   ·have hgo':k≤0∨(0<k∧decide (bitZ x k=1)=true):=by
     rcases Nat.eq_zero_or_pos k with h|h
     ·exact .inl (by omega)
     ·right
      refine ⟨h,?_⟩
      cases hb:decide (bitZ x k=1)
      ·exact absurd ⟨h,hb⟩ hgo
      ·rfl
    clear hgo
    rcases hgo' with hk0|⟨hk0,hbit⟩
    ·go_wp2
     have nu:w.heap.size+1+1+1+1≤z.world.heap.size:=by have h1:=hDb.lt;have h2:=Below.size z.grew;(try simp at h2);omega
     have:Apart (w.heap.size) (z.world.heap.size):=⟨by omega⟩
     have:Apart (w.heap.size) (z.world.heap.size+1):=⟨by omega⟩
     have:Apart (w.heap.size+1) (z.world.heap.size):=⟨by omega⟩
     have:Apart (w.heap.size+1) (z.world.heap.size+1):=⟨by omega⟩
     have:Apart (w.heap.size+1+1) (z.world.heap.size):=⟨by omega⟩
     have:Apart (w.heap.size+1+1) (z.world.heap.size+1):=⟨by omega⟩
     have:Apart (w.heap.size+1+1+1) (z.world.heap.size):=⟨by omega⟩
     have:Apart (w.heap.size+1+1+1) (z.world.heap.size+1):=⟨by omega⟩
     have:Apart (z.world.heap.size) (w.heap.size):=⟨by omega⟩
     have:Apart (z.world.heap.size) (w.heap.size+1):=⟨by omega⟩
     have:Apart (z.world.heap.size) (w.heap.size+1+1):=⟨by omega⟩
     have:Apart (z.world.heap.size) (w.heap.size+1+1+1):=⟨by omega⟩
     have:Apart (z.world.heap.size+1) (w.heap.size):=⟨by omega⟩
     have:Apart (z.world.heap.size+1) (w.heap.size+1):=⟨by omega⟩
     have:Apart (z.world.heap.size+1) (w.heap.size+1+1):=⟨by omega⟩
     have:Apart (z.world.heap.size+1) (w.heap.size+1+1+1):=⟨by omega⟩
     have nw7:NewFor w z.world.heap.size:=⟨by omega⟩
     have nw8:NewFor w (z.world.heap.size+1):=⟨by omega⟩
     have Hst:=Lib.hid (show mkW (x/2^(k+1)/b)=⟨0,0⟩∧mkW (x/2^(k+1) % b)=⟨0,0⟩ by rw[Hk.out,Int.zero_ediv,Int.zero_emod];exact ⟨zeG,zeG⟩)
     clear nu
     go_wp2
     go_loopw [9] (fun t wr=>∃ n:Nat,t=.int .i64 ((n:Int)-1)∧n≤128∧zjT x b w z.world.heap.size (z.world.heap.size+1) n wr) (fun t _=>(intOf t+1).toNat)
     case atStart=>exact ⟨k+1,by go_num,by omega,gw,bxt,bxt,bxt,bxt,by rw[Hst.out.1];exact bxt,by rw[Hst.out.2];exact bxt⟩
     case round=>
      obtain ⟨n,rfl,hn,hg,hA,hB,hC,hD,hQ,hR⟩:=hrel
      obtain ⟨y,rfl⟩:=zaj hg
      clear hg
      have hA_0:=(hA 0 _ rfl).1
      have hAf0:=(hA 0 _ rfl).2
      have hAi0:HasCell (y.world) (w.heap.size) 0:=⟨_,hA_0⟩
      have hA_1:=(hA 1 _ rfl).1
      have hAf1:=(hA 1 _ rfl).2
      have hAi1:HasCell (y.world) (w.heap.size) 1:=⟨_,hA_1⟩
      have hAb:BlockIn (y.world) (w.heap.size):=BlockIn.of_cell hA_0
      clear hA
      have hB_0:=(hB 0 _ rfl).1
      have hBf0:=(hB 0 _ rfl).2
      have hBi0:HasCell (y.world) (w.heap.size+1) 0:=⟨_,hB_0⟩
      have hB_1:=(hB 1 _ rfl).1
      have hBf1:=(hB 1 _ rfl).2
      have hBi1:HasCell (y.world) (w.heap.size+1) 1:=⟨_,hB_1⟩
      have hBb:BlockIn (y.world) (w.heap.size+1):=BlockIn.of_cell hB_0
      clear hB
      have hC_0:=(hC 0 _ rfl).1
      have hCf0:=(hC 0 _ rfl).2
      have hCi0:HasCell (y.world) (w.heap.size+1+1) 0:=⟨_,hC_0⟩
      have hC_1:=(hC 1 _ rfl).1
      have hCf1:=(hC 1 _ rfl).2
      have hCi1:HasCell (y.world) (w.heap.size+1+1) 1:=⟨_,hC_1⟩
      have hCb:BlockIn (y.world) (w.heap.size+1+1):=BlockIn.of_cell hC_0
      clear hC
      have hD_0:=(hD 0 _ rfl).1
      have hDf0:=(hD 0 _ rfl).2
      have hDi0:HasCell (y.world) (w.heap.size+1+1+1) 0:=⟨_,hD_0⟩
      have hD_1:=(hD 1 _ rfl).1
      have hDf1:=(hD 1 _ rfl).2
      have hDi1:HasCell (y.world) (w.heap.size+1+1+1) 1:=⟨_,hD_1⟩
      have hDb:BlockIn (y.world) (w.heap.size+1+1+1):=BlockIn.of_cell hD_0
      clear hD
      cases n with
      |zero=>
       rw[Int.pow_zero,Int.ediv_one] at hQ hR
       have hQ_0:=(hQ 0 _ rfl).1
       have hQf0:=(hQ 0 _ rfl).2
       have hQi0:HasCell (y.world) (z.world.heap.size) 0:=⟨_,hQ_0⟩
       have hQ_1:=(hQ 1 _ rfl).1
       have hQf1:=(hQ 1 _ rfl).2
       have hQi1:HasCell (y.world) (z.world.heap.size) 1:=⟨_,hQ_1⟩
       have hQb:BlockIn (y.world) (z.world.heap.size):=BlockIn.of_cell hQ_0
       clear hQ
       have hR_0:=(hR 0 _ rfl).1
       have hRf0:=(hR 0 _ rfl).2
       have hRi0:HasCell (y.world) (z.world.heap.size+1) 0:=⟨_,hR_0⟩
       have hR_1:=(hR 1 _ rfl).1
       have hRf1:=(hR 1 _ rfl).2
       have hRi1:HasCell (y.world) (z.world.heap.size+1) 1:=⟨_,hR_1⟩
       have hRb:BlockIn (y.world) (z.world.heap.size+1):=BlockIn.of_cell hR_0
       clear hR
       go_wp2
       go_region
       all_goals go_wp2
       all_goals
        refine bodyPost_ret (by (simp[results,Tryz.results218,go_sem]<;>rfl)) rfl ?_
        exact ⟨rfl,gw⟩
      |succ i=>
       have hQ_0:=(hQ 0 _ rfl).1
       have hQf0:=(hQ 0 _ rfl).2
       have hQi0:HasCell (y.world) (z.world.heap.size) 0:=⟨_,hQ_0⟩
       have hQ_1:=(hQ 1 _ rfl).1
       have hQf1:=(hQ 1 _ rfl).2
       have hQi1:HasCell (y.world) (z.world.heap.size) 1:=⟨_,hQ_1⟩
       have hQb:BlockIn (y.world) (z.world.heap.size):=BlockIn.of_cell hQ_0
       clear hQ
       have hR_0:=(hR 0 _ rfl).1
       have hRf0:=(hR 0 _ rfl).2
       have hRi0:HasCell (y.world) (z.world.heap.size+1) 0:=⟨_,hR_0⟩
       have hR_1:=(hR 1 _ rfl).1
       have hRf1:=(hR 1 _ rfl).2
       have hRi1:HasCell (y.world) (z.world.heap.size+1) 1:=⟨_,hR_1⟩
       have hRb:BlockIn (y.world) (z.world.heap.size+1):=BlockIn.of_cell hR_0
       clear hR
       have hi:((i+1:Nat):Int)-1=i:=by omega
       rw[hi]
       clear hi
       obtain ⟨q0,q1,r0,r1,r2⟩:=Hbd.out (i+1)
       have hb2:=Hbb.out
       have hx2:=Hx.out
       unfold R128 at hx2
       have hst:=Hstep.out i
       have Hn:=Lib.hid (Hbd.out i)
       have HbI:=Lib.hid (Hbit.out i (by omega))
       generalize x/2^(i+1)/b=q at *
       generalize x/2^(i+1) % b=r at *
       have HH:=Lib.hid (show ∀ t,t=r+r+bitZ x i→(t<b→x/2^i/b=q+q∧x/2^i % b=t)∧(b≤t→x/2^i/b=q+q+1∧x/2^i % b=t+-b) by
        intro t ht
        have h:=hst t (by omega)
        exact ⟨fun k=>⟨by rw[(h.1 k).1];omega,(h.1 k).2⟩,fun k=>⟨by rw[(h.2 k).1];omega,by rw[(h.2 k).2];omega⟩⟩)
       have Hq:=Lib.hid (show R128 q by unfold R128;omega)
       have Hr:=Lib.hid (show R128 r by unfold R128;omega)
       have Hrr:=Lib.hid (show R128 (r+r) by unfold R128;omega)
       have Hrs:=Lib.hid (show R128 (r+r+1) by unfold R128;omega)
       have Hrm:=Lib.hid (show R128 (r+r+-b) by unfold R128;omega)
       have Hrn:=Lib.hid (show R128 (r+r+1+-b) by unfold R128;omega)
       have Hqx:=Lib.hid q0
       clear r1 r0 r2 q0 q1 hst hb2 hx2
       have HT1:=Lib.hid (fun w=>zby r Hr.out Hrr.out w)
       have HM:=Lib.hid (fun w=>zbx b Hb.out Hnb.out w)
       have HP1:=Lib.hid (fun w=>zbI (r+r) Hrr.out Hrs.out w)
       rcases za3 (decide (bitZ x i=1)) with hbit|hbit
       ·have hbz:bitZ x i=0:=by have:=zhb x i;simp at hbit;omega
        have H2:=Lib.hid (HH.out (r+r) (by omega))
        have Hbt:=Lib.hid hbit
        clear hbit hbz
        rcases zc5 (decide (r+r<b)) with hc|hc
        ·have Hf:=Lib.hid (H2.out.1 (by simpa using hc))
         have Hqq:=Lib.hid (show R128 (q+q) by have h1:=Hn.out;have h2:=Hx.out;rw[Hf.out.1] at h1;unfold R128 at *;omega)
         have HT2:=Lib.hid (fun w=>zby q Hq.out Hqq.out w)
         have Hc:=Lib.hid hc
         have HL:=Lib.hid (fun w=>zax Hc.out (zaI (r+r) b Hrr.out Hb.out w))
         clear hc
         go_wp2_with (first|(go_at_call 222;(with_reducible refine zaa (HT1.out _) ?_);intro u)|(go_at_call 222;(with_reducible refine zaa (HT2.out _) ?_);intro u)|(go_at_call 221;(with_reducible refine zaa (zax Hbt.out (HbI.out _)) ?_);intro u)|(go_at_call 67;(with_reducible refine zaa (HP1.out _) ?_);intro u)|(go_at_call 125;(with_reducible refine zaa (HL.out _) ?_);intro u))
         go_roundw
         case rel=>exact ⟨i,by go_num,by omega,gw,bxt,bxt,bxt,bxt,by rw[Hf.out.1];exact bxt,by rw[Hf.out.2];exact bxt⟩
         case measure=>simp[intOf]<;>omega
        ·have Hf:=Lib.hid (H2.out.2 (by simpa using hc))
         have Hqs:=Lib.hid (show R128 (q+q+1)∧R128 (q+q) by have h1:=Hn.out;have h2:=Hx.out;have h3:=Hqx.out;rw[Hf.out.1] at h1;unfold R128 at *;omega)
         have HT2:=Lib.hid (fun w=>zby q Hq.out Hqs.out.2 w)
         have HPq:=Lib.hid (fun w=>zbI (q+q) Hqs.out.2 Hqs.out.1 w)
         have HPt:=Lib.hid (fun w=>zcl (r+r) (-b) Hrr.out Hnb.out Hrm.out w)
         have Hc:=Lib.hid hc
         have HL:=Lib.hid (fun w=>zax Hc.out (zaI (r+r) b Hrr.out Hb.out w))
         clear hc
         go_wp2_with (first|(go_at_call 222;(with_reducible refine zaa (HT1.out _) ?_);intro u)|(go_at_call 222;(with_reducible refine zaa (HT2.out _) ?_);intro u)|(go_at_call 221;(with_reducible refine zaa (zax Hbt.out (HbI.out _)) ?_);intro u)|(go_at_call 67;(with_reducible refine zaa (HP1.out _) ?_);intro u)|(go_at_call 125;(with_reducible refine zaa (HL.out _) ?_);intro u))
         refine zay 4 [] [2,3] [] (fun W0=>[]) [.agg #[.int .i64 ((mkW (-b))).h,.int .u64 ((mkW (-b))).l],.agg #[.int .i64 ((mkW (r+r+-b))).h,.int .u64 ((mkW (r+r+-b))).l]] [4] (by rfl) (fun _ x hx=>absurd hx (List.not_mem_nil)) (by kernel_rfl) (by kernel_rfl) (by kernel_rfl) ?_
         intro p
         apply Exists.intro
         apply And.intro
         iterate 2 (apply zap (by kernel_rfl);(· intro u;unfold zae;go_simp;rfl))
         apply zaA 0 (by kernel_rfl) (by rfl) (by decide)
         ·intro u hF;clear hF;unfold zaw;go_simp;exact HM.out _
         apply zaA 1 (by kernel_rfl) (by rfl) (by decide)
         ·intro u hF;clear hF;unfold zaw;go_simp;exact HPt.out _
         apply zbi
         rotate_left
         ·rfl
         intro u hR hD
         clear hR hD
         refine zak (by rfl) ?_;unfold zav;go_simp
         refine zau ?_
         go_wp2_with (first|(go_at_call 67;(with_reducible refine zaa (HPq.out _) ?_);intro u))
         go_roundw
         case rel=>exact ⟨i,by go_num,by omega,gw,bxt,bxt,bxt,bxt,by rw[Hf.out.1];exact bxt,by rw[Hf.out.2];exact bxt⟩
         case measure=>simp[intOf]<;>omega
       ·have hbz:bitZ x i=1:=by simpa using hbit
        have H2:=Lib.hid (HH.out (r+r+1) (by omega))
        have Hbt:=Lib.hid hbit
        clear hbit hbz
        rcases zc5 (decide (r+r+1<b)) with hc|hc
        ·have Hf:=Lib.hid (H2.out.1 (by simpa using hc))
         have Hqq:=Lib.hid (show R128 (q+q) by have h1:=Hn.out;have h2:=Hx.out;rw[Hf.out.1] at h1;unfold R128 at *;omega)
         have HT2:=Lib.hid (fun w=>zby q Hq.out Hqq.out w)
         have Hc:=Lib.hid hc
         have HL:=Lib.hid (fun w=>zax Hc.out (zaI (r+r+1) b Hrs.out Hb.out w))
         clear hc
         go_wp2_with (first|(go_at_call 222;(with_reducible refine zaa (HT1.out _) ?_);intro u)|(go_at_call 222;(with_reducible refine zaa (HT2.out _) ?_);intro u)|(go_at_call 221;(with_reducible refine zaa (zax Hbt.out (HbI.out _)) ?_);intro u)|(go_at_call 67;(with_reducible refine zaa (HP1.out _) ?_);intro u)|(go_at_call 125;(with_reducible refine zaa (HL.out _) ?_);intro u))
         go_roundw
         case rel=>exact ⟨i,by go_num,by omega,gw,bxt,bxt,bxt,bxt,by rw[Hf.out.1];exact bxt,by rw[Hf.out.2];exact bxt⟩
         case measure=>simp[intOf]<;>omega
        ·have Hf:=Lib.hid (H2.out.2 (by simpa using hc))
         have Hqs:=Lib.hid (show R128 (q+q+1)∧R128 (q+q) by have h1:=Hn.out;have h2:=Hx.out;have h3:=Hqx.out;rw[Hf.out.1] at h1;unfold R128 at *;omega)
         have HT2:=Lib.hid (fun w=>zby q Hq.out Hqs.out.2 w)
         have HPq:=Lib.hid (fun w=>zbI (q+q) Hqs.out.2 Hqs.out.1 w)
         have HPt:=Lib.hid (fun w=>zcl (r+r+1) (-b) Hrs.out Hnb.out Hrn.out w)
         have Hc:=Lib.hid hc
         have HL:=Lib.hid (fun w=>zax Hc.out (zaI (r+r+1) b Hrs.out Hb.out w))
         clear hc
         go_wp2_with (first|(go_at_call 222;(with_reducible refine zaa (HT1.out _) ?_);intro u)|(go_at_call 222;(with_reducible refine zaa (HT2.out _) ?_);intro u)|(go_at_call 221;(with_reducible refine zaa (zax Hbt.out (HbI.out _)) ?_);intro u)|(go_at_call 67;(with_reducible refine zaa (HP1.out _) ?_);intro u)|(go_at_call 125;(with_reducible refine zaa (HL.out _) ?_);intro u))
         refine zay 4 [] [2,3] [] (fun W0=>[]) [.agg #[.int .i64 ((mkW (-b))).h,.int .u64 ((mkW (-b))).l],.agg #[.int .i64 ((mkW (r+r+1+-b))).h,.int .u64 ((mkW (r+r+1+-b))).l]] [4] (by rfl) (fun _ x hx=>absurd hx (List.not_mem_nil)) (by kernel_rfl) (by kernel_rfl) (by kernel_rfl) ?_
         intro p
         apply Exists.intro
         apply And.intro
         iterate 2 (apply zap (by kernel_rfl);(· intro u;unfold zae;go_simp;rfl))
         apply zaA 0 (by kernel_rfl) (by rfl) (by decide)
         ·intro u hF;clear hF;unfold zaw;go_simp;exact HM.out _
         apply zaA 1 (by kernel_rfl) (by rfl) (by decide)
         ·intro u hF;clear hF;unfold zaw;go_simp;exact HPt.out _
         apply zbi
         rotate_left
         ·rfl
         intro u hR hD
         clear hR hD
         refine zak (by rfl) ?_;unfold zav;go_simp
         refine zau ?_
         go_wp2_with (first|(go_at_call 67;(with_reducible refine zaa (HPq.out _) ?_);intro u))
         go_roundw
         case rel=>exact ⟨i,by go_num,by omega,gw,bxt,bxt,bxt,bxt,by rw[Hf.out.1];exact bxt,by rw[Hf.out.2];exact bxt⟩
         case measure=>simp[intOf]<;>omega
    ·have Hbt:=Lib.hid hbit
     clear hbit
     go_wp2_with (first|(go_at_call 221;(with_reducible refine zaa (zax Hbt.out (HbK.out _)) ?_);intro u)|((with_reducible refine zac ?_ ?_ ?_);(· kernel_rfl);(· kernel_rfl);(try simp only[List.append_eq,List.cons_append,List.nil_append]);(repeat (go_big_quiet_step ((first|(go_at_call 221;(with_reducible exact zad (zax Hbt.out (HbK.out _))))))));refine wpQuiet_nil ?_;rintro _ ⟨u,rfl⟩))
     have nu:w.heap.size+1+1+1+1≤u.world.heap.size:=by have h1:=hDb.lt;have h2:=Below.size u.grew;(try simp at h2);omega
     have:Apart (w.heap.size) (u.world.heap.size):=⟨by omega⟩
     have:Apart (w.heap.size) (u.world.heap.size+1):=⟨by omega⟩
     have:Apart (w.heap.size+1) (u.world.heap.size):=⟨by omega⟩
     have:Apart (w.heap.size+1) (u.world.heap.size+1):=⟨by omega⟩
     have:Apart (w.heap.size+1+1) (u.world.heap.size):=⟨by omega⟩
     have:Apart (w.heap.size+1+1) (u.world.heap.size+1):=⟨by omega⟩
     have:Apart (w.heap.size+1+1+1) (u.world.heap.size):=⟨by omega⟩
     have:Apart (w.heap.size+1+1+1) (u.world.heap.size+1):=⟨by omega⟩
     have:Apart (u.world.heap.size) (w.heap.size):=⟨by omega⟩
     have:Apart (u.world.heap.size) (w.heap.size+1):=⟨by omega⟩
     have:Apart (u.world.heap.size) (w.heap.size+1+1):=⟨by omega⟩
     have:Apart (u.world.heap.size) (w.heap.size+1+1+1):=⟨by omega⟩
     have:Apart (u.world.heap.size+1) (w.heap.size):=⟨by omega⟩
     have:Apart (u.world.heap.size+1) (w.heap.size+1):=⟨by omega⟩
     have:Apart (u.world.heap.size+1) (w.heap.size+1+1):=⟨by omega⟩
     have:Apart (u.world.heap.size+1) (w.heap.size+1+1+1):=⟨by omega⟩
     have nw7:NewFor w u.world.heap.size:=⟨by omega⟩
     have nw8:NewFor w (u.world.heap.size+1):=⟨by omega⟩
     have Hst:=Lib.hid (show mkW (x/2^(k+1)/b)=⟨0,0⟩∧mkW (x/2^(k+1) % b)=⟨0,0⟩ by rw[Hk.out,Int.zero_ediv,Int.zero_emod];exact ⟨zeG,zeG⟩)
     clear nu
     go_wp2
     go_loopw [9] (fun t wr=>∃ n:Nat,t=.int .i64 ((n:Int)-1)∧n≤128∧zjT x b w u.world.heap.size (u.world.heap.size+1) n wr) (fun t _=>(intOf t+1).toNat)
     case atStart=>exact ⟨k+1,by go_num,by omega,gw,bxt,bxt,bxt,bxt,by rw[Hst.out.1];exact bxt,by rw[Hst.out.2];exact bxt⟩
     case round=>
      obtain ⟨n,rfl,hn,hg,hA,hB,hC,hD,hQ,hR⟩:=hrel
      obtain ⟨y,rfl⟩:=zaj hg
      clear hg
      have hA_0:=(hA 0 _ rfl).1
      have hAf0:=(hA 0 _ rfl).2
      have hAi0:HasCell (y.world) (w.heap.size) 0:=⟨_,hA_0⟩
      have hA_1:=(hA 1 _ rfl).1
      have hAf1:=(hA 1 _ rfl).2
      have hAi1:HasCell (y.world) (w.heap.size) 1:=⟨_,hA_1⟩
      have hAb:BlockIn (y.world) (w.heap.size):=BlockIn.of_cell hA_0
      clear hA
      have hB_0:=(hB 0 _ rfl).1
      have hBf0:=(hB 0 _ rfl).2
      have hBi0:HasCell (y.world) (w.heap.size+1) 0:=⟨_,hB_0⟩
      have hB_1:=(hB 1 _ rfl).1
      have hBf1:=(hB 1 _ rfl).2
      have hBi1:HasCell (y.world) (w.heap.size+1) 1:=⟨_,hB_1⟩
      have hBb:BlockIn (y.world) (w.heap.size+1):=BlockIn.of_cell hB_0
      clear hB
      have hC_0:=(hC 0 _ rfl).1
      have hCf0:=(hC 0 _ rfl).2
      have hCi0:HasCell (y.world) (w.heap.size+1+1) 0:=⟨_,hC_0⟩
      have hC_1:=(hC 1 _ rfl).1
      have hCf1:=(hC 1 _ rfl).2
      have hCi1:HasCell (y.world) (w.heap.size+1+1) 1:=⟨_,hC_1⟩
      have hCb:BlockIn (y.world) (w.heap.size+1+1):=BlockIn.of_cell hC_0
      clear hC
      have hD_0:=(hD 0 _ rfl).1
      have hDf0:=(hD 0 _ rfl).2
      have hDi0:HasCell (y.world) (w.heap.size+1+1+1) 0:=⟨_,hD_0⟩
      have hD_1:=(hD 1 _ rfl).1
      have hDf1:=(hD 1 _ rfl).2
      have hDi1:HasCell (y.world) (w.heap.size+1+1+1) 1:=⟨_,hD_1⟩
      have hDb:BlockIn (y.world) (w.heap.size+1+1+1):=BlockIn.of_cell hD_0
      clear hD
      cases n with
      |zero=>
       rw[Int.pow_zero,Int.ediv_one] at hQ hR
       have hQ_0:=(hQ 0 _ rfl).1
       have hQf0:=(hQ 0 _ rfl).2
       have hQi0:HasCell (y.world) (u.world.heap.size) 0:=⟨_,hQ_0⟩
       have hQ_1:=(hQ 1 _ rfl).1
       have hQf1:=(hQ 1 _ rfl).2
       have hQi1:HasCell (y.world) (u.world.heap.size) 1:=⟨_,hQ_1⟩
       have hQb:BlockIn (y.world) (u.world.heap.size):=BlockIn.of_cell hQ_0
       clear hQ
       have hR_0:=(hR 0 _ rfl).1
       have hRf0:=(hR 0 _ rfl).2
       have hRi0:HasCell (y.world) (u.world.heap.size+1) 0:=⟨_,hR_0⟩
       have hR_1:=(hR 1 _ rfl).1
       have hRf1:=(hR 1 _ rfl).2
       have hRi1:HasCell (y.world) (u.world.heap.size+1) 1:=⟨_,hR_1⟩
       have hRb:BlockIn (y.world) (u.world.heap.size+1):=BlockIn.of_cell hR_0
       clear hR
       go_wp2
       go_region
       all_goals go_wp2
       all_goals
        refine bodyPost_ret (by (simp[results,Tryz.results218,go_sem]<;>rfl)) rfl ?_
        exact ⟨rfl,gw⟩
      |succ i=>
       have hQ_0:=(hQ 0 _ rfl).1
       have hQf0:=(hQ 0 _ rfl).2
       have hQi0:HasCell (y.world) (u.world.heap.size) 0:=⟨_,hQ_0⟩
       have hQ_1:=(hQ 1 _ rfl).1
       have hQf1:=(hQ 1 _ rfl).2
       have hQi1:HasCell (y.world) (u.world.heap.size) 1:=⟨_,hQ_1⟩
       have hQb:BlockIn (y.world) (u.world.heap.size):=BlockIn.of_cell hQ_0
       clear hQ
       have hR_0:=(hR 0 _ rfl).1
       have hRf0:=(hR 0 _ rfl).2
       have hRi0:HasCell (y.world) (u.world.heap.size+1) 0:=⟨_,hR_0⟩
       have hR_1:=(hR 1 _ rfl).1
       have hRf1:=(hR 1 _ rfl).2
       have hRi1:HasCell (y.world) (u.world.heap.size+1) 1:=⟨_,hR_1⟩
       have hRb:BlockIn (y.world) (u.world.heap.size+1):=BlockIn.of_cell hR_0
       clear hR
       have hi:((i+1:Nat):Int)-1=i:=by omega
       rw[hi]
       clear hi
       obtain ⟨q0,q1,r0,r1,r2⟩:=Hbd.out (i+1)
       have hb2:=Hbb.out
       have hx2:=Hx.out
       unfold R128 at hx2
       have hst:=Hstep.out i
       have Hn:=Lib.hid (Hbd.out i)
       have HbI:=Lib.hid (Hbit.out i (by omega))
       generalize x/2^(i+1)/b=q at *
       generalize x/2^(i+1) % b=r at *
       have HH:=Lib.hid (show ∀ t,t=r+r+bitZ x i→(t<b→x/2^i/b=q+q∧x/2^i % b=t)∧(b≤t→x/2^i/b=q+q+1∧x/2^i % b=t+-b) by
        intro t ht
        have h:=hst t (by omega)
        exact ⟨fun k=>⟨by rw[(h.1 k).1];omega,(h.1 k).2⟩,fun k=>⟨by rw[(h.2 k).1];omega,by rw[(h.2 k).2];omega⟩⟩)
       have Hq:=Lib.hid (show R128 q by unfold R128;omega)
       have Hr:=Lib.hid (show R128 r by unfold R128;omega)
       have Hrr:=Lib.hid (show R128 (r+r) by unfold R128;omega)
       have Hrs:=Lib.hid (show R128 (r+r+1) by unfold R128;omega)
       have Hrm:=Lib.hid (show R128 (r+r+-b) by unfold R128;omega)
       have Hrn:=Lib.hid (show R128 (r+r+1+-b) by unfold R128;omega)
       have Hqx:=Lib.hid q0
       clear r1 r0 r2 q0 q1 hst hb2 hx2
       have HT1:=Lib.hid (fun w=>zby r Hr.out Hrr.out w)
       have HM:=Lib.hid (fun w=>zbx b Hb.out Hnb.out w)
       have HP1:=Lib.hid (fun w=>zbI (r+r) Hrr.out Hrs.out w)
       rcases za3 (decide (bitZ x i=1)) with hbit|hbit
       ·have hbz:bitZ x i=0:=by have:=zhb x i;simp at hbit;omega
        have H2:=Lib.hid (HH.out (r+r) (by omega))
        have Hbt:=Lib.hid hbit
        clear hbit hbz
        rcases zc5 (decide (r+r<b)) with hc|hc
        ·have Hf:=Lib.hid (H2.out.1 (by simpa using hc))
         have Hqq:=Lib.hid (show R128 (q+q) by have h1:=Hn.out;have h2:=Hx.out;rw[Hf.out.1] at h1;unfold R128 at *;omega)
         have HT2:=Lib.hid (fun w=>zby q Hq.out Hqq.out w)
         have Hc:=Lib.hid hc
         have HL:=Lib.hid (fun w=>zax Hc.out (zaI (r+r) b Hrr.out Hb.out w))
         clear hc
         go_wp2_with (first|(go_at_call 222;(with_reducible refine zaa (HT1.out _) ?_);intro u)|(go_at_call 222;(with_reducible refine zaa (HT2.out _) ?_);intro u)|(go_at_call 221;(with_reducible refine zaa (zax Hbt.out (HbI.out _)) ?_);intro u)|(go_at_call 67;(with_reducible refine zaa (HP1.out _) ?_);intro u)|(go_at_call 125;(with_reducible refine zaa (HL.out _) ?_);intro u))
         go_roundw
         case rel=>exact ⟨i,by go_num,by omega,gw,bxt,bxt,bxt,bxt,by rw[Hf.out.1];exact bxt,by rw[Hf.out.2];exact bxt⟩
         case measure=>simp[intOf]<;>omega
        ·have Hf:=Lib.hid (H2.out.2 (by simpa using hc))
         have Hqs:=Lib.hid (show R128 (q+q+1)∧R128 (q+q) by have h1:=Hn.out;have h2:=Hx.out;have h3:=Hqx.out;rw[Hf.out.1] at h1;unfold R128 at *;omega)
         have HT2:=Lib.hid (fun w=>zby q Hq.out Hqs.out.2 w)
         have HPq:=Lib.hid (fun w=>zbI (q+q) Hqs.out.2 Hqs.out.1 w)
         have HPt:=Lib.hid (fun w=>zcl (r+r) (-b) Hrr.out Hnb.out Hrm.out w)
         have Hc:=Lib.hid hc
         have HL:=Lib.hid (fun w=>zax Hc.out (zaI (r+r) b Hrr.out Hb.out w))
         clear hc
         go_wp2_with (first|(go_at_call 222;(with_reducible refine zaa (HT1.out _) ?_);intro u)|(go_at_call 222;(with_reducible refine zaa (HT2.out _) ?_);intro u)|(go_at_call 221;(with_reducible refine zaa (zax Hbt.out (HbI.out _)) ?_);intro u)|(go_at_call 67;(with_reducible refine zaa (HP1.out _) ?_);intro u)|(go_at_call 125;(with_reducible refine zaa (HL.out _) ?_);intro u))
         refine zay 4 [] [2,3] [] (fun W0=>[]) [.agg #[.int .i64 ((mkW (-b))).h,.int .u64 ((mkW (-b))).l],.agg #[.int .i64 ((mkW (r+r+-b))).h,.int .u64 ((mkW (r+r+-b))).l]] [4] (by rfl) (fun _ x hx=>absurd hx (List.not_mem_nil)) (by kernel_rfl) (by kernel_rfl) (by kernel_rfl) ?_
         intro p
         apply Exists.intro
         apply And.intro
         iterate 2 (apply zap (by kernel_rfl);(· intro u;unfold zae;go_simp;rfl))
         apply zaA 0 (by kernel_rfl) (by rfl) (by decide)
         ·intro u hF;clear hF;unfold zaw;go_simp;exact HM.out _
         apply zaA 1 (by kernel_rfl) (by rfl) (by decide)
         ·intro u hF;clear hF;unfold zaw;go_simp;exact HPt.out _
         apply zbi
         rotate_left
         ·rfl
         intro u hR hD
         clear hR hD
         refine zak (by rfl) ?_;unfold zav;go_simp
         refine zau ?_
         go_wp2_with (first|(go_at_call 67;(with_reducible refine zaa (HPq.out _) ?_);intro u))
         go_roundw
         case rel=>exact ⟨i,by go_num,by omega,gw,bxt,bxt,bxt,bxt,by rw[Hf.out.1];exact bxt,by rw[Hf.out.2];exact bxt⟩
         case measure=>simp[intOf]<;>omega
       ·have hbz:bitZ x i=1:=by simpa using hbit
        have H2:=Lib.hid (HH.out (r+r+1) (by omega))
        have Hbt:=Lib.hid hbit
        clear hbit hbz
        rcases zc5 (decide (r+r+1<b)) with hc|hc
        ·have Hf:=Lib.hid (H2.out.1 (by simpa using hc))
         have Hqq:=Lib.hid (show R128 (q+q) by have h1:=Hn.out;have h2:=Hx.out;rw[Hf.out.1] at h1;unfold R128 at *;omega)
         have HT2:=Lib.hid (fun w=>zby q Hq.out Hqq.out w)
         have Hc:=Lib.hid hc
         have HL:=Lib.hid (fun w=>zax Hc.out (zaI (r+r+1) b Hrs.out Hb.out w))
         clear hc
         go_wp2_with (first|(go_at_call 222;(with_reducible refine zaa (HT1.out _) ?_);intro u)|(go_at_call 222;(with_reducible refine zaa (HT2.out _) ?_);intro u)|(go_at_call 221;(with_reducible refine zaa (zax Hbt.out (HbI.out _)) ?_);intro u)|(go_at_call 67;(with_reducible refine zaa (HP1.out _) ?_);intro u)|(go_at_call 125;(with_reducible refine zaa (HL.out _) ?_);intro u))
         go_roundw
         case rel=>exact ⟨i,by go_num,by omega,gw,bxt,bxt,bxt,bxt,by rw[Hf.out.1];exact bxt,by rw[Hf.out.2];exact bxt⟩
         case measure=>simp[intOf]<;>omega
        ·have Hf:=Lib.hid (H2.out.2 (by simpa using hc))
         have Hqs:=Lib.hid (show R128 (q+q+1)∧R128 (q+q) by have h1:=Hn.out;have h2:=Hx.out;have h3:=Hqx.out;rw[Hf.out.1] at h1;unfold R128 at *;omega)
         have HT2:=Lib.hid (fun w=>zby q Hq.out Hqs.out.2 w)
         have HPq:=Lib.hid (fun w=>zbI (q+q) Hqs.out.2 Hqs.out.1 w)
         have HPt:=Lib.hid (fun w=>zcl (r+r+1) (-b) Hrs.out Hnb.out Hrn.out w)
         have Hc:=Lib.hid hc
         have HL:=Lib.hid (fun w=>zax Hc.out (zaI (r+r+1) b Hrs.out Hb.out w))
         clear hc
         go_wp2_with (first|(go_at_call 222;(with_reducible refine zaa (HT1.out _) ?_);intro u)|(go_at_call 222;(with_reducible refine zaa (HT2.out _) ?_);intro u)|(go_at_call 221;(with_reducible refine zaa (zax Hbt.out (HbI.out _)) ?_);intro u)|(go_at_call 67;(with_reducible refine zaa (HP1.out _) ?_);intro u)|(go_at_call 125;(with_reducible refine zaa (HL.out _) ?_);intro u))
         refine zay 4 [] [2,3] [] (fun W0=>[]) [.agg #[.int .i64 ((mkW (-b))).h,.int .u64 ((mkW (-b))).l],.agg #[.int .i64 ((mkW (r+r+1+-b))).h,.int .u64 ((mkW (r+r+1+-b))).l]] [4] (by rfl) (fun _ x hx=>absurd hx (List.not_mem_nil)) (by kernel_rfl) (by kernel_rfl) (by kernel_rfl) ?_
         intro p
         apply Exists.intro
         apply And.intro
         iterate 2 (apply zap (by kernel_rfl);(· intro u;unfold zae;go_simp;rfl))
         apply zaA 0 (by kernel_rfl) (by rfl) (by decide)
         ·intro u hF;clear hF;unfold zaw;go_simp;exact HM.out _
         apply zaA 1 (by kernel_rfl) (by rfl) (by decide)
         ·intro u hF;clear hF;unfold zaw;go_simp;exact HPt.out _
         apply zbi
         rotate_left
         ·rfl
         intro u hR hD
         clear hR hD
         refine zak (by rfl) ?_;unfold zav;go_simp
         refine zau ?_
         go_wp2_with (first|(go_at_call 67;(with_reducible refine zaa (HPq.out _) ?_);intro u))
         go_roundw
         case rel=>exact ⟨i,by go_num,by omega,gw,bxt,bxt,bxt,bxt,by rw[Hf.out.1];exact bxt,by rw[Hf.out.2];exact bxt⟩
         case measure=>simp[intOf]<;>omega
theorem zjK (x b:Int) (h0:0≤x) (hx:R128 x) (hb0:0<b) (hb:b≤42535295865117307932921825928971026432) (w:World):Calls Tryz.prog 218 #[.agg #[.int .i64 (mkW x).h,.int .u64 (mkW x).l],.agg #[.int .i64 (mkW b).h,.int .u64 (mkW b).l]] w fun e w'=>e=.returned (.tuple #[.agg #[.int .i64 (mkW (x/b)).h,.int .u64 (mkW (x/b)).l],.agg #[.int .i64 (mkW (x % b)).h,.int .u64 (mkW (x % b)).l]])∧Grew w w':=by
 by_cases h:x<18446744073709551616∧b<18446744073709551616
 ·exact zhY x b h0 h.1 hb0 h.2 w
 ·refine ziP x b h0 hx hb0 hb ?_ w
  rw[zoF,zoF,Bool.and_eq_false_iff,beq_eq_false_iff_ne,beq_eq_false_iff_ne]
  unfold R128 at hx
  omega
end Go.Proofs.YtdkfkalplmgoeaaGreat
namespace Go.Proofs.YtdkfkalplmgoeaaGreat
open Go.RowKit
set_option maxRecDepth 100000
set_option maxHeartbeats 4000000
theorem zqF (m d:Int) (hd:1≤d) (hb:decide (m % d=0)=true):upZ m d=m/d:=by rw[zjH m d hd,if_pos (by simpa using hb)]
theorem zoh (m d:Int) (hd:1≤d) (hb:decide (m % d=0)=false):upZ m d=m/d+1:=by rw[zjH m d hd,if_neg (by simpa using hb)]
theorem zeU (x b:Int) (h1:-42535295865117307932921825928971026432≤x) (h2:x≤42535295865117307932921825928971026432) (hb0:0<b) (hb:b≤42535295865117307932921825928971026432) (w:World):Calls Tryz.prog 207 #[.agg #[.int .i64 (mkW x).h,.int .u64 (mkW x).l],.agg #[.int .i64 (mkW b).h,.int .u64 (mkW b).l]] w fun e w'=>e=.returned (.tuple #[.agg #[.int .i64 (mkW (zbY x b)).h,.int .u64 (mkW (zbY x b)).l],.agg #[.int .i64 (mkW (upZ x b)).h,.int .u64 (mkW (upZ x b)).l]])∧Grew w w':=by
 obtain ⟨M,hM,hM0⟩:∃ M:Int,(x=M∨x=-M)∧0≤M∧(x<0→x=-M)∧(0≤x→x=M):=by
  by_cases h:x<0
  ·exact ⟨-x,by omega,by omega,by omega,by omega⟩
  ·exact ⟨x,by omega,by omega,by omega,by omega⟩
 obtain ⟨hM0,hneg,hpos⟩:=hM0
 have hMR:M≤42535295865117307932921825928971026432:=by omega
 have hq:=zmt M b 0 hM0 hb0
 rw[Int.pow_zero,Int.ediv_one] at hq
 obtain ⟨q0,q1,r0,r1,r2⟩:=hq
 have HD:=Lib.hid (fun w=>zjK M b hM0 (by unfold R128;omega) hb0 hb w)
 have HS:=Lib.hid (fun w=>zhZ (M % b) (by unfold R128;omega) w)
 have HP:=Lib.hid (fun w=>zbI (M/b) (by unfold R128;omega) (by unfold R128;omega) w)
 have HMx:=Lib.hid (fun (h:x=-M) w=>(show Calls Tryz.prog 165 #[.agg #[.int .i64 (mkW x).h,.int .u64 (mkW x).l]] w fun e w'=>e=.returned (.agg #[.int .i64 (mkW M).h,.int .u64 (mkW M).l])∧Grew w w' from by have:=zbx x (by unfold R128;omega) (by unfold R128;omega) w;rwa [show -x=M by omega] at this))
 have HMq:=Lib.hid (fun w=>zbx (M/b) (by unfold R128;omega) (by unfold R128;omega) w)
 have HMs:=Lib.hid (fun w=>zbx (M/b+1) (by unfold R128;omega) (by unfold R128;omega) w)
 have hxh:(mkW x).h=x/18446744073709551616:=rfl
 have Hup1:=Lib.hid (zqF M b (by omega))
 have Hup2:=Lib.hid (zoh M b (by omega))
 by_cases hs:x<0
 ·have hx:=hneg hs
  have hlt:decide ((mkW x).h<0)=true:=by rw[hxh];simp;omega
  have Hd:=Lib.hid (show zbY x b=-upZ M b by rw[hx];exact zlK M b)
  have Hu:=Lib.hid (show upZ x b=-(M/b) by rw[hx];exact zpP M b)
  have HMx:=Lib.hid (HMx.out hx)
  clear hM hneg hpos hxh hx hs h1 h2 hb0 hb hM0 hMR q0 q1 r0 r1 r2
  rcases za3 (decide (M % b=0)) with hz|hz
  ·have Hz:=Lib.hid hz
   have Hn:=Lib.hid (Hup2.out hz)
   clear hz
   go_enter Tryz.func207,Tryz.ntmps207
   go_wp2_with (first|(go_at_call 165;(with_reducible refine zaa (HMx.out _) ?_);intro ux)|(go_at_call 218;(with_reducible refine zaa (HD.out _) ?_);intro ud)|(go_at_call 219;(with_reducible refine zaa (zax Hz.out (HS.out _)) ?_);intro us)|(go_at_call 67;(with_reducible refine zaa (HP.out _) ?_);intro up))
   go_region_held3 (fun w'=>w'.cell? ⟨ud.world.heap.size,0,none⟩=some (.int .i64 (mkW (M/b)).h)∧w'.cell? ⟨ud.world.heap.size,1,none⟩=some (.int .u64 (mkW (M/b)).l)∧w'.cell? ⟨ud.world.heap.size+1+1,0,none⟩=some (.int .i64 (mkW (M/b+1)).h)∧w'.cell? ⟨ud.world.heap.size+1+1,1,none⟩=some (.int .u64 (mkW (M/b+1)).l)) (first|exact ⟨(by go_simp),(by go_simp),(by go_simp),(by go_simp)⟩) (first|(go_at_call 165;(with_reducible refine zaa (HMs.out _) ?_);intro u)|(go_at_call 165;(with_reducible refine zaa (HMq.out _) ?_);intro u))
   go_wp2
   refine bodyPost_ret (by (simp[results,Tryz.results207,go_sem]<;>rfl)) rfl ?_
   exact ⟨zgr (by rw[Hd.out,Hn.out]) (by rw[Hu.out]),gw⟩
  ·have Hz:=Lib.hid hz
   have Hn:=Lib.hid (Hup1.out hz)
   clear hz
   go_enter Tryz.func207,Tryz.ntmps207
   go_wp2_with (first|(go_at_call 165;(with_reducible refine zaa (HMx.out _) ?_);intro ux)|(go_at_call 218;(with_reducible refine zaa (HD.out _) ?_);intro ud)|(go_at_call 219;(with_reducible refine zaa (zax Hz.out (HS.out _)) ?_);intro us)|(go_at_call 67;(with_reducible refine zaa (HP.out _) ?_);intro up))
   go_region_held3 (fun w'=>w'.cell? ⟨ud.world.heap.size,0,none⟩=some (.int .i64 (mkW (M/b)).h)∧w'.cell? ⟨ud.world.heap.size,1,none⟩=some (.int .u64 (mkW (M/b)).l)∧w'.cell? ⟨ud.world.heap.size+1+1,0,none⟩=some (.int .i64 (mkW (M/b)).h)∧w'.cell? ⟨ud.world.heap.size+1+1,1,none⟩=some (.int .u64 (mkW (M/b)).l)) (first|exact ⟨(by go_simp),(by go_simp),(by go_simp),(by go_simp)⟩) (first|(go_at_call 165;(with_reducible refine zaa (HMq.out _) ?_);intro u))
   go_wp2
   refine bodyPost_ret (by (simp[results,Tryz.results207,go_sem]<;>rfl)) rfl ?_
   exact ⟨zgr (by rw[Hd.out,Hn.out]) (by rw[Hu.out]),gw⟩
 ·have hx:=hpos (by omega)
  have hlt:decide ((mkW x).h<0)=false:=by rw[hxh];simp;omega
  rw[hx] at hlt ⊢
  clear hM hneg hpos hxh hx hs h1 h2 hb0 hb hM0 hMR q0 q1 r0 r1 r2 HMx
  rcases za3 (decide (M % b=0)) with hz|hz
  ·have Hz:=Lib.hid hz
   have Hn:=Lib.hid (Hup2.out hz)
   clear hz
   go_enter Tryz.func207,Tryz.ntmps207
   go_wp2_with (first|(go_at_call 218;(with_reducible refine zaa (HD.out _) ?_);intro ud)|(go_at_call 219;(with_reducible refine zaa (zax Hz.out (HS.out _)) ?_);intro us)|(go_at_call 67;(with_reducible refine zaa (HP.out _) ?_);intro up)|go_region)
   all_goals
    refine bodyPost_ret (by (simp[results,Tryz.results207,go_sem]<;>rfl)) rfl ?_
    exact ⟨zgr rfl (by rw[Hn.out]),gw⟩
  ·have Hz:=Lib.hid hz
   have Hn:=Lib.hid (Hup1.out hz)
   clear hz
   go_enter Tryz.func207,Tryz.ntmps207
   go_wp2_with (first|(go_at_call 218;(with_reducible refine zaa (HD.out _) ?_);intro ud)|(go_at_call 219;(with_reducible refine zaa (zax Hz.out (HS.out _)) ?_);intro us)|(go_at_call 67;(with_reducible refine zaa (HP.out _) ?_);intro up)|go_region)
   all_goals
    refine bodyPost_ret (by (simp[results,Tryz.results207,go_sem]<;>rfl)) rfl ?_
    exact ⟨zgr rfl (by rw[Hn.out]),gw⟩
theorem zmY (a b:Int) (ha:I64 a) (hb:I64 b) (h0:b≠0) (w:World):Calls Tryz.prog 186 #[.agg #[.int .i64 (mkW a).h,.int .u64 (mkW a).l],.agg #[.int .i64 (mkW b).h,.int .u64 (mkW b).l]] w fun e w'=>e=.returned (.tuple #[.agg #[.int .i64 (mkW (zbC a b)).h,.int .u64 (mkW (zbC a b)).l],.agg #[.int .i64 (mkW (zdI a b)).h,.int .u64 (mkW (zdI a b)).l]])∧Grew w w':=by
 have hbh:(mkW b).h=b/18446744073709551616:=rfl
 have Ha:=ha
 have Hb:=hb
 unfold I64 at ha hb
 have HMa:=Lib.hid (fun w=>zbx a (zhH Ha) (zkh Ha) w)
 have HMb:=Lib.hid (fun w=>zbx b (zhH Hb) (zkh Hb) w)
 by_cases hs:b<0
 ·have hlt:decide ((mkW b).h<0)=true:=by rw[hbh];simp;omega
  have HU:=Lib.hid (fun w=>zeV (-a) (by omega) w)
  have HQ:=Lib.hid (fun w=>zeU (-a*4294967296) (-b) (by omega) (by omega) (by omega) (by omega) w)
  have Hr1:=Lib.hid (show zbY (-a*4294967296) (-b)=zbC a b by unfold zbC;rw[if_pos hs])
  have Hr2:=Lib.hid (show upZ (-a*4294967296) (-b)=zdI a b by unfold zdI;rw[if_pos hs])
  clear ha hb Ha Hb h0 hs hbh
  go_enter Tryz.func186,Tryz.ntmps186
  go_wp2_with (first|(go_at_call 165;(with_reducible refine zaa (HMa.out _) ?_);intro u)|(go_at_call 165;(with_reducible refine zaa (HMb.out _) ?_);intro u))
  refine zay 6 [] [1,3] [] (fun W0=>[]) [.agg #[.int .i64 ((mkW (-a*4294967296))).h,.int .u64 ((mkW (-a*4294967296))).l],.tuple #[.agg #[.int .i64 ((mkW (zbY (-a*4294967296) (-b)))).h,.int .u64 ((mkW (zbY (-a*4294967296) (-b)))).l],.agg #[.int .i64 ((mkW (upZ (-a*4294967296) (-b)))).h,.int .u64 ((mkW (upZ (-a*4294967296) (-b)))).l]]] [6,7] (by rfl) (fun _ x hx=>absurd hx (List.not_mem_nil)) (by kernel_rfl) (by kernel_rfl) (by kernel_rfl) ?_
  intro p
  apply Exists.intro
  apply And.intro
  apply zap (by kernel_rfl)
  ·intro u;unfold zae;go_simp;rfl
  apply zaA 0 (by kernel_rfl) (by rfl) (by decide)
  ·intro u hF;clear hF;unfold zaw;go_simp;exact HU.out _
  apply zap (by kernel_rfl)
  ·intro u;unfold zae;go_simp;rfl
  apply zaA 1 (by kernel_rfl) (by rfl) (by decide)
  ·intro u hF;clear hF;unfold zaw;go_simp;exact HQ.out _
  iterate 2 (apply zap (by kernel_rfl);(· intro u;unfold zae;go_simp;rfl))
  apply zbi
  rotate_left
  ·rfl
  intro u hR hD
  clear hR hD
  refine zak (by rfl) ?_;unfold zav;go_simp
  refine zak (by rfl) ?_;unfold zav;go_simp
  refine zau ?_
  go_wp2
  refine bodyPost_ret (by (simp[results,Tryz.results186,go_sem]<;>rfl)) rfl ?_
  exact ⟨zgr (by rw[←Hr1.out]) (by rw[←Hr2.out]),gw⟩
 ·have hlt:decide ((mkW b).h<0)=false:=by rw[hbh];simp;omega
  have HU:=Lib.hid (fun w=>zeV a (by omega) w)
  have HQ:=Lib.hid (fun w=>zeU (a*4294967296) b (by omega) (by omega) (by omega) (by omega) w)
  have Hr1:=Lib.hid (show zbY (a*4294967296) b=zbC a b by unfold zbC;rw[if_neg hs])
  have Hr2:=Lib.hid (show upZ (a*4294967296) b=zdI a b by unfold zdI;rw[if_neg hs])
  clear ha hb Ha Hb h0 hs hbh
  go_enter Tryz.func186,Tryz.ntmps186
  go_wp2
  refine zay 6 [] [1,3] [] (fun W0=>[]) [.agg #[.int .i64 ((mkW (a*4294967296))).h,.int .u64 ((mkW (a*4294967296))).l],.tuple #[.agg #[.int .i64 ((mkW (zbY (a*4294967296) b))).h,.int .u64 ((mkW (zbY (a*4294967296) b))).l],.agg #[.int .i64 ((mkW (upZ (a*4294967296) b))).h,.int .u64 ((mkW (upZ (a*4294967296) b))).l]]] [6,7] (by rfl) (fun _ x hx=>absurd hx (List.not_mem_nil)) (by kernel_rfl) (by kernel_rfl) (by kernel_rfl) ?_
  intro p
  apply Exists.intro
  apply And.intro
  apply zap (by kernel_rfl)
  ·intro u;unfold zae;go_simp;rfl
  apply zaA 0 (by kernel_rfl) (by rfl) (by decide)
  ·intro u hF;clear hF;unfold zaw;go_simp;exact HU.out _
  apply zap (by kernel_rfl)
  ·intro u;unfold zae;go_simp;rfl
  apply zaA 1 (by kernel_rfl) (by rfl) (by decide)
  ·intro u hF;clear hF;unfold zaw;go_simp;exact HQ.out _
  iterate 2 (apply zap (by kernel_rfl);(· intro u;unfold zae;go_simp;rfl))
  apply zbi
  rotate_left
  ·rfl
  intro u hR hD
  clear hR hD
  refine zak (by rfl) ?_;unfold zav;go_simp
  refine zak (by rfl) ?_;unfold zav;go_simp
  refine zau ?_
  go_wp2
  refine bodyPost_ret (by (simp[results,Tryz.results186,go_sem]<;>rfl)) rfl ?_
  exact ⟨zgr (by rw[←Hr1.out]) (by rw[←Hr2.out]),gw⟩
end Go.Proofs.YtdkfkalplmgoeaaGreat
namespace Go.Proofs.YtdkfkalplmgoeaaGreat
open Go.RowKit
set_option maxRecDepth 100000
set_option maxHeartbeats 4000000
def zdf (a b:Sp) (k:Nat):Int:=zbC ((zaN a b)[k]?.getD (0,0)).1 ((zaN a b)[k]?.getD (0,0)).2
def zdg (a b:Sp) (k:Nat):Int:=zdI ((zaN a b)[k]?.getD (0,0)).1 ((zaN a b)[k]?.getD (0,0)).2
theorem zkx {a b:Sp} (h1:b.lo≠0) (h2:b.hi≠0) (k:Nat) (hk:k<4):((zaN a b)[k]?.getD (0,0)).2≠0:=by
 match k,hk with
 |0,_=>exact h1
 |1,_=>exact h2
 |2,_=>exact h1
 |3,_=>exact h2
theorem zju (a b:Sp) [ha:S64 a] [hb:S64 b] (k:Nat):(-39614081257132168796771975168≤zdf a b k∧zdf a b k≤39614081257132168796771975168)∧(-39614081257132168796771975168≤zdg a b k∧zdg a b k≤39614081257132168796771975168):=by
 have h:=zc6 a b k
 by_cases h0:((zaN a b)[k]?.getD (0,0)).2=0
 ·unfold zdf zdg
  rw[h0]
  unfold zbC zdI zbY upZ
  simp
 ·exact zqs _ _ h.1 h0
theorem zea {x:Int} (h:-39614081257132168796771975168≤x∧x≤39614081257132168796771975168):R128 x:=by unfold R128;omega
theorem zni {a b:Sp} (hk:(a.okB&&b.okB)=true) (hz:(decide (b.lo≤0)&&decide (0≤b.hi))=false):divR a b=fitR (loK (zdf a b) 4) (hiK (zdg a b) 4):=by
 unfold divR
 rw[hk,hz,zqg,zqe]
 rfl
theorem zhK (a b:Sp) [ha:S64 a] [hb:S64 b] (w:World):Calls Tryz.prog 145 #[.agg #[.int .i64 a.lo,.int .i64 a.hi],.agg #[.int .i64 b.lo,.int .i64 b.hi]] w fun e w'=>e=.returned (.tuple #[.agg #[.int .i64 (divR a b).s.lo,.int .i64 (divR a b).s.hi],.int .i64 (divR a b).e])∧Grew w w':=by
 cases hk:(a.okB&&b.okB)
 ·have Hf:=Lib.hid (show errR 2=divR a b by unfold divR;rw[hk];rfl)
  go_enter Tryz.func145,Tryz.ntmps145
  go_wp2_with (first|(go_at_call 65;(with_reducible refine zaa (zc9 a b hk _) ?_);intro u)|((with_reducible refine zac ?_ ?_ ?_);(· kernel_rfl);(· kernel_rfl);(try simp only[List.append_eq,List.cons_append,List.nil_append]);(repeat (go_big_quiet_step ((first|(go_at_call 65;(with_reducible exact zad (zc9 a b hk _)))))));refine wpQuiet_nil ?_;rintro _ ⟨u,rfl⟩))
  refine bodyPost_ret (by (simp[results,Tryz.results145,go_sem]<;>rfl)) rfl ?_
  exact ⟨zaJ Hf.out rfl,gw⟩
 ·by_cases hz:b.lo≤0∧0≤b.hi
  ·have Hf:=Lib.hid (show errR 10=divR a b by unfold divR;rw[hk,show (decide (b.lo≤0)&&decide (0≤b.hi))=true by simp[hz]];rfl)
   obtain ⟨hz1,hz2⟩:=hz
   go_enter Tryz.func145,Tryz.ntmps145
   go_wp2_with (first|(go_at_call 65;(with_reducible refine zaa (zbR a b hk _) ?_);intro u)|((with_reducible refine zac ?_ ?_ ?_);(· kernel_rfl);(· kernel_rfl);(try simp only[List.append_eq,List.cons_append,List.nil_append]);(repeat (go_big_quiet_step ((first|(go_at_call 65;(with_reducible exact zad (zbR a b hk _)))))));refine wpQuiet_nil ?_;rintro _ ⟨u,rfl⟩))
   refine bodyPost_ret (by (simp[results,Tryz.results145,go_sem]<;>rfl)) rfl ?_
   exact ⟨zaJ Hf.out rfl,gw⟩
  ·have hlo:=(zbZ (Bool.and_eq_true_iff.1 hk).2).2.2
   have hb1:b.lo≠0:=by omega
   have hb2:b.hi≠0:=by omega
   have hz':(decide (b.lo≤0)&&decide (0≤b.hi))=false:=by
    by_cases h1:b.lo≤0<;>simp[h1] ;omega
   have hzz:decide (b.lo≤0)=false∨(decide (b.lo≤0)=true∧decide (0≤b.hi)=false):=by
    by_cases h1:b.lo≤0<;>simp[h1] ;omega
   have Hf:=Lib.hid (zni hk hz').symm
   have Hle:=Lib.hid (fun k=>zju a b k)
   have Hlo:=Lib.hid (fun k=>zl7 (zdf a b) 39614081257132168796771975168 (by omega) (fun k=>(zju a b k).1) k)
   have Hhi:=Lib.hid (fun k=>zlW (zdg a b) 39614081257132168796771975168 (by omega) (fun k=>(zju a b k).2) k)
   have Hne:=Lib.hid (zkx (a:=a) hb1 hb2)
   clear hlo hb1 hb2 hz hz'
   rcases hzz with hz1|⟨hz1,hz2⟩
   all_goals
    go_enter Tryz.func145,Tryz.ntmps145
    go_wp2_with (first|(go_at_call 65;(with_reducible refine zaa (zbR a b hk _) ?_);intro u)|((with_reducible refine zac ?_ ?_ ?_);(· kernel_rfl);(· kernel_rfl);(try simp only[List.append_eq,List.cons_append,List.nil_append]);(repeat (go_big_quiet_step ((first|(go_at_call 65;(with_reducible exact zad (zbR a b hk _)))))));refine wpQuiet_nil ?_;rintro _ ⟨u,rfl⟩))
    go_wp2_with fail
    refine (zfr a b _).mono ?_
    rintro e w' ⟨b1,rfl,hb1,hL,hg⟩
    simp only[World.size_alloc] at hb1
    obtain ⟨u2,rfl⟩:=zaj hg
    clear hg
    have HL:=Lib.hid hL
    clear hL
    have ap1:Apart b1 u.world.heap.size:=⟨by omega⟩
    have ap2:Apart b1 (u.world.heap.size+1):=⟨by omega⟩
    have nu:w.heap.size+1+1+1≤u.world.heap.size:=by have:=u.grew.size;simpa using this
    have:Apart (w.heap.size+1+1) (u.world.heap.size):=⟨by omega⟩
    have:Apart (w.heap.size+1+1) (u.world.heap.size+1):=⟨by omega⟩
    have:Apart (u.world.heap.size) (w.heap.size+1+1):=⟨by omega⟩
    have:Apart (u.world.heap.size+1) (w.heap.size+1+1):=⟨by omega⟩
    have nw6:NewFor w u.world.heap.size:=⟨by have:=u.grew.size;simp at this;omega⟩
    have nw7:NewFor w (u.world.heap.size+1):=⟨by have:=u.grew.size;simp at this;omega⟩
    clear hb1
    go_wp2
    go_loopw [9] (fun t wr=>∃ k:Nat,t=.int .i64 k∧k≤4∧Grew w wr∧zan wr (w.heap.size+1+1) [.int .i64 0,.int .i64 0]∧zan wr u.world.heap.size [.int .i64 (mkW (loK (zdf a b) k)).h,.int .u64 (mkW (loK (zdf a b) k)).l]∧zan wr (u.world.heap.size+1) [.int .i64 (mkW (hiK (zdg a b) k)).h,.int .u64 (mkW (hiK (zdg a b) k)).l]∧LAt wr b1 a b) (fun t _=>4-(intOf t).toNat)
    case atStart=>exact ⟨0,rfl,by omega,gw,bxt,zdK (by go_simp;rfl) (by go_simp) (by go_simp;rfl) (by go_simp),zdK (by go_simp;rfl) (by go_simp) (by go_simp;rfl) (by go_simp),HL.out⟩
    case round=>
     obtain ⟨k,rfl,hk,hg,hC,hA,hB,hL⟩:=hrel
     obtain ⟨z,rfl⟩:=zaj hg
     clear hg
     by_cases hlt:k<4
     ·obtain ⟨hc1,hc2⟩:=hL.elem k hlt
      have ib:BlockIn z.world b1:=BlockIn.of_cell hc1
      have HL:=Lib.hid hL
      clear hL
      have hC_0:=(hC 0 _ rfl).1
      have hCf0:=(hC 0 _ rfl).2
      have hCi0:HasCell (z.world) (w.heap.size+1+1) 0:=⟨_,hC_0⟩
      have hC_1:=(hC 1 _ rfl).1
      have hCf1:=(hC 1 _ rfl).2
      have hCi1:HasCell (z.world) (w.heap.size+1+1) 1:=⟨_,hC_1⟩
      have hCb:BlockIn (z.world) (w.heap.size+1+1):=BlockIn.of_cell hC_0
      clear hC
      have hA_0:=(hA 0 _ rfl).1
      have hAf0:=(hA 0 _ rfl).2
      have hAi0:HasCell (z.world) (u.world.heap.size) 0:=⟨_,hA_0⟩
      have hA_1:=(hA 1 _ rfl).1
      have hAf1:=(hA 1 _ rfl).2
      have hAi1:HasCell (z.world) (u.world.heap.size) 1:=⟨_,hA_1⟩
      have hAb:BlockIn (z.world) (u.world.heap.size):=BlockIn.of_cell hA_0
      clear hA
      have hB_0:=(hB 0 _ rfl).1
      have hBf0:=(hB 0 _ rfl).2
      have hBi0:HasCell (z.world) (u.world.heap.size+1) 0:=⟨_,hB_0⟩
      have hB_1:=(hB 1 _ rfl).1
      have hBf1:=(hB 1 _ rfl).2
      have hBi1:HasCell (z.world) (u.world.heap.size+1) 1:=⟨_,hB_1⟩
      have hBb:BlockIn (z.world) (u.world.heap.size+1):=BlockIn.of_cell hB_0
      clear hB
      obtain ⟨hi1,hi2⟩:=zc6 a b k
      have hT1:=fun w=>zeW _ hi1 w
      have hT2:=fun w=>zeW _ hi2 w
      have hT:=fun w=>zmY _ _ hi1 hi2 (Hne.out k hlt) w
      rw[show zbC ((zaN a b)[k]?.getD (0,0)).1 ((zaN a b)[k]?.getD (0,0)).2=zdf a b k from rfl,show zdI ((zaN a b)[k]?.getD (0,0)).1 ((zaN a b)[k]?.getD (0,0)).2=zdg a b k from rfl] at hT
      have HT:=Lib.hid hT
      have HT1:=Lib.hid hT1
      have HT2:=Lib.hid hT2
      clear hi1 hi2 hT hT1 hT2
      generalize ((zaN a b)[k]?.getD (0,0)).1=x at *
      generalize ((zaN a b)[k]?.getD (0,0)).2=y at *
      have Hpr:=Lib.hid (zea (Hle.out k).1)
      have Hqr:=Lib.hid (zea (Hle.out k).2)
      have Hlr:=Lib.hid (zea (Hlo.out k))
      have Hhr:=Lib.hid (zea (Hhi.out k))
      have hsz:=hBb.lt
      rcases za3 ((k:Int)==0) with k0|k0
      ·have hk0:k≠0:=by simpa using k0
       have Hs1:=Lib.hid (zj7 (zdf a b) k hk0)
       have Hs2:=Lib.hid (zj3 (zdg a b) k hk0)
       clear hk0
       rcases za3 (decide (zdf a b k<loK (zdf a b) k)) with c1|c1<;>rcases za3 (decide (hiK (zdg a b) k<zdg a b k)) with c2|c2
       all_goals
        have C1:=Lib.hid c1
        have C2:=Lib.hid c2
        clear c1 c2
        have HL1:=Lib.hid (fun w=>zax C1.out (zaI (zdf a b k) (loK (zdf a b) k) Hpr.out Hlr.out w))
        have HL2:=Lib.hid (fun w=>zax C2.out (zaI (hiK (zdg a b) k) (zdg a b k) Hhr.out Hqr.out w))
        have Hs1':=Lib.hid (show loK (zdf a b) (k+1)=_ from Hs1.out)
        have Hs2':=Lib.hid (show hiK (zdg a b) (k+1)=_ from Hs2.out)
        rw[C1.out] at Hs1'
        rw[C2.out] at Hs2'
        clear Hs1 Hs2
        go_wp2
        refine zay 18 [16,17] [5,11,12] [15] (fun W0=>[(16,BoxR W0 [.int .i64 0,.int .u64 0]),(17,BoxR W0 [.int .i64 0,.int .u64 0])]) [.agg #[.int .i64 ((mkW x)).h,.int .u64 ((mkW x)).l],.agg #[.int .i64 ((mkW y)).h,.int .u64 ((mkW y)).l],.tuple #[.agg #[.int .i64 ((mkW (zdf a b k))).h,.int .u64 ((mkW (zdf a b k))).l],.agg #[.int .i64 ((mkW (zdg a b k))).h,.int .u64 ((mkW (zdg a b k))).l]]] [18,19] (by rfl) (by intro W0 x hx;simp only[List.mem_cons,List.not_mem_nil,or_false] at hx;rcases hx with rfl|rfl<;>first|exact zbW _ _|exact zbW _ _) (by kernel_rfl) (by kernel_rfl) (by kernel_rfl) ?_
        intro p
        apply Exists.intro
        apply And.intro
        iterate 5 (apply zap (by kernel_rfl);(· intro u;unfold zae;go_simp;rfl))
        apply zaA 0 (by kernel_rfl) (by rfl) (by decide)
        ·intro u hF;clear hF;unfold zaw;go_simp;exact HT1.out _
        iterate 5 (apply zap (by kernel_rfl);(· intro u;unfold zae;go_simp;rfl))
        apply zaA 1 (by kernel_rfl) (by rfl) (by decide)
        ·intro u hF;clear hF;unfold zaw;go_simp;exact HT2.out _
        apply zaA 2 (by kernel_rfl) (by rfl) (by decide)
        ·intro u hF;clear hF;unfold zaw;go_simp;exact HT.out _
        iterate 2 (apply zap (by kernel_rfl);(· intro u;unfold zae;go_simp;rfl))
        apply zcd (by kernel_rfl)
        ·intro u;unfold zae;go_simp;rfl
        apply zce (by kernel_rfl)
        ·intro u hF;clear hF;unfold za6;go_simp;exact zbX _ _ _ _
        apply zce (by kernel_rfl)
        ·intro u hF;clear hF;unfold za6;go_simp;exact zbX _ _ _ _
        apply zbi
        rotate_left
        ·rfl
        intro u hR hD
        obtain ⟨q16,e16,hB16,kB16,nB16⟩:=(show BoxR _ [.int .i64 0,.int .u64 0] (p 16) u.world from hR 16 (by decide))
        obtain ⟨q17,e17,hB17,kB17,nB17⟩:=(show BoxR _ [.int .i64 0,.int .u64 0] (p 17) u.world from hR 17 (by decide))
        have hd17:=hD 16 17 (by decide) (by decide) (by decide)
        rw[e16,e17] at hd17
        obtain ⟨ap16_17,ap17_16⟩:=zcQ hd17
        clear hd17
        clear hR hD
        rw[e16]
        clear e16
        have oB16:=zaO nB16
        have oC16:=zaP nB16
        have nC16:NewFor z.world q16:=⟨Nat.le_trans (Grew.size gw) nB16.le⟩
        have hB16_0:=(hB16 0 _ rfl).1
        have hB16f0:=(hB16 0 _ rfl).2
        have hB16i0:HasCell (u.world) (q16) 0:=⟨_,hB16_0⟩
        have hB16_1:=(hB16 1 _ rfl).1
        have hB16f1:=(hB16 1 _ rfl).2
        have hB16i1:HasCell (u.world) (q16) 1:=⟨_,hB16_1⟩
        have hB16b:BlockIn (u.world) (q16):=BlockIn.of_cell hB16_0
        clear hB16
        rw[e17]
        clear e17
        have oB17:=zaO nB17
        have oC17:=zaP nB17
        have nC17:NewFor z.world q17:=⟨Nat.le_trans (Grew.size gw) nB17.le⟩
        have hB17_0:=(hB17 0 _ rfl).1
        have hB17f0:=(hB17 0 _ rfl).2
        have hB17i0:HasCell (u.world) (q17) 0:=⟨_,hB17_0⟩
        have hB17_1:=(hB17 1 _ rfl).1
        have hB17f1:=(hB17 1 _ rfl).2
        have hB17i1:HasCell (u.world) (q17) 1:=⟨_,hB17_1⟩
        have hB17b:BlockIn (u.world) (q17):=BlockIn.of_cell hB17_0
        clear hB17
        refine zak (by rfl) ?_;unfold zav;go_simp
        refine zak (by rfl) ?_;unfold zav;go_simp
        refine zau ?_
        have nw16:NewFor w q16:=⟨Nat.le_trans (Grew.size z.grew) nC16.le⟩
        have nw17:NewFor w q17:=⟨Nat.le_trans (Grew.size z.grew) nC17.le⟩
        go_wp2_with (first|(go_at_call 125;(with_reducible refine zaa (HL1.out _) ?_);intro u)|(go_at_call 125;(with_reducible refine zaa (HL2.out _) ?_);intro u)|((with_reducible refine zac ?_ ?_ ?_);(· kernel_rfl);(· kernel_rfl);(try simp only[List.append_eq,List.cons_append,List.nil_append]);(repeat (go_big_quiet_step ((first|(go_at_call 125;(with_reducible exact zad (HL1.out _)))|(go_at_call 125;(with_reducible exact zad (HL2.out _)))))));refine wpQuiet_nil ?_;rintro _ ⟨u,rfl⟩))
        go_roundw
        case rel=>
         refine ⟨k+1,by go_num,by omega,gw,bxt,?_,?_,fun i x hx=>by have h1:=HL.out i x hx;go_simp⟩
         ·rw[Hs1'.out]
          exact bxt
         ·rw[Hs2'.out]
          exact bxt
        case measure=>simp[intOf];omega
      ·have hk0:k=0:=by simpa using k0
       have Hs1:=Lib.hid (show loK (zdf a b) (k+1)=zdf a b k by rw[hk0];rfl)
       have Hs2:=Lib.hid (show hiK (zdg a b) (k+1)=zdg a b k by rw[hk0];rfl)
       clear hk0
       go_wp2
       refine zay 18 [16,17] [5,11,12] [15] (fun W0=>[(16,BoxR W0 [.int .i64 0,.int .u64 0]),(17,BoxR W0 [.int .i64 0,.int .u64 0])]) [.agg #[.int .i64 ((mkW x)).h,.int .u64 ((mkW x)).l],.agg #[.int .i64 ((mkW y)).h,.int .u64 ((mkW y)).l],.tuple #[.agg #[.int .i64 ((mkW (zdf a b k))).h,.int .u64 ((mkW (zdf a b k))).l],.agg #[.int .i64 ((mkW (zdg a b k))).h,.int .u64 ((mkW (zdg a b k))).l]]] [18,19] (by rfl) (by intro W0 x hx;simp only[List.mem_cons,List.not_mem_nil,or_false] at hx;rcases hx with rfl|rfl<;>first|exact zbW _ _|exact zbW _ _) (by kernel_rfl) (by kernel_rfl) (by kernel_rfl) ?_
       intro p
       apply Exists.intro
       apply And.intro
       iterate 5 (apply zap (by kernel_rfl);(· intro u;unfold zae;go_simp;rfl))
       apply zaA 0 (by kernel_rfl) (by rfl) (by decide)
       ·intro u hF;clear hF;unfold zaw;go_simp;exact HT1.out _
       iterate 5 (apply zap (by kernel_rfl);(· intro u;unfold zae;go_simp;rfl))
       apply zaA 1 (by kernel_rfl) (by rfl) (by decide)
       ·intro u hF;clear hF;unfold zaw;go_simp;exact HT2.out _
       apply zaA 2 (by kernel_rfl) (by rfl) (by decide)
       ·intro u hF;clear hF;unfold zaw;go_simp;exact HT.out _
       iterate 2 (apply zap (by kernel_rfl);(· intro u;unfold zae;go_simp;rfl))
       apply zcd (by kernel_rfl)
       ·intro u;unfold zae;go_simp;rfl
       apply zce (by kernel_rfl)
       ·intro u hF;clear hF;unfold za6;go_simp;exact zbX _ _ _ _
       apply zce (by kernel_rfl)
       ·intro u hF;clear hF;unfold za6;go_simp;exact zbX _ _ _ _
       apply zbi
       rotate_left
       ·rfl
       intro u hR hD
       obtain ⟨q16,e16,hB16,kB16,nB16⟩:=(show BoxR _ [.int .i64 0,.int .u64 0] (p 16) u.world from hR 16 (by decide))
       obtain ⟨q17,e17,hB17,kB17,nB17⟩:=(show BoxR _ [.int .i64 0,.int .u64 0] (p 17) u.world from hR 17 (by decide))
       have hd17:=hD 16 17 (by decide) (by decide) (by decide)
       rw[e16,e17] at hd17
       obtain ⟨ap16_17,ap17_16⟩:=zcQ hd17
       clear hd17
       clear hR hD
       rw[e16]
       clear e16
       have oB16:=zaO nB16
       have oC16:=zaP nB16
       have nC16:NewFor z.world q16:=⟨Nat.le_trans (Grew.size gw) nB16.le⟩
       have hB16_0:=(hB16 0 _ rfl).1
       have hB16f0:=(hB16 0 _ rfl).2
       have hB16i0:HasCell (u.world) (q16) 0:=⟨_,hB16_0⟩
       have hB16_1:=(hB16 1 _ rfl).1
       have hB16f1:=(hB16 1 _ rfl).2
       have hB16i1:HasCell (u.world) (q16) 1:=⟨_,hB16_1⟩
       have hB16b:BlockIn (u.world) (q16):=BlockIn.of_cell hB16_0
       clear hB16
       rw[e17]
       clear e17
       have oB17:=zaO nB17
       have oC17:=zaP nB17
       have nC17:NewFor z.world q17:=⟨Nat.le_trans (Grew.size gw) nB17.le⟩
       have hB17_0:=(hB17 0 _ rfl).1
       have hB17f0:=(hB17 0 _ rfl).2
       have hB17i0:HasCell (u.world) (q17) 0:=⟨_,hB17_0⟩
       have hB17_1:=(hB17 1 _ rfl).1
       have hB17f1:=(hB17 1 _ rfl).2
       have hB17i1:HasCell (u.world) (q17) 1:=⟨_,hB17_1⟩
       have hB17b:BlockIn (u.world) (q17):=BlockIn.of_cell hB17_0
       clear hB17
       refine zak (by rfl) ?_;unfold zav;go_simp
       refine zak (by rfl) ?_;unfold zav;go_simp
       refine zau ?_
       have nw16:NewFor w q16:=⟨Nat.le_trans (Grew.size z.grew) nC16.le⟩
       have nw17:NewFor w q17:=⟨Nat.le_trans (Grew.size z.grew) nC17.le⟩
       go_wp2
       go_roundw
       case rel=>
        refine ⟨k+1,by go_num,by omega,gw,bxt,?_,?_,fun i x hx=>by have h1:=HL.out i x hx;go_simp⟩
        ·rw[Hs1.out]
         exact bxt
        ·rw[Hs2.out]
         exact bxt
       case measure=>simp[intOf];omega
     ·obtain rfl:k=4:=by omega
      rw[show ((4:Nat):Int)=4 from rfl]
      clear hL HL
      have hC_0:=(hC 0 _ rfl).1
      have hCf0:=(hC 0 _ rfl).2
      have hCi0:HasCell (z.world) (w.heap.size+1+1) 0:=⟨_,hC_0⟩
      have hC_1:=(hC 1 _ rfl).1
      have hCf1:=(hC 1 _ rfl).2
      have hCi1:HasCell (z.world) (w.heap.size+1+1) 1:=⟨_,hC_1⟩
      have hCb:BlockIn (z.world) (w.heap.size+1+1):=BlockIn.of_cell hC_0
      clear hC
      have hA_0:=(hA 0 _ rfl).1
      have hAf0:=(hA 0 _ rfl).2
      have hAi0:HasCell (z.world) (u.world.heap.size) 0:=⟨_,hA_0⟩
      have hA_1:=(hA 1 _ rfl).1
      have hAf1:=(hA 1 _ rfl).2
      have hAi1:HasCell (z.world) (u.world.heap.size) 1:=⟨_,hA_1⟩
      have hAb:BlockIn (z.world) (u.world.heap.size):=BlockIn.of_cell hA_0
      clear hA
      have hB_0:=(hB 0 _ rfl).1
      have hBf0:=(hB 0 _ rfl).2
      have hBi0:HasCell (z.world) (u.world.heap.size+1) 0:=⟨_,hB_0⟩
      have hB_1:=(hB 1 _ rfl).1
      have hBf1:=(hB 1 _ rfl).2
      have hBi1:HasCell (z.world) (u.world.heap.size+1) 1:=⟨_,hB_1⟩
      have hBb:BlockIn (z.world) (u.world.heap.size+1):=BlockIn.of_cell hB_0
      clear hB
      have h1:=Hlo.out 4
      have h2:=Hhi.out 4
      have H1:=Lib.hid h1
      have H2:=Lib.hid h2
      clear h1 h2 Hlo Hhi Hle
      generalize loK (zdf a b) 4=x at *
      generalize hiK (zdg a b) 4=y at *
      have HO:=Lib.hid (fun w=>zhL x y (zea H1.out) (zea H2.out) w)
      go_wp2_with (first|(go_at_call 66;(with_reducible refine zaa (HO.out _) ?_);intro u))
      refine bodyPost_ret (by (simp[results,Tryz.results145,go_sem]<;>rfl)) rfl ?_
      exact ⟨zaS (by rw[←Hf.out]),gw⟩
end Go.Proofs.YtdkfkalplmgoeaaGreat
namespace Go.Proofs.YtdkfkalplmgoeaaGreat
open Go.RowKit Go.Shelf
set_option maxRecDepth 100000
set_option maxHeartbeats 2000000
theorem ziF (a b:Sp) (w:World):Calls Tryz.prog 41 #[.agg #[.int .i64 a.lo,.int .i64 a.hi],.agg #[.int .i64 b.lo,.int .i64 b.hi]] w fun e w'=>e=.returned (.tuple #[.agg #[.int .i64 (zcp a b).s.lo,.int .i64 (zcp a b).s.hi],.int .i64 (zcp a b).e])∧Grew w w':=by
 cases hk:(a.okB&&b.okB)
 ·have Hf:=Lib.hid (show errR 2=zcp a b by unfold zcp;rw[hk];rfl)
  go_enter Tryz.func41,Tryz.ntmps41
  go_wp2_with (first|(go_at_call 65;(with_reducible refine zaa (zc9 a b hk _) ?_);intro u))
  refine bodyPost_ret (by (simp[results,Tryz.results41,go_sem]<;>rfl)) rfl ?_
  exact ⟨zaJ Hf.out rfl,gw⟩
 ·have Hf:=Lib.hid (show (⟨zbb a b,0⟩:Res)=zcp a b by unfold zcp;rw[hk];rfl)
  go_enter Tryz.func41,Tryz.ntmps41
  go_wp2_with (first|(go_at_call 65;(with_reducible refine zaa (zbR a b hk _) ?_);intro u))
  all_goals
   refine bodyPost_ret (by (simp[results,Tryz.results41,go_sem]<;>rfl)) rfl ?_
   exact ⟨zaS (by rw[←Hf.out];unfold zbb imin imax;(try simp only[]);congr 2<;>(repeat' split)<;>omega),gw⟩
def wholeS (n:Int):Sp:=⟨n*4294967296,n*4294967296⟩
theorem zch (c:Nat) (e:Int) (a b:Sp) [ha:S64 a] [hb:S64 b] (w:World) (hc:w.cell? ⟨c,0,none⟩=some (.int .i64 e)) (hf:w.frozen? ⟨c,0,none⟩=false) :
 Calls Tryz.prog 55 #[.pointer (some ⟨c,0,none⟩),.agg #[.int .i64 a.lo,.int .i64 a.hi],.agg #[.int .i64 b.lo,.int .i64 b.hi]] w (RetC c (.agg #[.int .i64 ((doR e (addR a b)).s).lo,.int .i64 ((doR e (addR a b)).s).hi]) (doR e (addR a b)).e w):=by
 have ib:BlockIn w c:=BlockIn.of_cell hc
 have hci:HasCell w c 0:=⟨_,hc⟩
 have Hb:=Lib.hid (But.refl hc)
 have Hc:=Lib.hid hc
 go_enter Tryz.func55,Tryz.ntmps55
 go_wp2_with (first|(go_at_call 33;(with_reducible refine zaa (zc8 a b _) ?_);intro u)|(go_at_call 109;refine zar (zcg c e (addR a b) _ (by go_simp) (by go_simp)) ?_;intro u))
 refine bodyPost_ret (by (simp[results,Tryz.results55,go_sem]<;>rfl)) rfl ?_
 exact ⟨rfl,But.out btw Hc.out (by go_simp)⟩
theorem zcZ (c:Nat) (e:Int) (a b:Sp) [ha:S64 a] [hb:S64 b] (w:World) (hc:w.cell? ⟨c,0,none⟩=some (.int .i64 e)) (hf:w.frozen? ⟨c,0,none⟩=false) :
 Calls Tryz.prog 53 #[.pointer (some ⟨c,0,none⟩),.agg #[.int .i64 a.lo,.int .i64 a.hi],.agg #[.int .i64 b.lo,.int .i64 b.hi]] w (RetC c (.agg #[.int .i64 ((doR e (mulR a b)).s).lo,.int .i64 ((doR e (mulR a b)).s).hi]) (doR e (mulR a b)).e w):=by
 have ib:BlockIn w c:=BlockIn.of_cell hc
 have hci:HasCell w c 0:=⟨_,hc⟩
 have Hb:=Lib.hid (But.refl hc)
 have Hc:=Lib.hid hc
 go_enter Tryz.func53,Tryz.ntmps53
 go_wp2_with (first|(go_at_call 110;(with_reducible refine zaa (zeL a b _) ?_);intro u)|(go_at_call 109;refine zar (zcg c e (mulR a b) _ (by go_simp) (by go_simp)) ?_;intro u))
 refine bodyPost_ret (by (simp[results,Tryz.results53,go_sem]<;>rfl)) rfl ?_
 exact ⟨rfl,But.out btw Hc.out (by go_simp)⟩
theorem zla (c:Nat) (e:Int) (a b:Sp) (w:World) (hc:w.cell? ⟨c,0,none⟩=some (.int .i64 e)) (hf:w.frozen? ⟨c,0,none⟩=false) :
 Calls Tryz.prog 118 #[.pointer (some ⟨c,0,none⟩),.agg #[.int .i64 a.lo,.int .i64 a.hi],.agg #[.int .i64 b.lo,.int .i64 b.hi]] w (RetC c (.agg #[.int .i64 ((doR e (zcp a b)).s).lo,.int .i64 ((doR e (zcp a b)).s).hi]) (doR e (zcp a b)).e w):=by
 have ib:BlockIn w c:=BlockIn.of_cell hc
 have hci:HasCell w c 0:=⟨_,hc⟩
 have Hb:=Lib.hid (But.refl hc)
 have Hc:=Lib.hid hc
 go_enter Tryz.func118,Tryz.ntmps118
 go_wp2_with (first|(go_at_call 41;(with_reducible refine zaa (ziF a b _) ?_);intro u)|(go_at_call 109;refine zar (zcg c e (zcp a b) _ (by go_simp) (by go_simp)) ?_;intro u))
 refine bodyPost_ret (by (simp[results,Tryz.results118,go_sem]<;>rfl)) rfl ?_
 exact ⟨rfl,But.out btw Hc.out (by go_simp)⟩
theorem zbF (c:Nat) (e:Int) (a:Sp) [ha:S64 a] (w:World) (hc:w.cell? ⟨c,0,none⟩=some (.int .i64 e)) (hf:w.frozen? ⟨c,0,none⟩=false) :
 Calls Tryz.prog 114 #[.pointer (some ⟨c,0,none⟩),.agg #[.int .i64 a.lo,.int .i64 a.hi]] w (RetC c (.agg #[.int .i64 ((doR e (zai a)).s).lo,.int .i64 ((doR e (zai a)).s).hi]) (doR e (zai a)).e w):=by
 have ib:BlockIn w c:=BlockIn.of_cell hc
 have hci:HasCell w c 0:=⟨_,hc⟩
 have Hb:=Lib.hid (But.refl hc)
 have Hc:=Lib.hid hc
 go_enter Tryz.func114,Tryz.ntmps114
 go_wp2_with (first|(go_at_call 166;(with_reducible refine zaa (zdE a _) ?_);intro u)|(go_at_call 109;refine zar (zcg c e (zai a) _ (by go_simp) (by go_simp)) ?_;intro u))
 refine bodyPost_ret (by (simp[results,Tryz.results114,go_sem]<;>rfl)) rfl ?_
 exact ⟨rfl,But.out btw Hc.out (by go_simp)⟩
end Go.Proofs.YtdkfkalplmgoeaaGreat
