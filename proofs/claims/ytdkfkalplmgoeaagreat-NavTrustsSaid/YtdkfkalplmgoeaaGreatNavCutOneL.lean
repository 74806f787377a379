/-
  Joined: NavRead, RadioNav, NavAll, NavCutOne.
-/
import Derived.Test.YtdkfkalplmgoeaaGreatSpanHullL
import Derived.Test.YtdkfkalplmgoeaaGreatNumAllL
import Derived.Test.YtdkfkalplmgoeaaGreatRowL
import Derived.Shelf.Abstract
import Derived.Test.YtdkfkalplmgoeaaGreatMonoLawL
import Derived.Test.YtdkfkalplmgoeaaGreatNavDistL
namespace Go.Proofs.YtdkfkalplmgoeaaGreat
open Go.RowKit Go.Shelf
set_option maxRecDepth 100000
set_option maxHeartbeats 8000000
def zkG (k:Int):TypeId:=if k=0 then 142 else if k=1 then 146 else if k=2 then 149 else 150
def zgC (m:Radio):Value:=.iface (zkG m.kind) (.agg #[.int .i64 m.kind,.int .i64 m.place.x.lo,.int .i64 m.place.x.hi,.int .i64 m.place.y.lo,.int .i64 m.place.y.hi,.int .i64 m.place.z.lo,.int .i64 m.place.z.hi,.int .i64 m.dir.x.lo,.int .i64 m.dir.x.hi,.int .i64 m.dir.y.lo,.int .i64 m.dir.y.hi,.int .i64 m.dir.z.lo,.int .i64 m.dir.z.hi,.int .i64 m.value.lo,.int .i64 m.value.hi])
abbrev zg7:Value:=.agg #[.int .i64 0,.int .i64 0,.int .i64 0,.int .i64 0,.int .i64 0,.int .i64 0,.int .i64 0,.int .i64 0,.int .i64 0,.int .i64 0,.int .i64 0,.int .i64 0,.int .i64 0,.int .i64 0,.int .i64 0]
theorem zhp (v:Value) (xT:TypeId) (w:World):(Instr.typeAssert (.iface 142 v) xT 142 true).run Tryz.prog w=.ok (.tuple #[v,.bool true]) w∧(Instr.typeAssert (.iface 146 v) xT 146 true).run Tryz.prog w=.ok (.tuple #[v,.bool true]) w
 ∧ (Instr.typeAssert (.iface 149 v) xT 149 true).run Tryz.prog w=.ok (.tuple #[v,.bool true]) w∧(Instr.typeAssert (.iface 150 v) xT 150 true).run Tryz.prog w=.ok (.tuple #[v,.bool true]) w:=
 ⟨by kernel_rfl,by kernel_rfl,by kernel_rfl,by kernel_rfl⟩
theorem ze8 (v:Value) (xT:TypeId) (w:World):(Instr.typeAssert (.iface 146 v) xT 142 true).run Tryz.prog w=.ok (.tuple #[zg7,.bool false]) w
 ∧ (Instr.typeAssert (.iface 149 v) xT 142 true).run Tryz.prog w=.ok (.tuple #[zg7,.bool false]) w∧(Instr.typeAssert (.iface 149 v) xT 146 true).run Tryz.prog w=.ok (.tuple #[zg7,.bool false]) w
 ∧ (Instr.typeAssert (.iface 150 v) xT 142 true).run Tryz.prog w=.ok (.tuple #[zg7,.bool false]) w∧(Instr.typeAssert (.iface 150 v) xT 146 true).run Tryz.prog w=.ok (.tuple #[zg7,.bool false]) w∧(Instr.typeAssert (.iface 150 v) xT 149 true).run Tryz.prog w=.ok (.tuple #[zg7,.bool false]) w:=
 ⟨by kernel_rfl,by kernel_rfl,by kernel_rfl,by kernel_rfl,by kernel_rfl,by kernel_rfl⟩
theorem zhm (a b c d:Value) (w:World):(Instr.index 187 (.agg #[a,b,c,d]) (.int .i64 0)).run Tryz.prog w=.ok a w∧(Instr.index 187 (.agg #[a,b,c,d]) (.int .i64 1)).run Tryz.prog w=.ok b w
 ∧ (Instr.index 187 (.agg #[a,b,c,d]) (.int .i64 2)).run Tryz.prog w=.ok c w∧(Instr.index 187 (.agg #[a,b,c,d]) (.int .i64 3)).run Tryz.prog w=.ok d w:=
 ⟨by kernel_rfl,by kernel_rfl,by kernel_rfl,by kernel_rfl⟩
theorem zf5 {k:Int} (h0:0≤k) (h1:k≤3):k=0∨k=1∨k=2∨k=3:=by omega
theorem zfH (m:Radio) (h0:0≤m.kind) (h1:m.kind≤3) (w:World):Calls Tryz.prog 75 #[.agg #[.int .i64 m.kind,.int .i64 m.place.x.lo,.int .i64 m.place.x.hi,.int .i64 m.place.y.lo,.int .i64 m.place.y.hi,.int .i64 m.place.z.lo,.int .i64 m.place.z.hi,.int .i64 m.dir.x.lo,.int .i64 m.dir.x.hi,.int .i64 m.dir.y.lo,.int .i64 m.dir.y.hi,.int .i64 m.dir.z.lo,.int .i64 m.dir.z.hi,.int .i64 m.value.lo,.int .i64 m.value.hi]] w fun e w'=>e=.returned (zgC m)∧Grew w w':=by
 have i1:=fun a b c d w=>(zhm a b c d w).1
 have i2:=fun a b c d w=>(zhm a b c d w).2.1
 have i3:=fun a b c d w=>(zhm a b c d w).2.2.1
 have i4:=fun a b c d w=>(zhm a b c d w).2.2.2
 rcases zf5 h0 h1 with hk|hk|hk|hk
 all_goals clear h0 h1
 all_goals
  go_enter Tryz.func75,Tryz.ntmps75
  go_wp2
  go_ret
  exact ⟨by unfold zgC zkG;simp[hk],gw⟩
end Go.Proofs.YtdkfkalplmgoeaaGreat
namespace Go.Proofs.YtdkfkalplmgoeaaGreat
open Go.RowKit
set_option maxRecDepth 100000
set_option maxHeartbeats 16000000
theorem zp6 (b:Bx):b.okB=(b.x.okB&&b.y.okB&&b.z.okB):=by
 first|rfl|(unfold Bx.okB;simp[Bool.and_assoc])
def zgo (m:Radio) (k:Nat):Prop:=∀ i,i<k→(m.place.at i).okB=true∧(m.dir.at i).okB=true
theorem zd9 (m:Radio) (k:Nat) (hk:k<3) (h:(m.place.at k).okB=false∨(m.dir.at k).okB=false):(m.place.okB&&m.dir.okB)=false:=by
 rcases h with h|h
 ·rw[zfP m.place k hk h,Bool.false_and]
 ·rw[zfP m.dir k hk h,Bool.and_false]
theorem zmD (m:Radio) (h:zgo m 3):(m.place.okB&&m.dir.okB)=true:=by
 have h0:=h 0 (by omega)
 have h1:=h 1 (by omega)
 have h2:=h 2 (by omega)
 rw[zp6,zp6]
 simp only[Bx.at] at h0 h1 h2
 simp[h0,h1,h2]
theorem zfo (m:Radio) (w:World):Calls Tryz.prog 35 #[.agg #[.int .i64 m.kind,.int .i64 m.place.x.lo,.int .i64 m.place.x.hi,.int .i64 m.place.y.lo,.int .i64 m.place.y.hi,.int .i64 m.place.z.lo,.int .i64 m.place.z.hi,.int .i64 m.dir.x.lo,.int .i64 m.dir.x.hi,.int .i64 m.dir.y.lo,.int .i64 m.dir.y.hi,.int .i64 m.dir.z.lo,.int .i64 m.dir.z.hi,.int .i64 m.value.lo,.int .i64 m.value.hi]] w fun e w'=>e=.returned (.int .i64 (zaL m.okB 2))∧Grew w w':=by
 have HC:=Lib.hid (show m.okB=(decide (0≤m.kind)&&decide (m.kind≤3)&&m.place.okB&&m.dir.okB&&m.value.okB) from rfl)
 have HV:=Lib.hid (fun w'=>zbH m.value w')
 have HS:=Lib.hid (fun a w'=>zbH a w')
 by_cases k0:m.kind<0
 ·have Hr:=Lib.hid (show zaL m.okB 2=2 by rw[HC.out,decide_eq_false (by omega)];rfl)
  go_enter Tryz.func35,Tryz.ntmps35
  go_wp2_with (first|(go_at_call 72;(with_reducible refine zaa (HV.out _) ?_);intro u))
  go_ret
  exact ⟨zaC Hr.out.symm,gw⟩
 by_cases k3:3<m.kind
 ·have Hr:=Lib.hid (show zaL m.okB 2=2 by rw[HC.out,decide_eq_false (show ¬ m.kind≤3 by omega),Bool.and_false];rfl)
  go_enter Tryz.func35,Tryz.ntmps35
  go_wp2_with (first|(go_at_call 72;(with_reducible refine zaa (HV.out _) ?_);intro u))
  go_ret
  exact ⟨zaC Hr.out.symm,gw⟩
 cases hv:m.value.okB
 ·have Hr:=Lib.hid (show zaL m.okB 2=2 by rw[HC.out,hv,Bool.and_false];rfl)
  have HV':=Lib.hid (fun w'=>zaH (show zaL m.value.okB 2=2 by rw[hv];rfl) (HV.out w'))
  clear HV
  go_enter Tryz.func35,Tryz.ntmps35
  go_wp2_with (first|(go_at_call 72;(with_reducible refine zaa (HV'.out _) ?_);intro u))
  go_ret
  exact ⟨zaC Hr.out.symm,gw⟩
 have HV':=Lib.hid (fun w'=>zaH (show zaL m.value.okB 2=0 by rw[hv];rfl) (HV.out w'))
 have Hk:=Lib.hid (show m.okB=(m.place.okB&&m.dir.okB) by rw[HC.out,decide_eq_true (show 0≤m.kind by omega),decide_eq_true (show m.kind≤3 by omega),hv];simp)
 clear HV HC
 go_enter Tryz.func35,Tryz.ntmps35
 go_wp2_with (first|(go_at_call 72;(with_reducible refine zaa (HV'.out _) ?_);intro u))
 go_loopw [18] (fun t wr=>∃ k:Nat,t=.int .i64 k∧k≤3∧zgo m k∧Grew u.world wr) (fun t _=>3-(intOf t).toNat)
 case atStart=>exact ⟨0,rfl,by omega,fun j hj=>by omega,gw⟩
 case round=>
  obtain ⟨k,rfl,hk,hall,hg⟩:=hrel
  obtain ⟨x,rfl⟩:=zaj hg
  clear hg
  have Hall:=Lib.hid hall
  clear hall
  by_cases hlt:k<3
  ·rcases (show k=0∨k=1∨k=2 by omega) with rfl|rfl|rfl
   ·skip
    cases h1:(m.place.x).okB
    ·have H1:=Lib.hid (fun w'=>zaH (show zaL (m.place.x).okB 2=2 by rw[h1];rfl) (HS.out (m.place.x) w'))
     have Hr:=Lib.hid (show zaL m.okB 2=2 by rw[Hk.out,zd9 m 0 (by omega) (.inl h1)];rfl)
     clear h1
     go_wp2_with (first|(go_at_call 72;(with_reducible refine zaa (H1.out _) ?_);intro u))
     go_ret
     exact ⟨zaC Hr.out.symm,gw⟩
    ·have H1:=Lib.hid (fun w'=>zaH (show zaL (m.place.x).okB 2=0 by rw[h1];rfl) (HS.out (m.place.x) w'))
     cases h2:(m.dir.x).okB
     ·have H2:=Lib.hid (fun w'=>zaH (show zaL (m.dir.x).okB 2=2 by rw[h2];rfl) (HS.out (m.dir.x) w'))
      have Hr:=Lib.hid (show zaL m.okB 2=2 by rw[Hk.out,zd9 m 0 (by omega) (.inr h2)];rfl)
      clear h1 h2
      go_wp2_with (first|(go_at_call 72;(with_reducible refine zaa (H1.out _) ?_);intro u)|(go_at_call 72;(with_reducible refine zaa (H2.out _) ?_);intro u))
      go_ret
      exact ⟨zaC Hr.out.symm,gw⟩
     ·have H2:=Lib.hid (fun w'=>zaH (show zaL (m.dir.x).okB 2=0 by rw[h2];rfl) (HS.out (m.dir.x) w'))
      have Hn:=Lib.hid (show zgo m (0+1) by
       intro j hj
       rcases Nat.lt_succ_iff_lt_or_eq.1 hj with hj|rfl
       ·exact Hall.out j hj
       ·exact ⟨h1,h2⟩)
      clear h1 h2
      go_wp2_with (first|(go_at_call 72;(with_reducible refine zaa (H1.out _) ?_);intro u)|(go_at_call 72;(with_reducible refine zaa (H2.out _) ?_);intro u))
      go_roundw
      case rel=>exact ⟨0+1,rfl,by omega,Hn.out,gw⟩
      case measure=>first|(simp[intOf];done)|(simp[intOf];omega)
   ·skip
    cases h1:(m.place.y).okB
    ·have H1:=Lib.hid (fun w'=>zaH (show zaL (m.place.y).okB 2=2 by rw[h1];rfl) (HS.out (m.place.y) w'))
     have Hr:=Lib.hid (show zaL m.okB 2=2 by rw[Hk.out,zd9 m 1 (by omega) (.inl h1)];rfl)
     clear h1
     go_wp2_with (first|(go_at_call 72;(with_reducible refine zaa (H1.out _) ?_);intro u))
     go_ret
     exact ⟨zaC Hr.out.symm,gw⟩
    ·have H1:=Lib.hid (fun w'=>zaH (show zaL (m.place.y).okB 2=0 by rw[h1];rfl) (HS.out (m.place.y) w'))
     cases h2:(m.dir.y).okB
     ·have H2:=Lib.hid (fun w'=>zaH (show zaL (m.dir.y).okB 2=2 by rw[h2];rfl) (HS.out (m.dir.y) w'))
      have Hr:=Lib.hid (show zaL m.okB 2=2 by rw[Hk.out,zd9 m 1 (by omega) (.inr h2)];rfl)
      clear h1 h2
      go_wp2_with (first|(go_at_call 72;(with_reducible refine zaa (H1.out _) ?_);intro u)|(go_at_call 72;(with_reducible refine zaa (H2.out _) ?_);intro u))
      go_ret
      exact ⟨zaC Hr.out.symm,gw⟩
     ·have H2:=Lib.hid (fun w'=>zaH (show zaL (m.dir.y).okB 2=0 by rw[h2];rfl) (HS.out (m.dir.y) w'))
      have Hn:=Lib.hid (show zgo m (1+1) by
       intro j hj
       rcases Nat.lt_succ_iff_lt_or_eq.1 hj with hj|rfl
       ·exact Hall.out j hj
       ·exact ⟨h1,h2⟩)
      clear h1 h2
      go_wp2_with (first|(go_at_call 72;(with_reducible refine zaa (H1.out _) ?_);intro u)|(go_at_call 72;(with_reducible refine zaa (H2.out _) ?_);intro u))
      go_roundw
      case rel=>exact ⟨1+1,rfl,by omega,Hn.out,gw⟩
      case measure=>first|(simp[intOf];done)|(simp[intOf];omega)
   ·skip
    cases h1:(m.place.z).okB
    ·have H1:=Lib.hid (fun w'=>zaH (show zaL (m.place.z).okB 2=2 by rw[h1];rfl) (HS.out (m.place.z) w'))
     have Hr:=Lib.hid (show zaL m.okB 2=2 by rw[Hk.out,zd9 m 2 (by omega) (.inl h1)];rfl)
     clear h1
     go_wp2_with (first|(go_at_call 72;(with_reducible refine zaa (H1.out _) ?_);intro u))
     go_ret
     exact ⟨zaC Hr.out.symm,gw⟩
    ·have H1:=Lib.hid (fun w'=>zaH (show zaL (m.place.z).okB 2=0 by rw[h1];rfl) (HS.out (m.place.z) w'))
     cases h2:(m.dir.z).okB
     ·have H2:=Lib.hid (fun w'=>zaH (show zaL (m.dir.z).okB 2=2 by rw[h2];rfl) (HS.out (m.dir.z) w'))
      have Hr:=Lib.hid (show zaL m.okB 2=2 by rw[Hk.out,zd9 m 2 (by omega) (.inr h2)];rfl)
      clear h1 h2
      go_wp2_with (first|(go_at_call 72;(with_reducible refine zaa (H1.out _) ?_);intro u)|(go_at_call 72;(with_reducible refine zaa (H2.out _) ?_);intro u))
      go_ret
      exact ⟨zaC Hr.out.symm,gw⟩
     ·have H2:=Lib.hid (fun w'=>zaH (show zaL (m.dir.z).okB 2=0 by rw[h2];rfl) (HS.out (m.dir.z) w'))
      have Hn:=Lib.hid (show zgo m (2+1) by
       intro j hj
       rcases Nat.lt_succ_iff_lt_or_eq.1 hj with hj|rfl
       ·exact Hall.out j hj
       ·exact ⟨h1,h2⟩)
      clear h1 h2
      go_wp2_with (first|(go_at_call 72;(with_reducible refine zaa (H1.out _) ?_);intro u)|(go_at_call 72;(with_reducible refine zaa (H2.out _) ?_);intro u))
      go_roundw
      case rel=>exact ⟨2+1,rfl,by omega,Hn.out,gw⟩
      case measure=>first|(simp[intOf];done)|(simp[intOf];omega)
  ·obtain rfl:k=3:=by omega
   have Hr:=Lib.hid (show zaL m.okB 2=0 by rw[Hk.out,zmD m Hall.out];rfl)
   go_wp2
   go_ret
   exact ⟨zaC Hr.out.symm,gw⟩
end Go.Proofs.YtdkfkalplmgoeaaGreat
namespace Go.Proofs.YtdkfkalplmgoeaaGreat
open Go.RowKit Go.Shelf
set_option maxRecDepth 100000
set_option maxHeartbeats 8000000
end Go.Proofs.YtdkfkalplmgoeaaGreat
namespace Go.Proofs.YtdkfkalplmgoeaaGreat
open Go.RowKit
set_option maxRecDepth 100000
set_option maxHeartbeats 2000000
theorem zmW (G:Nat) (cap:Array Value) (eg:∀ args w,(callFunc G args).run Tryz.prog w=.ok (.enter G args) w) (w:World) (Q:Option Int→World→Prop)
 (h:Calls Tryz.prog G cap (w.alloc (.cells #[.int .i64 0] 30)) (Ends w Q)) :
 Calls Tryz.prog 73 #[.func (.func G) #[] cap] w fun e w''=>∃ o w',Q o w'∧e=.returned (.int .i64 (o.getD 0))∧w''=zfv w.heap.size o w':=by
 have hmf:∀ (fn:Fn) (first cap:Array Value) (w:World),(Instr.makeFunc fn first cap).run Tryz.prog w=.ok (.func fn first cap) w:=fun _ _ _ _=>rfl
 have H:=Lib.hid h
 clear h
 go_enter_defers Tryz.func73,Tryz.ntmps73
 go_wp2_with (first|(go_at_fn G;refine (H.out).mono ?_;rintro e w1 ⟨⟨rfl,hq⟩|⟨c,rfl,hq⟩,hc1,hf1⟩))
 ·have ihc:HasCell w1 w.heap.size 0:=⟨_,hc1⟩
  refine leaves_cons (f:=128) (args:=#[.pointer (some ⟨w.heap.size,0,none⟩)]) (by simp) (by simp[go_sem]) ?_
  refine (zkt ⟨w.heap.size,0,none⟩ _).mono ?_
  rintro e u' w'' ⟨rfl,rfl,rfl⟩
  refine ⟨.int .i64 0,?_,none,w1,hq,rfl,rfl⟩
  simp[results,Tryz.results73,go_sem]
 ·have ihc:HasCell w1 w.heap.size 0:=⟨_,hc1⟩
  refine leaves_cons (f:=128) (args:=#[.pointer (some ⟨w.heap.size,0,none⟩)]) (by simp) (by simp[go_sem]) ?_
  refine (zku w.heap.size c 0 _ hc1 hf1).mono ?_
  rintro e u' w'' ⟨rfl,rfl,rfl⟩
  refine ⟨.int .i64 c,?_,some c,w1,hq,rfl,rfl⟩
  simp[results,Tryz.results73,go_sem]
end Go.Proofs.YtdkfkalplmgoeaaGreat
namespace Go.Proofs.YtdkfkalplmgoeaaGreat
open Go.RowKit Go.Shelf
set_option maxRecDepth 100000
set_option maxHeartbeats 8000000
theorem zan.fresh {w:World} {m:Nat} [h:SizeAt w m] (l:List Value) (t:TypeId):zan (w.alloc (.cells l.toArray t)) m l:=by
 obtain rfl:=h.eq
 intro i v hv
 have:=zfR w l t i v hv
 rw[Addr.add_lit,Nat.zero_add] at this
 exact ⟨this,by go_simp⟩
def readQ (r:Res) (W:World) (b3:Nat):Option Int→World→Prop
 |none,w'=>r.e=0∧∃ u:Later (W.alloc (.cells #[.int .i64 0] 30)),w'=(u.world.setCell ⟨b3,0,none⟩ (.int .i64 r.s.lo)).setCell ⟨b3,1,none⟩ (.int .i64 r.s.hi)
 |some c,w'=>r.e≠0∧c=r.e∧∃ u:Later (W.alloc (.cells #[.int .i64 0] 30)),w'=u.world
end Go.Proofs.YtdkfkalplmgoeaaGreat
namespace Go.Proofs.YtdkfkalplmgoeaaGreat
open Go.RowKit Go.Shelf
set_option maxRecDepth 100000
set_option maxHeartbeats 8000000
theorem zb5 {m:Radio} (h:m.okB=true):0≤m.kind∧m.kind≤3:=by
 unfold Radio.okB at h
 simp only[Bool.and_eq_true,decide_eq_true_eq] at h
 exact ⟨h.1.1.1.1,h.1.1.1.2⟩
end Go.Proofs.YtdkfkalplmgoeaaGreat
namespace Go.Proofs.YtdkfkalplmgoeaaGreat
open Go.RowKit Go.Shelf
set_option maxRecDepth 100000
set_option maxHeartbeats 8000000
theorem zqH {w:World} {b:Nat} {s:State} (h:zan w b [.int .i64 s.t,.int .i64 s.p.x.lo,.int .i64 s.p.x.hi,.int .i64 s.p.y.lo,.int .i64 s.p.y.hi,.int .i64 s.p.z.lo,.int .i64 s.p.z.hi,.int .i64 s.v.x.lo,.int .i64 s.v.x.hi,.int .i64 s.v.y.lo,.int .i64 s.v.y.hi,.int .i64 s.v.z.lo,.int .i64 s.v.z.hi,.int .i64 s.m.lo,.int .i64 s.m.hi]):XAt w b 1 s.p:=fun j hj=>
 match j,hj with
 |0,_=>⟨h 1 _ rfl,h 2 _ rfl⟩
 |1,_=>⟨h 3 _ rfl,h 4 _ rfl⟩
 |2,_=>⟨h 5 _ rfl,h 6 _ rfl⟩
theorem zqI {w:World} {b:Nat} {s:State} (h:zan w b [.int .i64 s.t,.int .i64 s.p.x.lo,.int .i64 s.p.x.hi,.int .i64 s.p.y.lo,.int .i64 s.p.y.hi,.int .i64 s.p.z.lo,.int .i64 s.p.z.hi,.int .i64 s.v.x.lo,.int .i64 s.v.x.hi,.int .i64 s.v.y.lo,.int .i64 s.v.y.hi,.int .i64 s.v.z.lo,.int .i64 s.v.z.hi,.int .i64 s.m.lo,.int .i64 s.m.hi]):XAt w b 7 s.v:=fun j hj=>
 match j,hj with
 |0,_=>⟨h 7 _ rfl,h 8 _ rfl⟩
 |1,_=>⟨h 9 _ rfl,h 10 _ rfl⟩
 |2,_=>⟨h 11 _ rfl,h 12 _ rfl⟩
theorem zd1 {P:Program} {f:FuncId} {args:Array Value} {w:World} {b off:Nat} {X:Bx} {c:Int} {R:Ending→World→Prop} (h:Calls P f args w (zes b off X c w))
 (h0:Hid (c≠0)→∀ w',Hid (ButX b off w w')→R (zcn c) w') (h1:Hid (c=0)→∀ w',Hid (ButX b off w w')→Hid (XAt w' b off X)→R (.returned (.tuple #[])) w'):Calls P f args w R:=
 h.mono fun e w' ⟨he,hb,hx⟩=>by
  by_cases hc:c=0
  ·rw[if_pos hc] at he
   subst he
   exact h1 (Lib.hid hc) w' (Lib.hid hb) (Lib.hid (hx hc))
  ·rw[if_neg hc] at he
   subst he
   exact h0 (Lib.hid hc) w' (Lib.hid hb)
theorem zoi (m:Radio) (w:World):Calls Tryz.prog 77 #[.agg #[.int .i64 m.kind,.int .i64 m.place.x.lo,.int .i64 m.place.x.hi,.int .i64 m.place.y.lo,.int .i64 m.place.y.hi,.int .i64 m.place.z.lo,.int .i64 m.place.z.hi,.int .i64 m.dir.x.lo,.int .i64 m.dir.x.hi,.int .i64 m.dir.y.lo,.int .i64 m.dir.y.hi,.int .i64 m.dir.z.lo,.int .i64 m.dir.z.hi,.int .i64 m.value.lo,.int .i64 m.value.hi]] w fun e w'=>e=.returned (.agg #[.int .i64 m.value.lo,.int .i64 m.value.hi])∧Grew w w':=by
 go_enter Tryz.func77,Tryz.ntmps77
 go_wp2
 refine bodyPost_ret (by (simp[results,Tryz.results77,go_sem]<;>rfl)) rfl ?_
 exact ⟨rfl,gw⟩
theorem zok (m:Radio) (w:World):Calls Tryz.prog 83 #[.agg #[.int .i64 m.kind,.int .i64 m.place.x.lo,.int .i64 m.place.x.hi,.int .i64 m.place.y.lo,.int .i64 m.place.y.hi,.int .i64 m.place.z.lo,.int .i64 m.place.z.hi,.int .i64 m.dir.x.lo,.int .i64 m.dir.x.hi,.int .i64 m.dir.y.lo,.int .i64 m.dir.y.hi,.int .i64 m.dir.z.lo,.int .i64 m.dir.z.hi,.int .i64 m.value.lo,.int .i64 m.value.hi]] w fun e w'=>e=.returned (.agg #[.int .i64 m.value.lo,.int .i64 m.value.hi])∧Grew w w':=by
 go_enter Tryz.func83,Tryz.ntmps83
 go_wp2
 refine bodyPost_ret (by (simp[results,Tryz.results83,go_sem]<;>rfl)) rfl ?_
 exact ⟨rfl,gw⟩
theorem zol (m:Radio) (w:World):Calls Tryz.prog 84 #[.agg #[.int .i64 m.kind,.int .i64 m.place.x.lo,.int .i64 m.place.x.hi,.int .i64 m.place.y.lo,.int .i64 m.place.y.hi,.int .i64 m.place.z.lo,.int .i64 m.place.z.hi,.int .i64 m.dir.x.lo,.int .i64 m.dir.x.hi,.int .i64 m.dir.y.lo,.int .i64 m.dir.y.hi,.int .i64 m.dir.z.lo,.int .i64 m.dir.z.hi,.int .i64 m.value.lo,.int .i64 m.value.hi]] w fun e w'=>e=.returned (.agg #[.int .i64 m.value.lo,.int .i64 m.value.hi])∧Grew w w':=by
 go_enter Tryz.func84,Tryz.ntmps84
 go_wp2
 refine bodyPost_ret (by (simp[results,Tryz.results84,go_sem]<;>rfl)) rfl ?_
 exact ⟨rfl,gw⟩
theorem zng (s:State) (m:Radio) [hp:B64 s.p] [hd:B64 m.dir] [hv:S64 m.value] (hk:m.kind=2) (W:World) (b1 b2:Nat) (hm:zan W b1 [.int .i64 m.kind,.int .i64 m.place.x.lo,.int .i64 m.place.x.hi,.int .i64 m.place.y.lo,.int .i64 m.place.y.hi,.int .i64 m.place.z.lo,.int .i64 m.place.z.hi,.int .i64 m.dir.x.lo,.int .i64 m.dir.x.hi,.int .i64 m.dir.y.lo,.int .i64 m.dir.y.hi,.int .i64 m.dir.z.lo,.int .i64 m.dir.z.hi,.int .i64 m.value.lo,.int .i64 m.value.hi]) (hs:zan W b2 [.int .i64 s.t,.int .i64 s.p.x.lo,.int .i64 s.p.x.hi,.int .i64 s.p.y.lo,.int .i64 s.p.y.hi,.int .i64 s.p.z.lo,.int .i64 s.p.z.hi,.int .i64 s.v.x.lo,.int .i64 s.v.x.hi,.int .i64 s.v.y.lo,.int .i64 s.v.y.hi,.int .i64 s.v.z.lo,.int .i64 s.v.z.hi,.int .i64 s.m.lo,.int .i64 s.m.hi]) :
 Calls Tryz.prog 74 #[.pointer (some ⟨b1,0,none⟩),.pointer (some ⟨b2,0,none⟩)] W (zes b2 1 (zam 0 m.dir s.p m.value 3).1 (sumM 0 m.dir s.p m.value).e W):=by
 have e1:zgC m=.iface 149 (.agg #[.int .i64 m.kind,.int .i64 m.place.x.lo,.int .i64 m.place.x.hi,.int .i64 m.place.y.lo,.int .i64 m.place.y.hi,.int .i64 m.place.z.lo,.int .i64 m.place.z.hi,.int .i64 m.dir.x.lo,.int .i64 m.dir.x.hi,.int .i64 m.dir.y.lo,.int .i64 m.dir.y.hi,.int .i64 m.dir.z.lo,.int .i64 m.dir.z.hi,.int .i64 m.value.lo,.int .i64 m.value.hi]):=by unfold zgC zkG;rw[if_neg (by omega),if_neg (by omega),if_pos hk]
 have HM:=Lib.hid (fun w'=>by have:=zfH m (by omega) (by omega) w';rw[e1] at this;exact this)
 have t1:=fun v x w=>(ze8 v x w).2.1
 have t2:=fun v x w=>(ze8 v x w).2.2.1
 have t3:=fun v x w=>(zhp v x w).2.2.1
 have HB:=Lib.hid (fun w' (hx:XAt w' b2 1 s.p)=>zfQ m.dir s.p m.value b2 1 w' hx)
 have HX:=Lib.hid (zqH hs)
 have hb:b2<W.heap.size:=World.block_lt_of_cell? W _ (hs 0 _ rfl).1
 have HV:=Lib.hid (fun w'=>zok m w')
 have hm_0:=(hm 0 _ rfl).1
 have hmf0:=(hm 0 _ rfl).2
 have hmi0:HasCell (W) (b1) 0:=⟨_,hm_0⟩
 have hm_1:=(hm 1 _ rfl).1
 have hmf1:=(hm 1 _ rfl).2
 have hmi1:HasCell (W) (b1) 1:=⟨_,hm_1⟩
 have hm_2:=(hm 2 _ rfl).1
 have hmf2:=(hm 2 _ rfl).2
 have hmi2:HasCell (W) (b1) 2:=⟨_,hm_2⟩
 have hm_3:=(hm 3 _ rfl).1
 have hmf3:=(hm 3 _ rfl).2
 have hmi3:HasCell (W) (b1) 3:=⟨_,hm_3⟩
 have hm_4:=(hm 4 _ rfl).1
 have hmf4:=(hm 4 _ rfl).2
 have hmi4:HasCell (W) (b1) 4:=⟨_,hm_4⟩
 have hm_5:=(hm 5 _ rfl).1
 have hmf5:=(hm 5 _ rfl).2
 have hmi5:HasCell (W) (b1) 5:=⟨_,hm_5⟩
 have hm_6:=(hm 6 _ rfl).1
 have hmf6:=(hm 6 _ rfl).2
 have hmi6:HasCell (W) (b1) 6:=⟨_,hm_6⟩
 have hm_7:=(hm 7 _ rfl).1
 have hmf7:=(hm 7 _ rfl).2
 have hmi7:HasCell (W) (b1) 7:=⟨_,hm_7⟩
 have hm_8:=(hm 8 _ rfl).1
 have hmf8:=(hm 8 _ rfl).2
 have hmi8:HasCell (W) (b1) 8:=⟨_,hm_8⟩
 have hm_9:=(hm 9 _ rfl).1
 have hmf9:=(hm 9 _ rfl).2
 have hmi9:HasCell (W) (b1) 9:=⟨_,hm_9⟩
 have hm_10:=(hm 10 _ rfl).1
 have hmf10:=(hm 10 _ rfl).2
 have hmi10:HasCell (W) (b1) 10:=⟨_,hm_10⟩
 have hm_11:=(hm 11 _ rfl).1
 have hmf11:=(hm 11 _ rfl).2
 have hmi11:HasCell (W) (b1) 11:=⟨_,hm_11⟩
 have hm_12:=(hm 12 _ rfl).1
 have hmf12:=(hm 12 _ rfl).2
 have hmi12:HasCell (W) (b1) 12:=⟨_,hm_12⟩
 have hm_13:=(hm 13 _ rfl).1
 have hmf13:=(hm 13 _ rfl).2
 have hmi13:HasCell (W) (b1) 13:=⟨_,hm_13⟩
 have hm_14:=(hm 14 _ rfl).1
 have hmf14:=(hm 14 _ rfl).2
 have hmi14:HasCell (W) (b1) 14:=⟨_,hm_14⟩
 have hmb:BlockIn (W) (b1):=BlockIn.of_cell hm_0
 clear hm
 have hs_0:=(hs 0 _ rfl).1
 have hsf0:=(hs 0 _ rfl).2
 have hsi0:HasCell (W) (b2) 0:=⟨_,hs_0⟩
 have hs_1:=(hs 1 _ rfl).1
 have hsf1:=(hs 1 _ rfl).2
 have hsi1:HasCell (W) (b2) 1:=⟨_,hs_1⟩
 have hs_2:=(hs 2 _ rfl).1
 have hsf2:=(hs 2 _ rfl).2
 have hsi2:HasCell (W) (b2) 2:=⟨_,hs_2⟩
 have hs_3:=(hs 3 _ rfl).1
 have hsf3:=(hs 3 _ rfl).2
 have hsi3:HasCell (W) (b2) 3:=⟨_,hs_3⟩
 have hs_4:=(hs 4 _ rfl).1
 have hsf4:=(hs 4 _ rfl).2
 have hsi4:HasCell (W) (b2) 4:=⟨_,hs_4⟩
 have hs_5:=(hs 5 _ rfl).1
 have hsf5:=(hs 5 _ rfl).2
 have hsi5:HasCell (W) (b2) 5:=⟨_,hs_5⟩
 have hs_6:=(hs 6 _ rfl).1
 have hsf6:=(hs 6 _ rfl).2
 have hsi6:HasCell (W) (b2) 6:=⟨_,hs_6⟩
 have hs_7:=(hs 7 _ rfl).1
 have hsf7:=(hs 7 _ rfl).2
 have hsi7:HasCell (W) (b2) 7:=⟨_,hs_7⟩
 have hs_8:=(hs 8 _ rfl).1
 have hsf8:=(hs 8 _ rfl).2
 have hsi8:HasCell (W) (b2) 8:=⟨_,hs_8⟩
 have hs_9:=(hs 9 _ rfl).1
 have hsf9:=(hs 9 _ rfl).2
 have hsi9:HasCell (W) (b2) 9:=⟨_,hs_9⟩
 have hs_10:=(hs 10 _ rfl).1
 have hsf10:=(hs 10 _ rfl).2
 have hsi10:HasCell (W) (b2) 10:=⟨_,hs_10⟩
 have hs_11:=(hs 11 _ rfl).1
 have hsf11:=(hs 11 _ rfl).2
 have hsi11:HasCell (W) (b2) 11:=⟨_,hs_11⟩
 have hs_12:=(hs 12 _ rfl).1
 have hsf12:=(hs 12 _ rfl).2
 have hsi12:HasCell (W) (b2) 12:=⟨_,hs_12⟩
 have hs_13:=(hs 13 _ rfl).1
 have hsf13:=(hs 13 _ rfl).2
 have hsi13:HasCell (W) (b2) 13:=⟨_,hs_13⟩
 have hs_14:=(hs 14 _ rfl).1
 have hsf14:=(hs 14 _ rfl).2
 have hsi14:HasCell (W) (b2) 14:=⟨_,hs_14⟩
 have hsb:BlockIn (W) (b2):=BlockIn.of_cell hs_0
 clear hs
 clear hk e1
 generalize (zam 0 m.dir s.p m.value 3).1=Y at *
 generalize (sumM 0 m.dir s.p m.value).e=c at *
 go_enter Tryz.func74,Tryz.ntmps74
 go_wp2_with (first|(go_at_call 75;(with_reducible refine zaa (HM.out _) ?_);intro u1))
 go_region_with (first|(go_at_call 83;(with_reducible refine zaa (HV.out _) ?_);intro u2)|(go_at_call 79;(with_reducible refine zd1 (HB.out _ (HX.out.grew gw)) ?_ ?_);(· intro hz w9 hB;exact ⟨rfl,za1 rfl hz.out ((ButX.of_grew hb gw).trans hB.out)⟩);intro hz w9 hB hY))
 all_goals go_wp2
 all_goals
  go_end0
  exact ⟨by simp[hz.out],(ButX.of_grew hb gw).trans hB.out,fun _=>hY.out⟩
end Go.Proofs.YtdkfkalplmgoeaaGreat
