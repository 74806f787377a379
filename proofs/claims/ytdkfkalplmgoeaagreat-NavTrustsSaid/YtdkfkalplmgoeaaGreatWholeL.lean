/-
  Joined: FuseAll, Whole.
-/
import Derived.Test.YtdkfkalplmgoeaaGreatProg
import Derived.Test.YtdkfkalplmgoeaaGreatChecksL
import Derived.ChangeKeysEq
import Derived.Test.YtdkfkalplmgoeaaGreatNavCutAllL
import Derived.Deep.WholeRow
import Derived.Laws.CopyOwn
namespace Go.Proofs.YtdkfkalplmgoeaaGreat
open Go.RowKit
set_option maxRecDepth 100000
theorem zoc:(Tryz.prog.info? 24).isSome=true:=by kernel_rfl
end Go.Proofs.YtdkfkalplmgoeaaGreat
namespace Go.Proofs.YtdkfkalplmgoeaaGreat
open Go.RowKit
set_option maxRecDepth 100000
def zg3 (x y:Bx):Bool:=decide (x.x.lo=y.x.lo)&&decide (x.x.hi=y.x.hi)&&decide (x.y.lo=y.y.lo)&&decide (x.y.hi=y.y.hi)&&decide (x.z.lo=y.z.lo)&&decide (x.z.hi=y.z.hi)
theorem zlf {x y:Bx}:zg3 x y=true↔x=y:=by
 obtain ⟨⟨a,b⟩,⟨c,d⟩,⟨e,f⟩⟩:=x
 obtain ⟨⟨a',b'⟩,⟨c',d'⟩,⟨e',f'⟩⟩:=y
 unfold zg3
 simp[and_assoc]
theorem zoD (x y:Bx) (w:World) :
 (Op.equalIn 9999 26 (.agg #[.int .i64 x.x.lo,.int .i64 x.x.hi,.int .i64 x.y.lo,.int .i64 x.y.hi,.int .i64 x.z.lo,.int .i64 x.z.hi]) (.agg #[.int .i64 y.x.lo,.int .i64 y.x.hi,.int .i64 y.y.lo,.int .i64 y.y.hi,.int .i64 y.z.lo,.int .i64 y.z.hi])).run Tryz.prog w=.ok (zg3 x y) w:=by
 obtain ⟨i,hi⟩:=Option.isSome_iff_exists.1 zoc
 rw[run_equalIn_array w 9998 _ _ Tryz.underlying26 hi]
 have hC:Tryz.prog.cellsOf 24=2:=by kernel_rfl
 rw[hC]
 have hr:List.range 3=[0,1,2]:=rfl
 rw[hr]
 simp[go_sem,Op.eqItems]
 unfold zg3
 (repeat' split)<;>simp_all
end Go.Proofs.YtdkfkalplmgoeaaGreat
namespace Go.Proofs.YtdkfkalplmgoeaaGreat
open Go.RowKit
class Ra64 (m:Radio):Prop where
 place:B64 m.place
 dir:B64 m.dir
 value:S64 m.value
instance zpV (m:Radio) [h:Ra64 m]:B64 m.place:=h.place
instance zqZ (m:Radio) [h:Ra64 m]:B64 m.dir:=h.dir
instance zpW (m:Radio) [h:Ra64 m]:S64 m.value:=h.value
class Pv64 (s:State):Prop where
 p:B64 s.p
 v:B64 s.v
instance pv64_p (s:State) [h:Pv64 s]:B64 s.p:=h.p
instance pv64_v (s:State) [h:Pv64 s]:B64 s.v:=h.v
theorem zkg (s:State) (m:Radio) [hs:Pv64 s]:Pv64 (cutS s m):=by
 unfold cutS
 have hp:B64 s.p:=hs.p
 have hv:B64 s.v:=hs.v
 split
 ·exact ⟨(zdZ _ _ _ 3).2.2,hv⟩
 ·split
  ·exact ⟨hp,zbP _ _ _ _ 3⟩
  ·split
   ·exact ⟨zbP _ _ _ _ 3,hv⟩
   ·exact ⟨hp,zbP _ _ _ _ 3⟩
def Radio.cells (m:Radio):List Value:=[.int .i64 m.kind,.int .i64 m.place.x.lo,.int .i64 m.place.x.hi,.int .i64 m.place.y.lo,.int .i64 m.place.y.hi,.int .i64 m.place.z.lo,.int .i64 m.place.z.hi,.int .i64 m.dir.x.lo,.int .i64 m.dir.x.hi,.int .i64 m.dir.y.lo,.int .i64 m.dir.y.hi,.int .i64 m.dir.z.lo,.int .i64 m.dir.z.hi,.int .i64 m.value.lo,.int .i64 m.value.hi]
def zeg (s:State) (m:Radio):Option State:=if cutE s m=0 then some (cutS s m) else if cutE s m=7 then none else some s
def zbq (keep:Nat→Bool):List Radio→Nat→State→Option State
 |[],_,s=>some s
 |m::l,i,s=>if keep i=true then (match zeg s m with|some s'=>zbq keep l (i+1) s'|none=>none) else zbq keep l (i+1) s
structure ResF where
 s:State
 n:Int
 e:Int
def badF (e:Int):ResF:=⟨State.zero,0,e⟩
open Classical in
noncomputable def zaB (keep:Nat→Bool) (l:List Radio):Nat→Int→State→ResF
 |0,used,s=>⟨s,used,0⟩
 |n+1,used,s=>match zbq keep l 0 s with
  |none=>badF 7
  |some s'=>if s'=s then ⟨s',used+1,0⟩ else zaB keep l n (used+1) s'
section
variable {keep:Nat→Bool} {l:List Radio} {k:Nat} {s:State}
theorem zmq (hk:k<l.length) (h:keep k=false):zbq keep (l.drop k) k s=zbq keep (l.drop (k+1)) (k+1) s:=by
 rw[List.drop_eq_getElem_cons hk]
 show (if keep k=true then _ else _)=_
 rw[h]
 rfl
theorem zke (hk:k<l.length) (h:keep k=true) (h0:cutE s l[k]=0):zbq keep (l.drop k) k s=zbq keep (l.drop (k+1)) (k+1) (cutS s l[k]):=by
 rw[List.drop_eq_getElem_cons hk]
 show (if keep k=true then _ else _)=_
 rw[if_pos h]
 unfold zeg
 rw[if_pos h0]
theorem ziy (hk:k<l.length) (h:keep k=true) (h7:cutE s l[k]=7):zbq keep (l.drop k) k s=none:=by
 rw[List.drop_eq_getElem_cons hk]
 show (if keep k=true then _ else _)=_
 rw[if_pos h]
 unfold zeg
 rw[if_neg (by omega),if_pos h7]
theorem ziz (hk:k<l.length) (h:keep k=true) (h0:cutE s l[k]≠0) (h7:cutE s l[k]≠7):zbq keep (l.drop k) k s=zbq keep (l.drop (k+1)) (k+1) s:=by
 rw[List.drop_eq_getElem_cons hk]
 show (if keep k=true then _ else _)=_
 rw[if_pos h]
 unfold zeg
 rw[if_neg h0,if_neg h7]
theorem zkf:zbq keep (l.drop l.length) l.length s=some s:=by rw[List.drop_length];rfl
end
section
variable {keep:Nat→Bool} {l:List Radio} {n:Nat} {u:Int} {s s':State}
theorem zeD (h:zbq keep l 0 s=none):zaB keep l (n+1) u s=badF 7:=by
 unfold zaB
 rw[h]
theorem zeE (h:zbq keep l 0 s=some s):zaB keep l (n+1) u s=⟨s,u+1,0⟩:=by
 unfold zaB
 rw[h]
 exact if_pos rfl
theorem zeC (h:zbq keep l 0 s=some s') (hn:s'≠s):zaB keep l (n+1) u s=zaB keep l n (u+1) s':=by
 rw[zaB,h]
 exact if_neg hn
end
def zaQ (s:State) (l:List Radio) (n:Int):Int:=
 if 16<l.length then 3 else if s.okB=false∨n<0∨16<n then 2 else zaL (l.all Radio.okB) 2
noncomputable def fuseRR (s:State) (l:List Radio) (n:Int):ResF:=if zaQ s l n=0 then zaB (fun _=>true) l n.toNat 0 s else badF (zaQ s l n)
theorem zop {l:List Radio} (k:Nat) (hk:k<l.length) (h:l[k].okB=false):l.all Radio.okB=false:=by
 rw[List.all_eq_false]
 exact ⟨l[k],List.getElem_mem hk,by rw[h];decide⟩
theorem zlA {l:List Radio} (h:∀ j (hj:j<l.length),l[j].okB=true):l.all Radio.okB=true:=by
 rw[List.all_eq_true]
 intro x hx
 obtain ⟨i,hi,e⟩:=List.mem_iff_getElem.1 hx
 rw[←e]
 exact h i hi
end Go.Proofs.YtdkfkalplmgoeaaGreat
namespace Go.Proofs.YtdkfkalplmgoeaaGreat
open Go.RowKit Go.Shelf
set_option maxRecDepth 100000
set_option maxHeartbeats 8000000
theorem zif {s:State} {l:List Radio} {n:Int} (h:16<l.length):zaQ s l n=3:=by unfold zaQ;rw[if_pos h]
theorem zd3 {s:State} {l:List Radio} {n:Int} (h:¬ 16<l.length) (h2:s.okB=false∨n<0∨16<n):zaQ s l n=2:=by unfold zaQ;rw[if_neg h,if_pos h2]
theorem zj1 {s:State} {l:List Radio} {n:Int} (h:¬ 16<l.length) (h2:¬ (s.okB=false∨n<0∨16<n)):zaQ s l n=zaL (l.all Radio.okB) 2:=by unfold zaQ;rw[if_neg h,if_neg h2]
theorem zb3 (s:State) (l:List Radio) (n:Int) (ao:Option Addr) (cap:Nat) (w:World) (hs:SlAt w (.slice ao l.length cap) l.length (l.flatMap Radio.cells)) :
 Calls Tryz.prog 17 #[.agg #[.int .i64 s.t,.int .i64 s.p.x.lo,.int .i64 s.p.x.hi,.int .i64 s.p.y.lo,.int .i64 s.p.y.hi,.int .i64 s.p.z.lo,.int .i64 s.p.z.hi,.int .i64 s.v.x.lo,.int .i64 s.v.x.hi,.int .i64 s.v.y.lo,.int .i64 s.v.y.hi,.int .i64 s.v.z.lo,.int .i64 s.v.z.hi,.int .i64 s.m.lo,.int .i64 s.m.hi],.slice ao l.length cap,.int .i64 n] w fun e w'=>e=.returned (.int .i64 (zaQ s l n))∧Grew w w':=by
 have hm:=hs.len_le
 unfold maxLen at hm
 obtain ⟨ao',cap',e1,-,hx⟩:=hs
 cases e1
 have HE:=Lib.hid (SlAt.elem (f:=Radio.cells) (c:=15) (fun _=>rfl) (by omega) hx)
 clear hx
 by_cases hl:16<l.length
 ·have hl':(16:Int)<l.length:=by omega
  have HR:=Lib.hid (zif (s:=s) (n:=n) hl)
  go_enter Tryz.func17,Tryz.ntmps17
  go_wp2
  go_ret
  exact ⟨zaC HR.out.symm,gw⟩
 have hl':¬ ((16:Int)<l.length):=by omega
 cases h1:s.okB
 ·have HS2:=Lib.hid (fun w'=>zaH (show zaL s.okB 2=2 by rw[h1];rfl) (zfY s w'))
  have HR:=Lib.hid (zd3 (n:=n) hl (.inl h1))
  clear h1
  go_enter Tryz.func17,Tryz.ntmps17
  go_wp2_with (first|(go_at_call 34;(with_reducible refine zaa (HS2.out _) ?_);intro u))
  go_ret
  exact ⟨zaC HR.out.symm,gw⟩
 have HS2:=Lib.hid (fun w'=>zaH (show zaL s.okB 2=0 by rw[h1];rfl) (zfY s w'))
 by_cases h2:n<0
 ·have HR:=Lib.hid (zd3 (s:=s) (n:=n) hl (.inr (.inl h2)))
  clear h1
  go_enter Tryz.func17,Tryz.ntmps17
  go_wp2_with (first|(go_at_call 34;(with_reducible refine zaa (HS2.out _) ?_);intro u))
  go_ret
  exact ⟨zaC HR.out.symm,gw⟩
 by_cases h3:16<n
 ·have HR:=Lib.hid (zd3 (s:=s) (n:=n) hl (.inr (.inr h3)))
  clear h1
  go_enter Tryz.func17,Tryz.ntmps17
  go_wp2_with (first|(go_at_call 34;(with_reducible refine zaa (HS2.out _) ?_);intro u))
  go_ret
  exact ⟨zaC HR.out.symm,gw⟩
 have HR:=Lib.hid (zj1 (s:=s) (n:=n) hl (by rw[h1];simp;omega))
 clear h1
 go_enter Tryz.func17,Tryz.ntmps17
 go_wp2_with (first|(go_at_call 34;(with_reducible refine zaa (HS2.out _) ?_);intro u))
 go_loopw [26] (fun t wr=>∃ k:Nat,t=.int .i64 k∧k≤l.length∧(∀ j (hj:j<l.length),j<k→l[j].okB=true)∧Grew w wr) (fun t _=>l.length-(intOf t).toNat)
 case atStart=>exact ⟨0,rfl,by omega,fun _ _ h=>by omega,gw⟩
 case round=>
  obtain ⟨k,rfl,hk,hbe,hg⟩:=hrel
  obtain ⟨z,rfl⟩:=zaj hg
  clear hg
  have Hbe:=Lib.hid hbe
  clear hbe
  by_cases hlt:k<l.length
  ·obtain ⟨b1,o1,e1,i1,hd1,hd2⟩:=HE.out k hlt
   have hc0:=hd1 _ rfl
   have hc1:=hd2 1 _ rfl
   have hc2:=hd2 2 _ rfl
   have hc3:=hd2 3 _ rfl
   have hc4:=hd2 4 _ rfl
   have hc5:=hd2 5 _ rfl
   have hc6:=hd2 6 _ rfl
   have hc7:=hd2 7 _ rfl
   have hc8:=hd2 8 _ rfl
   have hc9:=hd2 9 _ rfl
   have hc10:=hd2 10 _ rfl
   have hc11:=hd2 11 _ rfl
   have hc12:=hd2 12 _ rfl
   have hc13:=hd2 13 _ rfl
   have hc14:=hd2 14 _ rfl
   clear hd1 hd2
   cases e1
   have i1:BlockIn w b1:=⟨i1⟩
   have Hno:=Lib.hid (fun h=>show zaQ s l n=2 by rw[HR.out,zop k hlt h];rfl)
   have Hyes:=Lib.hid (fun (hx:l[k].okB=true) j (hj:j<l.length) (hjk:j<k+1)=>show l[j].okB=true by
    by_cases e:j=k
    ·subst e;exact hx
    ·exact Hbe.out j hj (by omega))
   generalize l[k]=m at *
   cases hx:m.okB
   ·have HN2:=Lib.hid (fun w'=>zaH (show zaL m.okB 2=2 by rw[hx];rfl) (zfo m w'))
    have Hr:=Lib.hid (Hno.out hx)
    clear hx Hno Hyes
    go_wp2_with (first|(go_at_call 35;(with_reducible refine zaa (HN2.out _) ?_);intro u))
    go_ret
    exact ⟨zaC Hr.out.symm,gw⟩
   ·have HN2:=Lib.hid (fun w'=>zaH (show zaL m.okB 2=0 by rw[hx];rfl) (zfo m w'))
    have Hr:=Lib.hid (Hyes.out hx)
    clear hx Hno Hyes
    go_wp2_with (first|(go_at_call 35;(with_reducible refine zaa (HN2.out _) ?_);intro u))
    go_roundw
    case rel=>exact ⟨k+1,by go_num,by omega,Hr.out,gw⟩
    case measure=>simp[intOf];omega
  ·obtain rfl:k=l.length:=by omega
   have Hr:=Lib.hid (show zaQ s l n=0 by rw[HR.out,zlA (fun j hj=>Hbe.out j hj hj)];rfl)
   go_wp2
   go_ret
   exact ⟨zaC Hr.out.symm,gw⟩
theorem zcq (s:State) (l:List Radio) (n:Int) (ao:Option Addr) (cap:Nat) (w:World) (hs:SlAt w (.slice ao l.length cap) l.length (l.flatMap Radio.cells)) :
 Calls Tryz.prog 21 #[.agg #[.int .i64 s.t,.int .i64 s.p.x.lo,.int .i64 s.p.x.hi,.int .i64 s.p.y.lo,.int .i64 s.p.y.hi,.int .i64 s.p.z.lo,.int .i64 s.p.z.hi,.int .i64 s.v.x.lo,.int .i64 s.v.x.hi,.int .i64 s.v.y.lo,.int .i64 s.v.y.hi,.int .i64 s.v.z.lo,.int .i64 s.v.z.hi,.int .i64 s.m.lo,.int .i64 s.m.hi],.slice ao l.length cap,.int .i64 n] w fun e w'=>e=.returned (.int .i64 (zaQ s l n))∧Grew w w':=by
 have hm:=hs.len_le
 unfold maxLen at hm
 obtain ⟨ao',cap',e1,-,hx⟩:=hs
 cases e1
 have HE:=Lib.hid (SlAt.elem (f:=Radio.cells) (c:=15) (fun _=>rfl) (by omega) hx)
 clear hx
 by_cases hl:16<l.length
 ·have hl':(16:Int)<l.length:=by omega
  have HR:=Lib.hid (zif (s:=s) (n:=n) hl)
  go_enter Tryz.func21,Tryz.ntmps21
  go_wp2
  go_ret
  exact ⟨zaC HR.out.symm,gw⟩
 have hl':¬ ((16:Int)<l.length):=by omega
 cases h1:s.okB
 ·have HS2:=Lib.hid (fun w'=>zaH (show zaL s.okB 2=2 by rw[h1];rfl) (zgi s w'))
  have HR:=Lib.hid (zd3 (n:=n) hl (.inl h1))
  clear h1
  go_enter Tryz.func21,Tryz.ntmps21
  go_wp2_with (first|(go_at_call 38;(with_reducible refine zaa (HS2.out _) ?_);intro u))
  go_ret
  exact ⟨zaC HR.out.symm,gw⟩
 have HS2:=Lib.hid (fun w'=>zaH (show zaL s.okB 2=0 by rw[h1];rfl) (zgi s w'))
 by_cases h2:n<0
 ·have HR:=Lib.hid (zd3 (s:=s) (n:=n) hl (.inr (.inl h2)))
  clear h1
  go_enter Tryz.func21,Tryz.ntmps21
  go_wp2_with (first|(go_at_call 38;(with_reducible refine zaa (HS2.out _) ?_);intro u))
  go_ret
  exact ⟨zaC HR.out.symm,gw⟩
 by_cases h3:16<n
 ·have HR:=Lib.hid (zd3 (s:=s) (n:=n) hl (.inr (.inr h3)))
  clear h1
  go_enter Tryz.func21,Tryz.ntmps21
  go_wp2_with (first|(go_at_call 38;(with_reducible refine zaa (HS2.out _) ?_);intro u))
  go_ret
  exact ⟨zaC HR.out.symm,gw⟩
 have HR:=Lib.hid (zj1 (s:=s) (n:=n) hl (by rw[h1];simp;omega))
 clear h1
 go_enter Tryz.func21,Tryz.ntmps21
 go_wp2_with (first|(go_at_call 38;(with_reducible refine zaa (HS2.out _) ?_);intro u))
 go_loopw [7] (fun t wr=>∃ k:Nat,t=.int .i64 k∧k≤l.length∧(∀ j (hj:j<l.length),j<k→l[j].okB=true)∧Grew w wr) (fun t _=>l.length-(intOf t).toNat)
 case atStart=>exact ⟨0,rfl,by omega,fun _ _ h=>by omega,gw⟩
 case round=>
  obtain ⟨k,rfl,hk,hbe,hg⟩:=hrel
  obtain ⟨z,rfl⟩:=zaj hg
  clear hg
  have Hbe:=Lib.hid hbe
  clear hbe
  by_cases hlt:k<l.length
  ·obtain ⟨b1,o1,e1,i1,hd1,hd2⟩:=HE.out k hlt
   have hc0:=hd1 _ rfl
   have hc1:=hd2 1 _ rfl
   have hc2:=hd2 2 _ rfl
   have hc3:=hd2 3 _ rfl
   have hc4:=hd2 4 _ rfl
   have hc5:=hd2 5 _ rfl
   have hc6:=hd2 6 _ rfl
   have hc7:=hd2 7 _ rfl
   have hc8:=hd2 8 _ rfl
   have hc9:=hd2 9 _ rfl
   have hc10:=hd2 10 _ rfl
   have hc11:=hd2 11 _ rfl
   have hc12:=hd2 12 _ rfl
   have hc13:=hd2 13 _ rfl
   have hc14:=hd2 14 _ rfl
   clear hd1 hd2
   cases e1
   have i1:BlockIn w b1:=⟨i1⟩
   have Hno:=Lib.hid (fun h=>show zaQ s l n=2 by rw[HR.out,zop k hlt h];rfl)
   have Hyes:=Lib.hid (fun (hx:l[k].okB=true) j (hj:j<l.length) (hjk:j<k+1)=>show l[j].okB=true by
    by_cases e:j=k
    ·subst e;exact hx
    ·exact Hbe.out j hj (by omega))
   generalize l[k]=m at *
   cases hx:m.okB
   ·have HN2:=Lib.hid (fun w'=>zaH (show zaL m.okB 2=2 by rw[hx];rfl) (zgj m w'))
    have Hr:=Lib.hid (Hno.out hx)
    clear hx Hno Hyes
    go_wp2_with (first|(go_at_call 39;(with_reducible refine zaa (HN2.out _) ?_);intro u))
    go_ret
    exact ⟨zaC Hr.out.symm,gw⟩
   ·have HN2:=Lib.hid (fun w'=>zaH (show zaL m.okB 2=0 by rw[hx];rfl) (zgj m w'))
    have Hr:=Lib.hid (Hyes.out hx)
    clear hx Hno Hyes
    go_wp2_with (first|(go_at_call 39;(with_reducible refine zaa (HN2.out _) ?_);intro u))
    go_roundw
    case rel=>exact ⟨k+1,by go_num,by omega,Hr.out,gw⟩
    case measure=>simp[intOf];omega
  ·obtain rfl:k=l.length:=by omega
   have Hr:=Lib.hid (show zaQ s l n=0 by rw[HR.out,zlA (fun j hj=>Hbe.out j hj hj)];rfl)
   go_wp2
   go_ret
   exact ⟨zaC Hr.out.symm,gw⟩
end Go.Proofs.YtdkfkalplmgoeaaGreat
namespace Go.Proofs.YtdkfkalplmgoeaaGreat
open Go.RowKit
class RowOf (w:World) (b:Nat) (t:outParam TypeId) (n:outParam Nat):Prop where
 is:∃ cur:Array Value,w.heap[b]?=some (.cells cur t (0,0))∧cur.size=n
class OneCells (l:List Value) (n:outParam Nat):Prop where
 len:l.length=n
 one:∀ v∈l,v.oneCell'=true
instance zoK:OneCells [] 0:=⟨rfl,by simp⟩
instance zoJ (k:IntKind) (a:Int) (l:List Value) (n:Nat) [h:OneCells l n]:OneCells (.int k a::l) (n+1):=⟨by simp[h.len],by intro v hv;rcases List.mem_cons.1 hv with rfl|hv;rfl;exact h.one v hv⟩
instance znQ (a:Bool) (l:List Value) (n:Nat) [h:OneCells l n]:OneCells (.bool a::l) (n+1):=⟨by simp[h.len],by intro v hv;rcases List.mem_cons.1 hv with rfl|hv;rfl;exact h.one v hv⟩
instance zm5 (a:Option Addr) (p q:Nat) (l:List Value) (n:Nat) [h:OneCells l n]:OneCells (.slice a p q::l) (n+1):=⟨by simp[h.len],by intro v hv;rcases List.mem_cons.1 hv with rfl|hv;rfl;exact h.one v hv⟩
instance zqw (w:World) (l:List Value) (t:TypeId) (m n:Nat) [h:SizeAt w m] [k:OneCells l n]:RowOf (w.alloc (.cells l.toArray t)) m t n:=by
 obtain rfl:=h.eq
 exact ⟨_,heap_alloc_last w _,by simp[k.len]⟩
instance zpE (w:World) (o:Obj) (b:Nat) (t:TypeId) (n:Nat) [h:RowOf w b t n]:RowOf (w.alloc o) b t n:=by
 obtain ⟨cur,h1,h2⟩:=h.is
 exact ⟨cur,(Below.heap_alloc _ _ _ (Array.getElem?_eq_some_iff.1 h1).1).trans h1,h2⟩
instance zpZ (w:World) (b:Nat) (t:TypeId) (n:Nat) [h:RowOf w b t n]:RowOf w.drew b t n:=⟨h.is⟩
instance zpF (w:World) (u:Later w) (b:Nat) (t:TypeId) (n:Nat) [h:RowOf w b t n]:RowOf u.world b t n:=by
 obtain ⟨cur,h1,h2⟩:=h.is
 exact ⟨cur,(u.grew.block b (Array.getElem?_eq_some_iff.1 h1).1).trans h1,h2⟩
instance zn5 (w:World) (c j:Nat) (v:Value) (b:Nat) (t:TypeId) (n:Nat) [h:RowOf w b t n]:RowOf (w.setCell ⟨c,j,none⟩ v) b t n:=by
 obtain ⟨cur,h1,h2⟩:=h.is
 by_cases e:b=c
 ·subst e
  exact ⟨cur.setIfInBounds j v,by unfold World.setCell;simp[Array.getElem?_modify,h1],by simp[h2]⟩
 ·exact ⟨cur,(Below.heap_setCell _ _ _ _ e).trans h1,h2⟩
instance zoQ (w:World) (c:Nat) (l:List Value) (b:Nat) (t:TypeId) (n:Nat) [h:RowOf w b t n] [k:Apart b c]:RowOf (w.setRow c l.toArray) b t n:=by
 obtain ⟨cur,h1,h2⟩:=h.is
 exact ⟨cur,(setRow_other w c b _ k.ne).trans h1,h2⟩
theorem zeS {P:Program} {w:World} {b:Nat} {t:TypeId} {n:Nat} {l:List Value} [h:RowOf w b t n] [hl:OneCells l n] (hi:(P.info? t).map (·.size)=some n) :
 (Instr.storeAt t (.pointer (some ⟨b,0,none⟩)) (.agg l.toArray)).run P w=.ok () (w.setRow b l.toArray):=by
 obtain ⟨cur,h1,h2⟩:=h.is
 simp only[Instr.storeAt,Instr.sureAddr,Sem.run_bind,Sem.run_pure,Result.andThen]
 exact run_storeVar_row w b t t cur l.toArray h1 (by rw[hi];simp[hl.len]) (by simp[h2,hl.len]) (by rw[Array.all_eq_true_iff_forall_mem];intro v hv;exact hl.one v (by simpa using hv))
@[go_sem] theorem zm2 (w:World) (b i:Nat) (t:TypeId) (n:Nat) (l:List Value) [h:RowOf w b t n]:(w.setRow b l.toArray).cell? ⟨b,i,none⟩=l[i]?:=by
 obtain ⟨cur,h1,-⟩:=h.is
 rw[cell_setRow_same w b i cur _ t (0,0) h1]
 simp
@[go_sem] theorem zdl (w:World) (c b i:Nat) (cs:Array Value) [h:Apart b c]:(w.setRow c cs).cell? ⟨b,i,none⟩=w.cell? ⟨b,i,none⟩:=cell_setRow_other w c cs _ h.ne
@[go_sem] theorem zja (w:World) (c b i:Nat) (cs:Array Value) [h:Apart b c]:(w.setRow c cs).frozen? ⟨b,i,none⟩=w.frozen? ⟨b,i,none⟩:=World.frozen?_of_block (setRow_other w c b cs h.ne)
instance zn9 (w:World) (c:Nat) (cs:Array Value) (n:Nat) [h:SizeAt w n]:SizeAt (w.setRow c cs) n:=⟨by simp[h.eq]⟩
instance zm1 (w:World) (c:Nat) (cs:Array Value) (b:Nat) [h:BlockIn w b]:BlockIn (w.setRow c cs) b:=⟨by simpa using h.lt⟩
instance zm3 (w:World) (c:Nat) (cs:Array Value) (b i:Nat) [h:HasCell w b i] [k:Apart b c]:HasCell (w.setRow c cs) b i:=by
 obtain ⟨v,hv⟩:=h.is
 exact ⟨v,by rw[zdl,hv]⟩
theorem Grew.setRow {a w:World} (h:Grew a w) (b:Nat) (cs:Array Value) [hb:NewFor a b]:Grew a (w.setRow b cs):=below_setRow h hb.le cs
theorem gwr {a w:World} (h:Grew a w:=by repeat (first|with_reducible exact Grew.refl _|with_reducible apply Grew.alloc|with_reducible apply Grew.later|with_reducible apply Grew.drew|with_reducible apply Grew.setRow|with_reducible apply Grew.store|with_reducible assumption)):Grew a w:=h
end Go.Proofs.YtdkfkalplmgoeaaGreat
