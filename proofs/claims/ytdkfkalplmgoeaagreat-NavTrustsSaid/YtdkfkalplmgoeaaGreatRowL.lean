/-
  Joined: Order, NavCalls, NavLaw, FlightCalc, DivLaw, Row.
-/
import Derived.Test.YtdkfkalplmgoeaaGreatSpanAddL
import Derived.Test.YtdkfkalplmgoeaaGreatRefOpsAllL
import Derived.Test.YtdkfkalplmgoeaaGreatChecksL
import Derived.Test.YtdkfkalplmgoeaaGreatProg
import Derived.Defers
import Derived.Recover
import Derived.ProofKit
import Derived.Deep.RegionHeld3
import Derived.Test.YtdkfkalplmgoeaaGreatNumAllL
import Derived.Test.YtdkfkalplmgoeaaGreatFolds2L
import Derived.Test.YtdkfkalplmgoeaaGreatCalcsL
import Derived.Test.YtdkfkalplmgoeaaGreatFoldsL
import Derived.Test.YtdkfkalplmgoeaaGreatWidesL
import Derived.Test.YtdkfkalplmgoeaaGreatSpanMul2L
import Derived.Deep.AppendLies
namespace Go.Proofs.YtdkfkalplmgoeaaGreat
open Go.RowKit
set_option maxRecDepth 100000
set_option maxHeartbeats 2000000
def zoM (a b:Sp):Int:=if a.okB&&b.okB then (if a.hi<b.lo then -1 else if b.hi<a.lo then 1 else 0) else 0
end Go.Proofs.YtdkfkalplmgoeaaGreat
namespace Go.Proofs.YtdkfkalplmgoeaaGreat
open Go.RowKit
set_option maxRecDepth 100000
set_option maxHeartbeats 4000000
theorem zkt (p:Addr) (w:World):CallsD Tryz.prog 128 #[.pointer (some p)] .returning w fun e u' w'=>e=.returned (.tuple #[])∧u'=.returning∧w'=w:=by
 refine callsD_of_wpS Tryz.func128 rfl fun c₀ cs hu=>?_
 apply wpS_seq
 apply wpS_region
 simp[wpOpsS,go_sem,recoverD,hu,Tryz.ntmps128,Exit.thenS]
 refine wpS_of_wp ?_
 go_wp2
 cases c₀
 simp_all [bodyPostS,results,Tryz.results128]
theorem zpk (v:Value) (xT:TypeId) (w:World):(Instr.typeAssert (.iface 186 v) xT 186 true).run Tryz.prog w=.ok (.tuple #[v,.bool true]) w:=by kernel_rfl
theorem zku (b:Nat) (c x:Int) (w:World) (hc:w.cell? ⟨b,0,none⟩=some (.int .i64 x)) (hf:w.frozen? ⟨b,0,none⟩=false):CallsD Tryz.prog 128 #[.pointer (some ⟨b,0,none⟩)] (.panicking [{ v:=.iface 186 (.agg #[.int .i64 c]),recovered:=false }]) w fun e u' w'=>
 e=.returned (.tuple #[])∧u'=.panicking [{ v:=.iface 186 (.agg #[.int .i64 c]),recovered:=true }]∧w'=(w.alloc (.cells #[.int .i64 c] 186)).setCell ⟨b,0,none⟩ (.int .i64 c):=by
 have hst:=zpk
 have ib:BlockIn w b:=BlockIn.of_cell hc
 refine callsD_of_wpS Tryz.func128 rfl fun c₀ cs hu=>?_
 apply wpS_seq
 apply wpS_region
 simp[wpOpsS,go_sem,recoverD,hu,Tryz.ntmps128,Exit.thenS]
 refine wpS_of_wp ?_
 go_wp2
 exact ⟨rfl,_,rfl,.tuple #[],results_none rfl _ _ _,rfl,rfl,rfl⟩
abbrev zcn (c:Int):Ending:=.panicked [{ v:=.iface 186 (.agg #[.int .i64 c]),recovered:=false }]
def zfv (b:Nat) (o:Option Int) (w':World):World:=
 match o with
 |none=>w'.setCell ⟨b,0,none⟩ (.int .i64 0)
 |some c=>(w'.alloc (.cells #[.int .i64 c] 186)).setCell ⟨b,0,none⟩ (.int .i64 c)
def Ends (w0:World) (Q:Option Int→World→Prop) (e:Ending) (w':World):Prop:=
 ((e=.returned (.tuple #[])∧Q none w')∨∃ c,e=zcn c∧Q (some c) w')∧w'.cell? ⟨w0.heap.size,0,none⟩=some (.int .i64 0)∧w'.frozen? ⟨w0.heap.size,0,none⟩=false
end Go.Proofs.YtdkfkalplmgoeaaGreat
namespace Go.Proofs.YtdkfkalplmgoeaaGreat
open Go.RowKit
set_option maxRecDepth 100000
set_option maxHeartbeats 4000000
def zfV (a b:Int):Int:=if a=0 then b else a
def zba (p f:Bx):Bx:=⟨(subR p.x f.x).s,(subR p.y f.y).s,(subR p.z f.z).s⟩
def zbt (p f:Bx):Int:=zfV (zfV (subR p.x f.x).e (subR p.y f.y).e) (subR p.z f.z).e
instance zqU (p f:Bx):B64 (zba p f):=by unfold zba;exact ⟨inferInstance,inferInstance,inferInstance⟩
def zdH (v:Value) (c:Int) (w:World) (e:Ending) (w':World):Prop:=e=(if c=0 then .returned v else zcn c)∧Grew w w'
section
variable {P:Program} {f:FuncId} {args:Array Value} {w:World} {v:Value} {c:Int}
theorem zfN (h:Calls P f args w (zdH v c w)) (hc:c=0):Calls P f args w fun e w'=>e=.returned v∧Grew w w':=
 h.mono fun _ _ ⟨he,g⟩=>⟨by rw[he,if_pos hc],g⟩
theorem zfM (h:Calls P f args w (zdH v c w)) (hc:c≠0):Calls P f args w fun e w'=>e=zcn c∧Grew w w':=
 h.mono fun _ _ ⟨he,g⟩=>⟨by rw[he,if_neg hc],g⟩
theorem zew {R:Ending→World→Prop} (h:Calls P f args w fun e w'=>e=zcn c∧Grew w w') (k:∀ u:Later w,R (zcn c) u.world):Calls P f args w R:=
 h.mono fun _ w' ⟨he,hg⟩=>by subst he;exact k ⟨w',hg⟩
theorem zbV {w':World} (hc:c=0) {e:Ending} (he:e=.returned v) (g:Grew w w'):zdH v c w e w':=⟨by rw[he,if_pos hc],g⟩
theorem zdt {w':World} (hc:c≠0) (g:Grew w w'):zdH v c w (zcn c) w':=⟨by rw[if_neg hc],g⟩
end
theorem zaZ (a:Sp) (c:Int) (w:World):Calls Tryz.prog 129 #[.agg #[.int .i64 a.lo,.int .i64 a.hi],.int .i64 c] w (zdH (.agg #[.int .i64 a.lo,.int .i64 a.hi]) c w):=by
 by_cases hc:c=0
 ·have hc':(c != 0)=false:=by simp[hc]
  go_enter Tryz.func129,Tryz.ntmps129
  go_wp2
  refine bodyPost_ret (by (simp[results,Tryz.results129,go_sem]<;>rfl)) rfl ?_
  exact zbV hc rfl gw
 ·have hc':(c != 0)=true:=by simp[hc]
  go_enter Tryz.func129,Tryz.ntmps129
  go_wp2
  exact ⟨rfl,zdt hc gw⟩
theorem zdq (a b:Sp) [ha:S64 a] [hb:S64 b] (w:World):Calls Tryz.prog 133 #[.agg #[.int .i64 a.lo,.int .i64 a.hi],.agg #[.int .i64 b.lo,.int .i64 b.hi]] w (zdH (.agg #[.int .i64 ((subR a b).s).lo,.int .i64 ((subR a b).s).hi]) (subR a b).e w):=by
 by_cases hc:(subR a b).e=0
 ·have HM:=Lib.hid (fun w'=>zfN (zaZ (subR a b).s (subR a b).e w') hc)
  have Hc:=Lib.hid hc
  clear hc
  go_enter Tryz.func133,Tryz.ntmps133
  go_wp2_with (first|(go_at_call 28;(with_reducible refine zaa (ziK a b _) ?_);intro u)|(go_at_call 129;(with_reducible refine zaa (HM.out _) ?_);intro u9))
  refine bodyPost_ret (by (simp[results,Tryz.results133,go_sem]<;>rfl)) rfl ?_
  exact zbV Hc.out rfl gw
 ·have HM:=Lib.hid (fun w'=>zfM (zaZ (subR a b).s (subR a b).e w') hc)
  have Hc:=Lib.hid hc
  clear hc
  go_enter Tryz.func133,Tryz.ntmps133
  go_wp2_with (first|(go_at_call 28;(with_reducible refine zaa (ziK a b _) ?_);intro u)|(go_at_call 129;(with_reducible refine zew (HM.out _) ?_);intro u9))
  exact ⟨rfl,zdt Hc.out gw⟩
theorem ze6 (a b:Sp) [ha:S64 a] [hb:S64 b] (w:World):Calls Tryz.prog 134 #[.agg #[.int .i64 a.lo,.int .i64 a.hi],.agg #[.int .i64 b.lo,.int .i64 b.hi]] w (zdH (.agg #[.int .i64 ((addR a b).s).lo,.int .i64 ((addR a b).s).hi]) (addR a b).e w):=by
 by_cases hc:(addR a b).e=0
 ·have HM:=Lib.hid (fun w'=>zfN (zaZ (addR a b).s (addR a b).e w') hc)
  have Hc:=Lib.hid hc
  clear hc
  go_enter Tryz.func134,Tryz.ntmps134
  go_wp2_with (first|(go_at_call 32;(with_reducible refine zaa (zcj a b _) ?_);intro u)|(go_at_call 129;(with_reducible refine zaa (HM.out _) ?_);intro u9))
  refine bodyPost_ret (by (simp[results,Tryz.results134,go_sem]<;>rfl)) rfl ?_
  exact zbV Hc.out rfl gw
 ·have HM:=Lib.hid (fun w'=>zfM (zaZ (addR a b).s (addR a b).e w') hc)
  have Hc:=Lib.hid hc
  clear hc
  go_enter Tryz.func134,Tryz.ntmps134
  go_wp2_with (first|(go_at_call 32;(with_reducible refine zaa (zcj a b _) ?_);intro u)|(go_at_call 129;(with_reducible refine zew (HM.out _) ?_);intro u9))
  exact ⟨rfl,zdt Hc.out gw⟩
end Go.Proofs.YtdkfkalplmgoeaaGreat
namespace Go.Proofs.YtdkfkalplmgoeaaGreat
open Go.RowKit
set_option maxRecDepth 100000
set_option maxHeartbeats 8000000
theorem zo1 {p f:Bx} (h:(subR p.x f.x).e≠0):zbt p f=(subR p.x f.x).e:=by unfold zbt zfV;rw[if_neg h,if_neg h]
theorem zo2 {p f:Bx} (h0:(subR p.x f.x).e=0) (h:(subR p.y f.y).e≠0):zbt p f=(subR p.y f.y).e:=by unfold zbt zfV;rw[if_pos h0,if_neg h]
theorem zlD {p f:Bx} (h0:(subR p.x f.x).e=0) (h1:(subR p.y f.y).e=0):zbt p f=(subR p.z f.z).e:=by unfold zbt zfV;rw[if_pos h0,if_pos h1]
theorem za7 {P:Program} {f:FuncId} {args:Array Value} {w:World} {v:Value} {c:Int} {R:Ending→World→Prop} (h:Calls P f args w (zdH v c w)) (h0:Hid (c≠0)→∀ u:Later w,R (zcn c) u.world) (h1:Hid (c=0)→∀ u:Later w,R (.returned v) u.world):Calls P f args w R:=
 h.mono fun e w' ⟨he,hg⟩=>by
  by_cases hc:c=0
  ·rw[if_pos hc] at he
   subst he
   exact h1 (Lib.hid hc) ⟨w',hg⟩
  ·rw[if_neg hc] at he
   subst he
   exact h0 (Lib.hid hc) ⟨w',hg⟩
theorem zec {w w':World} {v:Value} {c c':Int} (he:c'=c) (hc:c≠0) (g:Grew w w'):zdH v c' w (zcn c) w':=by
 subst he
 exact zdt hc g
theorem zgb (p f:Bx) [hp:B64 p] [hf:B64 f] (w:World):Calls Tryz.prog 78 #[.agg #[.int .i64 p.x.lo,.int .i64 p.x.hi,.int .i64 p.y.lo,.int .i64 p.y.hi,.int .i64 p.z.lo,.int .i64 p.z.hi],.agg #[.int .i64 f.x.lo,.int .i64 f.x.hi,.int .i64 f.y.lo,.int .i64 f.y.hi,.int .i64 f.z.lo,.int .i64 f.z.hi]] w (zdH (.agg #[.int .i64 ((zba p f)).x.lo,.int .i64 ((zba p f)).x.hi,.int .i64 ((zba p f)).y.lo,.int .i64 ((zba p f)).y.hi,.int .i64 ((zba p f)).z.lo,.int .i64 ((zba p f)).z.hi]) (zbt p f) w):=by
 go_enter Tryz.func78,Tryz.ntmps78
 go_wp2
 refine wp_loop_rounds 4 ?_
 all_goals rw[rounds_succ]
 all_goals go_wp2
 all_goals go_region_with (go_at_call 133;(with_reducible refine za7 (zdq p.x f.x _) ?_ ?_);(· intro hz u;exact ⟨rfl,zec (zo1 hz.out) hz.out gw⟩);intro hz0 u0)
 all_goals go_wp2
 all_goals rw[rounds_succ]
 all_goals go_wp2
 all_goals go_region_with (go_at_call 133;(with_reducible refine za7 (zdq p.y f.y _) ?_ ?_);(· intro hz u;exact ⟨rfl,zec (zo2 hz0.out hz.out) hz.out gw⟩);intro hz1 u1)
 all_goals go_wp2
 all_goals rw[rounds_succ]
 all_goals go_wp2
 all_goals go_region_with (go_at_call 133;(with_reducible refine za7 (zdq p.z f.z _) ?_ ?_);(· intro hz u;exact ⟨rfl,zec (zlD hz0.out hz1.out) hz.out gw⟩);intro hz2 u2)
 all_goals go_wp2
 all_goals rw[rounds_succ]
 all_goals go_wp2
 all_goals
  refine bodyPost_ret (by (simp[results,Tryz.results78,go_sem]<;>rfl)) rfl ?_
  exact zbV (by rw[zlD hz0.out hz1.out];exact hz2.out) rfl gw
end Go.Proofs.YtdkfkalplmgoeaaGreat
namespace Go.Proofs.YtdkfkalplmgoeaaGreat
open Go.RowKit
def zrf (r:Res):Res:=if r.e=0 then r else errR r.e
def zri (t n:Res):Res:=if t.e=0 then (if n.e=0 then divR t.s n.s else errR n.e) else errR t.e
def znP (p f:Bx):Res:=if zbt p f=0 then zbp (zba p f).list else errR (zbt p f)
def zrp (p v f:Bx):Res:=if zbt p f=0 then zri (zbn (zba p f) v) (zbp (zba p f).list) else errR (zbt p f)
def zpx (s:State) (m:Radio):Res:=
 if m.kind=0 then znP s.p m.place
 else if m.kind=1 then zrp s.p s.v m.place
 else if m.kind=2 then zbn m.dir s.p else zbn m.dir s.v
def zcv (s:State) (m:Radio):Res:=if s.okB&&m.okB then zrf (zpx s m) else errR 2
def zrc (s:State) (m:Radio):Int:=if (zcv s m).e=0 then (if (zcv s m).s.inB m.value then 1 else if zoM (zcv s m).s m.value=0 then 0 else -1) else 0
instance zrr (a b:Bx):S64 (zbn a b).s:=by
 unfold zbn
 split
 ·exact zgs mul2 (fun x=>by unfold mul2;infer_instance) _ _ inferInstance
 ·exact zbc _
end Go.Proofs.YtdkfkalplmgoeaaGreat
namespace Go.Proofs.YtdkfkalplmgoeaaGreat
open Go.RowKit Go.Shelf
set_option maxRecDepth 100000
set_option maxHeartbeats 2000000
def BinOk (g:Nat) (op:Sp→Sp→Res):Prop:=∀ (w:World) (a b:Sp),S64 a→S64 b→Calls Tryz.prog g #[.agg #[.int .i64 a.lo,.int .i64 a.hi],.agg #[.int .i64 b.lo,.int .i64 b.hi]] w fun e w'=>e=.returned (.tuple #[.agg #[.int .i64 (op a b).s.lo,.int .i64 (op a b).s.hi],.int .i64 (op a b).e])∧Grew w w'
theorem zg5 (b:Bx) [h:B64 b] (ao:Option Addr) (w:World) (hs:SlAt w (.slice ao 3 3) 3 [.int .i64 b.x.lo,.int .i64 b.x.hi,.int .i64 b.y.lo,.int .i64 b.y.hi,.int .i64 b.z.lo,.int .i64 b.z.hi]):Calls Tryz.prog 140 #[.slice ao 3 3] w fun e w'=>e=.returned (.tuple #[.agg #[.int .i64 (zbp b.list).s.lo,.int .i64 (zbp b.list).s.hi],.int .i64 (zbp b.list).e])∧Grew w w':=zlj (boxS b) ao 3 w hs
def zhl (f:Sp→Sp→Res) (e:Int) (a b:Bx):Res:=doR e (f a.x b.x)
def zi4 (f:Sp→Sp→Res) (e:Int) (a b:Bx):Res:=doR (zhl f e a b).e (f a.y b.y)
def znt (f:Sp→Sp→Res) (e:Int) (a b:Bx):Res:=doR (zi4 f e a b).e (f a.z b.z)
def eachB (f:Sp→Sp→Res) (e:Int) (a b:Bx):Bx:=⟨(zhl f e a b).s,(zi4 f e a b).s,(znt f e a b).s⟩
def OpC (g:Nat) (lb:Array Value) (op:Sp→Sp→Res) (c:Nat) (w0:World):Prop:=
 ∀ (w:World) (e:Int) (a b:Sp),S64 a→S64 b→ButT c w0 w→w.cell? ⟨c,0,none⟩=some (.int .i64 e)→w.frozen? ⟨c,0,none⟩=false→
  Calls Tryz.prog g (#[.agg #[.int .i64 a.lo,.int .i64 a.hi],.agg #[.int .i64 b.lo,.int .i64 b.hi]]++lb) w (RetC c (.agg #[.int .i64 ((doR e (op a b)).s).lo,.int .i64 ((doR e (op a b)).s).hi]) (doR e (op a b)).e w)
def zlL (f:Sp→Sp→Res) (e:Int) (a b:Bx):Nat→List Value
 |0=>[.int .i64 0,.int .i64 0,.int .i64 0,.int .i64 0,.int .i64 0,.int .i64 0]
 |1=>[.int .i64 ((zhl f e a b).s).lo,.int .i64 ((zhl f e a b).s).hi,.int .i64 0,.int .i64 0,.int .i64 0,.int .i64 0]
 |2=>[.int .i64 ((zhl f e a b).s).lo,.int .i64 ((zhl f e a b).s).hi,.int .i64 ((zi4 f e a b).s).lo,.int .i64 ((zi4 f e a b).s).hi,.int .i64 0,.int .i64 0]
 |_=>[.int .i64 ((zhl f e a b).s).lo,.int .i64 ((zhl f e a b).s).hi,.int .i64 ((zi4 f e a b).s).lo,.int .i64 ((zi4 f e a b).s).hi,.int .i64 ((znt f e a b).s).lo,.int .i64 ((znt f e a b).s).hi]
def zo9 (f:Sp→Sp→Res) (e:Int) (a b:Bx):Nat→Int
 |0=>e
 |1=>(zhl f e a b).e
 |2=>(zi4 f e a b).e
 |_=>(znt f e a b).e
structure EachAt (f:Sp→Sp→Res) (e:Int) (a b:Bx) (c B:Nat) (w:World) (k:Nat) (wr:World):Prop where
 but:But c w wr
 cell:wr.cell? ⟨c,0,none⟩=some (.int .i64 (zo9 f e a b k))
 mark:wr.frozen? ⟨c,0,none⟩=false
 fst:zan wr w.heap.size [.int .i64 a.x.lo,.int .i64 a.x.hi,.int .i64 a.y.lo,.int .i64 a.y.hi,.int .i64 a.z.lo,.int .i64 a.z.hi]
 snd:zan wr (w.heap.size+1) [.int .i64 b.x.lo,.int .i64 b.x.hi,.int .i64 b.y.lo,.int .i64 b.y.hi,.int .i64 b.z.lo,.int .i64 b.z.hi]
 res:zan wr (w.heap.size+1+1) [.int .i64 0,.int .i64 0,.int .i64 0,.int .i64 0,.int .i64 0,.int .i64 0]
 out:zan wr B (zlL f e a b k)
end Go.Proofs.YtdkfkalplmgoeaaGreat
namespace Go.Proofs.YtdkfkalplmgoeaaGreat
open Go.RowKit
theorem zmu {A b q r:Int} (hA:A=b*q+r) (h0:0≤r) (h1:r<b):A/b=q∧A % b=r:=by
 have:=Int.ediv_emod_unique (a:=A) (b:=b) (r:=r) (q:=q) (by omega)
 exact this.2 ⟨by omega,h0,h1⟩
theorem zh6 (x:Int) (i:Nat):x/2^i=2*(x/2^(i+1))+bitZ x i:=by
 unfold bitZ
 rw[Int.pow_succ,←Int.ediv_ediv_of_nonneg (Int.le_of_lt (Int.pow_pos (by omega)))]
 omega
theorem zhb (x:Int) (i:Nat):bitZ x i=0∨bitZ x i=1:=by unfold bitZ;omega
theorem zl8 (x b:Int) (i:Nat) (hb:0<b) (t:Int) (ht:t=2*(x/2^(i+1) % b)+bitZ x i) :
 (t<b→x/2^i/b=2*(x/2^(i+1)/b)∧x/2^i % b=t)∧(b≤t→x/2^i/b=2*(x/2^(i+1)/b)+1∧x/2^i % b=t-b):=by
 have h1:=zh6 x i
 have h2:=Int.mul_ediv_add_emod (x/2^(i+1)) b
 have h3:=Int.emod_nonneg (x/2^(i+1)) (show b≠0 by omega)
 have h4:=Int.emod_lt_of_pos (x/2^(i+1)) hb
 have h5:=zhb x i
 generalize x/2^(i+1)=y at *
 generalize x/2^i=z at *
 generalize y % b=r at *
 generalize y/b=q at *
 have e2:b*(2*q)=2*(b*q):=Int.mul_left_comm b 2 q
 have e3:b*(2*q+1)=2*(b*q)+b:=by rw[Int.mul_add,e2,Int.mul_one]
 generalize b*q=m at *
 refine ⟨fun h=>zmu (by rw[e2];omega) (by omega) h,fun h=>zmu (by rw[e3];omega) (by omega) (by omega)⟩
theorem zmt (x b:Int) (i:Nat) (h0:0≤x) (hb:0<b):0≤x/2^i/b∧x/2^i/b≤x∧0≤x/2^i % b∧x/2^i % b<b∧x/2^i % b≤x:=by
 have hp:(0:Int)<2^i:=Int.pow_pos (by omega)
 have h1:=Int.ediv_nonneg h0 (Int.le_of_lt hp)
 have h2:=Int.ediv_le_self (2^i) h0
 have h3:=Int.ediv_nonneg h1 (Int.le_of_lt hb)
 have h4:=Int.ediv_le_self b h1
 have h5:=Int.emod_nonneg (x/2^i) (show b≠0 by omega)
 have h6:=Int.emod_lt_of_pos (x/2^i) hb
 have h7:=Int.mul_ediv_add_emod (x/2^i) b
 have h8:=Int.mul_nonneg (Int.le_of_lt hb) h3
 exact ⟨h3,by omega,h5,h6,by omega⟩
theorem zjH (m d:Int) (hd:1≤d):upZ m d=if m % d=0 then m/d else m/d+1:=zmX m d hd
theorem zlK (m d:Int):zbY (-m) d=-upZ m d:=by unfold zbY upZ;omega
theorem zpP (m d:Int):upZ (-m) d=-zbY m d:=by unfold zbY upZ;rw[Int.neg_neg]
theorem zhj (m d M:Int) (hM:0≤M) (h1:-M≤m) (h2:m≤M) (hd:1≤d):-M≤zbY m d∧zbY m d≤M:=by
 unfold zbY
 have a:(-M)/d≤m/d:=Int.ediv_le_ediv (by omega) h1
 have b:m/d≤M/d:=Int.ediv_le_ediv (by omega) h2
 have c:M/d≤M:=Int.ediv_le_self d hM
 have e:-M≤(-M)/d:=by
  rw[Int.le_ediv_iff_mul_le (by omega),Int.neg_mul]
  have:=Int.mul_le_mul_of_nonneg_left hd hM
  omega
 omega
theorem zoV (m d M:Int) (hM:0≤M) (h1:-M≤m) (h2:m≤M) (hd:1≤d):-M≤upZ m d∧upZ m d≤M:=by
 have:=zhj (-m) d M hM (by omega) (by omega) hd
 unfold zbY at this
 unfold upZ
 omega
theorem zqs (a b:Int) (ha:I64 a) (hb:b≠0):(-39614081257132168796771975168≤zbC a b∧zbC a b≤39614081257132168796771975168)∧(-39614081257132168796771975168≤zdI a b∧zdI a b≤39614081257132168796771975168):=by
 unfold I64 at ha
 unfold zbC zdI
 split
 ·exact ⟨zhj _ _ _ (by omega) (by omega) (by omega) (by omega),zoV _ _ _ (by omega) (by omega) (by omega) (by omega)⟩
 ·exact ⟨zhj _ _ _ (by omega) (by omega) (by omega) (by omega),zoV _ _ _ (by omega) (by omega) (by omega) (by omega)⟩
end Go.Proofs.YtdkfkalplmgoeaaGreat
namespace Go.Proofs.YtdkfkalplmgoeaaGreat
open Go.RowKit
class Own (w:World) (base:Nat) (e:TypeId) (size:Nat) (v:Value) (n:outParam Nat) (xs:outParam (List Value)):Prop where
 is:w.ownsRow base e size v n xs
section
variable {w:World} {base:Nat} {e:TypeId} {size:Nat} {v:Value} {n:Nat} {xs:List Value}
instance zqo (o:Obj) [h:Own w base e size v n xs]:Own (w.alloc o) base e size v n xs:=⟨h.is.alloc o⟩
instance zqY [h:Own w base e size v n xs]:Own w.drew base e size v n xs:=⟨h.is.drew⟩
instance zqp (u:Later w) [h:Own w base e size v n xs]:Own u.world base e size v n xs:=⟨zdr h.is u.grew⟩
theorem zoN [h:Own w base e size v n xs] {k:Nat} (hk:v.ownBlock=some k):k<w.heap.size:=by
 rcases h.is.2 with ⟨rfl,-⟩|⟨g,cap,cur,rfl,-,hh,-⟩
 ·cases hk
 ·cases hk
  exact (Array.getElem?_eq_some_iff.1 hh).1
theorem zkd {w':World} {row:Option Nat} (h:w.ownsRow base e size v n xs) (g:w.grownBy w' row) (hne:∀ k,v.ownBlock=some k→row≠some k):w'.ownsRow base e size v n xs:=by
 obtain ⟨h1,h2⟩:=h
 refine ⟨h1,?_⟩
 rcases h2 with h2|⟨b,cap,cur,rfl,hg,hh,r⟩
 ·exact .inl h2
 ·refine .inr ⟨b,cap,cur,rfl,hg,?_,r⟩
  rw[g.block b (Array.getElem?_eq_some_iff.1 hh).1 (fun e=>hne b rfl e.symm),hh]
theorem zfA (h:w.ownsRow base e size v n xs) (c j:Nat) (x:Value) (hne:v.ownBlock≠some c):(w.setCell ⟨c,j,none⟩ x).ownsRow base e size v n xs:=by
 obtain ⟨h1,h2⟩:=h
 refine ⟨h1,?_⟩
 rcases h2 with h2|⟨b,cap,cur,rfl,hg,hh,r⟩
 ·exact .inl h2
 ·refine .inr ⟨b,cap,cur,rfl,hg,?_,r⟩
  rw[Below.heap_setCell _ _ _ _ (show b≠c from fun e=>hne (by rw[←e];rfl)),hh]
end
class NotRow (b:Nat) (v:Value):Prop where
 ne:v.ownBlock≠some b
instance zps (w:World) (base:Nat) (e:TypeId) (size:Nat) (v:Value) (n:Nat) (xs:List Value) (c j:Nat) (x:Value) [h:Own w base e size v n xs] [k:NotRow c v]:Own (w.setCell ⟨c,j,none⟩ x) base e size v n xs:=⟨zfA h.is c j x k.ne⟩
theorem zd6 {w:World} {base:Nat} {e:TypeId} {size:Nat} {v:Value} {n:Nat} {xs:List Value} (h:w.ownsRow base e size v n xs) (b:Nat) [k:NewFor w b]:NotRow b v:=
 ⟨fun hb=>by
  have:Own w base e size v n xs:=⟨h⟩
  have:=zoN (w:=w) (base:=base) (e:=e) (size:=size) hb
  have:=k.le
  omega⟩
theorem zj9 {w:World} {b:Nat} {l:List Value} [h:RowAt w b l]:∀ j u,l[j]?=some u→w.cell? ((⟨b,0,none⟩:Addr).add j)=some u:=by
 intro j u hj
 rw[Addr.add_lit,Nat.zero_add]
 exact h.is j u hj
theorem zpG {w w':World} {v:Value} (g:w.grownBy w' v.ownBlock) (b:Nat) (l:List Value) [h:RowAt w b l] [k:NotRow b v]:RowAt w' b l:=
 ⟨fun i x hx=>by rw[g.cell_far _ (World.block_lt_of_cell? w _ (h.is i x hx)) (fun e=>k.ne e.symm),h.is i x hx]⟩
theorem zjX {w w':World} {v:Value} (g:w.grownBy w' v.ownBlock):∀ (b:Nat) (l:List Value) [RowAt w b l] [NotRow b v],RowAt w' b l:=fun b l _ _=>zpG g b l
def zbO (v1 v2:Value):Prop:=∀ k,v1.ownBlock=some k→v2.ownBlock≠some k
theorem zhN (v:Value):zbO (.slice none 0 0) v:=fun k h=>by cases h
theorem zbO.symm {v1 v2:Value} (h:zbO v1 v2):zbO v2 v1:=fun k h2 h1=>h k h1 h2
theorem zfO {w:World} {base:Nat} {e:TypeId} {size:Nat} {v1 v2:Value} {n:Nat} {xs:List Value} (h:w.ownsRow base e size v2 n xs) (hap:zbO v1 v2) {g m cap:Nat} (hat:v1.ownBlock=some g∨g=w.heap.size):zbO (.slice (some ⟨g,0,none⟩) m cap) v2:=by
 intro k hk
 cases hk
 have:Own w base e size v2 n xs:=⟨h⟩
 rcases hat with h1|h1
 ·exact hap g h1
 ·intro h2
  have h3:=zoN (w:=w) (base:=base) (e:=e) (size:=size) h2
  simp only[] at h3
  omega
theorem zh5 {w:World} {base:Nat} {e:TypeId} {size:Nat} {v1 v2:Value} {n:Nat} {xs:List Value} (h:w.ownsRow base e size v1 n xs) (hap:zbO v1 v2) {g m cap:Nat} (hat:v2.ownBlock=some g∨g=w.heap.size):zbO v1 (.slice (some ⟨g,0,none⟩) m cap):=
 (zfO h hap.symm hat).symm
theorem zft {w:World} {b:Nat} {l:List Value} (h:zan w b l):RowAt w b l:=⟨fun i x hx=>(h i x hx).1⟩
theorem zdF {P:Program} {c:Code} {Q:Exit→Act→World→Prop} {a:Act} {z w:World} (g:Grew z w) (h:∀ y:Later z,y.world=w→c.wp P Q a y.world):c.wp P Q a w:=h ⟨w,g⟩ rfl
theorem zfp {w:World} {b:Nat} {v:Value} [h:NotRow b v] {g m cap:Nat} (hb:b<w.heap.size) (hat:v.ownBlock=some g∨g=w.heap.size):NotRow b (.slice (some ⟨g,0,none⟩) m cap):=
 ⟨fun e=>by
  obtain rfl:g=b:=by simpa [Value.ownBlock] using e
  rcases hat with h1|h1
  ·exact h.ne h1
  ·omega⟩
theorem zkc {w:World} {base:Nat} {e:TypeId} {size:Nat} {v:Value} {n:Nat} {xs:List Value} (h:w.ownsRow base e size v n xs) (h0:0<n):∃ ao cap,v=.slice ao n cap∧n≤cap∧n≤maxLen:=by
 rcases h.2 with ⟨-,h1⟩|⟨g,cap,cur,rfl,-,-,h2,h3,-⟩
 ·omega
 ·exact ⟨_,_,rfl,h2,Nat.le_trans h2 h3⟩
end Go.Proofs.YtdkfkalplmgoeaaGreat
