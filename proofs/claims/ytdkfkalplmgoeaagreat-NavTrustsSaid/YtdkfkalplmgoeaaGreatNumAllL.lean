/-
  Joined: FlightOks, Radio, NumAll.
-/
import Derived.Test.YtdkfkalplmgoeaaGreatChecksL
namespace Go.Proofs.YtdkfkalplmgoeaaGreat
open Go.RowKit
set_option maxRecDepth 100000
set_option maxHeartbeats 1000000

def zpt (n:Int):Bool:=decide (-2305843009213693952≤n)&&decide (n≤2305843009213693952)
def Pt.okB (p:Pt):Bool:=zpt p.place&&p.value.okB&&zpt p.value.lo&&zpt p.value.hi
def ptAt (l:List Pt) (k:Nat):Bool:=match l[k]?,k with
 |some p,0=>p.okB
 |some p,j+1=>p.okB&&(match l[j]? with|some q=>decide (q.place<p.place)|none=>false)
 |none,_=>false
def zqE (l:List Pt):Bool:=decide (1≤l.length)&&decide (l.length≤64)&&(List.range l.length).all (ptAt l)
end Go.Proofs.YtdkfkalplmgoeaaGreat
namespace Go.Proofs.YtdkfkalplmgoeaaGreat
open Go.RowKit
set_option maxRecDepth 100000
set_option maxHeartbeats 1000000

theorem zi9 (n:Int) (w:World):Calls Tryz.prog 69 #[.int .i64 n] w fun e w'=>e=.returned (.bool (numB n))∧Grew w w':=by
 go_enter Tryz.func69,Tryz.ntmps69
 go_wp2
 go_ret
 exact ⟨zaR (by unfold numB;simp),Grew.refl _⟩
theorem zfW (l:List Sp) (v:Value) (w:World) (h:SlAt w v l.length (l.flatMap Sp.cells)):Calls Tryz.prog 71 #[v] w fun e w'=>e=.returned (.bool (l.all Sp.okB))∧Grew w w':=by
 obtain ⟨ao,cap,rfl,hm,hc⟩:=h
 unfold maxLen at hm
 have Hc:=Lib.hid (SlAt.elem (f:=Sp.cells) (c:=2) (fun _=>rfl) (by omega) hc)
 clear hc
 go_enter Tryz.func71,Tryz.ntmps71
 go_wp2
 go_loopw [7] (fun t wr=>∃ k:Nat,t=.int .i64 k∧k≤l.length∧(l.take k).all Sp.okB=true∧Grew w wr) (fun t _=>l.length-(intOf t).toNat)
 case atStart=>exact ⟨0,rfl,by omega,rfl,Grew.refl _⟩
 case round=>
  obtain ⟨k,rfl,hk,hall,hg⟩:=hrel
  obtain ⟨x,rfl⟩:=zaj hg
  clear hg
  have Hall:=Lib.hid hall
  clear hall
  by_cases hlt:k<l.length
  ·obtain ⟨b1,o1,rfl,i1,hd1,hd2⟩:=Hc.out k hlt
   have hd1:=hd1 _ rfl
   have hd2:=hd2 1 _ rfl
   have i1:BlockIn w b1:=⟨i1⟩
   cases h:l[k].okB
   ·go_wp2_with (first|(go_at_call 72;(with_reducible refine zaa (zbH _ _) ?_);intro u))
    go_ret
    exact ⟨zaR (by rw[zet _ _ _ hlt h]),gw⟩
   ·go_wp2_with (first|(go_at_call 72;(with_reducible refine zaa (zbH _ _) ?_);intro u))
    go_roundw
    case rel=>exact ⟨k+1,by go_num,by omega,zcH _ _ _ hlt Hall.out h,gw⟩
    case measure=>simp[intOf];omega
  ·go_wp2
   go_ret
   exact ⟨zaR (by rw[zfD _ _ _ (by omega) Hall.out]),x.grew⟩
theorem zi8 (a:Sp) (v:Value) (w:World) (h:SlAt w v 1 [.int .i64 a.lo,.int .i64 a.hi]):Calls Tryz.prog 71 #[v] w fun e w'=>e=.returned (.bool a.okB)∧Grew w w':=by
 have:=zfW [a] v w h
 simpa using this
theorem zfX (b:Bx) (v:Value) (w:World) (h:SlAt w v 3 [.int .i64 b.x.lo,.int .i64 b.x.hi,.int .i64 b.y.lo,.int .i64 b.y.hi,.int .i64 b.z.lo,.int .i64 b.z.hi]):Calls Tryz.prog 71 #[v] w fun e w'=>e=.returned (.bool b.okB)∧Grew w w':=by
 have:=zfW [b.x,b.y,b.z] v w h
 simpa [Bx.okB,Bool.and_assoc] using this
theorem zi6 (l:List Bx) (v:Value) (w:World) (h:SlAt w v l.length (l.flatMap Bx.cells)):Calls Tryz.prog 70 #[v] w fun e w'=>e=.returned (.bool (l.all Bx.okB))∧Grew w w':=by
 obtain ⟨ao,cap,rfl,hm,hc⟩:=h
 unfold maxLen at hm
 have Hc:=Lib.hid (SlAt.elem (f:=Bx.cells) (c:=6) (fun _=>rfl) (by omega) hc)
 clear hc
 go_enter Tryz.func70,Tryz.ntmps70
 go_wp2
 go_loopw [7] (fun t wr=>∃ k:Nat,t=.int .i64 k∧k≤l.length∧(l.take k).all Bx.okB=true∧Grew w wr) (fun t _=>l.length-(intOf t).toNat)
 case atStart=>exact ⟨0,rfl,by omega,rfl,Grew.refl _⟩
 case round=>
  obtain ⟨k,rfl,hk,hall,hg⟩:=hrel
  obtain ⟨x,rfl⟩:=zaj hg
  clear hg
  have Hall:=Lib.hid hall
  clear hall
  by_cases hlt:k<l.length
  ·obtain ⟨b1,o1,rfl,i1,hd1,hd2⟩:=Hc.out k hlt
   have hc0:=hd1 _ rfl
   have hc1:=hd2 1 _ rfl
   have hc2:=hd2 2 _ rfl
   have hc3:=hd2 3 _ rfl
   have hc4:=hd2 4 _ rfl
   have hc5:=hd2 5 _ rfl
   clear hd1 hd2
   have i1:BlockIn w b1:=⟨i1⟩
   cases h:l[k].okB
   ·go_wp2_with (first|(go_at_call 71;(with_reducible refine zaa (zfX _ _ _ (SlAt.fresh _ _ _ _ (by simp[maxLen]))) ?_);intro u))
    go_ret
    exact ⟨zaR (by rw[zet _ _ _ hlt h]),gw⟩
   ·go_wp2_with (first|(go_at_call 71;(with_reducible refine zaa (zfX _ _ _ (SlAt.fresh _ _ _ _ (by simp[maxLen]))) ?_);intro u))
    go_roundw
    case rel=>exact ⟨k+1,by go_num,by omega,zcH _ _ _ hlt Hall.out h,gw⟩
    case measure=>simp[intOf];omega
  ·go_wp2
   go_ret
   exact ⟨zaR (by rw[zfD _ _ _ (by omega) Hall.out]),x.grew⟩
theorem zi7 (a b:Bx) (v:Value) (w:World) (h:SlAt w v 2 [.int .i64 a.x.lo,.int .i64 a.x.hi,.int .i64 a.y.lo,.int .i64 a.y.hi,.int .i64 a.z.lo,.int .i64 a.z.hi,.int .i64 b.x.lo,.int .i64 b.x.hi,.int .i64 b.y.lo,.int .i64 b.y.hi,.int .i64 b.z.lo,.int .i64 b.z.hi]):Calls Tryz.prog 70 #[v] w fun e w'=>e=.returned (.bool (a.okB&&b.okB))∧Grew w w':=by
 have:=zi6 [a,b] v w h
 simpa using this
theorem zfY (s:State) (w:World):Calls Tryz.prog 34 #[.agg #[.int .i64 s.t,.int .i64 s.p.x.lo,.int .i64 s.p.x.hi,.int .i64 s.p.y.lo,.int .i64 s.p.y.hi,.int .i64 s.p.z.lo,.int .i64 s.p.z.hi,.int .i64 s.v.x.lo,.int .i64 s.v.x.hi,.int .i64 s.v.y.lo,.int .i64 s.v.y.hi,.int .i64 s.v.z.lo,.int .i64 s.v.z.hi,.int .i64 s.m.lo,.int .i64 s.m.hi]] w fun e w'=>e=.returned (.int .i64 (zaL s.okB 2))∧Grew w w':=by
 rcases za3 (numB s.t) with h1|h1
 rotate_left
 rcases za3 ((s.p.okB&&s.v.okB)) with h2|h2
 rotate_left
 rcases za3 (s.m.okB) with h3|h3
 rotate_left
 rcases zhG (1≤s.m.lo) with h4|h4
 rotate_left
 all_goals
  go_enter Tryz.func34,Tryz.ntmps34
  go_wp2_with (first|(go_at_call 69;(with_reducible refine zaa (zi9 _ _) ?_);intro u)|(go_at_call 70;(with_reducible refine zaa (zi7 s.p s.v _ _ (SlAt.fresh _ _ _ _ (by simp[maxLen]))) ?_);intro u)|(go_at_call 71;(with_reducible refine zaa (zi8 s.m _ _ (SlAt.fresh _ _ _ _ (by simp[maxLen]))) ?_);intro u))
  go_ret
  exact ⟨zaC (by (first|(rw[show s.okB=true from by simp[State.okB, *]];rfl)|(rw[show s.okB=false from by simp[State.okB, *]<;>omega];rfl)|(rw[show s.okB=true from by simp[State.okB, *]<;>omega];rfl))),gw⟩
end Go.Proofs.YtdkfkalplmgoeaaGreat
namespace Go.Proofs.YtdkfkalplmgoeaaGreat
open Go.RowKit
set_option maxRecDepth 100000
set_option maxHeartbeats 1000000

def dirB (d:Bx):Bool:=d.x.inB unit&&d.y.inB unit&&d.z.inB unit
def zpd (a:Arc):Bool:=[a.thrust,a.flow,a.drop].all (fun s=>s.leastB 0)
def zrj (l:List Pt):Bool:=l.isEmpty||zqE l
def Arc.okB (a:Arc) (l:List Pt):Bool:=dirB a.dir&&zpd a&&decide (1≤a.time)&&decide (1≤a.step)&&zrj l
theorem zlu.grew {w w':World} {a:Arc} {l:List Pt} (h:zlu w a l) (g:Grew w w'):zlu w' a l:=SlAt.grew h g
end Go.Proofs.YtdkfkalplmgoeaaGreat
namespace Go.Proofs.YtdkfkalplmgoeaaGreat
open Go.RowKit
set_option maxRecDepth 100000
set_option maxHeartbeats 1000000

theorem Planet.okB' (p:Planet):p.okB=(p.pull.okB&&p.mu.leastB 0&&p.radius.leastB 0&&p.oblate.okB&&p.spin.okB):=by
 simp only[Planet.okB,Sp.leastB]
 cases p.pull.okB<;>cases p.mu.okB<;>cases p.radius.okB<;>cases p.oblate.okB<;>cases p.spin.okB<;>simp
theorem State.okB' (s:State):s.okB=(numB s.t&&s.p.okB&&s.v.okB&&s.m.leastB 1):=by
 simp only[State.okB,Sp.leastB]
 cases numB s.t<;>cases s.p.okB<;>cases s.v.okB<;>cases s.m.okB<;>simp
theorem Tube.okB' (t:Tube):t.okB=(numB t.a&&numB t.z&&decide (t.a≤t.z)&&t.p.okB&&t.v.okB&&t.m.leastB 1):=by
 simp only[Tube.okB,Sp.leastB]
 cases numB t.a<;>cases numB t.z<;>cases t.p.okB<;>cases t.v.okB<;>cases t.m.okB<;>simp
theorem zjo (a:Sp) (n:Int) (w:World):Calls Tryz.prog 86 #[.agg #[.int .i64 a.lo,.int .i64 a.hi],.int .i64 n] w fun e w'=>e=.returned (.bool (a.leastB n))∧Grew w w':=by
 rcases za3 (a.okB) with h1|h1
 rotate_left
 rcases zhG (n≤a.lo) with h2|h2
 rotate_left
 all_goals
  go_enter Tryz.func86,Tryz.ntmps86
  go_wp2_with (first|(go_at_call 87;(with_reducible refine zaa (zbe _ _) ?_);intro u))
  go_ret
  exact ⟨zaR (by (first|(simp[Sp.leastB, *];done)|(simp[Sp.leastB, *]<;>omega)|(simp[Sp.leastB, *];omega))),gw⟩
theorem zfP (d:Bx) (k:Nat) (hk:k<3) (h:(d.at k).okB=false):d.okB=false:=by
 match k,hk with
 |0,_=>simp only[Bx.at] at h;simp[Bx.okB,h]
 |1,_=>simp only[Bx.at] at h;simp[Bx.okB,h]
 |2,_=>simp only[Bx.at] at h;simp[Bx.okB,h]
theorem zgh (b:Bx) (w:World):Calls Tryz.prog 85 #[.agg #[.int .i64 b.x.lo,.int .i64 b.x.hi,.int .i64 b.y.lo,.int .i64 b.y.hi,.int .i64 b.z.lo,.int .i64 b.z.hi]] w fun e w'=>e=.returned (.bool b.okB)∧Grew w w':=by
 go_enter Tryz.func85,Tryz.ntmps85
 go_wp2
 go_loopw [3] (fun t wr=>∃ k:Nat,t=.int .i64 k∧k≤3∧(∀ j,j<k→(b.at j).okB=true)∧Grew (w.alloc (.cells #[.int .i64 b.x.lo,.int .i64 b.x.hi,.int .i64 b.y.lo,.int .i64 b.y.hi,.int .i64 b.z.lo,.int .i64 b.z.hi] 26)) wr) (fun t _=>3-(intOf t).toNat)
 case atStart=>exact ⟨0,rfl,by omega,fun j hj=>by omega,gw⟩
 case round=>
  obtain ⟨k,rfl,hk,hall,hg⟩:=hrel
  obtain ⟨x,rfl⟩:=zaj hg
  clear hg
  have Hall:=Lib.hid hall
  clear hall
  by_cases hlt:k<3
  ·have hkk:k=0∨k=1∨k=2:=by omega
   rcases hkk with rfl|rfl|rfl
   ·cases h:b.x.okB
    ·go_wp2_with (first|(go_at_call 87;(with_reducible refine zaa (zbe _ _) ?_);intro u))
     go_ret
     exact ⟨zaR (by rw[zfP b 0 (by omega) h]),gw⟩
    ·go_wp2_with (first|(go_at_call 87;(with_reducible refine zaa (zbe _ _) ?_);intro u))
     go_roundw
     case rel=>exact ⟨0+1,rfl,by omega,fun j hj=>by rcases Nat.lt_succ_iff_lt_or_eq.1 hj with hj|rfl;exact Hall.out j hj;exact h,gw⟩
     case measure=>simp[intOf]
   ·cases h:b.y.okB
    ·go_wp2_with (first|(go_at_call 87;(with_reducible refine zaa (zbe _ _) ?_);intro u))
     go_ret
     exact ⟨zaR (by rw[zfP b 1 (by omega) h]),gw⟩
    ·go_wp2_with (first|(go_at_call 87;(with_reducible refine zaa (zbe _ _) ?_);intro u))
     go_roundw
     case rel=>exact ⟨1+1,rfl,by omega,fun j hj=>by rcases Nat.lt_succ_iff_lt_or_eq.1 hj with hj|rfl;exact Hall.out j hj;exact h,gw⟩
     case measure=>simp[intOf]
   ·cases h:b.z.okB
    ·go_wp2_with (first|(go_at_call 87;(with_reducible refine zaa (zbe _ _) ?_);intro u))
     go_ret
     exact ⟨zaR (by rw[zfP b 2 (by omega) h]),gw⟩
    ·go_wp2_with (first|(go_at_call 87;(with_reducible refine zaa (zbe _ _) ?_);intro u))
     go_roundw
     case rel=>exact ⟨2+1,rfl,by omega,fun j hj=>by rcases Nat.lt_succ_iff_lt_or_eq.1 hj with hj|rfl;exact Hall.out j hj;exact h,gw⟩
     case measure=>simp[intOf]
  ·obtain rfl:k=3:=by omega
   rw[show ((3:Nat):Int)=3 from rfl]
   go_wp2
   go_ret
   exact ⟨zaR (by
    have h0:=Hall.out 0 (by omega)
    have h1:=Hall.out 1 (by omega)
    have h2:=Hall.out 2 (by omega)
    simp only[Bx.at] at h0 h1 h2
    simp[Bx.okB,h0,h1,h2]),gw⟩
theorem zgi (s:State) (w:World):Calls Tryz.prog 38 #[.agg #[.int .i64 s.t,.int .i64 s.p.x.lo,.int .i64 s.p.x.hi,.int .i64 s.p.y.lo,.int .i64 s.p.y.hi,.int .i64 s.p.z.lo,.int .i64 s.p.z.hi,.int .i64 s.v.x.lo,.int .i64 s.v.x.hi,.int .i64 s.v.y.lo,.int .i64 s.v.y.hi,.int .i64 s.v.z.lo,.int .i64 s.v.z.hi,.int .i64 s.m.lo,.int .i64 s.m.hi]] w fun e w'=>e=.returned (.int .i64 (zaL s.okB 2))∧Grew w w':=by
 rcases za3 (numB s.t) with h1|h1
 rotate_left
 rcases za3 (s.p.okB) with h2|h2
 rotate_left
 rcases za3 (s.v.okB) with h3|h3
 rotate_left
 rcases za3 (s.m.leastB 1) with h4|h4
 rotate_left
 all_goals
  go_enter Tryz.func38,Tryz.ntmps38
  go_wp2_with (first|(go_at_call 50;(with_reducible refine zaa (zgn _ _) ?_);intro u)|(go_at_call 85;(with_reducible refine zaa (zgh _ _) ?_);intro u)|(go_at_call 86;(with_reducible refine zaa (zjo _ _ _) ?_);intro u))
  all_goals go_ret
  all_goals exact ⟨zaC (by (first|(rw[show s.okB=true from by simp[State.okB', *]];rfl)|(rw[show s.okB=false from by simp[State.okB', *]<;>omega];rfl)|(rw[show s.okB=true from by simp[State.okB', *]<;>omega];rfl))),gw⟩
def zoT (a:Arc):Int:=(a.time-1)/a.step+1
def zmS (a:Arc) (l:List Pt):Int:=if a.okB l=true then (if zoT a≤4096 then 0 else 3) else 2
def zq7 (a:Arc) (l:List Pt):Int:=if zmS a l=0 then zoT a else 0
end Go.Proofs.YtdkfkalplmgoeaaGreat
namespace Go.Proofs.YtdkfkalplmgoeaaGreat
open Go.RowKit
set_option maxRecDepth 100000
set_option maxHeartbeats 16000000
structure Radio where
 kind:Int
 place:Bx
 dir:Bx
 value:Sp
structure Report where
 node:Int
 sensor:Int
 heard:Radio
def Radio.okB (m:Radio):Bool:=decide (0≤m.kind)&&decide (m.kind≤3)&&m.place.okB&&m.dir.okB&&m.value.okB
theorem zgj (m:Radio) (w:World):Calls Tryz.prog 39 #[.agg #[.int .i64 m.kind,.int .i64 m.place.x.lo,.int .i64 m.place.x.hi,.int .i64 m.place.y.lo,.int .i64 m.place.y.hi,.int .i64 m.place.z.lo,.int .i64 m.place.z.hi,.int .i64 m.dir.x.lo,.int .i64 m.dir.x.hi,.int .i64 m.dir.y.lo,.int .i64 m.dir.y.hi,.int .i64 m.dir.z.lo,.int .i64 m.dir.z.hi,.int .i64 m.value.lo,.int .i64 m.value.hi]] w fun e w'=>e=.returned (.int .i64 (zaL m.okB 2))∧Grew w w':=by
 have HC:=Lib.hid (show m.okB=(decide (0≤m.kind)&&decide (m.kind≤3)&&m.place.okB&&m.dir.okB&&m.value.okB) from rfl)
 have HB1:=Lib.hid (fun w'=>zgh m.place w')
 have HB2:=Lib.hid (fun w'=>zgh m.dir w')
 have HV:=Lib.hid (fun w'=>zbe m.value w')
 cases h1:m.place.okB
 all_goals
  cases h2:m.dir.okB
  all_goals
   cases h3:m.value.okB
   all_goals
    have HB1':=Lib.hid (fun w'=>zax h1 (HB1.out w'))
    have HB2':=Lib.hid (fun w'=>zax h2 (HB2.out w'))
    have HV':=Lib.hid (fun w'=>zaH (congrArg (fun b=>zaL b 2) h3) (HV.out w'))
    have HC':=Lib.hid HC.out
    rw[h1,h2,h3] at HC'
    clear HB1 HB2 HV HC h1 h2 h3
    simp only[zaL] at HV'
    by_cases k0:m.kind<0
    ·have Hr:=Lib.hid (show zaL m.okB 2=2 by rw[HC'.out,decide_eq_false (by omega)];rfl)
     go_enter Tryz.func39,Tryz.ntmps39
     go_wp2_with (first|(go_at_call 85;(with_reducible refine zaa (HB1'.out _) ?_);intro u)|(go_at_call 85;(with_reducible refine zaa (HB2'.out _) ?_);intro u)|(go_at_call 87;(with_reducible refine zaa (HV'.out _) ?_);intro u))
     go_ret
     exact ⟨zaC Hr.out.symm,gw⟩
    by_cases k3:3<m.kind
    ·have Hr:=Lib.hid (show zaL m.okB 2=2 by rw[HC'.out,decide_eq_false (show ¬ m.kind≤3 by omega),Bool.and_false];rfl)
     go_enter Tryz.func39,Tryz.ntmps39
     go_wp2_with (first|(go_at_call 85;(with_reducible refine zaa (HB1'.out _) ?_);intro u)|(go_at_call 85;(with_reducible refine zaa (HB2'.out _) ?_);intro u)|(go_at_call 87;(with_reducible refine zaa (HV'.out _) ?_);intro u))
     go_ret
     exact ⟨zaC Hr.out.symm,gw⟩
    ·have Hr:=Lib.hid (show zaL m.okB 2=_ by rw[HC'.out,decide_eq_true (show 0≤m.kind by omega),decide_eq_true (show m.kind≤3 by omega)])
     go_enter Tryz.func39,Tryz.ntmps39
     go_wp2_with (first|(go_at_call 85;(with_reducible refine zaa (HB1'.out _) ?_);intro u)|(go_at_call 85;(with_reducible refine zaa (HB2'.out _) ?_);intro u)|(go_at_call 87;(with_reducible refine zaa (HV'.out _) ?_);intro u))
     go_ret
     exact ⟨zaC Hr.out.symm,gw⟩
end Go.Proofs.YtdkfkalplmgoeaaGreat
namespace Go.Proofs.YtdkfkalplmgoeaaGreat
open Go.RowKit

structure Big where
 neg:Bool
 hi:Int
 lo:Int
def Big.m (a:Big):Int:=a.hi*18446744073709551616+a.lo
def Big.val (a:Big):Int:=if a.neg then -a.m else a.m
def Big.numB (a:Big):Bool:=decide (a.m≤9223372036854775807)
def Big.numV (a:Big):Int:=if a.m≤9223372036854775807 then a.val else 0
theorem zpz {x:Int} {b:Bool} {a:Big} (h1:x=a.numV) (h2:b=a.numB):Ending.returned (.tuple #[.int .i64 x,.bool b])=.returned (.tuple #[.int .i64 a.numV,.bool a.numB]):=by rw[h1,h2]
def U64 (n:Int):Prop:=0≤n∧n≤18446744073709551615
def Big.ok (a:Big):Prop:=U64 a.hi∧U64 a.lo
def zb9 (neg:Bool) (m:Int):Big:=⟨neg,m/18446744073709551616,m % 18446744073709551616⟩
def B128 (m:Int):Prop:=0≤m∧m≤340282366920938463463374607431768211455
theorem zhw (neg:Bool) (m:Int):(zb9 neg m).m=m:=by
 unfold Big.m zb9;simp only[];omega
theorem zim (neg:Bool) (m:Int):(zb9 neg m).neg=neg:=rfl
theorem zdO (neg:Bool) (m:Int):(zb9 neg m).val=if neg then -m else m:=by
 unfold Big.val;rw[zhw,zim]
theorem zbJ (neg:Bool) (m:Int) (h:B128 m):(zb9 neg m).ok:=by
 unfold Big.ok zb9 U64;unfold B128 at h;simp only[];omega
theorem Big.ok_m {a:Big} (h:a.ok):B128 a.m:=by
 unfold Big.ok U64 at h;unfold B128 Big.m;omega
theorem zgM {n:Bool} {x y m:Int} (_hx:U64 x) (hy:U64 y) (h:x*18446744073709551616+y=m):(⟨n,x,y⟩:Big)=zb9 n m:=by
 unfold U64 at hy
 unfold zb9
 congr 1<;>omega
def zdC (a b:Big):Big:=if a.neg=b.neg then zb9 a.neg (a.m+b.m) else if a.m<b.m then zb9 b.neg (b.m-a.m) else zb9 a.neg (a.m-b.m)
theorem ziA (a b:Big):(zdC a b).val=a.val+b.val:=by
 unfold zdC
 split
 ·rw[zdO];unfold Big.val;rename_i h;rw[←h];split<;>omega
 ·rename_i h
  split<;>rw[zdO]<;>unfold Big.val<;>cases h1:a.neg<;>cases h2:b.neg<;>simp_all<;>omega
theorem znS {a b:Big} (ha:a.ok) (hb:b.ok) (h:B128 (a.m+b.m)):(zdC a b).ok:=by
 have h1:=Big.ok_m ha
 have h2:=Big.ok_m hb
 unfold B128 at *
 unfold zdC
 split
 ·exact zbJ _ _ (by unfold B128;omega)
 ·split<;>exact zbJ _ _ (by unfold B128;omega)

theorem zgq {n:Bool} {x y:Int} {r:Big} (h:(⟨n,x,y⟩:Big)=r):Ending.returned (.agg #[.bool n,.int .u64 x,.int .u64 y])=.returned (.agg #[.bool r.neg,.int .u64 r.hi,.int .u64 r.lo]):=by rw[←h]
structure Res where
 s:Sp
 e:Int
theorem zaS {x y e:Int} {r:Res} (h:(⟨⟨x,y⟩,e⟩:Res)=r):Ending.returned (.tuple #[.agg #[.int .i64 x,.int .i64 y],.int .i64 e])=.returned (.tuple #[.agg #[.int .i64 r.s.lo,.int .i64 r.s.hi],.int .i64 r.e]):=by rw[←h]
abbrev z0:Sp:=⟨0,0⟩
def errR (e:Int):Res:=⟨⟨0,0⟩,e⟩
def ze2 (n:Int):Bool:=decide (-9223372036854775807≤n)&&decide (n≤9223372036854775807)
def fitR (lo hi:Int):Res:=if ze2 lo&&ze2 hi then ⟨⟨lo,hi⟩,0⟩ else errR 4
theorem zpc (a b:Big) (ha:a.ok) (hb:b.ok):fitR a.val b.val=if a.numB&&b.numB then ⟨⟨a.numV,b.numV⟩,0⟩ else errR 4:=by
 have h1:=Big.ok_m ha
 have h2:=Big.ok_m hb
 have e1:ze2 a.val=a.numB:=by
  rw[Bool.eq_iff_iff];unfold ze2 Big.numB Big.val;unfold B128 at h1;cases a.neg<;>simp<;>omega
 have e2:ze2 b.val=b.numB:=by
  rw[Bool.eq_iff_iff];unfold ze2 Big.numB Big.val;unfold B128 at h2;cases b.neg<;>simp<;>omega
 unfold fitR
 rw[e1,e2]
 cases h3:a.numB<;>cases h4:b.numB<;>simp
 unfold Big.numB at h3 h4
 unfold Big.numV
 rw[if_pos (by simpa using h3),if_pos (by simpa using h4)]
 exact ⟨rfl,rfl⟩
def addR (a b:Sp):Res:=if a.okB&&b.okB then fitR (a.lo+b.lo) (a.hi+b.hi) else errR 2
def negS (a:Sp):Sp:=⟨-a.hi,-a.lo⟩
def negR (a:Sp):Res:=if a.okB then ⟨negS a,0⟩ else errR 2
def subR (a b:Sp):Res:=if b.okB then addR a (negS b) else errR 2
def imin (a b:Int):Int:=if b<a then b else a
def imax (a b:Int):Int:=if a<b then b else a
def min4 (a b c d:Int):Int:=imin (imin (imin a b) c) d
def max4 (a b c d:Int):Int:=imax (imax (imax a b) c) d
def zbY (a b:Int):Int:=a/b
def upZ (a b:Int):Int:=-(-a/b)
def zqC (a:Sp) (n:Int):Res:=if a.okB then fitR (imin (a.lo*n) (a.hi*n)) (imax (a.lo*n) (a.hi*n)) else errR 2
def mulR (a b:Sp):Res:=if a.okB&&b.okB then fitR (zbY (min4 (a.lo*b.lo) (a.lo*b.hi) (a.hi*b.lo) (a.hi*b.hi)) 4294967296) (upZ (max4 (a.lo*b.lo) (a.lo*b.hi) (a.hi*b.lo) (a.hi*b.hi)) 4294967296) else errR 2
def zbC (a b:Int):Int:=if b<0 then zbY (-a*4294967296) (-b) else zbY (a*4294967296) b
def zdI (a b:Int):Int:=if b<0 then upZ (-a*4294967296) (-b) else upZ (a*4294967296) b
def divR (a b:Sp):Res:=
 if a.okB&&b.okB then
  if decide (b.lo≤0)&&decide (0≤b.hi) then errR 10
  else fitR (min4 (zbC a.lo b.lo) (zbC a.lo b.hi) (zbC a.hi b.lo) (zbC a.hi b.hi)) (max4 (zdI a.lo b.lo) (zdI a.lo b.hi) (zdI a.hi b.lo) (zdI a.hi b.hi))
 else errR 2
def absS (a:Sp):Sp:=if 0≤a.lo then a else if a.hi≤0 then negS a else ⟨0,imax (-a.lo) a.hi⟩
def absR (a:Sp):Res:=if a.okB then ⟨absS a,0⟩ else errR 2
def zai (a:Sp):Res:=if a.okB then mulR (absS a) (absS a) else errR 2
def zbG:Nat→Int→Int→Int
 |0,r,_=>r
 |k+1,r,x=>zbG k (if (r+2^k)*(r+2^k)≤x then r+2^k else r) x
def zaW (x:Int):Int:=zbG 49 0 x
def zc0 (x:Int):Int:=if zaW x*zaW x=x then zaW x else zaW x+1
def za5 (a:Sp):Res:=if a.okB then (if a.hi<0 then errR 4 else ⟨⟨zaW (imax a.lo 0*4294967296),zc0 (a.hi*4294967296)⟩,0⟩) else errR 2
def zbb (a b:Sp):Sp:=⟨imin a.lo b.lo,imax a.hi b.hi⟩
def zcp (a b:Sp):Res:=if a.okB&&b.okB then ⟨zbb a b,0⟩ else errR 2
def zde (a b:Sp):Sp:=⟨imax a.lo b.lo,imin a.hi b.hi⟩
def zaG (a b:Sp):Res:=if a.okB&&b.okB then (if (zde a b).hi<(zde a b).lo then errR 7 else ⟨zde a b,0⟩) else errR 2
def zaK {α:Type} (f:α→Res):Sp→List α→Res
 |s,[]=>⟨s,0⟩
 |s,x::l=>if (f x).e=0 then (if (addR s (f x).s).e=0 then zaK f (addR s (f x).s).s l else errR (addR s (f x).s).e) else errR (f x).e
def zbp (l:List Sp):Res:=
 if l.length≤64 then (if l.all Sp.okB then (if (zaK zai z0 l).e=0 then za5 (zaK zai z0 l).s else errR (zaK zai z0 l).e) else errR 2) else errR 3
def dotR (l:List (Sp × Sp)):Res:=zaK (fun p=>mulR p.1 p.2) z0 l
end Go.Proofs.YtdkfkalplmgoeaaGreat
namespace Go.Proofs.YtdkfkalplmgoeaaGreat
theorem zfS (u32 u1 y1 y0:Int) (hy1:2147483648≤y1) (hy0:0≤y0) (hy0':y0<4294967296) (hu:0≤u32) (hu2:u32<y1*4294967296+y0) (hu1:0≤u1) (hu1':u1<4294967296) :
 (u32*4294967296+u1)/(y1*4294967296+y0)≤u32/y1∧u32/y1≤4294967297∧0≤u32-u32/y1*y1∧u32-u32/y1*y1<y1∧0≤u32/y1:=by
 have h1:=Int.emod_nonneg u32 (show y1≠0 by omega)
 have h2:=Int.emod_lt_of_pos u32 (show 0<y1 by omega)
 have h3:=Int.mul_ediv_add_emod u32 y1
 rw[Int.mul_comm] at h3
 have h0:0≤u32/y1:=Int.ediv_nonneg hu (by omega)
 generalize u32/y1=q at *
 refine ⟨?_,?_,by omega,by omega,h0⟩
 ·apply Int.le_of_lt_add_one
  apply Int.ediv_lt_of_lt_mul (by omega)
  have e1:(q+1)*(y1*4294967296+y0)=(q*y1+y1)*4294967296+(q+1)*y0:=by
   rw[Int.mul_add,←Int.mul_assoc,Int.add_mul,Int.one_mul]
  have e2:0≤(q+1)*y0:=Int.mul_nonneg (by omega) hy0
  rw[e1]
  omega
 ·apply Int.le_of_lt_add_one
  have:q*y1<4294967298*y1:=by omega
  exact Int.lt_of_mul_lt_mul_right this (by omega)
theorem zgO (q u32 u1 y1 y0:Int):(4294967296*(u32-q*y1)+u1<q*y0)↔(u32*4294967296+u1<q*(y1*4294967296+y0)):=by
 rw[Int.mul_add,←Int.mul_assoc,Int.mul_sub]
 omega
theorem zkA (q u32 u1 y1 y0:Int) (hy0:0≤y0) (hy0':y0<4294967296) (hu1:0≤u1) (_hq:0≤q) (hq2:q≤4294967296) (hr:4294967296≤u32-q*y1):q*(y1*4294967296+y0)≤u32*4294967296+u1:=by
 have h:=(zgO q u32 u1 y1 y0)
 have:q*y0≤4294967296*y0:=Int.mul_le_mul_of_nonneg_right hq2 hy0
 omega
theorem zh8 (q u y:Int) (hy:0<y) (h1:u/y≤q) (h2:q*y≤u):q=u/y:=
 Int.le_antisymm (Int.le_ediv_of_mul_le hy h2) h1
theorem zkz (q u y:Int) (hy:0<y) (h2:u<q*y):u/y≤q-1:=by
 have:=Int.ediv_lt_of_lt_mul hy h2
 omega
theorem zhi (u32 u1 y:Int) (hy:0<y) (hu:u32<y) (_hu:u1<4294967296):(u32*4294967296+u1)/y<4294967296:=by
 apply Int.ediv_lt_of_lt_mul hy
 have:(u32+1)*4294967296≤y*4294967296:=Int.mul_le_mul_of_nonneg_right (by omega) (by omega)
 omega
theorem zou (u32 u1 u0 y:Int) (hy:0<y) :
 (u32*4294967296+u1)/y*4294967296+((u32*4294967296+u1) % y*4294967296+u0)/y=(u32*18446744073709551616+(u1*4294967296+u0))/y∧
 ((u32*4294967296+u1) % y*4294967296+u0) % y=(u32*18446744073709551616+(u1*4294967296+u0)) % y:=by
 have h1:=Int.mul_ediv_add_emod (u32*4294967296+u1) y
 generalize (u32*4294967296+u1)/y=q at *
 generalize (u32*4294967296+u1) % y=r at *
 have e:u32*18446744073709551616+(u1*4294967296+u0)=(r*4294967296+u0)+y*(q*4294967296):=by
  rw[←Int.mul_assoc];omega
 rw[e,Int.add_mul_ediv_left _ _ (by omega),Int.add_mul_emod_self_left]
 exact ⟨by omega,rfl⟩
end Go.Proofs.YtdkfkalplmgoeaaGreat
namespace Go.Proofs.YtdkfkalplmgoeaaGreat
open Go.RowKit

structure W where
 h:Int
 l:Int
def mkW (x:Int):W:=⟨x/18446744073709551616,x % 18446744073709551616⟩
def R128 (x:Int):Prop:=-170141183460469231731687303715884105728≤x∧x≤170141183460469231731687303715884105727
theorem zbE (x:Int) (hx:R128 x):I64 (mkW x).h∧U64 (mkW x).l∧(mkW x).h*18446744073709551616+(mkW x).l=x:=by
 unfold R128 at hx
 unfold mkW I64 U64
 simp only[]
 omega
theorem zcV {h l x:Int} (hl:U64 l) (e:h*18446744073709551616+l=x):(⟨h,l⟩:W)=mkW x:=by
 unfold U64 at hl
 unfold mkW
 congr 1<;>omega
theorem zhM {x y:Int} {r:W} (h:(⟨x,y⟩:W)=r):Ending.returned (.agg #[.int .i64 x,.int .u64 y])=.returned (.agg #[.int .i64 r.h,.int .u64 r.l]):=by rw[←h]
class N64 (n:Int):Prop where
 is:I64 n
class S64 (a:Sp):Prop where
 lo:I64 a.lo
 hi:I64 a.hi
class B64 (a:Bx):Prop where
 x:S64 a.x
 y:S64 a.y
 z:S64 a.z
instance n64_lo (a:Sp) [h:S64 a]:N64 a.lo:=⟨h.lo⟩
instance n64_hi (a:Sp) [h:S64 a]:N64 a.hi:=⟨h.hi⟩
instance zqX:N64 0:=⟨by unfold I64;omega⟩
instance s64_mk (x y:Int) [h:N64 x] [k:N64 y]:S64 ⟨x,y⟩:=⟨h.is,k.is⟩
instance s64_x (a:Bx) [h:B64 a]:S64 a.x:=h.x
instance s64_y (a:Bx) [h:B64 a]:S64 a.y:=h.y
instance s64_z (a:Bx) [h:B64 a]:S64 a.z:=h.z
instance b64_mk (x y z:Sp) [h:S64 x] [k:S64 y] [m:S64 z]:B64 ⟨x,y,z⟩:=⟨h,k,m⟩
theorem zii {n:Int} (h:ze2 n=true):I64 n:=by
 unfold ze2 at h
 unfold I64
 simp at h
 omega
instance zbc (e:Int):S64 (errR e).s:=⟨by unfold I64 errR;simp,by unfold I64 errR;simp⟩
instance zhO (lo hi:Int):S64 (fitR lo hi).s:=by
 unfold fitR
 split
 ·rename_i h
  rw[Bool.and_eq_true] at h
  exact ⟨zii h.1,zii h.2⟩
 ·exact zbc 4
theorem zdi {c:Prop} [Decidable c] {r r':Res} (h:S64 r.s) (h':S64 r'.s):S64 (if c then r else r').s:=by
 split
 ·exact h
 ·exact h'
instance zpH (a b:Sp):S64 (addR a b).s:=zdi (zhO _ _) (zbc _)
instance zrz (a b:Sp):S64 (subR a b).s:=zdi (zpH _ _) (zbc _)
instance zqB (a:Sp) (n:Int):S64 (zqC a n).s:=zdi (zhO _ _) (zbc _)
instance zpI (a b:Sp):S64 (mulR a b).s:=zdi (zhO _ _) (zbc _)
instance zrq (a b:Sp):S64 (divR a b).s:=zdi (zdi (zbc _) (zhO _ _)) (zbc _)
instance zp0 (a:Sp):S64 (zai a).s:=zdi (zpI _ _) (zbc _)
theorem zbZ {a:Sp} (h:a.okB=true):-9223372036854775807≤a.lo∧-9223372036854775807≤a.hi∧a.lo≤a.hi:=by
 unfold Sp.okB numB at h
 simp at h
 omega
theorem zhP {a:Sp} [h:S64 a] (k:a.okB=true):S64 (negS a):=by
 have:=zbZ k
 have h1:=h.lo
 have h2:=h.hi
 unfold I64 at h1 h2
 exact ⟨by unfold I64 negS;simp only[];omega,by unfold I64 negS;simp only[];omega⟩
instance zq3 (a:Sp) [h:S64 a]:S64 (negR a).s:=by
 unfold negR
 split
 ·rename_i k;exact zhP k
 ·exact zbc 2
theorem zjx {a:Sp} [h:S64 a] (k:a.okB=true):S64 (absS a):=by
 unfold absS
 split
 ·exact h
 ·split
  ·exact zhP k
  ·have:=zbZ k
   have h1:=h.lo
   have h2:=h.hi
   unfold I64 at h1 h2
   exact ⟨by unfold I64;simp,by unfold I64 imax;simp only[];split<;>omega⟩
instance zq1 (a:Sp) [h:S64 a]:S64 (absR a).s:=by
 unfold absR
 split
 ·rename_i k;exact zjx k
 ·exact zbc 2
instance zn6 (a b:Sp) [h:S64 a] [k:S64 b]:S64 (zbb a b):=by
 have h1:=h.lo
 have h2:=h.hi
 have k1:=k.lo
 have k2:=k.hi
 exact ⟨by unfold zbb imin;simp only[];split<;>assumption,by unfold zbb imax;simp only[];split<;>assumption⟩
instance zqz (a b:Sp) [h:S64 a] [k:S64 b]:S64 (zcp a b).s:=zdi (r:=⟨zbb a b,0⟩) (zn6 a b) (zbc _)
instance zn7 (a b:Sp) [h:S64 a] [k:S64 b]:S64 (zde a b):=by
 have h1:=h.lo
 have h2:=h.hi
 have k1:=k.lo
 have k2:=k.hi
 exact ⟨by unfold zde imax;simp only[];split<;>assumption,by unfold zde imin;simp only[];split<;>assumption⟩
instance zqA (a b:Sp) [h:S64 a] [k:S64 b]:S64 (zaG a b).s:=zdi (zdi (zbc _) (show S64 (⟨zde a b,0⟩:Res).s from zn7 a b)) (zbc _)
end Go.Proofs.YtdkfkalplmgoeaaGreat
