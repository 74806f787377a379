/-
  Joined: Wides.
-/
import Derived.Test.YtdkfkalplmgoeaaGreatDiv64L
import Derived.Test.YtdkfkalplmgoeaaGreatNumAllL
import Derived.Deep.RegionHeld3
import Derived.Test.YtdkfkalplmgoeaaGreatLexAllL
namespace Go.Proofs.YtdkfkalplmgoeaaGreat
open Go.RowKit
set_option maxRecDepth 100000
set_option maxHeartbeats 1000000
theorem zjL (n:Int) (hn:I64 n) (w:World):Calls Tryz.prog 126 #[.int .i64 n] w fun e w'=>e=.returned (.agg #[.int .i64 (mkW n).h,.int .u64 (mkW n).l])∧Grew w w':=by
 unfold I64 at hn
 go_enter Tryz.func126,Tryz.ntmps126
 go_wp2
 all_goals
  refine bodyPost_ret (by (simp[results,Tryz.results126,go_sem]<;>rfl)) rfl ?_
  refine ⟨zhM (zcV (by unfold U64;(try rw[IntKind.wrap_u64]);omega) (by (try rw[IntKind.wrap_u64]);omega)),gw⟩
theorem zcl (x y:Int) (hx:R128 x) (hy:R128 y) (hs:R128 (x+y)) (w:World):Calls Tryz.prog 67 #[.agg #[.int .i64 (mkW x).h,.int .u64 (mkW x).l],.agg #[.int .i64 (mkW y).h,.int .u64 (mkW y).l]] w fun e w'=>e=.returned (.agg #[.int .i64 (mkW (x+y)).h,.int .u64 (mkW (x+y)).l])∧Grew w w':=by
 obtain ⟨x1,x2,x3⟩:=zbE x hx
 obtain ⟨y1,y2,y3⟩:=zbE y hy
 have Hx:=Lib.hid x3
 have Hy:=Lib.hid y3
 have Hs:=Lib.hid hs
 clear x3 y3 hx hy hs
 generalize (mkW x).h=xh at *
 generalize (mkW x).l=xl at *
 generalize (mkW y).h=yh at *
 generalize (mkW y).l=yl at *
 unfold I64 at x1 y1
 unfold U64 at x2 y2
 go_enter Tryz.func67,Tryz.ntmps67
 go_wp2
 all_goals
  refine bodyPost_ret (by (simp[results,Tryz.results67,go_sem]<;>rfl)) rfl ?_
  refine ⟨zhM (zcV ?_ ?_),gw⟩
  all_goals
   have h1:=Hx.out
   have h2:=Hy.out
   have h3:=Hs.out
   clear Hx Hy Hs
   unfold R128 at h3
   simp only[IntKind.wrap_u64] at *
   try unfold U64
   try unfold wrap64
   omega
theorem zjd (a:Int) (h:I64 a):bits .xor .i64 (-1) a=-a-1:=by
 unfold I64 at h
 show IntKind.i64.wrap ((BitVec.ofInt 64 (-1) ^^^ BitVec.ofInt 64 a).toNat:Int)=_
 have h1:BitVec.ofInt 64 (-1)=BitVec.allOnes 64:=by decide
 rw[h1,BitVec.allOnes_xor,BitVec.toNat_not,BitVec.toNat_ofInt]
 simp[IntKind.wrap,IntKind.bits,IntKind.signed]
 omega
theorem zjE (a:Int) (h:U64 a):bits .xor .u64 IntKind.u64.max a=18446744073709551615-a:=by
 unfold U64 at h
 show IntKind.u64.wrap ((BitVec.ofInt 64 IntKind.u64.max ^^^ BitVec.ofInt 64 a).toNat:Int)=_
 have h1:BitVec.ofInt 64 IntKind.u64.max=BitVec.allOnes 64:=by decide
 rw[h1,BitVec.allOnes_xor,BitVec.toNat_not,BitVec.toNat_ofInt]
 simp[IntKind.wrap,IntKind.bits,IntKind.signed]
 omega
theorem zbx (x:Int) (hx:R128 x) (hs:R128 (-x)) (w:World):Calls Tryz.prog 165 #[.agg #[.int .i64 (mkW x).h,.int .u64 (mkW x).l]] w fun e w'=>e=.returned (.agg #[.int .i64 (mkW (-x)).h,.int .u64 (mkW (-x)).l])∧Grew w w':=by
 obtain ⟨x1,x2,x3⟩:=zbE x hx
 have Hx:=Lib.hid x3
 have Hs:=Lib.hid hs
 clear x3
 have h1:=Lib.hid (show mkW (-x-1)=⟨-(mkW x).h-1,18446744073709551615-(mkW x).l⟩ from (zcV (by unfold U64 at *;omega) (by have:=Hx.out;omega)).symm)
 have h2:=Lib.hid (show R128 (-x-1) by unfold R128 at *;omega)
 have h3:=Lib.hid (show R128 (-x-1+1) by rw[show -x-1+1=-x by omega];exact Hs.out)
 clear hx hs
 have k1:=zjd _ x1
 have k2:=zjE _ x2
 have k3:IntKind.i64.signed=true:=rfl
 have k4:IntKind.u64.signed=false:=rfl
 have hc:∀ w,Calls Tryz.prog 67 #[.agg #[.int .i64 (-(mkW x).h-1),.int .u64 (18446744073709551615-(mkW x).l)],.agg #[.int .i64 0,.int .u64 1]] w fun e w'=>e=.returned (.agg #[.int .i64 (mkW (-x)).h,.int .u64 (mkW (-x)).l])∧Grew w w':=fun w=>by
  have:=zcl (-x-1) 1 h2.out (by unfold R128;omega) h3.out w
  rw[h1.out,show -x-1+1=-x by omega] at this
  exact this
 have Hc:=Lib.hid hc
 clear hc
 go_enter Tryz.func165,Tryz.ntmps165
 go_wp2_with (first|(go_at_call 67;(with_reducible refine zaa (Hc.out _) ?_);intro u))
 refine bodyPost_ret (by (simp[results,Tryz.results165,go_sem]<;>rfl)) rfl ?_
 exact ⟨rfl,gw⟩
theorem zaI (x y:Int) (hx:R128 x) (hy:R128 y) (w:World):Calls Tryz.prog 125 #[.agg #[.int .i64 (mkW x).h,.int .u64 (mkW x).l],.agg #[.int .i64 (mkW y).h,.int .u64 (mkW y).l]] w fun e w'=>e=.returned (.bool (decide (x<y)))∧Grew w w':=by
 obtain ⟨x1,x2,x3⟩:=zbE x hx
 obtain ⟨y1,y2,y3⟩:=zbE y hy
 have L:=Lib.hid (show ((mkW x).h<(mkW y).h∨(mkW x).h=(mkW y).h∧(mkW x).l<(mkW y).l)↔x<y by unfold I64 U64 at *;omega)
 clear x3 y3 hx hy
 generalize (mkW x).h=xh at *
 generalize (mkW x).l=xl at *
 generalize (mkW y).h=yh at *
 generalize (mkW y).l=yl at *
 go_enter Tryz.func125,Tryz.ntmps125
 go_wp2
 all_goals go_ret
 all_goals exact ⟨zaR (by have l:=L.out;rw[Bool.eq_iff_iff];first|omega|(simp;done)|(simp;omega)),gw⟩
theorem zmZ (x y:Int) (hx:R128 x) (hy:R128 y) (w:World):Calls Tryz.prog 219 #[.agg #[.int .i64 (mkW x).h,.int .u64 (mkW x).l],.agg #[.int .i64 (mkW y).h,.int .u64 (mkW y).l]] w fun e w'=>e=.returned (.bool (decide (x=y)))∧Grew w w':=by
 obtain ⟨x1,x2,x3⟩:=zbE x hx
 obtain ⟨y1,y2,y3⟩:=zbE y hy
 have L:=Lib.hid (show ((mkW x).h=(mkW y).h∧(mkW x).l=(mkW y).l)↔x=y by unfold I64 U64 at *;omega)
 clear x3 y3 hx hy
 generalize (mkW x).h=xh at *
 generalize (mkW x).l=xl at *
 generalize (mkW y).h=yh at *
 generalize (mkW y).l=yl at *
 go_enter Tryz.func219,Tryz.ntmps219
 go_wp2
 all_goals go_ret
 all_goals exact ⟨zaR (by have l:=L.out;rw[Bool.eq_iff_iff];first|omega|(simp;done)|(simp;omega)),gw⟩
theorem zby (x:Int) (hx:R128 x) (hs:R128 (x+x)) (w:World):Calls Tryz.prog 222 #[.agg #[.int .i64 (mkW x).h,.int .u64 (mkW x).l]] w fun e w'=>e=.returned (.agg #[.int .i64 (mkW (x+x)).h,.int .u64 (mkW (x+x)).l])∧Grew w w':=by
 go_enter Tryz.func222,Tryz.ntmps222
 go_wp2_with (first|(go_at_call 67;(with_reducible refine zaa (zcl _ _ hx hx hs _) ?_);intro u))
 refine bodyPost_ret (by (simp[results,Tryz.results222,go_sem]<;>rfl)) rfl ?_
 exact ⟨rfl,gw⟩
theorem zeV (x:Int) (hx:-39614081257132168796771975168≤x∧x≤39614081257132168796771975167) (w:World):Calls Tryz.prog 195 #[.agg #[.int .i64 (mkW x).h,.int .u64 (mkW x).l],.int .i64 32] w fun e w'=>e=.returned (.agg #[.int .i64 (mkW (x*4294967296)).h,.int .u64 (mkW (x*4294967296)).l])∧Grew w w':=by
 obtain ⟨x1,x2,x3⟩:=zbE x (by unfold R128;omega)
 have Hx:=Lib.hid x3
 clear x3
 generalize (mkW x).h=xh at *
 generalize (mkW x).l=xl at *
 unfold I64 at x1
 unfold U64 at x2
 go_enter Tryz.func195,Tryz.ntmps195
 go_wp2
 go_region
 go_wp2
 refine bodyPost_ret (by (simp[results,Tryz.results195,go_sem]<;>rfl)) rfl ?_
 refine ⟨zhM (zcV ?_ ?_),gw⟩
 all_goals
  have h1:=Hx.out
  simp only[IntKind.wrap_u64]
  try unfold U64
  try unfold wrap64
  omega
theorem ziR (n:Int) (hn:I64 n) (w:World):Calls Tryz.prog 192 #[.int .i64 n] w fun e w'=>e=.returned (.int .u64 n.natAbs)∧Grew w w':=by
 unfold I64 at hn
 go_enter Tryz.func192,Tryz.ntmps192
 go_wp2
 all_goals go_ret
 all_goals exact ⟨zaC (by first|(rw[IntKind.wrap_u64,IntKind.wrap_u64];omega)|(rw[IntKind.wrap_u64];omega)|omega),Grew.refl _⟩
end Go.Proofs.YtdkfkalplmgoeaaGreat
namespace Go.Proofs.YtdkfkalplmgoeaaGreat
open Go.RowKit
set_option maxRecDepth 100000
set_option maxHeartbeats 1000000
theorem ze9 {u v U V:Int} (h1:0≤u) (h2:u≤U) (h3:0≤v) (h4:v≤V):0≤u*v∧u*v≤U*V:=by
 refine ⟨Int.mul_nonneg h1 h3,?_⟩
 have a:u*v≤U*v:=Int.mul_le_mul_of_nonneg_right h2 h3
 have b:U*v≤U*V:=Int.mul_le_mul_of_nonneg_left h4 (by omega)
 omega
theorem zkP (x y:Int):x/4294967296*(y/4294967296)*18446744073709551616+(x/4294967296*(y % 4294967296)+x % 4294967296*(y/4294967296))*4294967296+x % 4294967296*(y % 4294967296)=x*y:=by
 have e1:=Int.mul_ediv_add_emod x 4294967296
 have e2:=Int.mul_ediv_add_emod y 4294967296
 generalize x/4294967296=a at *
 generalize x % 4294967296=b at *
 generalize y/4294967296=c at *
 generalize y % 4294967296=d at *
 subst e1
 subst e2
 have e:(4294967296*a+b)*(4294967296*c+d)=4294967296*a*(4294967296*c)+4294967296*a*d+(b*(4294967296*c)+b*d):=by
  rw[Int.add_mul,Int.mul_add,Int.mul_add]
 rw[e,show 4294967296*a*(4294967296*c)=a*c*18446744073709551616 by rw[Int.mul_assoc,Int.mul_left_comm a,←Int.mul_assoc,Int.mul_comm (4294967296*4294967296)];rfl,
  show 4294967296*a*d=a*d*4294967296 by rw[Int.mul_assoc,Int.mul_comm],show b*(4294967296*c)=b*c*4294967296 by rw[Int.mul_left_comm,Int.mul_comm]]
 omega
theorem zga (a b:Int):a*b=if decide (a<0) != decide (b<0) then -((a.natAbs:Int)*b.natAbs) else (a.natAbs:Int)*b.natAbs:=by
 by_cases h1:a<0<;>by_cases h2:b<0<;>simp[h1,h2]
 ·rw[show (a.natAbs:Int)=-a by omega,show (b.natAbs:Int)=-b by omega,Int.neg_mul_neg]
 ·rw[show (a.natAbs:Int)=-a by omega,show (b.natAbs:Int)=b by omega,Int.neg_mul,Int.neg_neg]
 ·rw[show (a.natAbs:Int)=a by omega,show (b.natAbs:Int)=-b by omega,Int.mul_neg,Int.neg_neg]
 ·rw[show (a.natAbs:Int)=a by omega,show (b.natAbs:Int)=b by omega]
theorem zcP (a b:Int) (ha:I64 a) (hb:I64 b) (w:World):Calls Tryz.prog 163 #[.int .i64 a,.int .i64 b] w fun e w'=>e=.returned (.agg #[.int .i64 (mkW (a*b)).h,.int .u64 (mkW (a*b)).l])∧Grew w w':=by
 have Hs:=Lib.hid (zga a b)
 have Ha:=Lib.hid ha
 have Hb:=Lib.hid hb
 obtain ⟨x,hx⟩:∃ x:Int,x=a.natAbs:=⟨_,rfl⟩
 obtain ⟨y,hy⟩:∃ y:Int,y=b.natAbs:=⟨_,rfl⟩
 have hx0:0≤x:=by omega
 have hy0:0≤y:=by omega
 have hx1:x≤9223372036854775808:=by unfold I64 at ha;omega
 have hy1:y≤9223372036854775808:=by unfold I64 at hb;omega
 have hsx:∀ w,Calls Tryz.prog 192 #[.int .i64 a] w fun e w'=>e=.returned (.int .u64 x)∧Grew w w':=fun w=>by rw[hx];exact ziR a Ha.out w
 have hsy:∀ w,Calls Tryz.prog 192 #[.int .i64 b] w fun e w'=>e=.returned (.int .u64 y)∧Grew w w':=fun w=>by rw[hy];exact ziR b Hb.out w
 have Hx:=Lib.hid hsx
 have Hy:=Lib.hid hsy
 clear hsx hsy
 rw[←hx,←hy] at Hs
 clear hx hy ha hb
 have p0:=ze9 (u:=x % 4294967296) (v:=y % 4294967296) (U:=4294967295) (V:=4294967295) (by omega) (by omega) (by omega) (by omega)
 have p1:=ze9 (u:=x/4294967296) (v:=y % 4294967296) (U:=2147483648) (V:=4294967295) (by omega) (by omega) (by omega) (by omega)
 have p2:=ze9 (u:=x % 4294967296) (v:=y/4294967296) (U:=4294967295) (V:=2147483648) (by omega) (by omega) (by omega) (by omega)
 have p3:=ze9 (u:=x/4294967296) (v:=y/4294967296) (U:=2147483648) (V:=2147483648) (by omega) (by omega) (by omega) (by omega)
 obtain ⟨p00,p01⟩:=p0
 obtain ⟨p10,p11⟩:=p1
 obtain ⟨p20,p21⟩:=p2
 obtain ⟨p30,p31⟩:=p3
 have hm:=zkP x y
 generalize hq0:x % 4294967296*(y % 4294967296)=q0 at *
 generalize hq1:x/4294967296*(y % 4294967296)=q1 at *
 generalize hq2:x % 4294967296*(y/4294967296)=q2 at *
 generalize hq3:x/4294967296*(y/4294967296)=q3 at *
 have Hm:=Lib.hid hm
 have hS:R128 ((q1+q2)*4294967296+q0):=by unfold R128;omega
 have hplus:∀ w,Calls Tryz.prog 67 #[.agg #[.int .i64 ((q1+q2)/4294967296),.int .u64 ((q1+q2) % 4294967296*4294967296)],.agg #[.int .i64 0,.int .u64 q0]] w fun e w'=>e=.returned (.agg #[.int .i64 (mkW ((q1+q2)*4294967296+q0)).h,.int .u64 (mkW ((q1+q2)*4294967296+q0)).l])∧Grew w w':=fun w=>by
  have:=zcl ((q1+q2)*4294967296) q0 (by unfold R128;omega) (by unfold R128;omega) hS w
  rw[show mkW ((q1+q2)*4294967296)=⟨(q1+q2)/4294967296,(q1+q2) % 4294967296*4294967296⟩ from (zcV (by unfold U64;omega) (by omega)).symm,
   show mkW q0=⟨0,q0⟩ from (zcV (by unfold U64;omega) (by omega)).symm] at this
  exact this
 have Hplus:=Lib.hid hplus
 obtain ⟨t1,t2,t3⟩:=zbE _ hS
 have hfin:(⟨(mkW ((q1+q2)*4294967296+q0)).h+q3,(mkW ((q1+q2)*4294967296+q0)).l⟩:W)=mkW (x*y):=zcV t2 (by omega)
 have Hfin:=Lib.hid hfin
 have hR:R128 (x*y):=by unfold R128;omega
 have hR2:R128 (-(x*y)):=by unfold R128;omega
 have hb3:-9223372036854775808≤(mkW ((q1+q2)*4294967296+q0)).h+q3∧(mkW ((q1+q2)*4294967296+q0)).h+q3≤9223372036854775807:=by
  have:=Hm.out
  unfold U64 at t2
  omega
 obtain ⟨b31,b32⟩:=hb3
 have hminus:∀ w,Calls Tryz.prog 165 #[.agg #[.int .i64 ((mkW ((q1+q2)*4294967296+q0)).h+q3),.int .u64 (mkW ((q1+q2)*4294967296+q0)).l]] w fun e w'=>e=.returned (.agg #[.int .i64 (mkW (-(x*y))).h,.int .u64 (mkW (-(x*y))).l])∧Grew w w':=fun w=>by
  have:=zbx (x*y) hR hR2 w
  rw[←Hfin.out] at this
  exact this
 have Hminus:=Lib.hid hminus
 clear hm hS hplus t1 t2 t3 hfin hR hR2 hminus Hm
 have e0:=hq0
 have e1:=hq1
 have e2:=hq2
 have e3:=hq3
 clear hq0 hq1 hq2 hq3
 rcases Int.lt_or_le a 0 with sa|sa<;>rcases Int.lt_or_le b 0 with sb|sb
 ·have na:decide (a<0)=true:=by simp;omega
  have nb:decide (b<0)=true:=by simp;omega
  have hs2:=Hs.out
  rw[na,nb,if_neg (by simp)] at hs2
  have Hs3:=Lib.hid hs2
  clear hs2
  go_enter Tryz.func163,Tryz.ntmps163
  go_wp2_with (first|(go_at_call 192;(with_reducible refine zaa (Hx.out _) ?_);intro u)|(go_at_call 192;(with_reducible refine zaa (Hy.out _) ?_);intro u)|(go_at_call 67;(with_reducible refine zaa (Hplus.out _) ?_);intro u)|(go_at_call 165;(with_reducible refine zaa (Hminus.out _) ?_);intro u))
  refine bodyPost_ret (by (simp[results,Tryz.results163,go_sem]<;>rfl)) rfl ?_
  exact ⟨zhM (by rw[Hs3.out];exact Hfin.out),gw⟩
 ·have na:decide (a<0)=true:=by simp;omega
  have nb:decide (b<0)=false:=by simp;omega
  have hs2:=Hs.out
  rw[na,nb,if_pos (by decide)] at hs2
  have Hs3:=Lib.hid hs2
  clear hs2
  go_enter Tryz.func163,Tryz.ntmps163
  go_wp2_with (first|(go_at_call 192;(with_reducible refine zaa (Hx.out _) ?_);intro u)|(go_at_call 192;(with_reducible refine zaa (Hy.out _) ?_);intro u)|(go_at_call 67;(with_reducible refine zaa (Hplus.out _) ?_);intro u)|(go_at_call 165;(with_reducible refine zaa (Hminus.out _) ?_);intro u))
  refine bodyPost_ret (by (simp[results,Tryz.results163,go_sem]<;>rfl)) rfl ?_
  exact ⟨zhM (by rw[Hs3.out]),gw⟩
 ·have na:decide (a<0)=false:=by simp;omega
  have nb:decide (b<0)=true:=by simp;omega
  have hs2:=Hs.out
  rw[na,nb,if_pos (by decide)] at hs2
  have Hs3:=Lib.hid hs2
  clear hs2
  go_enter Tryz.func163,Tryz.ntmps163
  go_wp2_with (first|(go_at_call 192;(with_reducible refine zaa (Hx.out _) ?_);intro u)|(go_at_call 192;(with_reducible refine zaa (Hy.out _) ?_);intro u)|(go_at_call 67;(with_reducible refine zaa (Hplus.out _) ?_);intro u)|(go_at_call 165;(with_reducible refine zaa (Hminus.out _) ?_);intro u))
  refine bodyPost_ret (by (simp[results,Tryz.results163,go_sem]<;>rfl)) rfl ?_
  exact ⟨zhM (by rw[Hs3.out]),gw⟩
 ·have na:decide (a<0)=false:=by simp;omega
  have nb:decide (b<0)=false:=by simp;omega
  have hs2:=Hs.out
  rw[na,nb,if_neg (by simp)] at hs2
  have Hs3:=Lib.hid hs2
  clear hs2
  go_enter Tryz.func163,Tryz.ntmps163
  go_wp2_with (first|(go_at_call 192;(with_reducible refine zaa (Hx.out _) ?_);intro u)|(go_at_call 192;(with_reducible refine zaa (Hy.out _) ?_);intro u)|(go_at_call 67;(with_reducible refine zaa (Hplus.out _) ?_);intro u)|(go_at_call 165;(with_reducible refine zaa (Hminus.out _) ?_);intro u))
  refine bodyPost_ret (by (simp[results,Tryz.results163,go_sem]<;>rfl)) rfl ?_
  exact ⟨zhM (by rw[Hs3.out];exact Hfin.out),gw⟩
theorem zgy (x:Int) (hx:R128 x) (w:World):Calls Tryz.prog 164 #[.agg #[.int .i64 (mkW x).h,.int .u64 (mkW x).l]] w fun e w'=>e=.returned (.agg #[.int .i64 (mkW (x/4294967296)).h,.int .u64 (mkW (x/4294967296)).l])∧Grew w w':=by
 obtain ⟨x1,x2,x3⟩:=zbE x hx
 have Hx:=Lib.hid x3
 clear x3 hx
 generalize (mkW x).h=xh at *
 generalize (mkW x).l=xl at *
 unfold I64 at x1
 unfold U64 at x2
 rcases Int.lt_or_le xh 0 with hs|hs
 ·have t1:xh.tdiv 4294967296=-((-xh)/4294967296):=by
   rw[show xh.tdiv 4294967296=(-(-xh)).tdiv 4294967296 by rw[Int.neg_neg],Int.neg_tdiv,Int.tdiv_eq_ediv_of_nonneg (by omega)]
  have t2:xh.tmod 4294967296=-((-xh) % 4294967296):=by
   rw[show xh.tmod 4294967296=(-(-xh)).tmod 4294967296 by rw[Int.neg_neg],Int.neg_tmod,Int.tmod_eq_emod_of_nonneg (by omega)]
  go_enter Tryz.func164,Tryz.ntmps164
  go_wp2
  all_goals
   refine bodyPost_ret (by (simp[results,Tryz.results164,go_sem]<;>rfl)) rfl ?_
   refine ⟨zhM (zcV ?_ ?_),gw⟩
   all_goals
    have h1:=Hx.out
    try simp only[IntKind.wrap_u64] at *
    try unfold U64
    try unfold wrap64 at *
    omega
 ·go_enter Tryz.func164,Tryz.ntmps164
  go_wp2
  all_goals
   refine bodyPost_ret (by (simp[results,Tryz.results164,go_sem]<;>rfl)) rfl ?_
   refine ⟨zhM (zcV ?_ ?_),gw⟩
   all_goals
    have h1:=Hx.out
    try simp only[IntKind.wrap_u64] at *
    try unfold U64
    try unfold wrap64 at *
    omega
theorem zeW (n:Int) (hn:I64 n) (w:World):Calls Tryz.prog 68 #[.int .i64 n] w fun e w'=>e=.returned (.agg #[.int .i64 (mkW n).h,.int .u64 (mkW n).l])∧Grew w w':=by
 go_enter Tryz.func68,Tryz.ntmps68
 go_wp2_with (first|(go_at_call 126;(with_reducible refine zaa (zjL n hn _) ?_);intro u))
 refine bodyPost_ret (by (simp[results,Tryz.results68,go_sem]<;>rfl)) rfl ?_
 exact ⟨rfl,gw⟩
end Go.Proofs.YtdkfkalplmgoeaaGreat
namespace Go.Proofs.YtdkfkalplmgoeaaGreat
open Go.RowKit
set_option maxRecDepth 100000
set_option maxHeartbeats 1000000
def bitZ (x:Int) (i:Nat):Int:=x/2^i % 2
theorem ziX (a:Int) (h:U64 a):bits .and .u64 a 1=a % 2:=by
 unfold U64 at h
 obtain ⟨a,rfl⟩:=Int.eq_ofNat_of_zero_le h.1
 have:=bits_and_u64_nat a 1 (by omega) (by omega)
 rw[Nat.and_one_is_mod] at this
 rw[show (1:Int)=((1:Nat):Int) from rfl,this]
 omega
theorem ziW (a:Int) (h0:0≤a) (h1:a≤9223372036854775807):bits .and .i64 a 1=a % 2:=by
 obtain ⟨a,rfl⟩:=Int.eq_ofNat_of_zero_le h0
 show IntKind.i64.wrap ((BitVec.ofInt 64 (a:Int) &&& BitVec.ofInt 64 1).toNat:Int)=_
 rw[BitVec.toNat_and,ofInt_u64 a (by omega),show (BitVec.ofInt 64 1).toNat=1 by decide,Nat.and_one_is_mod]
 simp[IntKind.wrap,IntKind.bits,IntKind.signed]
 omega
theorem zna (x:Int) (i:Nat) (hi:64≤i):x/18446744073709551616/2^(i-64) % 2=bitZ x i:=by
 unfold bitZ
 rw[Int.ediv_ediv_of_nonneg (by omega),show (18446744073709551616:Int)=2^64 from by decide +kernel,←Int.pow_add,show 64+(i-64)=i by omega]
theorem zo3 (h l:Int) (i:Nat) (hi:i<64):l/2^i % 2=bitZ (h*18446744073709551616+l) i:=by
 unfold bitZ
 have hp:(0:Int)<2^i:=Int.pow_pos (by omega)
 have e:h*18446744073709551616=2^i*(h*2^(63-i)*2):=by
  rw[show (18446744073709551616:Int)=2^64 from by decide +kernel,show (64:Nat)=i+(63-i)+1 by omega,Int.pow_succ,Int.pow_add]
  rw[←Int.mul_assoc,←Int.mul_assoc,Int.mul_comm h (2^i),Int.mul_assoc (2^i) h,Int.mul_assoc (2^i) (h*_)]
 rw[e,Int.add_comm,Int.add_mul_ediv_left _ _ (by omega)]
 omega
theorem zom (x:Int) (i:Nat) (hx0:0≤x) (hx:R128 x) (hi:i≤127) (w:World):Calls Tryz.prog 221 #[.agg #[.int .i64 (mkW x).h,.int .u64 (mkW x).l],.int .i64 i] w fun e w'=>e=.returned (.bool (decide (bitZ x i=1)))∧Grew w w':=by
 obtain ⟨x1,x2,x3⟩:=zbE x hx
 have Hx:=Lib.hid x3
 have hh:(mkW x).h=x/18446744073709551616:=rfl
 have h0:0≤(mkW x).h:=by rw[hh];omega
 by_cases hlt:i<64
 ·have hb:=zo3 (mkW x).h (mkW x).l i hlt
  rw[x3] at hb
  have Hb:=Lib.hid hb
  clear x3 hh hb
  generalize (mkW x).h=xh at *
  generalize (mkW x).l=xl at *
  have hp:(0:Int)<2^i:=Int.pow_pos (by omega)
  have hq0:0≤xl/2^i:=Int.ediv_nonneg x2.1 (by omega)
  have hq1:xl/2^i≤xl:=Int.ediv_le_self _ x2.1
  have ha:=ziX (xl/2^i) ⟨hq0,Int.le_trans hq1 x2.2⟩
  obtain ⟨x21,x22⟩:=x2
  go_enter Tryz.func221,Tryz.ntmps221
  go_wp2
  all_goals go_ret
  all_goals
   refine ⟨zaR ?_,gw⟩
   have l:=Hb.out
   rw[Bool.eq_iff_iff]
   simp
   omega
 ·have hb:=zna x i (by omega)
  rw[←hh] at hb
  have Hb:=Lib.hid hb
  have hi64:((i:Int)-64).toNat=i-64:=by omega
  clear x3 hh hb
  generalize (mkW x).h=xh at *
  generalize (mkW x).l=xl at *
  have hp:(0:Int)<2^(i-64):=Int.pow_pos (by omega)
  have hq0:0≤xh/2^(i-64):=Int.ediv_nonneg h0 (by omega)
  have hq1:xh/2^(i-64)≤xh:=Int.ediv_le_self _ h0
  have hx7:=x1.2
  have ha:=ziW (xh/2^(i-64)) hq0 (by omega)
  go_enter Tryz.func221,Tryz.ntmps221
  go_wp2
  all_goals go_ret
  all_goals
   refine ⟨zaR ?_,gw⟩
   have l:=Hb.out
   rw[Bool.eq_iff_iff]
   simp
   omega
theorem ziQ (x:Int) (h0:0≤x) (h1:x<79228162514264337593543950336) (w:World):Calls Tryz.prog 206 #[.agg #[.int .i64 (mkW x).h,.int .u64 (mkW x).l]] w fun e w'=>e=.returned (.int .i64 (zaW x))∧Grew w w':=by
 have hR:=Lib.hid (show R128 x by unfold R128;omega)
 go_enter Tryz.func206,Tryz.ntmps206
 go_wp2
 go_loopw [3,4] (fun r t wr=>∃ (k:Nat) (q:Int),t=.int .i64 (2^k/2)∧r=.int .i64 q∧k≤49∧0≤q∧q+2^k≤562949953421312∧Hid (zbG k q x=zaW x)∧Grew (w.alloc (.cells #[.int .i64 (mkW x).h,.int .u64 (mkW x).l] 131)) wr) (fun _ t _=>(intOf t).toNat)
 case atStart=>exact ⟨49,0,(by rw[show ((2:Int)^49/2)=281474976710656 from by decide +kernel]),rfl,by omega,by omega,by decide +kernel,Lib.hid rfl,Grew.refl _⟩
 case round=>
  obtain ⟨k,q,rfl,rfl,hk,hq0,hq1,Hr,hg⟩:=hrel
  obtain ⟨z,rfl⟩:=zaj hg
  clear hg
  cases k with
  |zero=>
   rw[show ((2:Int)^0/2)=0 from by decide +kernel]
   go_wp2
   go_ret
   exact ⟨zaC Hr.out,gw⟩
  |succ j=>
   have hp:(0:Int)<2^j:=Int.pow_pos (by omega)
   have e:(2:Int)^(j+1)=2^j*2:=by rw[Int.pow_succ]
   have e2:(2:Int)^(j+1)/2=2^j:=by omega
   have hstep:zbG (j+1) q x=zbG j (if (q+2^j)*(q+2^j)≤x then q+2^j else q) x:=rfl
   rw[e2]
   rw[Hr.out] at hstep
   rw[e] at hq1
   have Hstep:=Lib.hid hstep
   clear hstep e e2 Hr
   have hI:=Lib.hid (show I64 (q+2^j) from ⟨by omega,by omega⟩)
   have hsq:=ze9 (u:=q+2^j) (v:=q+2^j) (U:=562949953421312) (V:=562949953421312) (by omega) (by omega) (by omega) (by omega)
   have hS:=Lib.hid (show R128 ((q+2^j)*(q+2^j)) by unfold R128;omega)
   clear hsq
   rcases za3 (decide (x<(q+2^j)*(q+2^j))) with hc|hc
   ·have Hc:=Lib.hid hc
    clear hc
    go_wp2_with (first|(go_at_call 163;(with_reducible refine zaa (zcP _ _ hI.out hI.out _) ?_);intro u)|(go_at_call 125;(with_reducible refine zaa (zax Hc.out (zaI _ _ hR.out hS.out _)) ?_);intro u)|((with_reducible refine zac ?_ ?_ ?_);(· kernel_rfl);(· kernel_rfl);(try simp only[List.append_eq,List.cons_append,List.nil_append]);(repeat (go_big_quiet_step ((first|(go_at_call 163;(with_reducible exact zad (zcP _ _ hI.out hI.out _)))|(go_at_call 125;(with_reducible exact zad (zax Hc.out (zaI _ _ hR.out hS.out _))))))));refine wpQuiet_nil ?_;rintro _ ⟨u,rfl⟩))
    go_roundw
    case rel=>exact ⟨j,q+2^j,by first|rfl|(congr 1;omega),rfl,by omega,by omega,by omega,Lib.hid (by have:=Hc.out;rw[Hstep.out,if_pos (by simpa using this)]),gw⟩
    case measure=>simp[intOf];omega
   ·have Hc:=Lib.hid hc
    clear hc
    go_wp2_with (first|(go_at_call 163;(with_reducible refine zaa (zcP _ _ hI.out hI.out _) ?_);intro u)|(go_at_call 125;(with_reducible refine zaa (zax Hc.out (zaI _ _ hR.out hS.out _)) ?_);intro u)|((with_reducible refine zac ?_ ?_ ?_);(· kernel_rfl);(· kernel_rfl);(try simp only[List.append_eq,List.cons_append,List.nil_append]);(repeat (go_big_quiet_step ((first|(go_at_call 163;(with_reducible exact zad (zcP _ _ hI.out hI.out _)))|(go_at_call 125;(with_reducible exact zad (zax Hc.out (zaI _ _ hR.out hS.out _))))))));refine wpQuiet_nil ?_;rintro _ ⟨u,rfl⟩))
    go_roundw
    case rel=>exact ⟨j,q,by first|rfl|(congr 1;omega),rfl,by omega,by omega,by omega,Lib.hid (by have:=Hc.out;rw[Hstep.out,if_neg (by simpa using this)]),gw⟩
    case measure=>simp[intOf];omega
end Go.Proofs.YtdkfkalplmgoeaaGreat
