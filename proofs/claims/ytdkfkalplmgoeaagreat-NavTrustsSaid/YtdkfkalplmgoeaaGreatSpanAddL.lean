/-
  Joined: Divide, SpanAdd.
-/
import Derived.Test.YtdkfkalplmgoeaaGreatDiv64L
import Derived.Test.YtdkfkalplmgoeaaGreatNumAllL
import Derived.Deep.RegionHeld3
namespace Go.Proofs.YtdkfkalplmgoeaaGreat
open Go.RowKit
set_option maxRecDepth 100000
set_option maxHeartbeats 1000000
def zjG (a:Big):Big:=zb9 a.neg (a.m*4294967296)
theorem zfl (a:Big) (ha:a.ok) (hm:a.m<79228162514264337593543950336) (w:World):Calls Tryz.prog 196 #[.agg #[.bool a.neg,.int .u64 a.hi,.int .u64 a.lo],.int .u64 32] w fun e w'=>e=.returned (.agg #[.bool (zjG a).neg,.int .u64 (zjG a).hi,.int .u64 (zjG a).lo])∧Grew w w':=by
 obtain ⟨h1,h2⟩:=ha
 have e1:bits .or .u64 (a.hi*4294967296) (a.lo/4294967296)=a.hi*4294967296+a.lo/4294967296:=
  zhX 32 _ _ (by unfold U64 at *;omega) (by unfold U64 Big.m at *;omega) (by show a.hi*4294967296 % 4294967296=0;omega) (by unfold U64 at *;omega) (by unfold U64 at *;omega) (by show a.lo/4294967296<4294967296;unfold U64 at *;omega)
 have E1:=Lib.hid e1
 clear e1
 go_enter Tryz.func196,Tryz.ntmps196
 go_wp2
 refine bodyPost_ret (by (simp[results,Tryz.results196,go_sem]<;>rfl)) rfl ?_
 refine ⟨zgq ?_,gw⟩
 rw[IntKind.wrap_u64,IntKind.wrap_u64,show a.hi*4294967296 % 18446744073709551616=a.hi*4294967296 by unfold U64 Big.m at *;omega,E1.out]
 exact zgM (by unfold U64 Big.m at *;omega) (by unfold U64 at *;omega) (by unfold U64 Big.m at *;omega)
theorem znL (a b:Big) (ha:a.ok) (hb:b.ok) :
 (decide (a.val<0)=true→decide (b.val<0)=false→a.val<b.val)∧(decide (a.val<0)=false→decide (b.val<0)=true→¬ a.val<b.val)∧
 (decide (a.val<0)=true→decide (b.val<0)=true→(a.val<b.val↔b.hi<a.hi∨b.hi=a.hi∧b.lo<a.lo))∧
 (decide (a.val<0)=false→decide (b.val<0)=false→(a.val<b.val↔a.hi<b.hi∨a.hi=b.hi∧a.lo<b.lo)):=by
 obtain ⟨ha1,ha2⟩:=ha
 obtain ⟨hb1,hb2⟩:=hb
 obtain ⟨n1,x1,y1⟩:=a
 obtain ⟨n2,x2,y2⟩:=b
 unfold U64 at *
 simp only[] at *
 cases n1<;>cases n2<;>simp[Big.val,Big.m]<;>(try refine ⟨?_,?_,?_,?_⟩)<;>(try refine ⟨?_,?_,?_⟩)<;>(try intros)<;>omega
theorem zfj (a b:Big) (ha:a.ok) (hb:b.ok) (w:World):Calls Tryz.prog 198 #[.agg #[.bool a.neg,.int .u64 a.hi,.int .u64 a.lo],.agg #[.bool b.neg,.int .u64 b.hi,.int .u64 b.lo]] w fun e w'=>e=.returned (.bool (decide (a.val<b.val)))∧Grew w w':=by
 obtain ⟨l1,l2,l3,l4⟩:=znL a b ha hb
 cases h1:decide (a.val<0)<;>cases h2:decide (b.val<0)
 ·have L:=Lib.hid (l4 h1 h2)
  clear l1 l2 l3 l4
  go_enter Tryz.func198,Tryz.ntmps198
  go_wp2_with (first|(go_at_call 215;(with_reducible refine zaa (zax h1 (zaE a ha _)) ?_);intro u)|(go_at_call 215;(with_reducible refine zaa (zax h2 (zaE b hb _)) ?_);intro u)|((with_reducible refine zac ?_ ?_ ?_);(· kernel_rfl);(· kernel_rfl);(try simp only[List.append_eq,List.cons_append,List.nil_append]);(repeat (go_big_quiet_step ((first|(go_at_call 215;(with_reducible exact zad (zax h1 (zaE a ha _))))|(go_at_call 215;(with_reducible exact zad (zax h2 (zaE b hb _))))))));refine wpQuiet_nil ?_;rintro _ ⟨u,rfl⟩))
  all_goals go_ret
  all_goals refine ⟨zaR (by have l:=L.out;rw[Bool.eq_iff_iff];first|omega|(simp;done)|(simp;omega)),?_⟩
  all_goals exact gw
 ·have L:=Lib.hid (l2 h1 h2)
  clear l1 l2 l3 l4
  go_enter Tryz.func198,Tryz.ntmps198
  go_wp2_with (first|(go_at_call 215;(with_reducible refine zaa (zax h1 (zaE a ha _)) ?_);intro u)|(go_at_call 215;(with_reducible refine zaa (zax h2 (zaE b hb _)) ?_);intro u)|((with_reducible refine zac ?_ ?_ ?_);(· kernel_rfl);(· kernel_rfl);(try simp only[List.append_eq,List.cons_append,List.nil_append]);(repeat (go_big_quiet_step ((first|(go_at_call 215;(with_reducible exact zad (zax h1 (zaE a ha _))))|(go_at_call 215;(with_reducible exact zad (zax h2 (zaE b hb _))))))));refine wpQuiet_nil ?_;rintro _ ⟨u,rfl⟩))
  all_goals go_ret
  all_goals exact ⟨zaR (by have l:=L.out;rw[Bool.eq_iff_iff];first|omega|(simp;done)|(simp;omega)),gw⟩
 ·have L:=Lib.hid (l1 h1 h2)
  clear l1 l2 l3 l4
  go_enter Tryz.func198,Tryz.ntmps198
  go_wp2_with (first|(go_at_call 215;(with_reducible refine zaa (zax h1 (zaE a ha _)) ?_);intro u)|(go_at_call 215;(with_reducible refine zaa (zax h2 (zaE b hb _)) ?_);intro u)|((with_reducible refine zac ?_ ?_ ?_);(· kernel_rfl);(· kernel_rfl);(try simp only[List.append_eq,List.cons_append,List.nil_append]);(repeat (go_big_quiet_step ((first|(go_at_call 215;(with_reducible exact zad (zax h1 (zaE a ha _))))|(go_at_call 215;(with_reducible exact zad (zax h2 (zaE b hb _))))))));refine wpQuiet_nil ?_;rintro _ ⟨u,rfl⟩))
  all_goals go_ret
  all_goals exact ⟨zaR (by have l:=L.out;rw[Bool.eq_iff_iff];first|omega|(simp;done)|(simp;omega)),gw⟩
 ·have L:=Lib.hid (l3 h1 h2)
  clear l1 l2 l3 l4
  go_enter Tryz.func198,Tryz.ntmps198
  go_wp2_with (first|(go_at_call 215;(with_reducible refine zaa (zax h1 (zaE a ha _)) ?_);intro u)|(go_at_call 215;(with_reducible refine zaa (zax h2 (zaE b hb _)) ?_);intro u)|((with_reducible refine zac ?_ ?_ ?_);(· kernel_rfl);(· kernel_rfl);(try simp only[List.append_eq,List.cons_append,List.nil_append]);(repeat (go_big_quiet_step ((first|(go_at_call 215;(with_reducible exact zad (zax h1 (zaE a ha _))))|(go_at_call 215;(with_reducible exact zad (zax h2 (zaE b hb _))))))));refine wpQuiet_nil ?_;rintro _ ⟨u,rfl⟩))
  all_goals go_ret
  all_goals refine ⟨zaR (by have l:=L.out;rw[Bool.eq_iff_iff];first|omega|(simp;done)|(simp;omega)),?_⟩
  all_goals exact gw
theorem zgd (a:Int) (ha:I64 a):(ofB a).ok:=zbJ _ _ (by unfold I64 at ha;unfold B128;omega)
theorem zmf (a:Int):(ofB a).m=a.natAbs:=zhw _ _
theorem zhA (a:Int):(ofB a).val=a:=by
 unfold ofB
 rw[zdO]
 by_cases h:a<0<;>simp[h]<;>omega
theorem zmg (a b:Int) (ha:I64 a) (hb:I64 b):B128 ((ofB a).m+(ofB b).m):=by
 rw[zmf,zmf]
 unfold I64 at ha hb
 unfold B128
 omega
theorem zmU (a b:Int) (ha:I64 a) (hb:I64 b):(zaz a b).ok:=by
 refine zbJ _ _ ?_
 unfold I64 at ha hb
 have h1:(a.natAbs:Int)*b.natAbs≤9223372036854775808*b.natAbs:=Int.mul_le_mul_of_nonneg_right (by omega) (by omega)
 have h2:0≤(a.natAbs:Int)*b.natAbs:=Int.mul_nonneg (by omega) (by omega)
 unfold B128
 omega
theorem zed (a b:Int):(zaz a b).val=a*b:=by
 unfold zaz
 rw[zdO]
 rcases Int.natAbs_eq a with h1|h1<;>rcases Int.natAbs_eq b with h2|h2
 all_goals
  generalize a.natAbs=x at *
  generalize b.natAbs=y at *
  subst h1
  subst h2
  by_cases hx:x=0<;>by_cases hy:y=0<;>simp[hx,hy,Int.neg_mul,Int.mul_neg]<;>omega
theorem zdx (a b:Big) (ha:a.ok) (hb:b.ok) (w:World):Calls Tryz.prog 64 #[.agg #[.bool a.neg,.int .u64 a.hi,.int .u64 a.lo],.agg #[.bool b.neg,.int .u64 b.hi,.int .u64 b.lo]] w fun e w'=>e=.returned (.tuple #[.agg #[.int .i64 (fitR a.val b.val).s.lo,.int .i64 (fitR a.val b.val).s.hi],.int .i64 (fitR a.val b.val).e])∧Grew w w':=by
 cases h1:a.numB<;>cases h2:b.numB
 all_goals
  go_enter Tryz.func64,Tryz.ntmps64
  go_wp2_with (first|(go_at_call 124;(with_reducible refine zaa (ziY _ (by assumption) _) ?_);intro u))
  refine bodyPost_ret (by (simp[results,Tryz.results64,go_sem]<;>rfl)) rfl ?_
  exact ⟨zaS (by rw[zpc a b ha hb,h1,h2];rfl),gw⟩
def zcb (a:Big) (d:Int):Big:=if a.neg then zb9 true (upZ a.m d) else zb9 false (zbY a.m d)
def zey (a:Big) (d:Int):Big:=if a.neg then zb9 true (zbY a.m d) else zb9 false (upZ a.m d)
theorem zmX (m d:Int) (hd:1≤d):upZ m d=if m % d=0 then m/d else m/d+1:=by
 unfold upZ
 have h1:=Int.mul_ediv_add_emod m d
 have h2:=Int.emod_nonneg m (show d≠0 by omega)
 have h3:=Int.emod_lt_of_pos m (show 0<d by omega)
 split
 ·rename_i h
  have:-m=d*(-(m/d)):=by rw[Int.mul_neg];omega
  rw[this,Int.mul_ediv_cancel_left _ (by omega)];omega
 ·have:-m=(d-m % d)+d*(-(m/d)-1):=by rw[Int.mul_sub,Int.mul_neg];omega
  rw[this,Int.add_mul_ediv_left _ _ (by omega),Int.ediv_eq_zero_of_lt (by omega) (by omega)];omega
theorem znW (hi lo d:Int) (h1:U64 hi) (h2:U64 lo) (hd:1≤d) (hd2:d≤18446744073709551615) :
 U64 (hi/d)∧U64 ((hi % d*18446744073709551616+lo)/d)∧0≤(hi % d*18446744073709551616+lo) % d∧(hi % d*18446744073709551616+lo) % d<d∧
 hi/d*18446744073709551616+(hi % d*18446744073709551616+lo)/d=(hi*18446744073709551616+lo)/d∧(hi % d*18446744073709551616+lo) % d=(hi*18446744073709551616+lo) % d:=by
 unfold U64 at *
 have e:=Int.mul_ediv_add_emod hi d
 have a1:=Int.emod_nonneg hi (show d≠0 by omega)
 have a2:=Int.emod_lt_of_pos hi (show 0<d by omega)
 have e2:hi*18446744073709551616+lo=(hi % d*18446744073709551616+lo)+d*(hi/d*18446744073709551616):=by
  rw[←Int.mul_assoc];omega
 refine ⟨⟨Int.ediv_nonneg h1.1 (by omega),Int.le_trans (Int.ediv_le_self _ h1.1) h1.2⟩,⟨Int.ediv_nonneg (by omega) (by omega),?_⟩,Int.emod_nonneg _ (by omega),Int.emod_lt_of_pos _ (by omega),?_,?_⟩
 ·apply Int.le_of_lt_add_one
  apply Int.ediv_lt_of_lt_mul (by omega)
  have:(hi % d+1)*18446744073709551616≤d*18446744073709551616:=Int.mul_le_mul_of_nonneg_right (by omega) (by omega)
  omega
 ·rw[e2,Int.add_mul_ediv_left _ _ (by omega)];omega
 ·rw[e2,Int.add_mul_emod_self_left]
theorem zfL {n n':Bool} {x y x' y':Int} {r r':Big} (h:(⟨n,x,y⟩:Big)=r) (h':(⟨n',x',y'⟩:Big)=r') :
 Ending.returned (.tuple #[.agg #[.bool n,.int .u64 x,.int .u64 y],.agg #[.bool n',.int .u64 x',.int .u64 y']])=.returned (.tuple #[.agg #[.bool r.neg,.int .u64 r.hi,.int .u64 r.lo],.agg #[.bool (r').neg,.int .u64 (r').hi,.int .u64 (r').lo]]):=by rw[←h,←h']
theorem zeI (x y m:Int) (hm:x*18446744073709551616+y=m):zdC ⟨false,x,y⟩ ⟨false,0,1⟩=zb9 false (m+1):=by
 subst hm
 rfl
theorem ziZ (x:Int) (h:0≤x) (h2:x≤18446744073709551615):(⟨false,0,x⟩:Big).ok:=⟨⟨Int.le_refl _,show (0:Int)≤18446744073709551615 by omega⟩,⟨h,h2⟩⟩
theorem zgP (a b:Big) (ha:a.ok) (hb:b.ok) (hh:b.hi=0) (hl:1≤b.lo) (hn:b.neg=false) (w:World) :
 Calls Tryz.prog 180 #[.agg #[.bool a.neg,.int .u64 a.hi,.int .u64 a.lo],.agg #[.bool b.neg,.int .u64 b.hi,.int .u64 b.lo]] w fun e w'=>e=.returned (.tuple #[.agg #[.bool (zcb a b.lo).neg,.int .u64 (zcb a b.lo).hi,.int .u64 (zcb a b.lo).lo],.agg #[.bool (zey a b.lo).neg,.int .u64 (zey a b.lo).hi,.int .u64 (zey a b.lo).lo]])∧Grew w w':=by
 obtain ⟨ha1,ha2⟩:=ha
 obtain ⟨hb1,hb2⟩:=hb
 obtain ⟨bn,bh,bl⟩:=b
 simp only[] at hh hl hn hb1 hb2
 subst hh
 subst hn
 obtain ⟨q1,q2,q3,q4,q5,q6⟩:=znW a.hi a.lo bl ha1 ha2 hl hb2.2
 have hbl:=hb2.2
 have hne:(bl==0)=false:=by rw[beq_eq_false_iff_ne];omega
 have hm1:0≤a.hi % bl:=Int.emod_nonneg _ (by omega)
 have hm2:a.hi % bl<bl:=Int.emod_lt_of_pos _ (by omega)
 obtain ⟨a1,a2⟩:=ha1
 obtain ⟨a3,a4⟩:=ha2
 have Q5:=Lib.hid q5
 have hup:=zmX a.m bl hl
 rw[show a.m=a.hi*18446744073709551616+a.lo from rfl] at hup
 have hdd:zcb a bl=if a.neg then zb9 true (upZ (a.hi*18446744073709551616+a.lo) bl) else zb9 false ((a.hi*18446744073709551616+a.lo)/bl):=rfl
 have hdu:zey a bl=if a.neg then zb9 true ((a.hi*18446744073709551616+a.lo)/bl) else zb9 false (upZ (a.hi*18446744073709551616+a.lo) bl):=rfl
 rw[hup,←q6,←q5] at hdd hdu
 clear hup q5 q6
 have Hd:=Lib.hid hdd
 have Hu:=Lib.hid hdu
 clear hdd hdu
 have Hr:=Lib.hid (ziZ ((a.hi % bl*18446744073709551616+a.lo) % bl) q3 (by omega))
 have Hq:=Lib.hid (show (⟨false,a.hi/bl,(a.hi % bl*18446744073709551616+a.lo)/bl⟩:Big).ok from ⟨q1,q2⟩)
 have Hone:=Lib.hid (ziZ 1 (by omega) (by omega))
 by_cases hz:(a.hi % bl*18446744073709551616+a.lo) % bl=0
 ·have Hz:=Lib.hid (show decide ((⟨false,0,(a.hi % bl*18446744073709551616+a.lo) % bl⟩:Big).m=0)=true by simp[Big.m,hz])
  have Hz2:=Lib.hid hz
  clear hz
  cases hng:a.neg
  all_goals
   go_enter Tryz.func180,Tryz.ntmps180
   go_wp2_with (first|(go_at_call 202;(with_reducible refine zaa (zex _ _ bl (by unfold U64;omega) (by unfold U64;omega) (by unfold U64;omega) hm2 _) ?_);intro u)|(go_at_call 204;(with_reducible refine zaa (zax Hz.out (zcw ⟨false,0,(a.hi % bl*18446744073709551616+a.lo) % bl⟩ Hr.out _)) ?_);intro u)|go_region|((with_reducible refine zac ?_ ?_ ?_);(· kernel_rfl);(· kernel_rfl);(try simp only[List.append_eq,List.cons_append,List.nil_append]);(repeat (go_big_quiet_step ((first|(go_at_call 202;(with_reducible exact zad (zex _ _ bl (by unfold U64;omega) (by unfold U64;omega) (by unfold U64;omega) hm2 _)))|(go_at_call 204;(with_reducible exact zad (zax Hz.out (zcw ⟨false,0,(a.hi % bl*18446744073709551616+a.lo) % bl⟩ Hr.out _))))))));refine wpQuiet_nil ?_;rintro _ ⟨u,rfl⟩))
   refine bodyPost_ret (by (simp[results,Tryz.results180,go_sem]<;>rfl)) rfl ?_
   refine ⟨zfL ?_ ?_,gw⟩
   all_goals (first|rw[Hd.out]|rw[Hu.out])
   all_goals (first|rw[if_pos hng]|rw[if_neg (by simp[hng])])
   all_goals (try first|rw[if_pos Hz2.out]|rw[if_neg Hz2.out])
   all_goals first|exact zgM q1 q2 rfl|(rw[zeI _ _ _ rfl];done)|(rw[zeI _ _ _ rfl];rfl)
 ·have Hz:=Lib.hid (show decide ((⟨false,0,(a.hi % bl*18446744073709551616+a.lo) % bl⟩:Big).m=0)=false by simp[Big.m,hz])
  have hb2:2≤bl:=by omega
  have Hz2:=Lib.hid hz
  clear hz
  have hbig:B128 ((⟨false,a.hi/bl,(a.hi % bl*18446744073709551616+a.lo)/bl⟩:Big).m+(⟨false,0,1⟩:Big).m):=by
   unfold B128 Big.m
   simp only[]
   have h1:=Int.mul_ediv_add_emod a.hi bl
   have h2:a.hi/bl*2≤a.hi:=by
    have:a.hi/bl*2≤a.hi/bl*bl:=Int.mul_le_mul_of_nonneg_left hb2 q1.1
    rw[Int.mul_comm] at h1
    omega
   have:=q1.1
   have:=q2.1
   have:=q2.2
   omega
  have Hbig:=Lib.hid hbig
  clear hbig
  cases hng:a.neg
  all_goals
   go_enter Tryz.func180,Tryz.ntmps180
   go_wp2_with (first|(go_at_call 202;(with_reducible refine zaa (zex _ _ bl (by unfold U64;omega) (by unfold U64;omega) (by unfold U64;omega) hm2 _) ?_);intro u)|(go_at_call 204;(with_reducible refine zaa (zax Hz.out (zcw ⟨false,0,(a.hi % bl*18446744073709551616+a.lo) % bl⟩ Hr.out _)) ?_);intro u)|(go_at_call 62;(with_reducible refine zaa (zhE ⟨false,a.hi/bl,(a.hi % bl*18446744073709551616+a.lo)/bl⟩ ⟨false,0,1⟩ _ Hq.out Hone.out Hbig.out) ?_);intro u)|go_region|((with_reducible refine zac ?_ ?_ ?_);(· kernel_rfl);(· kernel_rfl);(try simp only[List.append_eq,List.cons_append,List.nil_append]);(repeat (go_big_quiet_step ((first|(go_at_call 202;(with_reducible exact zad (zex _ _ bl (by unfold U64;omega) (by unfold U64;omega) (by unfold U64;omega) hm2 _)))|(go_at_call 204;(with_reducible exact zad (zax Hz.out (zcw ⟨false,0,(a.hi % bl*18446744073709551616+a.lo) % bl⟩ Hr.out _))))|(go_at_call 62;(with_reducible exact zad (zhE ⟨false,a.hi/bl,(a.hi % bl*18446744073709551616+a.lo)/bl⟩ ⟨false,0,1⟩ _ Hq.out Hone.out Hbig.out)))))));refine wpQuiet_nil ?_;rintro _ ⟨u,rfl⟩))
   refine bodyPost_ret (by (simp[results,Tryz.results180,go_sem]<;>rfl)) rfl ?_
   refine ⟨zfL ?_ ?_,gw⟩
   all_goals (first|rw[Hd.out]|rw[Hu.out])
   all_goals (first|rw[if_pos hng]|rw[if_neg (by simp[hng])])
   all_goals (try first|rw[if_pos Hz2.out]|rw[if_neg Hz2.out])
   all_goals first|exact zgM q1 q2 rfl|(rw[zeI _ _ _ rfl];done)|(rw[zeI _ _ _ rfl];rfl)
end Go.Proofs.YtdkfkalplmgoeaaGreat
namespace Go.Proofs.YtdkfkalplmgoeaaGreat
open Go.RowKit
set_option maxRecDepth 100000
set_option maxHeartbeats 1000000
theorem za0 (a b:Sp) (hk:(a.okB&&b.okB)=true) (v:Value) (w:World) (h:SlAt w v 2 [.int .i64 a.lo,.int .i64 a.hi,.int .i64 b.lo,.int .i64 b.hi]):Calls Tryz.prog 60 #[v] w fun e w'=>e=.returned (.int .i64 0)∧Grew w w':=
 zaH (by rw[hk];rfl) (zeQ a b v w h)
theorem zbr (a b:Sp) (hk:(a.okB&&b.okB)=false) (v:Value) (w:World) (h:SlAt w v 2 [.int .i64 a.lo,.int .i64 a.hi,.int .i64 b.lo,.int .i64 b.hi]):Calls Tryz.prog 60 #[v] w fun e w'=>e=.returned (.int .i64 2)∧Grew w w':=
 zaH (by rw[hk];rfl) (zeQ a b v w h)
theorem zcs (a:Sp) (hk:a.okB=true) (w:World):Calls Tryz.prog 72 #[.agg #[.int .i64 a.lo,.int .i64 a.hi]] w fun e w'=>e=.returned (.int .i64 0)∧Grew w w':=zaH (by rw[hk];rfl) (zbH a w)
theorem zff (a:Sp) (hk:a.okB=false) (w:World):Calls Tryz.prog 72 #[.agg #[.int .i64 a.lo,.int .i64 a.hi]] w fun e w'=>e=.returned (.int .i64 2)∧Grew w w':=zaH (by rw[hk];rfl) (zbH a w)
theorem zeh {P:Program} {f:FuncId} {args:Array Value} {w:World} {r r':Res} (hr:r=r') (h:Calls P f args w fun e w'=>e=.returned (.tuple #[.agg #[.int .i64 r.s.lo,.int .i64 r.s.hi],.int .i64 r.e])∧Grew w w'):Calls P f args w fun e w'=>e=.returned (.tuple #[.agg #[.int .i64 (r').s.lo,.int .i64 (r').s.hi],.int .i64 (r').e])∧Grew w w':=hr▸h
theorem zaJ {e e':Int} {r:Res} (h:errR e=r) (he:e=e'):Ending.returned (.tuple #[.agg #[.int .i64 0,.int .i64 0],.int .i64 e'])=.returned (.tuple #[.agg #[.int .i64 r.s.lo,.int .i64 r.s.hi],.int .i64 r.e]):=by rw[←h,←he];rfl
theorem zod (a b:Int) [ha:N64 a] [hb:N64 b] (w:World):Calls Tryz.prog 61 #[.int .i64 a,.int .i64 b] w fun e w'=>e=.returned (.agg #[.bool (zdC (ofB a) (ofB b)).neg,.int .u64 (zdC (ofB a) (ofB b)).hi,.int .u64 (zdC (ofB a) (ofB b)).lo])∧Grew w w':=by
 have h1:=Lib.hid (zgd a ha.is)
 have h2:=Lib.hid (zgd b hb.is)
 have h3:=Lib.hid (zmg a b ha.is hb.is)
 go_enter Tryz.func61,Tryz.ntmps61
 go_wp2_with (first|(go_at_call 63;(with_reducible refine zaa (zco _ N64.is _) ?_);intro u)|(go_at_call 62;(with_reducible refine zaa (zhE _ _ _ h1.out h2.out h3.out) ?_);intro u))
 refine bodyPost_ret (by (simp[results,Tryz.results61,go_sem]<;>rfl)) rfl ?_
 exact ⟨rfl,gw⟩
theorem zmT (a b:Int) [ha:N64 a] [hb:N64 b]:(zdC (ofB a) (ofB b)).ok:=znS (zgd a ha.is) (zgd b hb.is) (zmg a b ha.is hb.is)
theorem zcj (a b:Sp) [ha:S64 a] [hb:S64 b] (w:World):Calls Tryz.prog 32 #[.agg #[.int .i64 a.lo,.int .i64 a.hi],.agg #[.int .i64 b.lo,.int .i64 b.hi]] w fun e w'=>e=.returned (.tuple #[.agg #[.int .i64 (addR a b).s.lo,.int .i64 (addR a b).s.hi],.int .i64 (addR a b).e])∧Grew w w':=by
 cases hk:(a.okB&&b.okB)
 ·have Hf:=Lib.hid (show errR 2=addR a b by unfold addR;rw[hk];rfl)
  go_enter Tryz.func32,Tryz.ntmps32
  go_wp2_with (first|(go_at_call 60;(with_reducible refine zaa (zbr a b hk _ _ (SlAt.fresh _ _ _ _ (by simp[maxLen]))) ?_);intro u)|((with_reducible refine zac ?_ ?_ ?_);(· kernel_rfl);(· kernel_rfl);(try simp only[List.append_eq,List.cons_append,List.nil_append]);(repeat (go_big_quiet_step ((first|(go_at_call 60;(with_reducible exact zad (zbr a b hk _ _ (SlAt.fresh _ _ _ _ (by simp[maxLen])))))))));refine wpQuiet_nil ?_;rintro _ ⟨u,rfl⟩))
  refine bodyPost_ret (by (simp[results,Tryz.results32,go_sem]<;>rfl)) rfl ?_
  exact ⟨zaJ Hf.out rfl,gw⟩
 ·have Hf:=Lib.hid (show fitR (zdC (ofB a.lo) (ofB b.lo)).val (zdC (ofB a.hi) (ofB b.hi)).val=addR a b by unfold addR;rw[hk,ziA,ziA,zhA,zhA,zhA,zhA];rfl)
  go_enter Tryz.func32,Tryz.ntmps32
  go_wp2_with (first|(go_at_call 60;(with_reducible refine zaa (za0 a b hk _ _ (SlAt.fresh _ _ _ _ (by simp[maxLen]))) ?_);intro u)|((with_reducible refine zac ?_ ?_ ?_);(· kernel_rfl);(· kernel_rfl);(try simp only[List.append_eq,List.cons_append,List.nil_append]);(repeat (go_big_quiet_step ((first|(go_at_call 60;(with_reducible exact zad (za0 a b hk _ _ (SlAt.fresh _ _ _ _ (by simp[maxLen])))))))));refine wpQuiet_nil ?_;rintro _ ⟨u,rfl⟩))
  go_region_held3 (fun w'=>w'.cell? ⟨w.heap.size,0,none⟩=some (.int .i64 a.lo)∧w'.cell? ⟨w.heap.size,1,none⟩=some (.int .i64 a.hi)∧w'.cell? ⟨w.heap.size+1,0,none⟩=some (.int .i64 b.lo)∧w'.cell? ⟨w.heap.size+1,1,none⟩=some (.int .i64 b.hi)) (first|exact ⟨(by go_simp),(by go_simp),(by go_simp),(by go_simp)⟩) (first|(go_at_call 61;refine zaa (zod _ _ _) ?_;intro u)|(go_at_call 64;refine zaa (zdx _ _ (zmT _ _) (zmT _ _) _) ?_;intro u))
  go_wp2
  refine bodyPost_ret (by (simp[results,Tryz.results32,go_sem]<;>rfl)) rfl ?_
  exact ⟨zaS Hf.out,gw⟩
theorem zgt (a:Sp) [ha:S64 a] (w:World):Calls Tryz.prog 48 #[.agg #[.int .i64 a.lo,.int .i64 a.hi]] w fun e w'=>e=.returned (.tuple #[.agg #[.int .i64 (negR a).s.lo,.int .i64 (negR a).s.hi],.int .i64 (negR a).e])∧Grew w w':=by
 cases hk:a.okB
 ·have Hf:=Lib.hid (show errR 2=negR a by unfold negR;rw[hk];rfl)
  go_enter Tryz.func48,Tryz.ntmps48
  go_wp2_with (first|(go_at_call 72;(with_reducible refine zaa (zff a hk _) ?_);intro u))
  refine bodyPost_ret (by (simp[results,Tryz.results48,go_sem]<;>rfl)) rfl ?_
  exact ⟨zaJ Hf.out rfl,gw⟩
 ·have Hf:=Lib.hid (show (⟨⟨-a.hi,-a.lo⟩,0⟩:Res)=negR a by unfold negR;rw[hk];rfl)
  have h1:=zbZ hk
  have h2:=ha.lo.2
  have h3:=ha.hi.2
  go_enter Tryz.func48,Tryz.ntmps48
  go_wp2_with (first|(go_at_call 72;(with_reducible refine zaa (zcs a hk _) ?_);intro u))
  refine bodyPost_ret (by (simp[results,Tryz.results48,go_sem]<;>rfl)) rfl ?_
  exact ⟨zaS (by rw[←Hf.out]),gw⟩
theorem ziK (a b:Sp) [ha:S64 a] [hb:S64 b] (w:World):Calls Tryz.prog 28 #[.agg #[.int .i64 a.lo,.int .i64 a.hi],.agg #[.int .i64 b.lo,.int .i64 b.hi]] w fun e w'=>e=.returned (.tuple #[.agg #[.int .i64 (subR a b).s.lo,.int .i64 (subR a b).s.hi],.int .i64 (subR a b).e])∧Grew w w':=by
 cases hk:b.okB
 ·have Hf:=Lib.hid (show errR 2=subR a b by unfold subR;rw[hk];rfl)
  have Hn:=Lib.hid (show negR b=errR 2 by unfold negR;rw[hk];rfl)
  go_enter Tryz.func28,Tryz.ntmps28
  go_wp2_with (first|(go_at_call 48;(with_reducible refine zaa (zeh Hn.out (zgt b _)) ?_);intro u))
  refine bodyPost_ret (by (simp[results,Tryz.results28,go_sem]<;>rfl)) rfl ?_
  exact ⟨zaJ Hf.out rfl,gw⟩
 ·have Hf:=Lib.hid (show addR a (negS b)=subR a b by unfold subR;rw[hk];rfl)
  have Hn:=Lib.hid (show negR b=⟨negS b,0⟩ by unfold negR;rw[hk];rfl)
  have hn:=zhP hk
  go_enter Tryz.func28,Tryz.ntmps28
  go_wp2_with (first|(go_at_call 48;(with_reducible refine zaa (zeh Hn.out (zgt b _)) ?_);intro u)|(go_at_call 32;(with_reducible refine zaa (zcj a (negS b) _) ?_);intro u))
  refine bodyPost_ret (by (simp[results,Tryz.results28,go_sem]<;>rfl)) rfl ?_
  exact ⟨zaS (by rw[←Hf.out]),gw⟩
end Go.Proofs.YtdkfkalplmgoeaaGreat
