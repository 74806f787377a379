/-
  Joined: RefOpsAll.
-/
import Derived.Test.YtdkfkalplmgoeaaGreatWidesL
import Derived.Test.YtdkfkalplmgoeaaGreatSpanAddL
import Derived.Test.YtdkfkalplmgoeaaGreatChecksL
import Derived.Test.YtdkfkalplmgoeaaGreatLexAllL
namespace Go.Proofs.YtdkfkalplmgoeaaGreat
open Go.RowKit
set_option maxRecDepth 100000
set_option maxHeartbeats 2000000
theorem zn1 {x y e:Int} {r:Res} (h1:x=r.s.lo) (h2:y=r.s.hi) (h3:e=r.e):Ending.returned (.tuple #[.agg #[.int .i64 x,.int .i64 y],.int .i64 e])=.returned (.tuple #[.agg #[.int .i64 r.s.lo,.int .i64 r.s.hi],.int .i64 r.e]):=by rw[h1,h2,h3]
theorem zhL (x y:Int) (hx:R128 x) (hy:R128 y) (w:World):Calls Tryz.prog 66 #[.agg #[.int .i64 (mkW x).h,.int .u64 (mkW x).l],.agg #[.int .i64 (mkW y).h,.int .u64 (mkW y).l]] w fun e w'=>e=.returned (.tuple #[.agg #[.int .i64 (fitR x y).s.lo,.int .i64 (fitR x y).s.hi],.int .i64 (fitR x y).e])∧Grew w w':=by
 have Hx:=Lib.hid hx
 have Hy:=Lib.hid hy
 have hm1:=Lib.hid (show R128 (-9223372036854775807) by unfold R128;omega)
 have hm2:=Lib.hid (show R128 9223372036854775807 by unfold R128;omega)
 have ho1:=Lib.hid (fun w=>zjL (-9223372036854775807) (by unfold I64;omega) w)
 have ho2:=Lib.hid (fun w=>zjL 9223372036854775807 (by unfold I64;omega) w)
 have hf:ze2 x=(!decide (x < -9223372036854775807)&&!decide (9223372036854775807<x)):=by unfold ze2;rw[Bool.eq_iff_iff];simp
 have hg:ze2 y=(!decide (y < -9223372036854775807)&&!decide (9223372036854775807<y)):=by unfold ze2;rw[Bool.eq_iff_iff];simp
 have hfit:fitR x y=if ((!decide (x < -9223372036854775807)&&!decide (9223372036854775807<x))&&(!decide (y < -9223372036854775807)&&!decide (9223372036854775807<y)))=true then ⟨⟨x,y⟩,0⟩ else errR 4:=by unfold fitR;rw[hf,hg]
 have hpx:(mkW x).l=x % 18446744073709551616:=rfl
 have hpy:(mkW y).l=y % 18446744073709551616:=rfl
 have Hpx:=Lib.hid hpx
 have Hpy:=Lib.hid hpy
 clear hx hy hf hg hpx hpy
 rcases zc5 (decide (x < -9223372036854775807)) with c1|c1
 rotate_left
 rcases zc5 (decide (9223372036854775807<x)) with c2|c2
 rotate_left
 rcases zc5 (decide (y < -9223372036854775807)) with c3|c3
 rotate_left
 rcases zc5 (decide (9223372036854775807<y)) with c4|c4
 rotate_left
 ·have Hf:=Lib.hid (show (⟨⟨x,y⟩,0⟩:Res)=fitR x y by rw[hfit];simp only[*];rfl)
  clear hfit
  have Hr:=Lib.hid (show -9223372036854775807≤x∧x≤9223372036854775807∧-9223372036854775807≤y∧y≤9223372036854775807 by simp at c1 c2 c3 c4;omega)
  have HL:=Lib.hid (fun w=>zaI x (-9223372036854775807) Hx.out hm1.out w)
  have HM:=Lib.hid (fun w=>zaI 9223372036854775807 x hm2.out Hx.out w)
  have HN:=Lib.hid (fun w=>zaI y (-9223372036854775807) Hy.out hm1.out w)
  have HO:=Lib.hid (fun w=>zaI 9223372036854775807 y hm2.out Hy.out w)
  simp only[*] at HL HM HN HO
  go_enter Tryz.func66,Tryz.ntmps66
  go_wp2_with (first|(go_at_call 126;(with_reducible refine zaa (ho1.out _) ?_);intro u)|(go_at_call 126;(with_reducible refine zaa (ho2.out _) ?_);intro u)|(go_at_call 125;(with_reducible refine zaa (HL.out _) ?_);intro u)|(go_at_call 125;(with_reducible refine zaa (HM.out _) ?_);intro u)|(go_at_call 125;(with_reducible refine zaa (HN.out _) ?_);intro u)|(go_at_call 125;(with_reducible refine zaa (HO.out _) ?_);intro u)|((with_reducible refine zac ?_ ?_ ?_);(· kernel_rfl);(· kernel_rfl);(try simp only[List.append_eq,List.cons_append,List.nil_append]);(repeat (go_big_quiet_step ((first|(go_at_call 126;(with_reducible exact zad (ho1.out _)))|(go_at_call 126;(with_reducible exact zad (ho2.out _)))|(go_at_call 125;(with_reducible exact zad (HL.out _)))|(go_at_call 125;(with_reducible exact zad (HM.out _)))|(go_at_call 125;(with_reducible exact zad (HN.out _)))|(go_at_call 125;(with_reducible exact zad (HO.out _)))))));refine wpQuiet_nil ?_;rintro _ ⟨u,rfl⟩))
  refine bodyPost_ret (by (simp[results,Tryz.results66,go_sem]<;>rfl)) rfl ?_
  exact ⟨zn1 (by rw[←Hf.out,Hpx.out];have:=Hr.out;simp;try (unfold wrap64);omega) (by rw[←Hf.out,Hpy.out];have:=Hr.out;simp;try (unfold wrap64);omega) (by rw[←Hf.out]),gw⟩
 all_goals
  have Hf:=Lib.hid (show errR 4=fitR x y by rw[hfit];simp only[*];rfl)
  clear hfit
  have C:=Lib.hid (And.intro trivial trivial)
  have HL:=Lib.hid (fun w=>zaI x (-9223372036854775807) Hx.out hm1.out w)
  have HM:=Lib.hid (fun w=>zaI 9223372036854775807 x hm2.out Hx.out w)
  have HN:=Lib.hid (fun w=>zaI y (-9223372036854775807) Hy.out hm1.out w)
  have HO:=Lib.hid (fun w=>zaI 9223372036854775807 y hm2.out Hy.out w)
  simp only[*] at HL HM HN HO
  go_enter Tryz.func66,Tryz.ntmps66
  go_wp2_with (first|(go_at_call 126;(with_reducible refine zaa (ho1.out _) ?_);intro u)|(go_at_call 126;(with_reducible refine zaa (ho2.out _) ?_);intro u)|(go_at_call 125;(with_reducible refine zaa (HL.out _) ?_);intro u)|(go_at_call 125;(with_reducible refine zaa (HM.out _) ?_);intro u)|(go_at_call 125;(with_reducible refine zaa (HN.out _) ?_);intro u)|(go_at_call 125;(with_reducible refine zaa (HO.out _) ?_);intro u)|((with_reducible refine zac ?_ ?_ ?_);(· kernel_rfl);(· kernel_rfl);(try simp only[List.append_eq,List.cons_append,List.nil_append]);(repeat (go_big_quiet_step ((first|(go_at_call 126;(with_reducible exact zad (ho1.out _)))|(go_at_call 126;(with_reducible exact zad (ho2.out _)))|(go_at_call 125;(with_reducible exact zad (HL.out _)))|(go_at_call 125;(with_reducible exact zad (HM.out _)))|(go_at_call 125;(with_reducible exact zad (HN.out _)))|(go_at_call 125;(with_reducible exact zad (HO.out _)))))));refine wpQuiet_nil ?_;rintro _ ⟨u,rfl⟩))
  refine bodyPost_ret (by (simp[results,Tryz.results66,go_sem]<;>rfl)) rfl ?_
  exact ⟨zaJ Hf.out rfl,gw⟩
theorem zbR (a b:Sp) (hk:(a.okB&&b.okB)=true) (w:World):Calls Tryz.prog 65 #[.agg #[.int .i64 a.lo,.int .i64 a.hi],.agg #[.int .i64 b.lo,.int .i64 b.hi]] w fun e w'=>e=.returned (.int .i64 0)∧Grew w w':=zaH (by rw[hk];rfl) (ziE a b w)
theorem zc9 (a b:Sp) (hk:(a.okB&&b.okB)=false) (w:World):Calls Tryz.prog 65 #[.agg #[.int .i64 a.lo,.int .i64 a.hi],.agg #[.int .i64 b.lo,.int .i64 b.hi]] w fun e w'=>e=.returned (.int .i64 2)∧Grew w w':=zaH (by rw[hk];rfl) (ziE a b w)
theorem zbK (a:Sp) (hk:a.okB=true) (w:World):Calls Tryz.prog 87 #[.agg #[.int .i64 a.lo,.int .i64 a.hi]] w fun e w'=>e=.returned (.int .i64 0)∧Grew w w':=zaH (by rw[hk];rfl) (zbe a w)
theorem zdU (a:Sp) (hk:a.okB=false) (w:World):Calls Tryz.prog 87 #[.agg #[.int .i64 a.lo,.int .i64 a.hi]] w fun e w'=>e=.returned (.int .i64 2)∧Grew w w':=zaH (by rw[hk];rfl) (zbe a w)
theorem zhH {a:Int} (h:I64 a):R128 a:=by unfold I64 at h;unfold R128;omega
theorem zhI {a b:Int} (h:I64 a) (k:I64 b):R128 (a+b):=by unfold I64 at h k;unfold R128;omega
theorem zkh {a:Int} (h:I64 a):R128 (-a):=by unfold I64 at h;unfold R128;omega
theorem zrJ (n:Int) [h:N64 n] (w:World):Calls Tryz.prog 68 #[.int .i64 n] w fun e w'=>e=.returned (.agg #[.int .i64 (mkW n).h,.int .u64 (mkW n).l])∧Grew w w':=zeW n h.is w
theorem zro (a b:Int) [ha:N64 a] [hb:N64 b] (w:World):Calls Tryz.prog 67 #[.agg #[.int .i64 (mkW a).h,.int .u64 (mkW a).l],.agg #[.int .i64 (mkW b).h,.int .u64 (mkW b).l]] w fun e w'=>e=.returned (.agg #[.int .i64 (mkW (a+b)).h,.int .u64 (mkW (a+b)).l])∧Grew w w':=zcl a b (zhH ha.is) (zhH hb.is) (zhI ha.is hb.is) w
theorem zqn (a b c d:Int) [ha:N64 a] [hb:N64 b] [hc:N64 c] [hd:N64 d] (w:World):Calls Tryz.prog 66 #[.agg #[.int .i64 (mkW (a+b)).h,.int .u64 (mkW (a+b)).l],.agg #[.int .i64 (mkW (c+d)).h,.int .u64 (mkW (c+d)).l]] w fun e w'=>e=.returned (.tuple #[.agg #[.int .i64 (fitR (a+b) (c+d)).s.lo,.int .i64 (fitR (a+b) (c+d)).s.hi],.int .i64 (fitR (a+b) (c+d)).e])∧Grew w w':=zhL _ _ (zhI ha.is hb.is) (zhI hc.is hd.is) w
theorem zc8 (a b:Sp) [ha:S64 a] [hb:S64 b] (w:World):Calls Tryz.prog 33 #[.agg #[.int .i64 a.lo,.int .i64 a.hi],.agg #[.int .i64 b.lo,.int .i64 b.hi]] w fun e w'=>e=.returned (.tuple #[.agg #[.int .i64 (addR a b).s.lo,.int .i64 (addR a b).s.hi],.int .i64 (addR a b).e])∧Grew w w':=by
 cases hk:(a.okB&&b.okB)
 ·have Hf:=Lib.hid (show errR 2=addR a b by unfold addR;rw[hk];rfl)
  go_enter Tryz.func33,Tryz.ntmps33
  go_wp2_with (first|(go_at_call 65;(with_reducible refine zaa (zc9 a b hk _) ?_);intro u)|((with_reducible refine zac ?_ ?_ ?_);(· kernel_rfl);(· kernel_rfl);(try simp only[List.append_eq,List.cons_append,List.nil_append]);(repeat (go_big_quiet_step ((first|(go_at_call 65;(with_reducible exact zad (zc9 a b hk _)))))));refine wpQuiet_nil ?_;rintro _ ⟨u,rfl⟩))
  refine bodyPost_ret (by (simp[results,Tryz.results33,go_sem]<;>rfl)) rfl ?_
  exact ⟨zaJ Hf.out rfl,gw⟩
 ·have Hf:=Lib.hid (show fitR (a.lo+b.lo) (a.hi+b.hi)=addR a b by unfold addR;rw[hk];rfl)
  go_enter Tryz.func33,Tryz.ntmps33
  go_wp2_with (first|(go_at_call 65;(with_reducible refine zaa (zbR a b hk _) ?_);intro u)|((with_reducible refine zac ?_ ?_ ?_);(· kernel_rfl);(· kernel_rfl);(try simp only[List.append_eq,List.cons_append,List.nil_append]);(repeat (go_big_quiet_step ((first|(go_at_call 65;(with_reducible exact zad (zbR a b hk _)))))));refine wpQuiet_nil ?_;rintro _ ⟨u,rfl⟩))
  go_region_held3 (fun w'=>w'.cell? ⟨w.heap.size,0,none⟩=some (.int .i64 a.lo)∧w'.cell? ⟨w.heap.size,1,none⟩=some (.int .i64 a.hi)∧w'.cell? ⟨w.heap.size+1,0,none⟩=some (.int .i64 b.lo)∧w'.cell? ⟨w.heap.size+1,1,none⟩=some (.int .i64 b.hi)) (first|exact ⟨(by go_simp),(by go_simp),(by go_simp),(by go_simp)⟩) (first|(go_at_call 68;refine zaa (zrJ _ _) ?_;intro u)|(go_at_call 67;refine zaa (zro _ _ _) ?_;intro u)|(go_at_call 66;refine zaa (zqn _ _ _ _ _) ?_;intro u))
  go_wp2
  refine bodyPost_ret (by (simp[results,Tryz.results33,go_sem]<;>rfl)) rfl ?_
  exact ⟨zaS (by rw[←Hf.out]),gw⟩
theorem zfI (a:Sp) [ha:S64 a] (w:World):Calls Tryz.prog 59 #[.agg #[.int .i64 a.lo,.int .i64 a.hi]] w fun e w'=>e=.returned (.tuple #[.agg #[.int .i64 (negR a).s.lo,.int .i64 (negR a).s.hi],.int .i64 (negR a).e])∧Grew w w':=by
 cases hk:a.okB
 ·have Hf:=Lib.hid (show errR 2=negR a by unfold negR;rw[hk];rfl)
  go_enter Tryz.func59,Tryz.ntmps59
  go_wp2_with (first|(go_at_call 87;(with_reducible refine zaa (zdU a hk _) ?_);intro u))
  refine bodyPost_ret (by (simp[results,Tryz.results59,go_sem]<;>rfl)) rfl ?_
  exact ⟨zaJ Hf.out rfl,gw⟩
 ·have Hf:=Lib.hid (show (⟨⟨-a.hi,-a.lo⟩,0⟩:Res)=negR a by unfold negR;rw[hk];rfl)
  have h1:=zbZ hk
  have h2:=ha.lo.2
  have h3:=ha.hi.2
  go_enter Tryz.func59,Tryz.ntmps59
  go_wp2_with (first|(go_at_call 87;(with_reducible refine zaa (zbK a hk _) ?_);intro u))
  refine bodyPost_ret (by (simp[results,Tryz.results59,go_sem]<;>rfl)) rfl ?_
  exact ⟨zaS (by rw[←Hf.out]),gw⟩
theorem znY (a b:Sp) [ha:S64 a] [hb:S64 b] (w:World):Calls Tryz.prog 31 #[.agg #[.int .i64 a.lo,.int .i64 a.hi],.agg #[.int .i64 b.lo,.int .i64 b.hi]] w fun e w'=>e=.returned (.tuple #[.agg #[.int .i64 (subR a b).s.lo,.int .i64 (subR a b).s.hi],.int .i64 (subR a b).e])∧Grew w w':=by
 cases hk:b.okB
 ·have Hf:=Lib.hid (show errR 2=subR a b by unfold subR;rw[hk];rfl)
  have Hn:=Lib.hid (show negR b=errR 2 by unfold negR;rw[hk];rfl)
  go_enter Tryz.func31,Tryz.ntmps31
  go_wp2_with (first|(go_at_call 59;(with_reducible refine zaa (zeh Hn.out (zfI b _)) ?_);intro u))
  refine bodyPost_ret (by (simp[results,Tryz.results31,go_sem]<;>rfl)) rfl ?_
  exact ⟨zaJ Hf.out rfl,gw⟩
 ·have Hf:=Lib.hid (show addR a (negS b)=subR a b by unfold subR;rw[hk];rfl)
  have Hn:=Lib.hid (show negR b=⟨negS b,0⟩ by unfold negR;rw[hk];rfl)
  have hn:=zhP hk
  go_enter Tryz.func31,Tryz.ntmps31
  go_wp2_with (first|(go_at_call 59;(with_reducible refine zaa (zeh Hn.out (zfI b _)) ?_);intro u)|(go_at_call 33;(with_reducible refine zaa (zc8 a (negS b) _) ?_);intro u))
  refine bodyPost_ret (by (simp[results,Tryz.results31,go_sem]<;>rfl)) rfl ?_
  exact ⟨zaS (by rw[←Hf.out]),gw⟩
theorem zki (a:Sp) [ha:S64 a] (w:World):Calls Tryz.prog 193 #[.agg #[.int .i64 a.lo,.int .i64 a.hi]] w fun e w'=>e=.returned (.tuple #[.agg #[.int .i64 (absR a).s.lo,.int .i64 (absR a).s.hi],.int .i64 (absR a).e])∧Grew w w':=by
 cases hk:a.okB
 ·have Hf:=Lib.hid (show errR 2=absR a by unfold absR;rw[hk];rfl)
  go_enter Tryz.func193,Tryz.ntmps193
  go_wp2_with (first|(go_at_call 87;(with_reducible refine zaa (zdU a hk _) ?_);intro u))
  refine bodyPost_ret (by (simp[results,Tryz.results193,go_sem]<;>rfl)) rfl ?_
  exact ⟨zaJ Hf.out rfl,gw⟩
 ·have hf:absR a=⟨absS a,0⟩:=by unfold absR;rw[hk];rfl
  have h1:=zbZ hk
  have h2:=ha.lo.2
  have h3:=ha.hi.2
  have Hn:=Lib.hid (show negR a=⟨negS a,0⟩ by unfold negR;rw[hk];rfl)
  by_cases c1:0≤a.lo
  ·have Hf:=Lib.hid (show (⟨⟨a.lo,a.hi⟩,0⟩:Res)=absR a by rw[hf];unfold absS;rw[if_pos c1])
   clear hf
   go_enter Tryz.func193,Tryz.ntmps193
   go_wp2_with (first|(go_at_call 87;(with_reducible refine zaa (zbK a hk _) ?_);intro u))
   refine bodyPost_ret (by (simp[results,Tryz.results193,go_sem]<;>rfl)) rfl ?_
   exact ⟨zaS Hf.out,gw⟩
  ·by_cases c2:a.hi≤0
   ·have Hf:=Lib.hid (show (⟨negS a,0⟩:Res)=absR a by rw[hf];unfold absS;rw[if_neg c1,if_pos c2])
    clear hf
    go_enter Tryz.func193,Tryz.ntmps193
    go_wp2_with (first|(go_at_call 87;(with_reducible refine zaa (zbK a hk _) ?_);intro u)|(go_at_call 59;(with_reducible refine zaa (zeh Hn.out (zfI a _)) ?_);intro u))
    refine bodyPost_ret (by (simp[results,Tryz.results193,go_sem]<;>rfl)) rfl ?_
    exact ⟨zaS Hf.out,gw⟩
   ·have Hf:=Lib.hid (show (⟨⟨0,imax (-a.lo) a.hi⟩,0⟩:Res)=absR a by rw[hf];unfold absS;rw[if_neg c1,if_neg c2])
    clear hf
    go_enter Tryz.func193,Tryz.ntmps193
    go_wp2_with (first|(go_at_call 87;(with_reducible refine zaa (zbK a hk _) ?_);intro u))
    all_goals
     refine bodyPost_ret (by (simp[results,Tryz.results193,go_sem]<;>rfl)) rfl ?_
     exact ⟨zaS (by rw[←Hf.out];unfold imax;first|rw[if_pos (by omega)]|rw[if_neg (by omega)]),gw⟩
theorem zgm (a b:Sp) (w:World):Calls Tryz.prog 184 #[.agg #[.int .i64 a.lo,.int .i64 a.hi],.agg #[.int .i64 b.lo,.int .i64 b.hi]] w fun e w'=>e=.returned (.tuple #[.agg #[.int .i64 (zaG a b).s.lo,.int .i64 (zaG a b).s.hi],.int .i64 (zaG a b).e])∧Grew w w':=by
 cases hk:(a.okB&&b.okB)
 ·have Hf:=Lib.hid (show errR 2=zaG a b by unfold zaG;rw[hk];rfl)
  go_enter Tryz.func184,Tryz.ntmps184
  go_wp2_with (first|(go_at_call 65;(with_reducible refine zaa (zc9 a b hk _) ?_);intro u))
  refine bodyPost_ret (by (simp[results,Tryz.results184,go_sem]<;>rfl)) rfl ?_
  exact ⟨zaJ Hf.out rfl,gw⟩
 ·have Hf:=Lib.hid (show (if (zde a b).hi<(zde a b).lo then errR 7 else ⟨zde a b,0⟩)=zaG a b by unfold zaG;rw[hk];rfl)
  go_enter Tryz.func184,Tryz.ntmps184
  go_wp2_with (first|(go_at_call 65;(with_reducible refine zaa (zbR a b hk _) ?_);intro u))
  all_goals
   refine bodyPost_ret (by (simp[results,Tryz.results184,go_sem]<;>rfl)) rfl ?_
   first
   |exact ⟨zaJ (by rw[←Hf.out];unfold zde imin imax;simp only[];rw[if_pos (by (repeat' split)<;>omega)]) rfl,gw⟩
   |exact ⟨zaS (by rw[←Hf.out];unfold zde imin imax;simp only[];rw[if_neg (by (repeat' split)<;>omega)];congr 2<;>(repeat' split)<;>omega),gw⟩
end Go.Proofs.YtdkfkalplmgoeaaGreat
namespace Go.Proofs.YtdkfkalplmgoeaaGreat
open Go.RowKit
set_option maxRecDepth 100000
set_option maxHeartbeats 2000000
def zmr (p:Int × Int):List Value:=[.int .i64 p.1,.int .i64 p.2]
def zaN (a b:Sp):List (Int × Int):=[(a.lo,b.lo),(a.lo,b.hi),(a.hi,b.lo),(a.hi,b.hi)]
def LAt (w:World) (b1:Nat) (a b:Sp):Prop:=∀ i x,((zaN a b).flatMap zmr)[i]?=some x→w.cell? ⟨b1,i,none⟩=some x
theorem LAt.elem {w:World} {b1:Nat} {a b:Sp} (h:LAt w b1 a b) (k:Nat) (hk:k<4):w.cell? ⟨b1,k*2,none⟩=some (.int .i64 ((zaN a b)[k]?.getD (0,0)).1)∧w.cell? ⟨b1,k*2+1,none⟩=some (.int .i64 ((zaN a b)[k]?.getD (0,0)).2):=by
 match k,hk with
 |0,_=>exact ⟨h 0 _ rfl,h 1 _ rfl⟩
 |1,_=>exact ⟨h 2 _ rfl,h 3 _ rfl⟩
 |2,_=>exact ⟨h 4 _ rfl,h 5 _ rfl⟩
 |3,_=>exact ⟨h 6 _ rfl,h 7 _ rfl⟩
def zp2 (a b:Sp) (w:World) (e:Ending) (w':World):Prop:=∃ b1,e=.returned (.slice (some ⟨b1,0,none⟩) 4 4)∧w.heap.size≤b1∧LAt w' b1 a b∧Grew w w'
theorem zfr (a b:Sp) (w:World):Calls Tryz.prog 162 #[.agg #[.int .i64 a.lo,.int .i64 a.hi],.agg #[.int .i64 b.lo,.int .i64 b.hi]] w (zp2 a b w):=by
 go_enter Tryz.func162,Tryz.ntmps162
 go_wp2
 go_ret
 exact ⟨_,rfl,by omega,fun i x hx=>by
  obtain ⟨ao,cap,e,-,h⟩:=SlAt.fresh (w:=(w.alloc (.cells #[.int .i64 a.lo,.int .i64 a.hi] 24)).alloc (.cells #[.int .i64 b.lo,.int .i64 b.hi] 24)) ((zaN a b).flatMap zmr) 204 4 4 (by simp[maxLen])
  cases e
  obtain ⟨b',off,e,hc⟩:=h i x hx
  cases e
  rw[Nat.zero_add] at hc
  exact hc,gw⟩
def loK (f:Nat→Int):Nat→Int
 |0=>0
 |k+1=>if k=0 then f 0 else if f k<loK f k then f k else loK f k
def hiK (f:Nat→Int):Nat→Int
 |0=>0
 |k+1=>if k=0 then f 0 else if hiK f k<f k then f k else hiK f k
theorem zqg (f:Nat→Int):loK f 4=min4 (f 0) (f 1) (f 2) (f 3):=by
 rfl
theorem zqe (f:Nat→Int):hiK f 4=max4 (f 0) (f 1) (f 2) (f 3):=by
 rfl
theorem zl7 (f:Nat→Int) (M:Int) (hM:0≤M) (hf:∀ k,-M≤f k∧f k≤M):∀ k,-M≤loK f k∧loK f k≤M
 |0=>by unfold loK;omega
 |k+1=>by
  unfold loK
  split
  ·exact hf 0
  ·split
   ·exact hf k
   ·exact zl7 f M hM hf k
theorem zlW (f:Nat→Int) (M:Int) (hM:0≤M) (hf:∀ k,-M≤f k∧f k≤M):∀ k,-M≤hiK f k∧hiK f k≤M
 |0=>by unfold hiK;omega
 |k+1=>by
  unfold hiK
  split
  ·exact hf 0
  ·split
   ·exact hf k
   ·exact zlW f M hM hf k
theorem zj7 (f:Nat→Int) (k:Nat) (hk:k≠0):loK f (k+1)=if decide (f k<loK f k) then f k else loK f k:=by rw[loK,if_neg hk];simp
theorem zj3 (f:Nat→Int) (k:Nat) (hk:k≠0):hiK f (k+1)=if decide (hiK f k<f k) then f k else hiK f k:=by rw[hiK,if_neg hk];simp
def zbM (a b:Sp) (k:Nat):Int:=((zaN a b)[k]?.getD (0,0)).1*((zaN a b)[k]?.getD (0,0)).2
theorem zc6 (a b:Sp) [ha:S64 a] [hb:S64 b] (k:Nat):I64 ((zaN a b)[k]?.getD (0,0)).1∧I64 ((zaN a b)[k]?.getD (0,0)).2:=by
 have h0:I64 0:=by unfold I64;omega
 unfold zaN
 match k with
 |0=>exact ⟨ha.lo,hb.lo⟩
 |1=>exact ⟨ha.lo,hb.hi⟩
 |2=>exact ⟨ha.hi,hb.lo⟩
 |3=>exact ⟨ha.hi,hb.hi⟩
 |k+4=>exact ⟨h0,h0⟩
theorem zpu {a b:Int} (ha:I64 a) (hb:I64 b):-85070591730234615865843651857942052864≤a*b∧a*b≤85070591730234615865843651857942052864:=by
 have h:(a*b).natAbs≤9223372036854775808*9223372036854775808:=by
  rw[Int.natAbs_mul]
  unfold I64 at ha hb
  exact Nat.mul_le_mul (by omega) (by omega)
 omega
theorem zhF (a b:Sp) [ha:S64 a] [hb:S64 b] (k:Nat):-85070591730234615865843651857942052864≤zbM a b k∧zbM a b k≤85070591730234615865843651857942052864:=by
 have h:=zc6 a b k
 exact zpu h.1 h.2
theorem zdT {x:Int} (h:-85070591730234615865843651857942052864≤x∧x≤85070591730234615865843651857942052864):R128 x:=by unfold R128;omega
def znO (a b:Sp) (B6 B7:Nat) (w:World) (k:Nat) (wr:World):Prop:=Grew w wr∧zan wr (w.heap.size+1+1) [.int .i64 0,.int .i64 0]∧zan wr B6 [.int .i64 (mkW (loK (zbM a b) k)).h,.int .u64 (mkW (loK (zbM a b) k)).l]∧zan wr B7 [.int .i64 (mkW (hiK (zbM a b) k)).h,.int .u64 (mkW (hiK (zbM a b) k)).l]
theorem zeL (a b:Sp) [ha:S64 a] [hb:S64 b] (w:World):Calls Tryz.prog 110 #[.agg #[.int .i64 a.lo,.int .i64 a.hi],.agg #[.int .i64 b.lo,.int .i64 b.hi]] w fun e w'=>e=.returned (.tuple #[.agg #[.int .i64 (mulR a b).s.lo,.int .i64 (mulR a b).s.hi],.int .i64 (mulR a b).e])∧Grew w w':=by
 cases hk:(a.okB&&b.okB)
 ·have Hf:=Lib.hid (show errR 2=mulR a b by unfold mulR;rw[hk];rfl)
  go_enter Tryz.func110,Tryz.ntmps110
  go_wp2_with (first|(go_at_call 65;(with_reducible refine zaa (zc9 a b hk _) ?_);intro u)|((with_reducible refine zac ?_ ?_ ?_);(· kernel_rfl);(· kernel_rfl);(try simp only[List.append_eq,List.cons_append,List.nil_append]);(repeat (go_big_quiet_step ((first|(go_at_call 65;(with_reducible exact zad (zc9 a b hk _)))))));refine wpQuiet_nil ?_;rintro _ ⟨u,rfl⟩))
  refine bodyPost_ret (by (simp[results,Tryz.results110,go_sem]<;>rfl)) rfl ?_
  exact ⟨zaJ Hf.out rfl,gw⟩
 ·have Hf:=Lib.hid (show fitR (loK (zbM a b) 4/4294967296) (-(-(hiK (zbM a b) 4)/4294967296))=mulR a b by unfold mulR;rw[hk,zqg,zqe];rfl)
  have Hle:=Lib.hid (fun k=>zhF a b k)
  have Hlo:=Lib.hid (fun k=>zl7 (zbM a b) 85070591730234615865843651857942052864 (by omega) (fun k=>zhF a b k) k)
  have Hhi:=Lib.hid (fun k=>zlW (zbM a b) 85070591730234615865843651857942052864 (by omega) (fun k=>zhF a b k) k)
  go_enter Tryz.func110,Tryz.ntmps110
  go_wp2_with (first|(go_at_call 65;(with_reducible refine zaa (zbR a b hk _) ?_);intro u)|((with_reducible refine zac ?_ ?_ ?_);(· kernel_rfl);(· kernel_rfl);(try simp only[List.append_eq,List.cons_append,List.nil_append]);(repeat (go_big_quiet_step ((first|(go_at_call 65;(with_reducible exact zad (zbR a b hk _)))))));refine wpQuiet_nil ?_;rintro _ ⟨u,rfl⟩))
  go_wp2_with fail
  refine (zfr a b _).mono ?_
  rintro e w' ⟨b1,rfl,hb1,hL,hg⟩
  simp only[World.size_alloc] at hb1
  obtain ⟨u2,rfl⟩:=zaj hg
  clear hg
  have HL:=Lib.hid hL
  clear hL
  have ap1:Apart b1 u.world.heap.size:=⟨by omega⟩
  have ap2:Apart b1 (u.world.heap.size+1):=⟨by omega⟩
  have ap3:Apart (u.world.heap.size+1) u.world.heap.size:=⟨by omega⟩
  have ap4:Apart u.world.heap.size (u.world.heap.size+1):=⟨by omega⟩
  have nu:w.heap.size+1+1+1≤u.world.heap.size:=by have:=u.grew.size;simpa using this
  have:Apart (w.heap.size+1+1) (u.world.heap.size):=⟨by omega⟩
  have:Apart (w.heap.size+1+1) (u.world.heap.size+1):=⟨by omega⟩
  have:Apart (u.world.heap.size) (w.heap.size+1+1):=⟨by omega⟩
  have:Apart (u.world.heap.size+1) (w.heap.size+1+1):=⟨by omega⟩
  have nw6:NewFor w u.world.heap.size:=⟨by have:=u.grew.size;simp at this;omega⟩
  have nw7:NewFor w (u.world.heap.size+1):=⟨by have:=u.grew.size;simp at this;omega⟩
  clear hb1
  go_wp2
  go_loopw [9] (fun t wr=>∃ k:Nat,t=.int .i64 k∧k≤4∧znO a b u.world.heap.size (u.world.heap.size+1) w k wr∧LAt wr b1 a b) (fun t _=>4-(intOf t).toNat)
  case atStart=>exact ⟨0,rfl,by omega,⟨gw,bxt,zdK (by go_simp;rfl) (by go_simp) (by go_simp;rfl) (by go_simp),zdK (by go_simp;rfl) (by go_simp) (by go_simp;rfl) (by go_simp)⟩,HL.out⟩
  case round=>
   obtain ⟨k,rfl,hk,⟨hg,hC,hA,hB⟩,hL⟩:=hrel
   obtain ⟨z,rfl⟩:=zaj hg
   clear hg
   by_cases hlt:k<4
   ·obtain ⟨hc1,hc2⟩:=hL.elem k hlt
    have ib:BlockIn z.world b1:=BlockIn.of_cell hc1
    have HL:=Lib.hid hL
    clear hL
    have hC_0:=(hC 0 _ rfl).1
    have hCf0:=(hC 0 _ rfl).2
    have hCi0:HasCell (z.world) (w.heap.size+1+1) 0:=⟨_,hC_0⟩
    have hC_1:=(hC 1 _ rfl).1
    have hCf1:=(hC 1 _ rfl).2
    have hCi1:HasCell (z.world) (w.heap.size+1+1) 1:=⟨_,hC_1⟩
    have hCb:BlockIn (z.world) (w.heap.size+1+1):=BlockIn.of_cell hC_0
    clear hC
    have hA_0:=(hA 0 _ rfl).1
    have hAf0:=(hA 0 _ rfl).2
    have hAi0:HasCell (z.world) (u.world.heap.size) 0:=⟨_,hA_0⟩
    have hA_1:=(hA 1 _ rfl).1
    have hAf1:=(hA 1 _ rfl).2
    have hAi1:HasCell (z.world) (u.world.heap.size) 1:=⟨_,hA_1⟩
    have hAb:BlockIn (z.world) (u.world.heap.size):=BlockIn.of_cell hA_0
    clear hA
    have hB_0:=(hB 0 _ rfl).1
    have hBf0:=(hB 0 _ rfl).2
    have hBi0:HasCell (z.world) (u.world.heap.size+1) 0:=⟨_,hB_0⟩
    have hB_1:=(hB 1 _ rfl).1
    have hBf1:=(hB 1 _ rfl).2
    have hBi1:HasCell (z.world) (u.world.heap.size+1) 1:=⟨_,hB_1⟩
    have hBb:BlockIn (z.world) (u.world.heap.size+1):=BlockIn.of_cell hB_0
    clear hB
    obtain ⟨hi1,hi2⟩:=zc6 a b k
    have Hi1:=Lib.hid hi1
    have Hi2:=Lib.hid hi2
    have hp:((zaN a b)[k]?.getD (0,0)).1*((zaN a b)[k]?.getD (0,0)).2=zbM a b k:=rfl
    have hT:=fun w=>zcP _ _ hi1 hi2 w
    rw[hp] at hT
    have HT:=Lib.hid hT
    clear hi1 hi2 hp hT
    generalize ((zaN a b)[k]?.getD (0,0)).1=x at *
    generalize ((zaN a b)[k]?.getD (0,0)).2=y at *
    have Hpr:=Lib.hid (zdT (Hle.out k))
    have Hlr:=Lib.hid (zdT (Hlo.out k))
    have Hhr:=Lib.hid (zdT (Hhi.out k))
    rcases za3 ((k:Int)==0) with k0|k0
    ·have hk0:k≠0:=by simpa using k0
     have Hs1:=Lib.hid (zj7 (zbM a b) k hk0)
     have Hs2:=Lib.hid (zj3 (zbM a b) k hk0)
     clear hk0
     rcases za3 (decide (zbM a b k<loK (zbM a b) k)) with c1|c1<;>rcases za3 (decide (hiK (zbM a b) k<zbM a b k)) with c2|c2
     all_goals
      have C1:=Lib.hid c1
      have C2:=Lib.hid c2
      clear c1 c2
      have HL1:=Lib.hid (fun w=>zax C1.out (zaI (zbM a b k) (loK (zbM a b) k) Hpr.out Hlr.out w))
      have HL2:=Lib.hid (fun w=>zax C2.out (zaI (hiK (zbM a b) k) (zbM a b k) Hhr.out Hpr.out w))
      have Hs1':=Lib.hid (show loK (zbM a b) (k+1)=_ from Hs1.out)
      have Hs2':=Lib.hid (show hiK (zbM a b) (k+1)=_ from Hs2.out)
      rw[C1.out] at Hs1'
      rw[C2.out] at Hs2'
      clear Hs1 Hs2
      go_wp2
      refine zay 12 [11] [10] [] (fun W0=>[(11,BoxR W0 [.int .i64 0,.int .u64 0])]) [.agg #[.int .i64 ((mkW (zbM a b k))).h,.int .u64 ((mkW (zbM a b k))).l]] [12] (by rfl) (by intro W0 x hx;simp only[List.mem_cons,List.not_mem_nil,or_false] at hx;rcases hx with rfl;exact zbW _ _) (by kernel_rfl) (by kernel_rfl) (by kernel_rfl) ?_
      intro p
      apply Exists.intro
      apply And.intro
      iterate 10 (apply zap (by kernel_rfl);(· intro u;unfold zae;go_simp;rfl))
      apply zaA 0 (by kernel_rfl) (by rfl) (by decide)
      ·intro u hF;clear hF;unfold zaw;go_simp;exact HT.out _
      apply zce (by kernel_rfl)
      ·intro u hF;clear hF;unfold za6;go_simp;exact zbX _ _ _ _
      apply zbi
      rotate_left
      ·rfl
      intro u hR hD
      obtain ⟨q11,e11,hB11,kB11,nB11⟩:=(show BoxR _ [.int .i64 0,.int .u64 0] (p 11) u.world from hR 11 (by decide))
      clear hR hD
      rw[e11]
      clear e11
      have oB11:=zaO nB11
      have oC11:=zaP nB11
      have nC11:NewFor z.world q11:=⟨Nat.le_trans (Grew.size gw) nB11.le⟩
      have hB11_0:=(hB11 0 _ rfl).1
      have hB11f0:=(hB11 0 _ rfl).2
      have hB11i0:HasCell (u.world) (q11) 0:=⟨_,hB11_0⟩
      have hB11_1:=(hB11 1 _ rfl).1
      have hB11f1:=(hB11 1 _ rfl).2
      have hB11i1:HasCell (u.world) (q11) 1:=⟨_,hB11_1⟩
      have hB11b:BlockIn (u.world) (q11):=BlockIn.of_cell hB11_0
      clear hB11
      refine zak (by rfl) ?_;unfold zav;go_simp
      refine zau ?_
      have nw11:NewFor w q11:=⟨Nat.le_trans (Grew.size z.grew) nC11.le⟩
      go_wp2_with (first|(go_at_call 125;(with_reducible refine zaa (HL1.out _) ?_);intro u)|(go_at_call 125;(with_reducible refine zaa (HL2.out _) ?_);intro u)|((with_reducible refine zac ?_ ?_ ?_);(· kernel_rfl);(· kernel_rfl);(try simp only[List.append_eq,List.cons_append,List.nil_append]);(repeat (go_big_quiet_step ((first|(go_at_call 125;(with_reducible exact zad (HL1.out _)))|(go_at_call 125;(with_reducible exact zad (HL2.out _)))))));refine wpQuiet_nil ?_;rintro _ ⟨u,rfl⟩))
      go_roundw
      case rel=>
       refine ⟨k+1,by go_num,by omega,⟨gw,bxt,?_,?_⟩,fun i x hx=>by have h1:=HL.out i x hx;go_simp⟩
       ·rw[Hs1'.out]
        exact bxt
       ·rw[Hs2'.out]
        exact bxt
      case measure=>simp[intOf];omega
    ·have hk0:k=0:=by simpa using k0
     have Hs1:=Lib.hid (show loK (zbM a b) (k+1)=zbM a b k by rw[hk0];rfl)
     have Hs2:=Lib.hid (show hiK (zbM a b) (k+1)=zbM a b k by rw[hk0];rfl)
     clear hk0
     go_wp2
     refine zay 12 [11] [10] [] (fun W0=>[(11,BoxR W0 [.int .i64 0,.int .u64 0])]) [.agg #[.int .i64 ((mkW (zbM a b k))).h,.int .u64 ((mkW (zbM a b k))).l]] [12] (by rfl) (by intro W0 x hx;simp only[List.mem_cons,List.not_mem_nil,or_false] at hx;rcases hx with rfl;exact zbW _ _) (by kernel_rfl) (by kernel_rfl) (by kernel_rfl) ?_
     intro p
     apply Exists.intro
     apply And.intro
     iterate 10 (apply zap (by kernel_rfl);(· intro u;unfold zae;go_simp;rfl))
     apply zaA 0 (by kernel_rfl) (by rfl) (by decide)
     ·intro u hF;clear hF;unfold zaw;go_simp;exact HT.out _
     apply zce (by kernel_rfl)
     ·intro u hF;clear hF;unfold za6;go_simp;exact zbX _ _ _ _
     apply zbi
     rotate_left
     ·rfl
     intro u hR hD
     obtain ⟨q11,e11,hB11,kB11,nB11⟩:=(show BoxR _ [.int .i64 0,.int .u64 0] (p 11) u.world from hR 11 (by decide))
     clear hR hD
     rw[e11]
     clear e11
     have oB11:=zaO nB11
     have oC11:=zaP nB11
     have nC11:NewFor z.world q11:=⟨Nat.le_trans (Grew.size gw) nB11.le⟩
     have hB11_0:=(hB11 0 _ rfl).1
     have hB11f0:=(hB11 0 _ rfl).2
     have hB11i0:HasCell (u.world) (q11) 0:=⟨_,hB11_0⟩
     have hB11_1:=(hB11 1 _ rfl).1
     have hB11f1:=(hB11 1 _ rfl).2
     have hB11i1:HasCell (u.world) (q11) 1:=⟨_,hB11_1⟩
     have hB11b:BlockIn (u.world) (q11):=BlockIn.of_cell hB11_0
     clear hB11
     refine zak (by rfl) ?_;unfold zav;go_simp
     refine zau ?_
     have nw11:NewFor w q11:=⟨Nat.le_trans (Grew.size z.grew) nC11.le⟩
     go_wp2
     go_roundw
     case rel=>
      refine ⟨k+1,by go_num,by omega,⟨gw,bxt,?_,?_⟩,fun i x hx=>by have h1:=HL.out i x hx;go_simp⟩
      ·rw[Hs1.out]
       exact bxt
      ·rw[Hs2.out]
       exact bxt
     case measure=>simp[intOf];omega
   ·obtain rfl:k=4:=by omega
    rw[show ((4:Nat):Int)=4 from rfl]
    clear hL HL
    have hC_0:=(hC 0 _ rfl).1
    have hCf0:=(hC 0 _ rfl).2
    have hCi0:HasCell (z.world) (w.heap.size+1+1) 0:=⟨_,hC_0⟩
    have hC_1:=(hC 1 _ rfl).1
    have hCf1:=(hC 1 _ rfl).2
    have hCi1:HasCell (z.world) (w.heap.size+1+1) 1:=⟨_,hC_1⟩
    have hCb:BlockIn (z.world) (w.heap.size+1+1):=BlockIn.of_cell hC_0
    clear hC
    have hA_0:=(hA 0 _ rfl).1
    have hAf0:=(hA 0 _ rfl).2
    have hAi0:HasCell (z.world) (u.world.heap.size) 0:=⟨_,hA_0⟩
    have hA_1:=(hA 1 _ rfl).1
    have hAf1:=(hA 1 _ rfl).2
    have hAi1:HasCell (z.world) (u.world.heap.size) 1:=⟨_,hA_1⟩
    have hAb:BlockIn (z.world) (u.world.heap.size):=BlockIn.of_cell hA_0
    clear hA
    have hB_0:=(hB 0 _ rfl).1
    have hBf0:=(hB 0 _ rfl).2
    have hBi0:HasCell (z.world) (u.world.heap.size+1) 0:=⟨_,hB_0⟩
    have hB_1:=(hB 1 _ rfl).1
    have hBf1:=(hB 1 _ rfl).2
    have hBi1:HasCell (z.world) (u.world.heap.size+1) 1:=⟨_,hB_1⟩
    have hBb:BlockIn (z.world) (u.world.heap.size+1):=BlockIn.of_cell hB_0
    clear hB
    have h1:=Hlo.out 4
    have h2:=Hhi.out 4
    have H1:=Lib.hid h1
    have H2:=Lib.hid h2
    clear h1 h2 Hlo Hhi Hle
    generalize loK (zbM a b) 4=x at *
    generalize hiK (zbM a b) 4=y at *
    have HD1:=Lib.hid (fun w=>zgy x (zdT H1.out) w)
    have HM1:=Lib.hid (fun w=>zbx y (zdT H2.out) (by have:=H2.out;unfold R128;omega) w)
    have HD2:=Lib.hid (fun w=>zgy (-y) (by have:=H2.out;unfold R128;omega) w)
    have HM2:=Lib.hid (fun w=>zbx (-y/4294967296) (by have:=H2.out;unfold R128;omega) (by have:=H2.out;unfold R128;omega) w)
    have HO:=Lib.hid (fun w=>zhL (x/4294967296) (-(-y/4294967296)) (by have:=H1.out;unfold R128;omega) (by have:=H2.out;unfold R128;omega) w)
    go_wp2
    go_region_held3 (fun w'=>w'.cell? ⟨u.world.heap.size,0,none⟩=some (.int .i64 (mkW x).h)∧w'.cell? ⟨u.world.heap.size,1,none⟩=some (.int .u64 (mkW x).l)∧w'.cell? ⟨u.world.heap.size+1,0,none⟩=some (.int .i64 (mkW y).h)∧w'.cell? ⟨u.world.heap.size+1,1,none⟩=some (.int .u64 (mkW y).l)) (first|exact ⟨(by go_simp),(by go_simp),(by go_simp),(by go_simp)⟩) (first|(go_at_call 164;(with_reducible refine zaa (HD1.out _) ?_);intro u)|(go_at_call 165;(with_reducible refine zaa (HM1.out _) ?_);intro u)|(go_at_call 164;(with_reducible refine zaa (HD2.out _) ?_);intro u)|(go_at_call 165;(with_reducible refine zaa (HM2.out _) ?_);intro u)|(go_at_call 66;(with_reducible refine zaa (HO.out _) ?_);intro u))
    go_wp2
    refine bodyPost_ret (by (simp[results,Tryz.results110,go_sem]<;>rfl)) rfl ?_
    exact ⟨zaS (by rw[←Hf.out]),gw⟩
theorem zdE (a:Sp) [ha:S64 a] (w:World):Calls Tryz.prog 166 #[.agg #[.int .i64 a.lo,.int .i64 a.hi]] w fun e w'=>e=.returned (.tuple #[.agg #[.int .i64 (zai a).s.lo,.int .i64 (zai a).s.hi],.int .i64 (zai a).e])∧Grew w w':=by
 cases hk:a.okB
 ·have Hf:=Lib.hid (show errR 2=zai a by unfold zai;rw[hk];rfl)
  have Hn:=Lib.hid (show absR a=errR 2 by unfold absR;rw[hk];rfl)
  go_enter Tryz.func166,Tryz.ntmps166
  go_wp2_with (first|(go_at_call 193;(with_reducible refine zaa (zeh Hn.out (zki a _)) ?_);intro u))
  refine bodyPost_ret (by (simp[results,Tryz.results166,go_sem]<;>rfl)) rfl ?_
  exact ⟨zaJ Hf.out rfl,gw⟩
 ·have Hf:=Lib.hid (show mulR (absS a) (absS a)=zai a by unfold zai;rw[hk];rfl)
  have Hn:=Lib.hid (show absR a=⟨absS a,0⟩ by unfold absR;rw[hk];rfl)
  have hs:=zjx hk
  go_enter Tryz.func166,Tryz.ntmps166
  go_wp2_with (first|(go_at_call 193;(with_reducible refine zaa (zeh Hn.out (zki a _)) ?_);intro u)|(go_at_call 110;(with_reducible refine zaa (zeL (absS a) (absS a) _) ?_);intro u))
  refine bodyPost_ret (by (simp[results,Tryz.results166,go_sem]<;>rfl)) rfl ?_
  exact ⟨zaS (by rw[←Hf.out]),gw⟩
end Go.Proofs.YtdkfkalplmgoeaaGreat
