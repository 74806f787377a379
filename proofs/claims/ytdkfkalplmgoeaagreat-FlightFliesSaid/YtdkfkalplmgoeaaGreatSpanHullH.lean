/-
  Joined: StepABC, SpanHull.
-/
import Derived.Test.YtdkfkalplmgoeaaGreatForceABCH
import Derived.Test.YtdkfkalplmgoeaaGreatFolds2H
import Derived.Test.YtdkfkalplmgoeaaGreatRefDivsH
import Derived.Test.YtdkfkalplmgoeaaGreatSpanAddH
namespace Go.Proofs.YtdkfkalplmgoeaaGreat
open Go.RowKit Go.Shelf
set_option maxRecDepth 100000
set_option maxHeartbeats 8000000
theorem zeV {n e:Int} {r:NRes} (h:(⟨n,e⟩:NRes)=r):Ending.returned (.tuple #[.int .i64 n,.int .i64 e])=.returned (.tuple #[.int .i64 r.n,.int .i64 r.e]):=by subst h;rfl
theorem zm1 (a:Sp) [ha:S64 a] (w:World):Calls Tryz.prog 189 #[.agg #[.int .i64 a.lo,.int .i64 a.hi]] w fun e w'=>e=.returned (.tuple #[.int .i64 (zbH a).n,.int .i64 (zbH a).e])∧Grew w w':=by
 cases hk:a.okB
 ·have HR:=Lib.hid (show (⟨0,2⟩:NRes)=zbH a by unfold zbH;rw[hk];rfl)
  have HC:=Lib.hid (fun w'=>zb0 (show zci a.okB 2=2 by rw[hk];rfl) (zbF a w'))
  generalize zbH a=R at *
  clear hk
  go_enter Tryz.func189,Tryz.ntmps189
  go_wp2_with (first|(go_at_call 72;(with_reducible refine zaa (HC.out _) ?_);intro u))
  first|go_ret|go_ret2
  exact ⟨zeV HR.out,gw⟩
 ·have HC:=Lib.hid (fun w'=>zb0 (show zci a.okB 2=0 by rw[hk];rfl) (zbF a w'))
  obtain ⟨k1,k2,k3⟩:=zdd hk
  have k4:=ha.hi.2
  by_cases h:9223372036854775807<a.hi-a.lo
  ·have HR:=Lib.hid (show (⟨0,4⟩:NRes)=zbH a by unfold zbH;rw[hk,if_pos rfl,if_pos h])
   generalize zbH a=R at *
   have h0:a.lo<0:=by omega
   have h1:9223372036854775807+a.lo<a.hi:=by omega
   clear hk h
   go_enter Tryz.func189,Tryz.ntmps189
   go_wp2_with (first|(go_at_call 72;(with_reducible refine zaa (HC.out _) ?_);intro u))
   first|go_ret|go_ret2
   exact ⟨zeV HR.out,gw⟩
  ·have HR:=Lib.hid (show (⟨a.hi-a.lo,0⟩:NRes)=zbH a by unfold zbH;rw[hk,if_pos rfl,if_neg h])
   generalize zbH a=R at *
   by_cases h0:a.lo<0
   ·have h1:¬ 9223372036854775807+a.lo<a.hi:=by omega
    clear hk
    go_enter Tryz.func189,Tryz.ntmps189
    go_wp2_with (first|(go_at_call 72;(with_reducible refine zaa (HC.out _) ?_);intro u))
    first|go_ret|go_ret2
    exact ⟨zeV HR.out,gw⟩
   ·clear hk
    go_enter Tryz.func189,Tryz.ntmps189
    go_wp2_with (first|(go_at_call 72;(with_reducible refine zaa (HC.out _) ?_);intro u))
    first|go_ret|go_ret2
    exact ⟨zeV HR.out,gw⟩
theorem zoG (a:Sp) (y:Int) [ha:S64 a] (h0:0≤y) (h1:y≤4611686018427387904) (w:World):Calls Tryz.prog 170 #[.agg #[.int .i64 a.lo,.int .i64 a.hi],.int .i64 y] w fun e w'=>e=.returned (.tuple #[.agg #[.int .i64 (zfg a y).s.lo,.int .i64 (zfg a y).s.hi],.int .i64 (zfg a y).e])∧Grew w w':=by
 cases hk:a.okB
 ·have HR:=Lib.hid (show errR 2=zfg a y by unfold zfg;rw[hk];rfl)
  go_enter Tryz.func170,Tryz.ntmps170
  go_wp2_with (first|(go_at_call 87;(with_reducible refine zaa (zcH a hk _) ?_);intro u)|((with_reducible refine zab ?_ ?_ ?_);(· kernel_rfl);(· kernel_rfl);(try simp only[List.append_eq,List.cons_append,List.nil_append]);(repeat (go_big_quiet_step ((first|(go_at_call 87;(with_reducible exact zac (zcH a hk _)))))));refine wpQuiet_nil ?_;rintro _ ⟨u,rfl⟩))
  refine bodyPost_ret (by (simp[results,Tryz.results170,go_sem]<;>rfl)) rfl ?_
  exact ⟨za1 HR.out rfl,gw⟩
 ·have HR:=Lib.hid (show fitR (a.lo+-y) (a.hi+y)=zfg a y by unfold zfg;rw[hk,show decide (0≤y)=true by simpa using h0,Int.sub_eq_add_neg];rfl)
  obtain ⟨k1,k2,k3⟩:=zdd hk
  have k4:=ha.hi.2
  have k5:=ha.lo.2
  have hneg:¬ y<0:=by omega
  have hw:IntKind.i64.wrap (-y)=-y:=by
   simp[IntKind.wrap,IntKind.bits,IntKind.signed]
   omega
  have n1:N64 y:=⟨by omega,by omega⟩
  have n2:N64 (-y):=⟨by omega,by omega⟩
  go_enter Tryz.func170,Tryz.ntmps170
  go_wp2_with (first|(go_at_call 87;(with_reducible refine zaa (zbn a hk _) ?_);intro u)|((with_reducible refine zab ?_ ?_ ?_);(· kernel_rfl);(· kernel_rfl);(try simp only[List.append_eq,List.cons_append,List.nil_append]);(repeat (go_big_quiet_step ((first|(go_at_call 87;(with_reducible exact zac (zbn a hk _)))))));refine wpQuiet_nil ?_;rintro _ ⟨u,rfl⟩))
  go_region_held3 (fun w'=>w'.cell? ⟨w.heap.size,0,none⟩=some (.int .i64 a.lo)∧w'.cell? ⟨w.heap.size,1,none⟩=some (.int .i64 a.hi)) (first|exact ⟨(by go_simp),(by go_simp)⟩) (first|(go_at_call 68;refine zaa (zuH _ _) ?_;intro u)|(go_at_call 67;refine zaa (zuh _ _ _) ?_;intro u)|(go_at_call 66;refine zaa (zq5 _ _ _ _ _) ?_;intro u))
  go_wp2
  refine bodyPost_ret (by (simp[results,Tryz.results170,go_sem]<;>rfl)) rfl ?_
  exact ⟨zbb (by rw[←HR.out]),gw⟩
end Go.Proofs.YtdkfkalplmgoeaaGreat
namespace Go.Proofs.YtdkfkalplmgoeaaGreat
open Go.RowKit Go.Shelf
set_option maxRecDepth 100000
set_option maxHeartbeats 8000000
theorem zga (p v:Bx) (w:World):Calls Tryz.prog 101 #[.agg #[.int .i64 p.x.lo,.int .i64 p.x.hi,.int .i64 p.y.lo,.int .i64 p.y.hi,.int .i64 p.z.lo,.int .i64 p.z.hi],.agg #[.int .i64 v.x.lo,.int .i64 v.x.hi,.int .i64 v.y.lo,.int .i64 v.y.hi,.int .i64 v.z.lo,.int .i64 v.z.hi]] w fun e w'=>e=.returned (.agg #[.int .i64 p.x.lo,.int .i64 p.x.hi,.int .i64 p.y.lo,.int .i64 p.y.hi,.int .i64 p.z.lo,.int .i64 p.z.hi,.int .i64 v.x.lo,.int .i64 v.x.hi,.int .i64 v.y.lo,.int .i64 v.y.hi,.int .i64 v.z.lo,.int .i64 v.z.hi])∧Grew w w':=by
 go_enter Tryz.func101,Tryz.ntmps101
 go_wp2
 refine bodyPost_ret (by (simp[results,Tryz.results101,go_sem]<;>rfl)) rfl ?_
 exact ⟨rfl,gw⟩
theorem zk6 (P V:Bx) (d:Sp) (v f:Bx) [hP:B64 P] [hV:B64 V] [hd:S64 d] [hv:B64 v] [hf':B64 f] (c:Nat) (e:Int) (w:World) (hc:w.cell? ⟨c,0,none⟩=some (.int .i64 e)) (hf:w.frozen? ⟨c,0,none⟩=false) :
 Calls Tryz.prog 151 #[.pointer (some ⟨c,0,none⟩),.agg #[.int .i64 P.x.lo,.int .i64 P.x.hi,.int .i64 P.y.lo,.int .i64 P.y.hi,.int .i64 P.z.lo,.int .i64 P.z.hi,.int .i64 V.x.lo,.int .i64 V.x.hi,.int .i64 V.y.lo,.int .i64 V.y.hi,.int .i64 V.z.lo,.int .i64 V.z.hi],.agg #[.int .i64 d.lo,.int .i64 d.hi],.agg #[.int .i64 v.x.lo,.int .i64 v.x.hi,.int .i64 v.y.lo,.int .i64 v.y.hi,.int .i64 v.z.lo,.int .i64 v.z.hi],.agg #[.int .i64 f.x.lo,.int .i64 f.x.hi,.int .i64 f.y.lo,.int .i64 f.y.hi,.int .i64 f.z.lo,.int .i64 f.z.hi]] w (RetC c (.agg #[.int .i64 ((zba P V d v f e).p).x.lo,.int .i64 ((zba P V d v f e).p).x.hi,.int .i64 ((zba P V d v f e).p).y.lo,.int .i64 ((zba P V d v f e).p).y.hi,.int .i64 ((zba P V d v f e).p).z.lo,.int .i64 ((zba P V d v f e).p).z.hi,.int .i64 ((zba P V d v f e).v).x.lo,.int .i64 ((zba P V d v f e).v).x.hi,.int .i64 ((zba P V d v f e).v).y.lo,.int .i64 ((zba P V d v f e).v).y.hi,.int .i64 ((zba P V d v f e).v).z.lo,.int .i64 ((zba P V d v f e).v).z.hi]) (zba P V d v f e).e w):=by
 have ib:BlockIn w c:=BlockIn.of_cell hc
 have hci:HasCell w c 0:=⟨_,hc⟩
 have Hb:=Lib.hid (But.refl hc)
 have Hc:=Lib.hid hc
 have b1:B64 (rcM d v e).b:=zbK _ _ _ _
 have b2:B64 (rcM d f (rcP P d v e).e).b:=zbK _ _ _ _
 have K1:=Lib.hid (fun w hc hf=>show Calls Tryz.prog 159 #[.pointer (some ⟨c,0,none⟩),.func (.func 100) #[.pointer (some ⟨c,0,none⟩)] #[],.agg #[.int .i64 d.lo,.int .i64 d.hi],.agg #[.int .i64 v.x.lo,.int .i64 v.x.hi,.int .i64 v.y.lo,.int .i64 v.y.hi,.int .i64 v.z.lo,.int .i64 v.z.hi]] w (RetC c (.agg #[.int .i64 ((rcM d v e).b).x.lo,.int .i64 ((rcM d v e).b).x.hi,.int .i64 ((rcM d v e).b).y.lo,.int .i64 ((rcM d v e).b).y.hi,.int .i64 ((rcM d v e).b).z.lo,.int .i64 ((rcM d v e).b).z.hi]) (rcM d v e).e w) from zf3 100 mulR (enters_of Tryz.func100 (by kernel_rfl) rfl) zgO c e d v w hc hf)
 have K2:=Lib.hid (fun w hc hf=>show Calls Tryz.prog 155 #[.pointer (some ⟨c,0,none⟩),.func (.func 97) #[.pointer (some ⟨c,0,none⟩)] #[],.agg #[.int .i64 P.x.lo,.int .i64 P.x.hi,.int .i64 P.y.lo,.int .i64 P.y.hi,.int .i64 P.z.lo,.int .i64 P.z.hi],.agg #[.int .i64 ((rcM d v e).b).x.lo,.int .i64 ((rcM d v e).b).x.hi,.int .i64 ((rcM d v e).b).y.lo,.int .i64 ((rcM d v e).b).y.hi,.int .i64 ((rcM d v e).b).z.lo,.int .i64 ((rcM d v e).b).z.hi]] w (RetC c (.agg #[.int .i64 ((rcP P d v e).b).x.lo,.int .i64 ((rcP P d v e).b).x.hi,.int .i64 ((rcP P d v e).b).y.lo,.int .i64 ((rcP P d v e).b).y.hi,.int .i64 ((rcP P d v e).b).z.lo,.int .i64 ((rcP P d v e).b).z.hi]) (rcP P d v e).e w) from zcW 97 addR (enters_of Tryz.func97 (by kernel_rfl) rfl) zkV c (rcM d v e).e P (rcM d v e).b w hc hf)
 have K3:=Lib.hid (fun w hc hf=>show Calls Tryz.prog 159 #[.pointer (some ⟨c,0,none⟩),.func (.func 100) #[.pointer (some ⟨c,0,none⟩)] #[],.agg #[.int .i64 d.lo,.int .i64 d.hi],.agg #[.int .i64 f.x.lo,.int .i64 f.x.hi,.int .i64 f.y.lo,.int .i64 f.y.hi,.int .i64 f.z.lo,.int .i64 f.z.hi]] w (RetC c (.agg #[.int .i64 ((rcM d f (rcP P d v e).e).b).x.lo,.int .i64 ((rcM d f (rcP P d v e).e).b).x.hi,.int .i64 ((rcM d f (rcP P d v e).e).b).y.lo,.int .i64 ((rcM d f (rcP P d v e).e).b).y.hi,.int .i64 ((rcM d f (rcP P d v e).e).b).z.lo,.int .i64 ((rcM d f (rcP P d v e).e).b).z.hi]) (rcM d f (rcP P d v e).e).e w) from zf3 100 mulR (enters_of Tryz.func100 (by kernel_rfl) rfl) zgO c (rcP P d v e).e d f w hc hf)
 have K4:=Lib.hid (fun w hc hf=>show Calls Tryz.prog 155 #[.pointer (some ⟨c,0,none⟩),.func (.func 97) #[.pointer (some ⟨c,0,none⟩)] #[],.agg #[.int .i64 V.x.lo,.int .i64 V.x.hi,.int .i64 V.y.lo,.int .i64 V.y.hi,.int .i64 V.z.lo,.int .i64 V.z.hi],.agg #[.int .i64 ((rcM d f (rcP P d v e).e).b).x.lo,.int .i64 ((rcM d f (rcP P d v e).e).b).x.hi,.int .i64 ((rcM d f (rcP P d v e).e).b).y.lo,.int .i64 ((rcM d f (rcP P d v e).e).b).y.hi,.int .i64 ((rcM d f (rcP P d v e).e).b).z.lo,.int .i64 ((rcM d f (rcP P d v e).e).b).z.hi]] w (RetC c (.agg #[.int .i64 ((rcP V d f (rcP P d v e).e).b).x.lo,.int .i64 ((rcP V d f (rcP P d v e).e).b).x.hi,.int .i64 ((rcP V d f (rcP P d v e).e).b).y.lo,.int .i64 ((rcP V d f (rcP P d v e).e).b).y.hi,.int .i64 ((rcP V d f (rcP P d v e).e).b).z.lo,.int .i64 ((rcP V d f (rcP P d v e).e).b).z.hi]) (rcP V d f (rcP P d v e).e).e w) from zcW 97 addR (enters_of Tryz.func97 (by kernel_rfl) rfl) zkV c (rcM d f (rcP P d v e).e).e V (rcM d f (rcP P d v e).e).b w hc hf)
 clear b1 b2
 unfold zba
 generalize rcP V d f (rcP P d v e).e=R4 at *
 generalize rcM d f (rcP P d v e).e=R3 at *
 generalize rcP P d v e=R2 at *
 generalize rcM d v e=R1 at *
 go_enter Tryz.func151,Tryz.ntmps151
 go_wp2
 refine zaf c [e,e,R1.e,R2.e] 13 [12] [4,10,11] [] (fun W0=>[(12,BoxR W0 [.int .i64 0,.int .i64 0,.int .i64 0,.int .i64 0,.int .i64 0,.int .i64 0])]) [.agg #[.int .i64 P.x.lo,.int .i64 P.x.hi,.int .i64 P.y.lo,.int .i64 P.y.hi,.int .i64 P.z.lo,.int .i64 P.z.hi],.agg #[.int .i64 R1.b.x.lo,.int .i64 R1.b.x.hi,.int .i64 R1.b.y.lo,.int .i64 R1.b.y.hi,.int .i64 R1.b.z.lo,.int .i64 R1.b.z.hi],.agg #[.int .i64 R2.b.x.lo,.int .i64 R2.b.x.hi,.int .i64 R2.b.y.lo,.int .i64 R2.b.y.hi,.int .i64 R2.b.z.lo,.int .i64 R2.b.z.hi]] [13] (by rfl) (by go_simp) (by go_simp) (by intro W0 hW0 x hx;simp only[List.mem_cons,List.not_mem_nil,or_false] at hx;rcases hx with rfl<;>first|exact zbc _ _ hW0 _) (by kernel_rfl) (by kernel_rfl) (by kernel_rfl) ?_
 intro pz hd0
 apply Exists.intro
 apply And.intro
 iterate 4 (apply zae hd0 (by kernel_rfl);(· intro uz xc;unfold zai;go_simp;rfl))
 apply zad hd0 0 (by kernel_rfl) (by rfl) (by decide)
 ·intro uz hfz hF;clear hF;unfold zah;go_simp;exact zef (zfU P V _) (by go_simp)
 iterate 5 (apply zae hd0 (by kernel_rfl);(· intro uz xc;unfold zai;go_simp;rfl))
 apply zad hd0 1 (by kernel_rfl) (by rfl) (by decide)
 ·intro uz hfz hF;clear hF;unfold zah;go_simp;exact K1.out _ (by go_simp) hfz
 apply zad hd0 2 (by kernel_rfl) (by rfl) (by decide)
 ·intro uz hfz hF;clear hF;unfold zah;go_simp;exact K2.out _ (by go_simp) hfz
 apply zbd hd0 (by kernel_rfl)
 ·intro uz xc hF;clear hF;unfold za5;go_simp;refine (show Made (BoxR _ [.int .i64 0,.int .i64 0,.int .i64 0,.int .i64 0,.int .i64 0,.int .i64 0]) _ _ _ from ?_);exact zbe _ _ _ _
 apply zax
 rotate_left
 ·rfl
 intro uz hR hD hfz
 obtain ⟨q12,e12,hB12,kB12,nB12⟩:=(show BoxR _ [.int .i64 0,.int .i64 0,.int .i64 0,.int .i64 0,.int .i64 0,.int .i64 0] (pz 12) _ from hR 12 (by decide))
 clear hR hD
 rw[e12]
 clear e12
 have oB12:=zaG nB12
 have oC12:=zaH nB12
 have hB12:=zbq hB12 hd0 nB12
 have kB12:=za0 kB12
 have hB12_0:=(hB12 0 _ rfl).1
 have hB12f0:=(hB12 0 _ rfl).2
 have hB12i0:HasCell (uz.world) (q12) 0:=⟨_,hB12_0⟩
 have hB12_1:=(hB12 1 _ rfl).1
 have hB12f1:=(hB12 1 _ rfl).2
 have hB12i1:HasCell (uz.world) (q12) 1:=⟨_,hB12_1⟩
 have hB12_2:=(hB12 2 _ rfl).1
 have hB12f2:=(hB12 2 _ rfl).2
 have hB12i2:HasCell (uz.world) (q12) 2:=⟨_,hB12_2⟩
 have hB12_3:=(hB12 3 _ rfl).1
 have hB12f3:=(hB12 3 _ rfl).2
 have hB12i3:HasCell (uz.world) (q12) 3:=⟨_,hB12_3⟩
 have hB12_4:=(hB12 4 _ rfl).1
 have hB12f4:=(hB12 4 _ rfl).2
 have hB12i4:HasCell (uz.world) (q12) 4:=⟨_,hB12_4⟩
 have hB12_5:=(hB12 5 _ rfl).1
 have hB12f5:=(hB12 5 _ rfl).2
 have hB12i5:HasCell (uz.world) (q12) 5:=⟨_,hB12_5⟩
 have hB12b:BlockIn (uz.world) (q12):=BlockIn.of_cell hB12_0
 clear hB12
 refine zag (by rfl) ?_;unfold zap;go_simp
 refine zao ?_
 have nw12:NewFor w q12:=zcG nB12
 go_wp2
 refine zaf c [R2.e,R2.e,R3.e,R4.e,R4.e] 14 [] [5,11,12,13] [] (fun W0=>[]) [.agg #[.int .i64 V.x.lo,.int .i64 V.x.hi,.int .i64 V.y.lo,.int .i64 V.y.hi,.int .i64 V.z.lo,.int .i64 V.z.hi],.agg #[.int .i64 R3.b.x.lo,.int .i64 R3.b.x.hi,.int .i64 R3.b.y.lo,.int .i64 R3.b.y.hi,.int .i64 R3.b.z.lo,.int .i64 R3.b.z.hi],.agg #[.int .i64 R4.b.x.lo,.int .i64 R4.b.x.hi,.int .i64 R4.b.y.lo,.int .i64 R4.b.y.hi,.int .i64 R4.b.z.lo,.int .i64 R4.b.z.hi],.agg #[.int .i64 R2.b.x.lo,.int .i64 R2.b.x.hi,.int .i64 R2.b.y.lo,.int .i64 R2.b.y.hi,.int .i64 R2.b.z.lo,.int .i64 R2.b.z.hi,.int .i64 R4.b.x.lo,.int .i64 R4.b.x.hi,.int .i64 R4.b.y.lo,.int .i64 R4.b.y.hi,.int .i64 R4.b.z.lo,.int .i64 R4.b.z.hi]] [14] (by rfl) (by go_simp) (by go_simp) (fun _ _ x hx=>absurd hx (List.not_mem_nil)) (by kernel_rfl) (by kernel_rfl) (by kernel_rfl) ?_
 intro pz hd0
 apply Exists.intro
 apply And.intro
 iterate 5 (apply zae hd0 (by kernel_rfl);(· intro uz xc;unfold zai;go_simp;rfl))
 apply zad hd0 0 (by kernel_rfl) (by rfl) (by decide)
 ·intro uz hfz hF;clear hF;unfold zah;go_simp;exact zef (zb2 P V _) (by go_simp)
 iterate 5 (apply zae hd0 (by kernel_rfl);(· intro uz xc;unfold zai;go_simp;rfl))
 apply zad hd0 1 (by kernel_rfl) (by rfl) (by decide)
 ·intro uz hfz hF;clear hF;unfold zah;go_simp;exact K3.out _ (by go_simp) hfz
 apply zad hd0 2 (by kernel_rfl) (by rfl) (by decide)
 ·intro uz hfz hF;clear hF;unfold zah;go_simp;exact K4.out _ (by go_simp) hfz
 apply zad hd0 3 (by kernel_rfl) (by rfl) (by decide)
 ·intro uz hfz hF;clear hF;unfold zah;go_simp;exact zef (zga R2.b R4.b _) (by go_simp)
 apply zax
 rotate_left
 ·rfl
 intro uz hR hD hfz
 clear hR hD
 refine zag (by rfl) ?_;unfold zap;go_simp
 refine zao ?_
 go_wp2
 refine bodyPost_ret (by (simp[results,Tryz.results151,go_sem]<;>rfl)) rfl ?_
 exact ⟨rfl,But.out btw Hc.out (by go_simp)⟩
end Go.Proofs.YtdkfkalplmgoeaaGreat
namespace Go.Proofs.YtdkfkalplmgoeaaGreat
open Go.RowKit Go.Shelf
set_option maxRecDepth 100000
set_option maxHeartbeats 8000000
theorem zmR (c:Nat) (e:Int) (a:Sp) (y:Int) [ha:S64 a] (h0:0≤y) (h1:y≤4611686018427387904) (w:World) (hc:w.cell? ⟨c,0,none⟩=some (.int .i64 e)) (hf:w.frozen? ⟨c,0,none⟩=false) :
 Calls Tryz.prog 119 #[.pointer (some ⟨c,0,none⟩),.agg #[.int .i64 a.lo,.int .i64 a.hi],.int .i64 y] w (RetC c (.agg #[.int .i64 ((doR e (zfg a y)).s).lo,.int .i64 ((doR e (zfg a y)).s).hi]) (doR e (zfg a y)).e w):=by
 have HG:=Lib.hid (fun w=>zoG a y h0 h1 w)
 clear h0 h1
 generalize zfg a y=r at *
 have ib:BlockIn w c:=BlockIn.of_cell hc
 have hci:HasCell w c 0:=⟨_,hc⟩
 have Hb:=Lib.hid (But.refl hc)
 have Hc:=Lib.hid hc
 go_enter Tryz.func119,Tryz.ntmps119
 go_wp2_with (first|(go_at_call 170;(with_reducible refine zaa (HG.out _) ?_);intro u)|(go_at_call 109;refine zar (zcI c e r _ (by go_simp) (by go_simp)) ?_;intro u))
 refine bodyPost_ret (by (simp[results,Tryz.results119,go_sem]<;>rfl)) rfl ?_
 exact ⟨rfl,But.out btw Hc.out (by go_simp)⟩
theorem zoR (a:Sp) [ha:S64 a] (w:World):Calls Tryz.prog 171 #[.agg #[.int .i64 a.lo,.int .i64 a.hi]] w fun e w'=>e=.returned (.tuple #[.int .i64 (zbH a).n,.int .i64 (zbH a).e])∧Grew w w':=by
 cases hk:a.okB
 ·have HR:=Lib.hid (show (⟨0,2⟩:NRes)=zbH a by unfold zbH;rw[hk];rfl)
  generalize zbH a=R at *
  go_enter Tryz.func171,Tryz.ntmps171
  go_wp2_with (first|(go_at_call 87;(with_reducible refine zaa (zcH a hk _) ?_);intro u)|((with_reducible refine zab ?_ ?_ ?_);(· kernel_rfl);(· kernel_rfl);(try simp only[List.append_eq,List.cons_append,List.nil_append]);(repeat (go_big_quiet_step ((first|(go_at_call 87;(with_reducible exact zac (zcH a hk _)))))));refine wpQuiet_nil ?_;rintro _ ⟨u,rfl⟩))
  first|go_ret|go_ret2
  exact ⟨zeV HR.out,gw⟩
 ·obtain ⟨k1,k2,k3⟩:=zdd hk
  have k4:=ha.hi.2
  have k5:=ha.lo.2
  have HW:=Lib.hid (show zbH a=if 9223372036854775807<a.hi+-a.lo then ⟨0,4⟩ else ⟨a.hi+-a.lo,0⟩ by unfold zbH;rw[hk,if_pos rfl,Int.sub_eq_add_neg])
  have W1:=Lib.hid (fun w=>zc8 a.hi ha.hi w)
  have W2:=Lib.hid (fun w=>zc8 a.lo ha.lo w)
  have M1:=Lib.hid (fun w=>zbX a.lo (by unfold R128;omega) (by unfold R128;omega) w)
  have P1:=Lib.hid (fun w=>zcb a.hi (-a.lo) (by unfold R128;omega) (by unfold R128;omega) (by unfold R128;omega) w)
  have O1:=Lib.hid (fun w=>zib 9223372036854775807 (by unfold I64;omega) w)
  have hl:(mkW (a.hi+-a.lo)).l=a.hi+-a.lo:=by unfold mkW;simp only[];omega
  have L1:=Lib.hid (fun w=>zaQ 9223372036854775807 (a.hi+-a.lo) (by unfold R128;omega) (by unfold R128;omega) w)
  have hd0:0≤a.hi+-a.lo:=by omega
  generalize hd:a.hi+-a.lo=d at *
  clear hd
  have HL:=Lib.hid hl
  cases hdb:decide ((9223372036854775807:Int)<d)
  all_goals
   have h:=hdb
   simp only[decide_eq_true_eq,decide_eq_false_iff_not] at h
   have HR:=Lib.hid HW.out
   first|rw[if_pos h] at HR|rw[if_neg h] at HR
   have H:=Lib.hid h
   generalize zbH a=R at *
   have hb:=L1
   rw[hdb] at hb
   have hr0:0≤(mkW d).l:=by omega
   have hr1:d≤9223372036854775807→(mkW d).l≤9223372036854775807:=by omega
   first|replace hr1:=hr1 (by omega)|clear hr1
   clear L1 HW hl hdb
   go_enter Tryz.func171,Tryz.ntmps171
   go_wp2_with (first|(go_at_call 87;(with_reducible refine zaa (zbn a hk _) ?_);intro u)|((with_reducible refine zab ?_ ?_ ?_);(· kernel_rfl);(· kernel_rfl);(try simp only[List.append_eq,List.cons_append,List.nil_append]);(repeat (go_big_quiet_step ((first|(go_at_call 87;(with_reducible exact zac (zbn a hk _)))))));refine wpQuiet_nil ?_;rintro _ ⟨u,rfl⟩))
   refine zaJ 9 [8] [2,5,6,7] [] (fun W0=>[(8,BoxR W0 [.int .i64 0,.int .u64 0])]) [.agg #[.int .i64 (mkW a.hi).h,.int .u64 (mkW a.hi).l],.agg #[.int .i64 (mkW a.lo).h,.int .u64 (mkW a.lo).l],.agg #[.int .i64 (mkW (-a.lo)).h,.int .u64 (mkW (-a.lo)).l],.agg #[.int .i64 (mkW d).h,.int .u64 (mkW d).l]] [9] (by rfl) (by intro W0 x hx;simp only[List.mem_cons,List.not_mem_nil,or_false] at hx;rcases hx with rfl;exact zcw _ _) (by kernel_rfl) (by kernel_rfl) (by kernel_rfl) ?_
   intro p
   apply Exists.intro
   apply And.intro
   iterate 2 (apply zaA (by kernel_rfl);(· intro u;unfold zai;go_simp;rfl))
   apply zaw 0 (by kernel_rfl) (by rfl) (by decide)
   ·intro u hF;clear hF;unfold zah;go_simp;exact W1.out _
   iterate 2 (apply zaA (by kernel_rfl);(· intro u;unfold zai;go_simp;rfl))
   apply zaw 1 (by kernel_rfl) (by rfl) (by decide)
   ·intro u hF;clear hF;unfold zah;go_simp;exact W2.out _
   apply zaw 2 (by kernel_rfl) (by rfl) (by decide)
   ·intro u hF;clear hF;unfold zah;go_simp;exact M1.out _
   apply zaw 3 (by kernel_rfl) (by rfl) (by decide)
   ·intro u hF;clear hF;unfold zah;go_simp;exact P1.out _
   apply zbT (by kernel_rfl)
   ·intro u hF;clear hF;unfold za5;go_simp;exact zcy _ _ _ _
   apply zbG
   rotate_left
   ·rfl
   intro u hR hD
   obtain ⟨q8,e8,hB8,kB8,nB8⟩:=(show BoxR _ [.int .i64 0,.int .u64 0] (p 8) u.world from hR 8 (by decide))
   clear hR hD
   rw[e8]
   clear e8
   have oB8:=zaG nB8
   have oC8:=zaH nB8
   have nC8:NewFor w q8:=⟨Nat.le_trans (Grew.size gw) nB8.le⟩
   have hB8_0:=(hB8 0 _ rfl).1
   have hB8f0:=(hB8 0 _ rfl).2
   have hB8i0:HasCell (u.world) (q8) 0:=⟨_,hB8_0⟩
   have hB8_1:=(hB8 1 _ rfl).1
   have hB8f1:=(hB8 1 _ rfl).2
   have hB8i1:HasCell (u.world) (q8) 1:=⟨_,hB8_1⟩
   have hB8b:BlockIn (u.world) (q8):=BlockIn.of_cell hB8_0
   clear hB8
   refine zag (by rfl) ?_;unfold zap;go_simp
   refine zao ?_
   go_wp2
   go_wp2_with (first|(go_at_call 126;(with_reducible refine zaa (O1.out _) ?_);intro u)|(go_at_call 125;(with_reducible refine zaa (hb.out _) ?_);intro u)|((with_reducible refine zab ?_ ?_ ?_);(· kernel_rfl);(· kernel_rfl);(try simp only[List.append_eq,List.cons_append,List.nil_append]);(repeat (go_big_quiet_step ((first|(go_at_call 126;(with_reducible exact zac (O1.out _)))|(go_at_call 125;(with_reducible exact zac (hb.out _)))))));refine wpQuiet_nil ?_;rintro _ ⟨u,rfl⟩))
   first|go_ret|go_ret2
   first|exact ⟨zeV HR.out.symm,gw⟩|(refine ⟨zeV ?_,gw⟩;exact (congrArg (fun z=>(⟨z,0⟩:NRes)) HL.out).trans HR.out.symm)
def wcN (e:Int) (r:NRes):Int:=if e=0 then r.n else 0
theorem zmU (c:Nat) (e:Int) (a:Sp) [ha:S64 a] (w:World) (hc:w.cell? ⟨c,0,none⟩=some (.int .i64 e)) (hf:w.frozen? ⟨c,0,none⟩=false) :
 Calls Tryz.prog 120 #[.pointer (some ⟨c,0,none⟩),.agg #[.int .i64 a.lo,.int .i64 a.hi]] w (RetC c (.int .i64 (wcN e (zbH a))) (doN e (zbH a)) w):=by
 have HG:=Lib.hid (fun w=>zoR a w)
 generalize zbH a=r at *
 by_cases he:e=0
 ·subst he
  have H1:=Lib.hid (show wcN 0 r=r.n from rfl)
  have H2:=Lib.hid (show doN 0 r=r.e from rfl)
  have ib:BlockIn w c:=BlockIn.of_cell hc
  have hci:HasCell w c 0:=⟨_,hc⟩
  have Hb:=Lib.hid (But.refl hc)
  have Hc:=Lib.hid hc
  go_enter Tryz.func120,Tryz.ntmps120
  go_wp2_with (first|(go_at_call 171;(with_reducible refine zaa (HG.out _) ?_);intro u))
  go_ret
  exact ⟨by rw[H1.out];rfl,But.out btw Hc.out (by rw[H2.out];go_simp)⟩
 ·have H1:=Lib.hid (show wcN e r=0 from if_neg he)
  have H2:=Lib.hid (show doN e r=e from if_neg he)
  have he':(e != 0)=true:=by simp[he]
  clear he
  have ib:BlockIn w c:=BlockIn.of_cell hc
  have hci:HasCell w c 0:=⟨_,hc⟩
  have Hb:=Lib.hid (But.refl hc)
  have Hc:=Lib.hid hc
  go_enter Tryz.func120,Tryz.ntmps120
  go_wp2_with (first|(go_at_call 171;(with_reducible refine zaa (HG.out _) ?_);intro u))
  go_ret
  exact ⟨by rw[H1.out];rfl,But.out btw Hc.out (by rw[H2.out];go_simp)⟩
end Go.Proofs.YtdkfkalplmgoeaaGreat
namespace Go.Proofs.YtdkfkalplmgoeaaGreat
open Go.RowKit
set_option maxRecDepth 100000
set_option maxHeartbeats 8000000
theorem zmY (a b:Sp) (w:World):Calls Tryz.prog 173 #[.agg #[.int .i64 a.lo,.int .i64 a.hi],.agg #[.int .i64 b.lo,.int .i64 b.hi]] w fun e w'=>e=.returned (.tuple #[.agg #[.int .i64 (zbh a b).s.lo,.int .i64 (zbh a b).s.hi],.int .i64 (zbh a b).e])∧Grew w w':=by
 cases hk:(a.okB&&b.okB)
 ·have Hf:=Lib.hid (show errR 2=zbh a b by unfold zbh;rw[hk];rfl)
  go_enter Tryz.func173,Tryz.ntmps173
  go_wp2_with (first|(go_at_call 60;(with_reducible refine zaa (zct a b hk _ _ (SlAt.fresh _ _ _ _ (by simp[maxLen]))) ?_);intro u))
  refine bodyPost_ret (by (simp[results,Tryz.results173,go_sem]<;>rfl)) rfl ?_
  exact ⟨za1 Hf.out rfl,gw⟩
 ·have Hf:=Lib.hid (show (⟨zfW a b,0⟩:Res)=zbh a b by unfold zbh;rw[hk];rfl)
  go_enter Tryz.func173,Tryz.ntmps173
  go_wp2_with (first|(go_at_call 60;(with_reducible refine zaa (zbx a b hk _ _ (SlAt.fresh _ _ _ _ (by simp[maxLen]))) ?_);intro u))
  all_goals
   refine bodyPost_ret (by (simp[results,Tryz.results173,go_sem]<;>rfl)) rfl ?_
   exact ⟨zbb (by rw[←Hf.out];unfold zfW imin imax;congr 2<;>(repeat' split)<;>omega),gw⟩
end Go.Proofs.YtdkfkalplmgoeaaGreat
