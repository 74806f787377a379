/-
  Joined: SpanMul2.
-/
import Derived.Test.YtdkfkalplmgoeaaGreatSpanRootL
import Derived.Test.YtdkfkalplmgoeaaGreatLexAllL
namespace Go.Proofs.YtdkfkalplmgoeaaGreat
open Go.RowKit
set_option maxRecDepth 100000
set_option maxHeartbeats 1000000
theorem zlZ (x y z t:Big) (hx:x.ok) (hy:y.ok) (hz:z.ok) (ht:t.ok) (ao:Option Addr) (w:World) (h:SlAt w (.slice ao 4 4) 4 [.bool x.neg,.int .u64 x.hi,.int .u64 x.lo,.bool y.neg,.int .u64 y.hi,.int .u64 y.lo,.bool z.neg,.int .u64 z.hi,.int .u64 z.lo,.bool t.neg,.int .u64 t.hi,.int .u64 t.lo]) :
 Calls Tryz.prog 176 #[.slice ao 4 4] w fun e w'=>e=.returned (.tuple #[.agg #[.bool (leastB x [y,z,t]).neg,.int .u64 (leastB x [y,z,t]).hi,.int .u64 (leastB x [y,z,t]).lo],.agg #[.bool (zcW x [y,z,t]).neg,.int .u64 (zcW x [y,z,t]).hi,.int .u64 (zcW x [y,z,t]).lo]])∧Grew w w':=
 zho x [y,z,t] hx (by simpa using ⟨hy,hz,ht⟩) ao 4 (by simp) w h
theorem ze4 (x y:Big):(if y.val<x.val then y else x).val=imin x.val y.val:=by unfold imin;split<;>rfl
theorem zf9 (x y:Big):(if x.val<y.val then y else x).val=imax x.val y.val:=by unfold imax;split<;>rfl
theorem zf6 (x y z t:Big):(leastB x [y,z,t]).val=min4 x.val y.val z.val t.val:=by
 unfold leastB leastB leastB leastB min4
 rw[ze4,ze4,ze4]
theorem zgV (x y z t:Big):(zcW x [y,z,t]).val=max4 x.val y.val z.val t.val:=by
 unfold zcW zcW zcW zcW max4
 rw[zf9,zf9,zf9]
theorem zfT (a:Big) (d:Int):(zcb a d).val=zbY a.val d:=by
 unfold zcb Big.val
 cases a.neg<;>simp[zb9,Big.m,zbY,upZ]<;>omega
theorem zh9 (a:Big) (d:Int):(zey a d).val=upZ a.val d:=by
 unfold zey Big.val
 cases a.neg<;>simp[zb9,Big.m,zbY,upZ]<;>omega
theorem zov (m d:Int) (hm:B128 m) (hd:2≤d):B128 (zbY m d)∧B128 (upZ m d):=by
 have h1:=zmX m d (by omega)
 unfold B128 at *
 have h2:=Int.ediv_nonneg hm.1 (show 0≤d by omega)
 have h3:m/d*2≤m/d*d:=Int.mul_le_mul_of_nonneg_left hd h2
 have h4:=Int.mul_ediv_add_emod m d
 have h5:=Int.emod_nonneg m (show d≠0 by omega)
 rw[Int.mul_comm] at h4
 unfold zbY
 rw[h1]
 refine ⟨by omega,?_⟩
 split<;>omega
theorem zkB (a:Big) (d:Int) (ha:a.ok) (hd:2≤d):(zcb a d).ok:=by
 have h:=zov a.m d (Big.ok_m ha) hd
 unfold zcb
 split
 ·exact zbJ _ _ h.2
 ·exact zbJ _ _ h.1
theorem znj (a:Big) (d:Int) (ha:a.ok) (hd:2≤d):(zey a d).ok:=by
 have h:=zov a.m d (Big.ok_m ha) hd
 unfold zey
 split
 ·exact zbJ _ _ h.1
 ·exact zbJ _ _ h.2
theorem zbf (a b:Int) [ha:N64 a] [hb:N64 b]:(zaz a b).ok:=zmU a b ha.is hb.is
theorem zgS {x y z t:Big} (hx:x.ok) (hy:y.ok) (hz:z.ok) (ht:t.ok):(leastB x [y,z,t]).ok:=zij x [y,z,t] hx (by simpa using ⟨hy,hz,ht⟩)
theorem zin {x y z t:Big} (hx:x.ok) (hy:y.ok) (hz:z.ok) (ht:t.ok):(zcW x [y,z,t]).ok:=zj8 x [y,z,t] hx (by simpa using ⟨hy,hz,ht⟩)
theorem zg8 (a b:Int) [ha:N64 a] [hb:N64 b] (w:World):Calls Tryz.prog 178 #[.int .i64 a,.int .i64 b] w fun e w'=>e=.returned (.agg #[.bool (zaz a b).neg,.int .u64 (zaz a b).hi,.int .u64 (zaz a b).lo])∧Grew w w':=by
 go_enter Tryz.func178,Tryz.ntmps178
 go_wp2_with (first|(go_at_call 179;(with_reducible refine zaa (zha _ _ N64.is N64.is _) ?_);intro u))
 refine bodyPost_ret (by (simp[results,Tryz.results178,go_sem]<;>rfl)) rfl ?_
 exact ⟨rfl,gw⟩
theorem zqm:(ofB 4294967296).ok:=zgd _ (by unfold I64;omega)
set_option maxHeartbeats 4000000 in
theorem zeR (a b:Sp) [ha:S64 a] [hb:S64 b] (w:World):Calls Tryz.prog 139 #[.agg #[.int .i64 a.lo,.int .i64 a.hi],.agg #[.int .i64 b.lo,.int .i64 b.hi]] w fun e w'=>e=.returned (.tuple #[.agg #[.int .i64 (mulR a b).s.lo,.int .i64 (mulR a b).s.hi],.int .i64 (mulR a b).e])∧Grew w w':=by
 cases hk:(a.okB&&b.okB)
 ·have Hf:=Lib.hid (show errR 2=mulR a b by unfold mulR;rw[hk];rfl)
  go_enter Tryz.func139,Tryz.ntmps139
  go_wp2_with (first|(go_at_call 60;(with_reducible refine zaa (zbr a b hk _ _ (SlAt.fresh _ _ _ _ (by simp[maxLen]))) ?_);intro u)|((with_reducible refine zac ?_ ?_ ?_);(· kernel_rfl);(· kernel_rfl);(try simp only[List.append_eq,List.cons_append,List.nil_append]);(repeat (go_big_quiet_step ((first|(go_at_call 60;(with_reducible exact zad (zbr a b hk _ _ (SlAt.fresh _ _ _ _ (by simp[maxLen])))))))));refine wpQuiet_nil ?_;rintro _ ⟨u,rfl⟩))
  refine bodyPost_ret (by (simp[results,Tryz.results139,go_sem]<;>rfl)) rfl ?_
  exact ⟨zaJ Hf.out rfl,gw⟩
 ·obtain ⟨lo,hlo⟩:∃ x,x=leastB (zaz a.lo b.lo) [zaz a.lo b.hi,zaz a.hi b.lo,zaz a.hi b.hi]:=⟨_,rfl⟩
  obtain ⟨hi,hhi⟩:∃ x,x=zcW (zaz a.lo b.lo) [zaz a.lo b.hi,zaz a.hi b.lo,zaz a.hi b.hi]:=⟨_,rfl⟩
  have Hf:=Lib.hid (show fitR (zcb lo 4294967296).val (zey hi 4294967296).val=mulR a b by
   unfold mulR;rw[hk,hlo,hhi,zfT,zh9,zf6,zgV,zed,zed,zed,zed];rfl)
  have H1:=Lib.hid (show lo.ok by rw[hlo];exact zgS (zbf _ _) (zbf _ _) (zbf _ _) (zbf _ _))
  have H2:=Lib.hid (show hi.ok by rw[hhi];exact zin (zbf _ _) (zbf _ _) (zbf _ _) (zbf _ _))
  have h3:∀ (ao:Option Addr) (w:World),SlAt w (.slice ao 4 4) 4 [.bool ((zaz a.lo b.lo)).neg,.int .u64 ((zaz a.lo b.lo)).hi,.int .u64 ((zaz a.lo b.lo)).lo,.bool ((zaz a.lo b.hi)).neg,.int .u64 ((zaz a.lo b.hi)).hi,.int .u64 ((zaz a.lo b.hi)).lo,.bool ((zaz a.hi b.lo)).neg,.int .u64 ((zaz a.hi b.lo)).hi,.int .u64 ((zaz a.hi b.lo)).lo,.bool ((zaz a.hi b.hi)).neg,.int .u64 ((zaz a.hi b.hi)).hi,.int .u64 ((zaz a.hi b.hi)).lo]→
   Calls Tryz.prog 176 #[.slice ao 4 4] w fun e w'=>e=.returned (.tuple #[.agg #[.bool lo.neg,.int .u64 lo.hi,.int .u64 lo.lo],.agg #[.bool hi.neg,.int .u64 hi.hi,.int .u64 hi.lo]])∧Grew w w':=by
   intro ao w h
   rw[hlo,hhi]
   exact zlZ _ _ _ _ (zbf _ _) (zbf _ _) (zbf _ _) (zbf _ _) ao w h
  have H3:=Lib.hid h3
  clear h3
  clear hlo hhi
  have h4:∀ (x:Big),x.ok→∀ (w:World),Calls Tryz.prog 180 #[.agg #[.bool x.neg,.int .u64 x.hi,.int .u64 x.lo],.agg #[.bool ((ofB 4294967296)).neg,.int .u64 ((ofB 4294967296)).hi,.int .u64 ((ofB 4294967296)).lo]] w fun e w'=>e=.returned (.tuple #[.agg #[.bool ((zcb x 4294967296)).neg,.int .u64 ((zcb x 4294967296)).hi,.int .u64 ((zcb x 4294967296)).lo],.agg #[.bool ((zey x 4294967296)).neg,.int .u64 ((zey x 4294967296)).hi,.int .u64 ((zey x 4294967296)).lo]])∧Grew w w':=by
   intro x hx w
   have:=zgP x (ofB 4294967296) hx zqm (by decide +kernel) (by decide +kernel) (by decide +kernel) w
   rw[show (ofB 4294967296).lo=4294967296 from by decide +kernel] at this
   rw[show (ofB 4294967296).lo=4294967296 from by decide +kernel]
   exact this
  have H4:=Lib.hid h4
  clear h4
  have H5:=Lib.hid (zkB lo 4294967296 H1.out (by omega))
  have H6:=Lib.hid (znj hi 4294967296 H2.out (by omega))
  have H7:=Lib.hid (show I64 4294967296 by unfold I64;omega)
  go_enter Tryz.func139,Tryz.ntmps139
  go_wp2_with (first|(go_at_call 60;(with_reducible refine zaa (za0 a b hk _ _ (SlAt.fresh _ _ _ _ (by simp[maxLen]))) ?_);intro u)|((with_reducible refine zac ?_ ?_ ?_);(· kernel_rfl);(· kernel_rfl);(try simp only[List.append_eq,List.cons_append,List.nil_append]);(repeat (go_big_quiet_step ((first|(go_at_call 60;(with_reducible exact zad (za0 a b hk _ _ (SlAt.fresh _ _ _ _ (by simp[maxLen])))))))));refine wpQuiet_nil ?_;rintro _ ⟨u,rfl⟩))
  refine zay 31 [24,29,30] [5,11,17,23,25] [28] (fun W0=>[(24,zjO 4 [.bool ((zaz a.lo b.lo)).neg,.int .u64 ((zaz a.lo b.lo)).hi,.int .u64 ((zaz a.lo b.lo)).lo,.bool ((zaz a.lo b.hi)).neg,.int .u64 ((zaz a.lo b.hi)).hi,.int .u64 ((zaz a.lo b.hi)).lo,.bool ((zaz a.hi b.lo)).neg,.int .u64 ((zaz a.hi b.lo)).hi,.int .u64 ((zaz a.hi b.lo)).lo,.bool ((zaz a.hi b.hi)).neg,.int .u64 ((zaz a.hi b.hi)).hi,.int .u64 ((zaz a.hi b.hi)).lo]),(29,BoxR W0 [.bool false,.int .u64 0,.int .u64 0]),(30,BoxR W0 [.bool false,.int .u64 0,.int .u64 0])]) [.agg #[.bool ((zaz a.lo b.lo)).neg,.int .u64 ((zaz a.lo b.lo)).hi,.int .u64 ((zaz a.lo b.lo)).lo],.agg #[.bool ((zaz a.lo b.hi)).neg,.int .u64 ((zaz a.lo b.hi)).hi,.int .u64 ((zaz a.lo b.hi)).lo],.agg #[.bool ((zaz a.hi b.lo)).neg,.int .u64 ((zaz a.hi b.lo)).hi,.int .u64 ((zaz a.hi b.lo)).lo],.agg #[.bool ((zaz a.hi b.hi)).neg,.int .u64 ((zaz a.hi b.hi)).hi,.int .u64 ((zaz a.hi b.hi)).lo],.tuple #[.agg #[.bool lo.neg,.int .u64 lo.hi,.int .u64 lo.lo],.agg #[.bool hi.neg,.int .u64 hi.hi,.int .u64 hi.lo]]] [31,32] (by rfl) (by intro W0 x hx;simp only[List.mem_cons,List.not_mem_nil,or_false] at hx;rcases hx with rfl|rfl|rfl<;>first|exact zkD _ _|exact zbW _ _|exact zbW _ _) (by kernel_rfl) (by kernel_rfl) (by kernel_rfl) ?_
  intro p
  apply Exists.intro
  apply And.intro
  iterate 5 (apply zap (by kernel_rfl);(· intro u;unfold zae;go_simp;rfl))
  apply zaA 0 (by kernel_rfl) (by rfl) (by decide)
  ·intro u hF;clear hF;unfold zaw;go_simp;exact zg8 _ _ _
  iterate 5 (apply zap (by kernel_rfl);(· intro u;unfold zae;go_simp;rfl))
  apply zaA 1 (by kernel_rfl) (by rfl) (by decide)
  ·intro u hF;clear hF;unfold zaw;go_simp;exact zg8 _ _ _
  iterate 5 (apply zap (by kernel_rfl);(· intro u;unfold zae;go_simp;rfl))
  apply zaA 2 (by kernel_rfl) (by rfl) (by decide)
  ·intro u hF;clear hF;unfold zaw;go_simp;exact zg8 _ _ _
  iterate 5 (apply zap (by kernel_rfl);(· intro u;unfold zae;go_simp;rfl))
  apply zaA 3 (by kernel_rfl) (by rfl) (by decide)
  ·intro u hF;clear hF;unfold zaw;go_simp;exact zg8 _ _ _
  apply zce (by kernel_rfl)
  ·intro u hF;clear hF;unfold za6;go_simp;exact zkL _ _ _ _
  apply zaA 4 (by kernel_rfl) (by rfl) (by decide)
  ·intro u hF;obtain ⟨q,hq,hrow,hblk⟩:=(show zjO 4 [.bool ((zaz a.lo b.lo)).neg,.int .u64 ((zaz a.lo b.lo)).hi,.int .u64 ((zaz a.lo b.lo)).lo,.bool ((zaz a.lo b.hi)).neg,.int .u64 ((zaz a.lo b.hi)).hi,.int .u64 ((zaz a.lo b.hi)).lo,.bool ((zaz a.hi b.lo)).neg,.int .u64 ((zaz a.hi b.lo)).hi,.int .u64 ((zaz a.hi b.lo)).lo,.bool ((zaz a.hi b.hi)).neg,.int .u64 ((zaz a.hi b.hi)).hi,.int .u64 ((zaz a.hi b.hi)).lo] (p 24) u.world from hF 24 (by kernel_rfl) (by decide));clear hF;unfold zaw;go_simp;(try rw[hq]);exact H3.out _ _ (SlAt.row _ _ (by decide))
  iterate 2 (apply zap (by kernel_rfl);(· intro u;unfold zae;go_simp;rfl))
  apply zcd (by kernel_rfl)
  ·intro u;unfold zae;go_simp;rfl
  apply zce (by kernel_rfl)
  ·intro u hF;clear hF;unfold za6;go_simp;exact zbX _ _ _ _
  apply zce (by kernel_rfl)
  ·intro u hF;clear hF;unfold za6;go_simp;exact zbX _ _ _ _
  apply zbi
  rotate_left
  ·rfl
  intro u hR hD
  obtain ⟨q29,e29,hB29,kB29,nB29⟩:=(show BoxR _ [.bool false,.int .u64 0,.int .u64 0] (p 29) u.world from hR 29 (by decide))
  obtain ⟨q30,e30,hB30,kB30,nB30⟩:=(show BoxR _ [.bool false,.int .u64 0,.int .u64 0] (p 30) u.world from hR 30 (by decide))
  have hd30:=hD 29 30 (by decide) (by decide) (by decide)
  rw[e29,e30] at hd30
  obtain ⟨ap29_30,ap30_29⟩:=zcQ hd30
  clear hd30
  clear hR hD
  rw[e29]
  clear e29
  have oB29:=zaO nB29
  have oC29:=zaP nB29
  have nC29:NewFor w q29:=⟨Nat.le_trans (Grew.size gw) nB29.le⟩
  have hB29_0:=(hB29 0 _ rfl).1
  have hB29f0:=(hB29 0 _ rfl).2
  have hB29i0:HasCell (u.world) (q29) 0:=⟨_,hB29_0⟩
  have hB29_1:=(hB29 1 _ rfl).1
  have hB29f1:=(hB29 1 _ rfl).2
  have hB29i1:HasCell (u.world) (q29) 1:=⟨_,hB29_1⟩
  have hB29_2:=(hB29 2 _ rfl).1
  have hB29f2:=(hB29 2 _ rfl).2
  have hB29i2:HasCell (u.world) (q29) 2:=⟨_,hB29_2⟩
  have hB29b:BlockIn (u.world) (q29):=BlockIn.of_cell hB29_0
  clear hB29
  rw[e30]
  clear e30
  have oB30:=zaO nB30
  have oC30:=zaP nB30
  have nC30:NewFor w q30:=⟨Nat.le_trans (Grew.size gw) nB30.le⟩
  have hB30_0:=(hB30 0 _ rfl).1
  have hB30f0:=(hB30 0 _ rfl).2
  have hB30i0:HasCell (u.world) (q30) 0:=⟨_,hB30_0⟩
  have hB30_1:=(hB30 1 _ rfl).1
  have hB30f1:=(hB30 1 _ rfl).2
  have hB30i1:HasCell (u.world) (q30) 1:=⟨_,hB30_1⟩
  have hB30_2:=(hB30 2 _ rfl).1
  have hB30f2:=(hB30 2 _ rfl).2
  have hB30i2:HasCell (u.world) (q30) 2:=⟨_,hB30_2⟩
  have hB30b:BlockIn (u.world) (q30):=BlockIn.of_cell hB30_0
  clear hB30
  refine zak (by rfl) ?_;unfold zav;go_simp
  refine zak (by rfl) ?_;unfold zav;go_simp
  refine zau ?_
  go_wp2_with (first|(go_at_call 63;(with_reducible refine zaa (zco _ H7.out _) ?_);intro u)|(go_at_call 180;(with_reducible refine zaa (H4.out lo H1.out _) ?_);intro u)|(go_at_call 180;(with_reducible refine zaa (H4.out hi H2.out _) ?_);intro u)|(go_at_call 64;(with_reducible refine zaa (zdx _ _ H5.out H6.out _) ?_);intro u)|((with_reducible refine zac ?_ ?_ ?_);(· kernel_rfl);(· kernel_rfl);(try simp only[List.append_eq,List.cons_append,List.nil_append]);(repeat (go_big_quiet_step ((first|(go_at_call 63;(with_reducible exact zad (zco _ H7.out _)))|(go_at_call 180;(with_reducible exact zad (H4.out lo H1.out _)))|(go_at_call 180;(with_reducible exact zad (H4.out hi H2.out _)))|(go_at_call 64;(with_reducible exact zad (zdx _ _ H5.out H6.out _)))))));refine wpQuiet_nil ?_;rintro _ ⟨u,rfl⟩))
  refine bodyPost_ret (by (simp[results,Tryz.results139,go_sem]<;>rfl)) rfl ?_
  exact ⟨zaS Hf.out,gw⟩
theorem zb7 (a:Sp) [ha:S64 a] (w:World):Calls Tryz.prog 131 #[.agg #[.int .i64 a.lo,.int .i64 a.hi]] w fun e w'=>e=.returned (.tuple #[.agg #[.int .i64 (zai a).s.lo,.int .i64 (zai a).s.hi],.int .i64 (zai a).e])∧Grew w w':=by
 cases hk:a.okB
 ·have Hf:=Lib.hid (show errR 2=zai a by unfold zai;rw[hk];rfl)
  have Hn:=Lib.hid (show absR a=errR 2 by unfold absR;rw[hk];rfl)
  go_enter Tryz.func131,Tryz.ntmps131
  go_wp2_with (first|(go_at_call 172;(with_reducible refine zaa (zeh Hn.out (ziI a _)) ?_);intro u))
  refine bodyPost_ret (by (simp[results,Tryz.results131,go_sem]<;>rfl)) rfl ?_
  exact ⟨zaJ Hf.out rfl,gw⟩
 ·have Hf:=Lib.hid (show mulR (absS a) (absS a)=zai a by unfold zai;rw[hk];rfl)
  have Hn:=Lib.hid (show absR a=⟨absS a,0⟩ by unfold absR;rw[hk];rfl)
  have hs:=zjx hk
  go_enter Tryz.func131,Tryz.ntmps131
  go_wp2_with (first|(go_at_call 172;(with_reducible refine zaa (zeh Hn.out (ziI a _)) ?_);intro u)|(go_at_call 139;(with_reducible refine zaa (zeR (absS a) (absS a) _) ?_);intro u))
  refine bodyPost_ret (by (simp[results,Tryz.results131,go_sem]<;>rfl)) rfl ?_
  exact ⟨zaS (by rw[←Hf.out]),gw⟩
end Go.Proofs.YtdkfkalplmgoeaaGreat
