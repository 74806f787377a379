/-
  Joined: StepU.
-/
import Derived.Test.YtdkfkalplmgoeaaGreatStepSH
import Derived.Test.YtdkfkalplmgoeaaGreatForceRsH
namespace Go.Proofs.YtdkfkalplmgoeaaGreat
open Go.RowKit Go.Shelf
set_option maxRecDepth 100000
set_option maxHeartbeats 16000000
set_option linter.unusedSimpArgs false
theorem zuz {h:Int} (k:numB h=true):(stD h).okB=true:=by
 unfold stD Sp.okB numB imin imax at *
 simp only[Bool.and_eq_true,decide_eq_true_eq] at *
 refine ⟨⟨?_,?_⟩,?_⟩<;>(repeat' split)<;>omega
structure MasR (w:World) (c bP bA bS bN bT qE qD qM:Nat) (pP:Planet) (x:Arc) (s:State) (E d m:Sp) (e:Int) (wr:World):Prop where
 g:Grew w wr
 cell:wr.cell? ⟨c,0,none⟩=some (.int .i64 e)
 mark:wr.frozen? ⟨c,0,none⟩=false
 rP:RowIs wr bP 43 pP.cells
 rA:RowIs wr bA 48 x.cells
 rS:RowIs wr bS 28 [.int .i64 s.t,.int .i64 s.p.x.lo,.int .i64 s.p.x.hi,.int .i64 s.p.y.lo,.int .i64 s.p.y.hi,.int .i64 s.p.z.lo,.int .i64 s.p.z.hi,.int .i64 s.v.x.lo,.int .i64 s.v.x.hi,.int .i64 s.v.y.lo,.int .i64 s.v.y.hi,.int .i64 s.v.z.lo,.int .i64 s.v.z.hi,.int .i64 s.m.lo,.int .i64 s.m.hi]
 rN:RowIs wr bN 28 zaL.cells
 rT:RowIs wr bT 81 zbB.cells
 rE:RowIs wr qE 24 [.int .i64 E.lo,.int .i64 E.hi]
 rD:RowIs wr qD 24 [.int .i64 d.lo,.int .i64 d.hi]
 rm:RoAt wr qM [.int .i64 m.lo,.int .i64 m.hi]
theorem zjj (p:Planet) (x:Arc) (l:List Pt) (s:State) (h:Int) (w:World) (hd:zcF w x l) (hno:zfs p x l s h=false) :
 Calls Tryz.prog 30 #[.agg p.cells.toArray,.agg x.cells.toArray,.agg #[.int .i64 s.t,.int .i64 s.p.x.lo,.int .i64 s.p.x.hi,.int .i64 s.p.y.lo,.int .i64 s.p.y.hi,.int .i64 s.p.z.lo,.int .i64 s.p.z.hi,.int .i64 s.v.x.lo,.int .i64 s.v.x.hi,.int .i64 s.v.y.lo,.int .i64 s.v.y.hi,.int .i64 s.v.z.lo,.int .i64 s.v.z.hi,.int .i64 s.m.lo,.int .i64 s.m.hi],.int .i64 h] w (zhv (zbW p x l s h) w):=by
 have HP:=Lib.hid (fun w'=>show Calls Tryz.prog 49 #[.agg p.cells.toArray] w' _ from zfp p w')
 have HA:=Lib.hid (fun w' (g:Grew w w')=>show Calls Tryz.prog 42 #[.agg #[.int .i64 x.time,.int .i64 x.step,.int .i64 x.thrust.lo,.int .i64 x.thrust.hi,.int .i64 x.flow.lo,.int .i64 x.flow.hi,.int .i64 x.dir.x.lo,.int .i64 x.dir.x.hi,.int .i64 x.dir.y.lo,.int .i64 x.dir.y.hi,.int .i64 x.dir.z.lo,.int .i64 x.dir.z.hi,.slice x.drag.ao x.drag.n x.drag.cap,.int .i64 x.drop.lo,.int .i64 x.drop.hi]] w' _ from zdq x l w' (hd.grew g))
 have HS:=Lib.hid (fun w'=>zfY s w')
 have HV:=Lib.hid (fun w'=>zeS h w')
 cases h1:p.okB
 ·rw[h1] at HP
  have HR:=Lib.hid (show zbW p x l s h=zeB 2 by unfold zbW zfs;rw[h1];rfl)
  clear hd HA HS h1
  generalize zbW p x l s h=R at *
  go_enter Tryz.func30,Tryz.ntmps30
  go_upto_region 3 with (first|(go_at_call 50;(with_reducible refine zaa (HV.out _) ?_);intro u0)|(go_at_call 49;(with_reducible refine zaa (HP.out _) ?_);intro u)|(go_at_call 42;(with_reducible refine zaa (HA.out _ ?_) ?_);(· exact gw);intro u)|(go_at_call 38;(with_reducible refine zaa (HS.out _) ?_);intro u)|(with_reducible refine wLi ?_))
  go_wp2_with (first|(with_reducible refine wSi ?_))
  refine bodyPost_ret (zcq Tryz.results30 rfl rfl rfl inferInstance inferInstance inferInstance inferInstance inferInstance inferInstance) rfl ?_
  exact ⟨by rw[HR.out];rfl,gwr⟩
 rw[h1] at HP
 cases h2:x.okB l
 ·rw[h2] at HA
  have HR:=Lib.hid (show zbW p x l s h=zeB 2 by unfold zbW zfs;rw[h1,h2];rfl)
  clear hd HS h1 h2
  generalize zbW p x l s h=R at *
  go_enter Tryz.func30,Tryz.ntmps30
  go_upto_region 3 with (first|(go_at_call 50;(with_reducible refine zaa (HV.out _) ?_);intro u0)|(go_at_call 49;(with_reducible refine zaa (HP.out _) ?_);intro u)|(go_at_call 42;(with_reducible refine zaa (HA.out _ ?_) ?_);(· exact gw);intro u)|(go_at_call 38;(with_reducible refine zaa (HS.out _) ?_);intro u)|(with_reducible refine wLi ?_))
  go_wp2_with (first|(with_reducible refine wSi ?_))
  refine bodyPost_ret (zcq Tryz.results30 rfl rfl rfl inferInstance inferInstance inferInstance inferInstance inferInstance inferInstance) rfl ?_
  exact ⟨by rw[HR.out];rfl,gwr⟩
 rw[h2] at HA
 cases h3:s.okB
 ·rw[h3] at HS
  have HR:=Lib.hid (show zbW p x l s h=zeB 2 by unfold zbW zfs;rw[h1,h2,h3];rfl)
  clear hd h1 h2 h3
  generalize zbW p x l s h=R at *
  go_enter Tryz.func30,Tryz.ntmps30
  go_upto_region 3 with (first|(go_at_call 50;(with_reducible refine zaa (HV.out _) ?_);intro u0)|(go_at_call 49;(with_reducible refine zaa (HP.out _) ?_);intro u)|(go_at_call 42;(with_reducible refine zaa (HA.out _ ?_) ?_);(· exact gw);intro u)|(go_at_call 38;(with_reducible refine zaa (HS.out _) ?_);intro u)|(with_reducible refine wLi ?_))
  go_wp2_with (first|(with_reducible refine wSi ?_))
  refine bodyPost_ret (zcq Tryz.results30 rfl rfl rfl inferInstance inferInstance inferInstance inferInstance inferInstance inferInstance) rfl ?_
  exact ⟨by rw[HR.out];rfl,gwr⟩
 rw[h3] at HS
 cases h4:numB h
 ·rw[h4] at HV
  have HR:=Lib.hid (show zbW p x l s h=zeB 2 by unfold zbW zfs;rw[h1,h2,h3,h4];rfl)
  clear hd h1 h2 h3 h4
  generalize zbW p x l s h=R at *
  go_enter Tryz.func30,Tryz.ntmps30
  go_upto_region 3 with (first|(go_at_call 50;(with_reducible refine zaa (HV.out _) ?_);intro u0)|(go_at_call 49;(with_reducible refine zaa (HP.out _) ?_);intro u)|(go_at_call 42;(with_reducible refine zaa (HA.out _ ?_) ?_);(· exact gw);intro u)|(go_at_call 38;(with_reducible refine zaa (HS.out _) ?_);intro u)|(with_reducible refine wLi ?_))
  go_wp2_with (first|(with_reducible refine wSi ?_))
  refine bodyPost_ret (zcq Tryz.results30 rfl rfl rfl inferInstance inferInstance inferInstance inferInstance inferInstance inferInstance) rfl ?_
  exact ⟨by rw[HR.out];rfl,gwr⟩
 rw[h4] at HV
 by_cases h5:h=0
 ·have t5:(h==0)=true:=by simp[h5]
  have HR:=Lib.hid (show zbW p x l s h=zeB 2 by unfold zbW zfs;rw[h1,h2,h3,h4,show decide (h=0)=true by simp[h5]];rfl)
  clear hd h1 h2 h3 h4 h5
  generalize zbW p x l s h=R at *
  go_enter Tryz.func30,Tryz.ntmps30
  go_upto_region 3 with (first|(go_at_call 50;(with_reducible refine zaa (HV.out _) ?_);intro u0)|(go_at_call 49;(with_reducible refine zaa (HP.out _) ?_);intro u)|(go_at_call 42;(with_reducible refine zaa (HA.out _ ?_) ?_);(· exact gw);intro u)|(go_at_call 38;(with_reducible refine zaa (HS.out _) ?_);intro u)|(with_reducible refine wLi ?_))
  go_wp2_with (first|(with_reducible refine wSi ?_))
  refine bodyPost_ret (zcq Tryz.results30 rfl rfl rfl inferInstance inferInstance inferInstance inferInstance inferInstance inferInstance) rfl ?_
  exact ⟨by rw[HR.out];rfl,gwr⟩
 exact absurd hno (by unfold zfs;rw[h1,h2,h3,h4,show decide (h=0)=false by simp[h5]];decide)
theorem ziC (HL:zej 168) (p:Planet) (x:Arc) (l:List Pt) (s:State) (h:Int) [hp:Pl64 p] [hs:St64 s] [hh:S64 (⟨h,h⟩:Sp)] [hxt:S64 x.thrust] [hxf:S64 x.flow] [hxd:B64 x.dir] (w:World) (hd:zcF w x l) :
 Calls Tryz.prog 30 #[.agg p.cells.toArray,.agg x.cells.toArray,.agg #[.int .i64 s.t,.int .i64 s.p.x.lo,.int .i64 s.p.x.hi,.int .i64 s.p.y.lo,.int .i64 s.p.y.hi,.int .i64 s.p.z.lo,.int .i64 s.p.z.hi,.int .i64 s.v.x.lo,.int .i64 s.v.x.hi,.int .i64 s.v.y.lo,.int .i64 s.v.y.hi,.int .i64 s.v.z.lo,.int .i64 s.v.z.hi,.int .i64 s.m.lo,.int .i64 s.m.hi],.int .i64 h] w (zhv (zbW p x l s h) w):=by
 cases hok:zfs p x l s h
 ·exact zjj p x l s h w hd hok
 have hok':=hok
 unfold zfs at hok'
 simp only[Bool.and_eq_true,Bool.not_eq_true',decide_eq_false_iff_not] at hok'
 obtain ⟨h1,h2,h3,h4,h5⟩:=hok'
 have HP:=Lib.hid (fun w'=>show Calls Tryz.prog 49 #[.agg p.cells.toArray] w' _ from zfp p w')
 have HA:=Lib.hid (fun w' (g:Grew w w')=>show Calls Tryz.prog 42 #[.agg #[.int .i64 x.time,.int .i64 x.step,.int .i64 x.thrust.lo,.int .i64 x.thrust.hi,.int .i64 x.flow.lo,.int .i64 x.flow.hi,.int .i64 x.dir.x.lo,.int .i64 x.dir.x.hi,.int .i64 x.dir.y.lo,.int .i64 x.dir.y.hi,.int .i64 x.dir.z.lo,.int .i64 x.dir.z.hi,.slice x.drag.ao x.drag.n x.drag.cap,.int .i64 x.drop.lo,.int .i64 x.drop.hi]] w' _ from zdq x l w' (hd.grew g))
 have HS:=Lib.hid (fun w'=>zfY s w')
 have HV:=Lib.hid (fun w'=>zeS h w')
 rw[h1] at HP
 rw[h2] at HA
 rw[h3] at HS
 rw[h4] at HV
 have t5:(h==0)=false:=by simp[h5]
 have sO:s.p.Ok∧s.v.Ok:=⟨Bx.ok_of ((zh5 h3).1),Bx.ok_of ((zh5 h3).2.1)⟩
 have HR:=Lib.hid (show zbW p x l s h=zl3 p x l s h by
  unfold zbW
  rw[hok,if_pos rfl]
  exact zpb l h (zkX h1) (zrn h2) sO.1 sO.2 (zuz h4))
 have hdn:=zlA hd
 have hd':SlAt w (.slice x.drag.ao l.length x.drag.cap) l.length (l.flatMap Pt.cells):=by have h:=hd;unfold zcF at h;rw[hdn] at h;exact h
 have sD:S64 (stD h):=zo1 h
 have sT:S64 (⟨s.t,s.t⟩:Sp):=⟨hs.t,hs.t⟩
 have sL:S64 (stL x h 0).s:=zam _ _
 have sM:S64 (stM x s h 0).s:=zam _ _
 have KA:=Lib.hid (fun wy=>show Calls Tryz.prog 33 #[.agg #[.int .i64 s.t,.int .i64 s.t],.agg #[.int .i64 h,.int .i64 h]] wy (fun e w'=>e=.returned (.tuple #[.agg #[.int .i64 ((stF s h).s).lo,.int .i64 ((stF s h).s).hi],.int .i64 (stF s h).e])∧Grew wy w') from zfH ⟨s.t,s.t⟩ ⟨h,h⟩ wy)
 have KD:=Lib.hid (fun (n:Int) w=>show Calls Tryz.prog 51 #[.int .i64 n] w fun e w'=>e=.returned (.agg #[.int .i64 n,.int .i64 n])∧Grew w w' from zj4 n w)
 have K1:=Lib.hid (fun c wy hc hf=>show Calls Tryz.prog 53 #[.pointer (some ⟨c,0,none⟩),.agg #[.int .i64 x.flow.lo,.int .i64 x.flow.hi],.agg #[.int .i64 (imin h 0),.int .i64 (imax h 0)]] wy (RetC c (.agg #[.int .i64 ((stL x h 0).s).lo,.int .i64 ((stL x h 0).s).hi]) (stL x h 0).e wy) from zaP c 0 x.flow (stD h) wy hc hf)
 have K2:=Lib.hid (fun c wy hc hf=>show Calls Tryz.prog 52 #[.pointer (some ⟨c,0,none⟩),.agg #[.int .i64 s.m.lo,.int .i64 s.m.hi],.agg #[.int .i64 ((stL x h 0).s).lo,.int .i64 ((stL x h 0).s).hi]] wy (RetC c (.agg #[.int .i64 ((stM x s h 0).s).lo,.int .i64 ((stM x s h 0).s).hi]) (stM x s h 0).e wy) from zca c (stL x h 0).e s.m (stL x h 0).s wy hc hf)
 have HB:=Lib.hid (fun (hz:(stF s h).e=0) (e:Int) (he:stE x s h 0=e) c qE qD qM qP qV wx st n3 n4 n5 hq=>zuk p x l s h (stF s h).s.lo (stF s h).s (stD h) (stM x s h 0).s s.p s.v e c (w.heap.size) (w.heap.size+1) (w.heap.size+1+1) (w.heap.size+1+1+1) (w.heap.size+1+1+1+1) qE qD qM qP qV w wx (zbW p x l s h) rfl
  (fun q v hq hv w' g hc hf=>zk0 HL p x l q v (stM x s h 0).s c 0 w' hc hf hdn (fun wx b=>hd'.grew (Grew.but g n3 b)))
  (by
    rw[HR.out,←he]
    unfold zl3
    rw[if_neg (by omega)]
    rfl) st ⟨by omega⟩ ⟨by omega⟩ n3 n4 n5 hq)
 have HBD:=Lib.hid (fun hz:(stF s h).e≠0=>show zbW p x l s h=zeB (stF s h).e from HR.out.trans (if_pos hz))
 have HE:=Lib.hid (show stE x s h 0=if (stM x s h 0).e=0∧(stM x s h 0).s.lo≤0 then 4 else (stM x s h 0).e from rfl)
 clear hd hd' hdn hok h1 h2 h3 h4 h5 sD sT sL sM sO HR HL
 generalize zbW p x l s h=R at *
 generalize stE x s h 0=E4 at *
 generalize stM x s h 0=M at *
 generalize stL x h 0=L at *
 generalize stF s h=EF at *
 go_enter Tryz.func30,Tryz.ntmps30
 go_upto_region 4 with (first|(go_at_call 50;(with_reducible refine zaa (HV.out _) ?_);intro u0)|(go_at_call 49;(with_reducible refine zaa (HP.out _) ?_);intro u)|(go_at_call 42;(with_reducible refine zaa (HA.out _ ?_) ?_);(· exact gw);intro u)|(go_at_call 38;(with_reducible refine zaa (HS.out _) ?_);intro u)|(with_reducible refine wLi ?_))
 by_cases hz:EF.e=0
 ·have hz':(EF.e != 0)=false:=by simp[hz]
  have HB2:=Lib.hid (HB.out hz)
  clear HB HBD HP HA HS HV hz
  go_upto_region 9 with (first|(go_at_call 51;(with_reducible refine zaa (KD.out _ _) ?_);intro u1)|(go_at_call 33;(with_reducible refine zaa (KA.out _) ?_);intro u3)|(with_reducible refine wLr ?_)|(with_reducible refine wLi ?_)|(with_reducible refine wSf ?_)|(with_reducible refine wSi ?_))
  refine zaf (u3.world.heap.size+1) [0,L.e,M.e] 10 [9] [7,8] [] (fun W0=>[(9,BoxR W0 [.int .i64 0,.int .i64 0])]) [.agg #[.int .i64 L.s.lo,.int .i64 L.s.hi],.agg #[.int .i64 M.s.lo,.int .i64 M.s.hi]] [10] (by rfl) (by go_simp) (by go_simp) (by intro W0 hW0 x hx;simp only[List.mem_cons,List.not_mem_nil,or_false] at hx;rcases hx with rfl<;>first|exact zbc _ _ hW0 _) (by kernel_rfl) (by kernel_rfl) (by kernel_rfl) ?_
  intro pz hd0
  apply Exists.intro
  apply And.intro
  iterate 7 (apply zae hd0 (by kernel_rfl);(· intro uz xc;unfold zai;go_simp;rfl))
  apply zad hd0 0 (by kernel_rfl) (by rfl) (by decide)
  ·intro uz hfz hF;clear hF;unfold zah;go_simp;exact K1.out _ _ (by go_simp) hfz
  apply zad hd0 1 (by kernel_rfl) (by rfl) (by decide)
  ·intro uz hfz hF;clear hF;unfold zah;go_simp;exact K2.out _ _ (by go_simp) hfz
  apply zbd hd0 (by kernel_rfl)
  ·intro uz xc hF;clear hF;unfold za5;go_simp;refine (show Made (BoxR _ [.int .i64 0,.int .i64 0]) _ _ _ from ?_);exact zbe _ _ _ _
  apply zax
  rotate_left
  ·rfl
  intro uz hR hD hfz
  obtain ⟨q9,e9,hB9,kB9,nB9⟩:=(show BoxR _ [.int .i64 0,.int .i64 0] (pz 9) _ from hR 9 (by decide))
  clear hR hD
  rw[e9]
  clear e9
  have oB9:=zaG nB9
  have oC9:=zaH nB9
  have hB9:=zbq hB9 hd0 nB9
  have kB9:=za0 kB9
  have hB9_0:=(hB9 0 _ rfl).1
  have hB9f0:=(hB9 0 _ rfl).2
  have hB9i0:HasCell (uz.world) (q9) 0:=⟨_,hB9_0⟩
  have hB9_1:=(hB9 1 _ rfl).1
  have hB9f1:=(hB9 1 _ rfl).2
  have hB9i1:HasCell (uz.world) (q9) 1:=⟨_,hB9_1⟩
  have hB9b:BlockIn (uz.world) (q9):=BlockIn.of_cell hB9_0
  clear hB9
  refine zag (by rfl) ?_;unfold zap;go_simp
  refine zao ?_
  have lq:Less (u3.world.heap.size+1) q9:=zlH nB9
  have nw9:NewFor w q9:=zcG nB9
  go_upto_region 10 with (fail)
  refine zlt (fun Y=>MasR w (u3.world.heap.size+1) (w.heap.size) (w.heap.size+1) (w.heap.size+1+1) (w.heap.size+1+1+1) (w.heap.size+1+1+1+1) u3.world.heap.size (u3.world.heap.size+1+1) q9 p x s EF.s (stD h) M.s M.e Y) ⟨gwr,by go_simp,by go_simp,inferInstance,inferInstance,inferInstance,zau inferInstance rfl,zau inferInstance rfl,inferInstance,zau inferInstance rfl,zhq (by go_simp) (by go_simp)⟩ ?_
  intro Y hY
  have L1:=(show Less (w.heap.size+1+1+1+1) u3.world.heap.size from inferInstance).lt
  have n3:NewFor w (u3.world.heap.size+1):=inferInstance
  clear KA KD K1 K2
  generalize u3.world.heap.size=qE at *
  have hlq:=lq.lt
  obtain ⟨hg,hc,hf,rP,rA,rS,rN,rT,rE,rD,rm⟩:=hY
  have hl1:=rD.lt
  have hl2:=rm.lt
  have n4:NewFor w Y.heap.size:=⟨hg.size⟩
  have n5:NewFor w (Y.heap.size+1):=⟨by have:=n4.le;omega⟩
  have i_c:BlockIn Y (qE+1):=BlockIn.of_cell hc
  have hci:HasCell Y (qE+1) 0:=⟨_,hc⟩
  have i_rP:=rP.blockIn
  have i_rA:=rA.blockIn
  have i_rS:=rS.blockIn
  have i_rN:=rN.blockIn
  have i_rT:=rT.blockIn
  have i_rE:=rE.blockIn
  have i_rD:=rD.blockIn
  have i_rm:=rm.blockIn
  have:Apart (w.heap.size) (qE+1):=⟨by omega⟩
  have:Apart (w.heap.size+1) (qE+1):=⟨by omega⟩
  have:Apart (w.heap.size+1+1) (qE+1):=⟨by omega⟩
  have:Apart (w.heap.size+1+1+1) (qE+1):=⟨by omega⟩
  have:Apart (w.heap.size+1+1+1+1) (qE+1):=⟨by omega⟩
  have:Apart q9 (qE+1):=⟨by omega⟩
  by_cases he:M.e=0
  ·have he':(M.e==0)=true:=by simp[he]
   by_cases hl:M.s.lo≤0
   ·skip
    have hEE:=Lib.hid (HE.out.trans (if_pos ⟨he,hl⟩))
    clear HE he
    go_upto_region 13 with (first|(with_reducible refine wLr ?_)|(with_reducible refine wLi ?_)|(with_reducible refine wSf ?_)|(with_reducible refine wSi ?_))
    go_cut [18] (fun v18 wx=>v18=.pointer (some ⟨Y.heap.size+1,0,none⟩)∧TryR w (qE+1) (w.heap.size) (w.heap.size+1) (w.heap.size+1+1) (w.heap.size+1+1+1) (w.heap.size+1+1+1+1) qE (qE+1+1) q9 Y.heap.size (Y.heap.size+1) p x s EF.s (stD h) M.s s.p s.v 4 wx)
    case first=>
     go_wp2_with (first|(with_reducible refine wLr ?_)|(with_reducible refine wLi ?_)|(with_reducible refine wSf ?_)|(with_reducible refine wSi ?_))
     go_meet
     case rel=>exact ⟨rfl,gwr,by go_simp,by go_simp,inferInstance,inferInstance,inferInstance,inferInstance,inferInstance,inferInstance,inferInstance,inferInstance,inferInstance,inferInstance⟩
    case rest=>
    obtain ⟨rfl,hcut⟩:=hcut
    go_step
    exact HB2.out 4 hEE.out _ _ _ _ _ _ _ hcut n3 n4 n5 ⟨by omega,by omega,by omega,by omega,by omega,by omega,by omega,by omega,by omega,by omega,by omega⟩ _ _ _ _ _ _ _ _ _ _ _ _ _ _ _ _ _ _ _ _ _ _ _ _ _ _ _ _ _ _ _ _ _ _ _ _ _ _ _ _ _ _ _ _ _ _ _ _ _ _ _ _ _ _ _ _ _ _ _ _ _ _ _ _ _ _ _ _ _ _ _ _ _ _ _ _ _ _ _ _ _ _ _ _ _ _ _ _ _ _ _ _ _ _ _ _ _ _ _ _ _ _ _ _ _ _ _ _ _ _ _ _ _ _ _ _ _ _ _ _ _ _ _ _ _ _ _ _ _ _ _ _ _ _ _ _ _ _ _ _ _ _ _ _ _ _ _ _ _ _ _ _ _ _ _ _ _ _ _ _ _ _ _ _ _ _ _ _ _ _ _ _ _ _ _ _ _ _ _ _ _ _ _ _ _ _ _ _ _ _ _ _ _ _ _ _ _
   ·skip
    have hEE:=Lib.hid (HE.out.trans (if_neg (fun k=>hl k.2)))
    clear HE he
    go_upto_region 13 with (first|(with_reducible refine wLr ?_)|(with_reducible refine wLi ?_)|(with_reducible refine wSf ?_)|(with_reducible refine wSi ?_))
    go_cut [18] (fun v18 wx=>v18=.pointer (some ⟨Y.heap.size+1,0,none⟩)∧TryR w (qE+1) (w.heap.size) (w.heap.size+1) (w.heap.size+1+1) (w.heap.size+1+1+1) (w.heap.size+1+1+1+1) qE (qE+1+1) q9 Y.heap.size (Y.heap.size+1) p x s EF.s (stD h) M.s s.p s.v M.e wx)
    case first=>
     go_wp2_with (first|(with_reducible refine wLr ?_)|(with_reducible refine wLi ?_)|(with_reducible refine wSf ?_)|(with_reducible refine wSi ?_))
     go_meet
     case rel=>exact ⟨rfl,gwr,by go_simp,by go_simp,inferInstance,inferInstance,inferInstance,inferInstance,inferInstance,inferInstance,inferInstance,inferInstance,inferInstance,inferInstance⟩
    case rest=>
    obtain ⟨rfl,hcut⟩:=hcut
    go_step
    exact HB2.out M.e hEE.out _ _ _ _ _ _ _ hcut n3 n4 n5 ⟨by omega,by omega,by omega,by omega,by omega,by omega,by omega,by omega,by omega,by omega,by omega⟩ _ _ _ _ _ _ _ _ _ _ _ _ _ _ _ _ _ _ _ _ _ _ _ _ _ _ _ _ _ _ _ _ _ _ _ _ _ _ _ _ _ _ _ _ _ _ _ _ _ _ _ _ _ _ _ _ _ _ _ _ _ _ _ _ _ _ _ _ _ _ _ _ _ _ _ _ _ _ _ _ _ _ _ _ _ _ _ _ _ _ _ _ _ _ _ _ _ _ _ _ _ _ _ _ _ _ _ _ _ _ _ _ _ _ _ _ _ _ _ _ _ _ _ _ _ _ _ _ _ _ _ _ _ _ _ _ _ _ _ _ _ _ _ _ _ _ _ _ _ _ _ _ _ _ _ _ _ _ _ _ _ _ _ _ _ _ _ _ _ _ _ _ _ _ _ _ _ _ _ _ _ _ _ _ _ _ _ _ _ _ _ _ _ _ _ _ _
  ·have he':(M.e==0)=false:=by simp[he]
   have hEE:=Lib.hid (HE.out.trans (if_neg (fun k=>he k.1)))
   clear HE he
   go_upto_region 13 with (first|(with_reducible refine wLr ?_)|(with_reducible refine wLi ?_)|(with_reducible refine wSf ?_)|(with_reducible refine wSi ?_))
   go_cut [18] (fun v18 wx=>v18=.pointer (some ⟨Y.heap.size+1,0,none⟩)∧TryR w (qE+1) (w.heap.size) (w.heap.size+1) (w.heap.size+1+1) (w.heap.size+1+1+1) (w.heap.size+1+1+1+1) qE (qE+1+1) q9 Y.heap.size (Y.heap.size+1) p x s EF.s (stD h) M.s s.p s.v M.e wx)
   case first=>
    go_wp2_with (first|(with_reducible refine wLr ?_)|(with_reducible refine wLi ?_)|(with_reducible refine wSf ?_)|(with_reducible refine wSi ?_))
    go_meet
    case rel=>exact ⟨rfl,gwr,by go_simp,by go_simp,inferInstance,inferInstance,inferInstance,inferInstance,inferInstance,inferInstance,inferInstance,inferInstance,inferInstance,inferInstance⟩
   case rest=>
   obtain ⟨rfl,hcut⟩:=hcut
   go_step
   exact HB2.out M.e hEE.out _ _ _ _ _ _ _ hcut n3 n4 n5 ⟨by omega,by omega,by omega,by omega,by omega,by omega,by omega,by omega,by omega,by omega,by omega⟩ _ _ _ _ _ _ _ _ _ _ _ _ _ _ _ _ _ _ _ _ _ _ _ _ _ _ _ _ _ _ _ _ _ _ _ _ _ _ _ _ _ _ _ _ _ _ _ _ _ _ _ _ _ _ _ _ _ _ _ _ _ _ _ _ _ _ _ _ _ _ _ _ _ _ _ _ _ _ _ _ _ _ _ _ _ _ _ _ _ _ _ _ _ _ _ _ _ _ _ _ _ _ _ _ _ _ _ _ _ _ _ _ _ _ _ _ _ _ _ _ _ _ _ _ _ _ _ _ _ _ _ _ _ _ _ _ _ _ _ _ _ _ _ _ _ _ _ _ _ _ _ _ _ _ _ _ _ _ _ _ _ _ _ _ _ _ _ _ _ _ _ _ _ _ _ _ _ _ _ _ _ _ _ _ _ _ _ _ _ _ _ _ _ _ _ _ _
 ·have hz':(EF.e != 0)=true:=by simp[hz]
  have HRz:=Lib.hid (HBD.out hz)
  clear HB HBD HP HA HS HV hz
  go_wp2_with (first|(go_at_call 51;(with_reducible refine zaa (KD.out _ _) ?_);intro u1)|(go_at_call 33;(with_reducible refine zaa (KA.out _) ?_);intro u3)|(with_reducible refine wLr ?_)|(with_reducible refine wLi ?_)|(with_reducible refine wSf ?_)|(with_reducible refine wSi ?_))
  refine bodyPost_ret (zcq Tryz.results30 rfl rfl rfl inferInstance inferInstance inferInstance inferInstance inferInstance inferInstance) rfl ?_
  exact ⟨by rw[HRz.out];rfl,gwr⟩
end Go.Proofs.YtdkfkalplmgoeaaGreat
