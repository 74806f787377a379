/-
  Joined: LawFlies, FliesLaw.
-/
import Derived.Test.YtdkfkalplmgoeaaGreatFliesKH
import Derived.Test.YtdkfkalplmgoeaaGreatFliesOH
import Derived.Deep.DeepCutAuto
import Derived.Deep.QuietTactic
import Derived.BigQuiet
import Derived.Test.YtdkfkalplmgoeaaGreatRows
import Derived.SizedLaws
namespace Go.Proofs.YtdkfkalplmgoeaaGreat
open Go.RowKit Go.Shelf
set_option maxRecDepth 100000
set_option maxHeartbeats 16000000
set_option linter.unusedSimpArgs false
theorem ztM:(Tryz.prog.info? 58).map (fun i=>(i.zero,i.size,i.bytes))=some (some (.agg #[.int .i64 0,.int .i64 0,.int .i64 0]),3,24):=by kernel_rfl
def FarL (w:World) (row:Option Nat) (L:Arcs):Prop:=∀ y∈L,FarAt w row y.1.drag.ao y.2.length (y.2.flatMap Pt.cells)∧y.1.drag.n=y.2.length
theorem FarL.grew {w w':World} {row:Option Nat} {L:Arcs} (h:FarL w row L) (g:Grew w w'):FarL w' row L:=fun y hy=>⟨(h y hy).1.grew g,(h y hy).2⟩
theorem FarL.row {w w':World} {row row':Option Nat} {L:Arcs} (h:FarL w row L) (g:w.grownBy w' row) (hr:row'=row∨∀ b,row'=some b→w.heap.size≤b):FarL w' row' L:=fun y hy=>⟨(h y hy).1.row g hr,(h y hy).2⟩
theorem FarL.snoc {w:World} {row:Option Nat} {L:Arcs} (h:FarL w row L) (y:Arc × List Pt) (h1:FarAt w row y.1.drag.ao y.2.length (y.2.flatMap Pt.cells)) (h2:y.1.drag.n=y.2.length):FarL w row (L++[y]):=fun z hz=>by
 rcases List.mem_append.1 hz with hz|hz
 ·exact h z hz
 ·obtain rfl:z=y:=by simpa using hz
  exact ⟨h1,h2⟩
theorem zqk {w:World} {L L':Arcs} (h:ReL L L') {v v':Value} (hd:zcl w v L) (hs:SlAt w v' L'.length (L'.flatMap zcM)) {row:Option Nat} (hf:FarL w row L'):zcl w v' L':=by
 refine ⟨hs,fun y hy=>?_⟩
 have hb:y.1.time≤9223372036854775807∧y.1.step≤9223372036854775807:=by
  have hh:=hd.2
  clear hs hf hd
  induction h with
  |nil=>cases hy
  |@cons x r r' d _ ih=>
   rcases List.mem_cons.1 hy with e|e
   ·subst e
    exact (hh x (by simp)).2
   ·exact ih e (fun z hz=>hh z (by simp[hz]))
 refine ⟨?_,hb⟩
 obtain ⟨h1,h2⟩:=hf y hy
 unfold zcF
 rw[h2]
 exact h1.sl
theorem zvK {L L':Arcs} (h:ReL L L') (hL:zhe L):zhe L':=fun y hy=>by
 induction h with
 |nil=>cases hy
 |@cons x r r' d _ ih=>
  rcases List.mem_cons.1 hy with e|e
  ·subst e
   exact hL x (by simp)
  ·exact ih (fun z hz=>hL z (by simp[hz])) e
theorem zsg {L L':Arcs} (h:ReL L L'):∀ (i:Nat) (h1:i<L.length) (h2:i<L'.length),L'[i].2=L[i].2:=by
 induction h with
 |nil=>intro i h1;cases h1
 |@cons x r r' d _ ih=>
  intro i h1 h2
  match i with
  |0=>rfl
  |i+1=>exact ih i (by simpa using h1) (by simpa using h2)
theorem zms (p:Planet) (L:Arcs) (s:State) [hp:Pl64 p] [hs:St64 s] (hL:zhe L) (hB:∀ x∈L,x.2.length*24≤reachBytes) (v:Value) (w:World) (hd:zcl w v L) :
 Calls Tryz.prog 4 #[.agg p.cells.toArray,v,.agg s.cells.toArray] w fun e w'=>e=.returned (.bool true)∧Grew w w':=by
 have HLong:=Lib.hid (fun w' (g:Grew w w')=>zj3 60 L v w' (hd.grew g))
 have HF2:=Lib.hid (fun w' (g:Grew w w')=>zoD p L s hL v w' (hd.grew g))
 have HB2:=Lib.hid (fun w' (g:Grew w w')=>zmM p L s hL v w' (hd.grew g))
 have HI:=Lib.hid (fun (L':Arcs) (hr:ReL L L')=>zvK hr hL)
 have HA:=Lib.hid (fun (L':Arcs) (v':Value) (W:World) (row:Option Nat) (g:Grew w W) (hr:ReL L L') (hs':SlAt W v' L'.length (L'.flatMap zcM)) (hf:FarL W row L')=>zqk hr (hd.grew g) hs' hf)
 have Hdr:=Lib.hid hd.2
 have HBy:=Lib.hid hB
 obtain ⟨ao,cap,rfl,hm,hel⟩:=zdz hd
 have Hel:=Lib.hid hel
 clear hd hel hB hL
 go_enter Tryz.func4,Tryz.ntmps4
 go_upto_region 3 with (first|(go_at_call 10;(with_reducible refine (HLong.out _ ?_).mono ?_);(· exact gwr);rintro en w1 ⟨⟨b,rfl,hb34⟩,hg⟩;obtain ⟨ul,rfl⟩:=zal hg;clear hg;cases b)|(with_reducible refine wLr ?_)|(with_reducible refine wLi ?_)|(with_reducible refine wSf ?_)|(with_reducible refine wSi ?_))
 rotate_left
 ·go_wp2
  go_ret
  exact ⟨rfl,gwr⟩
 have h34:L.length≤34:=by simpa using hb34
 clear hb34
 go_wp2
 go_loopw [7,28] (fun v7 t wr=>∃ (k:Nat) (L':Arcs),t=.int .i64 k∧k≤L.length∧L'.length=k∧wr.ownsRow (w.heap.size+1+1) 48 15 v7 L'.length (L'.flatMap zcM)∧RowIs wr w.heap.size 43 p.cells∧RowIs wr (w.heap.size+1) 28 s.cells∧Grew w wr∧Hid (ReL (L.take k) L')∧Hid (FarL wr v7.ownBlock L')) (fun _ t _=>L.length-(intOf t).toNat)
 case atStart=>exact ⟨0,[],rfl,by omega,rfl,World.ownsRow_nil _ _ _ _,inferInstance,inferInstance,gwr,Lib.hid ReL.nil,Lib.hid (fun y hy=>by cases hy)⟩
 case round=>
  obtain ⟨k,L',rfl,hk,hLk,hrow,r3,r5,hg,Hre,Hfar⟩:=hrel
  obtain ⟨z,rfl⟩:=zal hg
  clear hg
  have i3:=r3.blockIn
  have i5:=r5.blockIn
  by_cases hlt:k<L.length
  ·obtain ⟨b,o,rfl,hb,hr⟩:=Hel.out k hlt
   obtain ⟨hdr,-,-⟩:=Hdr.out _ (List.getElem_mem hlt)
   have hby:=HBy.out _ (List.getElem_mem hlt)
   have ib:BlockIn w b:=⟨hb⟩
   have rz:=hr.grew z.grew
   have Hre2:=Lib.hid (fun (d:Sl)=>show ReL (L.take (k+1)) (L'++[(L[k].1.re d,L[k].2)]) from by
    rw[List.take_succ_eq_append_getElem hlt]
    exact Hre.out.snoc L[k] d)
   clear Hel Hdr HBy Hre hr
   go_upto_region 8 with (first|(with_reducible refine wLr ?_)|(with_reducible refine wLi ?_)|(with_reducible refine wSf ?_)|(with_reducible refine wSi ?_))
   have hown2:=hrow.alloc (.cells L[k].1.cells.toArray 48)
   have hlb:=zqb hrow
   refine zcR (fun Y=>RowIs Y w.heap.size 43 p.cells∧RowIs Y (w.heap.size+1) 28 s.cells∧RowIs Y z.world.heap.size 48 [.int .i64 L[k].1.time,.int .i64 L[k].1.step,.int .i64 L[k].1.thrust.lo,.int .i64 L[k].1.thrust.hi,.int .i64 L[k].1.flow.lo,.int .i64 L[k].1.flow.hi,.int .i64 L[k].1.dir.x.lo,.int .i64 L[k].1.dir.x.hi,.int .i64 L[k].1.dir.y.lo,.int .i64 L[k].1.dir.y.hi,.int .i64 L[k].1.dir.z.lo,.int .i64 L[k].1.dir.z.hi,.slice L[k].1.drag.ao L[k].1.drag.n L[k].1.drag.cap,.int .i64 L[k].1.drop.lo,.int .i64 L[k].1.drop.hi]∧Y.ownsRow (w.heap.size+1+1) 48 15 u7 L'.length (L'.flatMap zcM)∧z.world.heap.size<Y.heap.size∧Grew z.world Y) ⟨inferInstance,inferInstance,zdr (zhZ z.world L[k].1.cells 48 z.world.heap.size) rfl,hown2,by simp,gwr⟩ ?_
   clear i3 i5 r3 r5 rz hrow hown2
   rintro Yw ⟨r3,r5,r9,hrow,hzY,gY⟩
   obtain ⟨Y,rfl⟩:=zal gY
   clear gY
   have hsl:SlAt Y.world (.slice L[k].1.drag.ao L[k].1.drag.n L[k].1.drag.cap) L[k].2.length (L[k].2.flatMap Pt.cells):=SlAt.grew hdr (z.grew.trans Y.grew)
   have hrb:reachBytes=140737488351232:=by decide
   have hxb:L[k].2.length*24≤140737488355328:=by omega
   have hxl:(L[k].2.flatMap Pt.cells).length=L[k].2.length*3:=zi9 Pt.cells 3 (fun _=>rfl) _
   have hx1:∀ u∈L[k].2.flatMap Pt.cells,u.oneCell'=true:=fun u hu=>by
    obtain ⟨q,-,hq⟩:=List.mem_flatMap.1 hu
    simp[Pt.cells] at hq
    rcases hq with rfl|rfl|rfl<;>rfl
   have nbA:w.heap.size≤z.world.heap.size:=z.grew.size
   obtain ⟨bA,hbA⟩:∃ q,q=z.world.heap.size:=⟨_,rfl⟩
   rw[←hbA] at nbA r9 hzY hlb ⊢
   have nZ:NewFor z.world bA:=⟨by rw[hbA];exact Nat.le_refl _⟩
   clear hbA
   generalize L[k].1=x at *
   generalize L[k].2=l at *
   clear hdr hby
   have i3:=r3.blockIn
   have i5:=r5.blockIn
   have i9:=r9.blockIn
   have nA:NewFor w bA:=⟨nbA⟩
   go_upto_region 9 with (first|(at_builtin;go_loud (refine zkq Y.world rfl _ _ 46 rfl 58 3 24 _ Tryz.underlying46 ztM rfl (by decide) rfl _ _ _ hsl rfl hxl hx1 hxb ?_;intro ao' cap' y hsl' hnew))|(with_reducible refine wLr ?_)|(with_reducible refine wLi ?_)|(with_reducible refine wSf ?_)|(with_reducible refine wSi ?_))
   have a3:Apart w.heap.size bA:=zdg r3 r9 (by decide)
   have a5:Apart (w.heap.size+1) bA:=zdg r5 r9 (by decide)
   have hneA:u7.ownBlock≠some bA:=fun e=>by have:=hlb _ e;omega
   have hfn:FarAt y.world u7.ownBlock ao' l.length (l.flatMap Pt.cells):=by
    obtain ⟨ao2,cap2,e2,h1,h2⟩:=hsl'
    cases e2
    refine ⟨h1,fun i q hq=>?_⟩
    obtain ⟨b2,off2,e3,h3⟩:=h2 i q hq
    refine ⟨b2,off2,e3,h3,fun e4=>?_⟩
    have h5:=hnew b2 off2 e3
    have h6:=hlb b2 e4
    omega
   have hfn2:=hfn.set bA 12 (.slice ao' l.length cap') (fun b2 off2 e3=>by have:=hnew b2 off2 e3;omega)
   refine zcR (fun W=>RowIs W w.heap.size 43 p.cells∧RowIs W (w.heap.size+1) 28 s.cells∧RowIs W bA 48 [.int .i64 ((x.re ⟨ao',l.length,cap'⟩)).time,.int .i64 ((x.re ⟨ao',l.length,cap'⟩)).step,.int .i64 ((x.re ⟨ao',l.length,cap'⟩)).thrust.lo,.int .i64 ((x.re ⟨ao',l.length,cap'⟩)).thrust.hi,.int .i64 ((x.re ⟨ao',l.length,cap'⟩)).flow.lo,.int .i64 ((x.re ⟨ao',l.length,cap'⟩)).flow.hi,.int .i64 ((x.re ⟨ao',l.length,cap'⟩)).dir.x.lo,.int .i64 ((x.re ⟨ao',l.length,cap'⟩)).dir.x.hi,.int .i64 ((x.re ⟨ao',l.length,cap'⟩)).dir.y.lo,.int .i64 ((x.re ⟨ao',l.length,cap'⟩)).dir.y.hi,.int .i64 ((x.re ⟨ao',l.length,cap'⟩)).dir.z.lo,.int .i64 ((x.re ⟨ao',l.length,cap'⟩)).dir.z.hi,.slice ((x.re ⟨ao',l.length,cap'⟩)).drag.ao ((x.re ⟨ao',l.length,cap'⟩)).drag.n ((x.re ⟨ao',l.length,cap'⟩)).drag.cap,.int .i64 ((x.re ⟨ao',l.length,cap'⟩)).drop.lo,.int .i64 ((x.re ⟨ao',l.length,cap'⟩)).drop.hi]∧W.ownsRow (w.heap.size+1+1) 48 15 u7 L'.length (L'.flatMap zcM)∧Hid (FarL W u7.ownBlock L')∧Hid (FarAt W u7.ownBlock ao' l.length (l.flatMap Pt.cells))∧Grew w W) ⟨inferInstance,inferInstance,zdr inferInstance rfl,zaR (za7 hrow y.grew) bA 12 _ hneA,Lib.hid (Hfar.out.grew gwr),Lib.hid hfn2,gwr⟩ ?_
   rintro W ⟨s3,s5,s9,s7,Hf,Hn,gW⟩
   clear i3 i5 i9 r3 r5 r9 hrow hneA hfn hfn2 Hfar hsl hsl' hnew hlb
   have j3:=s3.blockIn
   have j5:=s5.blockIn
   have j9:=s9.blockIn
   have hyW:w.heap.size+1+1≤W.heap.size:=by have:=s5.lt;omega
   have b7:∀ k,u7.ownBlock=some k→w.heap.size≤k:=fun k e=>by have:=zaN s7 _ e;omega
   have n3:some w.heap.size≠u7.ownBlock:=fun e=>by have:=zaN s7 _ e.symm;omega
   have n5:some (w.heap.size+1)≠u7.ownBlock:=fun e=>by have:=zaN s7 _ e.symm;omega
   go_wp2_with (first|(with_reducible refine wLi ?_)|(at_builtin;go_loud (refine zjv (w.heap.size+1+1) W hyW rfl _ _ rfl u7 L' s7 rfl ((x.re ⟨ao',l.length,cap'⟩),l) _ rfl (by omega) ?_;intro v' w1 ho' hg' hr';have t3:=s3.kept hg' n3;have t5:=s5.kept hg' n5;have tf:=(Hf.out.row hg' hr').snoc ((x.re ⟨ao',l.length,cap'⟩),l) (Hn.out.row hg' hr') rfl;have g1:Grew w w1:=gW.grown hg' b7)))
   go_roundw
   ·exact ⟨k+1,L'++[((x.re ⟨ao',l.length,cap'⟩),l)],by go_num,by omega,by simp[hLk],ho',t3,t5,g1,Lib.hid (Hre2.out _),Lib.hid tf⟩
   ·simp[intOf];omega
  ·obtain rfl:k=L.length:=by omega
   have HLk:=Lib.hid hLk
   clear hLk
   have hre:=Hre.out
   rw[List.take_length] at hre
   have hAt:=HA.out L' u7 z.world _ z.grew hre (SlAt.of_owns hrow) Hfar.out
   have hI:=HI.out L' hre
   have HF1:=Lib.hid (fun W (g:Grew z.world W)=>show Calls Tryz.prog 11 #[.agg p.cells.toArray,u7,.agg s.cells.toArray] W (zcS (flyR p L s) W) from by
    have h:=znE p L' s hI u7 W (hAt.grew g)
    rw[hre.flyRe] at h
    exact h)
   have HB1:=Lib.hid (fun W (g:Grew z.world W)=>show Calls Tryz.prog 13 #[.agg p.cells.toArray,u7,.agg s.cells.toArray] W (zcS (zd8 p L s) W) from by
    have h:=zmo p L' s hI u7 W (hAt.grew g)
    rw[hre.backRe] at h
    exact h)
   have Hget:=Lib.hid (zsg hre)
   have Hdr2:=Lib.hid hAt.2
   obtain ⟨ao7,cap7,rfl,hm7,hel7⟩:=zdz hAt
   have Hel7:=Lib.hid hel7
   clear Hre Hfar HA HI hre hAt hI hel7 hrow HBy
   generalize flyR p L s=F at *
   generalize zd8 p L s=B at *
   go_upto_region 15 with (first|(go_at_call 11;(with_reducible refine (HF1.out _ ?_).mono ?_);(· exact gwr);rintro en w2 ⟨va,vb,rfl,sa,sb,hg⟩;obtain ⟨u1,rfl⟩:=zal hg;clear hg)|(go_at_call 12;(with_reducible refine (HF2.out _ ?_).mono ?_);(· exact gwr);rintro en w2 ⟨vc,vd,rfl,sc,sd,hg⟩;obtain ⟨u2,rfl⟩:=zal hg;clear hg)|(go_at_call 13;(with_reducible refine (HB1.out _ ?_).mono ?_);(· exact gwr);rintro en w2 ⟨ve,vf,rfl,se,sf,hg⟩;obtain ⟨u3,rfl⟩:=zal hg;clear hg)|(go_at_call 14;(with_reducible refine (HB2.out _ ?_).mono ?_);(· exact gwr);rintro en w2 ⟨vg,vh,rfl,sg,sh,hg⟩;obtain ⟨u4,rfl⟩:=zal hg;clear hg)|(with_reducible refine wLr ?_)|(with_reducible refine wLi ?_)|(with_reducible refine wSf ?_)|(with_reducible refine wSi ?_))
   go_upto_region 17 with (first|(go_at_call 15;(with_reducible refine zaa (zg7 F.stops _ _ _ (sa.grew gwr) (sc.grew gwr)) ?_);intro us1)|(go_at_call 16;(with_reducible refine zaa (zg8 F.tubes _ _ _ (sb.grew gwr) (sd.grew gwr)) ?_);intro us2)|(go_at_call 15;(with_reducible refine zaa (zg7 B.stops _ _ _ (se.grew gwr) (sg.grew gwr)) ?_);intro us3)|(go_at_call 16;(with_reducible refine zaa (zg8 B.tubes _ _ _ (sf.grew gwr) (sh.grew gwr)) ?_);intro us4)|(with_reducible refine wLr ?_)|(with_reducible refine wLi ?_)|(with_reducible refine wSf ?_)|(with_reducible refine wSi ?_))
   go_wp2
   go_loopw [111] (fun t wr=>∃ i:Nat,t=.int .i64 i∧i≤L.length∧Grew z.world wr) (fun t _=>L.length-(intOf t).toNat)
   case atStart=>exact ⟨0,rfl,by omega,gwr⟩
   case round=>
    obtain ⟨i,rfl,hi,hg⟩:=hrel
    obtain ⟨q,rfl⟩:=zal hg
    clear hg
    by_cases hil:i<L.length
    ·obtain ⟨b,o,rfl,hb,hr⟩:=Hel.out i hil
     obtain ⟨hdr,-,-⟩:=Hdr.out _ (List.getElem_mem hil)
     have hi7:i<L'.length:=by rw[HLk.out];exact hil
     obtain ⟨b7,o7,rfl,hb7,hr7⟩:=Hel7.out i hi7
     obtain ⟨hdr7,-,-⟩:=Hdr2.out _ (List.getElem_mem hi7)
     rw[Hget.out i hil hi7] at hdr7
     have ib:BlockIn z.world b:=⟨Nat.lt_of_lt_of_le hb z.grew.size⟩
     have ib7:BlockIn z.world b7:=⟨hb7⟩
     have c12:=(hr.grew z.grew).is 12 _ rfl
     have c7:=hr7.is 12 _ rfl
     have hd1:zcF z.world L[i].1 L[i].2:=hdr.grew z.grew
     clear hr hr7 hdr Hel Hdr Hel7 Hdr2 Hget HF1 HF2 HB1 HB2 HLong
     generalize L[i].1=x at *
     generalize L'[i].1=x' at *
     generalize L[i].2=l at *
     obtain ⟨aoD,capD,eD,hmD,hcD⟩:=hd1
     obtain ⟨aoE,capE,eE,-,hcE⟩:=hdr7
     simp only[Value.slice.injEq] at eD eE
     obtain ⟨q1,q2,q3⟩:=eD
     obtain ⟨p1,p2,p3⟩:=eE
     rw[q1,q2,q3] at c12
     rw[p1,p2,p3] at c7
     have hmD':l.length≤9223372036854775807:=by unfold maxLen at hmD;omega
     have HE1:=Lib.hid (fun k hk=>SlAt.elem (f:=Pt.cells) (c:=3) (fun _=>rfl) (by omega) hcD k hk)
     have HE2:=Lib.hid (fun k hk=>SlAt.elem (f:=Pt.cells) (c:=3) (fun _=>rfl) (by omega) hcE k hk)
     clear q1 q2 q3 p1 p2 p3 hcD hcE hmD
     go_wp2
     go_loopw [120] (fun t wr=>∃ k:Nat,t=.int .i64 k∧k≤l.length∧Grew z.world wr) (fun t _=>l.length-(intOf t).toNat)
     case atStart=>exact ⟨0,rfl,by omega,gwr⟩
     case round=>
      obtain ⟨k,rfl,hk2,hg⟩:=hrel
      obtain ⟨q2,rfl⟩:=zal hg
      clear hg
      by_cases hkl:k<l.length
      ·obtain ⟨d1,e1,rfl,hd1,-,f1⟩:=HE1.out k hkl
       obtain ⟨d2,e2,rfl,hd2,-,f2⟩:=HE2.out k hkl
       have id1:BlockIn z.world d1:=⟨hd1⟩
       have id2:BlockIn z.world d2:=⟨hd2⟩
       have g10:z.world.cell? ⟨d1,e1+k*3,none⟩=some (.int .i64 l[k].place):=by simpa using f1 0 _ rfl
       have g11:z.world.cell? ⟨d1,e1+k*3+1,none⟩=some (.int .i64 l[k].value.lo):=f1 1 _ rfl
       have g12:z.world.cell? ⟨d1,e1+k*3+2,none⟩=some (.int .i64 l[k].value.hi):=f1 2 _ rfl
       have g20:z.world.cell? ⟨d2,e2+k*3,none⟩=some (.int .i64 l[k].place):=by simpa using f2 0 _ rfl
       have g21:z.world.cell? ⟨d2,e2+k*3+1,none⟩=some (.int .i64 l[k].value.lo):=f2 1 _ rfl
       have g22:z.world.cell? ⟨d2,e2+k*3+2,none⟩=some (.int .i64 l[k].value.hi):=f2 2 _ rfl
       clear f1 f2 HE1 HE2
       generalize l[k]=pt at *
       have hEq:=eqPt
       go_upto_region 23 with (fail)
       go_quiet (fail)
       go_wp2
       go_roundw
       case rel=>exact ⟨k+1,by go_num,by omega,⟨q2.grew.os,q2.grew.tape,q2.grew.output,q2.grew.size,q2.grew.block⟩⟩
       case measure=>simp[intOf];omega
      ·go_wp2
       go_roundw
       case rel=>exact ⟨i+1,by go_num,by omega,gwr⟩
       case measure=>simp[intOf];omega
    ·go_wp2
     go_ret
     exact ⟨rfl,gwr⟩
end Go.Proofs.YtdkfkalplmgoeaaGreat
namespace Go.Proofs.YtdkfkalplmgoeaaGreat
open Go.RowKit Go.ChangeShapes Go.WideShapes Go.ChangeAt Go.Deep
set_option maxRecDepth 100000
set_option maxHeartbeats 8000000
namespace flightFliesRow
open Go.ChangeShapes Go.WideShapes Go.ChangeAt Go.RowKit
theorem own:ownKnob Tryz.prog.godebug=none:=by kernel_rfl
theorem lifted (os:Os) (started:os.Started) (H:Type) (enc:TypeId × Value→H) :
 ReturnsInHanded {} Tryz.checked os 4 .any (Rows.flightFliesSpec.pre6 enc Tryz.prog Tryz.f4 Rows.flightFliesRow.domain false) (Rows.flightFliesSpec.post enc Tryz.prog Tryz.f4 false true false false):=by
 refine returnsInHanded_of_change_sized (C:=Tryz.checked) own started (by kernel_rfl) Tryz.func4
  (ChangeSpec.witness6 (enc:=enc) (C:=Tryz.checked) false ⟨#[],#[.agg #[.int .i64 0,.int .i64 0,.int .i64 0,.int .i64 0,.int .i64 0,.int .i64 0,.int .i64 0,.int .i64 0,.int .i64 0,.int .i64 0,.int .i64 0,.int .i64 0,.int .i64 0,.int .i64 0],.slice none 0 0,.agg #[.int .i64 0,.int .i64 0,.int .i64 0,.int .i64 0,.int .i64 0,.int .i64 0,.int .i64 0,.int .i64 0,.int .i64 0,.int .i64 0,.int .i64 0,.int .i64 0,.int .i64 0,.int .i64 0,.int .i64 0]],[]⟩ 8 (by as_aux_lemma=>kernel_rfl) (by as_aux_lemma=>kernel_rfl) (by as_aux_lemma=>kernel_rfl) (by as_aux_lemma=>kernel_rfl)) ?_
 intro W base args ds gs before hval0 hW _ hsz0 _
 have hval:∀ (j:Nat) t v,Tryz.f4.params[j]?=some t→args[j]?=some v→Value.okWide Tryz.prog W .any base t v:=hval0
 have hW':=hW
 obtain ⟨p,q,hA0,hV,rfl,hfz,hnd⟩:=hW
 have hA:DataW.TrodAll enc Tryz.prog W 0 (fun _=>true) true Tryz.f4.params.toList args.toList ds p:=hA0
 have hsz:(DataW.weightsEach Tryz.prog (Tryz.f4.params.toList++Rows.flightFliesSpec.plain.varTypes Tryz.prog) (ds++gs)).all (·≤reachBytes)=true:=hsz0
 clear hsz0
 rw[Tryz.params4] at hA hval hsz
 obtain ⟨v0,vs0,d0,ds0,p0,q0,hargs,rfl,rfl,h0,r0⟩:=trodAll_cons hA
 obtain ⟨v1,vs1,d1,ds1,p1,q1,rfl,rfl,rfl,h1,r1⟩:=trodAll_cons r0
 obtain ⟨v2,vs2,d2,ds2,p2,q2,rfl,rfl,rfl,h2,r2⟩:=trodAll_cons r1
 obtain ⟨rfl,rfl,rfl⟩:=trodAll_nil r2
 obtain rfl:args=#[v0,v1,v2]:=by cases args;simp_all
 obtain ⟨rfl,rfl⟩:=trodVars_none hV
 obtain ⟨cs0,rfl,-⟩:=okWide_struct Tryz.underlying43 (hval 0 43 v0 rfl rfl)
 obtain ⟨ao1,n1,cap1,rfl⟩:=okWide_slice Tryz.underlying44 (hval 1 44 v1 rfl rfl)
 obtain ⟨cs2,rfl,-⟩:=okWide_struct Tryz.underlying28 (hval 2 28 v2 rfl rfl)
 have hwt:∀ n∈d1.weights Tryz.prog 44,n≤reachBytes:=fun n hn=>of_decide_eq_true (List.all_eq_true.1 hsz n (DataW.weights_mem_each (j:=1) (t:=44) rfl rfl n hn))
 obtain ⟨_,h0⟩:=h0
 obtain ⟨_,h1⟩:=h1
 obtain ⟨_,h2⟩:=h2
 obtain ⟨a0,e0,j1,j2,j3,j4,j5,j6,j7,j8,j9,j10,j11,j12,j13,j14⟩:=zkY h0
 obtain ⟨aoP,mP,capP,L,eP,hP,hL,hBy⟩:=zl9 h1 hwt
 rw[←(by simpa [Value.cells] using eP:Value.slice ao1 n1 cap1=.slice aoP mP capP)] at hP
 obtain ⟨a2,e2,s1,s2,s3,s4,s5,s6,s7,s8,s9,s10,s11,s12,s13,s14,s15⟩:=zm2 h2
 obtain rfl:cs0=a0.cells.toArray:=Array.ext' (by simpa [Value.cells] using e0)
 obtain rfl:cs2=a2.cells.toArray:=Array.ext' (by simpa [Value.cells] using e2)
 have hP0:Pl64 a0:=⟨⟨j1,j2⟩,⟨j3,j4⟩,⟨j5,j6⟩,⟨j7,j8⟩,zly j9 j10 j11 j12 j13 j14⟩
 have hS:St64 a2:=⟨s1,zly s2 s3 s4 s5 s6 s7,zly s8 s9 s10 s11 s12 s13,⟨s14,s15⟩⟩
 refine (zms a0 L a2 hL hBy _ W hP).mono fun e W' ⟨he,hg⟩=>?_
 subst he
 exact ⟨_,rfl,zpR (by kernel_rfl) (by kernel_rfl) rfl rfl Tryz.underlying4 hW' rfl hg⟩
theorem proved:Rows.FlightFliesSaid:=
 OpenClaim.holds_of_wide 4 Tryz.f4 rfl rfl rfl rfl rfl rfl rfl ⟨rfl,rfl,rfl,rfl,rfl⟩ rfl rfl rfl rfl rfl (by as_aux_lemma=>kernel_rfl) Tryz.func4 (by as_aux_lemma=>kernel_rfl)
  (of_decide_eq_true (by as_aux_lemma=>kernel_rfl)) (by unfold Func.isWrapper;first|(rw[if_pos (by decide +kernel)];kernel_rfl)|(rw[if_neg (by decide +kernel)];exact ⟨rfl,rfl⟩))
  (fun os started H enc _=>lifted os started H enc)
end flightFliesRow
end Go.Proofs.YtdkfkalplmgoeaaGreat
