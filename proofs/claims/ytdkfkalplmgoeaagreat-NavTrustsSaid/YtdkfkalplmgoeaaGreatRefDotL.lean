/-
  Joined: RefDot.
-/
import Derived.Test.YtdkfkalplmgoeaaGreatFolds2L
import Derived.Deep.RegionHeld3
namespace Go.Proofs.YtdkfkalplmgoeaaGreat
open Go.RowKit Go.Shelf
set_option maxRecDepth 100000
set_option maxHeartbeats 2000000
def zi1 (a b:Bx) (k:Nat):Res:=zaK mul2 z0 ((a.terms b).take k)
theorem znm (a b:Bx) (k:Nat) (hk:k<3) (s:Sp) (h:zi1 a b k=⟨s,0⟩) :
 zi1 a b (k+1)=if (mulR (a.at k) (b.at k)).e=0 then (if (addR s (mulR (a.at k) (b.at k)).s).e=0 then ⟨(addR s (mulR (a.at k) (b.at k)).s).s,0⟩ else errR (addR s (mulR (a.at k) (b.at k)).s).e) else errR (mulR (a.at k) (b.at k)).e:=by
 have hl:k<(a.terms b).length:=by simpa [Bx.terms] using hk
 have e:(a.terms b)[k]=(a.at k,b.at k):=by
  match k,hk with
  |0,_=>rfl
  |1,_=>rfl
  |2,_=>rfl
 unfold zi1 at *
 rw[List.take_succ_eq_append_getElem hl,zb2,h,if_pos rfl,e]
 rfl
theorem znl (a b:Bx) (k:Nat) (c:Int) (hc:c≠0) (h:zi1 a b k=errR c):zaK mul2 z0 (a.terms b)=errR c:=by
 unfold zi1 at h
 have e:a.terms b=(a.terms b).take k++(a.terms b).drop k:=(List.take_append_drop _ _).symm
 rw[e,zeB mul2 z0 _ _ (by rw[h];exact hc),h]
def elemOf (a:Bx):List Sp:=a.list
theorem znx (a:Bx):fewE a.list=zaL a.okB 2:=by
 unfold fewE
 rw[if_pos (by simp[Bx.list]),zjg]
theorem zlB (a:Bx) (k:Nat) (hk:k<a.list.length):a.list[k]=a.at k:=by
 have:k<3:=by simpa [Bx.list] using hk
 match k,this with
 |0,_=>rfl
 |1,_=>rfl
 |2,_=>rfl
theorem znX (a b:Bx) [ha:B64 a] [hb:B64 b] (ao1 ao2:Option Addr) (w:World) (hs1:SlAt w (.slice ao1 3 3) 3 [.int .i64 a.x.lo,.int .i64 a.x.hi,.int .i64 a.y.lo,.int .i64 a.y.hi,.int .i64 a.z.lo,.int .i64 a.z.hi]) (hs2:SlAt w (.slice ao2 3 3) 3 [.int .i64 b.x.lo,.int .i64 b.x.hi,.int .i64 b.y.lo,.int .i64 b.y.hi,.int .i64 b.z.lo,.int .i64 b.z.hi]):Calls Tryz.prog 187 #[.slice ao1 3 3,.slice ao2 3 3] w fun e w'=>e=.returned (.tuple #[.agg #[.int .i64 (zbn a b).s.lo,.int .i64 (zbn a b).s.hi],.int .i64 (zbn a b).e])∧Grew w w':=by
 have HA:=Lib.hid (fun w' (g:Grew w w')=>zgl a.list (.slice ao1 3 3) w' (hs1.grew g))
 have HB:=Lib.hid (fun w' (g:Grew w w')=>zgl b.list (.slice ao2 3 3) w' (hs2.grew g))
 rw[znx] at HA HB
 cases h1:a.okB
 ·have Hn:=Lib.hid (show zbn a b=errR 2 by unfold zbn;rw[h1];rfl)
  have HA2:=Lib.hid (fun w' g=>zaH (show zaL a.okB 2=2 by rw[h1];rfl) (HA.out w' g))
  clear HA h1 hs1 hs2
  go_enter Tryz.func187,Tryz.ntmps187
  go_wp2_with (first|(go_at_call 188;(with_reducible refine zaa (HA2.out _ gw) ?_);intro u)|((with_reducible refine zac ?_ ?_ ?_);(· kernel_rfl);(· kernel_rfl);(try simp only[List.append_eq,List.cons_append,List.nil_append]);(repeat (go_big_quiet_step ((first|(go_at_call 188;(with_reducible exact zad (HA2.out _ gw)))))));refine wpQuiet_nil ?_;rintro _ ⟨u,rfl⟩))
  refine bodyPost_ret (by (simp[results,Tryz.results187,go_sem]<;>rfl)) rfl ?_
  exact ⟨zaJ Hn.out.symm rfl,gw⟩
 have HA2:=Lib.hid (fun w' g=>zaH (show zaL a.okB 2=0 by rw[h1];rfl) (HA.out w' g))
 cases h2:b.okB
 ·have Hn:=Lib.hid (show zbn a b=errR 2 by unfold zbn;rw[h1,h2];rfl)
  have HB2:=Lib.hid (fun w' g=>zaH (show zaL b.okB 2=2 by rw[h2];rfl) (HB.out w' g))
  clear HA h1 hs1 hs2 HB h2
  go_enter Tryz.func187,Tryz.ntmps187
  go_wp2_with (first|(go_at_call 188;(with_reducible refine zaa (HA2.out _ gw) ?_);intro u)|(go_at_call 188;(with_reducible refine zaa (HB2.out _ gw) ?_);intro u)|((with_reducible refine zac ?_ ?_ ?_);(· kernel_rfl);(· kernel_rfl);(try simp only[List.append_eq,List.cons_append,List.nil_append]);(repeat (go_big_quiet_step ((first|(go_at_call 188;(with_reducible exact zad (HA2.out _ gw)))|(go_at_call 188;(with_reducible exact zad (HB2.out _ gw)))))));refine wpQuiet_nil ?_;rintro _ ⟨u,rfl⟩))
  refine bodyPost_ret (by (simp[results,Tryz.results187,go_sem]<;>rfl)) rfl ?_
  exact ⟨zaJ Hn.out.symm rfl,gw⟩
 have HB2:=Lib.hid (fun w' g=>zaH (show zaL b.okB 2=0 by rw[h2];rfl) (HB.out w' g))
 have Hn:=Lib.hid (show zbn a b=zaK mul2 z0 (a.terms b) by unfold zbn;rw[h1,h2];rfl)
 obtain ⟨ao1',cap1',e1,-,hx1⟩:=hs1
 cases e1
 obtain ⟨ao2',cap2',e2,-,hx2⟩:=hs2
 cases e2
 have HE1:=Lib.hid (SlAt.elem (f:=Sp.cells) (l:=a.list) (c:=2) (fun _=>rfl) (by decide) hx1)
 have HE2:=Lib.hid (SlAt.elem (f:=Sp.cells) (l:=b.list) (c:=2) (fun _=>rfl) (by decide) hx2)
 have Hstep:=Lib.hid (znm a b)
 have Hfail:=Lib.hid (znl a b)
 have Hfull:=Lib.hid (show zi1 a b 3=zaK mul2 z0 (a.terms b) from rfl)
 have Hat1:=Lib.hid (zlB a)
 have Hat2:=Lib.hid (zlB b)
 have Hs64:=Lib.hid (fun k=>show S64 (a.at k)∧S64 (b.at k) from by
  match k with
  |0=>exact ⟨ha.x,hb.x⟩
  |1=>exact ⟨ha.y,hb.y⟩
  |(n+2)=>exact ⟨ha.z,hb.z⟩)
 clear HA HB h1 h2 hx1 hx2
 go_enter Tryz.func187,Tryz.ntmps187
 go_wp2_with (first|(go_at_call 188;(with_reducible refine zaa (HA2.out _ gw) ?_);intro u1)|(go_at_call 188;(with_reducible refine zaa (HB2.out _ gw) ?_);intro u2))
 go_loopw [7] (fun t wr=>∃ (k:Nat) (s:Sp),t=.int .i64 k∧k≤3∧S64 s∧Hid (zi1 a b k=⟨s,0⟩)∧Grew w wr∧zan wr w.heap.size [.int .i64 0,.int .i64 0]∧zan wr u2.world.heap.size [.int .i64 s.lo,.int .i64 s.hi]) (fun t _=>3-(intOf t).toNat)
 case atStart=>exact ⟨0,z0,rfl,by omega,inferInstance,Lib.hid rfl,gw,bxt,bxt⟩
 case round=>
  obtain ⟨k,s,rfl,hk,hs,Hfo,hg,hA,hB⟩:=hrel
  obtain ⟨z,rfl⟩:=zaj hg
  clear hg
  have nu:w.heap.size+1≤u2.world.heap.size:=by have:=(show Grew (w.alloc (.cells #[.int .i64 0,.int .i64 0] 24)) u2.world from gw).size;simpa using this
  have:Apart (w.heap.size) (u2.world.heap.size):=⟨by omega⟩
  have:Apart (u2.world.heap.size) (w.heap.size):=⟨by omega⟩
  have nw:NewFor w u2.world.heap.size:=⟨by omega⟩
  have hA_0:=(hA 0 _ rfl).1
  have hAf0:=(hA 0 _ rfl).2
  have hAi0:HasCell (z.world) (w.heap.size) 0:=⟨_,hA_0⟩
  have hA_1:=(hA 1 _ rfl).1
  have hAf1:=(hA 1 _ rfl).2
  have hAi1:HasCell (z.world) (w.heap.size) 1:=⟨_,hA_1⟩
  have hAb:BlockIn (z.world) (w.heap.size):=BlockIn.of_cell hA_0
  clear hA
  have hB_0:=(hB 0 _ rfl).1
  have hBf0:=(hB 0 _ rfl).2
  have hBi0:HasCell (z.world) (u2.world.heap.size) 0:=⟨_,hB_0⟩
  have hB_1:=(hB 1 _ rfl).1
  have hBf1:=(hB 1 _ rfl).2
  have hBi1:HasCell (z.world) (u2.world.heap.size) 1:=⟨_,hB_1⟩
  have hBb:BlockIn (z.world) (u2.world.heap.size):=BlockIn.of_cell hB_0
  clear hB
  by_cases hlt:k<3
  ·obtain ⟨b1,o1,rfl,i1,hd1,hd2⟩:=HE1.out k (by simpa [Bx.list] using hlt)
   have hc0:=hd1 _ rfl
   have hc1:=hd2 1 _ rfl
   clear hd1 hd2
   have i1:BlockIn w b1:=⟨i1⟩
   obtain ⟨b2,o2,rfl,i2,he1,he2⟩:=HE2.out k (by simpa [Bx.list] using hlt)
   have hc2:=he1 _ rfl
   have hc3:=he2 1 _ rfl
   clear he1 he2
   have i2:BlockIn w b2:=⟨i2⟩
   rw[Hat1.out] at hc0 hc1
   rw[Hat2.out] at hc2 hc3
   have hk3:(k:Int)<3:=by omega
   have hst:=Hstep.out k hlt s Hfo.out
   obtain ⟨hx,hy⟩:=Hs64.out k
   generalize a.at k=x at *
   generalize b.at k=y at *
   have hc0z:z.world.cell? ⟨b1,o1+k*2,none⟩=some (.int .i64 x.lo):=z.grew.cell hc0
   have hc1z:z.world.cell? ⟨b1,o1+k*2+1,none⟩=some (.int .i64 x.hi):=z.grew.cell hc1
   have hc2z:z.world.cell? ⟨b2,o2+k*2,none⟩=some (.int .i64 y.lo):=z.grew.cell hc2
   have hc3z:z.world.cell? ⟨b2,o2+k*2+1,none⟩=some (.int .i64 y.hi):=z.grew.cell hc3
   by_cases c1:(mulR x y).e=0
   ·rw[if_pos c1] at hst
    have c1':((mulR x y).e != 0)=false:=by simp[c1]
    clear c1
    by_cases c2:(addR s (mulR x y).s).e=0
    ·rw[if_pos c2] at hst
     have Hst:=Lib.hid hst
     have c2':((addR s (mulR x y).s).e != 0)=false:=by simp[c2]
     clear c2 hst
     go_wp2
     go_region_held3 (fun w'=>w'.cell? ⟨b1,o1+k*2,none⟩=some (.int .i64 x.lo)∧w'.cell? ⟨b1,o1+k*2+1,none⟩=some (.int .i64 x.hi)∧w'.cell? ⟨b2,o2+k*2,none⟩=some (.int .i64 y.lo)∧w'.cell? ⟨b2,o2+k*2+1,none⟩=some (.int .i64 y.hi)) (exact ⟨by (first|(go_simp;done)),by (first|(go_simp;done)),by (first|(go_simp;done)),by (first|(go_simp;done))⟩) (first|(go_at_call 110;refine zaa (zeL x y _) ?_;intro u3))
     all_goals
      go_wp2_with (first|(go_at_call 33;(with_reducible refine zaa (zc8 _ _ _) ?_);intro u)|((with_reducible refine zac ?_ ?_ ?_);(· kernel_rfl);(· kernel_rfl);(try simp only[List.append_eq,List.cons_append,List.nil_append]);(repeat (go_big_quiet_step ((first|(go_at_call 33;(with_reducible exact zad (zc8 _ _ _)))))));refine wpQuiet_nil ?_;rintro _ ⟨u,rfl⟩))
      go_roundw
      case rel=>exact ⟨k+1,(addR s (mulR x y).s).s,by go_num,by omega,inferInstance,Lib.hid Hst.out,gw,bxt,bxt⟩
      case measure=>simp[intOf];omega
    ·rw[if_neg c2] at hst
     have He:=Lib.hid (Hfail.out (k+1) _ c2 hst)
     have c2':((addR s (mulR x y).s).e != 0)=true:=by simp[c2]
     clear c2 hst
     go_wp2
     go_region_held3 (fun w'=>w'.cell? ⟨b1,o1+k*2,none⟩=some (.int .i64 x.lo)∧w'.cell? ⟨b1,o1+k*2+1,none⟩=some (.int .i64 x.hi)∧w'.cell? ⟨b2,o2+k*2,none⟩=some (.int .i64 y.lo)∧w'.cell? ⟨b2,o2+k*2+1,none⟩=some (.int .i64 y.hi)) (exact ⟨by (first|(go_simp;done)),by (first|(go_simp;done)),by (first|(go_simp;done)),by (first|(go_simp;done))⟩) (first|(go_at_call 110;refine zaa (zeL x y _) ?_;intro u3))
     all_goals
      go_wp2_with (first|(go_at_call 33;(with_reducible refine zaa (zc8 _ _ _) ?_);intro u)|((with_reducible refine zac ?_ ?_ ?_);(· kernel_rfl);(· kernel_rfl);(try simp only[List.append_eq,List.cons_append,List.nil_append]);(repeat (go_big_quiet_step ((first|(go_at_call 33;(with_reducible exact zad (zc8 _ _ _)))))));refine wpQuiet_nil ?_;rintro _ ⟨u,rfl⟩))
      refine bodyPost_ret (by (simp[results,Tryz.results187,go_sem]<;>rfl)) rfl ?_
      exact ⟨zaJ (by rw[Hn.out,He.out]) rfl,gw⟩
   ·rw[if_neg c1] at hst
    have He:=Lib.hid (Hfail.out (k+1) _ c1 hst)
    have c1':((mulR x y).e != 0)=true:=by simp[c1]
    clear c1 hst
    go_wp2
    go_region_held3 (fun w'=>w'.cell? ⟨b1,o1+k*2,none⟩=some (.int .i64 x.lo)∧w'.cell? ⟨b1,o1+k*2+1,none⟩=some (.int .i64 x.hi)∧w'.cell? ⟨b2,o2+k*2,none⟩=some (.int .i64 y.lo)∧w'.cell? ⟨b2,o2+k*2+1,none⟩=some (.int .i64 y.hi)) (exact ⟨by (first|(go_simp;done)),by (first|(go_simp;done)),by (first|(go_simp;done)),by (first|(go_simp;done))⟩) (first|(go_at_call 110;refine zaa (zeL x y _) ?_;intro u3))
    all_goals
     go_wp2
     refine bodyPost_ret (by (simp[results,Tryz.results187,go_sem]<;>rfl)) rfl ?_
     exact ⟨zaJ (by rw[Hn.out,He.out]) rfl,gw⟩
  ·have hk':k=3:=by omega
   have hk3:¬ ((k:Int)<3):=by omega
   have hfo:=Hfo.out
   rw[hk',Hfull.out] at hfo
   have Hfo':=Lib.hid hfo
   clear hfo hk'
   go_wp2
   refine bodyPost_ret (by (simp[results,Tryz.results187,go_sem]<;>rfl)) rfl ?_
   exact ⟨zaS (by rw[Hn.out,Hfo'.out]),gw⟩
theorem SlAt.fresh2 {w:World} {m:Nat} [h:SizeAt w m] (l:List Value) (t:TypeId) (n cap:Nat) (o:Obj) (hn:n≤maxLen):SlAt ((w.alloc (.cells l.toArray t)).alloc o) (.slice (some ⟨m,0,none⟩) n cap) n l:=(SlAt.fresh l t n cap hn).grew ((Grew.refl _).alloc _)
theorem zmH (c:Nat) (e:Int) (a b:Bx) [ha:B64 a] [hb:B64 b] (w:World) (hc:w.cell? ⟨c,0,none⟩=some (.int .i64 e)) (hf:w.frozen? ⟨c,0,none⟩=false) :
 Calls Tryz.prog 146 #[.pointer (some ⟨c,0,none⟩),.agg #[.int .i64 a.x.lo,.int .i64 a.x.hi,.int .i64 a.y.lo,.int .i64 a.y.hi,.int .i64 a.z.lo,.int .i64 a.z.hi],.agg #[.int .i64 b.x.lo,.int .i64 b.x.hi,.int .i64 b.y.lo,.int .i64 b.y.hi,.int .i64 b.z.lo,.int .i64 b.z.hi]] w (RetC c (.agg #[.int .i64 ((doR e (zbn a b)).s).lo,.int .i64 ((doR e (zbn a b)).s).hi]) (doR e (zbn a b)).e w):=by
 have ib:BlockIn w c:=BlockIn.of_cell hc
 have hci:HasCell w c 0:=⟨_,hc⟩
 have Hb:=Lib.hid (But.refl hc)
 have Hc:=Lib.hid hc
 go_enter Tryz.func146,Tryz.ntmps146
 go_wp2_with (first|(first|(go_at_call 187;refine zaa (znX a b _ _ _ (SlAt.fresh2 _ _ _ _ _ (by simp[maxLen])) (SlAt.fresh _ _ _ _ (by simp[maxLen]))) ?_;intro u0)|(go_at_call 109;refine zar (zcg c e (zbn a b) _ (by go_simp) (by go_simp)) ?_;intro u)))
 refine bodyPost_ret (by (simp[results,Tryz.results146,go_sem]<;>rfl)) rfl ?_
 exact ⟨rfl,But.out btw Hc.out (by go_simp)⟩
end Go.Proofs.YtdkfkalplmgoeaaGreat
