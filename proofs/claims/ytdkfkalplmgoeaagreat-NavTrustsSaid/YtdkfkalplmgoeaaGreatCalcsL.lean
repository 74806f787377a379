/-
  Joined: Calcs.
-/
import Derived.Test.YtdkfkalplmgoeaaGreatRefOpsAllL
import Derived.Test.YtdkfkalplmgoeaaGreatFoldsL
import Derived.Test.YtdkfkalplmgoeaaGreatLexAllL
namespace Go.Proofs.YtdkfkalplmgoeaaGreat
open Go.RowKit Go.Shelf
set_option maxRecDepth 100000
set_option maxHeartbeats 2000000
theorem zmL (k:Nat) (r x:Int) (h:r*r≤x):zbG k r x*zbG k r x≤x:=by
 induction k generalizing r with
 |zero=>exact h
 |succ k ih=>
  unfold zbG
  split
  ·exact ih _ (by assumption)
  ·exact ih _ h
theorem zn2 (x:Int) (h:0≤x):zaW x*zaW x≤x:=zmL 49 0 x (by omega)
theorem zjv (x:Int) (h:0≤x):zc0 x=if decide (zaW x*zaW x<x) then zaW x+1 else zaW x:=by
 have:=zn2 x h
 unfold zc0
 by_cases e:zaW x*zaW x=x
 ·rw[if_pos e,if_neg (by simp;omega)]
 ·rw[if_neg e,if_pos (by simp;omega)]
theorem ziG (a:Sp) [ha:S64 a] (w:World):Calls Tryz.prog 185 #[.agg #[.int .i64 a.lo,.int .i64 a.hi]] w fun e w'=>e=.returned (.tuple #[.agg #[.int .i64 (za5 a).s.lo,.int .i64 (za5 a).s.hi],.int .i64 (za5 a).e])∧Grew w w':=by
 cases hk:a.okB
 ·have Hf:=Lib.hid (show errR 2=za5 a by unfold za5;rw[hk];rfl)
  go_enter Tryz.func185,Tryz.ntmps185
  go_wp2_with (first|(go_at_call 87;(with_reducible refine zaa (zdU a hk _) ?_);intro u)|((with_reducible refine zac ?_ ?_ ?_);(· kernel_rfl);(· kernel_rfl);(try simp only[List.append_eq,List.cons_append,List.nil_append]);(repeat (go_big_quiet_step ((first|(go_at_call 87;(with_reducible exact zad (zdU a hk _)))))));refine wpQuiet_nil ?_;rintro _ ⟨u,rfl⟩))
  refine bodyPost_ret (by (simp[results,Tryz.results185,go_sem]<;>rfl)) rfl ?_
  exact ⟨zaJ Hf.out rfl,gw⟩
 ·have h1:=zbZ hk
  have h2:=ha.lo.2
  have h3:=ha.hi.2
  by_cases hn:a.hi<0
  ·have Hf:=Lib.hid (show errR 4=za5 a by unfold za5;rw[hk,if_pos hn];rfl)
   go_enter Tryz.func185,Tryz.ntmps185
   go_wp2_with (first|(go_at_call 87;(with_reducible refine zaa (zbK a hk _) ?_);intro u)|((with_reducible refine zac ?_ ?_ ?_);(· kernel_rfl);(· kernel_rfl);(try simp only[List.append_eq,List.cons_append,List.nil_append]);(repeat (go_big_quiet_step ((first|(go_at_call 87;(with_reducible exact zad (zbK a hk _)))))));refine wpQuiet_nil ?_;rintro _ ⟨u,rfl⟩))
   refine bodyPost_ret (by (simp[results,Tryz.results185,go_sem]<;>rfl)) rfl ?_
   exact ⟨zaJ Hf.out rfl,gw⟩
  ·have Hf:=Lib.hid (show (⟨⟨zaW (imax a.lo 0*4294967296),zc0 (a.hi*4294967296)⟩,0⟩:Res)=za5 a by unfold za5;rw[hk,if_neg hn];rfl)
   obtain ⟨h11,h12,h13⟩:=h1
   obtain ⟨hr21,hr22⟩:=zda (a.hi*4294967296)
   have Hq:=Lib.hid (zjv (a.hi*4294967296) (by omega))
   obtain ⟨m,hm⟩:∃ m,m=imax a.lo 0:=⟨_,rfl⟩
   have hm0:0≤m∧m≤9223372036854775807:=by rw[hm];unfold imax;split<;>omega
   obtain ⟨hm1,hm2⟩:=hm0
   have Hm:=Lib.hid hm
   rw[←hm] at Hf
   have HW1:=Lib.hid (fun w=>zeW m ⟨by omega,hm2⟩ w)
   have HU1:=Lib.hid (fun w=>zeV m (by omega) w)
   have HW2:=Lib.hid (fun w=>zeW a.hi ⟨by omega,h3⟩ w)
   have HU2:=Lib.hid (fun w=>zeV a.hi (by omega) w)
   have HR1:=Lib.hid (fun w=>ziQ (m*4294967296) (by omega) (by omega) w)
   have HR2:=Lib.hid (fun w=>ziQ (a.hi*4294967296) (by omega) (by omega) w)
   have hsq:=ze9 (u:=zaW (a.hi*4294967296)) (v:=zaW (a.hi*4294967296)) (U:=562949953421312) (V:=562949953421312) hr21 (by omega) hr21 (by omega)
   have HT:=Lib.hid (fun w=>zcP (zaW (a.hi*4294967296)) (zaW (a.hi*4294967296)) ⟨by omega,by omega⟩ ⟨by omega,by omega⟩ w)
   have HLs:=Lib.hid (fun w=>zaI (zaW (a.hi*4294967296)*zaW (a.hi*4294967296)) (a.hi*4294967296) (by unfold R128;omega) (by unfold R128;omega) w)
   clear hsq hm
   rcases za3 (decide (zaW (a.hi*4294967296)*zaW (a.hi*4294967296)<a.hi*4294967296)) with c|c
   all_goals
    rw[c] at HLs Hq
    clear c
    generalize zaW (a.hi*4294967296)=r2 at *
    generalize zaW (m*4294967296)=r1 at *
    have hmx:(a.lo<0∧m=0)∨(¬ a.lo<0∧m=a.lo):=by
     have:=Hm.out
     unfold imax at this
     split at this
     ·exact .inl ⟨by assumption,this⟩
     ·exact .inr ⟨by assumption,this⟩
    rcases hmx with ⟨hx,rfl⟩|⟨hx,rfl⟩
    all_goals
     try rw[Int.zero_mul] at HU1 HR1
     go_enter Tryz.func185,Tryz.ntmps185
     go_wp2_with (first|(go_at_call 87;(with_reducible refine zaa (zbK a hk _) ?_);intro u)|(go_at_call 68;(with_reducible refine zaa (HW1.out _) ?_);intro u)|(go_at_call 68;(with_reducible refine zaa (HW2.out _) ?_);intro u)|(go_at_call 195;(with_reducible refine zaa (HU1.out _) ?_);intro u)|(go_at_call 195;(with_reducible refine zaa (HU2.out _) ?_);intro u)|(go_at_call 206;(with_reducible refine zaa (HR1.out _) ?_);intro u)|(go_at_call 206;(with_reducible refine zaa (HR2.out _) ?_);intro u)|(go_at_call 163;(with_reducible refine zaa (HT.out _) ?_);intro u)|(go_at_call 125;(with_reducible refine zaa (HLs.out _) ?_);intro u)|((with_reducible refine zac ?_ ?_ ?_);(· kernel_rfl);(· kernel_rfl);(try simp only[List.append_eq,List.cons_append,List.nil_append]);(repeat (go_big_quiet_step ((first|(go_at_call 87;(with_reducible exact zad (zbK a hk _)))|(go_at_call 68;(with_reducible exact zad (HW1.out _)))|(go_at_call 68;(with_reducible exact zad (HW2.out _)))|(go_at_call 195;(with_reducible exact zad (HU1.out _)))|(go_at_call 195;(with_reducible exact zad (HU2.out _)))|(go_at_call 206;(with_reducible exact zad (HR1.out _)))|(go_at_call 206;(with_reducible exact zad (HR2.out _)))|(go_at_call 163;(with_reducible exact zad (HT.out _)))|(go_at_call 125;(with_reducible exact zad (HLs.out _)))))));refine wpQuiet_nil ?_;rintro _ ⟨u,rfl⟩))
     refine bodyPost_ret (by (simp[results,Tryz.results185,go_sem]<;>rfl)) rfl ?_
     exact ⟨zaS (by rw[←Hf.out,Hq.out];(try simp)),gw⟩
theorem zgl (L:List Sp) (v:Value) (w:World) (h:SlAt w v L.length (L.flatMap Sp.cells)):Calls Tryz.prog 188 #[v] w fun e w'=>e=.returned (.int .i64 (fewE L))∧Grew w w':=by
 have hm:=h.len_le
 unfold maxLen at hm
 obtain ⟨ao,cap,rfl,-,hx⟩:=h
 have HE:=Lib.hid (SlAt.elem (f:=Sp.cells) (c:=2) (fun _=>rfl) (by omega) hx)
 clear hx
 by_cases hl:L.length≤64
 ·have Hcode:=Lib.hid (show fewE L=zaL (L.all Sp.okB) 2 by unfold fewE;rw[if_pos hl])
  go_enter Tryz.func188,Tryz.ntmps188
  go_wp2
  go_loopw [3] (fun t wr=>∃ k:Nat,t=.int .i64 k∧k≤L.length∧(L.take k).all Sp.okB=true∧Grew w wr) (fun t _=>L.length-(intOf t).toNat)
  case atStart=>exact ⟨0,rfl,by omega,rfl,Grew.refl _⟩
  case round=>
   obtain ⟨k,rfl,hk,hall,hg⟩:=hrel
   obtain ⟨z,rfl⟩:=zaj hg
   clear hg
   have Hall:=Lib.hid hall
   clear hall
   by_cases hlt:k<L.length
   ·obtain ⟨b1,o1,rfl,i1,hd1,hd2⟩:=HE.out k hlt
    have hc0:=hd1 _ rfl
    have hc1:=hd2 1 _ rfl
    clear hd1 hd2
    have i1:BlockIn w b1:=⟨i1⟩
    have Hno:=Lib.hid (fun h:(L[k]).okB=false=>zet Sp.okB L k hlt h)
    have Hyes:=Lib.hid (fun h:(L[k]).okB=true=>zcH Sp.okB L k hlt Hall.out h)
    generalize L[k]=x at *
    cases hx:x.okB
    ·go_wp2_with (first|(go_at_call 87;(with_reducible refine zaa (zdU x hx _) ?_);intro u))
     go_ret
     exact ⟨zaC (by rw[Hcode.out,Hno.out hx];rfl),gw⟩
    ·go_wp2_with (first|(go_at_call 87;(with_reducible refine zaa (zbK x hx _) ?_);intro u))
     go_roundw
     case rel=>exact ⟨k+1,by go_num,by omega,Hyes.out hx,gw⟩
     case measure=>simp[intOf];omega
   ·have hf:=zfD Sp.okB L k (by omega) Hall.out
    have Hf:=Lib.hid hf
    clear hf
    go_wp2
    go_ret
    exact ⟨zaC (by rw[Hcode.out,Hf.out];rfl),gw⟩
 ·have Hcode:=Lib.hid (show fewE L=3 by unfold fewE;rw[if_neg hl])
  go_enter Tryz.func188,Tryz.ntmps188
  go_wp2
  go_ret
  exact ⟨zaC Hcode.out.symm,gw⟩
theorem zmd (f:Sp→Res) (L:List Sx) (k:Nat) (hk:k<L.length) (s:Sp) (h:zaK f z0 (za4 (L.take k))=⟨s,0⟩) :
 zaK f z0 (za4 (L.take (k+1)))=if (f (L[k]).1).e=0 then (if (addR s (f (L[k]).1).s).e=0 then ⟨(addR s (f (L[k]).1).s).s,0⟩ else errR (addR s (f (L[k]).1).s).e) else errR (f (L[k]).1).e:=by
 rw[List.take_succ_eq_append_getElem hk]
 unfold za4 at *
 rw[List.map_append,List.map_cons,List.map_nil,zb2,h,if_pos rfl]
 rfl
theorem zmc (f:Sp→Res) (L:List Sx) (k:Nat) (c:Int) (hc:c≠0) (h:zaK f z0 (za4 (L.take k))=errR c):zaK f z0 (za4 L)=errR c:=by
 have e:za4 L=za4 (L.take k)++za4 (L.drop k):=by unfold za4;rw[←List.map_append,List.take_append_drop]
 rw[e,zeB f z0 _ _ (by rw[h];exact hc),h]
theorem zl0 {c:Int} (hc:c≠0):(if (errR c).e=0 then za5 (errR c).s else errR (errR c).e)=errR c:=if_neg hc
theorem zmb (l:List Sp) (h:fewE l=0):zbp l=if (zaK zai z0 l).e=0 then za5 (zaK zai z0 l).s else errR (zaK zai z0 l).e:=by
 unfold fewE at h
 unfold zbp
 split at h
 ·rename_i hl
  rw[if_pos hl]
  cases h2:l.all Sp.okB
  ·rw[h2] at h;cases h
  ·rfl
 ·cases h
theorem zma (l:List Sp) (h:fewE l≠0):zbp l=errR (fewE l):=by
 unfold fewE at h ⊢
 unfold zbp
 split at h
 ·rename_i hl
  rw[if_pos hl]
  cases h2:l.all Sp.okB
  ·rw[if_pos hl];rfl
  ·rw[h2] at h;exact absurd rfl h
 ·rename_i hl
  rw[if_neg hl,if_neg hl]
theorem zmy (L:List Sx) (ao:Option Addr) (cap:Nat) (w:World) (hs:SlAt w (.slice ao L.length cap) L.length (L.flatMap Sx.cells)) :
 Calls Tryz.prog 147 #[.slice ao L.length cap] w fun e w'=>e=.returned (.tuple #[.agg #[.int .i64 (zbp (za4 L)).s.lo,.int .i64 (zbp (za4 L)).s.hi],.int .i64 (zbp (za4 L)).e])∧Grew w w':=by
 have hlen:(za4 L).length=L.length:=by simp[za4]
 have hm:=hs.len_le
 unfold maxLen at hm
 have Hlist:=Lib.hid (show ∀ (w':World),Grew w w'→(fun w=>Calls Tryz.prog 188 #[.slice ao L.length cap] w fun e w'=>e=.returned (.int .i64 (fewE (za4 L)))∧Grew w w') w' from fun w' g=>zgl (za4 L) _ w' (by rw[hlen,←zlI];exact hs.grew g))
 obtain ⟨ao',cap',e1,-,hx⟩:=hs
 cases e1
 have HE:=Lib.hid (SlAt.elem (f:=Sx.cells) (c:=2) (fun _=>rfl) (by omega) hx)
 clear hx
 by_cases hf:fewE (za4 L)=0
 ·have Hn:=Lib.hid (zmb (za4 L) hf)
  rw[hf] at Hlist
  have HS:=Lib.hid (zgs zai (fun x=>inferInstance) (za4 L) z0 inferInstance)
  have Hstep:=Lib.hid (zmd zai L)
  have Hfail:=Lib.hid (zmc zai L)
  have Hfull:=Lib.hid (show L.take L.length=L from List.take_length)
  clear hf hlen
  go_enter Tryz.func147,Tryz.ntmps147
  go_wp2_with (first|(go_at_call 188;(with_reducible refine zaa (Hlist.out _ gw) ?_);intro u))
  go_loopw [6] (fun t wr=>∃ (k:Nat) (s:Sp),t=.int .i64 k∧k≤L.length∧S64 s∧Hid (zaK zai z0 (za4 (L.take k))=⟨s,0⟩)∧Grew w wr∧zan wr w.heap.size [.int .i64 0,.int .i64 0]∧zan wr u.world.heap.size [.int .i64 s.lo,.int .i64 s.hi]) (fun t _=>L.length-(intOf t).toNat)
  case atStart=>exact ⟨0,z0,rfl,by omega,inferInstance,Lib.hid rfl,gw,bxt,bxt⟩
  case round=>
   obtain ⟨k,s,rfl,hk,hs,Hfo,hg,hA,hB⟩:=hrel
   obtain ⟨z,rfl⟩:=zaj hg
   clear hg
   have nu:w.heap.size+1≤u.world.heap.size:=by have:=u.grew.size;simpa using this
   have:Apart (w.heap.size) (u.world.heap.size):=⟨by omega⟩
   have:Apart (u.world.heap.size) (w.heap.size):=⟨by omega⟩
   have nw:NewFor w u.world.heap.size:=⟨by omega⟩
   have hA_0:=(hA 0 _ rfl).1
   have hAf0:=(hA 0 _ rfl).2
   have hAi0:HasCell (z.world) (w.heap.size) 0:=⟨_,hA_0⟩
   have hA_1:=(hA 1 _ rfl).1
   have hAf1:=(hA 1 _ rfl).2
   have hAi1:HasCell (z.world) (w.heap.size) 1:=⟨_,hA_1⟩
   have hAb:BlockIn (z.world) (w.heap.size):=BlockIn.of_cell hA_0
   clear hA
   have hB_0:=(hB 0 _ rfl).1
   have hBf0:=(hB 0 _ rfl).2
   have hBi0:HasCell (z.world) (u.world.heap.size) 0:=⟨_,hB_0⟩
   have hB_1:=(hB 1 _ rfl).1
   have hBf1:=(hB 1 _ rfl).2
   have hBi1:HasCell (z.world) (u.world.heap.size) 1:=⟨_,hB_1⟩
   have hBb:BlockIn (z.world) (u.world.heap.size):=BlockIn.of_cell hB_0
   clear hB
   by_cases hlt:k<L.length
   ·obtain ⟨b1,o1,rfl,i1,hd1,hd2⟩:=HE.out k hlt
    have hc0:=hd1 _ rfl
    have hc1:=hd2 1 _ rfl
    clear hd1 hd2
    have i1:BlockIn w b1:=⟨i1⟩
    have hst:=Hstep.out k hlt s Hfo.out
    have hx:=(L[k]).2
    have hcell:(L[k]).cells=[.int .i64 (L[k]).1.lo,.int .i64 (L[k]).1.hi]:=rfl
    generalize (L[k]).1=x at *
    by_cases c1:(zai x).e=0
    ·rw[if_pos c1] at hst
     have c1':((zai x).e != 0)=false:=by simp[c1]
     clear c1
     by_cases c2:(addR s (zai x).s).e=0
     ·rw[if_pos c2] at hst
      have Hst:=Lib.hid hst
      have c2':((addR s (zai x).s).e != 0)=false:=by simp[c2]
      clear c2 hst
      go_wp2_with (first|(go_at_call 166;(with_reducible refine zaa (zdE x _) ?_);intro u)|(go_at_call 33;(with_reducible refine zaa (zc8 _ _ _) ?_);intro u))
      go_roundw
      case rel=>exact ⟨k+1,(addR s (zai x).s).s,by go_num,by omega,inferInstance,Lib.hid Hst.out,gw,bxt,bxt⟩
      case measure=>simp[intOf];omega
     ·rw[if_neg c2] at hst
      have He:=Lib.hid (Hfail.out (k+1) _ c2 hst)
      have c2':((addR s (zai x).s).e != 0)=true:=by simp[c2]
      have C2:=Lib.hid c2
      clear c2 hst
      go_wp2_with (first|(go_at_call 166;(with_reducible refine zaa (zdE x _) ?_);intro u)|(go_at_call 33;(with_reducible refine zaa (zc8 _ _ _) ?_);intro u))
      refine bodyPost_ret (by (simp[results,Tryz.results147,go_sem]<;>rfl)) rfl ?_
      exact ⟨zaJ (by rw[Hn.out,He.out,zl0 C2.out]) rfl,gw⟩
    ·rw[if_neg c1] at hst
     have He:=Lib.hid (Hfail.out (k+1) _ c1 hst)
     have c1':((zai x).e != 0)=true:=by simp[c1]
     have C1:=Lib.hid c1
     clear c1 hst
     go_wp2_with (first|(go_at_call 166;(with_reducible refine zaa (zdE x _) ?_);intro u))
     refine bodyPost_ret (by (simp[results,Tryz.results147,go_sem]<;>rfl)) rfl ?_
     exact ⟨zaJ (by rw[Hn.out,He.out,zl0 C1.out]) rfl,gw⟩
   ·have hk':k=L.length:=by omega
    have hfo:=Hfo.out
    rw[hk',Hfull.out] at hfo
    have Hfo':=Lib.hid hfo
    clear hfo hk'
    go_wp2_with (first|(go_at_call 185;(with_reducible refine zaa (ziG s _) ?_);intro u))
    refine bodyPost_ret (by (simp[results,Tryz.results147,go_sem]<;>rfl)) rfl ?_
    exact ⟨zaS (by rw[Hn.out,Hfo'.out,if_pos rfl]),gw⟩
 ·have Hn:=Lib.hid (zma (za4 L) hf)
  have hf':(fewE (za4 L) != 0)=true:=by simp[hf]
  clear hf hlen
  generalize fewE (za4 L)=c at *
  go_enter Tryz.func147,Tryz.ntmps147
  go_wp2_with (first|(go_at_call 188;(with_reducible refine zaa (Hlist.out _ gw) ?_);intro u))
  refine bodyPost_ret (by (simp[results,Tryz.results147,go_sem]<;>rfl)) rfl ?_
  exact ⟨zaJ Hn.out.symm rfl,gw⟩
end Go.Proofs.YtdkfkalplmgoeaaGreat
namespace Go.Proofs.YtdkfkalplmgoeaaGreat
open Go.RowKit Go.Shelf
set_option maxRecDepth 100000
set_option maxHeartbeats 2000000
structure But (c:Nat) (w w':World):Prop where
 os:w'.os=w.os
 tape:w'.tape=w.tape
 output:w'.output=w.output
 size:w.heap.size≤w'.heap.size
 lt:c<w.heap.size
 block:∀ k,k<w.heap.size→k≠c→w'.heap[k]?=w.heap[k]?
 kept:∃ v,w'.heap[c]?=(w.setCell ⟨c,0,none⟩ v).heap[c]?
theorem zdM {w:World} {c:Nat} {y:Value} (h:w.cell? ⟨c,0,none⟩=some y):∃ cs t fz,w.heap[c]?=some (.cells cs t fz)∧cs[0]?=some y:=by
 unfold World.cell? at h
 simp only at h
 split at h
 ·rename_i cs t fz heq
  exact ⟨cs,t,fz,heq,by simpa using h⟩
 ·cases h
theorem zcc {w:World} {c:Nat} {cs:Array Value} {t:TypeId} {fz:Nat × Nat} (h:w.heap[c]?=some (.cells cs t fz)) (v:Value):(w.setCell ⟨c,0,none⟩ v).heap[c]?=some (.cells (cs.setIfInBounds 0 v) t fz):=by
 unfold World.setCell
 simp[Array.getElem?_modify,h]
theorem zkm {cs:Array Value} {y:Value} (h:cs[0]?=some y):cs.setIfInBounds 0 y=cs:=by
 apply Array.ext_getElem?
 intro i
 rw[Array.getElem?_setIfInBounds]
 by_cases hi:0=i
 ·subst hi
  have:=(Array.getElem?_eq_some_iff.1 h).1
  rw[if_pos rfl,if_pos this,h]
 ·rw[if_neg hi]
theorem zdX {w:World} {c:Nat} {x:Value} (h:w.cell? ⟨c,0,none⟩=some x):w.setCell ⟨c,0,none⟩ x=w:=by
 obtain ⟨cs,t,fz,h1,h2⟩:=zdM h
 have:(w.setCell ⟨c,0,none⟩ x).heap=w.heap:=by
  apply Array.ext_getElem?
  intro i
  by_cases hi:i=c
  ·subst hi
   rw[zcc h1,h1,zkm h2]
  ·exact Below.heap_setCell w ⟨c,0,none⟩ x i hi
 unfold World.setCell at this ⊢
 simp only at this
 rw[this]
theorem zcK (w:World) (c:Nat) (x y:Value):(w.setCell ⟨c,0,none⟩ y).setCell ⟨c,0,none⟩ x=w.setCell ⟨c,0,none⟩ x:=by
 have:((w.setCell ⟨c,0,none⟩ y).setCell ⟨c,0,none⟩ x).heap=(w.setCell ⟨c,0,none⟩ x).heap:=by
  apply Array.ext_getElem?
  intro i
  by_cases hi:i=c
  ·subst hi
   cases h:w.heap[i]? with
   |none=>simp[World.setCell,Array.getElem?_modify,h]
   |some o=>cases o<;>simp[World.setCell,Array.getElem?_modify,h]
  ·rw[Below.heap_setCell _ ⟨c,0,none⟩ x i hi,Below.heap_setCell _ ⟨c,0,none⟩ y i hi,Below.heap_setCell _ ⟨c,0,none⟩ x i hi]
 unfold World.setCell at this ⊢
 simp only at this ⊢
 rw[this]
theorem But.refl {c:Nat} {w:World} {y:Value} (h:w.cell? ⟨c,0,none⟩=some y):But c w w:=
 ⟨rfl,rfl,rfl,Nat.le_refl _,World.block_lt_of_cell? w _ h,fun _ _ _=>rfl,y,by rw[zdX h]⟩
theorem But.alloc {c:Nat} {w w':World} (h:But c w w') (o:Obj):But c w (w'.alloc o):=
 ⟨h.os,h.tape,h.output,by have:=h.size;simp;omega,h.lt,fun k hk hc=>(Below.heap_alloc _ _ _ (by have:=h.size;omega)).trans (h.block k hk hc),by
  obtain ⟨v,hv⟩:=h.kept
  exact ⟨v,(Below.heap_alloc _ _ _ (by have:=h.size;have:=h.lt;omega)).trans hv⟩⟩
theorem But.drew {c:Nat} {w w':World} (h:But c w w'):But c w w'.drew:=⟨h.os,h.tape,h.output,h.size,h.lt,h.block,h.kept⟩
theorem But.later {c:Nat} {w w':World} (h:But c w w') (u:Later w'):But c w u.world:=
 ⟨u.grew.os.trans h.os,u.grew.tape.trans h.tape,u.grew.output.trans h.output,Nat.le_trans h.size (Below.size u.grew),h.lt,fun k hk hc=>(u.grew.block k (by have:=h.size;omega)).trans (h.block k hk hc),by
  obtain ⟨v,hv⟩:=h.kept
  exact ⟨v,(u.grew.block c (by have:=h.size;have:=h.lt;omega)).trans hv⟩⟩
theorem But.store {c:Nat} {w w':World} (h:But c w w') (b i:Nat) (v:Value) [hb:NewFor w b]:But c w (w'.setCell ⟨b,i,none⟩ v):=
 ⟨h.os,h.tape,h.output,by have:=h.size;simpa [World.setCell] using this,h.lt,fun k hk hc=>(Below.heap_setCell _ _ _ _ (by have:=hb.le;show k≠b;omega)).trans (h.block k hk hc),by
  obtain ⟨x,hx⟩:=h.kept
  exact ⟨x,(Below.heap_setCell _ _ _ _ (by have:=hb.le;have:=h.lt;show c≠b;omega)).trans hx⟩⟩
theorem But.put {c:Nat} {w w':World} (h:But c w w') (x:Value):But c w (w'.setCell ⟨c,0,none⟩ x):=
 ⟨h.os,h.tape,h.output,by have:=h.size;simpa [World.setCell] using this,h.lt,fun k hk hc=>(Below.heap_setCell _ _ _ _ hc).trans (h.block k hk hc),by
  obtain ⟨v,hv⟩:=h.kept
  refine ⟨x,?_⟩
  rw[←zcK w c x v]
  generalize w.setCell ⟨c,0,none⟩ v=w2 at *
  simp[World.setCell,Array.getElem?_modify,hv]⟩
theorem btw {c:Nat} {w w':World} (h:But c w w':=by repeat (first|with_reducible exact Hb.out|with_reducible apply But.alloc|with_reducible apply But.later|with_reducible apply But.drew|with_reducible apply But.put|with_reducible apply But.store)):But c w w':=h
theorem But.out {c:Nat} {w w':World} {x y:Value} (h:But c w w') (h0:w.cell? ⟨c,0,none⟩=some y) (hx:w'.cell? ⟨c,0,none⟩=some x):∃ u:Later w,w'=u.world.setCell ⟨c,0,none⟩ x:=by
 refine ⟨⟨w'.setCell ⟨c,0,none⟩ y,⟨h.os,h.tape,h.output,by have:=h.size;simpa [World.setCell] using this,fun k hk=>?_⟩⟩,?_⟩
 ·by_cases hc:k=c
  ·subst hc
   obtain ⟨v,hv⟩:=h.kept
   obtain ⟨cs,t,fz,h1,h2⟩:=zdM h0
   rw[zcc h1] at hv
   rw[zcc hv,h1]
   congr 2
   have:(cs.setIfInBounds 0 v).setIfInBounds 0 y=cs.setIfInBounds 0 y:=by
    apply Array.ext_getElem?
    intro i
    simp[Array.getElem?_setIfInBounds]
   rw[this,zkm h2]
  ·exact (Below.heap_setCell _ _ _ _ hc).trans (h.block k hk hc)
 ·rw[zcK,zdX hx]
def RetC (c:Nat) (v:Value) (e:Int) (w:World) (en:Ending) (w':World):Prop:=en=.returned v∧∃ u:Later w,w'=u.world.setCell ⟨c,0,none⟩ (.int .i64 e)
theorem zar {P:Program} {f:FuncId} {args:Array Value} {w:World} {c:Nat} {v:Value} {e:Int} {R:Ending→World→Prop}
 (h:Calls P f args w (RetC c v e w)) (k:∀ u:Later w,R (.returned v) (u.world.setCell ⟨c,0,none⟩ (.int .i64 e))):Calls P f args w R:=
 h.mono fun _ w' ⟨he,u,hu⟩=>by subst he;subst hu;exact k u
def doR (e:Int) (r:Res):Res:=if e=0 then r else errR e
theorem zb1 (r:Res):doR 0 r=r:=rfl
theorem ze0 {e:Int} (r:Res) (h:e≠0):doR e r=errR e:=if_neg h
instance zbL (e:Int) (r:Res) [h:S64 r.s]:S64 (doR e r).s:=by
 unfold doR
 split
 ·exact h
 ·exact zbc e
theorem zep {x y:Int} {r:Sp} (h1:x=r.lo) (h2:y=r.hi):Ending.returned (.agg #[.int .i64 x,.int .i64 y])=.returned (.agg #[.int .i64 r.lo,.int .i64 r.hi]):=by rw[h1,h2]
theorem zmx (c:Nat) (e e2:Int) (a:Sp) (w:World) (hc:w.cell? ⟨c,0,none⟩=some (.int .i64 e)) (hf:w.frozen? ⟨c,0,none⟩=false) :
 Calls Tryz.prog 109 #[.pointer (some ⟨c,0,none⟩),.agg #[.int .i64 a.lo,.int .i64 a.hi],.int .i64 e2] w (RetC c (.agg #[.int .i64 ((doR e ⟨a,e2⟩).s).lo,.int .i64 ((doR e ⟨a,e2⟩).s).hi]) (doR e ⟨a,e2⟩).e w):=by
 have ib:BlockIn w c:=BlockIn.of_cell hc
 have hci:HasCell w c 0:=⟨_,hc⟩
 have Hb:=Lib.hid (But.refl hc)
 have Hc:=Lib.hid hc
 by_cases he:e=0
 ·subst he
  have HD:=Lib.hid (zb1 ⟨a,e2⟩)
  go_enter Tryz.func109,Tryz.ntmps109
  go_wp2
  refine bodyPost_ret (by (simp[results,Tryz.results109,go_sem]<;>rfl)) rfl ?_
  refine ⟨zep (by rw[HD.out]) (by rw[HD.out]),But.out btw Hc.out ?_⟩
  rw[HD.out]
  go_simp
 ·have he':(e != 0)=true:=by simp[he]
  have HD:=Lib.hid (ze0 ⟨a,e2⟩ he)
  clear he
  go_enter Tryz.func109,Tryz.ntmps109
  go_wp2
  refine bodyPost_ret (by (simp[results,Tryz.results109,go_sem]<;>rfl)) rfl ?_
  refine ⟨zep (by rw[HD.out];rfl) (by rw[HD.out];rfl),But.out btw Hc.out ?_⟩
  rw[HD.out]
  show _=some (Value.int .i64 e)
  go_simp
end Go.Proofs.YtdkfkalplmgoeaaGreat
namespace Go.Proofs.YtdkfkalplmgoeaaGreat
open Go.RowKit Go.Shelf
set_option maxRecDepth 100000
set_option maxHeartbeats 2000000
theorem zcg (c:Nat) (e:Int) (r:Res) (w:World) (hc:w.cell? ⟨c,0,none⟩=some (.int .i64 e)) (hf:w.frozen? ⟨c,0,none⟩=false) :
 Calls Tryz.prog 109 #[.pointer (some ⟨c,0,none⟩),.agg #[.int .i64 r.s.lo,.int .i64 r.s.hi],.int .i64 r.e] w (RetC c (.agg #[.int .i64 ((doR e r).s).lo,.int .i64 ((doR e r).s).hi]) (doR e r).e w):=zmx c e r.e r.s w hc hf
theorem zci (c:Nat) (e:Int) (a b:Sp) [ha:S64 a] [hb:S64 b] (w:World) (hc:w.cell? ⟨c,0,none⟩=some (.int .i64 e)) (hf:w.frozen? ⟨c,0,none⟩=false) :
 Calls Tryz.prog 52 #[.pointer (some ⟨c,0,none⟩),.agg #[.int .i64 a.lo,.int .i64 a.hi],.agg #[.int .i64 b.lo,.int .i64 b.hi]] w (RetC c (.agg #[.int .i64 ((doR e (subR a b)).s).lo,.int .i64 ((doR e (subR a b)).s).hi]) (doR e (subR a b)).e w):=by
 have ib:BlockIn w c:=BlockIn.of_cell hc
 have hci:HasCell w c 0:=⟨_,hc⟩
 have Hb:=Lib.hid (But.refl hc)
 have Hc:=Lib.hid hc
 go_enter Tryz.func52,Tryz.ntmps52
 go_wp2_with (first|(go_at_call 31;(with_reducible refine zaa (znY a b _) ?_);intro u)|(go_at_call 109;refine zar (zcg c e (subR a b) _ (by go_simp) (by go_simp)) ?_;intro u))
 refine bodyPost_ret (by (simp[results,Tryz.results52,go_sem]<;>rfl)) rfl ?_
 exact ⟨rfl,But.out btw Hc.out (by go_simp)⟩
theorem zb6 (c:Nat) (e:Int) (a b:Sp) (w:World) (hc:w.cell? ⟨c,0,none⟩=some (.int .i64 e)) (hf:w.frozen? ⟨c,0,none⟩=false) :
 Calls Tryz.prog 141 #[.pointer (some ⟨c,0,none⟩),.agg #[.int .i64 a.lo,.int .i64 a.hi],.agg #[.int .i64 b.lo,.int .i64 b.hi]] w (RetC c (.agg #[.int .i64 ((doR e (zaG a b)).s).lo,.int .i64 ((doR e (zaG a b)).s).hi]) (doR e (zaG a b)).e w):=by
 have ib:BlockIn w c:=BlockIn.of_cell hc
 have hci:HasCell w c 0:=⟨_,hc⟩
 have Hb:=Lib.hid (But.refl hc)
 have Hc:=Lib.hid hc
 go_enter Tryz.func141,Tryz.ntmps141
 go_wp2_with (first|(go_at_call 184;(with_reducible refine zaa (zgm a b _) ?_);intro u)|(go_at_call 109;refine zar (zcg c e (zaG a b) _ (by go_simp) (by go_simp)) ?_;intro u))
 refine bodyPost_ret (by (simp[results,Tryz.results141,go_sem]<;>rfl)) rfl ?_
 exact ⟨rfl,But.out btw Hc.out (by go_simp)⟩
def Bx.list (b:Bx):List Sp:=[b.x,b.y,b.z]
def boxS (b:Bx) [h:B64 b]:List Sx:=[⟨b.x,h.x⟩,⟨b.y,h.y⟩,⟨b.z,h.z⟩]
theorem zmz (b:Bx) [h:B64 b] (ao:Option Addr) (w:World) (hs:SlAt w (.slice ao 3 3) 3 [.int .i64 b.x.lo,.int .i64 b.x.hi,.int .i64 b.y.lo,.int .i64 b.y.hi,.int .i64 b.z.lo,.int .i64 b.z.hi]):Calls Tryz.prog 147 #[.slice ao 3 3] w fun e w'=>e=.returned (.tuple #[.agg #[.int .i64 (zbp b.list).s.lo,.int .i64 (zbp b.list).s.hi],.int .i64 (zbp b.list).e])∧Grew w w':=zmy (boxS b) ao 3 w hs
theorem zlb (c:Nat) (e:Int) (b:Bx) [hb:B64 b] (w:World) (hc:w.cell? ⟨c,0,none⟩=some (.int .i64 e)) (hf:w.frozen? ⟨c,0,none⟩=false) :
 Calls Tryz.prog 91 #[.pointer (some ⟨c,0,none⟩),.agg #[.int .i64 b.x.lo,.int .i64 b.x.hi,.int .i64 b.y.lo,.int .i64 b.y.hi,.int .i64 b.z.lo,.int .i64 b.z.hi]] w (RetC c (.agg #[.int .i64 ((doR e (zbp b.list)).s).lo,.int .i64 ((doR e (zbp b.list)).s).hi]) (doR e (zbp b.list)).e w):=by
 have ib:BlockIn w c:=BlockIn.of_cell hc
 have hci:HasCell w c 0:=⟨_,hc⟩
 have Hb:=Lib.hid (But.refl hc)
 have Hc:=Lib.hid hc
 go_enter Tryz.func91,Tryz.ntmps91
 go_wp2_with (first|(go_at_call 147;(with_reducible refine zaa (zmz b _ _ (SlAt.fresh _ _ _ _ (by simp[maxLen]))) ?_);intro u)|(go_at_call 109;refine zar (zcg c e (zbp b.list) _ (by go_simp) (by go_simp)) ?_;intro u))
 refine bodyPost_ret (by (simp[results,Tryz.results91,go_sem]<;>rfl)) rfl ?_
 exact ⟨rfl,But.out btw Hc.out (by go_simp)⟩
instance zn8 (a:Sp):S64 (za5 a).s:=by
 unfold za5
 split
 ·split
  ·exact zbc 4
  ·have h1:=zda (imax a.lo 0*4294967296)
   have h2:=zda (a.hi*4294967296)
   refine ⟨by unfold I64;simp only[];omega,?_⟩
   unfold I64 zc0
   simp only[]
   split<;>omega
 ·exact zbc 2
instance zq4 (l:List Sp):S64 (zbp l).s:=by
 unfold zbp
 split
 ·split
  ·split
   ·exact zn8 _
   ·exact zbc _
  ·exact zbc _
 ·exact zbc _
end Go.Proofs.YtdkfkalplmgoeaaGreat
namespace Go.Proofs.YtdkfkalplmgoeaaGreat
open Go.RowKit
set_option maxRecDepth 100000
set_option maxHeartbeats 2000000
theorem zdd {w1 w2:World} {c:Nat} (h:w1.heap[c]?=w2.heap[c]?) (v:Value):(w1.setCell ⟨c,0,none⟩ v).heap[c]?=(w2.setCell ⟨c,0,none⟩ v).heap[c]?:=by
 simp[World.setCell,Array.getElem?_modify,h]
structure ButT (c:Nat) (w w':World):Prop where
 os:w'.os=w.os
 tape:w'.tape=w.tape
 output:w'.output=w.output
 size:w.heap.size≤w'.heap.size
 block:∀ k,k<w.heap.size→k≠c→w'.heap[k]?=w.heap[k]?
 kept:c<w.heap.size→(∃ v,w'.heap[c]?=(w.setCell ⟨c,0,none⟩ v).heap[c]?)∨w'.heap[c]?=w.heap[c]?
theorem ButT.refl (c:Nat) (w:World):ButT c w w:=⟨rfl,rfl,rfl,Nat.le_refl _,fun _ _ _=>rfl,fun _=>.inr rfl⟩
theorem ButT.trans {c:Nat} {a b d:World} (h:ButT c a b) (k:ButT c b d):ButT c a d:=
 ⟨k.os.trans h.os,k.tape.trans h.tape,k.output.trans h.output,Nat.le_trans h.size k.size,fun i hi hc=>(k.block i (by have:=h.size;omega) hc).trans (h.block i hi hc),fun hlt=>by
  rcases k.kept (by have:=h.size;omega) with ⟨v,hv⟩|hv
  ·left
   rcases h.kept hlt with ⟨v',hv'⟩|hv'
   ·exact ⟨v,by rw[hv,zdd hv',zcK]⟩
   ·exact ⟨v,by rw[hv,zdd hv']⟩
  ·rw[hv]
   exact h.kept hlt⟩
theorem ButT.grew {c:Nat} {w w':World} (g:Grew w w'):ButT c w w':=⟨g.os,g.tape,g.output,g.size,fun k hk _=>g.block k hk,fun hlt=>.inr (g.block c hlt)⟩
theorem ButT.put (c:Nat) (w:World) (x:Value):ButT c w (w.setCell ⟨c,0,none⟩ x):=
 ⟨rfl,rfl,rfl,by simp[World.setCell],fun _ _ hc=>Below.heap_setCell _ _ _ _ hc,fun _=>.inl ⟨x,rfl⟩⟩
theorem ButT.out {c:Nat} {w w':World} {x y:Value} (h:ButT c w w') (h0:w.cell? ⟨c,0,none⟩=some y) (hx:w'.cell? ⟨c,0,none⟩=some x):∃ u:Later w,w'=u.world.setCell ⟨c,0,none⟩ x:=by
 have hlt:=World.block_lt_of_cell? w _ h0
 refine But.out ⟨h.os,h.tape,h.output,h.size,hlt,h.block,?_⟩ h0 hx
 rcases h.kept hlt with h1|h1
 ·exact h1
 ·exact ⟨y,by rw[zdX h0,h1]⟩
structure GoodC (c:Nat) (F:Value→World→Prop):Prop where
 stable:∀ u w w',F u w→ButT c w w'→F u w'
 old:∀ u w,F u w→Old u w
theorem zkE (c:Nat):GoodC c fun u _=>zfz u=none:=⟨fun _ _ _ h _=>h,fun u _ h b hb=>by rw[h] at hb;cases hb⟩
theorem zj2 {c:Nat} (l:List (Nat × (Value→World→Prop))) (h:∀ x∈l,GoodC c x.2) (i:Nat):GoodC c (rOf l i):=by
 unfold rOf
 induction l with
 |nil=>exact zkE c
 |cons x l ih=>
  rw[List.lookup_cons]
  cases hx:i==x.1 with
  |true=>exact h x (by simp)
  |false=>exact ih (fun y hy=>h y (by simp[hy]))
theorem ButT.cell {c:Nat} {w w':World} (h:ButT c w w') {b i:Nat} (hb:b<w.heap.size) (hc:b≠c):w'.cell? ⟨b,i,none⟩=w.cell? ⟨b,i,none⟩:=World.cell?_of_block (w:=w) (h.block b hb hc)
theorem ButT.frozen {c:Nat} {w w':World} (h:ButT c w w') {b i:Nat} (hb:b<w.heap.size) (hc:b≠c):w'.frozen? ⟨b,i,none⟩=w.frozen? ⟨b,i,none⟩:=World.frozen?_of_block (w:=w) (h.block b hb hc)
theorem zdm (c:Nat) (w0:World) (h0:c<w0.heap.size) (cs:List Value):GoodC c (BoxR w0 cs):=by
 refine ⟨?_,(zbW w0 cs).old⟩
 rintro u w w' ⟨q,rfl,h1,h2,h4⟩ g
 have hq:q≠c:=by have:=h4.le;omega
 refine ⟨q,rfl,fun i v hv=>?_,⟨Nat.lt_of_lt_of_le h2.lt g.size⟩,h4⟩
 obtain ⟨a,b⟩:=h1 i v hv
 exact ⟨(g.cell h2.lt hq).trans a,(g.frozen h2.lt hq).trans b⟩
def SliceC (w0:World) (n:Nat) (cs:List Value) (u:Value) (w:World):Prop:=∃ q,u=.slice (some ⟨q,0,none⟩) n n∧RowAt w q cs∧BlockIn w q∧NewFor w0 q
def WC (c:Nat) (es:List Int) (k:Nat) (w:World):Prop:=w.cell? ⟨c,0,none⟩=some (.int .i64 (es.getD k 0))∧w.frozen? ⟨c,0,none⟩=false
section
variable {P:Program} {ops:Array Oper} {c:Nat} {es:List Int} {mks cl free:List Nat} {l:List (Nat × (Value→World→Prop))} {w0:World} {p:Nat→Value} {E:Act→Prop} {o:Oper} {r:List Oper} {i:Nat} {a:Act} {v:Value} {vs:List Value}
def LexC (P:Program) (ops:Array Oper) (c:Nat) (es:List Int) (mks cl free:List Nat) (l:List (Nat × (Value→World→Prop))) (w0:World) (p:Nat→Value) (E:Act→Prop):List Oper→Nat→Act→List Value→Prop:=Lex P ops mks cl free (ButT c) (WC c es) (rOf l) NoX w0 p E
abbrev CW (c:Nat) (w0:World) (u:Later w0) (x:Value):World:=u.world.setCell ⟨c,0,none⟩ x
theorem zqa {w0 w:World} {y:Value} (h0:w0.cell? ⟨c,0,none⟩=some y) (h:ButT c w0 w):∃ u x,w=CW c w0 u x:=by
 have hlt:=World.block_lt_of_cell? w0 _ h0
 obtain ⟨cs,t,fz,h1,h2⟩:=zdM h0
 have hx:∃ x,w.cell? ⟨c,0,none⟩=some x:=by
  rcases h.kept hlt with ⟨v,hv⟩|hv
  ·refine ⟨v,?_⟩
   rw[zcc h1] at hv
   have hs:0<cs.size:=(Array.getElem?_eq_some_iff.1 h2).1
   simp[World.cell?,hv,hs]
  ·exact ⟨y,by rw[World.cell?_of_block (w:=w0) hv,h0]⟩
 obtain ⟨x,hx⟩:=hx
 obtain ⟨u,hu⟩:=h.out h0 hx
 exact ⟨u,x,hu⟩
theorem zdp (u:Later w0) (x:Value) (cs:List Value) (t:TypeId):Made (BoxR w0 cs) (CW c w0 u x) (.pointer (some ⟨u.world.heap.size,0,none⟩)) ((CW c w0 u x).alloc (.cells cs.toArray t)):=by
 have h:NewFor w0 (CW c w0 u x).heap.size:=inferInstance
 have:=zbX w0 (CW c w0 u x) cs t
 rw[show (CW c w0 u x).heap.size=u.world.heap.size by simp[World.setCell]] at this
 exact this
theorem zd0 {u:Later w0} {x y:Value} {q:Nat} {cs:List Value} (h:zan (CW c w0 u x) q cs) (h0:w0.cell? ⟨c,0,none⟩=some y) (hn:NewFor w0 q):zan u.world q cs:=fun i v hv=>by
 have hne:q≠c:=by have:=hn.le;have:=World.block_lt_of_cell? w0 _ h0;simp at this;omega
 have:Apart q c:=⟨hne⟩
 obtain ⟨h1,h2⟩:=h i v hv
 rw[zca] at h1
 rw[World.frozen?_setCell] at h2
 exact ⟨h1,h2⟩
theorem zcL {u:Later w0} {x:Value} {q:Nat} (h:BlockIn (CW c w0 u x) q):BlockIn u.world q:=⟨by have:=h.lt;simpa [World.setCell] using this⟩
theorem zaY (h:E a):LexC P ops c es mks cl free l w0 p E [] i a []:=zjf h
theorem zas {y:Value} (h0:w0.cell? ⟨c,0,none⟩=some y) (h1:(mks.contains i||cl.contains i||free.contains i)=false) (h:∀ (u:Later w0) x,zae P o a (CW c w0 u x) v) (k:LexC P ops c es mks cl free l w0 p E r (i+1) (a.put o.dst v) vs):LexC P ops c es mks cl free l w0 p E (o::r) i a (v::vs):=by
 simp only[Bool.or_eq_false_iff] at h1
 refine zht (by simpa using h1.1.1) (by simpa using h1.1.2) (by simpa using h1.2) (fun w hT _=>?_) k
 obtain ⟨u,x,rfl⟩:=zqa h0 hT
 exact h u x
theorem zdo {y:Value} (h0:w0.cell? ⟨c,0,none⟩=some y) (h1:mks.contains i=true) (h:∀ (u:Later w0) x,zeY ops mks (rOf l) p i (CW c w0 u x)→za6 P o a (CW c w0 u x) (Made (rOf l i) (CW c w0 u x))) (k:LexC P ops c es mks cl free l w0 p E r (i+1) (a.put o.dst (p i)) vs):LexC P ops c es mks cl free l w0 p E (o::r) i a (p i::vs):=by
 refine zhs (by simpa using h1) (fun w hT hF=>?_) k
 have hlt:=World.block_lt_of_cell? w0 _ h0
 have hsz:w0.heap.size≤w.heap.size:=hT.size
 obtain ⟨u,x,rfl⟩:=zqa h0 hT
 have:=h u x hF
 unfold za6 at this ⊢
 generalize (execOp a.eval o).run P (CW c w0 u x)=q at *
 cases q with
 |ok n w'=>
  cases n<;>simp only[] at this
  obtain ⟨t1,t2,t3⟩:=this
  exact ⟨ButT.grew t1,t2,fun k ⟨hk1,hk2⟩=>⟨t1.cell hk1,(Below.frozen t1 (p:=⟨c,0,none⟩) (Nat.lt_of_lt_of_le hlt hsz)).trans hk2⟩,t3⟩
 |halt x w'=>exact this.elim
theorem zat {y:Value} (h0:w0.cell? ⟨c,0,none⟩=some y) (n:Nat) (h1:mks.contains i=false) (h2:cl[n]?=some i) (h3:cl.Nodup)
 (h:∀ u:Later w0,(CW c w0 u (.int .i64 (es.getD n 0))).frozen? ⟨c,0,none⟩=false→zeY ops mks (rOf l) p i (CW c w0 u (.int .i64 (es.getD n 0)))→zaw P o a (CW c w0 u (.int .i64 (es.getD n 0))) v (fun w'=>∃ u':Later (CW c w0 u (.int .i64 (es.getD n 0))),w'=u'.world.setCell ⟨c,0,none⟩ (.int .i64 (es.getD (n+1) 0))))
 (k:LexC P ops c es mks cl free l w0 p E r (i+1) (a.put o.dst v) vs):LexC P ops c es mks cl free l w0 p E (o::r) i a (v::vs):=by
 refine zhr n (by simpa using h1) h2 h3 (fun w hT hW hF=>?_) k
 have hlt:=World.block_lt_of_cell? w0 _ h0
 have hsz:w0.heap.size≤w.heap.size:=hT.size
 obtain ⟨u,rfl⟩:=ButT.out hT h0 hW.1
 have hw1:=hW.1
 have hw2:=hW.2
 have:=h u hW.2 hF
 refine zgX (X:=NoX) ?_
 unfold zaw at this ⊢
 generalize (execOp a.eval o).run P (CW c w0 u (.int .i64 (es.getD n 0)))=q at *
 cases q with
 |ok m w'=>
  cases m<;>simp only[] at this
  refine this.mono ?_
  rintro e w'' ⟨he,u',rfl⟩
  refine ⟨he,(ButT.grew u'.grew).trans (ButT.put c _ _),?_,?_⟩
  ·exact World.cell?_setCell_same _ _ _ (u'.grew.cell hw1)
  ·rw[World.frozen?_setCell]
   exact (Below.frozen u'.grew (p:=⟨c,0,none⟩) (Nat.lt_of_lt_of_le hlt hsz)).trans hw2
 |halt x w'=>exact this.elim
theorem zaq {id:Nat} {lo:List Oper} {Q:Exit→Act→World→Prop} {a0:Act} {w:World} (c:Nat) (es:List Int) (N:Nat) (mks cl free:List Nat) (l:World→List (Nat × (Value→World→Prop))) (cv:List Value) (tl:List Nat) (htl:List.range' N (lo.length-N)=tl)
 (h0:w.cell? ⟨c,0,none⟩=some (.int .i64 (es.getD 0 0))) (hf0:w.frozen? ⟨c,0,none⟩=false)
 (hg:∀ W0,c<W0.heap.size→∀ x∈l W0,GoodC c x.2) (hm:P.follows .mixedOrders=true) (hB:zjB lo.toArray N cl free=true) (hA:zgL N mks cl free=true)
 (hlex:∀ p,w.drew.cell? ⟨c,0,none⟩=some (.int .i64 (es.getD 0 0))→∃ vs,LexC P lo.toArray c es mks cl free (l w.drew) w.drew p (fun a=>∀ u:Later w.drew,(∀ j,j∈mks→rOf (l w.drew) j (p j) (CW c w.drew u (.int .i64 (es.getD cl.length 0))))→(∀ j j',j∈mks→j'∈mks→j≠j'→zc4 (p j) (p j'))→(CW c w.drew u (.int .i64 (es.getD cl.length 0))).frozen? ⟨c,0,none⟩=false→Tail P lo.toArray a (fun w''=>Q .normal a w'') tl (CW c w.drew u (.int .i64 (es.getD cl.length 0)))) (lo.take N) 0 a0 vs∧
   (cl.map fun c=>vs.getD c undef)=cv) :
 (Code.region id lo.toArray true).wp P Q a0 w:=by
 subst htl
 have hlt:c<w.drew.heap.size:=World.block_lt_of_cell? w _ h0
 have hd0:w.drew.cell? ⟨c,0,none⟩=some (.int .i64 (es.getD 0 0)):=h0
 refine zc3 N mks cl free (ButT c) (WC c es) (rOf (l w.drew)) NoX noX cv hm hB hA (fun w=>ButT.refl c w) (fun _ _ _ h k=>h.trans k) (fun i=>(zj2 _ (hg _ hlt) i).stable) (fun i=>(zj2 _ (hg _ hlt) i).old) ⟨h0,hf0⟩ fun p=>?_
 obtain ⟨vs,h1,h2⟩:=hlex p hd0
 refine ⟨vs,?_,h2⟩
 have mono:∀ (l':List Oper) (i:Nat) (a:Act) (vs:List Value) (E E':Act→Prop),(∀ a,E a→E' a)→Lex P lo.toArray mks cl free (ButT c) (WC c es) (rOf (l w.drew)) NoX w.drew p E l' i a vs→Lex P lo.toArray mks cl free (ButT c) (WC c es) (rOf (l w.drew)) NoX w.drew p E' l' i a vs:=by
  intro l'
  induction l' with
  |nil=>intro i a vs E E' hE h;exact ⟨h.1,hE _ h.2⟩
  |cons o r ih=>
   intro i a vs E E' hE h
   cases vs with
   |nil=>exact h
   |cons v vs=>exact ⟨h.1,ih _ _ _ _ _ hE h.2⟩
 refine mono _ _ _ _ _ _ (fun a h w' hT hW hR hD=>?_) h1
 obtain ⟨u,rfl⟩:=ButT.out hT hd0 hW.1
 exact (h u hR hD hW.2).out
end
end Go.Proofs.YtdkfkalplmgoeaaGreat
