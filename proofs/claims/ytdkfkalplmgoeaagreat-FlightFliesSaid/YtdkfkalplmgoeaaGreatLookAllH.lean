/-
  Joined: LookAll.
-/
import Derived.Test.YtdkfkalplmgoeaaGreatMonoFewH
import Derived.Test.YtdkfkalplmgoeaaGreatFoldsH
import Derived.Test.YtdkfkalplmgoeaaGreatLookCH
import Derived.Test.YtdkfkalplmgoeaaGreatRefDivsH
import Derived.Test.YtdkfkalplmgoeaaGreatSpanDivsH
import Derived.Maps.AppendAt
namespace Go.Proofs.YtdkfkalplmgoeaaGreat
open Go.RowKit Go.Shelf
set_option maxRecDepth 100000
set_option maxHeartbeats 8000000
theorem zdh {l:List Pt} (h:zaY l=true):1≤l.length∧l.length≤64∧(∀ k (hk:k<l.length),l[k].okB=true)∧∀ k (hk:k+1<l.length),l[k].place<l[k+1].place:=by
 unfold zaY at h
 simp only[Bool.and_eq_true,decide_eq_true_eq] at h
 obtain ⟨⟨h1,h2⟩,h3⟩:=h
 have key:∀ k (hk:k<l.length),ptAt l k=true:=fun k hk=>List.all_eq_true.1 h3 k (by simpa using hk)
 refine ⟨h1,h2,fun k hk=>?_,fun k hk=>?_⟩
 ·have:=key k hk
  cases k with
  |zero=>rwa [zhR l hk] at this
  |succ k=>rw[zgq l k hk] at this;simp only[Bool.and_eq_true] at this;exact this.1
 ·have:=key (k+1) hk
  rw[zgq l k hk] at this
  simp only[Bool.and_eq_true,decide_eq_true_eq] at this
  exact this.2
abbrev zPt:Pt:=⟨0,⟨0,0⟩⟩
theorem zdw {l:List Pt} {k:Nat} (hk:k<l.length):l.getD k zPt=l[k]:=by simp[List.getElem?_eq_getElem hk]
def zcj (l:List Pt) (up:Bool) (x:Int):Big × Big:=
 if idxT x l=0 then (ofB (bnd up (l.getD 0 zPt).value),ofB (bnd up (l.getD 0 zPt).value))
 else if idxT x l=l.length then (ofB (bnd up (l.getD (l.length-1) zPt).value),ofB (bnd up (l.getD (l.length-1) zPt).value))
 else if (l.getD (idxT x l) zPt).place=x then (ofB (bnd up (l.getD (idxT x l) zPt).value),ofB (bnd up (l.getD (idxT x l) zPt).value))
 else (segD up (l.getD (idxT x l-1) zPt) (l.getD (idxT x l) zPt) x,segU up (l.getD (idxT x l-1) zPt) (l.getD (idxT x l) zPt) x)
section
variable {l:List Pt} {up:Bool} {x:Int}
theorem zgB {p:Pt} (h:p.okB=true) (up:Bool):I64 (bnd up p.value):=by
 have:=(zih h up).2
 unfold I64
 omega
theorem zcn (ht:zaY l=true):(zcj l up x).1.ok∧(zcj l up x).2.ok∧(zcj l up x).1.val=(zb4 l up x).1∧(zcj l up x).2.val=(zb4 l up x).2:=by
 obtain ⟨h1,h2,h3,h4⟩:=zdh ht
 have one:∀ k (hk:k<l.length),(ofB (bnd up (l.getD k zPt).value)).ok:=fun k hk=>zgi _ (by rw[zdw hk];exact zgB (h3 k hk) up)
 unfold zcj zb4
 by_cases c0:idxT x l=0
 ·rw[if_pos c0,if_pos c0]
  exact ⟨one 0 (by omega),one 0 (by omega),zdx _,zdx _⟩
 rw[if_neg c0,if_neg c0]
 by_cases c1:idxT x l=l.length
 ·rw[if_pos c1,if_pos c1]
  exact ⟨one _ (by omega),one _ (by omega),zdx _,zdx _⟩
 rw[if_neg c1,if_neg c1]
 have hle:=zkM x l
 have hlt:idxT x l<l.length:=by omega
 have hp:(l.getD (idxT x l-1) zPt).place<x:=by rw[zdw (show idxT x l-1<l.length by omega)];exact zgJ _ _ (by omega)
 have hq:x≤(l.getD (idxT x l) zPt).place:=by rw[zdw hlt];exact zgI hlt
 by_cases c2:(l.getD (idxT x l) zPt).place=x
 ·rw[if_pos c2]
  refine ⟨one _ hlt,one _ hlt,?_,?_⟩
  ·rw[zdx]
   have:=(zo3 (up:=up) (p:=l.getD (idxT x l-1) zPt) (q:=l.getD (idxT x l) zPt) (by omega)).1
   simp only[c2] at this ⊢
   exact this.symm
  ·rw[zdx]
   have:=(zo3 (up:=up) (p:=l.getD (idxT x l-1) zPt) (q:=l.getD (idxT x l) zPt) (by omega)).2
   simp only[c2] at this ⊢
   exact this.symm
 ·rw[if_neg c2]
  have hf:=zka (up:=up) (p:=l.getD (idxT x l-1) zPt) (q:=l.getD (idxT x l) zPt) (x:=x) (by rw[zdw (show idxT x l-1<l.length by omega)];exact h3 _ _) (by rw[zdw hlt];exact h3 _ _) hp hq
  exact ⟨hf.2.2.2.1,hf.2.2.2.2.1,zqx,zqy⟩
end
theorem znp (v:Sp) (w:World):Calls Tryz.prog 210 #[.agg #[.int .i64 v.lo,.int .i64 v.hi]] w fun e w'=>e=.returned (.int .i64 (bnd false v))∧Grew w w':=by
 go_enter Tryz.func210,Tryz.ntmps210
 go_wp2
 go_ret
 exact ⟨rfl,gw⟩
theorem zno (v:Sp) (w:World):Calls Tryz.prog 211 #[.agg #[.int .i64 v.lo,.int .i64 v.hi]] w fun e w'=>e=.returned (.int .i64 (bnd true v))∧Grew w w':=by
 go_enter Tryz.func211,Tryz.ntmps211
 go_wp2
 go_ret
 exact ⟨rfl,gw⟩
theorem ze3 (x:Int) (h1:-9223372036854775808≤x) (h2:x≤9223372036854775807):IntKind.i64.wrap x=x:=by
 simp[IntKind.wrap,IntKind.bits,IntKind.signed]
 omega
theorem zr1 {d:Int} (h:0<d) (h2:d<18446744073709551616):ofB d=⟨false,0,d⟩:=by
 unfold ofB zcC
 congr 1
 ·simp
  omega
 ·omega
 ·omega
theorem zkm (G:Nat) (eg:∀ args w,(callFunc G args).run Tryz.prog w=.ok (.enter G args) w) (up:Bool) (HG:∀ v w,Calls Tryz.prog G #[.agg #[.int .i64 v.lo,.int .i64 v.hi]] w fun e w'=>e=.returned (.int .i64 (bnd up v))∧Grew w w') (l:List Pt) (x:Int) (ht:zaY l=true) (ao:Option Addr) (cap:Nat) (w:World) (hs:SlAt w (.slice ao l.length cap) l.length (l.flatMap Pt.cells)) :
 Calls Tryz.prog 209 #[.slice ao l.length cap,.int .i64 x,.func (.func G) #[] #[]] w fun e w'=>e=.returned (.tuple #[.agg #[.bool ((zcj l up x).1).neg,.int .u64 ((zcj l up x).1).hi,.int .u64 ((zcj l up x).1).lo],.agg #[.bool ((zcj l up x).2).neg,.int .u64 ((zcj l up x).2).hi,.int .u64 ((zcj l up x).2).lo]])∧Grew w w':=by
 have hm:=hs.len_le
 unfold maxLen at hm
 obtain ⟨ao',cap',e1,-,hx⟩:=hs
 cases e1
 have HE:=Lib.hid (SlAt.elem (f:=Pt.cells) (c:=3) (fun _=>rfl) (by omega) hx)
 clear hx
 obtain ⟨h1,h2,h3,h4⟩:=zdh ht
 have H3:=Lib.hid h3
 have HGu:=Lib.hid HG
 clear HG
 clear ht h3 h4
 generalize hL:zcj l up x=L at *
 have HL:=Lib.hid hL
 clear hL
 go_enter Tryz.func209,Tryz.ntmps209
 go_wp2
 go_loopw [8] (fun t wr=>∃ i:Nat,t=.int .i64 i∧i≤l.length∧(∀ j (hj:j<l.length),j<i→l[j].place<x)∧Grew ((w.alloc (.cells #[.bool false,.int .u64 0,.int .u64 0] 123)).alloc (.cells #[.bool false,.int .u64 0,.int .u64 0] 123)) wr) (fun t _=>l.length-(intOf t).toNat)
 case atStart=>exact ⟨0,rfl,by omega,fun _ _ h=>by omega,gw⟩
 case round=>
  obtain ⟨i,rfl,hi,hbe,hg⟩:=hrel
  obtain ⟨z,rfl⟩:=zal hg
  clear hg
  have Hbe:=Lib.hid hbe
  clear hbe
  by_cases hlt:i<l.length
  ·obtain ⟨b1,o1,e1,i1,hd1,hd2⟩:=HE.out i hlt
   have hc0:=hd1 _ rfl
   have hc1:=hd2 1 _ rfl
   have hc2:=hd2 2 _ rfl
   clear hd1 hd2
   cases e1
   have j1:BlockIn w b1:=⟨i1⟩
   have Hok:=Lib.hid (H3.out i hlt)
   have Hd:Hid (l.getD i zPt=l[i]):=Lib.hid (zdw hlt)
   by_cases hp:l[i].place<x
   ·have Hn:=Lib.hid (fun j (hj:j<l.length) (hji:j<i+1)=>show l[j].place<x by
     by_cases e:j=i
     ·subst e;exact hp
     ·exact Hbe.out j hj (by omega))
    generalize l[i]=q at *
    go_wp2
    go_roundw
    case rel=>exact ⟨i+1,by go_num,by omega,Hn.out,gw⟩
    case measure=>simp[intOf];omega
   ·have Hidx:=Lib.hid (show idxT x l=i from zgK (by omega) Hbe.out (fun _=>by omega))
    by_cases h0:i=0
    ·have t0:((i:Int)==0)=true:=by simp[h0]
     have Hv:=Lib.hid (show (ofB (bnd up l[i].value),ofB (bnd up l[i].value))=L by rw[←HL.out];unfold zcj;rw[Hidx.out,if_pos h0,←Hd.out,h0])
     have HI:=Lib.hid (zgB Hok.out up)
     generalize l[i]=q at *
     clear h0
     have HC:=Lib.hid (fun w=>HGu.out q.value w)
     have HO:=Lib.hid (fun w=>zbI (bnd up q.value) HI.out w)
     go_wp2_with (first|(go_at_fn G;refine zaa (HC.out _) ?_;intro u1)|(go_at_call 63;(with_reducible refine zaa (HO.out _) ?_);intro u2))
     go_region
     all_goals go_wp2
     all_goals
      refine bodyPost_ret (by (simp[results,Tryz.results209,go_sem]<;>rfl)) rfl ?_
      exact ⟨by rw[←Hv.out],gw⟩
    ·have t0:((i:Int)==0)=false:=by simp[h0]
     have t1:((i:Int)==l.length)=false:=by rw[beq_eq_false_iff_ne];omega
     by_cases hx:l[i].place=x
     ·have t2:(l[i].place==x)=true:=by simp[hx]
      have Hv:=Lib.hid (show (ofB (bnd up l[i].value),ofB (bnd up l[i].value))=L by rw[←HL.out];unfold zcj;rw[Hidx.out,if_neg h0,if_neg (by omega),Hd.out,if_pos hx])
      have HI:=Lib.hid (zgB Hok.out up)
      have hmin:i≤l.length-1:=by omega
      generalize l[i]=q at *
      clear h0 hx
      have HC:=Lib.hid (fun w=>HGu.out q.value w)
      have HO:=Lib.hid (fun w=>zbI (bnd up q.value) HI.out w)
      go_wp2_with (first|(go_at_fn G;refine zaa (HC.out _) ?_;intro u1)|(go_at_call 63;(with_reducible refine zaa (HO.out _) ?_);intro u2))
      go_region
      all_goals go_wp2
      all_goals
       refine bodyPost_ret (by (simp[results,Tryz.results209,go_sem]<;>rfl)) rfl ?_
       exact ⟨by rw[←Hv.out],gw⟩
     ·have t2:(l[i].place==x)=false:=by simp[hx]
      obtain ⟨b2,o2,e2,-,he1,he2⟩:=HE.out (i-1) (by omega)
      cases e2
      have kc0:=he1 _ rfl
      have kc1:=he2 1 _ rfl
      have kc2:=he2 2 _ rfl
      clear he1 he2
      have Hv:=Lib.hid (show (segD up l[i-1] l[i] x,segU up l[i-1] l[i] x)=L by rw[←HL.out];unfold zcj;rw[Hidx.out,if_neg h0,if_neg (by omega),Hd.out,if_neg hx,zdw (show i-1<l.length by omega)])
      have Hok1:=Lib.hid (H3.out (i-1) (by omega))
      have hb:=Hbe.out (i-1) (by omega) (by omega)
      have p1:=zih Hok1.out up
      have q1:=zih Hok.out up
      have Hf:=Lib.hid (zka (up:=up) Hok1.out Hok.out hb (by omega))
      have him:((i:Int)-1)=((i-1:Nat):Int):=by omega
      have hlt1:i-1<l.length:=by omega
      generalize l[i]=qA at *
      generalize l[i-1]=pA at *
      generalize i-1=i' at *
      obtain ⟨fT,fD,fU,fE,fH,sD,sU,fA⟩:=Hf.out
      have qp:=zr1 (d:=qA.place-pA.place) (by omega) (by omega)
      have HT:=Lib.hid (fun w=>zeD (bnd up qA.value-bnd up pA.value) (x-pA.place) (by unfold I64;omega) (by unfold I64;omega) w)
      have HO:=Lib.hid (fun w=>zbI (qA.place-pA.place) (by unfold I64;omega) w)
      have HA:=Lib.hid (fun w=>zbI (bnd up pA.value) (by unfold I64;omega) w)
      have HD:=Lib.hid (fun w=>show Calls Tryz.prog 180 #[.agg #[.bool ((zas (bnd up qA.value-bnd up pA.value) (x-pA.place))).neg,.int .u64 ((zas (bnd up qA.value-bnd up pA.value) (x-pA.place))).hi,.int .u64 ((zas (bnd up qA.value-bnd up pA.value) (x-pA.place))).lo],.agg #[.bool ((ofB (qA.place-pA.place))).neg,.int .u64 ((ofB (qA.place-pA.place))).hi,.int .u64 ((ofB (qA.place-pA.place))).lo]] w fun e w'=>e=.returned (.tuple #[.agg #[.bool ((zbk (zas (bnd up qA.value-bnd up pA.value) (x-pA.place)) (qA.place-pA.place))).neg,.int .u64 ((zbk (zas (bnd up qA.value-bnd up pA.value) (x-pA.place)) (qA.place-pA.place))).hi,.int .u64 ((zbk (zas (bnd up qA.value-bnd up pA.value) (x-pA.place)) (qA.place-pA.place))).lo],.agg #[.bool ((zdb (zas (bnd up qA.value-bnd up pA.value) (x-pA.place)) (qA.place-pA.place))).neg,.int .u64 ((zdb (zas (bnd up qA.value-bnd up pA.value) (x-pA.place)) (qA.place-pA.place))).hi,.int .u64 ((zdb (zas (bnd up qA.value-bnd up pA.value) (x-pA.place)) (qA.place-pA.place))).lo]])∧Grew w w' from by
       rw[qp]
       exact zgF (zas (bnd up qA.value-bnd up pA.value) (x-pA.place)) ⟨false,0,qA.place-pA.place⟩ fT (ziZ _ (by omega) (by omega)) rfl (by show (1:Int)≤qA.place-pA.place;omega) rfl w)
      have HP1:=Lib.hid (fun w=>show Calls Tryz.prog 62 #[.agg #[.bool ((ofB (bnd up pA.value))).neg,.int .u64 ((ofB (bnd up pA.value))).hi,.int .u64 ((ofB (bnd up pA.value))).lo],.agg #[.bool ((zbk (zas (bnd up qA.value-bnd up pA.value) (x-pA.place)) (qA.place-pA.place))).neg,.int .u64 ((zbk (zas (bnd up qA.value-bnd up pA.value) (x-pA.place)) (qA.place-pA.place))).hi,.int .u64 ((zbk (zas (bnd up qA.value-bnd up pA.value) (x-pA.place)) (qA.place-pA.place))).lo]] w fun e w'=>e=.returned (.agg #[.bool ((segD up pA qA x)).neg,.int .u64 ((segD up pA qA x)).hi,.int .u64 ((segD up pA qA x)).lo])∧Grew w w' from zgp _ _ w fA fD sD)
      have HP2:=Lib.hid (fun w=>show Calls Tryz.prog 62 #[.agg #[.bool ((ofB (bnd up pA.value))).neg,.int .u64 ((ofB (bnd up pA.value))).hi,.int .u64 ((ofB (bnd up pA.value))).lo],.agg #[.bool ((zdb (zas (bnd up qA.value-bnd up pA.value) (x-pA.place)) (qA.place-pA.place))).neg,.int .u64 ((zdb (zas (bnd up qA.value-bnd up pA.value) (x-pA.place)) (qA.place-pA.place))).hi,.int .u64 ((zdb (zas (bnd up qA.value-bnd up pA.value) (x-pA.place)) (qA.place-pA.place))).lo]] w fun e w'=>e=.returned (.agg #[.bool ((segU up pA qA x)).neg,.int .u64 ((segU up pA qA x)).hi,.int .u64 ((segU up pA qA x)).lo])∧Grew w w' from zgp _ _ w fA fU sU)
      clear fT fD fU fE fH sD sU fA Hf qp H3 HE Hbe Hok Hok1 Hd HL Hidx h0 hx
      obtain ⟨⟨a5,a6⟩,a1,a2⟩:=p1
      obtain ⟨⟨a7,a8⟩,a3,a4⟩:=q1
      generalize segD up pA qA x=D2 at *
      generalize segU up pA qA x=U2 at *
      generalize zbk (zas (bnd up qA.value-bnd up pA.value) (x-pA.place)) (qA.place-pA.place)=D1 at *
      generalize zdb (zas (bnd up qA.value-bnd up pA.value) (x-pA.place)) (qA.place-pA.place)=U1 at *
      generalize zas (bnd up qA.value-bnd up pA.value) (x-pA.place)=T1 at *
      generalize ofB (qA.place-pA.place)=O1 at *
      generalize ofB (bnd up pA.value)=A1 at *
      have HGp:=Lib.hid (fun w=>HGu.out pA.value w)
      have HGq:=Lib.hid (fun w=>HGu.out qA.value w)
      generalize bnd up pA.value=vp at *
      generalize bnd up qA.value=vq at *
      have hw3:IntKind.i64.wrap (vq-vp)=vq-vp:=ze3 _ (by omega) (by omega)
      have hw4:IntKind.i64.wrap (x-pA.place)=x-pA.place:=ze3 _ (by omega) (by omega)
      have hw5:IntKind.i64.wrap (qA.place-pA.place)=qA.place-pA.place:=ze3 _ (by omega) (by omega)
      have hw:IntKind.i64.wrap ((i:Int)-1)=(i':Int):=by rw[him];exact ze3 _ (by omega) (by omega)
      have k1:(0:Int)≤(i':Int):=by omega
      have k2:(i':Int)<(l.length:Int):=by omega
      have k3:(0:Int)≤(i:Int):=by omega
      have k4:(i:Int)<(l.length:Int):=by omega
      go_wp2
      go_region
      all_goals go_wp2
      all_goals
       refine zaJ 10 [] [3,7] [] (fun W0=>[]) [.int .i64 vp,.int .i64 vq] [] (by rfl) (fun _ x hx=>absurd hx (List.not_mem_nil)) (by kernel_rfl) (by kernel_rfl) (by kernel_rfl) ?_
       intro p
       apply Exists.intro
       apply And.intro
       iterate 3 (apply zaA (by kernel_rfl);(· intro u;unfold zai;go_simp;rfl))
       apply zaw 0 (by kernel_rfl) (by rfl) (by decide)
       ·intro u hF;clear hF;unfold zah;go_simp;exact HGp.out _
       iterate 3 (apply zaA (by kernel_rfl);(· intro u;unfold zai;go_simp;rfl))
       apply zaw 1 (by kernel_rfl) (by rfl) (by decide)
       ·intro u hF;clear hF;unfold zah;go_simp;exact HGq.out _
       iterate 2 (apply zaA (by kernel_rfl);(· intro u;unfold zai;go_simp;rfl))
       apply zbG
       rotate_left
       ·rfl
       intro u hR hD
       clear hR hD
       refine zao ?_
       go_simp
       go_wp2
       refine zaJ 18 [] [7,13,14] [17] (fun W0=>[]) [.agg #[.bool T1.neg,.int .u64 T1.hi,.int .u64 T1.lo],.agg #[.bool O1.neg,.int .u64 O1.hi,.int .u64 O1.lo],.tuple #[.agg #[.bool D1.neg,.int .u64 D1.hi,.int .u64 D1.lo],.agg #[.bool U1.neg,.int .u64 U1.hi,.int .u64 U1.lo]]] [18,19] (by rfl) (fun _ x hx=>absurd hx (List.not_mem_nil)) (by kernel_rfl) (by kernel_rfl) (by kernel_rfl) ?_
       intro p
       apply Exists.intro
       apply And.intro
       iterate 7 (apply zaA (by kernel_rfl);(· intro u;unfold zai;go_simp;rfl))
       apply zaw 0 (by kernel_rfl) (by rfl) (by decide)
       ·intro u hF;clear hF;unfold zah;go_simp;exact HT.out _
       iterate 5 (apply zaA (by kernel_rfl);(· intro u;unfold zai;go_simp;rfl))
       apply zaw 1 (by kernel_rfl) (by rfl) (by decide)
       ·intro u hF;clear hF;unfold zah;go_simp;exact HO.out _
       apply zaw 2 (by kernel_rfl) (by rfl) (by decide)
       ·intro u hF;clear hF;unfold zah;go_simp;exact HD.out _
       iterate 2 (apply zaA (by kernel_rfl);(· intro u;unfold zai;go_simp;rfl))
       apply zgf (by kernel_rfl)
       ·intro u;unfold zai;go_simp;rfl
       apply zbG
       rotate_left
       ·rfl
       intro u hR hD
       clear hR hD
       refine zag (by rfl) ?_;unfold zap;go_simp
       refine zag (by rfl) ?_;unfold zap;go_simp
       refine zao ?_
       go_simp
       go_wp2
       refine zaJ 8 [] [1,3,5,7] [] (fun W0=>[]) [.agg #[.bool A1.neg,.int .u64 A1.hi,.int .u64 A1.lo],.agg #[.bool D2.neg,.int .u64 D2.hi,.int .u64 D2.lo],.agg #[.bool A1.neg,.int .u64 A1.hi,.int .u64 A1.lo],.agg #[.bool U2.neg,.int .u64 U2.hi,.int .u64 U2.lo]] [8,9] (by rfl) (fun _ x hx=>absurd hx (List.not_mem_nil)) (by kernel_rfl) (by kernel_rfl) (by kernel_rfl) ?_
       intro p
       apply Exists.intro
       apply And.intro
       apply zaA (by kernel_rfl)
       ·intro u;unfold zai;go_simp;rfl
       apply zaw 0 (by kernel_rfl) (by rfl) (by decide)
       ·intro u hF;clear hF;unfold zah;go_simp;exact HA.out _
       apply zaA (by kernel_rfl)
       ·intro u;unfold zai;go_simp;rfl
       apply zaw 1 (by kernel_rfl) (by rfl) (by decide)
       ·intro u hF;clear hF;unfold zah;go_simp;exact HP1.out _
       apply zaA (by kernel_rfl)
       ·intro u;unfold zai;go_simp;rfl
       apply zaw 2 (by kernel_rfl) (by rfl) (by decide)
       ·intro u hF;clear hF;unfold zah;go_simp;exact HA.out _
       apply zaA (by kernel_rfl)
       ·intro u;unfold zai;go_simp;rfl
       apply zaw 3 (by kernel_rfl) (by rfl) (by decide)
       ·intro u hF;clear hF;unfold zah;go_simp;exact HP2.out _
       apply zbG
       rotate_left
       ·rfl
       intro u hR hD
       clear hR hD
       refine zag (by rfl) ?_;unfold zap;go_simp
       refine zag (by rfl) ?_;unfold zap;go_simp
       refine zao ?_
       go_wp2
       refine bodyPost_ret (by (simp[results,Tryz.results209,go_sem]<;>rfl)) rfl ?_
       exact ⟨by rw[←Hv.out],gw⟩
  ·have hi2:i=l.length:=by omega
   have Hidx:=Lib.hid (show idxT x l=i from zgK (by omega) Hbe.out (fun h=>absurd h (by omega)))
   obtain ⟨k,hk⟩:∃ k,l.length=k+1:=⟨l.length-1,by omega⟩
   have hkl:k<l.length:=by omega
   obtain ⟨b1,o1,e1,i1,hd1,hd2⟩:=HE.out k hkl
   have hc0:=hd1 _ rfl
   have hc1:=hd2 1 _ rfl
   have hc2:=hd2 2 _ rfl
   clear hd1 hd2
   cases e1
   have j1:BlockIn w b1:=⟨i1⟩
   have Hok:=Lib.hid (H3.out k hkl)
   have Hv:=Lib.hid (show (ofB (bnd up l[k].value),ofB (bnd up l[k].value))=L by rw[←HL.out];unfold zcj;rw[Hidx.out,if_neg (by omega),if_pos hi2,show l.length-1=k by omega,zdw hkl])
   have HI:=Lib.hid (zgB Hok.out up)
   generalize l[k]=q at *
   subst hi2
   have c0:((l.length:Int)==0)=false:=by rw[beq_eq_false_iff_ne];omega
   have him:((l.length:Int)-1)=k:=by omega
   have hmin:min (l.length:Int) (k:Int)=k:=Int.min_eq_right (by omega)
   clear HE Hbe H3 Hok HL Hidx hk hi hlt
   trace_state
   have HC:=Lib.hid (fun w=>HGu.out q.value w)
   have HO:=Lib.hid (fun w=>zbI (bnd up q.value) HI.out w)
   go_wp2_with (first|(go_at_fn G;refine zaa (HC.out _) ?_;intro u1)|(go_at_call 63;(with_reducible refine zaa (HO.out _) ?_);intro u2))
   go_region
   all_goals go_wp2
   all_goals
    refine bodyPost_ret (by (simp[results,Tryz.results209,go_sem]<;>rfl)) rfl ?_
    exact ⟨by rw[←Hv.out],gw⟩
end Go.Proofs.YtdkfkalplmgoeaaGreat
namespace Go.Proofs.YtdkfkalplmgoeaaGreat
open Go.RowKit
set_option maxRecDepth 100000
set_option maxHeartbeats 8000000
set_option linter.unusedSimpArgs false
class BoxIs (w:World) (b:Nat) (v:outParam Value):Prop where
 is:zav w b [v]
section
variable {w w':World} {b:Nat} {v:Value}
theorem BoxIs.c (h:BoxIs w b v):w.cell? ⟨b,0,none⟩=some v:=(h.is 0 _ rfl).1
theorem BoxIs.f (h:BoxIs w b v):w.frozen? ⟨b,0,none⟩=false:=(h.is 0 _ rfl).2
theorem BoxIs.lt (h:BoxIs w b v):b<w.heap.size:=World.block_lt_of_cell? w _ h.c
theorem BoxIs.grew (h:BoxIs w b v) (g:Grew w w'):BoxIs w' b v:=⟨zav.grew h.is h.lt g⟩
instance zrw (o:Obj) [h:BoxIs w b v]:BoxIs (w.alloc o) b v:=h.grew ((Grew.refl w).alloc o)
instance zsL [h:BoxIs w b v]:BoxIs w.drew b v:=h.grew (Grew.refl w).drew
instance zrx (u:Later w) [h:BoxIs w b v]:BoxIs u.world b v:=h.grew u.grew
theorem zb8 {x:Value} (h:BoxIs w b v) (g:w.grownBy w' x.ownBlock) (k:NotRow b x):BoxIs w' b v:=⟨zry g b _ h.is k⟩
theorem BoxIs.other (h:BoxIs w b v) {c j:Nat} {x:Value} (hne:c≠b):BoxIs (w.setCell ⟨c,j,none⟩ x) b v:=⟨fun i u hu=>by
 obtain ⟨h1,h2⟩:=h.is i u hu
 exact ⟨by rw[World.cell?_setCell_far _ _ _ _ hne,h1],by rw[World.frozen?_setCell,h2]⟩⟩
theorem BoxIs.put (h:BoxIs w b v) (x:Value):BoxIs (w.setCell ⟨b,0,none⟩ x) b x:=⟨fun i u hu=>by
 obtain ⟨rfl,rfl⟩:i=0∧x=u:=by
  cases i with
  |zero=>exact ⟨rfl,by simpa using hu⟩
  |succ i=>simp at hu
 exact ⟨World.cell?_setCell_same _ _ _ h.c,by rw[World.frozen?_setCell,h.f]⟩⟩
end
structure LkAt (a:World) (n:Nat) (D A:List Value) (W:World):Prop where
 grew:Grew a W
 base:a.heap.size+2≤W.heap.size
 two:∃ vd va,BoxIs W a.heap.size vd∧BoxIs W (a.heap.size+1) va∧W.ownsRow (a.heap.size+2) 123 3 vd n D∧W.ownsRow (a.heap.size+2) 123 3 va n A∧zbC vd va
theorem zkP {a W:World} {n:Nat} {D A:List Value} {v6 v7 vd va:Value} (hg:Grew a W) (hb:a.heap.size+2≤W.heap.size) (b6:BoxIs W a.heap.size v6) (b7:BoxIs W (a.heap.size+1) v7)
 (o1:W.ownsRow (a.heap.size+2) 123 3 vd n D) (o2:W.ownsRow (a.heap.size+2) 123 3 va n A) (hap:zbC vd va):LkAt a n D A ((W.setCell ⟨a.heap.size,0,none⟩ vd).setCell ⟨a.heap.size+1,0,none⟩ va):=by
 have far:∀ {W:World} {v:Value} {n:Nat} {xs:List Value} {q:Nat} {x:Value},W.ownsRow (a.heap.size+2) 123 3 v n xs→q<a.heap.size+2→(W.setCell ⟨q,0,none⟩ x).ownsRow (a.heap.size+2) 123 3 v n xs:=fun h hq=>
  zaR h _ _ _ (fun e=>by have:=zaN h _ e;omega)
 exact ⟨(hg.setCell (Nat.le_refl _) _).setCell (Nat.le_succ _) _,by simpa [World.setCell] using hb,vd,va,(b6.put vd).other (by omega),(b7.other (by omega)).put va,far (far o1 (by omega)) (by omega),far (far o2 (by omega)) (by omega),hap⟩
def lkS (a:World) (vd va:Value) (p5 p8:Nat) (D1 A2:Big) (w':World):Prop:=
 w'.cell? ⟨a.heap.size,0,none⟩=some vd∧w'.cell? ⟨a.heap.size+1,0,none⟩=some va∧w'.cell? ⟨p5,0,none⟩=some (.bool D1.neg)∧w'.cell? ⟨p5,1,none⟩=some (.int .u64 D1.hi)∧w'.cell? ⟨p5,2,none⟩=some (.int .u64 D1.lo)∧w'.cell? ⟨p8,0,none⟩=some (.bool A2.neg)∧w'.cell? ⟨p8,1,none⟩=some (.int .u64 A2.hi)∧w'.cell? ⟨p8,2,none⟩=some (.int .u64 A2.lo)
theorem zkQ (l:List Pt) (x:Int) (ht:zaY l=true) (ao:Option Addr) (cap:Nat) (a:World) (hs:SlAt a (.slice ao l.length cap) l.length (l.flatMap Pt.cells)) (b0:Nat) (h0:a.cell? ⟨b0,0,none⟩=some (.slice ao l.length cap)) (n:Nat) (hn:n≤66) (D A:List Value) (W:World) (h:LkAt a n D A W) :
 Calls Tryz.prog 208 #[.int .i64 x,.pointer (some ⟨b0,0,none⟩),.pointer (some ⟨a.heap.size,0,none⟩),.pointer (some ⟨a.heap.size+1,0,none⟩)] W (fun e W'=>e=.returned (.tuple #[])∧LkAt a (n+1) (D++(zcj l false x).1.cells) (A++(zcj l true x).2.cells) W'):=by
 obtain ⟨hg,hbs,vd,va,b6,b7,o1,o2,hap⟩:=h
 obtain ⟨z,rfl⟩:=zal hg
 clear hg
 obtain ⟨i0,hi,hz0,hzz1,hzz2⟩:=info_parts znS
 have Hinf:=Lib.hid (And.intro hi (And.intro hz0 (And.intro hzz1 hzz2)))
 clear hi hz0 hzz1 hzz2
 have HV1:=Lib.hid (fun w' (g:Grew a w')=>zkm 210 (enters_of Tryz.func210 (by kernel_rfl) rfl) false znp l x ht ao cap w' (hs.grew g))
 have HV2:=Lib.hid (fun w' (g:Grew a w')=>zkm 211 (enters_of Tryz.func211 (by kernel_rfl) rfl) true zno l x ht ao cap w' (hs.grew g))
 clear ht hs
 generalize (zcj l false x).1=D1 at *
 generalize (zcj l false x).2=D2 at *
 generalize (zcj l true x).1=A1 at *
 generalize (zcj l true x).2=A2 at *
 have hb0:=World.block_lt_of_cell? a _ h0
 have j0:BlockIn a b0:=⟨hb0⟩
 have c6:=b6.c
 have f6:=b6.f
 have c7:=b7.c
 have f7:=b7.f
 have j6:BlockIn z.world a.heap.size:=⟨b6.lt⟩
 have j7:BlockIn z.world (a.heap.size+1):=⟨b7.lt⟩
 have n6:NotRow a.heap.size vd:=zfE o1 _ (by omega)
 have n7:NotRow (a.heap.size+1) vd:=zfE o1 _ (by omega)
 have m6:NotRow a.heap.size va:=zfE o2 _ (by omega)
 have m7:NotRow (a.heap.size+1) va:=zfE o2 _ (by omega)
 have io1:Own z.world (a.heap.size+2) 123 3 vd n D:=⟨o1⟩
 have io2:Own z.world (a.heap.size+2) 123 3 va n A:=⟨o2⟩
 go_enter Tryz.func208,Tryz.ntmps208
 go_wp2_with (first|(go_at_call 209;(with_reducible refine zaa (HV1.out _ ?_) ?_);(· exact gw);intro u1)|(go_at_call 209;(with_reducible refine zaa (HV2.out _ ?_) ?_);(· exact gw);intro u2))
 refine ze2 (z:=z.world) gw ?_
 intro Y hY
 have b13:zav Y.world u1.world.heap.size [.bool D1.neg,.int .u64 D1.hi,.int .u64 D1.lo]:=by rw[hY];exact zbO (by go_simp) (by go_simp) (by go_simp) (by go_simp) (by go_simp) (by go_simp)
 have b14:zav Y.world (u2.world.heap.size+1) [.bool A2.neg,.int .u64 A2.hi,.int .u64 A2.lo]:=by rw[hY];exact zbO (by go_simp) (by go_simp) (by go_simp) (by go_simp) (by go_simp) (by go_simp)
 clear hY
 have r13:=zd6 b13
 have r14:=zd6 b14
 have jn1:NewFor z.world u1.world.heap.size:=inferInstance
 have jn2:NewFor z.world (u2.world.heap.size+1):=inferInstance
 clear b13 b14
 have inr1:∀ b,[NewFor z.world b]→NotRow b vd:=fun b=>zdH io1.is b
 have inr2:∀ b,[NewFor z.world b]→NotRow b va:=fun b=>zdH io2.is b
 have hbase:a.heap.size+2≤Y.world.heap.size:=Nat.le_trans hbs Y.grew.size
 have k6:BoxIs Y.world a.heap.size vd:=b6.grew Y.grew
 have k7:BoxIs Y.world (a.heap.size+1) va:=b7.grew Y.grew
 obtain ⟨hi,hz0,hzz1,hzz2⟩:=Hinf.out
 have hS:∀ W,BoxIs W a.heap.size vd→BoxIs W (a.heap.size+1) va→RowAt W u1.world.heap.size [.bool D1.neg,.int .u64 D1.hi,.int .u64 D1.lo]→RowAt W (u2.world.heap.size+1) [.bool A2.neg,.int .u64 A2.hi,.int .u64 A2.lo]→lkS a vd va u1.world.heap.size (u2.world.heap.size+1) D1 A2 W:=fun W h1 h2 h3 h4=>⟨h1.c,h2.c,h3.is 0 _ rfl,h3.is 1 _ rfl,h3.is 2 _ rfl,h4.is 0 _ rfl,h4.is 1 _ rfl,h4.is 2 _ rfl⟩
 have hS1:=hS Y.world.drew inferInstance inferInstance inferInstance inferInstance
 refine za8 (lkS a vd va u1.world.heap.size (u2.world.heap.size+1) D1 A2) [8,9] rfl ?_
 refine zaj 0 [3] (v:=vd) rfl (by kernel_rfl) (by kernel_rfl) (by kernel_rfl) (by kernel_rfl) (fun _ _ _ h=>h) (by rfl) hS1 (fun w' hw=>?_) ?_
 ·obtain ⟨e0,e1,e2,e3,e4,e5,e6,e7⟩:=hw
  go_simp
 try simp only[Act.put,List.setIfInBounds_toArray,List.set_cons_zero,List.set_cons_succ]
 refine zaj 4 [7] (v:=va) rfl (by kernel_rfl) (by kernel_rfl) (by kernel_rfl) (by kernel_rfl) (fun _ _ _ h=>h) (by rfl) hS1 (fun w' hw=>?_) ?_
 ·obtain ⟨e0,e1,e2,e3,e4,e5,e6,e7⟩:=hw
  go_simp
 try simp only[Act.put,List.setIfInBounds_toArray,List.set_cons_zero,List.set_cons_succ]
 refine zaj 1 [2] (v:=.agg #[.bool D1.neg,.int .u64 D1.hi,.int .u64 D1.lo]) rfl (by kernel_rfl) (by kernel_rfl) (by kernel_rfl) (by kernel_rfl) (fun _ _ _ h=>h) (by rfl) hS1 (fun w' hw=>?_) ?_
 ·obtain ⟨e0,e1,e2,e3,e4,e5,e6,e7⟩:=hw
  go_simp
 try simp only[Act.put,List.setIfInBounds_toArray,List.set_cons_zero,List.set_cons_succ]
 refine zaj 5 [6,7] (v:=.agg #[.bool A2.neg,.int .u64 A2.hi,.int .u64 A2.lo]) rfl (by kernel_rfl) (by kernel_rfl) (by kernel_rfl) (by kernel_rfl) (fun _ _ _ h=>h) (by rfl) hS1 (fun w' hw=>?_) ?_
 ·obtain ⟨e0,e1,e2,e3,e4,e5,e6,e7⟩:=hw
  go_simp
 try simp only[Act.put,List.setIfInBounds_toArray,List.set_cons_zero,List.set_cons_succ]
 clear hS1
 refine ziT 2 6 (by kernel_rfl) rfl rfl (fun K hK=>?_) (fun K hK=>?_)
 ·go_simp
  refine hK.out _ _ (fun _=>hS _ inferInstance inferInstance inferInstance inferInstance) ?_
  clear hK K
  try simp only[Act.put,List.setIfInBounds_toArray,List.set_cons_zero,List.set_cons_succ]
  refine ziT 3 6 (by kernel_rfl) rfl rfl (fun K hK=>?_) (fun K hK=>?_)
  ·skip
   refine step_append_lies _ (by rfl) _ _ 214 (by rfl) (a.heap.size+2) 123 i0 _ 3 24 Tryz.underlying214 hi hz0 hzz1 hzz2 (by rfl) (by decide) vd _ _ (by rfl) Own.is ⟨_,0,none⟩ 1 1 [.bool D1.neg,.int .u64 D1.hi,.int .u64 D1.lo] (by rfl) (by rfl) zdA (by simp[Value.oneCell']) (by decide) (by simp[maxLen];omega) (by omega) (by (try simp);omega) _ rfl ?_
   intro g1 cap1 w1 hown1 hgrow1 hat1 hlt1
   have hg1:Grew a w1:=Grew.append gw (Own.is (v:=vd) (base:=a.heap.size+2) (e:=123) (size:=3)) (Nat.le_add_right _ _) hgrow1
   have io3:Own w1 (a.heap.size+2) 123 3 va n A:=⟨zd4 Own.is hgrow1 hap.symm⟩
   have hap1:zbC (.slice (some ⟨g1,0,none⟩) (n+1) cap1) va:=zdL (Own.is (v:=va) (base:=a.heap.size+2) (e:=123) (size:=3)) hap hat1
   have io4:Own w1 (a.heap.size+2) 123 3 (.slice (some ⟨g1,0,none⟩) (n+1) cap1) (n+1) _:=⟨hown1⟩
   have ifar:=zd2 hgrow1
   have hsz1:a.heap.size+2≤w1.heap.size:=Nat.le_trans (by (try simp);omega) hgrow1.size
   have l6:BoxIs w1 a.heap.size vd:=zb8 inferInstance hgrow1 inferInstance
   have l7:BoxIs w1 (a.heap.size+1) va:=zb8 inferInstance hgrow1 inferInstance
   have l6c:=l6.c
   have l7c:=l7.c
   have i6:BlockIn w1 a.heap.size:=⟨by omega⟩
   have i7:BlockIn w1 (a.heap.size+1):=⟨by omega⟩
   have inw:NewFor z.world w1.heap.size:=⟨Nat.le_trans (NewFor.le (a:=z.world)) hgrow1.size⟩
   refine hK.out _ _ (fun _=>hS _ inferInstance inferInstance inferInstance inferInstance) ?_
   clear hK K
   try simp only[Act.put,List.setIfInBounds_toArray,List.set_cons_zero,List.set_cons_succ]
   refine zaq 6 (by kernel_rfl) rfl fun K hK=>?_
   go_simp
   refine hK.out _ _ (fun _=>hS _ inferInstance inferInstance inferInstance inferInstance) ?_
   clear hK K
   try simp only[Act.put,List.setIfInBounds_toArray,List.set_cons_zero,List.set_cons_succ]
   refine zaq 7 (by kernel_rfl) rfl fun K hK=>?_
   refine step_append_lies _ (by rfl) _ _ 214 (by rfl) (a.heap.size+2) 123 i0 _ 3 24 Tryz.underlying214 hi hz0 hzz1 hzz2 (by rfl) (by decide) va _ _ (by rfl) Own.is ⟨_,0,none⟩ 1 1 [.bool A2.neg,.int .u64 A2.hi,.int .u64 A2.lo] (by rfl) (by rfl) zdA (by simp[Value.oneCell']) (by decide) (by simp[maxLen];omega) (by omega) (by (try simp);omega) _ rfl ?_
   intro g2 cap2 w2 hown2 hgrow2 hat2 hlt2
   have ifar2:=zd2 hgrow2
   have hg2:Grew a w2:=Grew.append gw (Own.is (v:=va) (base:=a.heap.size+2) (e:=123) (size:=3)) (Nat.le_add_right _ _) hgrow2
   have hown1':w2.ownsRow (a.heap.size+2) 123 3 (.slice (some ⟨g1,0,none⟩) (n+1) cap1) (n+1) _:=zd4 Own.is hgrow2 hap1
   have hap2:=zdZ (m:=n+1) (cap:=cap2) (Own.is (v:=.slice (some ⟨g1,0,none⟩) (n+1) cap1) (base:=a.heap.size+2) (e:=123) (size:=3)) hap1 hat2
   have hsz2:a.heap.size+2≤w2.heap.size:=Nat.le_trans (by (try simp);omega) hgrow2.size
   have p6:BoxIs w2 a.heap.size vd:=zb8 inferInstance hgrow2 inferInstance
   have p7:BoxIs w2 (a.heap.size+1) va:=zb8 inferInstance hgrow2 inferInstance
   have p6c:=p6.c
   have p7c:=p7.c
   have p6f:=p6.f
   have p7f:=p7.f
   have q6:BlockIn w2 a.heap.size:=⟨by omega⟩
   have q7:BlockIn w2 (a.heap.size+1):=⟨by omega⟩
   refine hK.out _ _ (fun _=>hS _ inferInstance inferInstance inferInstance inferInstance) ?_
   clear hK K
   try simp only[Act.put,List.setIfInBounds_toArray,List.set_cons_zero,List.set_cons_succ]
   refine zaq 8 (by kernel_rfl) rfl fun K hK=>?_
   go_simp
   refine hK.out _ _ (fun h=>by cases h) ?_
   clear hK K
   try simp only[Act.put,List.setIfInBounds_toArray,List.set_cons_zero,List.set_cons_succ]
   refine zaq 9 (by kernel_rfl) rfl fun K hK=>?_
   go_simp
   refine hK.out _ _ (fun h=>by cases h) ?_
   clear hK K
   refine zbi (by kernel_rfl) ?_
   go_wp2
   refine bodyPost_end (results_none rfl _ _ _) rfl ⟨rfl,zkP hg2 hsz2 p6 p7 hown1' hown2 hap2⟩
  ·go_simp
   refine hK.out _ _ (fun _=>hS _ inferInstance inferInstance inferInstance inferInstance) ?_
   clear hK K
   try simp only[Act.put,List.setIfInBounds_toArray,List.set_cons_zero,List.set_cons_succ]
   refine zaq 3 (by kernel_rfl) rfl fun K hK=>?_
   refine step_append_lies _ (by rfl) _ _ 214 (by rfl) (a.heap.size+2) 123 i0 _ 3 24 Tryz.underlying214 hi hz0 hzz1 hzz2 (by rfl) (by decide) vd _ _ (by rfl) Own.is ⟨_,0,none⟩ 1 1 [.bool D1.neg,.int .u64 D1.hi,.int .u64 D1.lo] (by rfl) (by rfl) zdA (by simp[Value.oneCell']) (by decide) (by simp[maxLen];omega) (by omega) (by (try simp);omega) _ rfl ?_
   intro g1 cap1 w1 hown1 hgrow1 hat1 hlt1
   have hg1:Grew a w1:=Grew.append gw (Own.is (v:=vd) (base:=a.heap.size+2) (e:=123) (size:=3)) (Nat.le_add_right _ _) hgrow1
   have io3:Own w1 (a.heap.size+2) 123 3 va n A:=⟨zd4 Own.is hgrow1 hap.symm⟩
   have hap1:zbC (.slice (some ⟨g1,0,none⟩) (n+1) cap1) va:=zdL (Own.is (v:=va) (base:=a.heap.size+2) (e:=123) (size:=3)) hap hat1
   have io4:Own w1 (a.heap.size+2) 123 3 (.slice (some ⟨g1,0,none⟩) (n+1) cap1) (n+1) _:=⟨hown1⟩
   have ifar:=zd2 hgrow1
   have hsz1:a.heap.size+2≤w1.heap.size:=Nat.le_trans (by (try simp);omega) hgrow1.size
   have l6:BoxIs w1 a.heap.size vd:=zb8 inferInstance hgrow1 inferInstance
   have l7:BoxIs w1 (a.heap.size+1) va:=zb8 inferInstance hgrow1 inferInstance
   have l6c:=l6.c
   have l7c:=l7.c
   have i6:BlockIn w1 a.heap.size:=⟨by omega⟩
   have i7:BlockIn w1 (a.heap.size+1):=⟨by omega⟩
   have inw:NewFor z.world w1.heap.size:=⟨Nat.le_trans (NewFor.le (a:=z.world)) hgrow1.size⟩
   refine hK.out _ _ (fun _=>hS _ inferInstance inferInstance inferInstance inferInstance) ?_
   clear hK K
   try simp only[Act.put,List.setIfInBounds_toArray,List.set_cons_zero,List.set_cons_succ]
   refine zaq 7 (by kernel_rfl) rfl fun K hK=>?_
   refine step_append_lies _ (by rfl) _ _ 214 (by rfl) (a.heap.size+2) 123 i0 _ 3 24 Tryz.underlying214 hi hz0 hzz1 hzz2 (by rfl) (by decide) va _ _ (by rfl) Own.is ⟨_,0,none⟩ 1 1 [.bool A2.neg,.int .u64 A2.hi,.int .u64 A2.lo] (by rfl) (by rfl) zdA (by simp[Value.oneCell']) (by decide) (by simp[maxLen];omega) (by omega) (by (try simp);omega) _ rfl ?_
   intro g2 cap2 w2 hown2 hgrow2 hat2 hlt2
   have ifar2:=zd2 hgrow2
   have hg2:Grew a w2:=Grew.append gw (Own.is (v:=va) (base:=a.heap.size+2) (e:=123) (size:=3)) (Nat.le_add_right _ _) hgrow2
   have hown1':w2.ownsRow (a.heap.size+2) 123 3 (.slice (some ⟨g1,0,none⟩) (n+1) cap1) (n+1) _:=zd4 Own.is hgrow2 hap1
   have hap2:=zdZ (m:=n+1) (cap:=cap2) (Own.is (v:=.slice (some ⟨g1,0,none⟩) (n+1) cap1) (base:=a.heap.size+2) (e:=123) (size:=3)) hap1 hat2
   have hsz2:a.heap.size+2≤w2.heap.size:=Nat.le_trans (by (try simp);omega) hgrow2.size
   have p6:BoxIs w2 a.heap.size vd:=zb8 inferInstance hgrow2 inferInstance
   have p7:BoxIs w2 (a.heap.size+1) va:=zb8 inferInstance hgrow2 inferInstance
   have p6c:=p6.c
   have p7c:=p7.c
   have p6f:=p6.f
   have p7f:=p7.f
   have q6:BlockIn w2 a.heap.size:=⟨by omega⟩
   have q7:BlockIn w2 (a.heap.size+1):=⟨by omega⟩
   refine hK.out _ _ (fun _=>hS _ inferInstance inferInstance inferInstance inferInstance) ?_
   clear hK K
   try simp only[Act.put,List.setIfInBounds_toArray,List.set_cons_zero,List.set_cons_succ]
   refine zaq 8 (by kernel_rfl) rfl fun K hK=>?_
   go_simp
   refine hK.out _ _ (fun h=>by cases h) ?_
   clear hK K
   try simp only[Act.put,List.setIfInBounds_toArray,List.set_cons_zero,List.set_cons_succ]
   refine zaq 9 (by kernel_rfl) rfl fun K hK=>?_
   go_simp
   refine hK.out _ _ (fun h=>by cases h) ?_
   clear hK K
   refine zbi (by kernel_rfl) ?_
   go_wp2
   refine bodyPost_end (results_none rfl _ _ _) rfl ⟨rfl,zkP hg2 hsz2 p6 p7 hown1' hown2 hap2⟩
 ·go_simp
  refine hK.out _ _ (fun _=>hS _ inferInstance inferInstance inferInstance inferInstance) ?_
  clear hK K
  try simp only[Act.put,List.setIfInBounds_toArray,List.set_cons_zero,List.set_cons_succ]
  refine zaq 2 (by kernel_rfl) rfl fun K hK=>?_
  go_simp
  refine hK.out _ _ (fun _=>hS _ inferInstance inferInstance inferInstance inferInstance) ?_
  clear hK K
  try simp only[Act.put,List.setIfInBounds_toArray,List.set_cons_zero,List.set_cons_succ]
  refine zaq 3 (by kernel_rfl) rfl fun K hK=>?_
  refine step_append_lies _ (by rfl) _ _ 214 (by rfl) (a.heap.size+2) 123 i0 _ 3 24 Tryz.underlying214 hi hz0 hzz1 hzz2 (by rfl) (by decide) vd _ _ (by rfl) Own.is ⟨_,0,none⟩ 1 1 [.bool D1.neg,.int .u64 D1.hi,.int .u64 D1.lo] (by rfl) (by rfl) zdA (by simp[Value.oneCell']) (by decide) (by simp[maxLen];omega) (by omega) (by (try simp);omega) _ rfl ?_
  intro g1 cap1 w1 hown1 hgrow1 hat1 hlt1
  have hg1:Grew a w1:=Grew.append gw (Own.is (v:=vd) (base:=a.heap.size+2) (e:=123) (size:=3)) (Nat.le_add_right _ _) hgrow1
  have io3:Own w1 (a.heap.size+2) 123 3 va n A:=⟨zd4 Own.is hgrow1 hap.symm⟩
  have hap1:zbC (.slice (some ⟨g1,0,none⟩) (n+1) cap1) va:=zdL (Own.is (v:=va) (base:=a.heap.size+2) (e:=123) (size:=3)) hap hat1
  have io4:Own w1 (a.heap.size+2) 123 3 (.slice (some ⟨g1,0,none⟩) (n+1) cap1) (n+1) _:=⟨hown1⟩
  have ifar:=zd2 hgrow1
  have hsz1:a.heap.size+2≤w1.heap.size:=Nat.le_trans (by (try simp);omega) hgrow1.size
  have l6:BoxIs w1 a.heap.size vd:=zb8 inferInstance hgrow1 inferInstance
  have l7:BoxIs w1 (a.heap.size+1) va:=zb8 inferInstance hgrow1 inferInstance
  have l6c:=l6.c
  have l7c:=l7.c
  have i6:BlockIn w1 a.heap.size:=⟨by omega⟩
  have i7:BlockIn w1 (a.heap.size+1):=⟨by omega⟩
  have inw:NewFor z.world w1.heap.size:=⟨Nat.le_trans (NewFor.le (a:=z.world)) hgrow1.size⟩
  refine hK.out _ _ (fun _=>hS _ inferInstance inferInstance inferInstance inferInstance) ?_
  clear hK K
  try simp only[Act.put,List.setIfInBounds_toArray,List.set_cons_zero,List.set_cons_succ]
  refine zaq 7 (by kernel_rfl) rfl fun K hK=>?_
  refine step_append_lies _ (by rfl) _ _ 214 (by rfl) (a.heap.size+2) 123 i0 _ 3 24 Tryz.underlying214 hi hz0 hzz1 hzz2 (by rfl) (by decide) va _ _ (by rfl) Own.is ⟨_,0,none⟩ 1 1 [.bool A2.neg,.int .u64 A2.hi,.int .u64 A2.lo] (by rfl) (by rfl) zdA (by simp[Value.oneCell']) (by decide) (by simp[maxLen];omega) (by omega) (by (try simp);omega) _ rfl ?_
  intro g2 cap2 w2 hown2 hgrow2 hat2 hlt2
  have ifar2:=zd2 hgrow2
  have hg2:Grew a w2:=Grew.append gw (Own.is (v:=va) (base:=a.heap.size+2) (e:=123) (size:=3)) (Nat.le_add_right _ _) hgrow2
  have hown1':w2.ownsRow (a.heap.size+2) 123 3 (.slice (some ⟨g1,0,none⟩) (n+1) cap1) (n+1) _:=zd4 Own.is hgrow2 hap1
  have hap2:=zdZ (m:=n+1) (cap:=cap2) (Own.is (v:=.slice (some ⟨g1,0,none⟩) (n+1) cap1) (base:=a.heap.size+2) (e:=123) (size:=3)) hap1 hat2
  have hsz2:a.heap.size+2≤w2.heap.size:=Nat.le_trans (by (try simp);omega) hgrow2.size
  have p6:BoxIs w2 a.heap.size vd:=zb8 inferInstance hgrow2 inferInstance
  have p7:BoxIs w2 (a.heap.size+1) va:=zb8 inferInstance hgrow2 inferInstance
  have p6c:=p6.c
  have p7c:=p7.c
  have p6f:=p6.f
  have p7f:=p7.f
  have q6:BlockIn w2 a.heap.size:=⟨by omega⟩
  have q7:BlockIn w2 (a.heap.size+1):=⟨by omega⟩
  refine hK.out _ _ (fun _=>hS _ inferInstance inferInstance inferInstance inferInstance) ?_
  clear hK K
  try simp only[Act.put,List.setIfInBounds_toArray,List.set_cons_zero,List.set_cons_succ]
  refine zaq 8 (by kernel_rfl) rfl fun K hK=>?_
  go_simp
  refine hK.out _ _ (fun h=>by cases h) ?_
  clear hK K
  try simp only[Act.put,List.setIfInBounds_toArray,List.set_cons_zero,List.set_cons_succ]
  refine zaq 9 (by kernel_rfl) rfl fun K hK=>?_
  go_simp
  refine hK.out _ _ (fun h=>by cases h) ?_
  clear hK K
  refine zbi (by kernel_rfl) ?_
  go_wp2
  refine bodyPost_end (results_none rfl _ _ _) rfl ⟨rfl,zkP hg2 hsz2 p6 p7 hown1' hown2 hap2⟩
end Go.Proofs.YtdkfkalplmgoeaaGreat
namespace Go.Proofs.YtdkfkalplmgoeaaGreat
open Go.RowKit Go.Shelf
set_option maxRecDepth 100000
set_option maxHeartbeats 8000000
theorem zm7 (x b:Int) (h1:-42535295865117307932921825928971026432≤x) (h2:x≤42535295865117307932921825928971026432) (hb0:0<b) (hb:b≤42535295865117307932921825928971026432) (w:World):Calls Tryz.prog 213 #[.agg #[.int .i64 (mkW x).h,.int .u64 (mkW x).l],.agg #[.int .i64 (mkW b).h,.int .u64 (mkW b).l]] w fun e w'=>e=.returned (.agg #[.int .i64 (mkW (zbl x b)).h,.int .u64 (mkW (zbl x b)).l])∧Grew w w':=by
 have HQ:=Lib.hid (fun w=>zdE x b h1 h2 hb0 hb w)
 clear h1 h2 hb0 hb
 generalize mkW (zbl x b)=d at *
 generalize mkW (upZ x b)=u at *
 generalize mkW x=a at *
 generalize mkW b=c at *
 go_enter Tryz.func213,Tryz.ntmps213
 go_wp2_with (first|(go_at_call 207;(with_reducible refine zaa (HQ.out _) ?_);intro u))
 refine bodyPost_ret (by (simp[results,Tryz.results213,go_sem]<;>rfl)) rfl ?_
 exact ⟨rfl,gw⟩
theorem zph (x b:Int) (h1:-42535295865117307932921825928971026432≤x) (h2:x≤42535295865117307932921825928971026432) (hb0:0<b) (hb:b≤42535295865117307932921825928971026432) (w:World):Calls Tryz.prog 214 #[.agg #[.int .i64 (mkW x).h,.int .u64 (mkW x).l],.agg #[.int .i64 (mkW b).h,.int .u64 (mkW b).l]] w fun e w'=>e=.returned (.agg #[.int .i64 (mkW (upZ x b)).h,.int .u64 (mkW (upZ x b)).l])∧Grew w w':=by
 have HQ:=Lib.hid (fun w=>zdE x b h1 h2 hb0 hb w)
 clear h1 h2 hb0 hb
 generalize mkW (zbl x b)=d at *
 generalize mkW (upZ x b)=u at *
 generalize mkW x=a at *
 generalize mkW b=c at *
 go_enter Tryz.func214,Tryz.ntmps214
 go_wp2_with (first|(go_at_call 207;(with_reducible refine zaa (HQ.out _) ?_);intro u))
 refine bodyPost_ret (by (simp[results,Tryz.results214,go_sem]<;>rfl)) rfl ?_
 exact ⟨rfl,gw⟩
theorem zfI (p:Pt) (up:Bool) (w:World):Calls Tryz.prog 212 #[.agg #[.int .i64 p.place,.int .i64 p.value.lo,.int .i64 p.value.hi],.bool up] w fun e w'=>e=.returned (.int .i64 (bnd up p.value))∧Grew w w':=by
 cases up
 all_goals
  go_enter Tryz.func212,Tryz.ntmps212
  go_wp2
  go_ret
  exact ⟨rfl,gw⟩
theorem zn4 {l:List Pt} {up:Bool} {x:Int} (h:idxT x l=0) (hl:0<l.length):zb4 l up x=(bnd up l[0].value,bnd up l[0].value):=by
 unfold zb4
 rw[if_pos h,zdw hl]
theorem zn6 {l:List Pt} {up:Bool} {x:Int} {k:Nat} (h:idxT x l=l.length) (hl:l.length=k+1) (hk:k<l.length):zb4 l up x=(bnd up l[k].value,bnd up l[k].value):=by
 unfold zb4
 rw[if_neg (by omega),if_pos h,show l.length-1=k by omega,zdw hk]
theorem zn5 {l:List Pt} {up:Bool} {x:Int} {k:Nat} (h:idxT x l=k+1) (hl:k+1<l.length) (hk:k<l.length):zb4 l up x=(bnd up l[k].value+zbl ((bnd up l[k+1].value-bnd up l[k].value)*(x-l[k].place)) (l[k+1].place-l[k].place),bnd up l[k].value+upZ ((bnd up l[k+1].value-bnd up l[k].value)*(x-l[k].place)) (l[k+1].place-l[k].place)):=by
 unfold zb4
 rw[if_neg (by omega),if_neg (by omega),h,show k+1-1=k by omega,zdw hl,zdw hk]
theorem zoe {a b d:Int} (h1:-4611686018427387904≤a) (h2:a≤4611686018427387904) (h3:0≤b∧b≤4611686018427387904) (h4:1≤d∧d≤4611686018427387904) :
 (-21267647932558653966460912964485513216≤a*b∧a*b≤21267647932558653966460912964485513216)∧(-21267647932558653966460912964485513216≤zbl (a*b) d∧zbl (a*b) d≤21267647932558653966460912964485513216)∧-21267647932558653966460912964485513217≤upZ (a*b) d∧upZ (a*b) d≤21267647932558653966460912964485513217:=by
 have hab:-21267647932558653966460912964485513216≤a*b∧a*b≤21267647932558653966460912964485513216:=by
  have k1:a*b≤4611686018427387904*b:=Int.mul_le_mul_of_nonneg_right h2 h3.1
  have k2:-4611686018427387904*b≤a*b:=Int.mul_le_mul_of_nonneg_right h1 h3.1
  omega
 generalize a*b=m at *
 have hd:-21267647932558653966460912964485513216≤m/d∧m/d≤21267647932558653966460912964485513216:=by
  have e:=Int.mul_ediv_add_emod m d
  have r1:=Int.emod_nonneg m (show d≠0 by omega)
  have r2:=Int.emod_lt_of_pos m (show 0<d by omega)
  refine ⟨?_,?_⟩
  ·exact (Int.le_ediv_iff_mul_le (by omega)).2 (by
    have:-21267647932558653966460912964485513216*d≤-21267647932558653966460912964485513216*1:=by omega
    omega)
  ·have:=Int.ediv_le_ediv (show 0<d by omega) hab.2
   have k:=Int.ediv_le_self d (show (0:Int)≤21267647932558653966460912964485513216 by omega)
   omega
 refine ⟨hab,hd,?_⟩
 rw[zh9 m d h4.1]
 split<;>omega
theorem zoK (l:List Pt) (up:Bool) (x:Int) (ht:zaY l=true) (ao:Option Addr) (cap:Nat) (w:World) (hs:SlAt w (.slice ao l.length cap) l.length (l.flatMap Pt.cells)) :
 Calls Tryz.prog 194 #[.slice ao l.length cap,.bool up,.int .i64 x] w fun e w'=>e=.returned (.tuple #[.agg #[.int .i64 (mkW (zb4 l up x).1).h,.int .u64 (mkW (zb4 l up x).1).l],.agg #[.int .i64 (mkW (zb4 l up x).2).h,.int .u64 (mkW (zb4 l up x).2).l]])∧Grew w w':=by
 have hm:=hs.len_le
 unfold maxLen at hm
 obtain ⟨ao',cap',e1,-,hx⟩:=hs
 cases e1
 have HE:=Lib.hid (SlAt.elem (f:=Pt.cells) (c:=3) (fun _=>rfl) (by omega) hx)
 clear hx
 obtain ⟨h1,h2,h3,h4⟩:=zdh ht
 have H3:=Lib.hid h3
 clear ht h3 h4
 obtain ⟨b0,o0,e0,i0,hd1,hd2⟩:=HE.out 0 (by omega)
 have hz0:=hd1 _ rfl
 have hz1:=hd2 1 _ rfl
 have hz2:=hd2 2 _ rfl
 clear hd1 hd2
 cases e0
 have j0:BlockIn w b0:=⟨i0⟩
 simp only[Nat.zero_mul,Nat.add_zero] at hz0 hz1 hz2
 by_cases hx0:x≤l[0].place
 ·have Hv:=Lib.hid (zn4 (l:=l) (up:=up) (x:=x) (zgK (by omega) (fun _ _ h=>by omega) (fun _=>hx0)) (by omega))
  have HI:=Lib.hid (zgB (H3.out 0 (by omega)) up)
  generalize zb4 l up x=L at *
  generalize l[0]=qA at *
  go_enter Tryz.func194,Tryz.ntmps194
  have HC:=Lib.hid (fun w=>zfI qA up w)
  have HO:=Lib.hid (fun w=>zc8 (bnd up qA.value) HI.out w)
  generalize bnd up qA.value=vA at *
  generalize hmA:mkW vA=mA at *
  have HM:=Lib.hid hmA
  clear hmA
  go_wp2_with (first|(go_at_call 212;(with_reducible refine zaa (HC.out _) ?_);intro u1)|(go_at_call 68;(with_reducible refine zaa (HO.out _) ?_);intro u2))
  go_region
  all_goals go_wp2
  all_goals
   refine bodyPost_ret (by (simp[results,Tryz.results194,go_sem]<;>rfl)) rfl ?_
   exact ⟨by rw[Hv.out,←HM.out],gw⟩
 ·have hlt0:l[0].place<x:=by omega
  have Hlt0:=Lib.hid hlt0
  have t0:decide (x≤l[0].place)=false:=by simp[hx0]
  generalize hL:zb4 l up x=L at *
  have HL:=Lib.hid hL
  clear hL hlt0 hx0
  go_enter Tryz.func194,Tryz.ntmps194
  go_wp2
  go_loopw [9] (fun t wr=>∃ i:Nat,t=.int .i64 i∧1≤i∧i≤l.length∧(∀ j (hj:j<l.length),j<i→l[j].place<x)∧Grew ((w.alloc (.cells #[.int .i64 0,.int .u64 0] 131)).alloc (.cells #[.int .i64 0,.int .u64 0] 131)) wr) (fun t _=>l.length-(intOf t).toNat)
  case atStart=>
   have Hall:∀ j (hj:j<l.length),j<1→l[j].place<x:=fun j hj h=>by
    have e:j=0:=by omega
    subst e
    exact Hlt0.out
   refine ⟨1,by simp,by omega,by omega,Hall,?_⟩
   exact gw
  case round=>
   obtain ⟨i,rfl,hi1,hi,hbe,hg⟩:=hrel
   obtain ⟨z,rfl⟩:=zal hg
   clear hg hz0 hz1 hz2 t0
   have Hbe:=Lib.hid hbe
   clear hbe
   by_cases hlt:i<l.length
   ·obtain ⟨b1,o1,e1,i1,hd1,hd2⟩:=HE.out i hlt
    cases e1
    have hc0:=hd1 _ rfl
    have hc1:=hd2 1 _ rfl
    have hc2:=hd2 2 _ rfl
    clear hd1 hd2
    by_cases hp:l[i].place<x
    ·have Hn:=Lib.hid (fun j (hj:j<l.length) (hji:j<i+1)=>show l[j].place<x by
      by_cases e:j=i
      ·subst e;exact hp
      ·exact Hbe.out j hj (by omega))
     generalize l[i]=qA at *
     go_wp2
     go_roundw
     case rel=>exact ⟨i+1,by go_num,by omega,by omega,Hn.out,gw⟩
     case measure=>simp[intOf];omega
    ·obtain ⟨k,rfl⟩:∃ k,i=k+1:=⟨i-1,by omega⟩
     have hkl:k<l.length:=by omega
     have Hidx:=Lib.hid (show idxT x l=k+1 from zgK (by omega) Hbe.out (fun _=>by omega))
     obtain ⟨b2,o2,e2,-,he1,he2⟩:=HE.out k hkl
     cases e2
     have kc0:=he1 _ rfl
     have kc1:=he2 1 _ rfl
     have kc2:=he2 2 _ rfl
     clear he1 he2
     have Hv:=Lib.hid (show L=_ from HL.out.symm.trans (zn5 Hidx.out hlt hkl))
     have hb:=Hbe.out k hkl (by omega)
     obtain ⟨⟨a5,a6⟩,a1,a2⟩:=zih (H3.out k hkl) up
     obtain ⟨⟨a7,a8⟩,a3,a4⟩:=zih (H3.out (k+1) hlt) up
     generalize l[k+1]=qA at *
     generalize l[k]=pA at *
     have qp1:I64 (bnd up qA.value-bnd up pA.value):=by unfold I64;omega
     have qp2:I64 (x-pA.place):=by unfold I64;omega
     have qp3:I64 (qA.place-pA.place):=by unfold I64;omega
     have qp4:I64 (bnd up pA.value):=by unfold I64;omega
     have hw3:IntKind.i64.wrap (bnd up qA.value-bnd up pA.value)=bnd up qA.value-bnd up pA.value:=ze3 _ (by omega) (by omega)
     have hw4:IntKind.i64.wrap (x-pA.place)=x-pA.place:=ze3 _ (by omega) (by omega)
     have hw5:IntKind.i64.wrap (qA.place-pA.place)=qA.place-pA.place:=ze3 _ (by omega) (by omega)
     have him:(((k+1:Nat):Int)-1)=(k:Int):=by omega
     have hbx:=zoe (a:=bnd up qA.value-bnd up pA.value) (b:=x-pA.place) (d:=qA.place-pA.place) (by omega) (by omega) (by omega) (by omega)
     have HBp:=Lib.hid (fun w=>zfI pA up w)
     have HBq:=Lib.hid (fun w=>zfI qA up w)
     have HT:=Lib.hid (fun w=>zcz (bnd up qA.value-bnd up pA.value) (x-pA.place) qp1 qp2 w)
     have HW:=Lib.hid (fun w=>zc8 (qA.place-pA.place) qp3 w)
     have HA:=Lib.hid (fun w=>zc8 (bnd up pA.value) qp4 w)
     have HF:=Lib.hid (fun w=>zm7 ((bnd up qA.value-bnd up pA.value)*(x-pA.place)) (qA.place-pA.place) (by omega) (by omega) (by omega) (by omega) w)
     have HC:=Lib.hid (fun w=>zph ((bnd up qA.value-bnd up pA.value)*(x-pA.place)) (qA.place-pA.place) (by omega) (by omega) (by omega) (by omega) w)
     have HP1:=Lib.hid (fun w=>zcb (bnd up pA.value) (zbl ((bnd up qA.value-bnd up pA.value)*(x-pA.place)) (qA.place-pA.place)) (by unfold R128;omega) (by unfold R128;omega) (by unfold R128;omega) w)
     have HP2:=Lib.hid (fun w=>zcb (bnd up pA.value) (upZ ((bnd up qA.value-bnd up pA.value)*(x-pA.place)) (qA.place-pA.place)) (by unfold R128;omega) (by unfold R128;omega) (by unfold R128;omega) w)
     clear hbx qp1 qp2 qp3 qp4 HE H3 Hbe Hidx HL Hlt0
     generalize hT:mkW ((bnd up qA.value-bnd up pA.value)*(x-pA.place))=mT at *
     generalize hO:mkW (qA.place-pA.place)=mO at *
     generalize hA:mkW (bnd up pA.value)=mA at *
     generalize hFl:mkW (zbl ((bnd up qA.value-bnd up pA.value)*(x-pA.place)) (qA.place-pA.place))=mF at *
     generalize hCe:mkW (upZ ((bnd up qA.value-bnd up pA.value)*(x-pA.place)) (qA.place-pA.place))=mC at *
     generalize hD:mkW (bnd up pA.value+zbl ((bnd up qA.value-bnd up pA.value)*(x-pA.place)) (qA.place-pA.place))=mD at *
     generalize hU:mkW (bnd up pA.value+upZ ((bnd up qA.value-bnd up pA.value)*(x-pA.place)) (qA.place-pA.place))=mU at *
     have HR:=Lib.hid (show mkW L.1=mD∧mkW L.2=mU from ⟨by rw[Hv.out];exact hD,by rw[Hv.out];exact hU⟩)
     clear hT hO hA hFl hCe hD hU Hv
     generalize bnd up pA.value=vp at *
     generalize bnd up qA.value=vq at *
     have kl1:(0:Int)≤(k:Int):=by omega
     have kl2:(k:Int)<(l.length:Int):=by omega
     have kl3:((k+1:Nat):Int)<(l.length:Int):=by omega
     have kl4:(k:Int)+1<(l.length:Int):=by omega
     have kl5:(0:Int)≤(k:Int)+1:=by omega
     have kl6:((k:Int)+1).toNat=k+1:=by omega
     have kl7:IntKind.i64.wrap ((k:Int)+1-1)=(k:Int):=by rw[ze3 _ (by omega) (by omega)];omega
     have kl9:IntKind.i64.wrap (k:Int)=(k:Int):=ze3 _ (by omega) (by omega)
     have kl8:(k:Int)+1-1=k:=by omega
     go_wp2_with (first|(go_at_call 212;(with_reducible refine zaa (HBp.out _) ?_);intro u1)|(go_at_call 212;(with_reducible refine zaa (HBq.out _) ?_);intro u2)|(go_at_call 163;(with_reducible refine zaa (HT.out _) ?_);intro u3))
     refine zaJ 14 [13] [12] [] (fun W0=>[(13,BoxR W0 [.int .i64 0,.int .u64 0])]) [.agg #[.int .i64 mO.h,.int .u64 mO.l]] [14] (by rfl) (by intro W0 x hx;simp only[List.mem_cons,List.not_mem_nil,or_false] at hx;rcases hx with rfl;exact zcw _ _) (by kernel_rfl) (by kernel_rfl) (by kernel_rfl) ?_
     intro p
     apply Exists.intro
     apply And.intro
     iterate 12 (apply zaA (by kernel_rfl);(· intro u;unfold zai;go_simp;rfl))
     apply zaw 0 (by kernel_rfl) (by rfl) (by decide)
     ·intro u hF;clear hF;unfold zah;go_simp;exact HW.out _
     apply zbT (by kernel_rfl)
     ·intro u hF;clear hF;unfold za5;go_simp;exact zcy _ _ _ _
     apply zbG
     rotate_left
     ·rfl
     intro u hR hD
     obtain ⟨q13,e13,hB13,kB13,nB13⟩:=(show BoxR _ [.int .i64 0,.int .u64 0] (p 13) u.world from hR 13 (by decide))
     clear hR hD
     rw[e13]
     clear e13
     have oB13:=zaG nB13
     have oC13:=zaH nB13
     have nC13:NewFor w q13:=⟨Nat.le_trans (Grew.size gw) nB13.le⟩
     have hB13_0:=(hB13 0 _ rfl).1
     have hB13f0:=(hB13 0 _ rfl).2
     have hB13i0:HasCell (u.world) (q13) 0:=⟨_,hB13_0⟩
     have hB13_1:=(hB13 1 _ rfl).1
     have hB13f1:=(hB13 1 _ rfl).2
     have hB13i1:HasCell (u.world) (q13) 1:=⟨_,hB13_1⟩
     have hB13b:BlockIn (u.world) (q13):=BlockIn.of_cell hB13_0
     clear hB13
     refine zag (by rfl) ?_;unfold zap;go_simp
     refine zao ?_
     go_wp2
     refine zaJ 12 [] [1,4,5,7,10,11] [] (fun W0=>[]) [.agg #[.int .i64 mA.h,.int .u64 mA.l],.agg #[.int .i64 mF.h,.int .u64 mF.l],.agg #[.int .i64 mD.h,.int .u64 mD.l],.agg #[.int .i64 mA.h,.int .u64 mA.l],.agg #[.int .i64 mC.h,.int .u64 mC.l],.agg #[.int .i64 mU.h,.int .u64 mU.l]] [12,13] (by rfl) (fun _ x hx=>absurd hx (List.not_mem_nil)) (by kernel_rfl) (by kernel_rfl) (by kernel_rfl) ?_
     intro p
     apply Exists.intro
     apply And.intro
     apply zaA (by kernel_rfl)
     ·intro u;unfold zai;go_simp;rfl
     apply zaw 0 (by kernel_rfl) (by rfl) (by decide)
     ·intro u hF;clear hF;unfold zah;go_simp;exact HA.out _
     iterate 2 (apply zaA (by kernel_rfl);(· intro u;unfold zai;go_simp;rfl))
     apply zaw 1 (by kernel_rfl) (by rfl) (by decide)
     ·intro u hF;clear hF;unfold zah;go_simp;exact HF.out _
     apply zaw 2 (by kernel_rfl) (by rfl) (by decide)
     ·intro u hF;clear hF;unfold zah;go_simp;exact HP1.out _
     apply zaA (by kernel_rfl)
     ·intro u;unfold zai;go_simp;rfl
     apply zaw 3 (by kernel_rfl) (by rfl) (by decide)
     ·intro u hF;clear hF;unfold zah;go_simp;exact HA.out _
     iterate 2 (apply zaA (by kernel_rfl);(· intro u;unfold zai;go_simp;rfl))
     apply zaw 4 (by kernel_rfl) (by rfl) (by decide)
     ·intro u hF;clear hF;unfold zah;go_simp;exact HC.out _
     apply zaw 5 (by kernel_rfl) (by rfl) (by decide)
     ·intro u hF;clear hF;unfold zah;go_simp;exact HP2.out _
     apply zbG
     rotate_left
     ·rfl
     intro u hR hD
     clear hR hD
     refine zag (by rfl) ?_;unfold zap;go_simp
     refine zag (by rfl) ?_;unfold zap;go_simp
     refine zao ?_
     go_wp2
     refine bodyPost_ret (by (simp[results,Tryz.results194,go_sem]<;>rfl)) rfl ?_
     exact ⟨by rw[HR.out.1,HR.out.2],gw⟩
   ·obtain ⟨k,hk⟩:∃ k,l.length=k+1:=⟨l.length-1,by omega⟩
    have hkl:k<l.length:=by omega
    have hi2:i=l.length:=by omega
    have Hidx:=Lib.hid (show idxT x l=l.length from zgK (by omega) (fun j hj _=>Hbe.out j hj (by omega)) (fun h=>absurd h (by omega)))
    have Hv:=Lib.hid (show L=_ from HL.out.symm.trans (zn6 Hidx.out hk hkl))
    obtain ⟨b1,o1,e1,i1,hd1,hd2⟩:=HE.out k hkl
    cases e1
    have hc0:=hd1 _ rfl
    have hc1:=hd2 1 _ rfl
    have hc2:=hd2 2 _ rfl
    clear hd1 hd2
    have HI:=Lib.hid (zgB (H3.out k hkl) up)
    generalize l[k]=qA at *
    subst hi2
    have him:((l.length:Int)-1)=k:=by omega
    have kl1:(0:Int)≤(k:Int):=by omega
    have kl2:(k:Int)<(l.length:Int):=by omega
    clear HE Hbe H3 HL Hidx hk hi hlt Hlt0
    have HC:=Lib.hid (fun w=>zfI qA up w)
    have HO:=Lib.hid (fun w=>zc8 (bnd up qA.value) HI.out w)
    generalize bnd up qA.value=vA at *
    generalize hmA:mkW vA=mA at *
    have HM:=Lib.hid hmA
    clear hmA
    go_wp2_with (first|(go_at_call 212;(with_reducible refine zaa (HC.out _) ?_);intro u1)|(go_at_call 68;(with_reducible refine zaa (HO.out _) ?_);intro u2))
    go_region
    all_goals go_wp2
    all_goals
     refine bodyPost_ret (by (simp[results,Tryz.results194,go_sem]<;>rfl)) rfl ?_
     exact ⟨by rw[Hv.out,←HM.out],gw⟩
end Go.Proofs.YtdkfkalplmgoeaaGreat
namespace Go.Proofs.YtdkfkalplmgoeaaGreat
open Go.RowKit
def zfQ (D:Nat→Int):Nat→Int
 |0=>0
 |i+1=>if i=0 then D i else imin (zfQ D i) (D i)
def zfP (D:Nat→Int):Nat→Int
 |0=>0
 |i+1=>if i=0 then D i else imax (zfP D i) (D i)
theorem zis:∀ (l:List Int) (a b:Int),zgd a (l++[b])=imin (zgd a l) b
 |[],_,_=>rfl
 |c::l,a,b=>zis l (imin a c) b
theorem zjW:∀ (l:List Int) (a b:Int),most a (l++[b])=imax (most a l) b
 |[],_,_=>rfl
 |c::l,a,b=>zjW l (imax a c) b
theorem zl0 (f:Int→Int) (a:Int) (r:List Int):∀ k,k≤r.length→zfQ (fun i=>f ((a::r).getD i 0)) (k+1)=zgd (f a) ((r.take k).map f)
 |0,_=>rfl
 |k+1,hk=>by
  have hlt:k<r.length:=hk
  show (if k+1=0 then _ else imin (zfQ (fun i=>f ((a::r).getD i 0)) (k+1)) (f ((a::r).getD (k+1) 0)))=_
  rw[if_neg (by omega),zl0 f a r k (by omega),List.take_succ_eq_append_getElem hlt,List.map_append,List.map_cons,List.map_nil,zis]
  simp[List.getElem?_eq_getElem hlt]
theorem zlZ (f:Int→Int) (a:Int) (r:List Int):∀ k,k≤r.length→zfP (fun i=>f ((a::r).getD i 0)) (k+1)=most (f a) ((r.take k).map f)
 |0,_=>rfl
 |k+1,hk=>by
  have hlt:k<r.length:=hk
  show (if k+1=0 then _ else imax (zfP (fun i=>f ((a::r).getD i 0)) (k+1)) (f ((a::r).getD (k+1) 0)))=_
  rw[if_neg (by omega),zlZ f a r k (by omega),List.take_succ_eq_append_getElem hlt,List.map_append,List.map_cons,List.map_nil,zjW]
  simp[List.getElem?_eq_getElem hlt]
theorem zrT (l:List Pt) (x:Sp):fitR (zfQ (fun i=>(zb4 l false ((zaX l x).getD i 0)).1) (zaX l x).length) (zfP (fun i=>(zb4 l true ((zaX l x).getD i 0)).2) (zaX l x).length)=zfO l x:=by
 unfold zfO zaX
 generalize ((l.filter fun p=>decide (x.lo≤p.place)&&decide (p.place≤x.hi)).map Pt.place)=r
 have h1:=zl0 (fun y=>(zb4 l false y).1) x.lo (x.hi::r) (x.hi::r).length (Nat.le_refl _)
 have h2:=zlZ (fun y=>(zb4 l true y).2) x.lo (x.hi::r) (x.hi::r).length (Nat.le_refl _)
 rw[List.take_length] at h1 h2
 show fitR (zfQ _ ((x.hi::r).length+1)) (zfP _ ((x.hi::r).length+1))=_
 rw[h1,h2]
 rfl
theorem ziu {l:List Pt} {up:Bool} {x:Int} (ht:zaY l=true):R128 (zb4 l up x).1∧R128 (zb4 l up x).2:=by
 obtain ⟨h1,h2,h3,h4⟩:=zdh ht
 have hle:=zkM x l
 have one:∀ k (hk:k<l.length),R128 (bnd up l[k].value):=fun k hk=>by
  have:=(zih (h3 k hk) up).2
  unfold R128
  omega
 by_cases c0:idxT x l=0
 ·rw[zn4 c0 (by omega)]
  exact ⟨one 0 (by omega),one 0 (by omega)⟩
 obtain ⟨k,hk⟩:∃ k,idxT x l=k+1:=⟨idxT x l-1,by omega⟩
 by_cases c1:idxT x l=l.length
 ·rw[zn6 c1 (by omega:l.length=k+1) (by omega)]
  exact ⟨one k (by omega),one k (by omega)⟩
 ·have hkl:k+1<l.length:=by omega
  have hk0:k<l.length:=by omega
  rw[zn5 hk hkl hk0]
  have hb:=zgJ (x:=x) (l:=l) k hk0 (by omega)
  have hlt:idxT x l<l.length:=by omega
  have hq:x≤l[k+1].place:=by
   have:=zgI (x:=x) (l:=l) hlt
   simpa only[hk] using this
  obtain ⟨⟨a5,a6⟩,a1,a2⟩:=zih (h3 k hk0) up
  obtain ⟨⟨a7,a8⟩,a3,a4⟩:=zih (h3 (k+1) hkl) up
  have hbx:=zoe (a:=bnd up l[k+1].value-bnd up l[k].value) (b:=x-l[k].place) (d:=l[k+1].place-l[k].place) (by omega) (by omega) (by omega) (by omega)
  unfold R128
  simp only[]
  omega
theorem ziG {D:Nat→Int} (h:∀ i,R128 (D i)):∀ i,R128 (zfQ D i)
 |0=>by show R128 0;unfold R128;omega
 |i+1=>by
  show R128 (if i=0 then D i else imin (zfQ D i) (D i))
  split
  ·exact h i
  ·unfold imin
   split
   ·exact h i
   ·exact ziG h i
theorem ziF {D:Nat→Int} (h:∀ i,R128 (D i)):∀ i,R128 (zfP D i)
 |0=>by show R128 0;unfold R128;omega
 |i+1=>by
  show R128 (if i=0 then D i else imax (zfP D i) (D i))
  split
  ·exact h i
  ·unfold imax
   split
   ·exact h i
   ·exact ziF h i
end Go.Proofs.YtdkfkalplmgoeaaGreat
namespace Go.Proofs.YtdkfkalplmgoeaaGreat
open Go.RowKit Go.Shelf
set_option maxRecDepth 100000
set_option maxHeartbeats 8000000
def numC (x:Int):List Value:=[.int .i64 x]
theorem zrQ:(Tryz.prog.info? 22).map (fun i=>(i.zero,i.size,i.bytes))=some (some (.int .i64 0),1,8):=by kernel_rfl
theorem zok (l:List Int) (k:Int):l.flatMap numC++[.int .i64 k]=(l++[k]).flatMap numC:=by simp[numC]
theorem zii {ops:Array Oper} {rest:List Oper} {o:Oper} {a:Act} {Q:Exit→Act→World→Prop} (a0 w:World) (g0:Grew a0 w) {m:Nat} [hm:SizeAt w m] (hgd:o.guard=none) (s x:Operand)
 (ho:o.op=.call { callee:=.builtin .append,args:=#[s,x],argTypes:=#[215, 215] }) (v:Value) (l:List Int) (hown:w.ownsRow a0.heap.size 22 1 v l.length (l.flatMap numC)) (hs:a.eval s=v) (k:Int) (ty:TypeId)
 (hx:a.eval x=.slice (some ⟨m,0,none⟩) 1 1) (hn:l.length≤1099511627776)
 (h:∀ v' (y:Later a0),y.world.ownsRow a0.heap.size 22 1 v' (l++[k]).length ((l++[k]).flatMap numC)→wpList Tryz.prog ops Q rest (a.put o.dst v') y.world) :
 wpList Tryz.prog ops Q (o::rest) a (w.alloc (.cells #[.int .i64 k] ty)):=by
 obtain rfl:=hm.eq
 obtain ⟨i0,hi,hz0,hzz1,hzz2⟩:=info_parts zrQ
 refine wpList_append_own _ hgd s x 215 ho a0.heap.size 22 i0 (.int .i64 0) 1 8 Tryz.underlying215 hi hz0 hzz1 hzz2 rfl (by decide) v _ _ hs (hown.alloc _) ⟨w.heap.size,0,none⟩ 1 1 [.int .i64 k] hx rfl (by simpa using zf5 w [.int .i64 k] ty) (by simp[Value.oneCell']) (by simp[maxLen];omega) (by omega) (by have:=g0.size;simp;omega) ?_
 intro v' w1 hown' hgrow _
 obtain ⟨y,rfl⟩:=zal (Grew.append (g0.alloc (.cells #[.int .i64 k] ty)) (hown.alloc (.cells #[.int .i64 k] ty)) (Nat.le_refl _) hgrow)
 refine h v' y ?_
 rw[←zok,List.length_append]
 exact hown'
def inT (x:Sp) (p:Pt):Bool:=decide (x.lo≤p.place)&&decide (p.place≤x.hi)
def zbt (l:List Pt) (x:Sp) (k:Nat):List Int:=x.lo::x.hi::((l.take k).filter (inT x)).map Pt.place
theorem zdo (l:List Pt) (x:Sp):zbt l x l.length=zaX l x:=by
 unfold zbt zaX
 rw[List.take_length]
 rfl
theorem zeN {l:List Pt} {x:Sp} {k:Nat} (hk:k<l.length) (h:inT x l[k]=true):zbt l x (k+1)=zbt l x k++[l[k].place]:=by
 unfold zbt
 rw[List.take_succ_eq_append_getElem hk,List.filter_append,List.map_append]
 simp[h]
theorem zg6 {l:List Pt} {x:Sp} {k:Nat} (hk:k<l.length) (h:inT x l[k]=false):zbt l x (k+1)=zbt l x k:=by
 unfold zbt
 rw[List.take_succ_eq_append_getElem hk,List.filter_append,List.map_append]
 simp[h]
theorem zg5 (l:List Pt) (x:Sp) (k:Nat):(zbt l x k).length≤l.length+2:=by
 unfold zbt
 simp only[List.length_cons,List.length_map]
 have h1:=List.length_filter_le (inT x) (l.take k)
 have h2:=List.length_take_le k l
 have h3:(l.take k).length≤l.length:=by rw[List.length_take];omega
 omega
structure Run2 (z:World) (q8 q9:Nat) (lo hi:Int) (y:World):Prop where
 grew:Grew z y
 b8:zav y q8 [.int .i64 ((mkW lo)).h,.int .u64 ((mkW lo)).l]
 b9:zav y q9 [.int .i64 ((mkW hi)).h,.int .u64 ((mkW hi)).l]
def zrg (f:FuncId):Prop:=∀ (l:List Pt) (x:Sp) (ao:Option Addr) (cap:Nat) (w:World),SlAt w (.slice ao l.length cap) l.length (l.flatMap Pt.cells)→Calls Tryz.prog f #[.slice ao l.length cap,.agg #[.int .i64 x.lo,.int .i64 x.hi]] w fun e w'=>e=.returned (.tuple #[.agg #[.int .i64 (zcx l x).s.lo,.int .i64 (zcx l x).s.hi],.int .i64 (zcx l x).e])∧Grew w w'
theorem zoN (l:List Pt) (x:Sp) (h:(zaY l&&x.okB)=false) (ao:Option Addr) (cap:Nat) (w:World) (hs:SlAt w (.slice ao l.length cap) l.length (l.flatMap Pt.cells)) :
 Calls Tryz.prog 168 #[.slice ao l.length cap,.agg #[.int .i64 x.lo,.int .i64 x.hi]] w fun e w'=>e=.returned (.tuple #[.agg #[.int .i64 (zcx l x).s.lo,.int .i64 (zcx l x).s.hi],.int .i64 (zcx l x).e])∧Grew w w':=by
 have HR:=Lib.hid (show errR 2=zcx l x by unfold zcx;rw[h];rfl)
 cases h1:zaY l
 ·have HB:=Lib.hid (fun w' (g:Grew w w')=>zb0 (show zci (zaY l) 2=2 by rw[h1];rfl) (zfJ l (.slice ao l.length cap) w' (hs.grew g)))
  clear h h1 hs
  go_enter Tryz.func168,Tryz.ntmps168
  go_wp2_with (first|(go_at_call 93;(with_reducible refine zaa (HB.out _ gw) ?_);intro u)|((with_reducible refine zab ?_ ?_ ?_);(· kernel_rfl);(· kernel_rfl);(try simp only[List.append_eq,List.cons_append,List.nil_append]);(repeat (go_big_quiet_step ((first|(go_at_call 93;(with_reducible exact zac (HB.out _ gw)))))));refine wpQuiet_nil ?_;rintro _ ⟨u,rfl⟩))
  refine bodyPost_ret (by (simp[results,Tryz.results168,go_sem]<;>rfl)) rfl ?_
  exact ⟨za1 HR.out rfl,gw⟩
 ·have HB:=Lib.hid (fun w' (g:Grew w w')=>zb0 (show zci (zaY l) 2=0 by rw[h1];rfl) (zfJ l (.slice ao l.length cap) w' (hs.grew g)))
  rw[h1,Bool.true_and] at h
  have HC:=Lib.hid (fun w'=>zb0 (show zci x.okB 2=2 by rw[h];rfl) (zaM x w'))
  clear h h1 hs
  go_enter Tryz.func168,Tryz.ntmps168
  go_wp2_with (first|(go_at_call 93;(with_reducible refine zaa (HB.out _ gw) ?_);intro u)|(go_at_call 87;(with_reducible refine zaa (HC.out _) ?_);intro u)|((with_reducible refine zab ?_ ?_ ?_);(· kernel_rfl);(· kernel_rfl);(try simp only[List.append_eq,List.cons_append,List.nil_append]);(repeat (go_big_quiet_step ((first|(go_at_call 93;(with_reducible exact zac (HB.out _ gw)))|(go_at_call 87;(with_reducible exact zac (HC.out _)))))));refine wpQuiet_nil ?_;rintro _ ⟨u,rfl⟩))
  refine bodyPost_ret (by (simp[results,Tryz.results168,go_sem]<;>rfl)) rfl ?_
  exact ⟨za1 HR.out rfl,gw⟩
abbrev zoa (w:World) (x:Sp):World:=(w.alloc (.cells #[.int .i64 x.lo,.int .i64 x.hi] 24)).alloc (.cells #[.int .i64 0,.int .i64 0] 24)
theorem zqh (l:List Pt) (x:Sp) (h1:zaY l=true) (h2:x.okB=true) (ao:Option Addr) (cap:Nat) (w:World) (hs:SlAt w (.slice ao l.length cap) l.length (l.flatMap Pt.cells)) :
 Calls Tryz.prog 168 #[.slice ao l.length cap,.agg #[.int .i64 x.lo,.int .i64 x.hi]] w fun e w'=>e=.returned (.tuple #[.agg #[.int .i64 (zfO l x).s.lo,.int .i64 (zfO l x).s.hi],.int .i64 (zfO l x).e])∧Grew w w':=by
 have HB:=Lib.hid (fun w' (g:Grew w w')=>zb0 (show zci (zaY l) 2=0 by rw[h1];rfl) (zfJ l (.slice ao l.length cap) w' (hs.grew g)))
 have HC:=Lib.hid (fun w'=>zb0 (show zci x.okB 2=0 by rw[h2];rfl) (zaM x w'))
 have HLn:=Lib.hid (fun up y w' (g:Grew w w')=>zoK l up y h1 ao cap w' (hs.grew g))
 have Ht:=Lib.hid h1
 obtain ⟨q1,q2,-,-⟩:=zdh h1
 have hlen:=zg5 l x
 have hm:=hs.len_le
 unfold maxLen at hm
 obtain ⟨ao',cap',e1,-,hx⟩:=hs
 cases e1
 have HE:=Lib.hid (SlAt.elem (f:=Pt.cells) (c:=3) (fun _=>rfl) (by omega) hx)
 have Hlen:=Lib.hid hlen
 clear hx h1 h2 hlen
 go_enter Tryz.func168,Tryz.ntmps168
 go_wp2_with (first|(go_at_call 93;(with_reducible refine zaa (HB.out _ gw) ?_);intro u)|(go_at_call 87;(with_reducible refine zaa (HC.out _) ?_);intro u)|((with_reducible refine zab ?_ ?_ ?_);(· kernel_rfl);(· kernel_rfl);(try simp only[List.append_eq,List.cons_append,List.nil_append]);(repeat (go_big_quiet_step ((first|(go_at_call 93;(with_reducible exact zac (HB.out _ gw)))|(go_at_call 87;(with_reducible exact zac (HC.out _)))))));refine wpQuiet_nil ?_;rintro _ ⟨u,rfl⟩))
 have hbase:(zoa w x).heap.size≤u.world.heap.size:=Grew.size gw
 go_loopw [6,7] (fun v t wr=>∃ k:Nat,t=.int .i64 k∧k≤l.length∧wr.ownsRow (zoa w x).heap.size 22 1 v (zbt l x k).length ((zbt l x k).flatMap numC)∧Grew (zoa w x) wr) (fun _ t _=>l.length-(intOf t).toNat)
 case atStart=>
  refine ⟨0,by simp,by omega,?_,gw⟩
  exact World.ownsRow_lit u.world #[.int .i64 x.lo,.int .i64 x.hi] 2 hbase (by simp[maxLen]) rfl
 case round=>
  obtain ⟨k,rfl,hk,hown,hg⟩:=hrel
  obtain ⟨z,rfl⟩:=zal hg
  clear hg
  have Hown:=Lib.hid hown
  clear hown
  by_cases hlt:k<l.length
  ·obtain ⟨b1,o1,e1,i1,hd1,hd2⟩:=HE.out k hlt
   cases e1
   have hc0:=hd1 _ rfl
   have j1:BlockIn w b1:=⟨i1⟩
   clear hd1 hd2
   have Pin:=Lib.hid (fun h=>zeN (x:=x) hlt h)
   have Pout:=Lib.hid (fun h=>zg6 (x:=x) hlt h)
   have hl2:(zbt l x k).length≤1099511627776:=by have:=Hlen.out k;omega
   generalize l[k]=p0 at *
   cases c1:decide (x.lo≤p0.place)
   ·have hn:=Lib.hid (Pout.out (by unfold inT;rw[c1];rfl))
    clear Pin Pout
    go_wp2_with (first|((with_reducible refine zab ?_ ?_ ?_);(· kernel_rfl);(· kernel_rfl);(try simp only[List.append_eq,List.cons_append,List.nil_append]);(repeat (go_big_quiet_step (fail)));refine wpQuiet_nil ?_;rintro _ ⟨u,rfl⟩))
    go_roundw
    case rel=>exact ⟨k+1,by go_num,by omega,by rw[hn.out];exact za7 Hown.out gw,gw⟩
    case measure=>simp[intOf];omega
   ·cases c2:decide (p0.place≤x.hi)
    ·have hn:=Lib.hid (Pout.out (by unfold inT;rw[c1,c2];rfl))
     clear Pin Pout
     go_wp2_with (first|((with_reducible refine zab ?_ ?_ ?_);(· kernel_rfl);(· kernel_rfl);(try simp only[List.append_eq,List.cons_append,List.nil_append]);(repeat (go_big_quiet_step (fail)));refine wpQuiet_nil ?_;rintro _ ⟨u,rfl⟩))
     go_roundw
     case rel=>exact ⟨k+1,by go_num,by omega,by rw[hn.out];exact za7 Hown.out gw,gw⟩
     case measure=>simp[intOf];omega
    ·have hn:=Lib.hid (Pin.out (by unfold inT;rw[c1,c2];rfl))
     clear Pin Pout
     go_wp2_with (first|(at_builtin;refine zii (zoa w x) _ gw rfl _ _ rfl _ _ (za7 Hown.out gw) rfl _ _ rfl hl2 ?_;intro v' y1 hown')|((with_reducible refine zab ?_ ?_ ?_);(· kernel_rfl);(· kernel_rfl);(try simp only[List.append_eq,List.cons_append,List.nil_append]);(repeat (go_big_quiet_step (fail)));refine wpQuiet_nil ?_;rintro _ ⟨u,rfl⟩))
     have gy:Grew (zoa w x) y1.world:=y1.grew
     go_roundw
     case rel=>exact ⟨k+1,by go_num,by omega,by rw[hn.out];exact hown',gy⟩
     case measure=>simp[intOf];omega
  ·obtain rfl:k=l.length:=by omega
   have hown2:=Hown.out
   rw[zdo] at hown2
   obtain ⟨aoP,capP,rfl,hcP,hmP⟩:=zgm hown2 (by simp[zaX])
   have hlenP:(zaX l x).length≤66:=by have:=Hlen.out l.length;rw[zdo] at this;omega
   have hlen1:1≤(zaX l x).length:=by simp[zaX]
   obtain ⟨ao',cap',e1,-,hxP⟩:=SlAt.of_owns hown2
   cases e1
   have HEp:=Lib.hid (SlAt.elem (f:=numC) (c:=1) (fun _=>rfl) (by omega) hxP)
   have hfin:=zrT l x
   have HL1:=Lib.hid (fun i (hi:i<(zaX l x).length) w' (g:Grew w w')=>show Calls Tryz.prog 194 #[.slice ao l.length cap,.bool false,.int .i64 (zaX l x)[i]] w' (fun e w''=>e=.returned (.tuple #[.agg #[.int .i64 (mkW ((fun i=>(zb4 l false ((zaX l x).getD i 0)).1) i)).h,.int .u64 (mkW ((fun i=>(zb4 l false ((zaX l x).getD i 0)).1) i)).l],.agg #[.int .i64 (mkW (zb4 l false (zaX l x)[i]).2).h,.int .u64 (mkW (zb4 l false (zaX l x)[i]).2).l]])∧Grew w' w'') from by
    have:=HLn.out false (zaX l x)[i] w' g
    simpa [List.getElem?_eq_getElem hi] using this)
   have HL2:=Lib.hid (fun i (hi:i<(zaX l x).length) w' (g:Grew w w')=>show Calls Tryz.prog 194 #[.slice ao l.length cap,.bool true,.int .i64 (zaX l x)[i]] w' (fun e w''=>e=.returned (.tuple #[.agg #[.int .i64 (mkW (zb4 l true (zaX l x)[i]).1).h,.int .u64 (mkW (zb4 l true (zaX l x)[i]).1).l],.agg #[.int .i64 (mkW ((fun i=>(zb4 l true ((zaX l x).getD i 0)).2) i)).h,.int .u64 (mkW ((fun i=>(zb4 l true ((zaX l x).getD i 0)).2) i)).l]])∧Grew w' w'') from by
    have:=HLn.out true (zaX l x)[i] w' g
    simpa [List.getElem?_eq_getElem hi] using this)
   have hD:∀ i,R128 ((fun i=>(zb4 l false ((zaX l x).getD i 0)).1) i):=fun i=>(ziu Ht.out).1
   have hA:∀ i,R128 ((fun i=>(zb4 l true ((zaX l x).getD i 0)).2) i):=fun i=>(ziu Ht.out).2
   clear hown2 Hown hxP Hlen HLn HB HC
   generalize (fun i=>(zb4 l false ((zaX l x).getD i 0)).1)=D at *
   generalize (fun i=>(zb4 l true ((zaX l x).getD i 0)).2)=A at *
   have HDr:=Lib.hid (ziG hD)
   have HAr:=Lib.hid (ziF hA)
   have HD:=Lib.hid hD
   have HA:=Lib.hid hA
   have Hfin:=Lib.hid hfin
   clear hD hA hfin
   generalize hR:zfO l x=R at *
   generalize zaX l x=P at *
   go_wp2
   go_loopw [10] (fun t wr=>∃ (i:Nat) (y:World),y=wr∧t=.int .i64 i∧i≤P.length∧Hid (Run2 z.world z.world.heap.size (z.world.heap.size+1) (zfQ D i) (zfP A i) y)) (fun t _=>P.length-(intOf t).toNat)
   case atStart=>exact ⟨0,_,rfl,rfl,by omega,Lib.hid ⟨gw,zdM (by go_simp;rfl) (by go_simp) (by go_simp;rfl) (by go_simp),zdM (by go_simp;rfl) (by go_simp) (by go_simp;rfl) (by go_simp)⟩⟩
   case round=>
    obtain ⟨i,y,rfl,rfl,hi,HS⟩:=hrel
    obtain ⟨y',hy⟩:=zal HS.out.grew
    subst hy
    have b8:=HS.out.b8
    have b9:=HS.out.b9
    have n8:NewFor z.world z.world.heap.size:=inferInstance
    have n9:NewFor z.world (z.world.heap.size+1):=inferInstance
    have l9:z.world.heap.size+1<y'.world.heap.size:=World.block_lt_of_cell? _ _ (b9 0 _ rfl).1
    generalize h8:z.world.heap.size=q8 at *
    generalize h9:q8+1=q9 at *
    have:Apart (q8) (q9):=⟨by omega⟩
    have:Apart (q9) (q8):=⟨by omega⟩
    by_cases hlt2:i<P.length
    ·obtain ⟨bP,oP,e1,iP,hp1,-⟩:=HEp.out i hlt2
     cases e1
     have pc0:=hp1 _ rfl
     rw[Nat.mul_one] at pc0
     clear hp1
     have jP:BlockIn z.world bP:=⟨by omega⟩
     have K1:=Lib.hid (fun w' g=>HL1.out i hlt2 w' g)
     have K2:=Lib.hid (fun w' g=>HL2.out i hlt2 w' g)
     have M1:=Lib.hid (fun w'=>zaQ (D i) (zfQ D i) (HD.out i) (HDr.out i) w')
     have M2:=Lib.hid (fun w'=>zaQ (zfP A i) (A i) (HAr.out i) (HA.out i) w')
     have e1:zfQ D (i+1)=if i=0 then D i else imin (zfQ D i) (D i):=rfl
     have e2:zfP A (i+1)=if i=0 then A i else imax (zfP A i) (A i):=rfl
     generalize P[i]=pl at *
     generalize mkW (zb4 l false pl).2=x1 at *
     generalize mkW (zb4 l true pl).1=x2 at *
     by_cases hi0:i=0
     ·have t0:((i:Int)==0)=true:=by simp[hi0]
      rw[if_pos hi0] at e1 e2
      have E1:=Lib.hid (congrArg mkW e1)
      have E2:=Lib.hid (congrArg mkW e2)
      clear e1 e2 hi0 M1 M2 HL1 HL2 HS HD HA HDr HAr Hfin
      generalize mkW (D i)=mD at *
      generalize mkW (A i)=mA at *
      generalize mkW (zfQ D i)=mL at *
      generalize mkW (zfP A i)=mH at *
      have b8_0:=(b8 0 _ rfl).1
      have b8f0:=(b8 0 _ rfl).2
      have b8i0:HasCell (y'.world) (q8) 0:=⟨_,b8_0⟩
      have b8_1:=(b8 1 _ rfl).1
      have b8f1:=(b8 1 _ rfl).2
      have b8i1:HasCell (y'.world) (q8) 1:=⟨_,b8_1⟩
      have b8b:BlockIn (y'.world) (q8):=BlockIn.of_cell b8_0
      clear b8
      have b9_0:=(b9 0 _ rfl).1
      have b9f0:=(b9 0 _ rfl).2
      have b9i0:HasCell (y'.world) (q9) 0:=⟨_,b9_0⟩
      have b9_1:=(b9 1 _ rfl).1
      have b9f1:=(b9 1 _ rfl).2
      have b9i1:HasCell (y'.world) (q9) 1:=⟨_,b9_1⟩
      have b9b:BlockIn (y'.world) (q9):=BlockIn.of_cell b9_0
      clear b9
      go_wp2_with (first|(go_at_call 194;(with_reducible refine zaa (K1.out _ ?_) ?_);(· exact gw);intro v1)|(go_at_call 194;(with_reducible refine zaa (K2.out _ ?_) ?_);(· exact gw);intro v2))
      go_roundw
      case rel=>exact ⟨i+1,_,rfl,by go_num,by omega,Lib.hid ⟨gw,by rw[E1.out];exact bxt,by rw[E2.out];exact bxt⟩⟩
      case measure=>simp[intOf];omega
     ·have t0:((i:Int)==0)=false:=by simp[hi0]
      rw[if_neg hi0] at e1 e2
      cases d1:decide (D i<zfQ D i)
      all_goals
       cases d2:decide (zfP A i<A i)
       all_goals
        have E1:=Lib.hid (congrArg mkW e1)
        have E2:=Lib.hid (congrArg mkW e2)
        unfold imin at E1
        unfold imax at E2
        first|rw[if_pos (of_decide_eq_true d1)] at E1|rw[if_neg (of_decide_eq_false d1)] at E1
        first|rw[if_pos (of_decide_eq_true d2)] at E2|rw[if_neg (of_decide_eq_false d2)] at E2
        rw[d1] at M1
        rw[d2] at M2
        clear e1 e2 hi0 d1 d2 HL1 HL2 HS HD HA HDr HAr Hfin
        generalize mkW (D i)=mD at *
        generalize mkW (A i)=mA at *
        generalize mkW (zfQ D i)=mL at *
        generalize mkW (zfP A i)=mH at *
        have b8_0:=(b8 0 _ rfl).1
        have b8f0:=(b8 0 _ rfl).2
        have b8i0:HasCell (y'.world) (q8) 0:=⟨_,b8_0⟩
        have b8_1:=(b8 1 _ rfl).1
        have b8f1:=(b8 1 _ rfl).2
        have b8i1:HasCell (y'.world) (q8) 1:=⟨_,b8_1⟩
        have b8b:BlockIn (y'.world) (q8):=BlockIn.of_cell b8_0
        clear b8
        have b9_0:=(b9 0 _ rfl).1
        have b9f0:=(b9 0 _ rfl).2
        have b9i0:HasCell (y'.world) (q9) 0:=⟨_,b9_0⟩
        have b9_1:=(b9 1 _ rfl).1
        have b9f1:=(b9 1 _ rfl).2
        have b9i1:HasCell (y'.world) (q9) 1:=⟨_,b9_1⟩
        have b9b:BlockIn (y'.world) (q9):=BlockIn.of_cell b9_0
        clear b9
        go_wp2_with (first|(go_at_call 194;(with_reducible refine zaa (K1.out _ ?_) ?_);(· exact gw);intro v1)|(go_at_call 194;(with_reducible refine zaa (K2.out _ ?_) ?_);(· exact gw);intro v2)|(go_at_call 125;(with_reducible refine zaa (M1.out _) ?_);intro v3)|(go_at_call 125;(with_reducible refine zaa (M2.out _) ?_);intro v4))
        go_roundw
        case rel=>exact ⟨i+1,_,rfl,by go_num,by omega,Lib.hid ⟨gw,by rw[E1.out];exact bxt,by rw[E2.out];exact bxt⟩⟩
        case measure=>simp[intOf];omega
    ·obtain rfl:i=P.length:=by omega
     have HO:=Lib.hid (fun w'=>zeT (zfQ D P.length) (zfP A P.length) (HDr.out _) (HAr.out _) w')
     rw[Hfin.out] at HO
     clear HL1 HL2 HS HD HA HDr HAr Hfin
     generalize mkW (zfQ D P.length)=mL at *
     generalize mkW (zfP A P.length)=mH at *
     have b8_0:=(b8 0 _ rfl).1
     have b8f0:=(b8 0 _ rfl).2
     have b8i0:HasCell (y'.world) (q8) 0:=⟨_,b8_0⟩
     have b8_1:=(b8 1 _ rfl).1
     have b8f1:=(b8 1 _ rfl).2
     have b8i1:HasCell (y'.world) (q8) 1:=⟨_,b8_1⟩
     have b8b:BlockIn (y'.world) (q8):=BlockIn.of_cell b8_0
     clear b8
     have b9_0:=(b9 0 _ rfl).1
     have b9f0:=(b9 0 _ rfl).2
     have b9i0:HasCell (y'.world) (q9) 0:=⟨_,b9_0⟩
     have b9_1:=(b9 1 _ rfl).1
     have b9f1:=(b9 1 _ rfl).2
     have b9i1:HasCell (y'.world) (q9) 1:=⟨_,b9_1⟩
     have b9b:BlockIn (y'.world) (q9):=BlockIn.of_cell b9_0
     clear b9
     go_wp2_with (first|(go_at_call 66;(with_reducible refine zaa (HO.out _) ?_);intro u)|((with_reducible refine zab ?_ ?_ ?_);(· kernel_rfl);(· kernel_rfl);(try simp only[List.append_eq,List.cons_append,List.nil_append]);(repeat (go_big_quiet_step ((first|(go_at_call 66;(with_reducible exact zac (HO.out _)))))));refine wpQuiet_nil ?_;rintro _ ⟨u,rfl⟩))
     refine bodyPost_ret (by (simp[results,Tryz.results168,go_sem]<;>rfl)) rfl ?_
     exact ⟨by subst hR;rfl,gw⟩
theorem zoM:zrg 168:=fun l x ao cap w hs=>by
 cases h:(zaY l&&x.okB)
 ·exact zoN l x h ao cap w hs
 ·rw[show zcx l x=zfO l x by unfold zcx;rw[h];rfl]
  rw[Bool.and_eq_true] at h
  exact zqh l x h.1 h.2 ao cap w hs
end Go.Proofs.YtdkfkalplmgoeaaGreat
namespace Go.Proofs.YtdkfkalplmgoeaaGreat
open Go.RowKit Go.Shelf
set_option maxRecDepth 100000
set_option maxHeartbeats 8000000
theorem zjT:∀ (L:List Big) (x:Big),(leastB x L).val=zgd x.val (L.map Big.val)
 |[],_=>rfl
 |y::L,x=>by
  show (leastB (if y.val<x.val then y else x) L).val=zgd (imin x.val y.val) (L.map Big.val)
  rw[zjT L]
  unfold imin
  split<;>rfl
theorem zlO:∀ (L:List Big) (x:Big),(zcp x L).val=most x.val (L.map Big.val)
 |[],_=>rfl
 |y::L,x=>by
  show (zcp (if x.val<y.val then y else x) L).val=most (imax x.val y.val) (L.map Big.val)
  rw[zlO L]
  unfold imax
  split<;>rfl
def rowD (l:List Pt) (x:Sp) (k:Nat):List Value:=(zbt l x k).flatMap fun y=>(zcj l false y).1.cells
def rowA (l:List Pt) (x:Sp) (k:Nat):List Value:=(zbt l x k).flatMap fun y=>(zcj l true y).2.cells
theorem zsp {l:List Pt} {x:Sp} {k:Nat} (hk:k<l.length) (h:inT x l[k]=true):rowD l x (k+1)=rowD l x k++(zcj l false l[k].place).1.cells:=by
 unfold rowD
 rw[zeN hk h,List.flatMap_append]
 simp
theorem zsm {l:List Pt} {x:Sp} {k:Nat} (hk:k<l.length) (h:inT x l[k]=true):rowA l x (k+1)=rowA l x k++(zcj l true l[k].place).2.cells:=by
 unfold rowA
 rw[zeN hk h,List.flatMap_append]
 simp
def zg1 (l:List Pt) (x:Sp):List Big:=(zaX l x).tail.map fun y=>(zcj l false y).1
def zfi (l:List Pt) (x:Sp):List Big:=(zaX l x).tail.map fun y=>(zcj l true y).2
theorem zqs (l:List Pt) (x:Sp):rowD l x l.length=((zcj l false x.lo).1::zg1 l x).flatMap Big.cells:=by
 unfold rowD zg1
 rw[zdo]
 unfold zaX
 simp only[List.tail_cons,List.flatMap_cons,List.map_cons,List.flatMap_map]
theorem zqq (l:List Pt) (x:Sp):rowA l x l.length=((zcj l true x.lo).2::zfi l x).flatMap Big.cells:=by
 unfold rowA zfi
 rw[zdo]
 unfold zaX
 simp only[List.tail_cons,List.flatMap_cons,List.map_cons,List.flatMap_map]
theorem zp2 (l:List Pt) (x:Sp):(zbt l x l.length).length=(zg1 l x).length+1∧(zbt l x l.length).length=(zfi l x).length+1:=by
 unfold zg1 zfi
 rw[zdo]
 unfold zaX
 simp
theorem zrW {l:List Pt} {x:Sp} (ht:zaY l=true):((zcj l false x.lo).1.ok∧∀ y∈zg1 l x,y.ok)∧(zcj l true x.lo).2.ok∧∀ y∈zfi l x,y.ok:=by
 refine ⟨⟨(zcn ht).1,fun y hy=>?_⟩,(zcn ht).2.1,fun y hy=>?_⟩
 ·obtain ⟨t,-,rfl⟩:=List.mem_map.1 hy
  exact (zcn ht).1
 ·obtain ⟨t,-,rfl⟩:=List.mem_map.1 hy
  exact (zcn ht).2.1
theorem zrV {l:List Pt} {x:Sp} (ht:zaY l=true):fitR (leastB (zcj l false x.lo).1 (zg1 l x)).val (zcp (zcj l true x.lo).2 (zfi l x)).val=zfO l x:=by
 unfold zfO zg1 zfi
 rw[zjT,zlO,List.map_map,List.map_map,(zcn (up:=false) (x:=x.lo) ht).2.2.1,(zcn (up:=true) (x:=x.lo) ht).2.2.2]
 congr 1
 ·congr 1
  exact List.map_congr_left fun y _=>(zcn ht).2.2.1
 ·congr 1
  exact List.map_congr_left fun y _=>(zcn ht).2.2.2
theorem zpY (a:World):LkAt a 0 [] [] ((a.alloc (.cells #[.slice none 0 0] 214)).alloc (.cells #[.slice none 0 0] 214)):=by
 have h1:BoxIs (a.alloc (.cells #[.slice none 0 0] 214)) a.heap.size (.slice none 0 0):=⟨zdm a [.slice none 0 0] _⟩
 have h2:BoxIs ((a.alloc (.cells #[.slice none 0 0] 214)).alloc (.cells #[.slice none 0 0] 214)) (a.heap.size+1) (.slice none 0 0):=⟨by
  have h:=zdm (a.alloc (.cells #[.slice none 0 0] 214)) [.slice none 0 0] 214
  rwa [show (a.alloc (.cells #[.slice none 0 0] 214)).heap.size=a.heap.size+1 by simp] at h⟩
 exact ⟨((Grew.refl a).alloc _).alloc _,by simp,_,_,inferInstance,h2,World.ownsRow_nil _ _ _ _,World.ownsRow_nil _ _ _ _,zgx _⟩
theorem zn7 {a W W':World} {n:Nat} {D A:List Value} (h:LkAt a n D A W) (g:Grew W W'):LkAt a n D A W':=by
 obtain ⟨hg,hb,vd,va,b6,b7,o1,o2,hap⟩:=h
 exact ⟨hg.trans g,Nat.le_trans hb g.size,vd,va,b6.grew g,b7.grew g,za7 o1 g,za7 o2 g,hap⟩
theorem zp0 (l:List Pt) (x:Sp) (h:(zaY l&&x.okB)=false) (ao:Option Addr) (cap:Nat) (w:World) (hs:SlAt w (.slice ao l.length cap) l.length (l.flatMap Pt.cells)) :
 Calls Tryz.prog 191 #[.slice ao l.length cap,.agg #[.int .i64 x.lo,.int .i64 x.hi]] w fun e w'=>e=.returned (.tuple #[.agg #[.int .i64 (zcx l x).s.lo,.int .i64 (zcx l x).s.hi],.int .i64 (zcx l x).e])∧Grew w w':=by
 have HR:=Lib.hid (show errR 2=zcx l x by unfold zcx;rw[h];rfl)
 cases h1:zaY l
 ·have HB:=Lib.hid (fun w' (g:Grew w w')=>zb0 (show zci (zaY l) 2=2 by rw[h1];rfl) (zeZ l (.slice ao l.length cap) w' (hs.grew g)))
  clear h h1 hs
  go_enter Tryz.func191,Tryz.ntmps191
  go_wp2_with (first|(go_at_call 95;(with_reducible refine zaa (HB.out _ gw) ?_);intro u))
  refine bodyPost_ret (by (simp[results,Tryz.results191,go_sem]<;>rfl)) rfl ?_
  exact ⟨za1 HR.out rfl,gw⟩
 ·have HB:=Lib.hid (fun w' (g:Grew w w')=>zb0 (show zci (zaY l) 2=0 by rw[h1];rfl) (zeZ l (.slice ao l.length cap) w' (hs.grew g)))
  rw[h1,Bool.true_and] at h
  have HC:=Lib.hid (fun w'=>zb0 (show zci x.okB 2=2 by rw[h];rfl) (zbF x w'))
  clear h h1 hs
  go_enter Tryz.func191,Tryz.ntmps191
  go_wp2_with (first|(go_at_call 95;(with_reducible refine zaa (HB.out _ gw) ?_);intro u)|(go_at_call 72;(with_reducible refine zaa (HC.out _) ?_);intro u))
  refine bodyPost_ret (by (simp[results,Tryz.results191,go_sem]<;>rfl)) rfl ?_
  exact ⟨za1 HR.out rfl,gw⟩
theorem zrU (l:List Pt) (x:Sp) (h1:zaY l=true) (h2:x.okB=true) (ao:Option Addr) (cap:Nat) (w:World) (hs:SlAt w (.slice ao l.length cap) l.length (l.flatMap Pt.cells)) :
 Calls Tryz.prog 191 #[.slice ao l.length cap,.agg #[.int .i64 x.lo,.int .i64 x.hi]] w fun e w'=>e=.returned (.tuple #[.agg #[.int .i64 (zfO l x).s.lo,.int .i64 (zfO l x).s.hi],.int .i64 (zfO l x).e])∧Grew w w':=by
 have HB:=Lib.hid (fun w' (g:Grew w w')=>zb0 (show zci (zaY l) 2=0 by rw[h1];rfl) (zeZ l (.slice ao l.length cap) w' (hs.grew g)))
 have HC:=Lib.hid (fun w'=>zb0 (show zci x.okB 2=0 by rw[h2];rfl) (zbF x w'))
 have HK:=Lib.hid (fun (a:World) (g:Grew w a) h0 n hn D A W y h=>zkQ l y h1 ao cap a (hs.grew g) w.heap.size h0 n hn D A W h)
 have HI:=Lib.hid (fun (p:Pt) w'=>zaz (show x.hasB p.place=inT x p by unfold Sp.hasB inT;rw[h2,Bool.true_and]) (zb6 x p.place w'))
 have Ht:=Lib.hid h1
 obtain ⟨q1,q2,-,-⟩:=zdh h1
 have hlen:=zg5 l x
 have hm:=hs.len_le
 unfold maxLen at hm
 obtain ⟨ao',cap',e1,-,hx⟩:=hs
 cases e1
 have HE:=Lib.hid (SlAt.elem (f:=Pt.cells) (c:=3) (fun _=>rfl) (by omega) hx)
 have Hlen:=Lib.hid hlen
 clear hx h1 h2 hlen
 go_enter Tryz.func191,Tryz.ntmps191
 go_wp2_with (first|(go_at_call 95;(with_reducible refine zaa (HB.out _ ?_) ?_);(· exact gw);intro u1)|(go_at_call 72;(with_reducible refine zaa (HC.out _) ?_);intro u2)|(go_at_call 208;refine (HK.out u2.world gw (by go_simp) 0 (Nat.zero_le _) _ _ _ _ (zpY u2.world)).mono ?_;rintro e w9 ⟨rfl,hk1⟩;obtain ⟨z1,rfl⟩:=zal hk1.grew)|(go_at_call 208;refine (HK.out u2.world gw (by go_simp) 1 (by decide) _ _ _ _ hk1).mono ?_;rintro e w9 ⟨rfl,hk2⟩;obtain ⟨z2,rfl⟩:=zal hk2.grew))
 go_loopw [35] (fun t wr=>∃ k:Nat,t=.int .i64 k∧k≤l.length∧Hid (LkAt u2.world (zbt l x k).length (rowD l x k) (rowA l x k) wr)) (fun t _=>l.length-(intOf t).toNat)
 case atStart=>
  exact ⟨0,rfl,by omega,Lib.hid (by simpa [rowD,rowA,zbt] using hk2)⟩
 case round=>
  obtain ⟨k,rfl,hk,HL⟩:=hrel
  obtain ⟨z,rfl⟩:=zal HL.out.grew
  clear hk1 hk2
  have j6:BlockIn z.world u2.world.heap.size:=⟨by have:=HL.out.base;omega⟩
  have j7:BlockIn z.world (u2.world.heap.size+1):=⟨by have:=HL.out.base;omega⟩
  by_cases hlt:k<l.length
  ·obtain ⟨b1,o1,e1,i1,hd1,hd2⟩:=HE.out k hlt
   cases e1
   have hc0:=hd1 _ rfl
   have hc1:=hd2 1 _ rfl
   have hc2:=hd2 2 _ rfl
   have jb:BlockIn w b1:=⟨i1⟩
   clear hd1 hd2
   have HDn:=Lib.hid (fun h=>zsp (x:=x) hlt h)
   have HAn:=Lib.hid (fun h=>zsm (x:=x) hlt h)
   have Pin:=Lib.hid (fun h=>zeN (x:=x) hlt h)
   have Pout:=Lib.hid (fun h=>zg6 (x:=x) hlt h)
   have hl2:(zbt l x k).length≤66:=by have:=Hlen.out k;omega
   generalize l[k]=p0 at *
   have HIp:=Lib.hid (HI.out p0)
   cases c1:inT x p0
   ·rw[c1] at HIp
    have hn:=Lib.hid (Pout.out c1)
    clear Pin Pout HDn HAn
    go_wp2_with (go_at_call 149;(with_reducible refine zaa (HIp.out _) ?_);intro u3)
    go_roundw
    case rel=>exact ⟨k+1,by go_num,by omega,Lib.hid (by unfold rowD rowA;rw[hn.out];exact zn7 HL.out gw)⟩
    case measure=>simp[intOf];omega
   ·rw[c1] at HIp
    have hn:=Lib.hid (Pin.out c1)
    have hD:=Lib.hid (HDn.out c1)
    have hA:=Lib.hid (HAn.out c1)
    clear Pin Pout HDn HAn
    go_wp2_with (first|(go_at_call 149;(with_reducible refine zaa (HIp.out _) ?_);intro u3)|(go_at_call 208;refine (HK.out u2.world gw (by go_simp) _ hl2 _ _ _ _ (zn7 HL.out gw)).mono ?_;rintro e w9 ⟨rfl,hk3⟩;obtain ⟨z3,rfl⟩:=zal hk3.grew))
    go_roundw
    case rel=>exact ⟨k+1,by go_num,by omega,Lib.hid (by rw[hn.out,List.length_append,hD.out,hA.out];exact hk3)⟩
    case measure=>simp[intOf];omega
  ·obtain rfl:k=l.length:=by omega
   obtain ⟨hg,hb,vd,va,b6,b7,o1,o2,hap⟩:=HL.out
   rw[zqs] at o1
   rw[zqq] at o2
   obtain ⟨lo1,lo2⟩:=zrW (x:=x) Ht.out
   have hfin:=zrV (x:=x) Ht.out
   obtain ⟨e1,e2⟩:=zp2 l x
   rw[e1] at o1
   rw[e2] at o2
   have hl3:=Hlen.out l.length
   rw[e1] at hl3
   generalize hR:zfO l x=R at *
   clear HL Hlen HB HC HI HE HK Ht e1
   generalize (zcj l false x.lo).1=xd at *
   generalize (zcj l true x.lo).2=xa at *
   generalize zg1 l x=Ld at *
   generalize zfi l x=La at *
   obtain ⟨ao1,cap1,rfl,hc1,hm1⟩:=zgm o1 (by omega)
   obtain ⟨ao2,cap2,rfl,hc2,hm2⟩:=zgm o2 (by omega)
   have Hs1:=Lib.hid (SlAt.of_owns o1)
   have Hs2:=Lib.hid (SlAt.of_owns o2)
   have HX:=Lib.hid (fun w h=>zfC xd Ld lo1.1 lo1.2 ao1 cap1 hc1 w h)
   have HY:=Lib.hid (fun w h=>zfC xa La lo2.1 lo2.2 ao2 cap2 hc2 w h)
   have HF:=Lib.hid (fun w=>zc9 (leastB xd Ld) (zcp xa La) (zge _ _ lo1.1 lo1.2) (zhl _ _ lo2.1 lo2.2) w)
   rw[hfin] at HF
   clear lo1 lo2 o1 o2 hap hfin
   have c6:=b6.c
   have c7:=b7.c
   clear b6 b7
   generalize leastB xd Ld=B1 at *
   generalize zcp xd Ld=B2 at *
   generalize leastB xa La=B3 at *
   generalize zcp xa La=B4 at *
   go_wp2_with (first|(go_at_call 176;(with_reducible refine zaa (HX.out _ (Hs1.out.grew gw)) ?_);intro u6)|(go_at_call 176;(with_reducible refine zaa (HY.out _ (Hs2.out.grew gw)) ?_);intro u7)|(go_at_call 64;(with_reducible refine zaa (HF.out _) ?_);intro u8))
   refine bodyPost_ret (by (simp[results,Tryz.results191,go_sem]<;>rfl)) rfl ?_
   exact ⟨by subst hR;rfl,gw⟩
theorem zpZ:zej 191:=fun l x _ ao cap w hs=>by
 cases h:(zaY l&&x.okB)
 ·exact zp0 l x h ao cap w hs
 ·rw[show zcx l x=zfO l x by unfold zcx;rw[h];rfl]
  rw[Bool.and_eq_true] at h
  exact zrU l x h.1 h.2 ao cap w hs
end Go.Proofs.YtdkfkalplmgoeaaGreat
