/-
  Joined: StepLaws, Folds2.
-/
import Derived.Test.YtdkfkalplmgoeaaGreatJointH
import Derived.Test.YtdkfkalplmgoeaaGreatFoldsH
import Derived.Test.YtdkfkalplmgoeaaGreatCalcsH
import Derived.Deep.RegionHeld3
namespace Go.Proofs.YtdkfkalplmgoeaaGreat
set_option maxRecDepth 100000
def runE:Int→List Res→Int
 |e,[]=>e
 |e,a::l=>runE (doR e a).e l
theorem zhr {e:Int} (h:e≠0):∀ l,runE e l=e
 |[]=>rfl
 |a::l=>by
  show runE (doR e a).e l=e
  rw[zaC a h]
  exact zhr h l
theorem zh1:∀ (l:List Res),(∀ a∈l,a.e=0)→runE 0 l=0
 |[],_=>rfl
 |a::l,h=>by
  show runE (doR 0 a).e l=0
  rw[zen,h a (by simp)]
  exact zh1 l fun b hb=>h b (by simp[hb])
theorem zh0:∀ (l:List Res),(∀ a∈l,E4 a)→¬ (∀ a∈l,a.e=0)→runE 0 l=4
 |[],_,h=>absurd (fun a ha=>by simp at ha) h
 |a::l,h4,h=>by
  show runE (doR 0 a).e l=4
  rw[zen]
  rcases h4 a (by simp) with h0|h0
  ·rw[h0]
   refine zh0 l (fun b hb=>h4 b (by simp[hb])) fun k=>h fun b hb=>?_
   rcases List.mem_cons.1 hb with rfl|hb
   ·exact h0
   ·exact k b hb
  ·rw[h0]
   exact zhr (by omega) l
structure CRes where
 p:Bx
 v:Bx
 e:Int
def ze4 (x y:CRes):Prop:=x.e=y.e∧(x.e=0→x.p=y.p∧x.v=y.v)
theorem ze4.refl (x:CRes):ze4 x x:=⟨rfl,fun _=>⟨rfl,rfl⟩⟩
theorem ze4.trans {x y z:CRes} (h:ze4 x y) (k:ze4 y z):ze4 x z:=
 ⟨h.1.trans k.1,fun e=>⟨(h.2 e).1.trans (k.2 (h.1▸e)).1,(h.2 e).2.trans (k.2 (h.1▸e)).2⟩⟩
theorem zek {x y:CRes} {e:Int} (he:e≠0) (h:x.e=e) (k:y.e=e):ze4 x y:=⟨h.trans k.symm,fun z=>absurd (h.symm.trans z) he⟩
theorem zgV {o o':CRes} (h:ze4 o o'):o=o'∨(o.e≠0∧o'.e≠0∧o.e=o'.e):=by
 by_cases he:o.e=0
 ·left
  obtain ⟨p,v,e⟩:=o
  obtain ⟨p',v',e'⟩:=o'
  have:=h.2 he
  have:=h.1
  simp_all
 ·exact .inr ⟨he,by rw[←h.1];exact he,h.1⟩
def rcM (d:Sp) (v:Bx) (e:Int):BRes:=zbR mulR e (ones d) v
def rcP (s:Bx) (d:Sp) (v:Bx) (e:Int):BRes:=zbR addR (rcM d v e).e s (rcM d v e).b
def zba (P V:Bx) (d:Sp) (v f:Bx) (e:Int):CRes:=⟨(rcP P d v e).b,(rcP V d f (rcP P d v e).e).b,(rcP V d f (rcP P d v e).e).e⟩
def rgE0 (P _V:Bx) (d:Sp) (v _f:Bx) (e:Int):Res:=zbs d v.x P.x e
def rgE1 (P V:Bx) (d:Sp) (v f:Bx) (e:Int):Res:=zbs d f.x V.x (rgE0 P V d v f e).e
def rgE2 (P V:Bx) (d:Sp) (v f:Bx) (e:Int):Res:=zbs d v.y P.y (rgE1 P V d v f e).e
def rgE3 (P V:Bx) (d:Sp) (v f:Bx) (e:Int):Res:=zbs d f.y V.y (rgE2 P V d v f e).e
def rgE4 (P V:Bx) (d:Sp) (v f:Bx) (e:Int):Res:=zbs d v.z P.z (rgE3 P V d v f e).e
def rgE5 (P V:Bx) (d:Sp) (v f:Bx) (e:Int):Res:=zbs d f.z V.z (rgE4 P V d v f e).e
def zaT (P V:Bx) (d:Sp) (v f:Bx) (e:Int):CRes:=⟨⟨(rgE0 P V d v f e).s,(rgE2 P V d v f e).s,(rgE4 P V d v f e).s⟩,⟨(rgE1 P V d v f e).s,(rgE3 P V d v f e).s,(rgE5 P V d v f e).s⟩,(rgE5 P V d v f e).e⟩
def ma (d u o:Sp):Res:=zc0 (mulR d u) (fun y=>addR o y)
theorem zmm {d u o:Sp} (hd:d.okB=true) (hu:u.okB=true) (ho:o.okB=true):E4 (ma d u o):=zhy (zeq hd hu) (zgZ ho zew)
theorem zhV (s:Bx) (d:Sp) (v:Bx) (e:Int) (hd:d.okB=true) (hv:v.Ok) (hs:s.Ok):zck (rcP s d v e) (th (fun e=>doR e (ma d v.x s.x)) (fun e=>doR e (ma d v.y s.y)) (fun e=>doR e (ma d v.z s.z)) e):=
 zh7 e _ _ _ (fun y=>addR s.x y) (fun y=>addR s.y y) (fun y=>addR s.z y) (zeq hd hv.1) (zeq hd hv.2.1) (zeq hd hv.2.2) (zgZ hs.1 zew) (zgZ hs.2.1 zew) (zgZ hs.2.2 zew) (rcM d v e) (by unfold rcM;rw[zf8];exact zck.refl _)
theorem zuA (a b c:Res) (e:Int):(th (fun e=>doR e a) (fun e=>doR e b) (fun e=>doR e c) e).e=runE e [a,b,c]:=rfl
theorem zk8 (e:Int):∀ (l m:List Res),runE e (l++m)=runE (runE e l) m:=by
 intro l
 induction l generalizing e with
 |nil=>exact fun _=>rfl
 |cons a l ih=>exact fun m=>ih _ m
theorem zk5 (P V:Bx) (d:Sp) (v f:Bx) (e:Int) (hP:P.Ok) (hV:V.Ok) (hd:d.okB=true) (hv:v.Ok) (hf:f.Ok):ze4 (zba P V d v f e) (zaT P V d v f e):=by
 have h1:=zhV P d v e hd hv hP
 have hg:(zaT P V d v f e).e=runE e [ma d v.x P.x,ma d f.x V.x,ma d v.y P.y,ma d f.y V.y,ma d v.z P.z,ma d f.z V.z]:=rfl
 by_cases he:e=0
 ·subst he
  have h2:=zhV V d f (rcP P d v 0).e hd hf hV
  have a1:=zmm hd hv.1 hP.1
  have a2:=zmm hd hv.2.1 hP.2.1
  have a3:=zmm hd hv.2.2 hP.2.2
  have b1:=zmm hd hf.1 hV.1
  have b2:=zmm hd hf.2.1 hV.2.1
  have b3:=zmm hd hf.2.2 hV.2.2
  have hr:(zba P V d v f 0).e=runE 0 ([ma d v.x P.x,ma d v.y P.y,ma d v.z P.z]++[ma d f.x V.x,ma d f.y V.y,ma d f.z V.z]):=by
   rw[zk8,show runE 0 [ma d v.x P.x,ma d v.y P.y,ma d v.z P.z]=(rcP P d v 0).e from h1.1.symm]
   exact h2.1.trans (zuA _ _ _ _)
  by_cases hz:(∀ a∈[ma d v.x P.x,ma d f.x V.x,ma d v.y P.y,ma d f.y V.y,ma d v.z P.z,ma d f.z V.z],a.e=0)
  ·have hz':∀ a∈[ma d v.x P.x,ma d v.y P.y,ma d v.z P.z]++[ma d f.x V.x,ma d f.y V.y,ma d f.z V.z],a.e=0:=fun a ha=>hz a (by simp at ha ⊢;rcases ha with h|h|h|h|h|h<;>simp[h])
   refine ⟨by rw[hr,hg,zh1 _ hz,zh1 _ hz'],fun _=>?_⟩
   have k1:=hz (ma d v.x P.x) (by simp)
   have k2:=hz (ma d f.x V.x) (by simp)
   have k3:=hz (ma d v.y P.y) (by simp)
   have k4:=hz (ma d f.y V.y) (by simp)
   have k5:=hz (ma d v.z P.z) (by simp)
   have k6:=hz (ma d f.z V.z) (by simp)
   rw[zlh _ _ _ k1 k3 k5] at h1
   have e1:(rcP P d v 0).e=0:=h1.1
   rw[e1,zlh _ _ _ k2 k4 k6] at h2
   have g0:rgE0 P V d v f 0=ma d v.x P.x:=rfl
   have g1:rgE1 P V d v f 0=ma d f.x V.x:=by unfold rgE1;rw[g0,k1];rfl
   have g2:rgE2 P V d v f 0=ma d v.y P.y:=by unfold rgE2;rw[g1,k2];rfl
   have g3:rgE3 P V d v f 0=ma d f.y V.y:=by unfold rgE3;rw[g2,k3];rfl
   have g4:rgE4 P V d v f 0=ma d v.z P.z:=by unfold rgE4;rw[g3,k4];rfl
   have g5:rgE5 P V d v f 0=ma d f.z V.z:=by unfold rgE5;rw[g4,k5];rfl
   unfold zba zaT
   simp only[g0,g1,g2,g3,g4,g5]
   exact ⟨h1.2 e1,by rw[e1];exact h2.2 h2.1⟩
  ·have hz':¬ ∀ a∈[ma d v.x P.x,ma d v.y P.y,ma d v.z P.z]++[ma d f.x V.x,ma d f.y V.y,ma d f.z V.z],a.e=0:=fun k=>hz fun a ha=>k a (by simp at ha ⊢;rcases ha with h|h|h|h|h|h<;>simp[h])
   have f4:∀ a∈[ma d v.x P.x,ma d f.x V.x,ma d v.y P.y,ma d f.y V.y,ma d v.z P.z,ma d f.z V.z],E4 a:=fun a ha=>by
    simp at ha
    rcases ha with rfl|rfl|rfl|rfl|rfl|rfl<;>assumption
   have f4':∀ a∈[ma d v.x P.x,ma d v.y P.y,ma d v.z P.z]++[ma d f.x V.x,ma d f.y V.y,ma d f.z V.z],E4 a:=fun a ha=>by
    simp at ha
    rcases ha with rfl|rfl|rfl|rfl|rfl|rfl<;>assumption
   exact zek (e:=4) (by omega) (by rw[hr,zh0 _ f4' hz']) (by rw[hg,zh0 _ f4 hz])
 ·refine zek he ?_ (by rw[hg,zhr he])
  have k1:(rcP P d v e).e=e:=h1.1.trans (zdt _ _ _ he)
  have h2:=zhV V d f e hd hf hV
  show (rcP V d f (rcP P d v e).e).e=e
  rw[k1]
  exact h2.1.trans (zdt _ _ _ he)
structure NRes where
 n:Int
 e:Int
def zbH (a:Sp):NRes:=if a.okB then (if 9223372036854775807<a.hi-a.lo then ⟨0,4⟩ else ⟨a.hi-a.lo,0⟩) else ⟨0,2⟩
def zfg (a:Sp) (by_:Int):Res:=if a.okB&&decide (0≤by_) then fitR (a.lo-by_) (a.hi+by_) else errR 2
def doN (e:Int) (r:NRes):Int:=if e=0 then r.e else e
def wdH (b m:Sp) (e:Int):Res:=doR e (zbh b m)
def wdE (b m:Sp) (e:Int):Int:=doN (wdH b m e).e (zbH (wdH b m e).s)
def wdBy (b m:Sp) (e:Int):Int:=(zbH (wdH b m e).s).n/8+65536
def wdR (b m:Sp) (e:Int):Res:=if m.inB b then ⟨b,e⟩ else doR (wdE b m e) (addR (wdH b m e).s ⟨-wdBy b m e,wdBy b m e⟩)
def gwN (b m:Sp):Int:=if (zbh b m).e=0 then (zbH (zbh b m).s).n else 0
def gwR (b m:Sp) (e:Int):Res:=if m.inB b then ⟨b,e⟩ else if e=0 then doR (wdE b m 0) (zfg (zbh b m).s (gwN b m/8+65536)) else ⟨b,e⟩
theorem zrP {a b:Sp} (ha:a.okB=true) (hb:b.okB=true):zbh a b=⟨zfW a b,0⟩∧(zfW a b).okB=true:=by
 unfold zbh
 rw[ha,hb]
 refine ⟨rfl,?_⟩
 unfold Sp.okB numB at *
 unfold zfW imin imax
 simp only[Bool.and_eq_true,decide_eq_true_eq] at *
 split<;>split<;>omega
theorem zpk {a:Sp} (h:a.okB=true):0≤(zbH a).n∧(zbH a).n≤9223372036854775807:=by
 have:=zgN h
 unfold zbH
 rw[if_pos h]
 split
 ·exact ⟨Int.le_refl _,by decide⟩
 ·exact ⟨by show 0≤a.hi-a.lo;omega,by show a.hi-a.lo≤_;omega⟩
theorem zpM {a:Sp} {y:Int} (h:a.okB=true) (h0:0≤y) (h1:y≤9223372036854775807):addR a ⟨-y,y⟩=zfg a y:=by
 unfold addR zfg
 have:(⟨-y,y⟩:Sp).okB=true:=by
  unfold Sp.okB numB
  simp only[Bool.and_eq_true,decide_eq_true_eq]
  omega
 rw[h,this,show decide (0≤y)=true by simpa using h0]
 show fitR (a.lo+-y) (a.hi+y)=fitR (a.lo-y) (a.hi+y)
 rw[Int.sub_eq_add_neg]
theorem zlr {b m:Sp} (hb:b.okB=true) (hm:m.okB=true):wdR b m 0=gwR b m 0:=by
 unfold wdR gwR
 split
 ·rfl
 ·rw[if_pos rfl]
  obtain ⟨h1,h2⟩:=zrP hb hm
  have hn:=zpk h2
  have e1:wdH b m 0=⟨zfW b m,0⟩:=h1
  have e2:wdBy b m 0=gwN b m/8+65536:=by unfold wdBy gwN;rw[e1,h1];rfl
  have e3:gwN b m=(zbH (zfW b m)).n:=by unfold gwN;rw[h1];rfl
  rw[e2,h1,show (wdH b m 0).s=zfW b m by rw[e1]]
  rw[zpM h2 (by omega) (by omega)]
theorem wd_e (b m:Sp) {e:Int} (h:e≠0):(wdR b m e).e=e∧(gwR b m e).e=e:=by
 unfold wdR gwR
 split
 ·exact ⟨rfl,rfl⟩
 ·refine ⟨?_,rfl⟩
  have e1:(wdH b m e).e=e:=zaC _ h
  have e2:wdE b m e=e:=by unfold wdE doN;rw[e1,if_neg h]
  rw[e2]
  exact zaC _ h
end Go.Proofs.YtdkfkalplmgoeaaGreat
namespace Go.Proofs.YtdkfkalplmgoeaaGreat
set_option maxRecDepth 100000
def wid0 (f:Sp→Sp→Int→Res) (q mq:Bx) (e:Int):Res:=f q.x mq.x e
def wid1 (f:Sp→Sp→Int→Res) (q mq:Bx) (e:Int):Res:=f q.y mq.y (wid0 f q mq e).e
def wid2 (f:Sp→Sp→Int→Res) (q mq:Bx) (e:Int):Res:=f q.z mq.z (wid1 f q mq e).e
def widB (f:Sp→Sp→Int→Res) (q mq:Bx) (e:Int):BRes:=⟨⟨(wid0 f q mq e).s,(wid1 f q mq e).s,(wid2 f q mq e).s⟩,(wid2 f q mq e).e⟩
def widC (f:Sp→Sp→Int→Res) (q v mq mv:Bx) (e:Int):CRes:=⟨(widB f q mq e).b,(widB f v mv (widB f q mq e).e).b,(widB f v mv (widB f q mq e).e).e⟩
theorem zht {q mq:Bx} {e:Int} (h:e≠0):(widB wdR q mq e).e=e∧(widB gwR q mq e).e=e:=by
 have a0:=wd_e q.x mq.x h
 have a1:=wd_e q.y mq.y h
 have a2:=wd_e q.z mq.z h
 unfold widB wid2 wid1 wid0
 simp only[a0.1,a0.2,a1.1,a1.2]
 exact a2
theorem ziR {q mq:Bx} (hq:q.Ok) (hm:mq.Ok):zck (widB wdR q mq 0) (widB gwR q mq 0):=by
 have a0:wid0 wdR q mq 0=wid0 gwR q mq 0:=zlr hq.1 hm.1
 by_cases h0:(wid0 gwR q mq 0).e=0
 ·have a1:wid1 wdR q mq 0=wid1 gwR q mq 0:=by unfold wid1;rw[a0,h0];exact zlr hq.2.1 hm.2.1
  by_cases h1:(wid1 gwR q mq 0).e=0
  ·have a2:wid2 wdR q mq 0=wid2 gwR q mq 0:=by unfold wid2;rw[a1,h1];exact zlr hq.2.2 hm.2.2
   unfold widB
   rw[a0,a1,a2]
   exact zck.refl _
  ·refine zel h1 ?_ ?_
   ·show (wid2 wdR q mq 0).e=_
    unfold wid2
    rw[a1]
    exact (wd_e _ _ h1).1
   ·exact (wd_e _ _ h1).2
 ·refine zel h0 ?_ ?_
  ·show (wid2 wdR q mq 0).e=_
   have:(wid1 wdR q mq 0).e=(wid0 gwR q mq 0).e:=by unfold wid1;rw[a0];exact (wd_e _ _ h0).1
   unfold wid2
   rw[this]
   exact (wd_e _ _ h0).1
  ·show (wid2 gwR q mq 0).e=_
   have:(wid1 gwR q mq 0).e=(wid0 gwR q mq 0).e:=(wd_e _ _ h0).2
   unfold wid2
   rw[this]
   exact (wd_e _ _ h0).2
theorem znb {q v mq mv:Bx} (hq:q.Ok) (hv:v.Ok) (hm:mq.Ok) (hn:mv.Ok):ze4 (widC wdR q v mq mv 0) (widC gwR q v mq mv 0):=by
 have h1:=ziR hq hm
 rcases zdK h1 with h|⟨k1,k2,k3⟩
 ·unfold widC
  rw[h]
  by_cases he:(widB gwR q mq 0).e=0
  ·rw[he]
   have h2:=ziR hv hn
   exact ⟨h2.1,fun e=>⟨rfl,h2.2 e⟩⟩
  ·exact zek he (zht he).1 (zht he).2
 ·exact zek k1 (zht k1).1 ((zht k2).2.trans k3.symm)
theorem zmH {b m:Sp} (hb:b.okB=true) (e:Int):(wdR b m e).s.okB=true∧(gwR b m e).s.okB=true:=by
 refine ⟨?_,?_⟩
 ·unfold wdR
  split
  ·exact hb
  ·exact zeL zgj
 ·unfold gwR
  split
  ·exact hb
  ·split
   ·refine zeL ?_
    unfold zfg
    cases ho:(zbh b m).s.okB
    ·rfl
    ·split
     ·rename_i h
      simp only[Bool.true_and,decide_eq_true_eq] at h
      exact zlQ (by have:=zgN ho;omega)
     ·rfl
   ·exact hb
theorem zoq {q mq:Bx} (hq:q.Ok) (e:Int):(widB wdR q mq e).b.Ok∧(widB gwR q mq e).b.Ok:=⟨⟨(zmH hq.1 _).1,(zmH hq.2.1 _).1,(zmH hq.2.2 _).1⟩,⟨(zmH hq.1 _).2,(zmH hq.2.1 _).2,(zmH hq.2.2 _).2⟩⟩
def zi1 (a b:Bx):Bool:=a.x.inB b.x&&a.y.inB b.y&&a.z.inB b.z
def zhg (q v mq mv:Bx):Bool:=zi1 mq q&&zi1 mv v
structure TRes where
 found:Bool
 p:Bx
 v:Bx
 e:Int
def znd (x y:TRes):Prop:=x.e=y.e∧x.found=y.found∧(x.found=true→x.p=y.p∧x.v=y.v)
def zcL (ff:Bx→Bx→Int→BRes) (rr:Bx→Bx→Int→CRes) (wf:Sp→Sp→Int→Res):Nat→Bx→Bx→Int→TRes
 |0,q,v,e=>⟨false,q,v,e⟩
 |n+1,q,v,e=>
  if (rr v (ff q v e).b (ff q v e).e).e≠0 then ⟨false,q,v,(rr v (ff q v e).b (ff q v e).e).e⟩
  else if zhg q v (rr v (ff q v e).b (ff q v e).e).p (rr v (ff q v e).b (ff q v e).e).v then ⟨true,(rr v (ff q v e).b (ff q v e).e).p,(rr v (ff q v e).b (ff q v e).e).v,0⟩
  else zcL ff rr wf n (widC wf q v (rr v (ff q v e).b (ff q v e).e).p (rr v (ff q v e).b (ff q v e).e).v 0).p (widC wf q v (rr v (ff q v e).b (ff q v e).e).p (rr v (ff q v e).b (ff q v e).e).v 0).v (widC wf q v (rr v (ff q v e).b (ff q v e).e).p (rr v (ff q v e).b (ff q v e).e).v 0).e
theorem zdu {ff:Bx→Bx→Int→BRes} {rr:Bx→Bx→Int→CRes} {wf:Sp→Sp→Int→Res} (hr:∀ v f e,e≠0→(rr v f e).e=e) (hf:∀ q v e,e≠0→(ff q v e).e=e) {e:Int} (he:e≠0):∀ (n:Nat) (q v:Bx),(zcL ff rr wf n q v e).found=false∧(zcL ff rr wf n q v e).e=e
 |0,_,_=>⟨rfl,rfl⟩
 |n+1,q,v=>by
  have h1:(rr v (ff q v e).b (ff q v e).e).e=e:=by rw[hr _ _ _ (by rw[hf q v e he];exact he),hf q v e he]
  unfold zcL
  rw[if_pos (by rw[h1];exact he)]
  exact ⟨rfl,h1⟩
theorem ziO {ff ff':Bx→Bx→Int→BRes} {rr rr':Bx→Bx→Int→CRes} (hf:∀ q v,v.Ok→zck (ff q v 0) (ff' q v 0)) (hfo:∀ q v e,(ff' q v e).b.Ok)
 (hr:∀ v f e,v.Ok→f.Ok→ze4 (rr v f e) (rr' v f e)) (hro:∀ v f e,(rr' v f e).p.Ok∧(rr' v f e).v.Ok)
 (hb:∀ v f e,e≠0→(rr v f e).e=e) (hb':∀ v f e,e≠0→(rr' v f e).e=e) (gb:∀ q v e,e≠0→(ff q v e).e=e) (gb':∀ q v e,e≠0→(ff' q v e).e=e) :
 ∀ (n:Nat) (q v:Bx) (e:Int),q.Ok→v.Ok→znd (zcL ff rr wdR n q v e) (zcL ff' rr' gwR n q v e)
 |0,_,_,_,_,_=>⟨rfl,rfl,fun h=>by cases h⟩
 |n+1,q,v,e,hq,hv=>by
  by_cases he:e=0
  ·subst he
   have h1:=hf q v hv
   have h2:ze4 (rr v (ff q v 0).b (ff q v 0).e) (rr' v (ff' q v 0).b (ff' q v 0).e):=by
    rcases zdK h1 with h|⟨k1,k2,k3⟩
    ·rw[h]
     exact hr _ _ _ hv (hfo _ _ _)
    ·exact zek k1 (hb _ _ _ k1) ((hb' _ _ _ k2).trans k3.symm)
   have ho:=hro v (ff' q v 0).b (ff' q v 0).e
   show znd (zcL ff rr wdR (n+1) q v 0) (zcL ff' rr' gwR (n+1) q v 0)
   unfold zcL
   rcases zgV h2 with h|⟨k1,k2,k3⟩
   ·rw[h]
    generalize rr' v (ff' q v 0).b (ff' q v 0).e=M at *
    split
    ·exact ⟨rfl,rfl,fun h=>by cases h⟩
    ·split
     ·exact ⟨rfl,rfl,fun _=>⟨rfl,rfl⟩⟩
     ·have h3:=znb hq hv ho.1 ho.2
      rcases zgV h3 with h|⟨k1,k2,k3⟩
      ·rw[h]
       exact ziO hf hfo hr hro hb hb' gb gb' n _ _ _ (zoq hq _).2 (zoq hv _).2
      ·have t1:=zdu (wf:=wdR) hb gb k1 n (widC wdR q v M.p M.v 0).p (widC wdR q v M.p M.v 0).v
       have t2:=zdu (wf:=gwR) hb' gb' k2 n (widC gwR q v M.p M.v 0).p (widC gwR q v M.p M.v 0).v
       exact ⟨by rw[t1.2,t2.2,k3],by rw[t1.1,t2.1],fun h=>by rw[t1.1] at h;cases h⟩
   ·rw[if_pos k1,if_pos k2]
    exact ⟨k3,rfl,fun h=>by cases h⟩
  ·have t1:=zdu (wf:=wdR) hb gb he (n+1) q v
   have t2:=zdu (wf:=gwR) hb' gb' he (n+1) q v
   exact ⟨by rw[t1.2,t2.2],by rw[t1.1,t2.1],fun h=>by rw[t1.1] at h;cases h⟩
end Go.Proofs.YtdkfkalplmgoeaaGreat
namespace Go.Proofs.YtdkfkalplmgoeaaGreat
set_option maxRecDepth 100000
theorem zl2 (w:Sp) (q v:Bx) {o:BRes} (h:o.e≠0):(zce w q v o).e=o.e:=(ziJ w q v (o:=o) (o':=⟨q,o.e⟩) ⟨rfl,fun k=>absurd k h⟩).1.trans (by
 unfold zce
 split
 ·rfl
 ·have k:∀ x:BRes,x.e≠0→(spB5 w q v x).e=x.e:=fun x hx=>by
   have h0:(spE w x).e=x.e:=zaC _ hx
   have h1:(spA1 w v x).e=x.e:=by unfold spA1;rw[h0,zaC _ hx]
   have h2:(spA2 w v x).e=x.e:=by unfold spA2;rw[h1,zaC _ hx]
   have h3:(spA3 w v x).e=x.e:=by unfold spA3;rw[h2,zaC _ hx]
   have h4:(spA4 w q v x).e=x.e:=by unfold spA4;rw[h3,zaC _ hx]
   have h5:(spA5 w q v x).e=x.e:=by unfold spA5;rw[h4,zaC _ hx]
   have g1:(spB1 w q v x).e=x.e:=by unfold spB1;rw[h5,zaC _ hx]
   have g2:(spB2 w q v x).e=x.e:=by unfold spB2;rw[g1,zaC _ hx]
   have g3:(spB3 w q v x).e=x.e:=by unfold spB3;rw[g2,zaC _ hx]
   have g4:(spB4 w q v x).e=x.e:=by unfold spB4;rw[g3,zaC _ hx]
   unfold spB5
   rw[g4,zaC _ hx]
  exact k ⟨q,o.e⟩ h)
theorem znJ (p:Planet) (l:List Pt) (q:Bx) {e:Int} (h:e≠0):(frN p l q e).e=e:=by
 unfold frN
 split
 ·exact zaC _ h
 ·rfl
theorem zo4 (p:Planet) (r up:Sp) {e:Int} (h:e≠0):(zcB p r up e).e=e:=by
 have h1:(sh1 p r e).e=e:=zaC _ h
 have h2:(sh2 p r e).e=e:=by unfold sh2;rw[h1,zaC _ h]
 have h3:(sh3 p r e).e=e:=by unfold sh3;rw[h2,zaC _ h]
 have h4:(sh4 p r up e).e=e:=by unfold sh4;rw[h3,zaC _ h]
 have h5:(sh5 p r up e).e=e:=by unfold sh5;rw[h4,zaC _ h]
 have h6:(sh6 p r up e).e=e:=by unfold sh6;rw[h5,zaC _ h]
 have h7:(sh7 p r up e).e=e:=by unfold sh7;rw[h6,zaC _ h]
 have h8:(sh8 p r up e).e=e:=by unfold sh8;rw[h7,zaC _ h]
 have h9:(sh9 p r up e).e=e:=by unfold sh9;rw[h8,zaC _ h]
 have h10:(sh10 p r up e).e=e:=by unfold sh10;rw[h9,zaC _ h]
 have h11:(sh11 p r up e).e=e:=by unfold sh11;rw[h10,zaC _ h]
 unfold zcB
 split
 ·rfl
 ·exact h11
theorem znl (p:Planet) (q:Bx) (r:Sp) {e:Int} (h:e≠0):(atN p q r e).e=e:=by
 have h1:(atU q r e).e=e:=zbM _ _ _ h
 have h2:(atS p q r e).e=e:=by unfold atS;rw[h1,zaC _ h]
 have h3:(atT p q r e).e=e:=by unfold atT;rw[h2,zaC _ h]
 unfold atN
 rw[h3]
 exact zo4 _ _ _ h
theorem zoz (p:Planet) (q:Bx) (r:Sp) {e:Int} (h:e≠0):(zey p q r e).e=e:=by
 unfold zey zcA
 rw[znl p q r h]
 exact zdt _ _ _ h
theorem zlj (x:Arc) (m:Sp) {o:BRes} (h:o.e≠0):(zaW x m o).e=o.e:=by
 unfold zaW zbs
 split
 ·rfl
 ·have h1:(tuT x m o).e=o.e:=zaC _ h
  rw[h1]
  exact zdt _ _ _ h
theorem znC (p:Planet) (l:List Pt) (v:Bx) (m r:Sp) {o:BRes} (h:o.e≠0):(zbQ p l v m r o).e=o.e:=by
 unfold zbQ zcA
 split
 ·rfl
 ·have h1:(drH p r o).e=o.e:=zaC _ h
  have h2:(drL p l r o).e=o.e:=by unfold drL;rw[h1];exact zaC _ h
  have h3:(drB p l m r o).e=o.e:=by unfold drB;rw[h2];exact zaC _ h
  have h4:(drS p l v m r o).e=o.e:=by unfold drS;rw[h3];exact zaC _ h
  rw[h4]
  exact zdt _ _ _ h
theorem zoy (p:Planet) (q:Bx) (r:Sp) {e:Int} (h:e≠0):(zox p q r e).e=e:=by
 have h4:=znl p q r h
 have h5:(atM p q r e).e=e:=by unfold atM;rw[h4];exact zbM _ _ _ h
 have h6:(attR p q r e).e=e:=by unfold attR;rw[h5];exact zbM _ _ _ h
 unfold zox
 rw[h6]
 exact zbM _ _ _ h
theorem zli (x:Arc) (m:Sp) {o:BRes} (h:o.e≠0):(zeh x m o).e=o.e:=by
 unfold zeh
 split
 ·rfl
 ·have h1:(tuT x m o).e=o.e:=zaC _ h
  have h2:(tuM x m o).e=o.e:=by unfold tuM;rw[h1];exact zbM _ _ _ h
  rw[h2]
  exact zbM _ _ _ h
theorem znB (p:Planet) (l:List Pt) (v:Bx) (m r:Sp) {o:BRes} (h:o.e≠0):(zi5 p l v m r o).e=o.e:=by
 unfold zi5
 split
 ·rfl
 ·have h1:(drH p r o).e=o.e:=zaC _ h
  have h2:(drL p l r o).e=o.e:=by unfold drL;rw[h1];exact zaC _ h
  have h3:(drB p l m r o).e=o.e:=by unfold drB;rw[h2];exact zaC _ h
  have h4:(drS p l v m r o).e=o.e:=by unfold drS;rw[h3];exact zaC _ h
  have h5:(drX p l v m r o).e=o.e:=by unfold drX;rw[h4];exact zaC _ h
  have h6:(drM p l v m r o).e=o.e:=by unfold drM;rw[h5];exact zbM _ _ _ h
  rw[h6]
  exact zbM _ _ _ h
theorem zfB (p:Planet) (x:Arc) (l:List Pt) (q v:Bx) (m:Sp) {e:Int} (h:e≠0):(zaD p x l q v m e).e=e:=by
 have h1:(frPF p l q e).e=e:=by
  unfold frPF
  rw[znJ p l q h]
  split
  ·rfl
  ·exact zoy _ _ _ h
 have h2:(frSF p l q v e).e=e:=(zl2 _ _ _ (by rw[h1];exact h)).trans h1
 have h3:(frTF p x l q v m e).e=e:=(zli _ _ (by rw[h2];exact h)).trans h2
 exact (znB _ _ _ _ _ (by rw[h3];exact h)).trans h3
theorem ziq (p:Planet) (x:Arc) (l:List Pt) (q v:Bx) (m:Sp) {e:Int} (h:e≠0):(zat p x l q v m e).e=e:=by
 have h1:(frPG p l q e).e=e:=by
  unfold frPG
  rw[znJ p l q h]
  split
  ·rfl
  ·exact zoz _ _ _ h
 have h2:(frSG p l q v e).e=e:=(zl2 _ _ _ (by rw[h1];exact h)).trans h1
 have h3:(frTG p x l q v m e).e=e:=(zlj _ _ (by rw[h2];exact h)).trans h2
 exact (znC _ _ _ _ _ (by rw[h3];exact h)).trans h3
theorem zhP (s u n o:Sp) (e:Int):(zcA s u n o e).s.okB=true:=by
 unfold zcA
 exact zeL (zje fun _=>zq2)
theorem zex (s u o:Sp) (e:Int):(zbs s u o e).s.okB=true:=by
 unfold zbs
 exact zeL (zje fun _=>zgj)
theorem zon (p:Planet) (x:Arc) (l:List Pt) (q v:Bx) (m:Sp) (e:Int) (hp:p.pull.Ok):(zat p x l q v m e).b.Ok:=by
 have o3:(frTG p x l q v m e).b.Ok:=ziz x m (zop _ _ _ (zoo p l q e hp))
 unfold zat zbQ
 split
 ·exact o3
 ·exact ⟨zhP _ _ _ _ _,zhP _ _ _ _ _,zhP _ _ _ _ _⟩
theorem zfL (P V:Bx) (d:Sp) (v f:Bx) {e:Int} (h:e≠0):(zba P V d v f e).e=e:=by
 have k:∀ s v,(rcP s d v e).e=e:=fun _ v=>by
  have h1:(rcM d v e).e=e:=zbM _ _ _ h
  unfold rcP
  rw[h1]
  exact zbM _ _ _ h
 unfold zba
 rw[k P v]
 exact k V f
theorem ziE (P V:Bx) (d:Sp) (v f:Bx) {e:Int} (h:e≠0):(zaT P V d v f e).e=e:=zhr h [ma d v.x P.x,ma d f.x V.x,ma d v.y P.y,ma d f.y V.y,ma d v.z P.z,ma d f.z V.z]
theorem zj0 (P V:Bx) (d:Sp) (v f:Bx) (e:Int):(zaT P V d v f e).p.Ok∧(zaT P V d v f e).v.Ok:=⟨⟨zex _ _ _ _,zex _ _ _ _,zex _ _ _ _⟩,⟨zex _ _ _ _,zex _ _ _ _,zex _ _ _ _⟩⟩
def stD (h:Int):Sp:=⟨imin h 0,imax h 0⟩
def stF (s:State) (h:Int):Res:=doR 0 (addR ⟨s.t,s.t⟩ ⟨h,h⟩)
def stL (x:Arc) (h e:Int):Res:=doR e (mulR x.flow (stD h))
def stM (x:Arc) (s:State) (h e:Int):Res:=doR (stL x h e).e (subR s.m (stL x h e).s)
def stE (x:Arc) (s:State) (h e:Int):Int:=if (stM x s h e).e=0∧(stM x s h e).s.lo≤0 then 4 else (stM x s h e).e
def ze9 (p:Planet) (x:Arc) (l:List Pt) (s:State) (h:Int) (m:Sp) (e:Int):TRes:=zcL (fun q v e=>zaD p x l q v m e) (fun v f e=>zba s.p s.v (stD h) v f e) wdR 8 s.p s.v e
def ziN (p:Planet) (x:Arc) (l:List Pt) (s:State) (h:Int) (m:Sp) (e:Int):TRes:=zcL (fun q v e=>zat p x l q v m e) (fun v f e=>zaT s.p s.v (stD h) v f e) gwR 8 s.p s.v e
def lpA (g v:Sp) (e:Int):Res:=doR e (mulR g v)
def lpB (g o v:Sp) (e:Int):Res:=doR (lpA g v e).e (addR o (lpA g v e).s)
def lpC (g k o v f:Sp) (e:Int):Res:=doR (lpB g o v e).e (mulR k f)
def lpD (g k o v f:Sp) (e:Int):Res:=doR (lpC g k o v f e).e (addR (lpB g o v e).s (lpC g k o v f e).s)
def lpE (g k o v f:Sp) (e:Int):Res:=doR (lpD g k o v f e).e (mulR g f)
def lpG (g k o v f:Sp) (e:Int):Res:=doR (lpE g k o v f e).e (addR v (lpE g k o v f e).s)
theorem zkR (g k o v f:Sp) {e:Int} (h:e≠0):(lpG g k o v f e).e=e:=by
 have h1:(lpA g v e).e=e:=zaC _ h
 have h2:(lpB g o v e).e=e:=by unfold lpB;rw[h1];exact zaC _ h
 have h3:(lpC g k o v f e).e=e:=by unfold lpC;rw[h2];exact zaC _ h
 have h4:(lpD g k o v f e).e=e:=by unfold lpD;rw[h3];exact zaC _ h
 have h5:(lpE g k o v f e).e=e:=by unfold lpE;rw[h4];exact zaC _ h
 unfold lpG
 rw[h5]
 exact zaC _ h
def laL (h:Int) (F:BRes):Res:=doR F.e (mulR ⟨h,h⟩ ⟨h,h⟩)
def laK (h:Int) (F:BRes):Res:=doR (laL h F).e (divR (laL h F).s (zaI 2))
def laD0 (s:State) (h:Int) (F:BRes):Res:=lpD ⟨h,h⟩ (laK h F).s s.p.x s.v.x F.b.x (laK h F).e
def laG0 (s:State) (h:Int) (F:BRes):Res:=lpG ⟨h,h⟩ (laK h F).s s.p.x s.v.x F.b.x (laK h F).e
def laD1 (s:State) (h:Int) (F:BRes):Res:=lpD ⟨h,h⟩ (laK h F).s s.p.y s.v.y F.b.y (laG0 s h F).e
def laG1 (s:State) (h:Int) (F:BRes):Res:=lpG ⟨h,h⟩ (laK h F).s s.p.y s.v.y F.b.y (laG0 s h F).e
def laD2 (s:State) (h:Int) (F:BRes):Res:=lpD ⟨h,h⟩ (laK h F).s s.p.z s.v.z F.b.z (laG1 s h F).e
def laG2 (s:State) (h:Int) (F:BRes):Res:=lpG ⟨h,h⟩ (laK h F).s s.p.z s.v.z F.b.z (laG1 s h F).e
def laN (x:Arc) (s:State) (h:Int) (F:BRes):Res:=doR (laG2 s h F).e (mulR ⟨h,h⟩ x.flow)
def laM (x:Arc) (s:State) (h:Int) (F:BRes):Res:=doR (laN x s h F).e (subR s.m (laN x s h F).s)
theorem zqW (x:Arc) (s:State) (h:Int) {F:BRes} (hF:F.e≠0):(laM x s h F).e=F.e:=by
 have h1:(laL h F).e=F.e:=zaC _ hF
 have h2:(laK h F).e=F.e:=by unfold laK;rw[h1];exact zaC _ hF
 have h3:(laG0 s h F).e=F.e:=by unfold laG0;rw[h2];exact zkR _ _ _ _ _ hF
 have h4:(laG1 s h F).e=F.e:=by unfold laG1;rw[h3];exact zkR _ _ _ _ _ hF
 have h5:(laG2 s h F).e=F.e:=by unfold laG2;rw[h4];exact zkR _ _ _ _ _ hF
 have h6:(laN x s h F).e=F.e:=by unfold laN;rw[h5];exact zaC _ hF
 unfold laM
 rw[h6]
 exact zaC _ hF
structure StRes where
 s:State
 t:Tube
 e:Int
def zbB:Tube:=⟨0,0,⟨⟨0,0⟩,⟨0,0⟩,⟨0,0⟩⟩,⟨⟨0,0⟩,⟨0,0⟩,⟨0,0⟩⟩,⟨0,0⟩⟩
def zeB (e:Int):StRes:=⟨zaL,zbB,e⟩
def zeb (x:Arc) (s:State) (h t:Int) (T:Tube) (F:BRes):StRes:=
 if (laM x s h F).e=0 then ⟨⟨t,⟨(laD0 s h F).s,(laD1 s h F).s,(laD2 s h F).s⟩,⟨(laG0 s h F).s,(laG1 s h F).s,(laG2 s h F).s⟩,(laM x s h F).s⟩,T,0⟩ else zeB (laM x s h F).e
theorem zmv (x:Arc) (s:State) (h t:Int) (T:Tube) {F F':BRes} (k:zck F F'):zeb x s h t T F=zeb x s h t T F':=by
 rcases zdK k with rfl|⟨h1,h2,h3⟩
 ·rfl
 ·unfold zeb
  rw[zqW x s h h1,zqW x s h h2,if_neg h1,if_neg h2,h3]
def zo9 (s:State) (t:Int) (T:TRes) (m:Sp):Tube:=⟨imin s.t t,imax s.t t,T.p,T.v,m⟩
def zcV (ff:Bx→Bx→Int→BRes) (x:Arc) (s:State) (h t:Int) (m:Sp) (T:TRes):StRes:=
 if T.found then zeb x s h t (zo9 s t T m) (ff T.p T.v 0) else zeB (if T.e=0 then 9 else T.e)
def zaO (p:Planet) (x:Arc) (l:List Pt) (s:State) (h:Int):StRes:=
 zcV (fun q v e=>zaD p x l q v (stM x s h (stF s h).e).s e) x s h (stF s h).s.lo (stM x s h (stF s h).e).s (ze9 p x l s h (stM x s h (stF s h).e).s (stE x s h (stF s h).e))
def zl3 (p:Planet) (x:Arc) (l:List Pt) (s:State) (h:Int):StRes:=
 if (stF s h).e≠0 then zeB (stF s h).e else
 zcV (fun q v e=>zat p x l q v (stM x s h 0).s e) x s h (stF s h).s.lo (stM x s h 0).s (ziN p x l s h (stM x s h 0).s (stE x s h 0))
theorem zlk {p:Planet} {x:Arc} (l:List Pt) {s:State} (h:Int) (m:Sp) (e:Int) (hp:p.pull.Ok) (hx:x.dir.Ok) (h1:s.p.Ok) (h2:s.v.Ok) (hd:(stD h).okB=true):znd (ze9 p x l s h m e) (ziN p x l s h m e):=
 ziO (fun q v hv=>zhI p x l q v m 0 hp hx hv) (fun q v e=>zon p x l q v m e hp) (fun v f e hv hf=>zk5 s.p s.v (stD h) v f e h1 h2 hd hv hf) (fun _ _ _=>zj0 _ _ _ _ _ _)
  (fun _ _ _ he=>zfL _ _ _ _ _ he) (fun _ _ _ he=>ziE _ _ _ _ _ he) (fun _ _ _ he=>zfB _ _ _ _ _ _ he) (fun _ _ _ he=>ziq _ _ _ _ _ _ he) 8 s.p s.v e h1 h2
theorem zl7 {ff:Bx→Bx→Int→BRes} {rr:Bx→Bx→Int→CRes} {wf:Sp→Sp→Int→Res} (hro:∀ v f e,(rr v f e).p.Ok∧(rr v f e).v.Ok):∀ (n:Nat) (q v:Bx) (e:Int),(zcL ff rr wf n q v e).found=true→(zcL ff rr wf n q v e).v.Ok
 |0,_,_,_,h=>by cases h
 |n+1,q,v,e,h=>by
  unfold zcL at h ⊢
  split at h
  ·cases h
  ·rename_i k
   rw[if_neg k]
   split at h
   ·rename_i k2
    rw[if_pos k2]
    exact (hro _ _ _).2
   ·rename_i k2
    rw[if_neg k2]
    exact zl7 hro n _ _ _ h
theorem zqG (p:Planet) (x:Arc) (l:List Pt) (s:State) (h:Int) (m:Sp) (e:Int) (k:(ziN p x l s h m e).found=true):(ziN p x l s h m e).v.Ok:=zl7 (fun _ _ _=>zj0 _ _ _ _ _ _) 8 _ _ _ k
theorem ziP {ff:Bx→Bx→Int→BRes} {x:Arc} {s:State} {h t:Int} {m:Sp} {T:TRes} {e:Int} (he:e≠0) (h1:T.found=false) (h2:T.e=e):zcV ff x s h t m T=zeB e:=by
 unfold zcV
 rw[h1,h2,if_neg (by decide),if_neg he]
theorem zpb {p:Planet} {x:Arc} (l:List Pt) {s:State} (h:Int) (hp:p.pull.Ok) (hx:x.dir.Ok) (h1:s.p.Ok) (h2:s.v.Ok) (hd:(stD h).okB=true):zaO p x l s h=zl3 p x l s h:=by
 unfold zaO zl3
 by_cases he:(stF s h).e=0
 ·rw[he,if_neg (by simp)]
  have ht:=zlk l h (stM x s h 0).s (stE x s h 0) hp hx h1 h2 hd
  have hv:(ze9 p x l s h (stM x s h 0).s (stE x s h 0)).found=true→(ziN p x l s h (stM x s h 0).s (stE x s h 0)).v.Ok:=fun k=>zqG p x l s h _ _ (ht.2.1.symm.trans k)
  generalize ze9 p x l s h (stM x s h 0).s (stE x s h 0)=T at *
  generalize ziN p x l s h (stM x s h 0).s (stE x s h 0)=T' at *
  obtain ⟨t1,t2,t3⟩:=ht
  unfold zcV
  rw[←t2,←t1]
  split
  ·rename_i k
   obtain ⟨e1,e2⟩:=t3 k
   unfold zo9
   rw[e1,e2]
   exact zmv _ _ _ _ _ (zhI _ _ _ _ _ _ 0 hp hx (hv k))
  ·rfl
 ·rw[if_pos he]
  have l1:(stL x h (stF s h).e).e=(stF s h).e:=zaC _ he
  have l2:(stM x s h (stF s h).e).e=(stF s h).e:=by unfold stM;rw[l1];exact zaC _ he
  have l3:stE x s h (stF s h).e=(stF s h).e:=by unfold stE;rw[l2,if_neg (fun k=>he k.1)]
  have t:=zdu (ff:=fun q v e=>zaD p x l q v (stM x s h (stF s h).e).s e) (rr:=fun v f e=>zba s.p s.v (stD h) v f e) (wf:=wdR) (fun _ _ _ he=>zfL _ _ _ _ _ he) (fun _ _ _ he=>zfB _ _ _ _ _ _ he) he 8 s.p s.v
  rw[l3]
  exact ziP he t.1 t.2
end Go.Proofs.YtdkfkalplmgoeaaGreat
namespace Go.Proofs.YtdkfkalplmgoeaaGreat
open Go.RowKit Go.Shelf
set_option maxRecDepth 100000
set_option maxHeartbeats 2000000
attribute [local go_sem] Oper.semAt_some
def Px:Type:=Sx × Sx
instance:Inhabited Px:=⟨(default,default)⟩
def Px.cells (x:Px):List Value:=[.int .i64 x.1.1.lo,.int .i64 x.1.1.hi,.int .i64 x.2.1.lo,.int .i64 x.2.1.hi]
abbrev nthP (L:List Px) (k:Nat):Nat × Px:=(k,L[k]?.getD default)
def encIP (x:Nat × Px):Array Value:=#[.int .i64 (x.1:Int),.agg #[.int .i64 x.2.1.1.lo,.int .i64 x.2.1.1.hi,.int .i64 x.2.2.1.lo,.int .i64 x.2.2.1.hi]]
end Go.Proofs.YtdkfkalplmgoeaaGreat
namespace Go.Proofs.YtdkfkalplmgoeaaGreat
open Go.RowKit Go.Shelf
set_option maxRecDepth 100000
set_option maxHeartbeats 2000000
attribute [local go_sem] Oper.semAt_some
abbrev SS:=Sp × Sp
def Px.ss (x:Px):SS:=(x.1.1,x.2.1)
def zv6 (pre:List (Nat × Px)):List SS:=pre.map fun p=>p.2.ss
def zvj (g:Nat) (lb:Array Value) (f:SS→Res) (w0:World):Prop:=∀ (w:World) (x:Px),Grew w0 w→Calls Tryz.prog g (#[.agg #[.int .i64 x.1.1.lo,.int .i64 x.1.1.hi,.int .i64 x.2.1.lo,.int .i64 x.2.1.hi]]++lb) w fun e w'=>e=.returned (.tuple #[.agg #[.int .i64 (f x.ss).s.lo,.int .i64 (f x.ss).s.hi],.int .i64 (f x.ss).e])∧Grew w w'
end Go.Proofs.YtdkfkalplmgoeaaGreat
namespace Go.Proofs.YtdkfkalplmgoeaaGreat
open Go.RowKit Go.Shelf
set_option maxRecDepth 100000
set_option maxHeartbeats 2000000
def Bx.terms (a b:Bx):List SS:=[(a.x,b.x),(a.y,b.y),(a.z,b.z)]
def mul2 (p:SS):Res:=mulR p.1 p.2
def dotBR (a b:Bx):Res:=if a.okB&&b.okB then zbg mul2 z0 (a.terms b) else errR 2
def zvH (a b:Bx) (ha:B64 a) (hb:B64 b):List Px:=[(⟨a.x,ha.x⟩,⟨b.x,hb.x⟩),(⟨a.y,ha.y⟩,⟨b.y,hb.y⟩),(⟨a.z,ha.z⟩,⟨b.z,hb.z⟩)]
end Go.Proofs.YtdkfkalplmgoeaaGreat
