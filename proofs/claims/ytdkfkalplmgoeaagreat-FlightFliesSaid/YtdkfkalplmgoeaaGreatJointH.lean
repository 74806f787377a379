/-
  Joined: ForceLaw, Joint.
-/
import Derived.Test.YtdkfkalplmgoeaaGreatDivLawH
import Derived.Test.YtdkfkalplmgoeaaGreatRefDivsH
import Derived.Test.YtdkfkalplmgoeaaGreatMonoFewH
import Derived.Test.YtdkfkalplmgoeaaGreatFlightOksH
namespace Go.Proofs.YtdkfkalplmgoeaaGreat
set_option maxRecDepth 100000
structure BRes where
 b:Bx
 e:Int
def th (f1 f2 f3:Int→Res) (e:Int):BRes:=⟨⟨(f1 e).s,(f2 (f1 e).e).s,(f3 (f2 (f1 e).e).e).s⟩,(f3 (f2 (f1 e).e).e).e⟩
def ones (a:Sp):Bx:=⟨a,a,a⟩
def zbR (f:Sp→Sp→Res) (e:Int) (a b:Bx):BRes:=⟨zvz f e a b,(zdP f e a b).e⟩
theorem zf8 (f:Sp→Sp→Res) (e:Int) (a b:Bx):zbR f e a b=th (fun e=>doR e (f a.x b.x)) (fun e=>doR e (f a.y b.y)) (fun e=>doR e (f a.z b.z)) e:=rfl
def zbv (a:Sp):Bool:=decide (a.lo=0)&&decide (a.hi=0)
def zck (x y:BRes):Prop:=x.e=y.e∧(x.e=0→x.b=y.b)
theorem zck.refl (x:BRes):zck x x:=⟨rfl,fun _=>rfl⟩
theorem zck.trans {x y z:BRes} (h:zck x y) (k:zck y z):zck x z:=⟨h.1.trans k.1,fun e=>(h.2 e).trans (k.2 (h.1▸e))⟩
def E4 (r:Res):Prop:=r.e=0∨r.e=4
def zc0 (a:Res) (g:Sp→Res):Res:=if a.e=0 then g a.s else errR a.e
theorem ztC (e:Int):(errR e).e=e:=rfl
theorem zi3 (e:Int) (a:Res) (g:Sp→Res):doR (doR e a).e (g (doR e a).s)=doR e (zc0 a g):=by
 by_cases h:e=0
 ·subst h
  rw[zen,zen]
  unfold zc0 doR
  rfl
 ·rw[zd9 a h,zd9 _ h,ztC,zd9 _ h]
theorem zaC {e:Int} (r:Res) (h:e≠0):(doR e r).e=e:=by rw[zd9 r h];rfl
theorem zdt {e:Int} (a b c:Res) (h:e≠0):(th (fun e=>doR e a) (fun e=>doR e b) (fun e=>doR e c) e).e=e:=by
 show (doR (doR (doR e a).e b).e c).e=e
 rw[zaC a h,zaC b h,zaC c h]
theorem zbM (f:Sp→Sp→Res) {e:Int} (a b:Bx) (h:e≠0):(zbR f e a b).e=e:=by rw[zf8];exact zdt _ _ _ h
theorem zlh (a b c:Res) (ha:a.e=0) (hb:b.e=0) (hc:c.e=0):th (fun e=>doR e a) (fun e=>doR e b) (fun e=>doR e c) 0=⟨⟨a.s,b.s,c.s⟩,0⟩:=by
 unfold th
 simp only[zen,ha,hb,hc]
theorem zpd (a b c:Res) (ha:E4 a) (hb:E4 b) (hc:E4 c) (h:¬ (a.e=0∧b.e=0∧c.e=0)):(th (fun e=>doR e a) (fun e=>doR e b) (fun e=>doR e c) 0).e=4:=by
 show (doR (doR (doR 0 a).e b).e c).e=4
 rw[zen]
 rcases ha with ha|ha
 ·rw[ha,zen]
  rcases hb with hb|hb
  ·rw[hb,zen]
   rcases hc with hc|hc
   ·exact absurd ⟨ha,hb,hc⟩ h
   ·exact hc
  ·rw[hb,zaC _ (by omega)]
 ·rw[ha,zaC b (by omega),zaC c (by omega)]
theorem zhy {a:Res} {g:Sp→Res} (ha:E4 a) (hg:E4 (g a.s)):E4 (zc0 a g):=by
 unfold zc0
 split
 ·exact hg
 ·rename_i h
  rcases ha with ha|ha
  ·exact absurd ha h
  ·exact .inr ha
theorem zh7 (e:Int) (a1 a2 a3:Res) (g1 g2 g3:Sp→Res) (ha1:E4 a1) (ha2:E4 a2) (ha3:E4 a3) (hg1:E4 (g1 a1.s)) (hg2:E4 (g2 a2.s)) (hg3:E4 (g3 a3.s)) (x:BRes) (hx:zck x (th (fun e=>doR e a1) (fun e=>doR e a2) (fun e=>doR e a3) e)) :
 zck (th (fun e=>doR e (g1 x.b.x)) (fun e=>doR e (g2 x.b.y)) (fun e=>doR e (g3 x.b.z)) x.e) (th (fun e=>doR e (zc0 a1 g1)) (fun e=>doR e (zc0 a2 g2)) (fun e=>doR e (zc0 a3 g3)) e):=by
 obtain ⟨h1,h2⟩:=hx
 by_cases he:e=0
 ·subst he
  by_cases h:a1.e=0∧a2.e=0∧a3.e=0
  ·obtain ⟨k1,k2,k3⟩:=h
   rw[zlh _ _ _ k1 k2 k3] at h1 h2
   have h0:x.e=0:=h1
   rw[h2 h0,h0]
   unfold zc0
   rw[if_pos k1,if_pos k2,if_pos k3]
   exact zck.refl _
  ·rw[zpd _ _ _ ha1 ha2 ha3 h] at h1
   have hn:¬ ((zc0 a1 g1).e=0∧(zc0 a2 g2).e=0∧(zc0 a3 g3).e=0):=by
    intro ⟨k1,k2,k3⟩
    refine h ⟨?_,?_,?_⟩
    ·unfold zc0 at k1;split at k1;· assumption
     ·exact k1
    ·unfold zc0 at k2;split at k2;· assumption
     ·exact k2
    ·unfold zc0 at k3;split at k3;· assumption
     ·exact k3
   have hf:=zpd _ _ _ (zhy ha1 hg1) (zhy ha2 hg2) (zhy ha3 hg3) hn
   rw[h1]
   refine ⟨by rw[zdt _ _ _ (by omega),hf],fun k=>?_⟩
   rw[zdt _ _ _ (by omega)] at k
   omega
 ·rw[zdt _ _ _ he] at h1
  rw[h1]
  refine ⟨by rw[zdt _ _ _ he,zdt _ _ _ he],fun k=>?_⟩
  rw[zdt _ _ _ he] at k
  exact absurd k he
theorem zeL {e:Int} {r:Res} (h:r.s.okB=true):(doR e r).s.okB=true:=by
 unfold doR
 split
 ·exact h
 ·rfl
theorem zlQ {x y:Int} (h:x≤y):(fitR x y).s.okB=true:=by
 unfold fitR
 cases h1:zdX x<;>cases h2:zdX y<;>try rfl
 unfold zdX at h1 h2
 unfold Sp.okB numB
 simp only[Bool.and_eq_true,decide_eq_true_eq,Bool.true_and,if_true] at *
 omega
theorem zqQ (x y:Int):E4 (fitR x y):=by
 unfold fitR
 split
 ·exact .inl rfl
 ·exact .inr rfl
theorem zgZ {a b:Sp} (ha:a.okB=true) (hb:b.okB=true):E4 (addR a b):=by
 unfold addR
 rw[ha,hb]
 exact zqQ _ _
theorem zua {a:Sp} (ha:a.okB=true) (h64:a.hi≤9223372036854775807):(negS a).okB=true:=by
 unfold Sp.okB numB at *
 unfold negS
 simp only[Bool.and_eq_true,decide_eq_true_eq] at *
 omega
theorem zjL {a b:Sp} (ha:a.okB=true) (hb:b.okB=true) (h64:b.hi≤9223372036854775807):E4 (subR a b):=by
 unfold subR
 rw[hb]
 exact zgZ ha (zua hb h64)
theorem zeq {a b:Sp} (ha:a.okB=true) (hb:b.okB=true):E4 (mulR a b):=by
 unfold mulR
 rw[ha,hb]
 exact zqQ _ _
theorem zgj {a b:Sp}:(addR a b).s.okB=true:=by
 unfold addR
 cases ha:a.okB
 ·rfl
 cases hb:b.okB
 ·rfl
 exact zlQ (by have:=zgN ha;have:=zgN hb;omega)
theorem zq2 {a b:Sp}:(subR a b).s.okB=true:=by
 unfold subR
 split
 ·exact zgj
 ·rfl
theorem zew {a b:Sp}:(mulR a b).s.okB=true:=by
 unfold mulR
 cases ha:a.okB
 ·rfl
 cases hb:b.okB
 ·rfl
 refine zlQ (Int.le_trans (zfz _ _ (by omega)) (zpg _ (by omega) ?_))
 exact Int.le_trans (zhM _ _ _ _).1 (zhJ _ _ _ _).1
theorem zun (a b:Int) (h:b≠0):zbU a b≤zez a b:=by
 unfold zbU zez
 split
 ·exact zfz _ _ (by omega)
 ·exact zfz _ _ (by omega)
theorem ziy {a b:Sp}:(divR a b).s.okB=true:=by
 unfold divR
 cases ha:a.okB
 ·rfl
 cases hb:b.okB
 ·rfl
 rw[Bool.and_self,if_pos rfl]
 split
 ·rfl
 ·rename_i h
  refine zlQ (Int.le_trans (zhM _ _ _ _).1 (Int.le_trans (zun _ _ ?_) (zhJ _ _ _ _).1))
  intro h0
  have:=zgN hb
  simp only[Bool.and_eq_true,decide_eq_true_eq] at h
  omega
theorem zt5 (l:List Sp) (h:(zbA l).e≠0):(zbA l).s=z0:=by
 unfold zbA at *
 split at h
 ·rename_i h1
  rw[if_pos h1]
  split at h
  ·rename_i h2
   rw[if_pos h2]
   split at h
   ·rename_i h3
    rw[if_pos h3]
    unfold zcE at *
    split at h
    ·split at h
     ·rename_i h4 h5
      rw[if_pos h4,if_pos h5]
      rfl
     ·exact absurd rfl h
    ·rename_i h4
     rw[if_neg h4]
     rfl
   ·rename_i h3
    rw[if_neg h3]
    rfl
  ·rename_i h2
   rw[if_neg h2]
   rfl
 ·rename_i h1
  rw[if_neg h1]
  rfl
theorem zr2 {l:List Sp}:(zbA l).s.okB=true:=by
 by_cases h:(zbA l).e=0
 ·have:=zp6 h
  unfold Sp.okB numB
  simp only[Bool.and_eq_true,decide_eq_true_eq]
  omega
 ·rw[zt5 l h]
  rfl
def sh1 (p:Planet) (r:Sp) (e:Int):Res:=doR e (divR p.radius r)
def sh2 (p:Planet) (r:Sp) (e:Int):Res:=doR (sh1 p r e).e (zaB (sh1 p r e).s)
def sh3 (p:Planet) (r:Sp) (e:Int):Res:=doR (sh2 p r e).e (mulR p.oblate (sh2 p r e).s)
def sh4 (p:Planet) (r up:Sp) (e:Int):Res:=doR (sh3 p r e).e (zaB up)
def sh5 (p:Planet) (r up:Sp) (e:Int):Res:=doR (sh4 p r up e).e (zbP (sh4 p r up e).s 5)
def sh6 (p:Planet) (r up:Sp) (e:Int):Res:=doR (sh5 p r up e).e (subR (zaI 1) (sh5 p r up e).s)
def sh7 (p:Planet) (r up:Sp) (e:Int):Res:=doR (sh6 p r up e).e (mulR (sh3 p r e).s (sh6 p r up e).s)
def sh8 (p:Planet) (r up:Sp) (e:Int):Res:=doR (sh7 p r up e).e (addR (zaI 1) (sh7 p r up e).s)
def sh9 (p:Planet) (r up:Sp) (e:Int):Res:=doR (sh8 p r up e).e (subR (zaI 3) (sh5 p r up e).s)
def sh10 (p:Planet) (r up:Sp) (e:Int):Res:=doR (sh9 p r up e).e (mulR (sh3 p r e).s (sh9 p r up e).s)
def sh11 (p:Planet) (r up:Sp) (e:Int):Res:=doR (sh10 p r up e).e (addR (zaI 1) (sh10 p r up e).s)
def zcB (p:Planet) (r up:Sp) (e:Int):BRes:=if zbv p.oblate then ⟨ones (zaI 1),e⟩ else ⟨⟨(sh8 p r up e).s,(sh8 p r up e).s,(sh11 p r up e).s⟩,(sh11 p r up e).e⟩
def atU (place:Bx) (r:Sp) (e:Int):BRes:=zbR divR e place (ones r)
def atS (p:Planet) (place:Bx) (r:Sp) (e:Int):Res:=doR (atU place r e).e (divR p.mu r)
def atT (p:Planet) (place:Bx) (r:Sp) (e:Int):Res:=doR (atS p place r e).e (divR (atS p place r e).s r)
def atN (p:Planet) (place:Bx) (r:Sp) (e:Int):BRes:=zcB p r (atU place r e).b.z (atT p place r e).e
def atM (p:Planet) (place:Bx) (r:Sp) (e:Int):BRes:=zbR mulR (atN p place r e).e (ones (atT p place r e).s) (atU place r e).b
def attR (p:Planet) (place:Bx) (r:Sp) (e:Int):BRes:=zbR mulR (atM p place r e).e (atM p place r e).b (atN p place r e).b
def zox (p:Planet) (place:Bx) (r:Sp) (e:Int):BRes:=zbR subR (attR p place r e).e p.pull (attR p place r e).b
def zcA (s u n o:Sp) (e:Int):Res:=doR e (zc0 (zc0 (mulR s u) (fun y=>mulR y n)) (fun y=>subR o y))
def zey (p:Planet) (place:Bx) (r:Sp) (e:Int):BRes:=
 th (zcA (atT p place r e).s (atU place r e).b.x (atN p place r e).b.x p.pull.x) (zcA (atT p place r e).s (atU place r e).b.y (atN p place r e).b.y p.pull.y) (zcA (atT p place r e).s (atU place r e).b.z (atN p place r e).b.z p.pull.z) (atN p place r e).e
theorem zev (s u n o:Sp) (e:Int):zcA s u n o e=doR (doR (doR e (mulR s u)).e (mulR (doR e (mulR s u)).s n)).e (subR o (doR (doR e (mulR s u)).e (mulR (doR e (mulR s u)).s n)).s):=by
 unfold zcA
 rw[zi3 e (mulR s u) (fun y=>mulR y n),zi3 e _ (fun y=>subR o y)]
def Bx.Ok (b:Bx):Prop:=b.x.okB=true∧b.y.okB=true∧b.z.okB=true
theorem Bx.ok_of {b:Bx} (h:b.okB=true):b.Ok:=by
 unfold Bx.okB at h
 simp only[Bool.and_eq_true] at h
 exact ⟨h.1.1,h.1.2,h.2⟩
theorem hi64 (a:Sp) [h:S64 a]:a.hi≤9223372036854775807:=h.hi.2
theorem zhC {s u n o:Sp} (hs:s.okB=true) (hu:u.okB=true) (hn:n.okB=true) (ho:o.okB=true):E4 (mulR s u)∧E4 (mulR (mulR s u).s n)∧E4 (zc0 (mulR s u) (fun y=>mulR y n))∧E4 (subR o (zc0 (mulR s u) (fun y=>mulR y n)).s):=by
 have h1:=zeq hs hu
 have h2:E4 (mulR (mulR s u).s n):=zeq zew hn
 refine ⟨h1,h2,zhy h1 h2,?_⟩
 unfold zc0
 split
 ·exact zjL ho zew (hi64 _)
 ·exact zjL ho rfl (hi64 _)
theorem zt8 (place:Bx) (r:Sp) (e:Int):(atU place r e).b.Ok:=⟨zeL ziy,zeL ziy,zeL ziy⟩
theorem zt7 (p:Planet) (place:Bx) (r:Sp) (e:Int):(atT p place r e).s.okB=true:=zeL ziy
theorem zp9 (p:Planet) (r up:Sp) (e:Int):(zcB p r up e).b.Ok:=by
 unfold zcB
 split
 ·exact ⟨rfl,rfl,rfl⟩
 ·exact ⟨zeL zgj,zeL zgj,zeL zgj⟩
theorem zmK (p:Planet) (place:Bx) (r:Sp) (e:Int) (hp:p.pull.Ok):zck (zox p place r e) (zey p place r e):=by
 have hu:=zt8 place r e
 have ht:=zt7 p place r e
 have hn:(atN p place r e).b.Ok:=zp9 p r _ _
 unfold zox zey attR atM zcA
 generalize (atU place r e).b=u at *
 generalize (atT p place r e).s=s at *
 generalize atN p place r e=n at *
 have k1:=zhC ht hu.1 hn.1 hp.1
 have k2:=zhC ht hu.2.1 hn.2.1 hp.2.1
 have k3:=zhC ht hu.2.2 hn.2.2 hp.2.2
 have f1:=zh7 n.e _ _ _ (fun y=>mulR y n.b.x) (fun y=>mulR y n.b.y) (fun y=>mulR y n.b.z) k1.1 k2.1 k3.1 k1.2.1 k2.2.1 k3.2.1 (zbR mulR n.e (ones s) u) (by rw[zf8];exact zck.refl _)
 exact zh7 n.e _ _ _ (fun y=>subR p.pull.x y) (fun y=>subR p.pull.y y) (fun y=>subR p.pull.z y) k1.2.2.1 k2.2.2.1 k3.2.2.1 k1.2.2.2 k2.2.2.2 k3.2.2.2 _ f1
def spE (w:Sp) (o:BRes):Res:=doR o.e (zaB w)
def spA1 (w:Sp) (v:Bx) (o:BRes):Res:=doR (spE w o).e (mulR w v.y)
def spA2 (w:Sp) (v:Bx) (o:BRes):Res:=doR (spA1 w v o).e (zbP (spA1 w v o).s 2)
def spA3 (w:Sp) (v:Bx) (o:BRes):Res:=doR (spA2 w v o).e (addR o.b.x (spA2 w v o).s)
def spA4 (w:Sp) (q v:Bx) (o:BRes):Res:=doR (spA3 w v o).e (mulR (spE w o).s q.x)
def spA5 (w:Sp) (q v:Bx) (o:BRes):Res:=doR (spA4 w q v o).e (addR (spA3 w v o).s (spA4 w q v o).s)
def spB1 (w:Sp) (q v:Bx) (o:BRes):Res:=doR (spA5 w q v o).e (mulR w v.x)
def spB2 (w:Sp) (q v:Bx) (o:BRes):Res:=doR (spB1 w q v o).e (zbP (spB1 w q v o).s 2)
def spB3 (w:Sp) (q v:Bx) (o:BRes):Res:=doR (spB2 w q v o).e (subR o.b.y (spB2 w q v o).s)
def spB4 (w:Sp) (q v:Bx) (o:BRes):Res:=doR (spB3 w q v o).e (mulR (spE w o).s q.y)
def spB5 (w:Sp) (q v:Bx) (o:BRes):Res:=doR (spB4 w q v o).e (addR (spB3 w q v o).s (spB4 w q v o).s)
def zce (w:Sp) (q v:Bx) (o:BRes):BRes:=if zbv w then o else ⟨⟨(spA5 w q v o).s,(spB5 w q v o).s,o.b.z⟩,(spB5 w q v o).e⟩
theorem ziJ (w:Sp) (q v:Bx) {o o':BRes} (h:zck o o'):zck (zce w q v o) (zce w q v o'):=by
 unfold zce
 split
 ·exact h
 ·by_cases he:o.e=0
  ·have e1:o=o':=by
    obtain ⟨b,e⟩:=o
    obtain ⟨b',e'⟩:=o'
    have:=h.2 he
    have:=h.1
    simp_all
   rw[e1]
   exact zck.refl _
  ·have he':o'.e≠0:=by rw[←h.1];exact he
   have key:∀ x:BRes,x.e≠0→(spB5 w q v x).e=x.e:=fun x hx=>by
    have h0:(spE w x).e=x.e:=zaC _ hx
    have h1:(spA1 w v x).e=x.e:=by unfold spA1;rw[h0,zaC _ hx]
    have h2:(spA2 w v x).e=x.e:=by unfold spA2;rw[h1,zaC _ hx]
    have h3:(spA3 w v x).e=x.e:=by unfold spA3;rw[h2,zaC _ hx]
    have h4:(spA4 w q v x).e=x.e:=by unfold spA4;rw[h3,zaC _ hx]
    have h5:(spA5 w q v x).e=x.e:=by unfold spA5;rw[h4,zaC _ hx]
    have g1:(spB1 w q v x).e=x.e:=by unfold spB1;rw[h5,zaC _ hx]
    have g2:(spB2 w q v x).e=x.e:=by unfold spB2;rw[g1,zaC _ hx]
    have g3:(spB3 w q v x).e=x.e:=by unfold spB3;rw[g2,zaC _ hx]
    have g4:(spB4 w q v x).e=x.e:=by unfold spB4;rw[g3,zaC _ hx]
    unfold spB5
    rw[g4,zaC _ hx]
   exact ⟨by show (spB5 w q v o).e=(spB5 w q v o').e;rw[key o he,key o' he',h.1],fun k=>absurd ((key o he).symm.trans k) he⟩
def tuT (a:Arc) (m:Sp) (o:BRes):Res:=doR o.e (divR a.thrust m)
def tuM (a:Arc) (m:Sp) (o:BRes):BRes:=zbR mulR (tuT a m o).e (ones (tuT a m o).s) a.dir
def zeh (a:Arc) (m:Sp) (o:BRes):BRes:=if zbv a.thrust then o else zbR addR (tuM a m o).e o.b (tuM a m o).b
def zbs (s u o:Sp) (e:Int):Res:=doR e (zc0 (mulR s u) (fun y=>addR o y))
theorem zeu (s u o:Sp) (e:Int):zbs s u o e=doR (doR e (mulR s u)).e (addR o (doR e (mulR s u)).s):=by
 unfold zbs
 rw[zi3 e (mulR s u) (fun y=>addR o y)]
def zaW (a:Arc) (m:Sp) (o:BRes):BRes:=if zbv a.thrust then o else th (zbs (tuT a m o).s a.dir.x o.b.x) (zbs (tuT a m o).s a.dir.y o.b.y) (zbs (tuT a m o).s a.dir.z o.b.z) (tuT a m o).e
theorem zdK {o o':BRes} (h:zck o o'):o=o'∨(o.e≠0∧o'.e≠0∧o.e=o'.e):=by
 by_cases he:o.e=0
 ·left
  obtain ⟨b,e⟩:=o
  obtain ⟨b',e'⟩:=o'
  have:=h.2 he
  have:=h.1
  simp_all
 ·exact .inr ⟨he,by rw[←h.1];exact he,h.1⟩
theorem zel {x y:BRes} {e:Int} (he:e≠0) (h:x.e=e) (k:y.e=e):zck x y:=⟨h.trans k.symm,fun z=>absurd (h.symm.trans z) he⟩
theorem zki (a:Arc) (m:Sp) {o o':BRes} (h:zck o o') (ho:o'.b.Ok) (hd:a.dir.Ok):zck (zeh a m o) (zaW a m o'):=by
 unfold zeh zaW
 split
 ·exact h
 ·rcases zdK h with rfl|⟨h1,h2,h3⟩
  ·unfold tuM
   have ht:(tuT a m o).s.okB=true:=zeL ziy
   generalize tuT a m o=t at *
   exact zh7 t.e _ _ _ (fun y=>addR o.b.x y) (fun y=>addR o.b.y y) (fun y=>addR o.b.z y) (zeq ht hd.1) (zeq ht hd.2.1) (zeq ht hd.2.2) (zgZ ho.1 zew) (zgZ ho.2.1 zew) (zgZ ho.2.2 zew) _ (by rw[zf8];exact zck.refl _)
  ·have e1:(tuT a m o).e=o.e:=zaC _ h1
   have e2:(tuT a m o').e=o'.e:=zaC _ h2
   refine zel h1 ?_ ?_
   ·have:(tuM a m o).e=o.e:=by unfold tuM;rw[e1];exact zbM _ _ _ h1
    rw[this]
    exact zbM _ _ _ h1
   ·rw[e2,h3]
    exact zdt _ _ _ h2
def drH (p:Planet) (r:Sp) (o:BRes):Res:=doR o.e (subR r p.radius)
def drL (p:Planet) (l:List Pt) (r:Sp) (o:BRes):Res:=doR (drH p r o).e (zcx l (drH p r o).s)
def drB (p:Planet) (l:List Pt) (m r:Sp) (o:BRes):Res:=doR (drL p l r o).e (divR (drL p l r o).s m)
def drS (p:Planet) (l:List Pt) (v:Bx) (m r:Sp) (o:BRes):Res:=doR (drB p l m r o).e (zbA v.list)
def drX (p:Planet) (l:List Pt) (v:Bx) (m r:Sp) (o:BRes):Res:=doR (drS p l v m r o).e (mulR (drB p l m r o).s (drS p l v m r o).s)
def drM (p:Planet) (l:List Pt) (v:Bx) (m r:Sp) (o:BRes):BRes:=zbR mulR (drX p l v m r o).e (ones (drX p l v m r o).s) v
def zi5 (p:Planet) (l:List Pt) (v:Bx) (m r:Sp) (o:BRes):BRes:=if l.isEmpty then o else zbR subR (drM p l v m r o).e o.b (drM p l v m r o).b
def zbQ (p:Planet) (l:List Pt) (v:Bx) (m r:Sp) (o:BRes):BRes:=
 if l.isEmpty then o else th (zcA (drB p l m r o).s (drS p l v m r o).s v.x o.b.x) (zcA (drB p l m r o).s (drS p l v m r o).s v.y o.b.y) (zcA (drB p l m r o).s (drS p l v m r o).s v.z o.b.z) (drS p l v m r o).e
theorem zml (p:Planet) (l:List Pt) (v:Bx) (m r:Sp) {o o':BRes} (h:zck o o') (ho:o'.b.Ok) (hv:v.Ok):zck (zi5 p l v m r o) (zbQ p l v m r o'):=by
 unfold zi5 zbQ
 split
 ·exact h
 ·rcases zdK h with rfl|⟨h1,h2,h3⟩
  ·unfold drM
   have hb:(drB p l m r o).s.okB=true:=zeL ziy
   have hs:(drS p l v m r o).s.okB=true:=zeL zr2
   have hx:drX p l v m r o=doR (drS p l v m r o).e (mulR (drB p l m r o).s (drS p l v m r o).s):=rfl
   have hxo:(drX p l v m r o).s.okB=true:=zeL zew
   generalize drX p l v m r o=x at *
   generalize (drB p l m r o).s=b at *
   generalize drS p l v m r o=s at *
   have f1:=zh7 x.e _ _ _ (fun y=>subR o.b.x y) (fun y=>subR o.b.y y) (fun y=>subR o.b.z y) (zeq hxo hv.1) (zeq hxo hv.2.1) (zeq hxo hv.2.2) (zjL ho.1 zew (hi64 _)) (zjL ho.2.1 zew (hi64 _)) (zjL ho.2.2 zew (hi64 _)) (zbR mulR x.e (ones x.s) v) (by rw[zf8];exact zck.refl _)
   refine zck.trans f1 ?_
   unfold zcA
   by_cases hse:s.e=0
   ·rw[hse,zen] at hx
    subst hx
    rw[hse]
    rcases zeq hb hs with h0|h4
    ·rw[h0]
     unfold zc0
     simp only[h0,if_true]
     exact zck.refl _
    ·refine zel (e:=4) (by omega) (by rw[h4];exact zdt _ _ _ (by omega)) ?_
     have q:∀ y z,zc0 (zc0 (mulR b s.s) y) z=errR 4:=fun y z=>by
      have h:zc0 (mulR b s.s) y=errR 4:=by
       unfold zc0
       rw[if_neg (by rw[h4];decide),h4]
      rw[h]
      rfl
     rw[q,q,q]
     rfl
   ·have hxe:x.e=s.e:=by rw[hx];exact zaC _ hse
    exact zel hse (by rw[hxe];exact zdt _ _ _ hse) (zdt _ _ _ hse)
  ·have e1:(drS p l v m r o).e=o.e:=by unfold drS drB drL drH;rw[zaC _ h1,zaC _ h1,zaC _ h1,zaC _ h1]
   have e2:(drS p l v m r o').e=o'.e:=by unfold drS drB drL drH;rw[zaC _ h2,zaC _ h2,zaC _ h2,zaC _ h2]
   have e3:(drX p l v m r o).e=o.e:=by unfold drX;rw[e1];exact zaC _ h1
   refine zel h1 ?_ ?_
   ·have:(drM p l v m r o).e=o.e:=by unfold drM;rw[e3];exact zbM _ _ _ h1
    rw[this]
    exact zbM _ _ _ h1
   ·rw[e2,h3]
    exact zdt _ _ _ h2
def frN (p:Planet) (l:List Pt) (q:Bx) (e:Int):Res:=if !zbv p.mu||!l.isEmpty then doR e (zbA q.list) else ⟨z0,e⟩
def frPF (p:Planet) (l:List Pt) (q:Bx) (e:Int):BRes:=if zbv p.mu then ⟨p.pull,(frN p l q e).e⟩ else zox p q (frN p l q e).s (frN p l q e).e
def frPG (p:Planet) (l:List Pt) (q:Bx) (e:Int):BRes:=if zbv p.mu then ⟨p.pull,(frN p l q e).e⟩ else zey p q (frN p l q e).s (frN p l q e).e
def frSF (p:Planet) (l:List Pt) (q v:Bx) (e:Int):BRes:=zce p.spin q v (frPF p l q e)
def frSG (p:Planet) (l:List Pt) (q v:Bx) (e:Int):BRes:=zce p.spin q v (frPG p l q e)
def frTF (p:Planet) (a:Arc) (l:List Pt) (q v:Bx) (m:Sp) (e:Int):BRes:=zeh a m (frSF p l q v e)
def frTG (p:Planet) (a:Arc) (l:List Pt) (q v:Bx) (m:Sp) (e:Int):BRes:=zaW a m (frSG p l q v e)
def zaD (p:Planet) (a:Arc) (l:List Pt) (q v:Bx) (m:Sp) (e:Int):BRes:=zi5 p l v m (frN p l q e).s (frTF p a l q v m e)
def zat (p:Planet) (a:Arc) (l:List Pt) (q v:Bx) (m:Sp) (e:Int):BRes:=zbQ p l v m (frN p l q e).s (frTG p a l q v m e)
theorem zje {a:Res} {g:Sp→Res} (h:∀ y,(g y).s.okB=true):(zc0 a g).s.okB=true:=by
 unfold zc0
 split
 ·exact h _
 ·rfl
theorem zp8 (p:Planet) (q:Bx) (r:Sp) (e:Int):(zey p q r e).b.Ok:=by
 have h:∀ s u n o e,(zcA s u n o e).s.okB=true:=fun s u n o e=>by
  unfold zcA
  exact zeL (zje fun _=>zq2)
 exact ⟨h _ _ _ _ _,h _ _ _ _ _,h _ _ _ _ _⟩
theorem zoo (p:Planet) (l:List Pt) (q:Bx) (e:Int) (hp:p.pull.Ok):(frPG p l q e).b.Ok:=by
 unfold frPG
 split
 ·exact hp
 ·exact zp8 _ _ _ _
theorem zop (w:Sp) (q v:Bx) {o:BRes} (h:o.b.Ok):(zce w q v o).b.Ok:=by
 unfold zce
 split
 ·exact h
 ·exact ⟨zeL zgj,zeL zgj,h.2.2⟩
theorem ziz (a:Arc) (m:Sp) {o:BRes} (h:o.b.Ok):(zaW a m o).b.Ok:=by
 unfold zaW
 split
 ·exact h
 ·have k:∀ s u o e,(zbs s u o e).s.okB=true:=fun s u o e=>by
   unfold zbs
   exact zeL (zje fun _=>zgj)
  exact ⟨k _ _ _ _,k _ _ _ _,k _ _ _ _⟩
theorem zhI (p:Planet) (a:Arc) (l:List Pt) (q v:Bx) (m:Sp) (e:Int) (hp:p.pull.Ok) (hd:a.dir.Ok) (hv:v.Ok):zck (zaD p a l q v m e) (zat p a l q v m e):=by
 have h1:zck (frPF p l q e) (frPG p l q e):=by
  unfold frPF frPG
  split
  ·exact zck.refl _
  ·exact zmK _ _ _ _ hp
 have h2:zck (frSF p l q v e) (frSG p l q v e):=ziJ _ _ _ h1
 have o2:(frSG p l q v e).b.Ok:=zop _ _ _ (zoo p l q e hp)
 have h3:zck (frTF p a l q v m e) (frTG p a l q v m e):=zki a m h2 o2 hd
 exact zml p l v m _ h3 (ziz a m o2) hv
end Go.Proofs.YtdkfkalplmgoeaaGreat
namespace Go.Proofs.YtdkfkalplmgoeaaGreat
open Go.RowKit Go.Shelf
set_option maxRecDepth 100000
set_option maxHeartbeats 4000000
def E07 (r:Res):Prop:=r.e=0∨r.e=7
def zqX (a b:Bx):Bool:=decide ((zjd a.x b.x).e=0)&&decide ((zjd a.y b.y).e=0)&&decide ((zjd a.z b.z).e=0)
def ztR (a b:Bx):Bx:=⟨(zjd a.x b.x).s,(zjd a.y b.y).s,(zjd a.z b.z).s⟩
def zpQ (a b:State):Bool:=zqX a.p b.p&&zqX a.v b.v&&decide ((zjd a.m b.m).e=0)
structure SRes where
 s:State
 e:Int
def zaL:State:=⟨0,⟨⟨0,0⟩,⟨0,0⟩,⟨0,0⟩⟩,⟨⟨0,0⟩,⟨0,0⟩,⟨0,0⟩⟩,⟨0,0⟩⟩
def jointR (a b:State):SRes:=
 if a.okB&&b.okB then (if a.t=b.t then (if zpQ a b then ⟨⟨a.t,ztR a.p b.p,ztR a.v b.v,(zjd a.m b.m).s⟩,0⟩ else ⟨zaL,7⟩) else ⟨zaL,9⟩) else ⟨zaL,2⟩
theorem zh5 {a:State} (h:a.okB=true):a.p.okB=true∧a.v.okB=true∧a.m.okB=true:=by
 unfold State.okB at h
 simp only[Bool.and_eq_true] at h
 exact ⟨h.1.1.2.1,h.1.1.2.2,h.1.2⟩
class St64 (s:State):Prop where
 t:I64 s.t
 p:B64 s.p
 v:B64 s.v
 m:S64 s.m
instance st64_p (s:State) [h:St64 s]:B64 s.p:=h.p
instance st64_v (s:State) [h:St64 s]:B64 s.v:=h.v
instance st64_m (s:State) [h:St64 s]:S64 s.m:=h.m
def RetSt (r:SRes) (w:World) (e:Ending) (w':World):Prop:=e=.returned (.tuple #[.agg #[.int .i64 r.s.t,.int .i64 r.s.p.x.lo,.int .i64 r.s.p.x.hi,.int .i64 r.s.p.y.lo,.int .i64 r.s.p.y.hi,.int .i64 r.s.p.z.lo,.int .i64 r.s.p.z.hi,.int .i64 r.s.v.x.lo,.int .i64 r.s.v.x.hi,.int .i64 r.s.v.y.lo,.int .i64 r.s.v.y.hi,.int .i64 r.s.v.z.lo,.int .i64 r.s.v.z.hi,.int .i64 r.s.m.lo,.int .i64 r.s.m.hi],.int .i64 r.e])∧Grew w w'
end Go.Proofs.YtdkfkalplmgoeaaGreat
