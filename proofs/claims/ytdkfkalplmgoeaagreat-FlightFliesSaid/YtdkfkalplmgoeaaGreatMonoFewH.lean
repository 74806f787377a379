/-
  Joined: LookLaw, MonoFew.
-/
import Derived.Test.YtdkfkalplmgoeaaGreatFlightOksH
import Derived.Test.YtdkfkalplmgoeaaGreatSpanDivsH
import Derived.Test.YtdkfkalplmgoeaaGreatChecksH
namespace Go.Proofs.YtdkfkalplmgoeaaGreat
open Go.RowKit
def bnd (up:Bool) (v:Sp):Int:=if up then v.hi else v.lo
def idxT (x:Int):List Pt→Nat
 |[]=>0
 |p::l=>if p.place<x then idxT x l+1 else 0
theorem zkM (x:Int):∀ l:List Pt,idxT x l≤l.length
 |[]=>Nat.le_refl 0
 |p::l=>by
  unfold idxT
  split
  ·have:=zkM x l
   simp only[List.length_cons]
   omega
  ·exact Nat.zero_le _
theorem zgK {x:Int}:∀ {l:List Pt} {i:Nat},i≤l.length→(∀ j (hj:j<l.length),j<i→l[j].place<x)→(∀ hj:i<l.length,x≤l[i].place)→idxT x l=i
 |[],i,hi,_,_=>by
  have:i=0:=by simpa using hi
  subst this
  rfl
 |p::l,0,_,_,h2=>by
  have h:=h2 (by simp)
  simp only[List.getElem_cons_zero] at h
  unfold idxT
  rw[if_neg (by omega)]
 |p::l,i+1,hi,h1,h2=>by
  have h0:=h1 0 (by simp) (by omega)
  simp only[List.getElem_cons_zero] at h0
  unfold idxT
  rw[if_pos h0]
  have:=zgK (x:=x) (l:=l) (i:=i) (by simpa using hi) (fun j hj hji=>by
   have:=h1 (j+1) (by simp only[List.length_cons];omega) (by omega)
   simpa using this) (fun hj=>by
   have:=h2 (by simp only[List.length_cons];omega)
   simpa using this)
  rw[this]
theorem zgJ {x:Int}:∀ {l:List Pt} (j:Nat) (hj:j<l.length),j<idxT x l→l[j].place<x
 |[],j,hj,_=>by simp at hj
 |p::l,j,hj,h=>by
  unfold idxT at h
  split at h
  ·rename_i hp
   cases j with
   |zero=>simpa using hp
   |succ j=>
    have:=zgJ (x:=x) (l:=l) j (by simpa using hj) (by omega)
    simpa using this
  ·omega
theorem zgI {x:Int}:∀ {l:List Pt} (hj:idxT x l<l.length),x≤(l[idxT x l]'hj).place
 |[],hj=>by simp at hj
 |p::l,hj=>by
  by_cases hp:p.place<x
  ·have e:idxT x (p::l)=idxT x l+1:=by rw[idxT];exact if_pos hp
   have hj':idxT x l<l.length:=by rw[e] at hj;simpa using hj
   have:=zgI (x:=x) (l:=l) hj'
   simp only[e,List.getElem_cons_succ]
   exact this
  ·have e:idxT x (p::l)=0:=by rw[idxT];exact if_neg hp
   simp only[e,List.getElem_cons_zero]
   omega
def segD (up:Bool) (p q:Pt) (x:Int):Big:=zec (ofB (bnd up p.value)) (zbk (zas (bnd up q.value-bnd up p.value) (x-p.place)) (q.place-p.place))
def segU (up:Bool) (p q:Pt) (x:Int):Big:=zec (ofB (bnd up p.value)) (zdb (zas (bnd up q.value-bnd up p.value) (x-p.place)) (q.place-p.place))
theorem zkW {n:Int} (h:zdY n=true):-2305843009213693952≤n∧n≤2305843009213693952:=by
 unfold zdY at h
 simpa using h
theorem zih {p:Pt} (h:p.okB=true) (up:Bool):(-2305843009213693952≤p.place∧p.place≤2305843009213693952)∧-2305843009213693952≤bnd up p.value∧bnd up p.value≤2305843009213693952:=by
 unfold Pt.okB at h
 simp only[Bool.and_eq_true] at h
 obtain ⟨⟨⟨h1,-⟩,h3⟩,h4⟩:=h
 refine ⟨zkW h1,?_⟩
 unfold bnd
 split
 ·exact zkW h4
 ·exact zkW h3
theorem zt2 {a b:Int} (ha:-4611686018427387904≤a∧a≤4611686018427387904) (hb:0≤b∧b≤4611686018427387904):(a.natAbs:Int)*b.natAbs<170141183460469231731687303715884105728:=by
 have h1:(a.natAbs:Int)≤4611686018427387904:=by omega
 have h2:(b.natAbs:Int)≤4611686018427387904:=by omega
 calc (a.natAbs:Int)*b.natAbs≤4611686018427387904*4611686018427387904:=Int.mul_le_mul h1 h2 (by omega) (by omega)
  _<_:=by omega
section
variable {up:Bool} {p q:Pt} {x:Int}
theorem zka (hp:p.okB=true) (hq:q.okB=true) (h1:p.place<x) (h2:x≤q.place) :
 (zas (bnd up q.value-bnd up p.value) (x-p.place)).ok∧(zbk (zas (bnd up q.value-bnd up p.value) (x-p.place)) (q.place-p.place)).ok∧(zdb (zas (bnd up q.value-bnd up p.value) (x-p.place)) (q.place-p.place)).ok∧(segD up p q x).ok∧(segU up p q x).ok∧B128 ((ofB (bnd up p.value)).m+(zbk (zas (bnd up q.value-bnd up p.value) (x-p.place)) (q.place-p.place)).m)∧B128 ((ofB (bnd up p.value)).m+(zdb (zas (bnd up q.value-bnd up p.value) (x-p.place)) (q.place-p.place)).m)∧(ofB (bnd up p.value)).ok:=by
 obtain ⟨p1,p2⟩:=zih hp up
 obtain ⟨q1,q2⟩:=zih hq up
 have hm:=zt2 (a:=bnd up q.value-bnd up p.value) (b:=x-p.place) (by omega) (by omega)
 have h0:(0:Int)≤(bnd up q.value-bnd up p.value).natAbs*(x-p.place).natAbs:=Int.mul_nonneg (by omega) (by omega)
 have em:(zas (bnd up q.value-bnd up p.value) (x-p.place)).m=(bnd up q.value-bnd up p.value).natAbs*(x-p.place).natAbs:=zgL _ _
 have hd:=ziX (zas (bnd up q.value-bnd up p.value) (x-p.place)).m (q.place-p.place) (by rw[em];exact h0) (by rw[em];exact hm) (by omega)
 have hle:=Int.ediv_le_self (q.place-p.place) h0
 have hle2:(zas (bnd up q.value-bnd up p.value) (x-p.place)).m≤170141183460469231731687303715884105727:=by rw[em];omega
 have okT:(zas (bnd up q.value-bnd up p.value) (x-p.place)).ok:=zkj _ _ (by unfold I64;omega) (by unfold I64;omega)
 have bdn:∀ n m,B128 m→m<170141183460469231731687303715884105729→(zcC n m).ok∧B128 ((ofB (bnd up p.value)).m+(zcC n m).m):=fun n m hb hlt=>by
  refine ⟨zch _ _ hb,?_⟩
  rw[zgL,zmG]
  unfold B128 at *
  omega
 have hup:∀ m d:Int,0≤m→m≤170141183460469231731687303715884105727→1≤d→upZ m d<170141183460469231731687303715884105729∧zbl m d<170141183460469231731687303715884105729:=fun m d h0 hm hd=>by
  have h2:=Int.ediv_le_self d h0
  rw[zh9 m d hd]
  unfold zbl
  refine ⟨?_,by omega⟩
  split<;>omega
 have hub:=hup _ (q.place-p.place) (by rw[em];exact h0) hle2 (by omega)
 have okD:(zbk (zas (bnd up q.value-bnd up p.value) (x-p.place)) (q.place-p.place)).ok∧B128 ((ofB (bnd up p.value)).m+(zbk (zas (bnd up q.value-bnd up p.value) (x-p.place)) (q.place-p.place)).m):=by
  unfold zbk
  split
  ·exact bdn _ _ hd.2 hub.1
  ·exact bdn _ _ hd.1 hub.2
 have okU:(zdb (zas (bnd up q.value-bnd up p.value) (x-p.place)) (q.place-p.place)).ok∧B128 ((ofB (bnd up p.value)).m+(zdb (zas (bnd up q.value-bnd up p.value) (x-p.place)) (q.place-p.place)).m):=by
  unfold zdb
  split
  ·exact bdn _ _ hd.1 hub.2
  ·exact bdn _ _ hd.2 hub.1
 have okP:(ofB (bnd up p.value)).ok:=zgi _ (by unfold I64;omega)
 exact ⟨okT,okD.1,okU.1,zjf okP okD.1 okD.2,zjf okP okU.1 okU.2,okD.2,okU.2,okP⟩
theorem zqx:(segD up p q x).val=bnd up p.value+zbl ((bnd up q.value-bnd up p.value)*(x-p.place)) (q.place-p.place):=by
 unfold segD
 rw[zgo,zdx,zfT,zcZ]
theorem zqy:(segU up p q x).val=bnd up p.value+upZ ((bnd up q.value-bnd up p.value)*(x-p.place)) (q.place-p.place):=by
 unfold segU
 rw[zgo,zdx,zhA,zcZ]
theorem zo3 (h:p.place<q.place):bnd up p.value+zbl ((bnd up q.value-bnd up p.value)*(q.place-p.place)) (q.place-p.place)=bnd up q.value∧
 bnd up p.value+upZ ((bnd up q.value-bnd up p.value)*(q.place-p.place)) (q.place-p.place)=bnd up q.value:=by
 unfold zbl upZ
 rw[Int.mul_ediv_cancel _ (by omega),←Int.neg_mul,Int.mul_ediv_cancel _ (by omega)]
 omega
end
def zb4 (l:List Pt) (up:Bool) (x:Int):Int × Int:=
 if idxT x l=0 then (bnd up (l.getD 0 ⟨0,⟨0,0⟩⟩).value,bnd up (l.getD 0 ⟨0,⟨0,0⟩⟩).value)
 else if idxT x l=l.length then (bnd up (l.getD (l.length-1) ⟨0,⟨0,0⟩⟩).value,bnd up (l.getD (l.length-1) ⟨0,⟨0,0⟩⟩).value)
 else
  let p:=l.getD (idxT x l-1) ⟨0,⟨0,0⟩⟩
  let q:=l.getD (idxT x l) ⟨0,⟨0,0⟩⟩
  (bnd up p.value+zbl ((bnd up q.value-bnd up p.value)*(x-p.place)) (q.place-p.place),bnd up p.value+upZ ((bnd up q.value-bnd up p.value)*(x-p.place)) (q.place-p.place))
def zaX (l:List Pt) (x:Sp):List Int:=x.lo::x.hi::(l.filter fun p=>decide (x.lo≤p.place)&&decide (p.place≤x.hi)).map Pt.place
def zgd:Int→List Int→Int
 |a,[]=>a
 |a,b::l=>zgd (imin a b) l
def most:Int→List Int→Int
 |a,[]=>a
 |a,b::l=>most (imax a b) l
def zfO (l:List Pt) (x:Sp):Res:=
 fitR (zgd (zb4 l false x.lo).1 ((zaX l x).tail.map fun at_=>(zb4 l false at_).1)) (most (zb4 l true x.lo).2 ((zaX l x).tail.map fun at_=>(zb4 l true at_).2))
def zcx (l:List Pt) (x:Sp):Res:=if zaY l&&x.okB then zfO l x else errR 2
end Go.Proofs.YtdkfkalplmgoeaaGreat
namespace Go.Proofs.YtdkfkalplmgoeaaGreat
open Go.RowKit
def Wi (a b:Sp):Prop:=b.lo≤a.lo∧a.hi≤b.hi
theorem Wi.refl (a:Sp):Wi a a:=⟨Int.le_refl _,Int.le_refl _⟩
theorem Wi.trans {a b c:Sp} (h:Wi a b) (k:Wi b c):Wi a c:=⟨Int.le_trans k.1 h.1,Int.le_trans h.2 k.2⟩
theorem zeH {x y:Int} (h:(fitR x y).e=0):fitR x y=⟨⟨x,y⟩,0⟩∧(-9223372036854775807≤x∧x≤9223372036854775807)∧-9223372036854775807≤y∧y≤9223372036854775807:=by
 unfold fitR at *
 split at h
 ·rename_i h1
  rw[if_pos h1]
  unfold zdX at h1
  simp at h1
  exact ⟨rfl,h1.1,h1.2⟩
 ·exact absurd h (by decide)
theorem zgN {a:Sp} (h:a.okB=true):a.lo≤a.hi:=by
 unfold Sp.okB at h
 simp at h
 exact h.2
theorem add_zero {a b:Sp} (h:(addR a b).e=0):a.okB=true∧b.okB=true∧addR a b=⟨⟨a.lo+b.lo,a.hi+b.hi⟩,0⟩:=by
 unfold addR at *
 split at h
 ·rename_i h1
  rw[if_pos h1]
  simp at h1
  exact ⟨h1.1,h1.2,(zeH h).1⟩
 ·exact absurd h (by decide)
theorem zfz (x d:Int) (hd:0<d):zbl x d≤upZ x d:=by
 unfold zbl upZ
 have h1:=Int.mul_ediv_add_emod x d
 have h2:=Int.emod_nonneg x (show d≠0 by omega)
 have h3:=Int.mul_ediv_add_emod (-x) d
 have h4:=Int.emod_nonneg (-x) (show d≠0 by omega)
 have h5:d*(x/d)+d*(-x/d)≤0:=by omega
 rw[←Int.mul_add] at h5
 by_cases c:0<x/d+-x/d
 ·have:=Int.mul_pos hd c
  omega
 ·omega
theorem zhs {a b:Sp} (h:(subR a b).e=0):subR a b=addR a (negS b)∧b.okB=true:=by
 unfold subR at *
 split at h
 ·rename_i h1
  rw[if_pos h1]
  exact ⟨rfl,h1⟩
 ·exact absurd h (by decide)
theorem zhM (a b c d:Int):min4 a b c d≤a∧min4 a b c d≤b∧min4 a b c d≤c∧min4 a b c d≤d:=by
 unfold min4 imin
 (repeat' split)<;>omega
theorem zhJ (a b c d:Int):a≤max4 a b c d∧b≤max4 a b c d∧c≤max4 a b c d∧d≤max4 a b c d:=by
 unfold max4 imax
 (repeat' split)<;>omega
theorem znV {x a b c d:Int} (h1:x≤a) (h2:x≤b) (h3:x≤c) (h4:x≤d):x≤min4 a b c d:=by
 unfold min4 imin
 (repeat' split)<;>omega
theorem zob {x a b c d:Int} (h1:a≤x) (h2:b≤x) (h3:c≤x) (h4:d≤x):max4 a b c d≤x:=by
 unfold max4 imax
 (repeat' split)<;>omega
theorem zoc {lo hi x:Int} (c:Int) (h1:lo≤x) (h2:x≤hi):(lo*c≤x*c∧x*c≤hi*c)∨(hi*c≤x*c∧x*c≤lo*c):=by
 by_cases h:0≤c
 ·exact .inl ⟨Int.mul_le_mul_of_nonneg_right h1 h,Int.mul_le_mul_of_nonneg_right h2 h⟩
 ·exact .inr ⟨Int.mul_le_mul_of_nonpos_right h2 (by omega),Int.mul_le_mul_of_nonpos_right h1 (by omega)⟩
theorem zlN {lo hi y:Int} (c:Int) (h1:lo≤y) (h2:y≤hi):(c*lo≤c*y∧c*y≤c*hi)∨(c*hi≤c*y∧c*y≤c*lo):=by
 rw[Int.mul_comm c lo,Int.mul_comm c y,Int.mul_comm c hi]
 exact zoc c h1 h2
theorem zjH {a b c d x y:Int} (h1:a≤x) (h2:x≤b) (h3:c≤y) (h4:y≤d):min4 (a*c) (a*d) (b*c) (b*d)≤x*y∧x*y≤max4 (a*c) (a*d) (b*c) (b*d):=by
 have m1:=zhM (a*c) (a*d) (b*c) (b*d)
 have m2:=zhJ (a*c) (a*d) (b*c) (b*d)
 have p1:=zoc y h1 h2
 have p2:=zlN a h3 h4
 have p3:=zlN b h3 h4
 omega
theorem mul_zero {a b:Sp} (h:(mulR a b).e=0):a.okB=true∧b.okB=true∧mulR a b=⟨⟨zbl (min4 (a.lo*b.lo) (a.lo*b.hi) (a.hi*b.lo) (a.hi*b.hi)) 4294967296,upZ (max4 (a.lo*b.lo) (a.lo*b.hi) (a.hi*b.lo) (a.hi*b.hi)) 4294967296⟩,0⟩:=by
 unfold mulR at *
 split at h
 ·rename_i h1
  rw[if_pos h1]
  simp at h1
  exact ⟨h1.1,h1.2,(zeH h).1⟩
 ·exact absurd h (by decide)
theorem zjJ {x y:Int} (d:Int) (hd:0<d) (h:x≤y):zbl x d≤zbl y d:=Int.ediv_le_ediv hd h
theorem zpg {x y:Int} (d:Int) (hd:0<d) (h:x≤y):upZ x d≤upZ y d:=by
 unfold upZ
 have:=Int.ediv_le_ediv (a:=-y) (b:=-x) hd (by omega)
 omega
theorem zmV (k:Nat) (r x:Int) (h0:0≤r) (h1:r*r≤x) (h2:x<(r+2^k)*(r+2^k)):0≤zcr k r x∧zcr k r x*zcr k r x≤x∧x<(zcr k r x+1)*(zcr k r x+1):=by
 induction k generalizing r with
 |zero=>exact ⟨h0,h1,h2⟩
 |succ k ih=>
  unfold zcr
  have hp:(0:Int)<2^k:=Int.pow_pos (by decide)
  have e:(2:Int)^(k+1)=2^k+2^k:=by rw[Int.pow_succ];omega
  rw[e] at h2
  split
  ·exact ih _ (by omega) (by assumption) (by rw[Int.add_assoc];exact h2)
  ·exact ih _ h0 h1 (by omega)
theorem zgw (x:Int) (h0:0≤x) (h1:x<316912650057057350374175801344):0≤zbo x∧zbo x*zbo x≤x∧x<(zbo x+1)*(zbo x+1):=
 zmV 49 0 x (by decide) (by simpa using h0) (by
  have:((0:Int)+2^49)*(0+2^49)=316912650057057350374175801344:=by decide +kernel
  rw[this];exact h1)
theorem zsy {a b:Int} (hb:0≤b) (h:a*a<b*b):a<b:=by
 by_cases c:a<b
 ·exact c
 ·have:=Int.mul_le_mul (show b≤a by omega) (show b≤a by omega) hb (by omega)
  omega
theorem zmX {x y:Int} (h0:0≤x) (h:x≤y) (h1:y<316912650057057350374175801344):zbo x≤zbo y:=by
 obtain ⟨a1,a2,-⟩:=zgw x h0 (by omega)
 obtain ⟨b1,-,b3⟩:=zgw y (by omega) h1
 have:=zsy (a:=zbo x) (b:=zbo y+1) (by omega) (by omega)
 omega
theorem zmW (x:Int) (h0:0≤x) (h1:x<316912650057057350374175801344):zbo x≤zd5 x∧x≤zd5 x*zd5 x∧∀ r,0≤r→x≤r*r→zd5 x≤r:=by
 obtain ⟨a1,a2,a3⟩:=zgw x h0 h1
 unfold zd5
 split
 ·rename_i h
  refine ⟨Int.le_refl _,by omega,fun r hr hx=>?_⟩
  have hrr:(r+1)*(r+1)=r*r+r+r+1:=by rw[Int.add_mul,Int.mul_add];omega
  have:=zsy (a:=zbo x) (b:=r+1) (by omega) (by rw[h];omega)
  omega
 ·rename_i h
  refine ⟨by omega,by omega,fun r hr hx=>?_⟩
  have h2:zbo x*zbo x<r*r:=by omega
  have:=zsy hr h2
  omega
theorem zoY {a:Sp} (h:(zcE a).e=0):a.okB=true∧0≤a.hi∧zcE a=⟨⟨zbo (imax a.lo 0*4294967296),zd5 (a.hi*4294967296)⟩,0⟩:=by
 unfold zcE at *
 split at h
 ·rename_i h1
  rw[if_pos h1]
  split at h
  ·exact absurd h (by decide)
  ·rename_i h2
   rw[if_neg h2]
   exact ⟨h1,by omega,rfl⟩
 ·exact absurd h (by decide)
theorem zqp {a:Sp} (h:(zcE a).e=0) (hi:a.hi≤9223372036854775807):0≤(zcE a).s.lo∧(zcE a).s.lo≤(zcE a).s.hi:=by
 obtain ⟨k,n,e⟩:=zoY h
 have l:=zgN k
 rw[e]
 have h1:imax a.lo 0*4294967296≤a.hi*4294967296:=by unfold imax;split<;>omega
 have h2:0≤imax a.lo 0*4294967296:=by unfold imax;split<;>omega
 have h3:=zmX h2 h1 (by omega)
 have h4:=(zmW (a.hi*4294967296) (by omega) (by omega)).1
 exact ⟨(zgw _ h2 (by omega)).1,Int.le_trans h3 h4⟩
inductive All2 {α:Type} (Q:α→α→Prop):List α→List α→Prop
 |nil:All2 Q [] []
 |cons {x y:α} {l l':List α}:Q x y→All2 Q l l'→All2 Q (x::l) (y::l')
theorem znI {α:Type} {f:α→Res} {s:Sp} {x:α} {l:List α} (h:(zbg f s (x::l)).e=0):(f x).e=0∧(addR s (f x).s).e=0∧zbg f s (x::l)=zbg f (addR s (f x).s).s l:=by
 have e:zbg f s (x::l)=if (f x).e=0 then (if (addR s (f x).s).e=0 then zbg f (addR s (f x).s).s l else errR (addR s (f x).s).e) else errR (f x).e:=rfl
 rw[e] at h ⊢
 split at h
 ·rename_i h1
  rw[if_pos h1]
  split at h
  ·rename_i h2
   rw[if_pos h2]
   exact ⟨h1,h2,rfl⟩
  ·rename_i h2
   exact absurd h h2
 ·rename_i h1
  exact absurd h h1
theorem zlE {α:Type} (f:α→Res):∀ (l:List α) (s:Sp),s.hi≤9223372036854775807→(zbg f s l).e=0→(zbg f s l).s.hi≤9223372036854775807
 |[],_,h,_=>h
 |x::l,s,h,h1=>by
  obtain ⟨a1,a2,a3⟩:=znI h1
  rw[a3] at h1 ⊢
  refine zlE f l _ ?_ h1
  have h2:=a2
  unfold addR at h2 ⊢
  split at h2
  ·rename_i h3
   rw[if_pos h3]
   obtain ⟨e,-,-,h4⟩:=zeH h2
   rw[e]
   exact h4
  ·exact absurd h2 (by decide)
theorem zoj {l:List Sp} (h:(zbA l).e=0):(zbg zaB z0 l).e=0∧zbA l=zcE (zbg zaB z0 l).s:=by
 unfold zbA at *
 split at h
 ·rename_i h1
  rw[if_pos h1]
  split at h
  ·rename_i h2
   rw[if_pos h2]
   split at h
   ·rename_i h3
    rw[if_pos h3]
    exact ⟨h3,rfl⟩
   ·rename_i h3
    exact absurd h h3
  ·exact absurd h (by decide)
 ·exact absurd h (by decide)
theorem zp6 {l:List Sp} (h:(zbA l).e=0):0≤(zbA l).s.lo∧(zbA l).s.lo≤(zbA l).s.hi:=by
 obtain ⟨a1,a2⟩:=zoj h
 rw[a2] at h ⊢
 exact zqp h (zlE zaB l z0 (by decide) a1)
end Go.Proofs.YtdkfkalplmgoeaaGreat
