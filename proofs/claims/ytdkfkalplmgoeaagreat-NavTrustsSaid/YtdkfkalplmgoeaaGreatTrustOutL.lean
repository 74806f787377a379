/-
  Joined: NavTruly, TrustOut.
-/
import Derived.Test.YtdkfkalplmgoeaaGreatNavCutAllL
import Derived.Test.YtdkfkalplmgoeaaGreatWholeL
import Derived.Test.YtdkfkalplmgoeaaGreatNavCutOneL
import Derived.Test.YtdkfkalplmgoeaaGreatDistLawL
import Derived.Test.YtdkfkalplmgoeaaGreatRangeTwoL
namespace Go.Proofs.YtdkfkalplmgoeaaGreat
set_option maxRecDepth 100000
def Has1 (a:Sp) (n:Int):Prop:=a.lo≤n∧n≤a.hi
def Has2 (a:Sp) (n:Int):Prop:=a.lo*4294967296≤n∧n≤a.hi*4294967296
def zoW (r:Sp) (X:Int):Prop:=(r.lo≤0∨r.lo*r.lo≤X)∧0≤r.hi∧X≤r.hi*r.hi
def LeR (a S X:Int):Prop:=(a≤0∧0≤S)∨(0≤a∧0≤S∧a*a*X≤S*S)∨(a≤0∧S≤0∧S*S≤a*a*X)
def zp1 (r:Sp) (S X:Int):Prop:=LeR r.lo S X∧LeR (-r.hi) (-S) X
def Fine (r:Res) (P:Sp→Prop):Prop:=r.e≠7∧(r.e=0→P r.s)
theorem zdc {e:Int} {r:Res} (h:(doR e r).e=0):e=0∧doR e r=r:=by
 unfold doR at *
 split at h
 ·rename_i k
  exact ⟨k,by rw[if_pos k]⟩
 ·rename_i k
  exact absurd h k
structure V3 where
 x:Int
 y:Int
 z:Int
def V3.at (v:V3):Nat→Int
 |0=>v.x
 |1=>v.y
 |_=>v.z
def V3.dot (u v:V3):Int:=u.x*v.x+u.y*v.y+u.z*v.z
def V3.sub (u v:V3):V3:=⟨u.x-v.x,u.y-v.y,u.z-v.z⟩
def HasB (b:Bx) (v:V3):Prop:=Has1 b.x v.x∧Has1 b.y v.y∧Has1 b.z v.z
theorem HasB.at {b:Bx} {v:V3} (h:HasB b v) (i:Nat):Has1 (b.at i) (v.at i):=by
 match i with
 |0=>exact h.1
 |1=>exact h.2.1
 |n+2=>exact h.2.2
theorem HasB.put {b:Bx} {v:V3} {s:Sp} (h:HasB b v) (i:Nat) (hs:Has1 s (v.at i)):HasB (b.put i s) v:=by
 match i with
 |0=>exact ⟨hs,h.2⟩
 |1=>exact ⟨h.1,hs,h.2.2⟩
 |n+2=>exact ⟨h.1,h.2.1,hs⟩
theorem zil {a b:Sp} (h:(zaG a b).e=0):a.okB=true∧b.okB=true∧zaG a b=⟨zde a b,0⟩∧(zaG a b).s.okB=true∧Wi (zaG a b).s a∧Wi (zaG a b).s b:=by
 unfold zaG at *
 split at h
 ·rename_i k
  rw[if_pos k]
  simp only[Bool.and_eq_true] at k
  split at h
  ·exact absurd h (by simp[errR])
  ·rename_i k2
   rw[if_neg k2]
   refine ⟨k.1,k.2,rfl,?_,?_,?_⟩
   ·have h1:=zbZ k.1
    have h2:=zbZ k.2
    unfold Sp.okB numB
    simp only[Bool.and_eq_true,decide_eq_true_eq]
    unfold zde imax imin at *
    simp only at *
    (repeat' split at *)<;>omega
   ·unfold Wi zde imax imin
    simp only
    (repeat' split)<;>omega
   ·unfold Wi zde imax imin
    simp only
    (repeat' split)<;>omega
 ·exact absurd h (by simp[errR])
def SubB (y x:Bx):Prop:=Wi y.x x.x∧Wi y.y x.y∧Wi y.z x.z
theorem SubB.refl (x:Bx):SubB x x:=⟨Wi.refl _,Wi.refl _,Wi.refl _⟩
theorem SubB.trans {x y z:Bx} (h:SubB x y) (k:SubB y z):SubB x z:=⟨h.1.trans k.1,h.2.1.trans k.2.1,h.2.2.trans k.2.2⟩
theorem SubB.put {y x:Bx} {s:Sp} (h:SubB y x) (i:Nat) (k:Wi s (y.at i)):SubB (y.put i s) x:=by
 match i with
 |0=>exact ⟨k.trans h.1,h.2⟩
 |1=>exact ⟨h.1,k.trans h.2.1,h.2.2⟩
 |n+2=>exact ⟨h.1,h.2.1,k.trans h.2.2⟩
def CutAt (v:V3) (x:Bx) (y:Bx × Int):Prop:=y.2≠7∧(y.2=0→HasB y.1 v∧SubB y.1 x∧y.1.okB=true)
def HasQ (b:Bx) (v:V3):Prop:=Has2 b.x (v.x*v.x)∧Has2 b.y (v.y*v.y)∧Has2 b.z (v.z*v.z)
theorem HasQ.at {b:Bx} {v:V3} (h:HasQ b v) (i:Nat):Has2 (b.at i) (v.at i*v.at i):=by
 match i with
 |0=>exact h.1
 |1=>exact h.2.1
 |n+2=>exact h.2.2
theorem HasQ.put {b:Bx} {v:V3} {s:Sp} (h:HasQ b v) (i:Nat) (hs:Has2 s (v.at i*v.at i)):HasQ (b.put i s) v:=by
 match i with
 |0=>exact ⟨hs,h.2⟩
 |1=>exact ⟨h.1,hs,h.2.2⟩
 |n+2=>exact ⟨h.1,h.2.1,hs⟩
def DsAt (d t:V3) (p:Bx) (y:Ds):Prop:=y.e≠7∧(y.e=0→HasB y.d d∧HasQ y.q d∧HasB y.pl t∧SubB y.pl p∧y.pl.okB=true)
def HasS (s:State) (t v:V3):Prop:=HasB s.p t∧HasB s.v v
def low (b:Bx):V3:=⟨b.x.lo,b.y.lo,b.z.lo⟩
def Says (m:Radio) (t v:V3):Prop:=
 if m.kind=0 then zoW m.value ((t.sub (low m.place)).dot (t.sub (low m.place)))
 else if m.kind=1 then zp1 m.value ((t.sub (low m.place)).dot v) ((t.sub (low m.place)).dot (t.sub (low m.place)))
 else if m.kind=2 then Has2 m.value ((low m.dir).dot t) else Has2 m.value ((low m.dir).dot v)
end Go.Proofs.YtdkfkalplmgoeaaGreat
namespace Go.Proofs.YtdkfkalplmgoeaaGreat
set_option maxRecDepth 100000
def Nw (a b:Sp):Prop:=a.okB=true∧Wi a b
theorem zme {a:Sp} (h:-9223372036854775807≤a.lo) (k:a.lo≤a.hi):a.okB=true:=by
 unfold Sp.okB numB
 simp only[Bool.and_eq_true,decide_eq_true_eq]
 omega
def Mo (r r':Res):Prop:=r'.e=0→r.e=0∧Nw r.s r'.s
def Mv (r r':Res):Prop:=(r'.e=0→(r.e=0∧Nw r.s r'.s)∨r.e=7)∧(r'.e=7→r.e=7)
theorem zqk {a b:Sp} (h:Nw a b):a.lo≤a.hi:=zql h.1
def NwB (b c:Bx):Prop:=Nw b.x c.x∧Nw b.y c.y∧Nw b.z c.z
theorem NwB.at {b c:Bx} (h:NwB b c) (i:Nat):Nw (b.at i) (c.at i):=by
 match i with
 |0=>exact h.1
 |1=>exact h.2.1
 |n+2=>exact h.2.2
theorem NwB.put {b c:Bx} {s t:Sp} (h:NwB b c) (i:Nat) (k:Nw s t):NwB (b.put i s) (c.put i t):=by
 match i with
 |0=>exact ⟨k,h.2⟩
 |1=>exact ⟨h.1,k,h.2.2⟩
 |n+2=>exact ⟨h.1,h.2.1,k⟩
theorem NwB.put_l {b c:Bx} {s:Sp} (h:NwB b c) (i:Nat) (k:Nw s (b.at i)):NwB (b.put i s) c:=by
 match i with
 |0=>exact ⟨⟨k.1,k.2.trans h.1.2⟩,h.2⟩
 |1=>exact ⟨h.1,⟨k.1,k.2.trans h.2.1.2⟩,h.2.2⟩
 |n+2=>exact ⟨h.1,h.2.1,⟨k.1,k.2.trans h.2.2.2⟩⟩
theorem NwB.ok {b c:Bx} (h:NwB b c):b.okB=true:=by
 unfold Bx.okB
 rw[h.1.1,h.2.1.1,h.2.2.1]
 rfl
theorem zc7 {b:Bx} (h:b.okB=true):NwB b b:=by
 unfold Bx.okB at h
 simp only[Bool.and_eq_true] at h
 exact ⟨⟨h.1.1,Wi.refl _⟩,⟨h.1.2,Wi.refl _⟩,⟨h.2,Wi.refl _⟩⟩
def Me (e e':Int):Prop:=(e'=0→e=0∨e=7)∧(e'=7→e=7)
def MvB (y y':Bx × Int):Prop:=Me y.2 y'.2∧(y.2=0→y'.2=0→NwB y.1 y'.1)
def NwD (y y':Ds):Prop:=Me y.e y'.e∧(y.e=0→y'.e=0→NwB y.d y'.d∧NwB y.q y'.q∧NwB y.pl y'.pl)
def NwS (s s':State):Prop:=NwB s.p s'.p∧NwB s.v s'.v
end Go.Proofs.YtdkfkalplmgoeaaGreat
namespace Go.Proofs.YtdkfkalplmgoeaaGreat
set_option maxRecDepth 100000
theorem zhW {a x:Bx} {r:Sp} (hx:x.okB=true):∀ i,(zam 0 a x r i).2=0→NwB (zam 0 a x r i).1 x
 |0,_=>zc7 hx
 |i+1,h=>by
  have h:(zbd (zam 0 a x r i).2 a (zam 0 a x r i).1 r i).2=0:=h
  have he:(zam 0 a x r i).2=0:=by
   by_cases c:(zam 0 a x r i).2=0
   ·exact c
   ·exact (zfu _ _ r i c).symm.trans h
  have ih:=zhW hx i he
  show NwB (zbd (zam 0 a x r i).2 a (zam 0 a x r i).1 r i).1 x
  unfold zbd at h ⊢
  split at h
  ·rename_i q
   rw[if_pos q]
   obtain ⟨z1,z2⟩:=zdc h
   have m:=zil (a:=(zam 0 a x r i).1.at i) (b:=(divR (smn (zam 0 a x r i).2 a (zam 0 a x r i).1 r i).s (a.at i)).s) (by rw[←z2];exact h)
   refine ih.put_l i ?_
   unfold smt
   rw[z2]
   exact ⟨m.2.2.2.1,m.2.2.2.2.1⟩
  ·rename_i q
   rw[if_neg q]
   exact ih
theorem zot {p F:Bx} {r:Sp} (hp:p.okB=true):∀ i,(diTo p F r i).e=0→NwB (diTo p F r i).pl p
 |0,_=>zc7 hp
 |i+1,h=>by
  have h:(zbl (diTo p F r i) F (diS p F r).s i).e=0:=h
  have he:(diTo p F r i).e=0:=by
   by_cases c:(diTo p F r i).e=0
   ·exact c
   ·exact (zi3 c).symm.trans h
  have ih:=zot (F:=F) (r:=r) hp i he
  obtain ⟨z1,z2⟩:=zdc (zdc h).1
  have m:=zil (a:=(diTo p F r i).pl.at i) (b:=(dsP (diTo p F r i) F (diS p F r).s i).s) (by rw[←z2];exact (zdc h).1)
  refine ih.put_l i ?_
  show Nw (dsM (diTo p F r i) F (diS p F r).s i).s _
  unfold dsM
  rw[z2]
  exact ⟨m.2.2.2.1,m.2.2.2.2.1⟩
def OkS (s:State):Prop:=s.p.okB=true∧s.v.okB=true
theorem zhy {s:State} (h:OkS s):NwS s s:=⟨zc7 h.1,zc7 h.2⟩
theorem zhz {a b c:Sp} (h:Nw a b) (k:Nw b c):Nw a c:=⟨h.1,h.2.trans k.2⟩
theorem ziv {a b c:Bx} (h:NwB a b) (k:NwB b c):NwB a c:=⟨zhz h.1 k.1,zhz h.2.1 k.2.1,zhz h.2.2 k.2.2⟩
theorem ziw {a b c:State} (h:NwS a b) (k:NwS b c):NwS a c:=⟨ziv h.1 k.1,ziv h.2 k.2⟩
theorem NwS.ok {a b:State} (h:NwS a b):OkS a:=⟨h.1.ok,h.2.ok⟩
theorem zo6 {s:State} {m:Radio} (h:OkS s) (z:cutE s m=0):NwS (cutS s m) s:=by
 unfold cutE at z
 unfold cutS
 split at z
 ·rename_i k
  rw[if_pos k]
  exact ⟨zot h.1 3 z,zc7 h.2⟩
 ·rename_i k
  rw[if_neg k]
  split at z
  ·rename_i k
   rw[if_pos k]
   unfold zcX at z
   split at z
   ·exact absurd z (by assumption)
   ·split at z
    ·exact absurd z (by assumption)
    ·split at z
     ·exact absurd z (by assumption)
     ·exact ⟨zc7 h.1,zhW h.2 3 (zdc (zdc z).1).1⟩
  ·rename_i k
   rw[if_neg k]
   split at z
   ·rename_i k
    rw[if_pos k]
    exact ⟨zhW h.1 3 (zdc (zdc z).1).1,zc7 h.2⟩
   ·rename_i k
    rw[if_neg k]
    exact ⟨zc7 h.1,zhW h.2 3 (zdc (zdc z).1).1⟩
def zjN (a b:State):Prop:=a.t=b.t∧a.m=b.m
theorem zp9 (s:State) (m:Radio):zjN (cutS s m) s:=by
 unfold cutS
 split
 ·exact ⟨rfl,rfl⟩
 ·split
  ·exact ⟨rfl,rfl⟩
  ·split<;>exact ⟨rfl,rfl⟩
theorem zpr {s a:State} {m:Radio} (h:OkS s) (z:zeg s m=some a):NwS a s∧zjN a s:=by
 unfold zeg at z
 split at z
 ·rename_i k
  cases z
  exact ⟨zo6 h k,zp9 s m⟩
 ·split at z
  ·cases z
  ·cases z
   exact ⟨zhy h,rfl,rfl⟩
def NwO (a b:Option State):Prop:=match a,b with
 |none,_=>True
 |some _,none=>False
 |some x,some y=>NwS x y
theorem zhD {keep:Nat→Bool}:∀ (l:List Radio) (i:Nat) (s a:State),OkS s→zbq keep l i s=some a→NwS a s∧zjN a s
 |[],_,s,a,h,z=>by cases z;exact ⟨zhy h,rfl,rfl⟩
 |m::l,i,s,a,h,z=>by
  unfold zbq at z
  split at z
  ·cases hc:zeg s m with
   |none=>rw[hc] at z;cases z
   |some x=>
    rw[hc] at z
    obtain ⟨n1,n2⟩:=zpr h hc
    obtain ⟨k1,k2⟩:=zhD l (i+1) x a n1.ok z
    exact ⟨ziw k1 n1,k2.1.trans n2.1,k2.2.trans n2.2⟩
  ·exact zhD l (i+1) s a h z
def ze3 (keep:Nat→Bool) (l:List Radio):Nat→State→Option State
 |0,s=>some s
 |n+1,s=>match zbq keep l 0 s with
  |none=>none
  |some x=>ze3 keep l n x
theorem zj5 {keep:Nat→Bool} {l:List Radio} {s:State} (h:zbq keep l 0 s=some s):∀ n,ze3 keep l n s=some s
 |0=>rfl
 |n+1=>by
  unfold ze3
  rw[h]
  exact zj5 h n
theorem zie (keep:Nat→Bool) (l:List Radio):∀ (n:Nat) (used:Int) (s:State),(ze3 keep l n s=none∧zaB keep l n used s=badF 7)∨(∃ k:Nat,ze3 keep l n s=some (zaB keep l n used s).s∧(zaB keep l n used s).e=0∧(zaB keep l n used s).n=used+k∧k≤n)
 |0,used,s=>.inr ⟨0,rfl,rfl,by show used=used+((0:Nat):Int);simp,Nat.le_refl _⟩
 |n+1,used,s=>by
  cases hp:zbq keep l 0 s with
  |none=>exact .inl ⟨by unfold ze3;rw[hp],zeD hp⟩
  |some x=>
   have e1:ze3 keep l (n+1) s=ze3 keep l n x:=by
    show (match zbq keep l 0 s with|none=>none|some x=>ze3 keep l n x)=_
    rw[hp]
   rw[e1]
   by_cases c:x=s
   ·subst c
    rw[zeE hp]
    exact .inr ⟨1,zj5 hp n,rfl,rfl,by omega⟩
   ·rw[zeC hp c]
    rcases zie keep l n (used+1) x with h|⟨k,h1,h2,h3,h4⟩
    ·exact .inl h
    ·exact .inr ⟨k+1,h1,h2,by rw[h3];simp;omega,by omega⟩
theorem zj6 {keep:Nat→Bool} {l:List Radio}:∀ (n:Nat) (s a:State),OkS s→ze3 keep l n s=some a→NwS a s∧zjN a s
 |0,s,a,h,z=>by cases z;exact ⟨zhy h,rfl,rfl⟩
 |n+1,s,a,h,z=>by
  unfold ze3 at z
  cases hp:zbq keep l 0 s with
  |none=>rw[hp] at z;cases z
  |some x=>
   rw[hp] at z
   obtain ⟨n1,n2⟩:=zhD l 0 s x h hp
   obtain ⟨k1,k2⟩:=zj6 n x a n1.ok z
   exact ⟨ziw k1 n1,k2.1.trans n2.1,k2.2.trans n2.2⟩
def zq9 (m:Radio):Prop:=m.okB=true∧m.value.hi≤9223372036854775807
end Go.Proofs.YtdkfkalplmgoeaaGreat
namespace Go.Proofs.YtdkfkalplmgoeaaGreat
open Go.RowKit
set_option maxRecDepth 100000
set_option maxHeartbeats 8000000
def agR (r:Res) (v:Sp):Int:=if r.e=0 then (if r.s.inB v then 1 else if zoM r.s v=0 then 0 else -1) else 0
end Go.Proofs.YtdkfkalplmgoeaaGreat
namespace Go.Proofs.YtdkfkalplmgoeaaGreat
set_option maxRecDepth 100000
def pts (u:V3):Bx:=⟨⟨u.x,u.x⟩,⟨u.y,u.y⟩,⟨u.z,u.z⟩⟩
def NumV (u:V3):Prop:=(-1152921504606846976≤u.x∧u.x≤1152921504606846976)∧(-1152921504606846976≤u.y∧u.y≤1152921504606846976)∧-1152921504606846976≤u.z∧u.z≤1152921504606846976
theorem zqr {u:V3} (h:NumV u):(pts u).okB=true:=by
 unfold NumV at h
 unfold Bx.okB
 rw[zme (by show _≤u.x;omega) (Int.le_refl _),zme (by show _≤u.y;omega) (Int.le_refl _),zme (by show _≤u.z;omega) (Int.le_refl _)]
 rfl
theorem zoO {b:Bx} {u:V3} (h:HasB b u) (k:NumV u):NwB (pts u) b:=by
 have o:=zqr k
 unfold Bx.okB at o
 simp only[Bool.and_eq_true] at o
 exact ⟨⟨o.1.1,h.1⟩,⟨o.1.2,h.2.1⟩,⟨o.2,h.2.2⟩⟩
abbrev oneS:Sp:=⟨4294967296,4294967296⟩
structure About (s t:State) (u v:V3):Prop where
 st:s.t=0
 sm:s.m=oneS
 tt:t=⟨0,pts u,pts v,oneS⟩
 nu:NumV u
 nv:NumV v
 has:HasS s u v
 ok:OkS s
theorem About.nw {s t:State} {u v:V3} (h:About s t u v):NwS t s:=by
 rw[h.tt]
 exact ⟨zoO h.has.1 h.nu,zoO h.has.2 h.nv⟩
def hasB (s t:State):Bool:=(t.p.x.inB s.p.x&&t.v.x.inB s.v.x)&&(t.p.y.inB s.p.y&&t.v.y.inB s.v.y)&&(t.p.z.inB s.p.z&&t.v.z.inB s.v.z)
def zrK (a b:State):Bool:=hasB b a&&decide (a.t=b.t)&&(decide (a.m.lo=b.m.lo)&&decide (a.m.hi=b.m.hi))
def zfF (m:Radio):Int:=m.value.lo % 18446744073709551616/1099511627776
def zpg (t:State) (m:Radio):Bool:=decide ((zcv t m).e=0)&&(decide ((zcv t m).s.hi≤9223372036854775807-zfF m)&&decide (zfF m-9223372036854775807≤(zcv t m).s.lo))
def zqc (t:State) (m:Radio) (i:Nat):Radio:={ m with value:=⟨(zcv t m).s.lo-zfF m/(1+(i:Int)),(zcv t m).s.hi+zfF m⟩ }
def zhn (t:State) (l:List Radio):Nat→List Radio
 |0=>[]
 |k+1=>match l[k]? with
  |none=>zhn t l k
  |some m=>if zpg t m then zhn t l k++[zqc t m k] else zhn t l k
def heardL (t:State) (l:List Radio):List Radio:=zhn t l l.length
structure Heard (t:State) (m:Radio):Prop where
 ok:zq9 m
 zero:(zcv t m).e=0
 read:zcv t m=zpx t m
 ins:Nw (zpx t m).s m.value
end Go.Proofs.YtdkfkalplmgoeaaGreat
namespace Go.Proofs.YtdkfkalplmgoeaaGreat
set_option maxRecDepth 100000
theorem zlR (keep:Nat→Bool) (l:List Radio) (n:Nat) (used:Int) (s:State):((zaB keep l n used s).e=0∧ze3 keep l n s=some (zaB keep l n used s).s)∨((zaB keep l n used s).e=7∧ze3 keep l n s=none):=by
 rcases zie keep l n used s with h|⟨k,h1,h2,h3,h4⟩
 ·exact .inr ⟨by rw[h.2];rfl,h.1⟩
 ·exact .inl ⟨h2,h1⟩
end Go.Proofs.YtdkfkalplmgoeaaGreat
namespace Go.Proofs.YtdkfkalplmgoeaaGreat
set_option maxRecDepth 100000
theorem zd4 {a b:Sp} (ha:a.okB=true) (hb:b.okB=true):(zbb a b).okB=true:=by
 have h1:=zbZ ha
 have h2:=zbZ hb
 have h3:=zqk ⟨ha,Wi.refl a⟩
 have h4:=zqk ⟨hb,Wi.refl b⟩
 refine zme ?_ ?_
 ·show _≤(if b.lo<a.lo then b.lo else a.lo)
  split<;>omega
 ·show (if b.lo<a.lo then b.lo else a.lo)≤(if a.hi<b.hi then b.hi else a.hi)
  split<;>split<;>omega
theorem zeH {b:Bx} (h:b.okB=true):b.x.okB=true∧b.y.okB=true∧b.z.okB=true:=by
 unfold Bx.okB at h
 simp only[Bool.and_eq_true] at h
 exact ⟨h.1.1,h.1.2,h.2⟩
theorem zoI {b:Bx} (h:b.x.okB=true∧b.y.okB=true∧b.z.okB=true):b.okB=true:=by
 unfold Bx.okB
 rw[h.1,h.2.1,h.2.2]
 rfl
theorem znC {a b:State} (h:OkS a) (k:OkS b):OkS (zbh a b):=by
 have h1:=zeH h.1
 have h2:=zeH h.2
 have k1:=zeH k.1
 have k2:=zeH k.2
 exact ⟨zoI ⟨zd4 h1.1 k1.1,zd4 h1.2.1 k1.2.1,zd4 h1.2.2 k1.2.2⟩,zoI ⟨zd4 h2.1 k2.1,zd4 h2.2.1 k2.2.1,zd4 h2.2.2 k2.2.2⟩⟩
def foldJ (F:Nat→ResF) (gs:List Nat) (o:Option State):Option State:=gs.foldl (fun o g=>zeF o (F g)) o
section
variable {s:State} {M:List Radio} {n:Int}
end
def zqq (m:List Radio) (b:Radio) (j:Nat):List Radio:=match (m++[b])[j]? with
 |some a=>((m++[b]).set m.length a).set j b
 |none=>m++[b]
def zjn (L:Nat) (m bad:List Radio):Nat→List Radio
 |0=>m
 |i+1=>match bad[i]? with
  |some b=>zqq (zjn L m bad i) b ((L+3*i) % ((zjn L m bad i).length+1))
  |none=>zjn L m bad i
def zrm (n j k:Nat):Nat:=if k=j then n+1 else j
end Go.Proofs.YtdkfkalplmgoeaaGreat
