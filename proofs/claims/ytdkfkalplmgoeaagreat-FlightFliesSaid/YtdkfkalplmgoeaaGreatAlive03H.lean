/-
  Joined: FlyLaw, JointW, Height, EqBox, Alive03.
-/
import Derived.Test.YtdkfkalplmgoeaaGreatFolds2H
import Derived.Test.YtdkfkalplmgoeaaGreatLookCH
import Derived.Test.YtdkfkalplmgoeaaGreatLookAllH
import Derived.Test.YtdkfkalplmgoeaaGreatArcWordsH
import Derived.Test.YtdkfkalplmgoeaaGreatJointH
import Derived.Test.YtdkfkalplmgoeaaGreatFlightOksH
import Derived.Test.YtdkfkalplmgoeaaGreatProg
import Derived.Test.YtdkfkalplmgoeaaGreatCoreH
import Derived.ChangeKeysEq
namespace Go.Proofs.YtdkfkalplmgoeaaGreat
set_option maxRecDepth 100000
def Has1 (a:Sp) (n:Int):Prop:=a.lo≤n∧n≤a.hi
def Has2 (a:Sp) (n:Int):Prop:=a.lo*4294967296≤n∧n≤a.hi*4294967296
theorem zpH (x d:Int) (hd:0<d):zbl x d*d≤x:=Int.ediv_mul_le x (by omega)
theorem zuD (x d:Int) (hd:0<d):x≤upZ x d*d:=by
 unfold upZ
 have:=Int.ediv_mul_le (-x) (show d≠0 by omega)
 rw[Int.neg_mul]
 omega
def Nw (a b:Sp):Prop:=a.okB=true∧Wi a b
theorem zt6 {a:Sp} (h:-9223372036854775807≤a.lo) (k:a.lo≤a.hi):a.okB=true:=by
 unfold Sp.okB numB
 simp only[Bool.and_eq_true,decide_eq_true_eq]
 omega
def Mo (r r':Res):Prop:=r'.e=0→r.e=0∧Nw r.s r'.s
theorem zlC {x y x' y':Int} (h:x'≤x) (k:y≤y') (l:x≤y):Mo (fitR x y) (fitR x' y'):=fun z=>by
 obtain ⟨e,h1,h2⟩:=zeH z
 have:fitR x y=⟨⟨x,y⟩,0⟩:=by
  unfold fitR zdX
  rw[if_pos (by simp;omega)]
 rw[this,e]
 exact ⟨rfl,zt6 (by show _≤x;omega) l,h,k⟩
theorem zmF {a b:Sp} (h:Nw a b):a.lo≤a.hi:=zgN h.1
theorem zpt {a a' b b':Sp} (ha:Nw a a') (hb:Nw b b'):Mo (addR a b) (addR a' b'):=fun z=>by
 have e':addR a' b'=fitR (a'.lo+b'.lo) (a'.hi+b'.hi):=by
  obtain ⟨k1,k2,-⟩:=add_zero z
  unfold addR
  rw[k1,k2]
  rfl
 have e:addR a b=fitR (a.lo+b.lo) (a.hi+b.hi):=by unfold addR;rw[ha.1,hb.1];rfl
 rw[e'] at z ⊢
 rw[e]
 have h1:=zmF ha
 have h2:=zmF hb
 obtain ⟨-,ha⟩:=ha
 obtain ⟨-,hb⟩:=hb
 unfold Wi at ha hb
 exact zlC (by omega) (by omega) (by omega) z
theorem zt3 {a a':Sp} (h:Nw a a') (hi:a.hi≤9223372036854775807):Nw (negS a) (negS a'):=by
 have:=zmF h
 exact ⟨zt6 (by unfold negS;simp only;omega) (by unfold negS;simp only;omega),zt4 h.2⟩
theorem zt9 {a:Sp} (h:(negS a).okB=true):a.hi≤9223372036854775807:=by
 unfold negS Sp.okB numB at h
 simp only[Bool.and_eq_true,decide_eq_true_eq] at h
 omega
theorem zqD {a a' b b':Sp} (ha:Nw a a') (hb:Nw b b'):Mo (subR a b) (subR a' b'):=fun z=>by
 have e:=zhs z
 rw[e.1] at z ⊢
 have k:=(add_zero z).2.1
 have hm:b.hi≤9223372036854775807:=by
  have:=zt9 k
  have:=hb.2.2
  omega
 have e2:subR a b=addR a (negS b):=by unfold subR;rw[hb.1];rfl
 rw[e2]
 exact zpt ha (zt3 hb hm) z
theorem zp4 {a a' b b':Sp} (ha:Nw a a') (hb:Nw b b'):Mo (mulR a b) (mulR a' b'):=fun z=>by
 obtain ⟨k1,k2,-⟩:=mul_zero z
 have e':mulR a' b'=fitR (zbl (min4 (a'.lo*b'.lo) (a'.lo*b'.hi) (a'.hi*b'.lo) (a'.hi*b'.hi)) 4294967296) (upZ (max4 (a'.lo*b'.lo) (a'.lo*b'.hi) (a'.hi*b'.lo) (a'.hi*b'.hi)) 4294967296):=by
  unfold mulR
  rw[k1,k2]
  rfl
 have e:mulR a b=fitR (zbl (min4 (a.lo*b.lo) (a.lo*b.hi) (a.hi*b.lo) (a.hi*b.hi)) 4294967296) (upZ (max4 (a.lo*b.lo) (a.lo*b.hi) (a.hi*b.lo) (a.hi*b.hi)) 4294967296):=by
  unfold mulR
  rw[ha.1,hb.1]
  rfl
 rw[e'] at z ⊢
 rw[e]
 have la:=zmF ha
 have lb:=zmF hb
 obtain ⟨-,ha⟩:=ha
 obtain ⟨-,hb⟩:=hb
 unfold Wi at ha hb
 have c1:=zjH (a:=a'.lo) (b:=a'.hi) (c:=b'.lo) (d:=b'.hi) (x:=a.lo) (y:=b.lo) ha.1 (by omega) hb.1 (by omega)
 have c2:=zjH (a:=a'.lo) (b:=a'.hi) (c:=b'.lo) (d:=b'.hi) (x:=a.lo) (y:=b.hi) ha.1 (by omega) (show b'.lo≤b.hi by omega) hb.2
 have c3:=zjH (a:=a'.lo) (b:=a'.hi) (c:=b'.lo) (d:=b'.hi) (x:=a.hi) (y:=b.lo) (show a'.lo≤a.hi by omega) ha.2 hb.1 (by omega)
 have c4:=zjH (a:=a'.lo) (b:=a'.hi) (c:=b'.lo) (d:=b'.hi) (x:=a.hi) (y:=b.hi) (show a'.lo≤a.hi by omega) ha.2 (show b'.lo≤b.hi by omega) hb.2
 refine zlC (zjJ _ (by decide) (znV c1.1 c2.1 c3.1 c4.1)) (zpg _ (by decide) (zob c1.2 c2.2 c3.2 c4.2)) ?_ z
 have m1:=zhM (a.lo*b.lo) (a.lo*b.hi) (a.hi*b.lo) (a.hi*b.hi)
 have m2:=zhJ (a.lo*b.lo) (a.lo*b.hi) (a.hi*b.lo) (a.hi*b.hi)
 have h1:=zjJ 4294967296 (by decide) (show min4 (a.lo*b.lo) (a.lo*b.hi) (a.hi*b.lo) (a.hi*b.hi)≤max4 (a.lo*b.lo) (a.lo*b.hi) (a.hi*b.lo) (a.hi*b.hi) by omega)
 have h2:=zfz (max4 (a.lo*b.lo) (a.lo*b.hi) (a.hi*b.lo) (a.hi*b.hi)) 4294967296 (by decide)
 exact Int.le_trans h1 h2
def NwB (b c:Bx):Prop:=Nw b.x c.x∧Nw b.y c.y∧Nw b.z c.z
theorem NwB.ok {b c:Bx} (h:NwB b c):b.okB=true:=by
 unfold Bx.okB
 rw[h.1.1,h.2.1.1,h.2.2.1]
 rfl
theorem zp7 {b:Bx} (h:b.okB=true):NwB b b:=by
 unfold Bx.okB at h
 simp only[Bool.and_eq_true] at h
 exact ⟨⟨h.1.1,Wi.refl _⟩,⟨h.1.2,Wi.refl _⟩,⟨h.2,Wi.refl _⟩⟩
end Go.Proofs.YtdkfkalplmgoeaaGreat
namespace Go.Proofs.YtdkfkalplmgoeaaGreat
set_option maxRecDepth 100000
theorem zdj {e:Int} {r:Res} (h:(doR e r).e=0):e=0∧r.e=0:=by
 unfold doR at h
 split at h
 ·rename_i k
  exact ⟨k,h⟩
 ·rename_i k
  exact absurd h k
def BMo (o o':BRes):Prop:=o'.e=0→o.e=0∧NwB o.b o'.b
theorem zhO {a:Sp} (h:a.okB=true):Nw a a:=⟨h,Wi.refl _⟩
structure PlOk (p:Planet):Prop where
 mu:p.mu.okB=true
 radius:p.radius.okB=true
 oblate:p.oblate.okB=true
 spin:p.spin.okB=true
 pull:NwB p.pull p.pull
theorem PlOk.of {p:Planet} (h:p.okB=true):PlOk p:=by
 unfold Planet.okB at h
 simp only[Bool.and_eq_true] at h
 exact ⟨h.1.1.2.1.1.1,h.1.1.2.1.1.2,h.1.1.2.1.2,h.1.1.2.2,zp7 h.1.1.1⟩
structure ArOk (x:Arc):Prop where
 thrust:x.thrust.okB=true
 dir:NwB x.dir x.dir
end Go.Proofs.YtdkfkalplmgoeaaGreat
namespace Go.Proofs.YtdkfkalplmgoeaaGreat
set_option maxRecDepth 100000
section
variable {l:List Pt} (ht:zaY l=true)
include ht
omit ht in
end
end Go.Proofs.YtdkfkalplmgoeaaGreat
namespace Go.Proofs.YtdkfkalplmgoeaaGreat
set_option maxRecDepth 100000
def Hs (d:Int) (a:Sp) (x:Int):Prop:=a.lo*d≤x∧x≤a.hi*d
theorem ztJ {a:Sp} {x:Int} (h:a.lo≤x) (k:x≤a.hi):Hs 1 a x:=by unfold Hs;omega
theorem ztH {d:Int} {a b:Sp} {x y:Int} (h:Hs d a x) (k:Hs d b y) (z:(addR a b).e=0):Hs d (addR a b).s (x+y):=by
 rw[(add_zero z).2.2]
 unfold Hs at *
 simp only[Int.add_mul]
 omega
theorem zp5 (a b c d:Int):a*b*(c*d)=a*c*(b*d):=by
 rw[Int.mul_assoc,Int.mul_assoc,←Int.mul_assoc b,←Int.mul_assoc c,Int.mul_comm b c]
theorem ztI {c d:Int} {a b:Sp} {x y:Int} (hc:0<c) (hd:0<d) (h:Hs c a x) (k:Hs d b y) (z:(mulR a b).e=0):Hs (c*d*4294967296) (mulR a b).s (x*y):=by
 obtain ⟨-,-,e⟩:=mul_zero z
 rw[e]
 have hcd:0≤c*d:=Int.le_of_lt (Int.mul_pos hc hd)
 obtain ⟨c1,c2⟩:=zjH h.1 h.2 k.1 k.2
 have m:=zhM (a.lo*b.lo) (a.lo*b.hi) (a.hi*b.lo) (a.hi*b.hi)
 have n:=zhJ (a.lo*b.lo) (a.lo*b.hi) (a.hi*b.lo) (a.hi*b.hi)
 have d1:=zpH (min4 (a.lo*b.lo) (a.lo*b.hi) (a.hi*b.lo) (a.hi*b.hi)) 4294967296 (by decide)
 have d2:=zuD (max4 (a.lo*b.lo) (a.lo*b.hi) (a.hi*b.lo) (a.hi*b.hi)) 4294967296 (by decide)
 have dn:∀ {u v:Int},u≤v→u*(c*d)≤v*(c*d):=fun h=>Int.mul_le_mul_of_nonneg_right h hcd
 have e1:∀ u v:Int,u*v*(c*d)=u*c*(v*d):=fun u v=>zp5 u v c d
 constructor
 ·show zbl _ _*(c*d*4294967296)≤x*y
  rw[Int.mul_comm (c*d),←Int.mul_assoc]
  refine Int.le_trans (dn d1) (Int.le_trans (znV ?_ ?_ ?_ ?_) c1)
  ·rw[←e1];exact dn m.1
  ·rw[←e1];exact dn m.2.1
  ·rw[←e1];exact dn m.2.2.1
  ·rw[←e1];exact dn m.2.2.2
 ·show x*y≤upZ _ _*(c*d*4294967296)
  rw[Int.mul_comm (c*d),←Int.mul_assoc]
  refine Int.le_trans c2 (Int.le_trans (zob ?_ ?_ ?_ ?_) (dn d2))
  ·rw[←e1];exact dn n.1
  ·rw[←e1];exact dn n.2.1
  ·rw[←e1];exact dn n.2.2.1
  ·rw[←e1];exact dn n.2.2.2
theorem NwB.at {b c:Bx} (h:NwB b c) (i:Nat):Nw (b.at i) (c.at i):=by
 match i with
 |0=>exact h.1
 |1=>exact h.2.1
 |n+2=>exact h.2.2
structure Reach (P D v T:Sp):Prop where
 m:(mulR D v).e=0
 a:(addR P (mulR D v).s).e=0
 is:T=(addR P (mulR D v).s).s
structure Comp (h:Int) (K P V TP TV BP BV FB FT NP NV:Sp):Prop where
 rp:Reach P (stD h) BV TP
 rv:Reach V (stD h) FB TV
 ip:Nw TP BP
 iv:Nw TV BV
 ff:Nw FT FB
 kk:Hs 8589934592 K (h*h)
 l1:(mulR ⟨h,h⟩ V).e=0
 l2:(addR P (mulR ⟨h,h⟩ V).s).e=0
 l3:(mulR K FT).e=0
 l4:(addR (addR P (mulR ⟨h,h⟩ V).s).s (mulR K FT).s).e=0
 np:NP=(addR (addR P (mulR ⟨h,h⟩ V).s).s (mulR K FT).s).s
 l5:(mulR ⟨h,h⟩ FT).e=0
 l6:(addR V (mulR ⟨h,h⟩ FT).s).e=0
 nv:NV=(addR V (mulR ⟨h,h⟩ FT).s).s
section
variable {h:Int} {K P V TP TV BP BV FB FT NP NV:Sp} (H:Comp h K P V TP TV BP BV FB FT NP NV)
include H
theorem Comp.start {d x:Int} (_hd:0<d) (k:Hs d P x):Hs d TP x:=by
 rw[H.rp.is]
 have h0:Hs 1 (stD h) 0:=by unfold stD Hs imin imax;simp only;constructor<;>(split<;>omega)
 have b:(mulR (stD h) BV).s.lo*d≤0∧0≤(mulR (stD h) BV).s.hi*d:=by
  have lb:=zmF ⟨(mul_zero H.rp.m).2.1,Wi.refl BV⟩
  have:=ztI (by omega) (by omega) h0 (ztJ (Int.le_refl BV.lo) lb) H.rp.m
  unfold Hs at this
  rw[Int.zero_mul] at this
  exact ⟨Int.mul_nonpos_of_nonpos_of_nonneg (by omega) (by omega),Int.mul_nonneg (by omega) (by omega)⟩
 have:=ztH k (y:=0) b H.rp.a
 rwa [Int.add_zero] at this
omit H in
omit H in
end
end Go.Proofs.YtdkfkalplmgoeaaGreat
namespace Go.Proofs.YtdkfkalplmgoeaaGreat
set_option maxRecDepth 100000
theorem zkS {g k o v f:Sp} {e:Int} (z:(lpG g k o v f e).e=0):e=0∧(mulR g v).e=0∧(addR o (mulR g v).s).e=0∧(mulR k f).e=0∧(addR (addR o (mulR g v).s).s (mulR k f).s).e=0∧(mulR g f).e=0∧(addR v (mulR g f).s).e=0∧
 (lpD g k o v f e).s=(addR (addR o (mulR g v).s).s (mulR k f).s).s∧(lpG g k o v f e).s=(addR v (mulR g f).s).s:=by
 obtain ⟨z1,y6⟩:=zdj (show (doR (lpE g k o v f e).e _).e=0 from z)
 obtain ⟨z2,y5⟩:=zdj (show (doR (lpD g k o v f e).e _).e=0 from z1)
 obtain ⟨z3,y4⟩:=zdj (show (doR (lpC g k o v f e).e _).e=0 from z2)
 obtain ⟨z4,y3⟩:=zdj (show (doR (lpB g o v e).e _).e=0 from z3)
 obtain ⟨z5,y2⟩:=zdj (show (doR (lpA g v e).e _).e=0 from z4)
 obtain ⟨z6,y1⟩:=zdj (show (doR e _).e=0 from z5)
 have a1:lpA g v e=mulR g v:=by unfold lpA;rw[z6];rfl
 rw[a1] at y2
 have a2:lpB g o v e=addR o (mulR g v).s:=by unfold lpB;rw[a1,y1];rfl
 have a3:lpC g k o v f e=mulR k f:=by unfold lpC;rw[a2,y2];rfl
 rw[a2,a3] at y4
 have a4:lpD g k o v f e=addR (addR o (mulR g v).s).s (mulR k f).s:=by unfold lpD;rw[a3,y3,a2];rfl
 have a5:lpE g k o v f e=mulR g f:=by unfold lpE;rw[a4,y4];rfl
 rw[a5] at y6
 have a6:lpG g k o v f e=addR v (mulR g f).s:=by unfold lpG;rw[a5,y5];rfl
 exact ⟨z6,y1,y2,y3,y4,y5,y6,by rw[a4],by rw[a6]⟩
theorem ztK {a b:Sp} (h:a.inB b=true):Nw a b:=by
 unfold Sp.inB at h
 simp only[Bool.and_eq_true,decide_eq_true_eq] at h
 exact ⟨h.1.1.1,h.1.2,h.2⟩
structure Hop (p:Planet) (x:Arc) (l:List Pt) (s:State) (h:Int) (n:State) (T:Tube) (Q V:Bx) (K:Sp):Prop where
 nt:n.t=s.t+h
 nn:zdX n.t=true
 ta:T.a=imin s.t n.t
 tz:T.z=imax s.t n.t
 m1:(mulR x.flow (stD h)).e=0
 m2:(subR s.m (mulR x.flow (stD h)).s).e=0
 mT:T.m=(subR s.m (mulR x.flow (stD h)).s).s
 mp:0<T.m.lo
 n1:(mulR ⟨h,h⟩ x.flow).e=0
 n2:(subR s.m (mulR ⟨h,h⟩ x.flow).s).e=0
 nm:n.m=(subR s.m (mulR ⟨h,h⟩ x.flow).s).s
 iq:NwB T.p Q
 iv:NwB T.v V
 fb:(zaD p x l Q V T.m 0).e=0
 ft:(zaD p x l T.p T.v T.m 0).e=0
 hh:(mulR ⟨h,h⟩ ⟨h,h⟩).e=0
 comp:∀ i,Comp h K (s.p.at i) (s.v.at i) (T.p.at i) (T.v.at i) (Q.at i) (V.at i) ((zaD p x l Q V T.m 0).b.at i) ((zaD p x l T.p T.v T.m 0).b.at i) (n.p.at i) (n.v.at i)
end Go.Proofs.YtdkfkalplmgoeaaGreat
namespace Go.Proofs.YtdkfkalplmgoeaaGreat
set_option maxRecDepth 100000
section
variable {p:Planet} {x:Arc} {l:List Pt} {s:State} {h:Int} {n:State} {T:Tube} {Q V:Bx} {K:Sp} (H:Hop p x l s h n T Q V K)
include H
theorem Hop.okT (i:Nat):(T.p.at i).okB=true∧(T.v.at i).okB=true:=⟨(H.iq.at i).1,(H.iv.at i).1⟩
end
end Go.Proofs.YtdkfkalplmgoeaaGreat
namespace Go.Proofs.YtdkfkalplmgoeaaGreat
set_option maxRecDepth 100000
section
variable {p:Planet} {x:Arc} {l:List Pt} {s:State} {h h1 h2:Int} {n n1 n2:State} {T T1 T2:Tube} {Q V Q1 V1 Q2 V2:Bx} {K K1 K2:Sp} (hp:PlOk p) (hx:ArOk x)
 (H:Hop p x l s h n T Q V K) (H1:Hop p x l s h1 n1 T1 Q1 V1 K1) (H2:Hop p x l n1 h2 n2 T2 Q2 V2 K2) (hs:h1+h2=h) (hd:(0≤h1∧0≤h2)∨(h1≤0∧h2≤0))
include hp hx H H1
include H2 hs hd
end
end Go.Proofs.YtdkfkalplmgoeaaGreat
namespace Go.Proofs.YtdkfkalplmgoeaaGreat
set_option maxRecDepth 100000
theorem ArOk.of {x:Arc} {l:List Pt} (h:x.okB l=true):ArOk x:=by
 unfold Arc.okB dirB zgG at h
 simp only[Bool.and_eq_true,List.all_cons,Sp.leastB] at h
 have k:∀ {a b:Sp},a.inB b=true→a.okB=true:=fun h=>(ztK h).1
 exact ⟨h.1.1.1.2.1.1,⟨zhO (k h.1.1.1.1.1.1),zhO (k h.1.1.1.1.1.2),zhO (k h.1.1.1.1.2)⟩⟩
theorem zjX (a b:Sp):mulR a b=mulR b a:=by
 unfold mulR
 rw[Bool.and_comm]
 have e:∀ x y z w:Int,min4 x y z w=min4 x z y w∧max4 x y z w=max4 x z y w:=fun x y z w=>by
  unfold min4 max4 imin imax
  constructor<;>((repeat' split)<;>omega)
 rw[(e (a.lo*b.lo) _ _ _).1,(e (a.lo*b.lo) _ _ _).2,Int.mul_comm a.lo b.lo,Int.mul_comm a.hi b.lo,Int.mul_comm a.lo b.hi,Int.mul_comm a.hi b.hi]
theorem i64c {n:Int} (h:decide (-9223372036854775808≤n∧n≤9223372036854775807)=true):I64 n:=by
 unfold I64
 exact of_decide_eq_true h
theorem zra:St64 zaL:=⟨i64c rfl,⟨⟨i64c rfl,i64c rfl⟩,⟨i64c rfl,i64c rfl⟩,⟨i64c rfl,i64c rfl⟩⟩,⟨⟨i64c rfl,i64c rfl⟩,⟨i64c rfl,i64c rfl⟩,⟨i64c rfl,i64c rfl⟩⟩,⟨i64c rfl,i64c rfl⟩⟩
theorem zjp (e:Int):St64 (zeB e).s:=zra
theorem zh4 (p:Planet) (x:Arc) (l:List Pt) (s:State) (h:Int):St64 (zaO p x l s h).s:=by
 unfold zaO zcV
 split
 ·unfold zeb
  split
  ·refine ⟨?_,⟨zam _ _,zam _ _,zam _ _⟩,⟨zam _ _,zam _ _,zam _ _⟩,zam _ _⟩
   have:S64 (stF s h).s:=zam _ _
   exact this.lo
  ·exact zjp _
 ·exact zjp _
instance zvR (p:Planet) (x:Arc) (l:List Pt) (s:State) (h:Int):St64 (zbW p x l s h).s:=by
 unfold zbW
 split
 ·exact zh4 p x l s h
 ·exact zjp _
end Go.Proofs.YtdkfkalplmgoeaaGreat
namespace Go.Proofs.YtdkfkalplmgoeaaGreat
set_option maxRecDepth 100000
def zcU (a:Arc):Int:=a.time % a.step
def zcv (a:Arc):Nat:=(a.time/a.step).toNat
def zaZ (a:Arc):List Int:=List.replicate (zcv a) a.step++(if 0<zcU a then [zcU a] else [])
def zc1 (a:Arc):List Int:=(if 0<zcU a then [-zcU a] else [])++List.replicate (zcv a) (-a.step)
def zb3 (a:Arc) (back:Bool):List Int:=if back then zc1 a else zaZ a
theorem zpV (a:Arc) (back:Bool) (h1:1≤a.time) (h2:1≤a.step):((zb3 a back).length:Int)=zdW a:=by
 have e:=ziL a.time a.step h2
 have q0:0≤a.time/a.step:=Int.ediv_nonneg (by omega) (by omega)
 have n1:=Int.emod_nonneg a.time (show a.step≠0 by omega)
 unfold zb3 zaZ zc1 zcU zcv zdW
 rw[e]
 by_cases h:a.time % a.step=0
 ·have h0:¬ (0<a.time % a.step):=by omega
  rw[if_pos h]
  simp only[if_neg h0]
  cases back
  ·simp
   omega
  ·simp
   omega
 ·have h0:0<a.time % a.step:=by omega
  rw[if_neg h]
  simp only[if_pos h0]
  cases back
  ·simp
   omega
  ·simp
   omega
end Go.Proofs.YtdkfkalplmgoeaaGreat
namespace Go.Proofs.YtdkfkalplmgoeaaGreat
set_option maxRecDepth 100000
structure AlRes where
 s:State
 T:List Tube
 e:Int
def zan (p:Planet) (a:Arc) (l:List Pt):State→List Tube→List Int→AlRes
 |s,T,[]=>⟨s,T,0⟩
 |s,T,h::r=>if (zaO p a l s h).e=0 then zan p a l (zaO p a l s h).s (T++[(zaO p a l s h).t]) r else ⟨zaL,[],(zaO p a l s h).e⟩
theorem zbz (p:Planet) (a:Arc) (l:List Pt) (s:State) (T:List Tube) (h:Int) (r:List Int):zan p a l s T (h::r)=if (zaO p a l s h).e=0 then zan p a l (zaO p a l s h).s (T++[(zaO p a l s h).t]) r else ⟨zaL,[],(zaO p a l s h).e⟩:=rfl
theorem znh (p:Planet) (a:Arc) (l:List Pt) (s:State) (T:List Tube):zan p a l s T []=⟨s,T,0⟩:=rfl
theorem zf1 (p:Planet) (a:Arc) (l:List Pt) (s:State) (T:List Tube) (r t:List Int) (h:(zan p a l s T r).e≠0):zan p a l s T (r++t)=zan p a l s T r:=by
 induction r generalizing s T with
 |nil=>exact absurd rfl h
 |cons x r ih=>
  rw[List.cons_append,zbz,zbz]
  rw[zbz] at h
  split
  ·rename_i k
   rw[if_pos k] at h
   exact ih _ _ h
  ·rfl
theorem zjz (p:Planet) (a:Arc) (l:List Pt) (s:State) (T:List Tube) (r t:List Int) (h:(zan p a l s T r).e=0):zan p a l s T (r++t)=zan p a l (zan p a l s T r).s (zan p a l s T r).T t:=by
 induction r generalizing s T with
 |nil=>rfl
 |cons x r ih=>
  rw[List.cons_append,zbz,zbz]
  rw[zbz] at h
  split
  ·rename_i k
   rw[if_pos k] at h
   exact ih _ _ h
  ·rename_i k
   rw[if_neg k] at h
   exact absurd h k
theorem zhw (p:Planet) (a:Arc) (l:List Pt) (s:State) (T:List Tube) (r:List Int) (h:(zan p a l s T r).e=0):(zan p a l s T r).T.length=T.length+r.length:=by
 induction r generalizing s T with
 |nil=>rfl
 |cons x r ih=>
  rw[zbz] at h ⊢
  split
  ·rename_i k
   rw[if_pos k] at h
   rw[ih _ _ h]
   simp
   omega
  ·rename_i k
   rw[if_neg k] at h
   exact absurd h k
instance zts (p:Planet) (a:Arc) (l:List Pt) (s:State) (T:List Tube) (r:List Int) [hs:St64 s]:St64 (zan p a l s T r).s:=by
 induction r generalizing s T with
 |nil=>exact hs
 |cons x r ih=>
  rw[zbz]
  split
  ·have:St64 (zaO p a l s x).s:=zh4 p a l s x
   exact ih _ _
  ·exact zra
structure FlyRes where
 stops:List State
 tubes:List Tube
 e:Int
def zbS (e:Int):FlyRes:=⟨[],[],e⟩
def zeo (m:Sp) (x:Arc):Res:=if (subR m x.drop).e=0∧(subR m x.drop).s.lo≤0 then ⟨(subR m x.drop).s,4⟩ else subR m x.drop
def State.mass (s:State) (m:Sp):State:=⟨s.t,s.p,s.v,m⟩
def zgb (p:Planet):State→List State→List Tube→Arcs→FlyRes
 |_,S,T,[]=>⟨S,T,0⟩
 |s,S,T,x::r=>
  if (zan p x.1 x.2 s T (zaZ x.1)).e=0 then
   (if (zeo (zan p x.1 x.2 s T (zaZ x.1)).s.m x.1).e=0 then
     zgb p ((zan p x.1 x.2 s T (zaZ x.1)).s.mass (zeo (zan p x.1 x.2 s T (zaZ x.1)).s.m x.1).s) (S++[(zan p x.1 x.2 s T (zaZ x.1)).s.mass (zeo (zan p x.1 x.2 s T (zaZ x.1)).s.m x.1).s]) (zan p x.1 x.2 s T (zaZ x.1)).T r
   else zbS (zeo (zan p x.1 x.2 s T (zaZ x.1)).s.m x.1).e)
  else zbS (zan p x.1 x.2 s T (zaZ x.1)).e
def za4 (p:Planet) (L:Arcs) (s:State):Int:=if p.okB&&s.okB then zcN L else 2
def flyR (p:Planet) (L:Arcs) (s:State):FlyRes:=if za4 p L s=0 then zgb p s [] [] L else zbS (za4 p L s)
def ze6 (p:Planet):State→List State→List Tube→Arcs→FlyRes
 |_,S,T,[]=>⟨S,T,0⟩
 |s,S,T,x::r=>
  if (addR s.m x.1.drop).e=0 then
   (if (zan p x.1 x.2 (s.mass (addR s.m x.1.drop).s) T (zc1 x.1)).e=0 then
     ze6 p (zan p x.1 x.2 (s.mass (addR s.m x.1.drop).s) T (zc1 x.1)).s (S++[(zan p x.1 x.2 (s.mass (addR s.m x.1.drop).s) T (zc1 x.1)).s]) (zan p x.1 x.2 (s.mass (addR s.m x.1.drop).s) T (zc1 x.1)).T r
   else zbS (zan p x.1 x.2 (s.mass (addR s.m x.1.drop).s) T (zc1 x.1)).e)
  else zbS (addR s.m x.1.drop).e
def zd8 (p:Planet) (L:Arcs) (s:State):FlyRes:=if za4 p L s=0 then ze6 p s [] [] L.reverse else zbS (za4 p L s)
end Go.Proofs.YtdkfkalplmgoeaaGreat
namespace Go.Proofs.YtdkfkalplmgoeaaGreat
open Go.RowKit Go.Shelf
set_option maxRecDepth 100000
set_option maxHeartbeats 8000000
end Go.Proofs.YtdkfkalplmgoeaaGreat
namespace Go.Proofs.YtdkfkalplmgoeaaGreat
open Go.RowKit Go.Shelf
set_option maxRecDepth 100000
set_option maxHeartbeats 8000000
end Go.Proofs.YtdkfkalplmgoeaaGreat
namespace Go.Proofs.YtdkfkalplmgoeaaGreat
open Go.RowKit Go.Shelf
set_option maxRecDepth 100000
set_option maxHeartbeats 4000000
def zrO (p:Planet) (b:Bx):Res:=doR (zbA b.list).e (subR (zbA b.list).s p.radius)
def zvD (p:Planet) (b:Bx):Res:=if p.okB&&b.okB then zrO p b else errR 2
end Go.Proofs.YtdkfkalplmgoeaaGreat
namespace Go.Proofs.YtdkfkalplmgoeaaGreat
open Go.RowKit
set_option maxRecDepth 100000
theorem zqB:(Tryz.prog.info? 24).isSome=true:=by kernel_rfl
theorem ztB (x0 x1 x2 x3 x4 x5:Int) (w:World) :
 (Op.equalIn 9999 26 (.agg #[.int .i64 x0,.int .i64 x1,.int .i64 x2,.int .i64 x3,.int .i64 x4,.int .i64 x5]) (.agg #[.int .i64 x0,.int .i64 x1,.int .i64 x2,.int .i64 x3,.int .i64 x4,.int .i64 x5])).run Tryz.prog w=.ok true w:=by
 obtain ⟨i,hi⟩:=Option.isSome_iff_exists.1 zqB
 rw[run_equalIn_array w 9998 _ _ Tryz.underlying26 hi]
 have hC:Tryz.prog.cellsOf 24=2:=by kernel_rfl
 rw[hC]
 have hr:List.range 3=[0,1,2]:=rfl
 rw[hr]
 simp[go_sem,Op.eqItems]
end Go.Proofs.YtdkfkalplmgoeaaGreat
namespace Go.Proofs.YtdkfkalplmgoeaaGreat
open Go.RowKit
@[go_sem] theorem stGet0 (s:State):s.cells[0]?=some (.int .i64 s.t):=rfl
@[go_sem] theorem stGet1 (s:State):s.cells[1]?=some (.int .i64 s.p.x.lo):=rfl
@[go_sem] theorem stGet2 (s:State):s.cells[2]?=some (.int .i64 s.p.x.hi):=rfl
@[go_sem] theorem stGet3 (s:State):s.cells[3]?=some (.int .i64 s.p.y.lo):=rfl
@[go_sem] theorem stGet4 (s:State):s.cells[4]?=some (.int .i64 s.p.y.hi):=rfl
@[go_sem] theorem stGet5 (s:State):s.cells[5]?=some (.int .i64 s.p.z.lo):=rfl
@[go_sem] theorem stGet6 (s:State):s.cells[6]?=some (.int .i64 s.p.z.hi):=rfl
@[go_sem] theorem stGet7 (s:State):s.cells[7]?=some (.int .i64 s.v.x.lo):=rfl
@[go_sem] theorem stGet8 (s:State):s.cells[8]?=some (.int .i64 s.v.x.hi):=rfl
@[go_sem] theorem stGet9 (s:State):s.cells[9]?=some (.int .i64 s.v.y.lo):=rfl
@[go_sem] theorem zvS (s:State):s.cells[10]?=some (.int .i64 s.v.y.hi):=rfl
@[go_sem] theorem zvT (s:State):s.cells[11]?=some (.int .i64 s.v.z.lo):=rfl
@[go_sem] theorem zvU (s:State):s.cells[12]?=some (.int .i64 s.v.z.hi):=rfl
@[go_sem] theorem zvV (s:State):s.cells[13]?=some (.int .i64 s.m.lo):=rfl
@[go_sem] theorem zvW (s:State):s.cells[14]?=some (.int .i64 s.m.hi):=rfl
@[go_sem] theorem tbGet0 (s:Tube):s.cells[0]?=some (.int .i64 s.a):=rfl
@[go_sem] theorem tbGet1 (s:Tube):s.cells[1]?=some (.int .i64 s.z):=rfl
@[go_sem] theorem tbGet2 (s:Tube):s.cells[2]?=some (.int .i64 s.p.x.lo):=rfl
@[go_sem] theorem tbGet3 (s:Tube):s.cells[3]?=some (.int .i64 s.p.x.hi):=rfl
@[go_sem] theorem tbGet4 (s:Tube):s.cells[4]?=some (.int .i64 s.p.y.lo):=rfl
@[go_sem] theorem tbGet5 (s:Tube):s.cells[5]?=some (.int .i64 s.p.y.hi):=rfl
@[go_sem] theorem tbGet6 (s:Tube):s.cells[6]?=some (.int .i64 s.p.z.lo):=rfl
@[go_sem] theorem tbGet7 (s:Tube):s.cells[7]?=some (.int .i64 s.p.z.hi):=rfl
@[go_sem] theorem tbGet8 (s:Tube):s.cells[8]?=some (.int .i64 s.v.x.lo):=rfl
@[go_sem] theorem tbGet9 (s:Tube):s.cells[9]?=some (.int .i64 s.v.x.hi):=rfl
@[go_sem] theorem zvZ (s:Tube):s.cells[10]?=some (.int .i64 s.v.y.lo):=rfl
@[go_sem] theorem zv0 (s:Tube):s.cells[11]?=some (.int .i64 s.v.y.hi):=rfl
@[go_sem] theorem zv1 (s:Tube):s.cells[12]?=some (.int .i64 s.v.z.lo):=rfl
@[go_sem] theorem zv2 (s:Tube):s.cells[13]?=some (.int .i64 s.v.z.hi):=rfl
@[go_sem] theorem zv3 (s:Tube):s.cells[14]?=some (.int .i64 s.m.lo):=rfl
@[go_sem] theorem zv4 (s:Tube):s.cells[15]?=some (.int .i64 s.m.hi):=rfl
@[go_sem] theorem arGet0 (s:Arc):s.cells[0]?=some (.int .i64 s.time):=rfl
@[go_sem] theorem arGet1 (s:Arc):s.cells[1]?=some (.int .i64 s.step):=rfl
@[go_sem] theorem arGet2 (s:Arc):s.cells[2]?=some (.int .i64 s.thrust.lo):=rfl
@[go_sem] theorem arGet3 (s:Arc):s.cells[3]?=some (.int .i64 s.thrust.hi):=rfl
@[go_sem] theorem arGet4 (s:Arc):s.cells[4]?=some (.int .i64 s.flow.lo):=rfl
@[go_sem] theorem arGet5 (s:Arc):s.cells[5]?=some (.int .i64 s.flow.hi):=rfl
@[go_sem] theorem arGet6 (s:Arc):s.cells[6]?=some (.int .i64 s.dir.x.lo):=rfl
@[go_sem] theorem arGet7 (s:Arc):s.cells[7]?=some (.int .i64 s.dir.x.hi):=rfl
@[go_sem] theorem arGet8 (s:Arc):s.cells[8]?=some (.int .i64 s.dir.y.lo):=rfl
@[go_sem] theorem arGet9 (s:Arc):s.cells[9]?=some (.int .i64 s.dir.y.hi):=rfl
@[go_sem] theorem zvk (s:Arc):s.cells[10]?=some (.int .i64 s.dir.z.lo):=rfl
@[go_sem] theorem zvl (s:Arc):s.cells[11]?=some (.int .i64 s.dir.z.hi):=rfl
@[go_sem] theorem zvm (s:Arc):s.cells[12]?=some (.slice s.drag.ao s.drag.n s.drag.cap):=rfl
@[go_sem] theorem zvn (s:Arc):s.cells[13]?=some (.int .i64 s.drop.lo):=rfl
@[go_sem] theorem zvo (s:Arc):s.cells[14]?=some (.int .i64 s.drop.hi):=rfl
end Go.Proofs.YtdkfkalplmgoeaaGreat
namespace Go.Proofs.YtdkfkalplmgoeaaGreat
open Go.RowKit Go.Shelf
set_option maxRecDepth 100000
set_option maxHeartbeats 16000000
def zrK (b:Bx):Planet:=⟨⟨0,0⟩,⟨0,0⟩,⟨0,0⟩,⟨0,0⟩,b⟩
def zrJ:Arc:=⟨68719476736,68719476736,⟨0,0⟩,⟨0,0⟩,zBx,⟨none,0,0⟩,⟨0,0⟩⟩
theorem zme (a b c d e f:Int):Tryz.prog.built 43 [(4,.agg #[.int .i64 a,.int .i64 b,.int .i64 c,.int .i64 d,.int .i64 e,.int .i64 f])]=some (zrK ⟨⟨a,b⟩,⟨c,d⟩,⟨e,f⟩⟩).cells.toArray:=by kernel_rfl
theorem zky:Tryz.prog.built 48 [(0,.int .i64 68719476736),(1,.int .i64 68719476736)]=some zrJ.cells.toArray:=by kernel_rfl
instance zu0 (a b c d e f:Int):Built 43 [(4,.agg #[.int .i64 a,.int .i64 b,.int .i64 c,.int .i64 d,.int .i64 e,.int .i64 f])] (zrK ⟨⟨a,b⟩,⟨c,d⟩,⟨e,f⟩⟩).cells:=⟨zme a b c d e f⟩
instance zuZ:Built 48 [(0,.int .i64 68719476736),(1,.int .i64 68719476736)] zrJ.cells:=⟨zky⟩
instance zr7 (p:Planet):OneCells p.cells 14:=by unfold Planet.cells;infer_instance
instance zrm (x:Arc):OneCells x.cells 15:=by unfold Arc.cells;infer_instance
def ztD:Bx:=⟨⟨0,0⟩,⟨0,0⟩,⟨-33554432,-33554432⟩⟩
def exPl:Planet:=zrK ztD
def exSt:State:=⟨0,zBx,⟨⟨4294967296,4294967296⟩,⟨0,0⟩,⟨4294967296,4294967296⟩⟩,⟨4294967296,4294967296⟩⟩
def ztE:Tube:=(zbW exPl zrJ [] exSt 68719476736).t
theorem zvC:ztE.z=68719476736:=by kernel_rfl
theorem zmd:Tryz.prog.built 28 [(2,.agg #[.int .i64 4294967296,.int .i64 4294967296,.int .i64 0,.int .i64 0,.int .i64 4294967296,.int .i64 4294967296]),(3,.agg #[.int .i64 4294967296,.int .i64 4294967296])]=some exSt.cells.toArray:=by kernel_rfl
instance ztw:Built 28 [(2,.agg #[.int .i64 4294967296,.int .i64 4294967296,.int .i64 0,.int .i64 0,.int .i64 4294967296,.int .i64 4294967296]),(3,.agg #[.int .i64 4294967296,.int .i64 4294967296])] exSt.cells:=⟨zmd⟩
attribute [local go_sem] zvC
theorem znr (a b:Int):Tryz.prog.built 43 [(1,.agg #[.int .i64 a,.int .i64 b])]=some #[.int .i64 0,.int .i64 0,.int .i64 a,.int .i64 b,.int .i64 0,.int .i64 0,.int .i64 0,.int .i64 0,.int .i64 0,.int .i64 0,.int .i64 0,.int .i64 0,.int .i64 0,.int .i64 0]:=by kernel_rfl
instance ztv (a b:Int):Built 43 [(1,.agg #[.int .i64 a,.int .i64 b])] [.int .i64 0,.int .i64 0,.int .i64 a,.int .i64 b,.int .i64 0,.int .i64 0,.int .i64 0,.int .i64 0,.int .i64 0,.int .i64 0,.int .i64 0,.int .i64 0,.int .i64 0,.int .i64 0]:=⟨znr a b⟩
def exBall:Planet:=⟨⟨0,0⟩,⟨25769803776,25769803776⟩,⟨0,0⟩,⟨0,0⟩,zBx⟩
def zvB:Bx:=⟨⟨12884901888,12884901888⟩,⟨17179869184,17179869184⟩,⟨51539607552,51539607552⟩⟩
instance zpp (a w:World) (b:Nat) (cs:Array Value) [h:NewFor a w.heap.size]:NewFor a (w.setRow b cs).heap.size:=⟨by have:=h.le;simpa [World.setRow] using this⟩
end Go.Proofs.YtdkfkalplmgoeaaGreat
