/-
  Joined: NumAll, Checks.
-/
import Derived.Test.YtdkfkalplmgoeaaGreatCoreH
import Derived.Test.YtdkfkalplmgoeaaGreatProg
namespace Go.Proofs.YtdkfkalplmgoeaaGreat
open Go.RowKit

structure Big where
 neg:Bool
 hi:Int
 lo:Int
def Big.m (a:Big):Int:=a.hi*18446744073709551616+a.lo
def Big.val (a:Big):Int:=if a.neg then -a.m else a.m
def Big.numB (a:Big):Bool:=decide (a.m≤9223372036854775807)
def Big.numV (a:Big):Int:=if a.m≤9223372036854775807 then a.val else 0
theorem zsk {x:Int} {b:Bool} {a:Big} (h1:x=a.numV) (h2:b=a.numB):Ending.returned (.tuple #[.int .i64 x,.bool b])=.returned (.tuple #[.int .i64 a.numV,.bool a.numB]):=by rw[h1,h2]
def U64 (n:Int):Prop:=0≤n∧n≤18446744073709551615
def Big.ok (a:Big):Prop:=U64 a.hi∧U64 a.lo
def zcC (neg:Bool) (m:Int):Big:=⟨neg,m/18446744073709551616,m % 18446744073709551616⟩
def B128 (m:Int):Prop:=0≤m∧m≤340282366920938463463374607431768211455
theorem zgL (neg:Bool) (m:Int):(zcC neg m).m=m:=by
 unfold Big.m zcC;simp only[];omega
theorem zjU (neg:Bool) (m:Int):(zcC neg m).neg=neg:=rfl
theorem zfl (neg:Bool) (m:Int):(zcC neg m).val=if neg then -m else m:=by
 unfold Big.val;rw[zgL,zjU]
theorem zch (neg:Bool) (m:Int) (h:B128 m):(zcC neg m).ok:=by
 unfold Big.ok zcC U64;unfold B128 at h;simp only[];omega
theorem Big.ok_m {a:Big} (h:a.ok):B128 a.m:=by
 unfold Big.ok U64 at h;unfold B128 Big.m;omega
theorem zin {n:Bool} {x y m:Int} (_hx:U64 x) (hy:U64 y) (h:x*18446744073709551616+y=m):(⟨n,x,y⟩:Big)=zcC n m:=by
 unfold U64 at hy
 unfold zcC
 congr 1<;>omega
def zec (a b:Big):Big:=if a.neg=b.neg then zcC a.neg (a.m+b.m) else if a.m<b.m then zcC b.neg (b.m-a.m) else zcC a.neg (a.m-b.m)
theorem zgo (a b:Big):(zec a b).val=a.val+b.val:=by
 unfold zec
 split
 ·rw[zfl];unfold Big.val;rename_i h;rw[←h];split<;>omega
 ·rename_i h
  split<;>rw[zfl]<;>unfold Big.val<;>cases h1:a.neg<;>cases h2:b.neg<;>simp_all<;>omega
theorem zjf {a b:Big} (ha:a.ok) (hb:b.ok) (h:B128 (a.m+b.m)):(zec a b).ok:=by
 have h1:=Big.ok_m ha
 have h2:=Big.ok_m hb
 unfold B128 at *
 unfold zec
 split
 ·exact zch _ _ (by unfold B128;omega)
 ·split<;>exact zch _ _ (by unfold B128;omega)

theorem zhX {n:Bool} {x y:Int} {r:Big} (h:(⟨n,x,y⟩:Big)=r):Ending.returned (.agg #[.bool n,.int .u64 x,.int .u64 y])=.returned (.agg #[.bool r.neg,.int .u64 r.hi,.int .u64 r.lo]):=by rw[←h]
structure Res where
 s:Sp
 e:Int
theorem zbb {x y e:Int} {r:Res} (h:(⟨⟨x,y⟩,e⟩:Res)=r):Ending.returned (.tuple #[.agg #[.int .i64 x,.int .i64 y],.int .i64 e])=.returned (.tuple #[.agg #[.int .i64 r.s.lo,.int .i64 r.s.hi],.int .i64 r.e]):=by rw[←h]
abbrev z0:Sp:=⟨0,0⟩
def errR (e:Int):Res:=⟨⟨0,0⟩,e⟩
def zdX (n:Int):Bool:=decide (-9223372036854775807≤n)&&decide (n≤9223372036854775807)
def fitR (lo hi:Int):Res:=if zdX lo&&zdX hi then ⟨⟨lo,hi⟩,0⟩ else errR 4
theorem zrC (a b:Big) (ha:a.ok) (hb:b.ok):fitR a.val b.val=if a.numB&&b.numB then ⟨⟨a.numV,b.numV⟩,0⟩ else errR 4:=by
 have h1:=Big.ok_m ha
 have h2:=Big.ok_m hb
 have e1:zdX a.val=a.numB:=by
  rw[Bool.eq_iff_iff];unfold zdX Big.numB Big.val;unfold B128 at h1;cases a.neg<;>simp<;>omega
 have e2:zdX b.val=b.numB:=by
  rw[Bool.eq_iff_iff];unfold zdX Big.numB Big.val;unfold B128 at h2;cases b.neg<;>simp<;>omega
 unfold fitR
 rw[e1,e2]
 cases h3:a.numB<;>cases h4:b.numB<;>simp
 unfold Big.numB at h3 h4
 unfold Big.numV
 rw[if_pos (by simpa using h3),if_pos (by simpa using h4)]
 exact ⟨rfl,rfl⟩
def addR (a b:Sp):Res:=if a.okB&&b.okB then fitR (a.lo+b.lo) (a.hi+b.hi) else errR 2
def negS (a:Sp):Sp:=⟨-a.hi,-a.lo⟩
def negR (a:Sp):Res:=if a.okB then ⟨negS a,0⟩ else errR 2
def subR (a b:Sp):Res:=if b.okB then addR a (negS b) else errR 2
def imin (a b:Int):Int:=if b<a then b else a
def imax (a b:Int):Int:=if a<b then b else a
def min4 (a b c d:Int):Int:=imin (imin (imin a b) c) d
def max4 (a b c d:Int):Int:=imax (imax (imax a b) c) d
def zbl (a b:Int):Int:=a/b
def upZ (a b:Int):Int:=-(-a/b)
def zbP (a:Sp) (n:Int):Res:=if a.okB then fitR (imin (a.lo*n) (a.hi*n)) (imax (a.lo*n) (a.hi*n)) else errR 2
def mulR (a b:Sp):Res:=if a.okB&&b.okB then fitR (zbl (min4 (a.lo*b.lo) (a.lo*b.hi) (a.hi*b.lo) (a.hi*b.hi)) 4294967296) (upZ (max4 (a.lo*b.lo) (a.lo*b.hi) (a.hi*b.lo) (a.hi*b.hi)) 4294967296) else errR 2
def zbU (a b:Int):Int:=if b<0 then zbl (-a*4294967296) (-b) else zbl (a*4294967296) b
def zez (a b:Int):Int:=if b<0 then upZ (-a*4294967296) (-b) else upZ (a*4294967296) b
def divR (a b:Sp):Res:=
 if a.okB&&b.okB then
  if decide (b.lo≤0)&&decide (0≤b.hi) then errR 10
  else fitR (min4 (zbU a.lo b.lo) (zbU a.lo b.hi) (zbU a.hi b.lo) (zbU a.hi b.hi)) (max4 (zez a.lo b.lo) (zez a.lo b.hi) (zez a.hi b.lo) (zez a.hi b.hi))
 else errR 2
def absS (a:Sp):Sp:=if 0≤a.lo then a else if a.hi≤0 then negS a else ⟨0,imax (-a.lo) a.hi⟩
def absR (a:Sp):Res:=if a.okB then ⟨absS a,0⟩ else errR 2
def zaB (a:Sp):Res:=if a.okB then mulR (absS a) (absS a) else errR 2
def zcr:Nat→Int→Int→Int
 |0,r,_=>r
 |k+1,r,x=>zcr k (if (r+2^k)*(r+2^k)≤x then r+2^k else r) x
def zbo (x:Int):Int:=zcr 49 0 x
def zd5 (x:Int):Int:=if zbo x*zbo x=x then zbo x else zbo x+1
def zcE (a:Sp):Res:=if a.okB then (if a.hi<0 then errR 4 else ⟨⟨zbo (imax a.lo 0*4294967296),zd5 (a.hi*4294967296)⟩,0⟩) else errR 2
def zfW (a b:Sp):Sp:=⟨imin a.lo b.lo,imax a.hi b.hi⟩
def zbh (a b:Sp):Res:=if a.okB&&b.okB then ⟨zfW a b,0⟩ else errR 2
def zkT (a b:Sp):Sp:=⟨imax a.lo b.lo,imin a.hi b.hi⟩
def zjd (a b:Sp):Res:=if a.okB&&b.okB then (if (zkT a b).hi<(zkT a b).lo then errR 7 else ⟨zkT a b,0⟩) else errR 2
def zbg {α:Type} (f:α→Res):Sp→List α→Res
 |s,[]=>⟨s,0⟩
 |s,x::l=>if (f x).e=0 then (if (addR s (f x).s).e=0 then zbg f (addR s (f x).s).s l else errR (addR s (f x).s).e) else errR (f x).e
def zbA (l:List Sp):Res:=
 if l.length≤64 then (if l.all Sp.okB then (if (zbg zaB z0 l).e=0 then zcE (zbg zaB z0 l).s else errR (zbg zaB z0 l).e) else errR 2) else errR 3
def dotR (l:List (Sp × Sp)):Res:=zbg (fun p=>mulR p.1 p.2) z0 l
end Go.Proofs.YtdkfkalplmgoeaaGreat
namespace Go.Proofs.YtdkfkalplmgoeaaGreat
theorem zhz (u32 u1 y1 y0:Int) (hy1:2147483648≤y1) (hy0:0≤y0) (hy0':y0<4294967296) (hu:0≤u32) (hu2:u32<y1*4294967296+y0) (hu1:0≤u1) (hu1':u1<4294967296) :
 (u32*4294967296+u1)/(y1*4294967296+y0)≤u32/y1∧u32/y1≤4294967297∧0≤u32-u32/y1*y1∧u32-u32/y1*y1<y1∧0≤u32/y1:=by
 have h1:=Int.emod_nonneg u32 (show y1≠0 by omega)
 have h2:=Int.emod_lt_of_pos u32 (show 0<y1 by omega)
 have h3:=Int.mul_ediv_add_emod u32 y1
 rw[Int.mul_comm] at h3
 have h0:0≤u32/y1:=Int.ediv_nonneg hu (by omega)
 generalize u32/y1=q at *
 refine ⟨?_,?_,by omega,by omega,h0⟩
 ·apply Int.le_of_lt_add_one
  apply Int.ediv_lt_of_lt_mul (by omega)
  have e1:(q+1)*(y1*4294967296+y0)=(q*y1+y1)*4294967296+(q+1)*y0:=by
   rw[Int.mul_add,←Int.mul_assoc,Int.add_mul,Int.one_mul]
  have e2:0≤(q+1)*y0:=Int.mul_nonneg (by omega) hy0
  rw[e1]
  omega
 ·apply Int.le_of_lt_add_one
  have:q*y1<4294967298*y1:=by omega
  exact Int.lt_of_mul_lt_mul_right this (by omega)
theorem zip (q u32 u1 y1 y0:Int):(4294967296*(u32-q*y1)+u1<q*y0)↔(u32*4294967296+u1<q*(y1*4294967296+y0)):=by
 rw[Int.mul_add,←Int.mul_assoc,Int.mul_sub]
 omega
theorem zmj (q u32 u1 y1 y0:Int) (hy0:0≤y0) (hy0':y0<4294967296) (hu1:0≤u1) (_hq:0≤q) (hq2:q≤4294967296) (hr:4294967296≤u32-q*y1):q*(y1*4294967296+y0)≤u32*4294967296+u1:=by
 have h:=(zip q u32 u1 y1 y0)
 have:q*y0≤4294967296*y0:=Int.mul_le_mul_of_nonneg_right hq2 hy0
 omega
theorem zjI (q u y:Int) (hy:0<y) (h1:u/y≤q) (h2:q*y≤u):q=u/y:=
 Int.le_antisymm (Int.le_ediv_of_mul_le hy h2) h1
theorem zmi (q u y:Int) (hy:0<y) (h2:u<q*y):u/y≤q-1:=by
 have:=Int.ediv_lt_of_lt_mul hy h2
 omega
theorem zi2 (u32 u1 y:Int) (hy:0<y) (hu:u32<y) (_hu:u1<4294967296):(u32*4294967296+u1)/y<4294967296:=by
 apply Int.ediv_lt_of_lt_mul hy
 have:(u32+1)*4294967296≤y*4294967296:=Int.mul_le_mul_of_nonneg_right (by omega) (by omega)
 omega
theorem zqO (u32 u1 u0 y:Int) (hy:0<y) :
 (u32*4294967296+u1)/y*4294967296+((u32*4294967296+u1) % y*4294967296+u0)/y=(u32*18446744073709551616+(u1*4294967296+u0))/y∧
 ((u32*4294967296+u1) % y*4294967296+u0) % y=(u32*18446744073709551616+(u1*4294967296+u0)) % y:=by
 have h1:=Int.mul_ediv_add_emod (u32*4294967296+u1) y
 generalize (u32*4294967296+u1)/y=q at *
 generalize (u32*4294967296+u1) % y=r at *
 have e:u32*18446744073709551616+(u1*4294967296+u0)=(r*4294967296+u0)+y*(q*4294967296):=by
  rw[←Int.mul_assoc];omega
 rw[e,Int.add_mul_ediv_left _ _ (by omega),Int.add_mul_emod_self_left]
 exact ⟨by omega,rfl⟩
end Go.Proofs.YtdkfkalplmgoeaaGreat
namespace Go.Proofs.YtdkfkalplmgoeaaGreat
open Go.RowKit

structure W where
 h:Int
 l:Int
def mkW (x:Int):W:=⟨x/18446744073709551616,x % 18446744073709551616⟩
def R128 (x:Int):Prop:=-170141183460469231731687303715884105728≤x∧x≤170141183460469231731687303715884105727
theorem zco (x:Int) (hx:R128 x):I64 (mkW x).h∧U64 (mkW x).l∧(mkW x).h*18446744073709551616+(mkW x).l=x:=by
 unfold R128 at hx
 unfold mkW I64 U64
 simp only[]
 omega
theorem zdT {h l x:Int} (hl:U64 l) (e:h*18446744073709551616+l=x):(⟨h,l⟩:W)=mkW x:=by
 unfold U64 at hl
 unfold mkW
 congr 1<;>omega
theorem zjm {x y:Int} {r:W} (h:(⟨x,y⟩:W)=r):Ending.returned (.agg #[.int .i64 x,.int .u64 y])=.returned (.agg #[.int .i64 r.h,.int .u64 r.l]):=by rw[←h]
class N64 (n:Int):Prop where
 is:I64 n
class S64 (a:Sp):Prop where
 lo:I64 a.lo
 hi:I64 a.hi
class B64 (a:Bx):Prop where
 x:S64 a.x
 y:S64 a.y
 z:S64 a.z
instance n64_lo (a:Sp) [h:S64 a]:N64 a.lo:=⟨h.lo⟩
instance n64_hi (a:Sp) [h:S64 a]:N64 a.hi:=⟨h.hi⟩
instance zva:N64 0:=⟨by unfold I64;omega⟩
instance s64_mk (x y:Int) [h:N64 x] [k:N64 y]:S64 ⟨x,y⟩:=⟨h.is,k.is⟩
instance s64_x (a:Bx) [h:B64 a]:S64 a.x:=h.x
instance s64_y (a:Bx) [h:B64 a]:S64 a.y:=h.y
instance s64_z (a:Bx) [h:B64 a]:S64 a.z:=h.z
instance b64_mk (x y z:Sp) [h:S64 x] [k:S64 y] [m:S64 z]:B64 ⟨x,y,z⟩:=⟨h,k,m⟩
theorem zjS {n:Int} (h:zdX n=true):I64 n:=by
 unfold zdX at h
 unfold I64
 simp at h
 omega
instance zbE (e:Int):S64 (errR e).s:=⟨by unfold I64 errR;simp,by unfold I64 errR;simp⟩
instance zjn (lo hi:Int):S64 (fitR lo hi).s:=by
 unfold fitR
 split
 ·rename_i h
  rw[Bool.and_eq_true] at h
  exact ⟨zjS h.1,zjS h.2⟩
 ·exact zbE 4
theorem zeg {c:Prop} [Decidable c] {r r':Res} (h:S64 r.s) (h':S64 r'.s):S64 (if c then r else r').s:=by
 split
 ·exact h
 ·exact h'
instance zsu (a b:Sp):S64 (addR a b).s:=zeg (zjn _ _) (zbE _)
instance zvO (a b:Sp):S64 (subR a b).s:=zeg (zsu _ _) (zbE _)
instance zux (a:Sp) (n:Int):S64 (zbP a n).s:=zeg (zjn _ _) (zbE _)
instance zsv (a b:Sp):S64 (mulR a b).s:=zeg (zjn _ _) (zbE _)
instance zvL (a b:Sp):S64 (divR a b).s:=zeg (zeg (zbE _) (zjn _ _)) (zbE _)
instance ztp (a:Sp):S64 (zaB a).s:=zeg (zsv _ _) (zbE _)
theorem zdd {a:Sp} (h:a.okB=true):-9223372036854775807≤a.lo∧-9223372036854775807≤a.hi∧a.lo≤a.hi:=by
 unfold Sp.okB numB at h
 simp at h
 omega
theorem zjo {a:Sp} [h:S64 a] (k:a.okB=true):S64 (negS a):=by
 have:=zdd k
 have h1:=h.lo
 have h2:=h.hi
 unfold I64 at h1 h2
 exact ⟨by unfold I64 negS;simp only[];omega,by unfold I64 negS;simp only[];omega⟩
instance zvf (a:Sp) [h:S64 a]:S64 (negR a).s:=by
 unfold negR
 split
 ·rename_i k;exact zjo k
 ·exact zbE 2
theorem zk9 {a:Sp} [h:S64 a] (k:a.okB=true):S64 (absS a):=by
 unfold absS
 split
 ·exact h
 ·split
  ·exact zjo k
  ·have:=zdd k
   have h1:=h.lo
   have h2:=h.hi
   unfold I64 at h1 h2
   exact ⟨by unfold I64;simp,by unfold I64 imax;simp only[];split<;>omega⟩
instance zvd (a:Sp) [h:S64 a]:S64 (absR a).s:=by
 unfold absR
 split
 ·rename_i k;exact zk9 k
 ·exact zbE 2
instance zqu (a b:Sp) [h:S64 a] [k:S64 b]:S64 (zfW a b):=by
 have h1:=h.lo
 have h2:=h.hi
 have k1:=k.lo
 have k2:=k.hi
 exact ⟨by unfold zfW imin;simp only[];split<;>assumption,by unfold zfW imax;simp only[];split<;>assumption⟩
instance zuv (a b:Sp) [h:S64 a] [k:S64 b]:S64 (zbh a b).s:=zeg (r:=⟨zfW a b,0⟩) (zqu a b) (zbE _)
instance zqv (a b:Sp) [h:S64 a] [k:S64 b]:S64 (zkT a b):=by
 have h1:=h.lo
 have h2:=h.hi
 have k1:=k.lo
 have k2:=k.hi
 exact ⟨by unfold zkT imax;simp only[];split<;>assumption,by unfold zkT imin;simp only[];split<;>assumption⟩
instance zuw (a b:Sp) [h:S64 a] [k:S64 b]:S64 (zjd a b).s:=zeg (zeg (zbE _) (show S64 (⟨zkT a b,0⟩:Res).s from zqv a b)) (zbE _)
end Go.Proofs.YtdkfkalplmgoeaaGreat
namespace Go.Proofs.YtdkfkalplmgoeaaGreat
open Go.RowKit
set_option maxRecDepth 100000
set_option maxHeartbeats 1000000

theorem zld (n:Int) (w:World):Calls Tryz.prog 127 #[.int .i64 n] w fun e w'=>e=.returned (.bool (numB n))∧Grew w w':=by
 go_enter Tryz.func127,Tryz.ntmps127
 go_wp2
 go_ret
 exact ⟨za3 (by unfold numB;simp),Grew.refl _⟩
theorem zbF (a:Sp) (w:World):Calls Tryz.prog 72 #[.agg #[.int .i64 a.lo,.int .i64 a.hi]] w fun e w'=>e=.returned (.int .i64 (zci a.okB 2))∧Grew w w':=by
 rcases zaS (numB a.lo) with h1|h1
 rotate_left
 rcases zaS (numB a.hi) with h2|h2
 rotate_left
 rcases zcd (a.lo≤a.hi) with h3|h3
 rotate_left
 all_goals
  go_enter Tryz.func72,Tryz.ntmps72
  go_wp2_with (first|(go_at_call 127;(with_reducible refine zaa (zld _ _) ?_);intro u))
  go_ret
  exact ⟨zay (by (first|(rw[show a.okB=true from by simp[Sp.okB, *]];rfl)|(rw[show a.okB=false from by simp[Sp.okB, *]<;>omega];rfl)|(rw[show a.okB=true from by simp[Sp.okB, *]<;>omega];rfl))),gw⟩
theorem zeX (l:List Sp) (v:Value) (w:World) (h:SlAt w v l.length (l.flatMap Sp.cells)):Calls Tryz.prog 60 #[v] w fun e w'=>e=.returned (.int .i64 (zci (l.all Sp.okB) 2))∧Grew w w':=by
 obtain ⟨ao,cap,rfl,hm,hc⟩:=h
 unfold maxLen at hm
 have Hc:=Lib.hid (SlAt.elem (f:=Sp.cells) (c:=2) (fun _=>rfl) (by omega) hc)
 clear hc
 go_enter Tryz.func60,Tryz.ntmps60
 go_wp2
 go_loopw [8] (fun t wr=>∃ k:Nat,t=.int .i64 k∧k≤l.length∧(l.take k).all Sp.okB=true∧Grew w wr) (fun t _=>l.length-(intOf t).toNat)
 case atStart=>exact ⟨0,rfl,by omega,rfl,Grew.refl _⟩
 case round=>
  obtain ⟨k,rfl,hk,hall,hg⟩:=hrel
  obtain ⟨x,rfl⟩:=zal hg
  clear hg
  have Hall:=Lib.hid hall
  clear hall
  by_cases hlt:k<l.length
  ·obtain ⟨b1,o1,rfl,i1,hd1,hd2⟩:=Hc.out k hlt
   have hd1:=hd1 _ rfl
   have hd2:=hd2 1 _ rfl
   have i1:BlockIn w b1:=⟨i1⟩
   cases h:l[k].okB
   ·go_wp2_with (first|(go_at_call 72;(with_reducible refine zaa (zbF _ _) ?_);intro u))
    go_ret
    exact ⟨zay (by rw[zfd _ _ _ hlt h];rfl),gw⟩
   ·go_wp2_with (first|(go_at_call 72;(with_reducible refine zaa (zbF _ _) ?_);intro u))
    go_roundw
    case rel=>exact ⟨k+1,by go_num,by omega,zc2 _ _ _ hlt Hall.out h,gw⟩
    case measure=>simp[intOf];omega
  ·go_wp2
   go_ret
   exact ⟨zay (by rw[zhi _ _ _ (by omega) Hall.out];rfl),x.grew⟩

theorem zeY (a b:Sp) (v:Value) (w:World) (h:SlAt w v 2 [.int .i64 a.lo,.int .i64 a.hi,.int .i64 b.lo,.int .i64 b.hi]):Calls Tryz.prog 60 #[v] w fun e w'=>e=.returned (.int .i64 (zci (a.okB&&b.okB) 2))∧Grew w w':=by
 have:=zeX [a,b] v w h
 simpa using this
theorem zb6 (a:Sp) (n:Int) (w:World):Calls Tryz.prog 149 #[.agg #[.int .i64 a.lo,.int .i64 a.hi],.int .i64 n] w fun e w'=>e=.returned (.bool (a.hasB n))∧Grew w w':=by
 rcases zaS (a.okB) with h1|h1
 rotate_left
 rcases zcd (a.lo≤n) with h2|h2
 rotate_left
 rcases zcd (n≤a.hi) with h3|h3
 rotate_left
 all_goals
  go_enter Tryz.func149,Tryz.ntmps149
  go_wp2_with (first|(go_at_call 72;(with_reducible refine zaa (zbF _ _) ?_);intro u))
  go_ret
  exact ⟨za3 (by (first|(simp[Sp.hasB, *];done)|(simp[Sp.hasB, *]<;>omega)|(simp[Sp.hasB, *];omega))),gw⟩
theorem zaK (a b:Sp) (w:World):Calls Tryz.prog 94 #[.agg #[.int .i64 a.lo,.int .i64 a.hi],.agg #[.int .i64 b.lo,.int .i64 b.hi]] w fun e w'=>e=.returned (.bool (a.inB b))∧Grew w w':=by
 rcases zaS ((a.okB&&b.okB)) with h1|h1
 rotate_left
 rcases zcd (b.lo≤a.lo) with h2|h2
 rotate_left
 rcases zcd (a.hi≤b.hi) with h3|h3
 rotate_left
 all_goals
  go_enter Tryz.func94,Tryz.ntmps94
  go_wp2_with (first|(go_at_call 60;(with_reducible refine zaa (zeY a b _ _ (SlAt.fresh _ _ _ _ (by simp[maxLen]))) ?_);intro u))
  go_ret
  exact ⟨za3 (by (first|(simp[Sp.inB, *];done)|(simp[Sp.inB, *]<;>omega)|(simp[Sp.inB, *];omega))),gw⟩
theorem zeS (n:Int) (w:World):Calls Tryz.prog 50 #[.int .i64 n] w fun e w'=>e=.returned (.bool (numB n))∧Grew w w':=by
 go_enter Tryz.func50,Tryz.ntmps50
 go_wp2
 go_ret
 exact ⟨za3 (by unfold numB;simp),Grew.refl _⟩
theorem zaM (a:Sp) (w:World):Calls Tryz.prog 87 #[.agg #[.int .i64 a.lo,.int .i64 a.hi]] w fun e w'=>e=.returned (.int .i64 (zci a.okB 2))∧Grew w w':=by
 rcases zaS (numB a.lo) with h1|h1
 rotate_left
 rcases zaS (numB a.hi) with h2|h2
 rotate_left
 rcases zcd (a.lo≤a.hi) with h3|h3
 rotate_left
 all_goals
  go_enter Tryz.func87,Tryz.ntmps87
  go_wp2_with (first|(go_at_call 50;(with_reducible refine zaa (zeS _ _) ?_);intro u))
  all_goals go_ret
  all_goals exact ⟨zay (by (first|(rw[show a.okB=true from by simp[Sp.okB, *]];rfl)|(rw[show a.okB=false from by simp[Sp.okB, *]<;>omega];rfl)|(rw[show a.okB=true from by simp[Sp.okB, *]<;>omega];rfl))),gw⟩
theorem zhU (a b:Sp) (w:World):Calls Tryz.prog 65 #[.agg #[.int .i64 a.lo,.int .i64 a.hi],.agg #[.int .i64 b.lo,.int .i64 b.hi]] w fun e w'=>e=.returned (.int .i64 (zci (a.okB&&b.okB) 2))∧Grew w w':=by
 cases h1:a.okB<;>cases h2:b.okB
 all_goals
  go_enter Tryz.func65,Tryz.ntmps65
  go_wp2_with (first|(go_at_call 87;(with_reducible refine zaa (zaM _ _) ?_);intro u)|((with_reducible refine zab ?_ ?_ ?_);(· kernel_rfl);(· kernel_rfl);(try simp only[List.append_eq,List.cons_append,List.nil_append]);(repeat (go_big_quiet_step ((first|(go_at_call 87;(with_reducible exact zac (zaM _ _)))))));refine wpQuiet_nil ?_;rintro _ ⟨u,rfl⟩))
  go_ret
  exact ⟨zay (by simp),gw⟩
theorem zb5 (a b:Sp) (w:World):Calls Tryz.prog 92 #[.agg #[.int .i64 a.lo,.int .i64 a.hi],.agg #[.int .i64 b.lo,.int .i64 b.hi]] w fun e w'=>e=.returned (.bool (a.inB b))∧Grew w w':=by
 rcases zaS ((a.okB&&b.okB)) with h1|h1
 rotate_left
 rcases zcd (b.lo≤a.lo) with h2|h2
 rotate_left
 rcases zcd (a.hi≤b.hi) with h3|h3
 rotate_left
 all_goals
  go_enter Tryz.func92,Tryz.ntmps92
  go_wp2_with (first|(go_at_call 65;(with_reducible refine zaa (zhU _ _ _) ?_);intro u))
  go_ret
  exact ⟨za3 (by (first|(simp[Sp.inB, *];done)|(simp[Sp.inB, *]<;>omega)|(simp[Sp.inB, *];omega))),gw⟩
end Go.Proofs.YtdkfkalplmgoeaaGreat
