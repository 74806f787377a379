/-
  Joined: TrustLaw, TrustSame, RegTail, RangeTwo.
-/
import Derived.Test.YtdkfkalplmgoeaaGreatAppRadL
import Derived.Test.YtdkfkalplmgoeaaGreatChecksL
import Derived.Deep.RegionHeld3
import Derived.OwnWalkIn
import Derived.OrdersIn
import Derived.StillTailTactics
import Derived.Deep.AppendLies
import Derived.RangeFuncNested
import Derived.RangeFuncCalls
import Derived.Test.YtdkfkalplmgoeaaGreatLexAllL
import Derived.Sort.BigQuietIn
import Derived.Test.YtdkfkalplmgoeaaGreatFoldsL
namespace Go.Proofs.YtdkfkalplmgoeaaGreat
set_option maxRecDepth 100000
def popF:Nat→Nat→Nat
 |0,_=>0
 |f+1,m=>if m=0 then 0 else popF f (m &&& (m-1))+1
theorem zel {m:Nat} (h:0<m):m &&& (m-1)<m:=Nat.lt_of_le_of_lt Nat.and_le_right (by omega)
theorem ziB:∀ (f g m:Nat),m≤f→m≤g→popF f m=popF g m
 |0,0,_,_,_=>rfl
 |0,g+1,m,h,_=>by
  obtain rfl:m=0:=by omega
  rfl
 |f+1,0,m,_,h=>by
  obtain rfl:m=0:=by omega
  rfl
 |f+1,g+1,m,h1,h2=>by
  unfold popF
  by_cases hm:m=0
  ·rw[if_pos hm,if_pos hm]
  ·have:=zel (m:=m) (by omega)
   rw[if_neg hm,if_neg hm,ziB f g _ (by omega) (by omega)]
def popN (m:Nat):Nat:=popF m m
theorem znU:popN 0=0:=rfl
theorem znT {m:Nat} (h:0<m):popN m=popN (m &&& (m-1))+1:=by
 have hl:=zel h
 obtain ⟨k,rfl⟩:∃ k,m=k+1:=⟨m-1,by omega⟩
 show popF (k+1) (k+1)=popF _ _+1
 rw[popF,if_neg (by omega),ziB k ((k+1) &&& (k+1-1)) _ (by omega) (Nat.le_refl _)]
def zbB (many k:Nat):List Nat:=(List.range k).filter fun m=>decide (popN m=many)
theorem zgU (many k:Nat):zbB many (k+1)=if popN k=many then zbB many k++[k] else zbB many k:=by
 unfold zbB
 rw[List.range_succ,List.filter_append]
 by_cases h:popN k=many
 ·rw[if_pos h,List.filter_cons_of_pos (by simpa using h)]
  rfl
 ·rw[if_neg h,List.filter_cons_of_neg (by simpa using h),List.filter_nil,List.append_nil]
def zao (a b:Bx):Bx:=⟨zbb a.x b.x,zbb a.y b.y,zbb a.z b.z⟩
def zbh (a b:State):State:=⟨a.t,zao a.p b.p,zao a.v b.v,a.m⟩
def zeF (o:Option State) (r:ResF):Option State:=if r.e=0 then some (match o with|none=>r.s|some a=>zbh a r.s) else o
theorem zd5 {o:Option State} {r:ResF} (h:r.e≠0):zeF o r=o:=if_neg h
theorem zfG {r:ResF} (h:r.e=0):zeF none r=some r.s:=if_pos h
theorem zcx {a:State} {r:ResF} (h:r.e=0):zeF (some a) r=some (zbh a r.s):=if_pos h
noncomputable def zcE (s:State) (l:List Radio) (n:Int) (gs:List Nat):Option State:=gs.foldl (fun o g=>zeF o (zaB (zbQ (g:Nat)) l n.toNat 0 s)) none
theorem zlo (s:State) (l:List Radio) (n:Int) (gs:List Nat) (g:Nat):zcE s l n (gs++[g])=zeF (zcE s l n gs) (zaB (zbQ (g:Nat)) l n.toNat 0 s):=by
 unfold zcE
 rw[List.foldl_append]
 rfl
def zkH (o:Option State):ResT:=match o with|none=>errT 7|some s=>⟨s,0⟩
noncomputable def zb8 (s:State) (l:List Radio) (wrong n:Int):ResT:=
 if zaQ s l n=0 then (if wrong<0∨2<wrong∨(l.length:Int)<wrong then errT 2 else zkH (zcE s l n (zbB wrong.toNat (2^l.length)))) else errT (zaQ s l n)
end Go.Proofs.YtdkfkalplmgoeaaGreat
namespace Go.Proofs.YtdkfkalplmgoeaaGreat
set_option maxRecDepth 100000
def zbA (keep:Nat→Bool):List Radio→Nat→List Radio
 |[],_=>[]
 |m::l,i=>if keep i=true then m::zbA keep l (i+1) else zbA keep l (i+1)
theorem zfm (keep:Nat→Bool) (b:List Radio):∀ (a:List Radio) (i:Nat),zbA keep (a++b) i=zbA keep a i++zbA keep b (i+a.length)
 |[],_=>rfl
 |m::a,i=>by
  have ih:=zfm keep b a (i+1)
  rw[show i+1+a.length=i+(m::a).length by simp;omega] at ih
  show (if keep i=true then m::zbA keep (a++b) (i+1) else zbA keep (a++b) (i+1))=(if keep i=true then m::zbA keep a (i+1) else zbA keep a (i+1))++_
  rw[ih]
  split<;>rfl
theorem zkC (keep:Nat→Bool) (l:List Radio) (k:Nat) (h:k<l.length):zbA keep (l.take (k+1)) 0=if keep k=true then zbA keep (l.take k) 0++[l[k]] else zbA keep (l.take k) 0:=by
 have e:l.take (k+1)=l.take k++[l[k]]:=by rw[List.take_add_one,List.getElem?_eq_getElem h];rfl
 have hl:(l.take k).length=k:=by rw[List.length_take];omega
 rw[e,zfm,hl,Nat.zero_add]
 show _++(if keep k=true then [l[k]] else [])=_
 split
 ·rfl
 ·rw[List.append_nil]
theorem zdL {keep:Nat→Bool} {p:Radio→Prop}:∀ (l:List Radio) (i:Nat),(∀ m∈l,p m)→∀ m∈zbA keep l i,p m
 |[],_,_,m,h=>absurd h List.not_mem_nil
 |x::l,i,hl,m,h=>by
  have ih:=zdL (keep:=keep) l (i+1) (fun m hm=>hl m (List.mem_cons_of_mem _ hm))
  unfold zbA at h
  split at h
  ·rcases List.mem_cons.1 h with h|h
   ·rw[h];exact hl x List.mem_cons_self
   ·exact ih m h
  ·exact ih m h
theorem zia (keep:Nat→Bool):∀ (l:List Radio) (i:Nat),(zbA keep l i).length≤l.length
 |[],_=>Nat.le_refl _
 |x::l,i=>by
  have ih:=zia keep l (i+1)
  unfold zbA
  split
  ·simpa using ih
  ·exact Nat.le_succ_of_le ih
theorem zgf (keep:Nat→Bool):∀ (l:List Radio) (i j:Nat) (s:State),zbq za2 (zbA keep l i) j s=zbq keep l i s
 |[],_,_,_=>rfl
 |m::l,i,j,s=>by
  unfold zbA
  by_cases h:keep i=true
  ·rw[if_pos h]
   show (if za2 j=true then _ else _)=(if keep i=true then _ else _)
   rw[if_pos h,if_pos rfl]
   cases zeg s m with
   |none=>rfl
   |some x=>exact zgf keep l (i+1) (j+1) x
  ·rw[if_neg h]
   show _=(if keep i=true then _ else _)
   rw[if_neg h]
   exact zgf keep l (i+1) j s
theorem zf1 (keep:Nat→Bool) (l:List Radio):∀ (n:Nat) (u:Int) (s:State),zaB za2 (zbA keep l 0) n u s=zaB keep l n u s
 |0,_,_=>rfl
 |n+1,u,s=>by
  unfold zaB
  rw[zgf keep l 0 0 s]
  simp only[zf1 keep l n]
theorem zge {k k':Nat→Bool}:∀ (l:List Radio) (i:Nat) (s:State),(∀ j,j<l.length→k (i+j)=k' (i+j))→zbq k l i s=zbq k' l i s
 |[],_,_,_=>rfl
 |m::l,i,s,h=>by
  have h0:=h 0 (by simp)
  rw[Nat.add_zero] at h0
  have hr:∀ s,zbq k l (i+1) s=zbq k' l (i+1) s:=fun s=>zge l (i+1) s fun j hj=>by
   have:=h (j+1) (by simp;omega)
   rwa [show i+(j+1)=i+1+j by omega] at this
  unfold zbq
  rw[h0]
  simp only[hr]
theorem zf0 {k k':Nat→Bool} {l:List Radio} (h:∀ j,j<l.length→k j=k' j):∀ (n:Nat) (u:Int) (s:State),zaB k l n u s=zaB k' l n u s
 |0,_,_=>rfl
 |n+1,u,s=>by
  unfold zaB
  rw[zge (k:=k) (k':=k') l 0 s (fun j hj=>by rw[Nat.zero_add];exact h j hj)]
  simp only[zf0 h n]
def zbo (i k:Int) (j:Nat):Bool:=((j:Int) != i)&&((j:Int) != k)
def zkX (wrong i k:Int):Bool:=(wrong==0&&decide (i<0)&&decide (k<0))||(wrong==1&&decide (0≤i)&&decide (k<0))||(wrong==2&&decide (0≤i)&&decide (i<k))
def zhf (wrong:Int) (p:Nat × Nat):Bool:=zkX wrong ((p.1:Int)-1) ((p.2:Int)-1)
noncomputable def zjA (s:State) (l:List Radio) (wrong n:Int) (o:Option State) (p:Nat × Nat):Option State:=if zkX wrong ((p.1:Int)-1) ((p.2:Int)-1)=true then zeF o (zaB (zbo ((p.1:Int)-1) ((p.2:Int)-1)) l n.toNat 0 s) else o
def zb0 (L a c:Nat):List (Nat × Nat):=((List.range a).flatMap fun i=>(List.range L).map fun k=>(i,k))++(List.range c).map fun k=>(a,k)
theorem zk1 (L a c:Nat):zb0 L a (c+1)=zb0 L a c++[(a,c)]:=by
 unfold zb0
 rw[List.range_succ,List.map_append,List.append_assoc]
 rfl
theorem zmp (L a:Nat):zb0 L a L=zb0 L (a+1) 0:=by
 unfold zb0
 rw[List.range_succ,List.flatMap_append]
 simp
noncomputable def zhC (s:State) (l:List Radio) (wrong n:Int) (ps:List (Nat × Nat)):Option State:=ps.foldl (zjA s l wrong n) none
theorem zkY (s:State) (l:List Radio) (wrong n:Int) (a c:Nat):zhC s l wrong n (zb0 (l.length+1) a (c+1))=zjA s l wrong n (zhC s l wrong n (zb0 (l.length+1) a c)) (a,c):=by
 rw[zk1]
 unfold zhC
 rw[List.foldl_append]
 rfl
theorem zmo (s:State) (l:List Radio) (wrong n:Int) (a:Nat):zhC s l wrong n (zb0 (l.length+1) a (l.length+1))=zhC s l wrong n (zb0 (l.length+1) (a+1) 0):=by rw[zmp]
noncomputable def zcF (s:State) (l:List Radio) (wrong n:Int):ResT:=
 if zaQ s l n=0 then (if wrong<0∨2<wrong∨(l.length:Int)<wrong then errT 2 else zkH (zhC s l wrong n (zb0 (l.length+1) (l.length+1) 0))) else errT (zaQ s l n)
def zl9 (p:Nat × Nat):Nat:=(if p.1=0 then 0 else 2^(p.1-1))+(if p.2=0 then 0 else 2^(p.2-1))
theorem zk0:∀ L,L<7→∀ k,k<3→k≤L→(((zb0 (L+1) (L+1) 0).filter (zhf (k:Nat))).map zl9).isPerm (zbB k (2^L))=true:=by decide +kernel
theorem zkZ:∀ L,L<7→∀ k:Nat,k<3→((zb0 (L+1) (L+1) 0).all fun p=>!zhf (k:Nat) p||(List.range L).all fun j=>zbo ((p.1:Int)-1) ((p.2:Int)-1) j==zbQ (zl9 p:Nat) j)=true:=by decide +kernel
theorem znG (a b c:Int):imin (imin a b) c=imin (imin a c) b:=by
 unfold imin
 repeat' split
 all_goals omega
theorem znE (a b c:Int):imax (imax a b) c=imax (imax a c) b:=by
 unfold imax
 repeat' split
 all_goals omega
theorem zf4 (a b c:Sp):zbb (zbb a b) c=zbb (zbb a c) b:=by
 unfold zbb
 rw[znG,znE]
theorem zih (a b c:Bx):zao (zao a b) c=zao (zao a c) b:=by
 unfold zao
 rw[zf4 a.x,zf4 a.y,zf4 a.z]
theorem zlY (a b c:State):zbh (zbh a b) c=zbh (zbh a c) b:=by
 unfold zbh
 rw[zih a.p,zih a.v]
theorem znF (a b:Int):imin a b=imin b a:=by
 unfold imin
 repeat' split
 all_goals omega
theorem znD (a b:Int):imax a b=imax b a:=by
 unfold imax
 repeat' split
 all_goals omega
theorem zdn (a b:Sp):zbb a b=zbb b a:=by
 unfold zbb
 rw[znF,znD]
theorem zlX {a b:State} (h:a.t=b.t∧a.m=b.m):zbh a b=zbh b a:=by
 unfold zbh zao
 rw[zdn a.p.x,zdn a.p.y,zdn a.p.z,zdn a.v.x,zdn a.v.y,zdn a.v.z,h.1,h.2]
theorem znI {o:Option State} {a b:ResF} (h:a.e=0→b.e=0→a.s.t=b.s.t∧a.s.m=b.s.m):zeF (zeF o a) b=zeF (zeF o b) a:=by
 by_cases ha:a.e=0
 ·by_cases hb:b.e=0
  ·cases o with
   |none=>rw[zfG ha,zfG hb,zcx ha,zcx hb,zlX (h ha hb)]
   |some x=>rw[zcx ha,zcx hb,zcx hb,zcx ha,zlY]
  ·rw[zd5 hb,zd5 hb]
 ·rw[zd5 ha,zd5 ha]
theorem zjm {keep:Nat→Bool}:∀ (l:List Radio) (i:Nat) (s a:State),zbq keep l i s=some a→a.t=s.t∧a.m=s.m
 |[],_,s,a,z=>by cases z;exact ⟨rfl,rfl⟩
 |m::l,i,s,a,z=>by
  unfold zbq at z
  split at z
  ·cases hc:zeg s m with
   |none=>rw[hc] at z;cases z
   |some x=>
    rw[hc] at z
    obtain ⟨k1,k2⟩:=zjm l (i+1) x a z
    have hx:x.t=s.t∧x.m=s.m:=by
     unfold zeg at hc
     split at hc
     ·cases hc
      unfold cutS
      split
      ·exact ⟨rfl,rfl⟩
      ·split
       ·exact ⟨rfl,rfl⟩
       ·split<;>exact ⟨rfl,rfl⟩
     ·split at hc
      ·cases hc
      ·cases hc;exact ⟨rfl,rfl⟩
    exact ⟨k1.trans hx.1,k2.trans hx.2⟩
  ·exact zjm l (i+1) s a z
theorem zjb {keep:Nat→Bool} {l:List Radio}:∀ (n:Nat) (u:Int) (s:State),(zaB keep l n u s).e=0→(zaB keep l n u s).s.t=s.t∧(zaB keep l n u s).s.m=s.m
 |0,_,_,_=>⟨rfl,rfl⟩
 |n+1,u,s,h=>by
  cases hp:zbq keep l 0 s with
  |none=>
   rw[zeD hp] at h
   exact absurd h (by show ¬ ((7:Int)=0);decide)
  |some x=>
   have hx:=zjm l 0 s x hp
   by_cases c:x=s
   ·subst c
    rw[zeE hp]
    exact ⟨rfl,rfl⟩
   ·rw[zeC hp c] at h ⊢
    have:=zjb n (u+1) x h
    exact ⟨this.1.trans hx.1,this.2.trans hx.2⟩
theorem zdS (s:State) (l:List Radio) (wrong n:Int):∀ (ps:List (Nat × Nat)) (o:Option State),ps.foldl (zjA s l wrong n) o=(ps.filter (zhf wrong)).foldl (fun o p=>zeF o (zaB (zbo ((p.1:Int)-1) ((p.2:Int)-1)) l n.toNat 0 s)) o
 |[],_=>rfl
 |p::ps,o=>by
  rw[List.foldl_cons]
  by_cases h:zhf wrong p=true
  ·rw[List.filter_cons_of_pos h,List.foldl_cons,zdS s l wrong n ps]
   unfold zjA
   rw[if_pos (show zkX wrong ((p.1:Int)-1) ((p.2:Int)-1)=true from h)]
  ·rw[List.filter_cons_of_neg h,zdS s l wrong n ps]
   unfold zjA
   rw[if_neg (show ¬ zkX wrong ((p.1:Int)-1) ((p.2:Int)-1)=true from h)]
theorem zfZ {α β:Type} {f g:β→α→β}:∀ (l:List α) (o:β),(∀ x∈l,∀ o,f o x=g o x)→l.foldl f o=l.foldl g o
 |[],_,_=>rfl
 |x::l,o,h=>by
  rw[List.foldl_cons,List.foldl_cons,h x List.mem_cons_self]
  exact zfZ l _ fun y hy=>h y (List.mem_cons_of_mem _ hy)
theorem zln {s:State} {l:List Radio} {wrong n:Int} (hl:l.length≤6∨16<l.length):zcF s l wrong n=zb8 s l wrong n:=by
 unfold zcF zb8
 by_cases hE:zaQ s l n=0
 ·rw[if_pos hE,if_pos hE]
  by_cases hw:wrong<0∨2<wrong∨(l.length:Int)<wrong
  ·rw[if_pos hw,if_pos hw]
  ·rw[if_neg hw,if_neg hw]
   have h6:l.length≤6:=by
    rcases hl with h|h
    ·exact h
    ·exfalso
     unfold zaQ at hE
     rw[if_pos h] at hE
     exact absurd hE (by decide)
   obtain ⟨k,rfl⟩:=Int.eq_ofNat_of_zero_le (show 0≤wrong by omega)
   have h1:=List.isPerm_iff.1 (zk0 l.length (by omega) k (by omega) (by omega))
   have h2:=zkZ l.length (by omega) k (by omega)
   congr 1
   unfold zhC zcE
   rw[zdS,Int.toNat_natCast]
   have e1:=h1.foldl_eq' (f:=fun o (g:Nat)=>zeF o (zaB (zbQ g) l n.toNat 0 s)) (fun x _ y _ z=>znI fun hx hy=>by
    have k1:=zjb n.toNat 0 s hx
    have k2:=zjb n.toNat 0 s hy
    exact ⟨k1.1.trans k2.1.symm,k1.2.trans k2.2.symm⟩) none
   rw[List.foldl_map] at e1
   refine Eq.trans ?_ e1
   refine zfZ _ _ fun p hp o=>?_
   obtain ⟨hp1,hp2⟩:=List.mem_filter.1 hp
   have h3:=List.all_eq_true.1 h2 p hp1
   rw[hp2] at h3
   simp only[Bool.not_true,Bool.false_or] at h3
   rw[zf0 (k:=zbo ((p.1:Int)-1) ((p.2:Int)-1)) (k':=zbQ (zl9 p:Nat)) (fun j hj=>by
    have:=List.all_eq_true.1 h3 j (List.mem_range.2 hj)
    simpa using this)]
 ·rw[if_neg hE,if_neg hE]
end Go.Proofs.YtdkfkalplmgoeaaGreat
namespace Go.Proofs.YtdkfkalplmgoeaaGreat
section
variable {P:Program} {ops:Array Oper} {Q:Exit→Act→World→Prop} {md:Region.Mode} {S:World→Prop} {T:List Nat}
def zdG (P:Program) (md:Region.Mode) (ops:Array Oper) (Q:Exit→Act→World→Prop) (S:World→Prop) (T:List Nat):Nat→Array Bool→Act→World→Prop
 |0,listed,a,w=>Region.ready md ops listed=[]∧Q .normal a w
 |n+1,listed,a,w=>(Region.ready md ops listed=[]→Q .normal a w)∧
  ∀ i∈Region.ready md ops listed,wpOp P ops Q i (fun a' w'=>(T.contains i=false→S w')∧zdG P md ops Q S T n (listed.setIfInBounds i true) a' w') a w
theorem zbz:∀ (n:Nat) (listed:Array Bool) (a:Act) (w:World),zdG P md ops Q S T n listed a w→wpAny P md ops Q n listed a w
 |0,_,_,_,h=>h
 |n+1,_,_,_,h=>⟨h.1,fun i hi=>wpOp_mono (fun a' w' k=>zbz n _ a' w' k.2) (h.2 i hi)⟩
def zlq (md:Region.Mode) (ops:Array Oper) (j g:Nat):Bool:=((ops[j]?).map fun o=>o.after.any fun e=>Region.binds md e&&e.on==g).getD false
theorem ziu {listed:Array Bool} {i j:Nat} (hi:listed.getD i true=false) (hj:j∈Region.ready md ops listed) {o:Oper} (ho:ops[j]?=some o):∀ e∈o.after,Region.binds md e=true→e.on≠i:=fun e he hb heq=>by
 obtain ⟨-,o',ho',hall⟩:=mem_ready.1 hj
 obtain rfl:o=o':=by rw[ho] at ho';exact Option.some.inj ho'
 have h1:=hall e he hb
 rw[heq] at h1
 rcases Nat.lt_or_ge i listed.size with h|h
 ·simp[h] at hi h1
  rw[hi] at h1
  cases h1
 ·simp[Array.getElem?_eq_none h] at h1
theorem zit {listed:Array Bool} {i j:Nat} (hi:listed.getD i true=false) (hw:zlq md ops j i=true):j ∉ Region.ready md ops listed:=fun hj=>by
 obtain ⟨-,o,ho,-⟩:=mem_ready.1 hj
 simp only[zlq,ho,Option.map_some,Option.getD_some,Array.any_eq_true'] at hw
 obtain ⟨e,he,hb⟩:=hw
 simp only[Bool.and_eq_true,beq_iff_eq] at hb
 exact ziu hi hj ho e he hb.1 hb.2
theorem zfx {i:Nat} {G:List Nat} {oi:Oper} {v:Value} (hi:ops[i]?=some oi) (hsel:∀ (j:Nat) (o:Oper) cs b,ops[j]?=some o→o.op≠.select cs b)
 (hQ:∀ c a w,Q (.panic c) (a.put oi.dst v) w→Q (.panic c) a w) (hG:∀ j∈G,∃ h∈i::G,zlq md ops j h=true) (hT:∀ j,T.contains j=true→∃ h∈i::G,zlq md ops j h=true) :
 ∀ (n:Nat) (listed:Array Bool) (a:Act) (w:World),
  (∀ j oj,ops[j]?=some oj→j≠i→listed.getD j true=false→(∀ e∈oj.after,Region.binds md e=true→e.on≠i)→oi.apart ops oj=true)→
  i∈Region.ready md ops listed→(∀ g∈G,listed.getD g true=false)→YieldsIf P ops S oi v a→S w→
  zdG P md ops Q S T n (listed.setIfInBounds i true) (a.put oi.dst v) w→zdG P md ops Q S T (n+1) listed a w
 |0,listed,a,w,_,hr,_,hy,hS,H=>⟨fun h=>(by rw[h] at hr;cases hr),fun j hj=>by
   by_cases hji:j=i
   ·subst hji
    exact hy.wpOp hi hS ⟨fun _=>hS,H⟩
   ·have:=ready_mono hj hji
    rw[H.1] at this
    cases this⟩
 |n+1,listed,a,w,hfree,hr,hgl,hy,hS,H=>⟨fun h=>(by rw[h] at hr;cases hr),fun j hj=>by
   by_cases hji:j=i
   ·subst hji
    exact hy.wpOp hi hS ⟨fun _=>hS,H⟩
   have hil:=(mem_ready.1 hr).1
   have hall:∀ h∈i::G,listed.getD h true=false:=fun h hh=>by
    rcases List.mem_cons.1 hh with rfl|hh
    ·exact hil
    ·exact hgl h hh
   have hjG:j ∉ G:=fun hm=>by
    obtain ⟨h,hh,hw⟩:=hG j hm
    exact zit (hall h hh) hw hj
   have hjT:T.contains j=false:=by
    cases hc:T.contains j
    ·rfl
    ·obtain ⟨h,hh,hw⟩:=hT j hc
     exact absurd hj (zit (hall h hh) hw)
   obtain ⟨hjl,oj,hoj,-⟩:=mem_ready.1 hj
   have h2:=wpOp_putIf hoj (hfree j oj hoj hji hjl (ziu hil hj hoj)) (fun cs b=>hsel i oi cs b hi) (fun cs b=>hsel j oj cs b hoj) hQ hy (H.2 j (ready_mono hj hji))
   refine wpOp_mono (fun a' w' k=>⟨k.2.1,zfx hi hsel hQ hG hT n (listed.setIfInBounds j true) a' w' ?_ (ready_mono hr (Ne.symm hji)) ?_ k.1 (k.2.1 hjT) ?_⟩) h2
   ·intro m om hom hmi hml hno
    refine hfree m om hom hmi ?_ hno
    by_cases hjm:j=m
    ·exact hjm▸hjl
    ·rwa [getD_set_ne true hjm] at hml
   ·intro g hg
    rw[getD_set_ne true (fun e:j=g=>hjG (by rw[e];exact hg))]
    exact hgl g hg
   ·rw[Array.setIfInBounds_comm _ _ hji]
    exact k.2.2⟩
theorem zaf (i:Nat) (G:List Nat) {oi:Oper} {v:Value} {n:Nat} {listed:Array Bool} {a:Act} {w:World} (hi:ops[i]?=some oi) (hs:Region.noSelect ops=true) (hf:Region.free md ops listed i=true) (hr:(Region.ready md ops listed).contains i=true)
 (hg:((G++T).all (fun j=>(i::G).any (zlq md ops j))&&G.all fun g=>!listed.getD g true)=true) (hQ:∀ c a w,Q (.panic c) (a.put oi.dst v) w→Q (.panic c) a w) (hw:Region.wanted oi (yielded ops a.tmps)=true) (hS:S w) (hy:∀ w,S w→(execOp a.eval oi).run P w=.ok (.value v) w)
 (h:zdG P md ops Q S T n (listed.setIfInBounds i true) (a.put oi.dst v) w):zdG P md ops Q S T (n+1) listed a w:=by
 obtain ⟨h1,h2⟩:=Bool.and_eq_true_iff.1 hg
 have h3:∀ j,j∈G++T→∃ h∈i::G,zlq md ops j h=true:=fun j hj=>List.any_eq_true.1 (List.all_eq_true.1 h1 j hj)
 exact zfx (G:=G) hi (Region.noSelect_spec hs) hQ (fun j hj=>h3 j (List.mem_append_left _ hj)) (fun j hj=>h3 j (List.mem_append_right _ (by simpa using hj))) n listed a w (Region.free_spec hi hf) (by simpa using hr) (fun g hg=>by simpa using List.all_eq_true.1 h2 g hg) (.inl ⟨hw,hy⟩) hS h
structure Back (P:Program) (md:Region.Mode) (ops:Array Oper) (Q:Exit→Act→World→Prop) (S:World→Prop) (T:List Nat) (n:Nat) (listed:Array Bool) (i:Nat) (K:Act→World→Prop):Prop where
 out:∀ a w,(T.contains i=false→S w)→zdG P md ops Q S T n (listed.setIfInBounds i true) a w→K a w
theorem zer {i:Nat} {o:Oper} {n:Nat} {listed:Array Bool} {a:Act} {w:World} (ho:ops[i]?=some o)
 (h:∀ K,Back P md ops Q S T n listed i K→if Region.wanted o (yielded ops a.tmps)=true then Oper.wp P o a w K Q else K (a.put o.dst undef) w):wpOp P ops Q i (fun a' w'=>(T.contains i=false→S w')∧zdG P md ops Q S T n (listed.setIfInBounds i true) a' w') a w:=
 wpOp_step ho fun K hK=>h K ⟨fun a w h1 h2=>hK a w ⟨h1,h2⟩⟩
theorem zal (i:Nat) {o:Oper} {n:Nat} {listed:Array Bool} {a:Act} {w:World} (hr:Region.ready md ops listed=[i]) (ho:ops[i]?=some o)
 (h:∀ K,Back P md ops Q S T n listed i K→if Region.wanted o (yielded ops a.tmps)=true then Oper.wp P o a w K Q else K (a.put o.dst undef) w):zdG P md ops Q S T (n+1) listed a w:=
 ⟨fun h0=>(by rw[hr] at h0;cases h0),fun j hj=>by
  rw[hr] at hj
  obtain rfl:=List.mem_singleton.1 hj
  exact zer ho h⟩
theorem zdv (i j:Nat) {o p:Oper} {n:Nat} {listed:Array Bool} {a:Act} {w:World} (hr:Region.ready md ops listed=[i,j]) (ho:ops[i]?=some o) (hp:ops[j]?=some p)
 (h:∀ K,Back P md ops Q S T n listed i K→if Region.wanted o (yielded ops a.tmps)=true then Oper.wp P o a w K Q else K (a.put o.dst undef) w)
 (h':∀ K,Back P md ops Q S T n listed j K→if Region.wanted p (yielded ops a.tmps)=true then Oper.wp P p a w K Q else K (a.put p.dst undef) w):zdG P md ops Q S T (n+1) listed a w:=
 ⟨fun h0=>(by rw[hr] at h0;cases h0),fun k hk=>by
  rw[hr] at hk
  rcases List.mem_cons.1 hk with rfl|hk
  ·exact zer ho h
  ·obtain rfl:=List.mem_singleton.1 hk
   exact zer hp h'⟩
theorem zbs {n:Nat} {listed:Array Bool} {a:Act} {w:World} (hr:Region.ready md ops listed=[]) (h:Q .normal a w):zdG P md ops Q S T n listed a w:=by
 cases n
 ·exact ⟨hr,h⟩
 ·exact ⟨fun _=>h,by rw[hr];exact fun i hi=>by cases hi⟩
theorem zdj (S:World→Prop) (T:List Nat) {id:Nat} {a:Act} {w:World} (hm:P.follows .mixedOrders=true)
 (h:zdG P .any ops Q S T ops.size (Array.replicate ops.size false) a w.drew):(Code.region id ops true).wp P Q a w:=
 wp_region_any hm (zbz _ _ _ _ h)
end
end Go.Proofs.YtdkfkalplmgoeaaGreat
namespace Go.Proofs.YtdkfkalplmgoeaaGreat
open Go.RowKit
section
variable {P:Program}
end
def zdR (o:Oper):Bool:=match o.op with | .defer _=>false|_=>true
theorem zkT {o:Oper} (h:zdR o=true):∀ c,o.op≠.defer c:=fun c e=>by unfold zdR at h;rw[e] at h;cases h
def zlN (Q:Exit→Act→World→Prop) (e:Exit) (a:Act) (w:World):Prop:=e=.normal∧Q .normal a w
theorem zgY {P:Program} {n l:Nat} {o:Oper} (hd:zdR o=true) {Q:Exit→Act→World→Prop} {a:Act} {w:World} {K K':Act→World→Prop} (hK:∀ a w,K a w→K' a w) (h:o.wp P a w K (zlN Q)):o.wpIn (Fence.wide.inRound l) n P a w K' Q:=by
 refine ⟨fun _ _=>trivial,?_⟩
 rw[Oper.semAt_plain (Fence.wide.inRound l) _ _ (zkT hd)]
 unfold Oper.wp at h
 generalize (execOp a.eval o).run P w=r at h ⊢
 cases r with
 |ok x w'=>
  cases x with
  |value v=>exact hK _ _ h
  |skip=>exact hK _ _ h
  |defer d=>exact hK _ _ h
  |enter f args=>
   refine ⟨(fun h=>by cases h),CallsIn.inRound l (callsIn_wide.2 (Calls.mono h fun e w'' he=>?_))⟩
   cases e with
   |returned v=>exact hK _ _ he
   |panicked c=>exact absurd he.1 (by simp)
   |outgrown=>obtain ⟨_,_,he⟩:=he;exact absurd he.1 (by simp)
  |row r args=>
   refine ⟨(fun h=>by cases h),fun c cs _=>?_⟩
   obtain ⟨v,w2,hv,hs⟩:=h c cs
   exact ⟨v,w2,hK _ _ hv,stepsIn_wide.2 hs⟩
  |_=>exact h.elim
 |halt x w'=>
  cases x<;>first|exact h.elim|exact absurd h.1 (by simp)
theorem zdw {P:Program} {n l:Nat} {ops:Array Oper} (hd:ops.all zdR=true) {Q:Exit→Act→World→Prop}:∀ (fuel:Nat) (listed:Array Bool) (a:Act) (w:World),wpAny P .any ops (zlN Q) fuel listed a w→wpAnyIn (Fence.wide.inRound l) n P .any ops Q fuel listed a w
 |0,_,_,_,h=>⟨h.1,h.2.2⟩
 |fuel+1,listed,a,w,h=>by
  refine ⟨fun hr=>(h.1 hr).2,fun i hi=>?_⟩
  have hi2:=h.2 i hi
  unfold wpOp at hi2
  unfold wpOpIn
  cases ho:ops[i]? with
  |none=>rw[ho] at hi2;exact zdw hd fuel _ _ _ hi2
  |some o=>
   rw[ho] at hi2
   simp only[] at hi2 ⊢
   have hdo:zdR o=true:=by
    have:=Array.all_eq_true_iff_forall_mem.1 hd o (by
     obtain ⟨h1,h2⟩:=Array.getElem?_eq_some_iff.1 ho
     rw[←h2]
     exact Array.getElem_mem h1)
    exact this
   split
   ·rename_i hw
    rw[if_pos hw] at hi2
    rcases hi2 with hi2|⟨-,_,_,hi2⟩
    ·exact zgY hdo (fun a w h=>zdw hd fuel _ _ _ h) hi2
    ·exact absurd hi2.1 (by simp)
   ·rename_i hw
    rw[if_neg hw] at hi2
    exact ⟨fun _ _=>trivial,zdw hd fuel _ _ _ hi2⟩
theorem zaM {P:Program} {n l id:Nat} {lo:List Oper} {Q:Exit→Act→World→Prop} {a:Act} {w:World} (hm:P.follows .mixedOrders=true) (hd:lo.toArray.all zdR=true) (h:wpAny P .any lo.toArray (zlN Q) lo.toArray.size (Array.replicate lo.toArray.size false) a w.drew):(Code.region id lo.toArray true).wpIn (Fence.wide.inRound l) n P Q a w:=
 wpIn_region_any hm (zdw hd _ _ _ _ h)
def opVal (P:Program) (o:Oper) (a:Act) (w:World) (v:Value):Prop:=
 match (execOp a.eval o).run P w with
 |.ok (.value u) w'=>w'=w∧u=v
 |_=>False
end Go.Proofs.YtdkfkalplmgoeaaGreat
namespace Go.Proofs.YtdkfkalplmgoeaaGreat
open Go.RowKit Go.Shelf
set_option maxRecDepth 100000
set_option maxHeartbeats 4000000
attribute [local go_sem] Oper.semAt_some
theorem zdN {P:Program} {n r:Nat} {ops:Array Oper} {Q:Exit→Act→World→Prop}:∀ (l:List Oper) (a:Act) (w:World),l.all zdR=true→wpList P ops (zlN Q) l a w→wpListIn (Fence.wide.inRound r) n P ops Q l a w
 |[],_,_,_,h=>h.2
 |o::l,a,w,hd,h=>by
  rw[List.all_cons,Bool.and_eq_true] at hd
  unfold wpList at h
  unfold wpListIn
  split
  ·rename_i hw
   rw[if_pos hw] at h
   rcases h with h|⟨-,_,_,h⟩
   ·exact zgY hd.1 (fun a w h=>zdN l a w hd.2 h) h
   ·exact absurd h.1 (by simp)
  ·rename_i hw
   rw[if_neg hw] at h
   exact ⟨fun _ _=>trivial,zdN l _ w hd.2 h⟩
theorem zab {P:Program} {n r id:Nat} {lo:List Oper} {Q:Exit→Act→World→Prop} {a:Act} {w:World} (hd:lo.all zdR=true) (h:wpList P lo.toArray (zlN Q) lo a w):(Code.region id lo.toArray false).wpIn (Fence.wide.inRound r) n P Q a w:=
 wpIn_region_lit (zdN lo a w hd h)
structure KeepTwo (b c:Nat) (w w':World):Prop where
 one:w'.heap[b]?=w.heap[b]?
 two:w'.heap[c]?=w.heap[c]?
theorem KeepTwo.refl (b c:Nat) (w:World):KeepTwo b c w w:=⟨rfl,rfl⟩
theorem KeepTwo.trans {b c:Nat} {u v w:World} (h:KeepTwo b c u v) (k:KeepTwo b c v w):KeepTwo b c u w:=⟨k.one.trans h.one,k.two.trans h.two⟩
theorem KeepTwo.cell1 {b c o:Nat} {u v:World} (h:KeepTwo b c u v):v.cell? ⟨b,o,none⟩=u.cell? ⟨b,o,none⟩:=by simp[World.cell?,h.one]
theorem KeepTwo.cell2 {b c o:Nat} {u v:World} (h:KeepTwo b c u v):v.cell? ⟨c,o,none⟩=u.cell? ⟨c,o,none⟩:=by simp[World.cell?,h.two]
theorem zl3 {b c:Nat} {w:World} (hb:b<w.heap.size) (hc:c<w.heap.size) (W:World) (l:Nat) (o o':Obj) (hl:w.heap.size≤l) (h:W.heap[l]?=some o) (_h1:o.isCells=false) (_h2:o.isWalk=false):KeepTwo b c W (W.putObj l o'):=
 ⟨(grownBy_putObj' W l o').block b (by have:=(Array.getElem?_eq_some_iff.1 h).1;omega) (fun e=>by cases e;omega),(grownBy_putObj' W l o').block c (by have:=(Array.getElem?_eq_some_iff.1 h).1;omega) (fun e=>by cases e;omega)⟩
def Held (W:World) (l:List (Nat × List Value × TypeId)):Prop:=∀ p∈l,W.heap[p.1]?=some (.cells p.2.1.toArray p.2.2 (0,0))
theorem Held.nil (W:World):Held W []:=fun p h=>by simp at h
theorem Held.cons {W:World} {b:Nat} {v:List Value} {t:TypeId} {l:List (Nat × List Value × TypeId)} (h1:RowIs W b t v) (h:Held W l):Held W ((b,v,t)::l):=by
 intro p hp
 rcases List.mem_cons.1 hp with rfl|hp
 ·exact h1.is
 ·exact h p hp
theorem Held.head {W:World} {b:Nat} {v:List Value} {t:TypeId} {l:List (Nat × List Value × TypeId)} (h:Held W ((b,v,t)::l)):RowIs W b t v∧Held W l:=⟨⟨h (b,v,t) (by simp)⟩,fun p hp=>h p (by simp[hp])⟩
theorem Held.kept {W W':World} {row:Option Nat} {l:List (Nat × List Value × TypeId)} (h:Held W l) (hg:W.grownBy W' row) (hr:∀ r,row=some r→∃ o:Obj,W.heap[r]?=some o∧o.isCells=false):Held W' l:=by
 intro p hp
 have h1:=h p hp
 refine (hg.block p.1 (Array.getElem?_eq_some_iff.1 h1).1 (fun e=>?_)).trans h1
 obtain ⟨o,ho,hc⟩:=hr _ e.symm
 rw[h1] at ho
 cases ho
 cases hc
theorem zix {β:Type} {B:Nat} (l:β→List (Nat × List Value × TypeId)):OwnFrom B (fun s W=>Held W (l s)):=fun _ _ _ _ h hg hr=>h.kept hg (fun r e=>(hr r e).2)
theorem zhB {β:Type} {B:Nat} {w:World} {row:Option Nat} (hB:w.heap.size≤B):OwnFrom B (fun (_:β) W=>w.grownBy W row):=fun _ A C r h hg hr=>⟨hg.os.trans h.os,hg.tape.trans h.tape,hg.output.trans h.output,Nat.le_trans h.size hg.size,fun i hi hne=>by
 refine (hg.block i (Nat.lt_of_lt_of_le hi h.size) (fun e=>?_)).trans (h.block i hi hne)
 have:=(hr i e.symm).1
 omega⟩
theorem RowIs.kept {W W':World} {row:Option Nat} {b:Nat} {t:TypeId} {l:List Value} (h:RowIs W b t l) (hg:W.grownBy W' row) (hne:some b≠row):RowIs W' b t l:=⟨(hg.block b h.lt hne).trans h.is⟩
theorem zcT (W:World) (b:Nat) (cs:Array Value):W.grownBy (W.setRow b cs) (some b):=
 ⟨rfl,rfl,rfl,by simp,fun k _ hk=>setRow_other W b k cs (fun e=>hk (by rw[e]))⟩
theorem RowIs.cells_at {W:World} {b:Nat} {t:TypeId} {l:List Value} (h:RowIs W b t l) (o:Obj) (ho:W.heap[b]?=some o):o.isCells=true:=by
 rw[h.is] at ho
 cases ho
 rfl
def Near (n:Nat) (row0:Option Nat) (v:Value):Prop:=∀ k,v.ownBlock=some k→row0=some k∨n≤k
theorem zbv {w W W':World} {row0 r:Option Nat} (h:w.grownBy W row0) (k:W.grownBy W' r) (hr:∀ j,r=some j→row0=some j∨w.heap.size≤j):w.grownBy W' row0:=
 ⟨k.os.trans h.os,k.tape.trans h.tape,k.output.trans h.output,Nat.le_trans h.size k.size,fun i hi hne=>by
  refine (k.block i (Nat.lt_of_lt_of_le hi h.size) (fun e=>?_)).trans (h.block i hi hne)
  rcases hr i e.symm with e2|e2
  ·exact hne e2.symm
  ·omega⟩
theorem zoR {W:World} {b:Nat} {t:TypeId} {l l':List Value} (h:RowIs W b t l) (e:l=l'):RowIs W b t l':=e▸h
theorem zlH {W:World} {b:Nat} {t:TypeId} {l:List Value} (h:RowIs W b t l) (i:Nat) {v:Value} (e:l[i]?=some v):W.cell? ⟨b,i,none⟩=some v:=(zd2 W b i t l).trans e
theorem zf2 {a w:World} (h:Grew a w) (row:Option Nat):a.grownBy w row:=⟨h.os,h.tape,h.output,h.size,fun i hi _=>h.block i hi⟩
theorem zlr {Fc:Fence} {n:Nat} {P:Program} {c:Code} {Q:Exit→Act→World→Prop} {a:Act} {w:World} (F:World→Prop) (h:F w) (k:∀ Y,F Y→c.wpIn Fc n P Q a Y):c.wpIn Fc n P Q a w:=k w h
theorem zm0 {P:Program} {c:Code} {Q:Exit→Act→World→Prop} {a:Act} {w:World} (F:World→Prop) (h:F w) (k:∀ Y,F Y→c.wp P Q a Y):c.wp P Q a w:=k w h
end Go.Proofs.YtdkfkalplmgoeaaGreat
