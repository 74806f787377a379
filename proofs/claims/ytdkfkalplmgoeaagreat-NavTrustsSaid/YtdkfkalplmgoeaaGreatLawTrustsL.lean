/-
  Joined: OpenAll, TrueOpen, LawTrusts.
-/
import Derived.Test.YtdkfkalplmgoeaaGreatChecksL
import Derived.ProofKit
import Derived.OpenShut
import Derived.Deep.Slices
import Derived.Test.YtdkfkalplmgoeaaGreatProg
import Derived.Test.YtdkfkalplmgoeaaGreatEversL
import Derived.Test.YtdkfkalplmgoeaaGreatRefTCL
import Derived.Test.YtdkfkalplmgoeaaGreatRows
namespace Go.Proofs.YtdkfkalplmgoeaaGreat
open Go.RowKit Go.ChangeShapes Go.WideShapes Go.ChangeAt Go.Deep

def zdz (P:Program):Nat→TypeId→Nat→Bool
 |0,_,_=>false
 |f+1,t,n=>
  match P.underlying t with
  |some (.int .i64)=>n==1
  |some (.struct fs)=>P.cellsOf t==n&&(fs.toList.foldl (fun (a:Option Nat) (x:Field)=>a.bind fun o=>if x.offset==o&&zdz P f x.type (P.cellsOf x.type) then some (o+P.cellsOf x.type) else none) (some 0)==some n)
  |some (.array m e)=>P.cellsOf t==n&&zdz P f e (P.cellsOf e)&&n==m*P.cellsOf e
  |_=>false

def zdk (cs:List Value):Prop:=∀ (i:Nat) v,cs[i]?=some v→∃ k:Int,v=.int .i64 k∧(Lit.int .i64 k).wf=true
theorem zdk.nil:zdk []:=fun i v h=>by simp at h
theorem zdk.append {a b:List Value} (ha:zdk a) (hb:zdk b):zdk (a++b):=fun i v h=>by
 rw[List.getElem?_append] at h
 split at h
 ·exact ha _ _ h
 ·exact hb _ _ h

section
variable {H:Type} {enc:TypeId × Value→H} {P:Program} {w:World} {base:Nat} {spare:Nat→Bool} {held:Bool}

theorem zlO (P:Program) (f:Nat) (l:List Field):∀ (o n:Nat),
 l.foldl (fun (a:Option Nat) (x:Field)=>a.bind fun o=>if x.offset==o&&zdz P f x.type (P.cellsOf x.type) then some (o+P.cellsOf x.type) else none) (some o)=some n→
 o≤n∧∀ (cs:List Value),(∀ x∈l,zdz P f x.type (P.cellsOf x.type)=true→zdk ((cs.drop x.offset).take (P.cellsOf x.type)))→zdk ((cs.drop o).take (n-o)):=by
 have hnone:∀ (l:List Field),l.foldl (fun (a:Option Nat) (x:Field)=>a.bind fun o=>if x.offset==o&&zdz P f x.type (P.cellsOf x.type) then some (o+P.cellsOf x.type) else none) none=none:=by
  intro l
  induction l with
  |nil=>rfl
  |cons x l ih=>simpa using ih
 induction l with
 |nil=>
  intro o n h
  simp at h
  subst h
  exact ⟨Nat.le_refl _,fun cs _=>by simp[zdk.nil]⟩
 |cons x l ih=>
  intro o n h
  simp only[List.foldl_cons,Option.bind_some] at h
  by_cases hx:(x.offset==o&&zdz P f x.type (P.cellsOf x.type))=true
  ·rw[if_pos hx] at h
   obtain ⟨h1,h2⟩:=ih _ _ h
   simp only[Bool.and_eq_true,beq_iff_eq] at hx
   refine ⟨by omega,fun cs hc=>?_⟩
   have ha:=hc x (by simp) hx.2
   rw[hx.1] at ha
   have hb:=h2 cs (fun y hy=>hc y (by simp[hy]))
   have e:(cs.drop o).take (n-o)=(cs.drop o).take (P.cellsOf x.type)++(cs.drop (o+P.cellsOf x.type)).take (n-(o+P.cellsOf x.type)):=by
    rw[←List.drop_drop,show n-o=P.cellsOf x.type+(n-(o+P.cellsOf x.type)) by omega,List.take_add]
   rw[e]
   exact ha.append hb
  ·rw[if_neg hx,hnone] at h
   cases h

theorem zcS (P:Program):∀ (f:Nat) (t:TypeId) (n fuel:Nat) (cs:List Value) (x:DataW H × List MemPlace),zdz P f t n=true→
 DataW.trod enc P w base spare held fuel t cs=some x→cs.length=n∧zdk cs
 |0,_,_,_,_,_,h,_=>by simp[zdz] at h
 |f+1,t,n,fuel,cs,x,h,ht=>by
  unfold zdz at h
  split at h
  ·rename_i hu
   obtain ⟨k,rfl,-,hw⟩:=DataW.trod_int hu ht
   simp at h
   subst h
   refine ⟨rfl,fun i v hi=>?_⟩
   match i,hi with
   |0,hi=>simp at hi;exact ⟨k,hi.symm,hw⟩
  ·rename_i fs hu
   obtain ⟨xs,m,rfl,-,hl,hxl,hf⟩:=DataW.trod_struct hu ht
   have h1:=beq_iff_eq.1 (Bool.and_eq_true_iff.1 h).1
   have h2:=beq_iff_eq.1 (Bool.and_eq_true_iff.1 h).2
   obtain ⟨-,h3⟩:=zlO P f fs.toList 0 n h2
   have hn:cs.length=n:=hl.trans h1
   refine ⟨hn,?_⟩
   have:=h3 cs (fun y hy hfl=>by
    obtain ⟨i,hi⟩:=List.mem_iff_getElem?.1 hy
    have hi':fs[i]?=some y:=by simpa using hi
    have hlt:i<fs.size:=(Array.getElem?_eq_some_iff.1 hi').1
    have e:=hf i y hi'
    rw[List.getElem?_eq_getElem (by omega)] at e
    exact (zcS P f _ _ _ _ _ hfl e).2)
   simpa [←hn] using this
  ·rename_i m e hu
   obtain ⟨xs,k,rfl,-,hl,hxl,hf⟩:=DataW.trod_array hu ht
   simp only[Bool.and_eq_true,beq_iff_eq] at h
   obtain ⟨⟨h1,h2⟩,h3⟩:=h
   have hn:cs.length=n:=hl.trans h1
   refine ⟨hn,?_⟩
   have key:∀ j,j≤m→zdk (cs.take (j*P.cellsOf e)):=by
    intro j
    induction j with
    |zero=>intro _;simp[zdk.nil]
    |succ j ih=>
     intro hj
     rw[Nat.succ_mul,List.take_add]
     refine (ih (by omega)).append ?_
     have e1:=hf j (by omega)
     rw[List.getElem?_eq_getElem (by omega)] at e1
     exact (zcS P f _ _ _ _ _ h2 e1).2
   have:=key m (Nat.le_refl _)
   rwa [←h3,←hn,List.take_length] at this
  ·cases h

theorem ziV (cs:List Value) (h:zdk cs):∃ ns:List Int,cs=ns.map (.int .i64)∧∀ k∈ns,-9223372036854775808≤k∧k≤9223372036854775807:=by
 induction cs with
 |nil=>exact ⟨[],rfl,by simp⟩
 |cons v cs ih=>
  obtain ⟨k,rfl,hw⟩:=h 0 v rfl
  obtain ⟨ns,rfl,hb⟩:=ih (fun i v hi=>h (i+1) v (by simpa using hi))
  refine ⟨k::ns,rfl,fun j hj=>?_⟩
  rcases List.mem_cons.1 hj with rfl|hj
  ·simpa [Lit.wf,IntKind.min,IntKind.max,IntKind.signed,IntKind.bits] using hw
  ·exact hb j hj

theorem zkb {r:Reach} {b0:Nat} {t:TypeId} {v:Value} {d:DataW H} {p:List MemPlace} (hs:P.underlying t=some (.int .i64))
 (hv:Value.okWide P w r b0 t v) (h:DataW.Trod enc P w base spare held t v d p):∃ k:Int,v=.int .i64 k∧-9223372036854775808≤k∧k≤9223372036854775807:=by
 obtain ⟨k,rfl,-,-,hw⟩:=open_int hs hv h
 exact ⟨k,rfl,by simpa [Lit.wf,IntKind.min,IntKind.max,IntKind.signed,IntKind.bits] using hw⟩
end

theorem zfw {H:Type} {enc:TypeId × Value→H} {P:Program} (hl:laidOutB P=true) {W W':World} (hb:Grew W W') (sp:Nat→Bool) :
 ∀ (ts:List TypeId) (vs:List Value) (ds:List (DataW H)) (ps:List MemPlace),ts.all (fun t=>P.readableRec t&&decide (t<P.types.size))=true→(∀ x∈ps,x.block<W.heap.size)→(∀ x∈ps,sp x.block=true)→
  DataW.TrodAll enc P W 0 (fun _=>true) true ts vs ds ps→DataW.TrodAll enc P W' 0 sp true ts vs ds ps
 |[],vs,ds,ps,_,_,_,h=>by
  obtain ⟨rfl,rfl,rfl⟩:=trodAll_nil h
  exact trodAll_mk0
 |t::ts,vs,ds,ps,hr,hp,hs,h=>by
  obtain ⟨v,vs',d,ds',p,q,rfl,rfl,rfl,h0,r0⟩:=trodAll_cons h
  simp only[List.all_cons,Bool.and_eq_true,decide_eq_true_eq] at hr
  exact trodAll_cons_mk (WideElems.Trod_stays hl hr.1.1 hr.1.2 h0 (fun x hx=>Below.same hb (hp x (by simp[hx]))) (fun x hx=>hs x (by simp[hx])))
   (zfw hl hb sp ts vs' ds' q hr.2 (fun x hx=>hp x (by simp[hx])) (fun x hx=>hs x (by simp[hx])) r0)

theorem znK {H:Type} {enc:TypeId × Value→H} {P:Program} {f:Func} {s:ChangeSpec} {W W':World} {args:Array Value} {ds gs:List (DataW H)} {before:List MemPlace} {tb:TypeId}
 (hl:laidOutB P=true) (hr:f.params.toList.all (fun t=>P.readableRec t&&decide (t<P.types.size))=true) (hvars:s.vars=[]) (hrt:f.resultTypes=#[tb]) (htb:P.underlying tb=some .bool)
 (hW:DataW.Whole enc P f.params.toList s.vars false W args.toList ds gs before) (hs:s.fn H (ds++[])={ results:=[.lit (.bool true)],args:=ds }) (hg:Grew W W') :
 s.post enc P f false true false false W args (.bool true) W':=by
 have hlt:∀ p∈before,p.block<W.heap.size:=fun p hp=>hW.lt p hp
 have hW0:=hW
 obtain ⟨p,q,hA0,hV,hpq,hz,hn⟩:=hW
 rw[hvars] at hV
 obtain ⟨rfl,rfl⟩:=trodVars_none hV
 rw[List.append_nil] at hpq
 subst hpq
 have hargs:∀ sp:Nat→Bool,(∀ p'∈before,sp p'.block=true)→DataW.TrodAll enc P W' 0 sp true f.params.toList args.toList ds before:=fun sp h=>zfw hl hg sp _ _ _ _ hr hlt h hA0
 have hres:∀ (b:Nat) (sp:Nat→Bool) (hd:Bool),DataW.TrodAll enc P W' b sp hd f.resultTypes.toList ((Value.bool true).resultList f.resultTypes.size) [.lit (.bool true)] []:=by
  intro b sp hd
  rw[hrt]
  exact trodAll_cons_mk (shut_bool htb true) trodAll_mk0
 refine ⟨ds,[],before,[],before,[],hW0,?_,?_,?_,?_,fun h=>by cases h⟩
 ·rw[hs];exact hres _ _ _
 ·rw[hs];exact hargs _ (fun p' hp'=>by simpa using hlt p' hp')
 ·rw[hs,hvars];exact rfl
 ·exact World.keptBut_mono (fun p' hp'=>⟨hp',.inr (by simpa using hp')⟩) (Below.frame hg (·∈before))
end Go.Proofs.YtdkfkalplmgoeaaGreat
namespace Go.Proofs.YtdkfkalplmgoeaaGreat
open Go.RowKit Go.ChangeShapes Go.WideShapes Go.ChangeAt Go.Deep
set_option maxRecDepth 100000

theorem zqG {l:List Value} (h:l.length=15):∃ c0 c1 c2 c3 c4 c5 c6 c7 c8 c9 c10 c11 c12 c13 c14,l=[c0,c1,c2,c3,c4,c5,c6,c7,c8,c9,c10,c11,c12,c13,c14]:=by
 match l,h with|[c0,c1,c2,c3,c4,c5,c6,c7,c8,c9,c10,c11,c12,c13,c14],_=>exact ⟨c0,c1,c2,c3,c4,c5,c6,c7,c8,c9,c10,c11,c12,c13,c14,rfl⟩
theorem zcU {k:Int} (h:(Lit.int .i64 k).wf=true):I64 k:=by
 simpa [I64,Lit.wf,IntKind.min,IntKind.max,IntKind.signed,IntKind.bits] using h

section
variable {H:Type} {enc:TypeId × Value→H} {w:World} {base:Nat} {spare:Nat→Bool} {held:Bool}
theorem zlg {α:Type} {P:Program} {t e c:Nat} (f:α→List Value) (hf:∀ a,(f a).length=c) (Q:α→Prop) (ht:P.underlying t=some (.slice e)) (hC:P.cellsOf e=c)
 (hel:∀ (m:Nat) (cs':List Value) (x':DataW H × List MemPlace),DataW.trod enc P w base spare held m e cs'=some x'→∃ a,cs'=f a∧Q a)
 {fuel:Nat} {cs:List Value} {x:DataW H × List MemPlace} (h:DataW.trod enc P w base spare held fuel t cs=some x) :
 ∃ (ao:Option Addr) (n cap:Nat) (l:List α),cs=[.slice ao n cap]∧n=l.length∧SlAt w (.slice ao n cap) l.length (l.flatMap f)∧∀ a∈l,Q a:=by
 rcases open_slice ht h with ⟨rfl,-⟩|⟨a,len,cap,m,n,D,Pl,rfl,hb,hl,hm,hmm,-,hi⟩
 ·exact ⟨none,0,0,[],rfl,rfl,SlAt.nil w,by simp⟩
 ·have hlen:len≤m:=by rw[hmm];split<;>omega
  have hspot:0<len→0<c→a.spot=none:=fun h1 h2=>by
   obtain ⟨cs',hc,-⟩:=hi 0 (by omega)
   obtain ⟨_,_,hat⟩:=World.cells?_some hc
   have:=hat (i:=0) (by rw[hC];exact h2)
   have:(w.cell? ((a.add (0*P.cellsOf e)).add 0)).isSome=true:=by
    rw[this,List.getElem?_eq_getElem (by omega)];rfl
   cases hs:a.spot with
   |none=>rfl
   |some s=>simp[World.cell?,Addr.add,hs] at this;split at this<;>simp at this
  have key:∀ k,k≤len→∃ l:List α,l.length=k∧(∀ x∈l,Q x)∧∀ i v,(l.flatMap f)[i]?=some v→w.cell? (a.add i)=some v:=by
   intro k
   induction k with
   |zero=>intro _;exact ⟨[],rfl,by simp,fun i v h=>by simp at h⟩
   |succ k ih=>
    intro hk
    obtain ⟨l,h1,h2,h3⟩:=ih (by omega)
    obtain ⟨cs',hc,ht'⟩:=hi k (by omega)
    obtain ⟨b,rfl,hq⟩:=hel _ _ _ ht'
    obtain ⟨_,hcl,hat⟩:=World.cells?_some hc
    refine ⟨l++[b],by simp[h1],fun x hx=>?_,fun i v hv=>?_⟩
    ·rcases List.mem_append.1 hx with hx|hx
     ·exact h2 x hx
     ·simp at hx;rw[hx];exact hq
    ·rw[List.flatMap_append] at hv
     simp only[List.flatMap_cons,List.flatMap_nil,List.append_nil] at hv
     have hll:(l.flatMap f).length=k*c:=by rw[zj0 f c hf,h1]
     rw[List.getElem?_append] at hv
     split at hv
     ·exact h3 i v hv
     ·rename_i hge
      rw[hll] at hge hv
      have hj:i-k*c<c:=by have:=(List.getElem?_eq_some_iff.1 hv).1;rw[hf] at this;exact this
      have:=hat (i:=i-k*c) (by rw[hC];exact hj)
      rw[hv,Go.Deep.add_add,hC,show k*c+(i-k*c)=i by omega] at this
      exact this
  obtain ⟨l,h1,h2,h3⟩:=key len (Nat.le_refl _)
  refine ⟨some a,len,cap,l,rfl,h1.symm,⟨some a,cap,by rw[h1],by omega,fun i v hv=>?_⟩,h2⟩
  have hv':=h3 i v hv
  have hl0:0<len:=by
   rcases Nat.eq_zero_or_pos len with h0|h0
   ·have:l=[]:=List.eq_nil_of_length_eq_zero (by omega)
    subst this;simp at hv
   ·exact h0
  have hc0:0<c:=by
   rcases Nat.eq_zero_or_pos c with h0|h0
   ·have:=zj0 f c hf l
    rw[h0,Nat.mul_zero] at this
    rw[List.eq_nil_of_length_eq_zero this] at hv;simp at hv
   ·exact h0
  have hs:=hspot hl0 hc0
  obtain ⟨ab,ao,sp⟩:=a
  simp only at hs
  subst hs
  exact ⟨ab,ao,rfl,by rw[Addr.add_lit] at hv';exact hv'⟩
theorem zlk {fuel:Nat} {cs:List Value} {x:DataW H × List MemPlace} (h:DataW.trod enc Tryz.prog w base spare held fuel 28 cs=some x) :
 ∃ (a:State),cs=a.cells∧I64 a.t∧I64 a.p.x.lo∧I64 a.p.x.hi∧I64 a.p.y.lo∧I64 a.p.y.hi∧I64 a.p.z.lo∧I64 a.p.z.hi∧I64 a.v.x.lo∧I64 a.v.x.hi∧I64 a.v.y.lo∧I64 a.v.y.hi∧I64 a.v.z.lo∧I64 a.v.z.hi∧I64 a.m.lo∧I64 a.m.hi:=by
 obtain ⟨xs,n,rfl,-,hl,hxl,hf⟩:=DataW.trod_struct Tryz.underlying28 h
 have hxl:xs.length=4:=hxl
 have hC:Tryz.prog.cellsOf 28=15:=by kernel_rfl
 obtain ⟨c0,c1,c2,c3,c4,c5,c6,c7,c8,c9,c10,c11,c12,c13,c14,rfl⟩:=zqG (hl.trans hC)
 have f0:DataW.trod enc Tryz.prog w base spare held n 22 (([c0,c1,c2,c3,c4,c5,c6,c7,c8,c9,c10,c11,c12,c13,c14].drop 0).take (Tryz.prog.cellsOf 22))=xs[0]?:=hf 0 _ rfl
 rw[List.getElem?_eq_getElem (by omega)] at f0
 simp only[show Tryz.prog.cellsOf 22=1 by kernel_rfl] at f0
 have f1:DataW.trod enc Tryz.prog w base spare held n 26 (([c0,c1,c2,c3,c4,c5,c6,c7,c8,c9,c10,c11,c12,c13,c14].drop 1).take (Tryz.prog.cellsOf 26))=xs[1]?:=hf 1 _ rfl
 rw[List.getElem?_eq_getElem (by omega)] at f1
 simp only[show Tryz.prog.cellsOf 26=6 by kernel_rfl] at f1
 have f2:DataW.trod enc Tryz.prog w base spare held n 26 (([c0,c1,c2,c3,c4,c5,c6,c7,c8,c9,c10,c11,c12,c13,c14].drop 7).take (Tryz.prog.cellsOf 26))=xs[2]?:=hf 2 _ rfl
 rw[List.getElem?_eq_getElem (by omega)] at f2
 simp only[show Tryz.prog.cellsOf 26=6 by kernel_rfl] at f2
 have f3:DataW.trod enc Tryz.prog w base spare held n 24 (([c0,c1,c2,c3,c4,c5,c6,c7,c8,c9,c10,c11,c12,c13,c14].drop 13).take (Tryz.prog.cellsOf 24))=xs[3]?:=hf 3 _ rfl
 rw[List.getElem?_eq_getElem (by omega)] at f3
 simp only[show Tryz.prog.cellsOf 24=2 by kernel_rfl] at f3
 have s0:=(zcS Tryz.prog 12 22 1 _ _ _ (by kernel_rfl) f0).2
 obtain ⟨k0,rfl,b0⟩:=s0 0 c0 rfl
 have s1:=(zcS Tryz.prog 12 26 6 _ _ _ (by kernel_rfl) f1).2
 obtain ⟨k1,rfl,b1⟩:=s1 0 c1 rfl
 obtain ⟨k2,rfl,b2⟩:=s1 1 c2 rfl
 obtain ⟨k3,rfl,b3⟩:=s1 2 c3 rfl
 obtain ⟨k4,rfl,b4⟩:=s1 3 c4 rfl
 obtain ⟨k5,rfl,b5⟩:=s1 4 c5 rfl
 obtain ⟨k6,rfl,b6⟩:=s1 5 c6 rfl
 have s2:=(zcS Tryz.prog 12 26 6 _ _ _ (by kernel_rfl) f2).2
 obtain ⟨k7,rfl,b7⟩:=s2 0 c7 rfl
 obtain ⟨k8,rfl,b8⟩:=s2 1 c8 rfl
 obtain ⟨k9,rfl,b9⟩:=s2 2 c9 rfl
 obtain ⟨k10,rfl,b10⟩:=s2 3 c10 rfl
 obtain ⟨k11,rfl,b11⟩:=s2 4 c11 rfl
 obtain ⟨k12,rfl,b12⟩:=s2 5 c12 rfl
 have s3:=(zcS Tryz.prog 12 24 2 _ _ _ (by kernel_rfl) f3).2
 obtain ⟨k13,rfl,b13⟩:=s3 0 c13 rfl
 obtain ⟨k14,rfl,b14⟩:=s3 1 c14 rfl
 exact ⟨⟨k0,⟨⟨k1,k2⟩,⟨k3,k4⟩,⟨k5,k6⟩⟩,⟨⟨k7,k8⟩,⟨k9,k10⟩,⟨k11,k12⟩⟩,⟨k13,k14⟩⟩,rfl,zcU b0,zcU b1,zcU b2,zcU b3,zcU b4,zcU b5,zcU b6,zcU b7,zcU b8,zcU b9,zcU b10,zcU b11,zcU b12,zcU b13,zcU b14⟩
end
end Go.Proofs.YtdkfkalplmgoeaaGreat
namespace Go.Proofs.YtdkfkalplmgoeaaGreat
open Go.RowKit Go.ChangeShapes Go.WideShapes Go.ChangeAt Go.Deep
set_option maxRecDepth 100000
set_option maxHeartbeats 8000000
section
variable {H:Type} {enc:TypeId × Value→H} {P:Program} {w:World} {base:Nat} {spare:Nat→Bool} {held:Bool}
end
theorem zjQ {b:Bx} (h1:I64 b.x.lo) (h2:I64 b.x.hi) (h3:I64 b.y.lo) (h4:I64 b.y.hi) (h5:I64 b.z.lo) (h6:I64 b.z.hi):B64 b:=⟨⟨h1,h2⟩,⟨h3,h4⟩,⟨h5,h6⟩⟩
section
variable {H:Type} {enc:TypeId × Value→H} {w:World} {base:Nat} {spare:Nat→Bool} {held:Bool}
theorem zjt {fuel:Nat} {cs:List Value} {x:DataW H × List MemPlace} (h:DataW.trod enc Tryz.prog w base spare held fuel 29 cs=some x) :
 ∃ (ao:Option Addr) (cap:Nat) (l:List Radio),cs=[.slice ao l.length cap]∧SlAt w (.slice ao l.length cap) l.length (l.flatMap Radio.cells)∧∀ m∈l,Ra64 m:=by
 obtain ⟨ao,n,cap,l,e,hn,h1,h2⟩:=zlg Radio.cells (c:=15) (fun _=>rfl) Ra64 Tryz.underlying29 (by kernel_rfl) (fun m cs' x' h'=>by
  obtain ⟨hl,hi⟩:=zcS Tryz.prog 12 88 15 m cs' x' (by kernel_rfl) h'
  obtain ⟨ns,e,hb⟩:=ziV cs' hi
  rw[e,List.length_map] at hl
  obtain ⟨c0,c1,c2,c3,c4,c5,c6,c7,c8,c9,c10,c11,c12,c13,c14,rfl⟩:∃ c0 c1 c2 c3 c4 c5 c6 c7 c8 c9 c10 c11 c12 c13 c14,ns=[c0,c1,c2,c3,c4,c5,c6,c7,c8,c9,c10,c11,c12,c13,c14]:=by
   match ns,hl with|[c0,c1,c2,c3,c4,c5,c6,c7,c8,c9,c10,c11,c12,c13,c14],_=>exact ⟨c0,c1,c2,c3,c4,c5,c6,c7,c8,c9,c10,c11,c12,c13,c14,rfl⟩
  exact ⟨⟨c0,⟨⟨c1,c2⟩,⟨c3,c4⟩,⟨c5,c6⟩⟩,⟨⟨c7,c8⟩,⟨c9,c10⟩,⟨c11,c12⟩⟩,⟨c13,c14⟩⟩,e,⟨zjQ (hb c1 (by simp)) (hb c2 (by simp)) (hb c3 (by simp)) (hb c4 (by simp)) (hb c5 (by simp)) (hb c6 (by simp)),zjQ (hb c7 (by simp)) (hb c8 (by simp)) (hb c9 (by simp)) (hb c10 (by simp)) (hb c11 (by simp)) (hb c12 (by simp)),⟨hb c13 (by simp),hb c14 (by simp)⟩⟩⟩) h
 subst hn
 exact ⟨ao,cap,l,e,h1,h2⟩
end
end Go.Proofs.YtdkfkalplmgoeaaGreat
namespace Go.Proofs.YtdkfkalplmgoeaaGreat
open Go.RowKit Go.Shelf
set_option maxRecDepth 100000
set_option maxHeartbeats 8000000
def zp3 (L:List Int) (e:Int) (w:World) (en:Ending) (w':World):Prop:=∃ v,en=.returned (.tuple #[v,.int .i64 e])∧SlAt w' v L.length (L.flatMap intC)∧Grew w w'
open Classical in
noncomputable def zc1 (s:State) (l:List Radio) (n:Int):List Int:=if zaQ s l n=0∧(zaB za2 l n.toNat 0 s).e≠0 then zc2 s l n l.length else []
section
variable (s:State) (l:List Radio) (n:Int) [hp:Pv64 s] (hT:∀ m∈l,Ra64 m) (ao:Option Addr) (cap:Nat) (w:World) (hs:SlAt w (.slice ao l.length cap) l.length (l.flatMap Radio.cells))
include hT hs
theorem zjj:Calls Tryz.prog 7 #[.agg s.cells.toArray,.slice ao l.length cap,.int .i64 n] w (zp3 (zc1 s l n) (zaQ s l n) w):=by
 by_cases hE:zaQ s l n=0
 ·by_cases h0:(zaB za2 l n.toNat 0 s).e=0
  ·rw[show zc1 s l n=[] by unfold zc1;rw[if_neg (fun h=>h.2 h0)],hE]
   exact (zip s l n hT ao cap w hs hE h0).mono fun _ _ ⟨h1,h2⟩=>⟨_,h1,SlAt.nil _,h2⟩
  ·rw[show zc1 s l n=zc2 s l n l.length by unfold zc1;rw[if_pos ⟨hE,h0⟩],hE]
   exact ziq s l n hT ao cap w hs hE h0
 ·rw[show zc1 s l n=[] by unfold zc1;rw[if_neg (fun h=>hE h.1)]]
  exact (zjk s l n ao cap w hs hE).mono fun _ _ ⟨h1,h2⟩=>⟨_,h1,SlAt.nil _,h2⟩
theorem zk8:Calls Tryz.prog 8 #[.agg s.cells.toArray,.slice ao l.length cap,.int .i64 n] w (zp3 (zc1 s l n) (zaQ s l n) w):=by
 by_cases hE:zaQ s l n=0
 ·by_cases h0:(zaB za2 l n.toNat 0 s).e=0
  ·rw[show zc1 s l n=[] by unfold zc1;rw[if_neg (fun h=>h.2 h0)],hE]
   exact (zjp s l n hT ao cap w hs hE h0).mono fun _ _ ⟨h1,h2⟩=>⟨_,h1,SlAt.nil _,h2⟩
  ·rw[show zc1 s l n=zc2 s l n l.length by unfold zc1;rw[if_pos ⟨hE,h0⟩],hE]
   refine zjq s l n hT ao cap w hs hE ?_
   rcases zlR za2 l n.toNat 0 s with h|h
   ·exact absurd h.1 h0
   ·exact h.1
 ·rw[show zc1 s l n=[] by unfold zc1;rw[if_neg (fun h=>hE h.1)]]
  exact (zk9 s l n ao cap w hs hE).mono fun _ _ ⟨h1,h2⟩=>⟨_,h1,SlAt.nil _,h2⟩
end
theorem zjD (s:State) (l:List Radio) (wrong n:Int) [hp:Pv64 s] (hT:∀ m∈l,Ra64 m) (ao:Option Addr) (cap:Nat) (w:World) (hs:SlAt w (.slice ao l.length cap) l.length (l.flatMap Radio.cells)) :
 Calls Tryz.prog 3 #[.agg s.cells.toArray,.slice ao l.length cap,.int .i64 wrong,.int .i64 n] w fun e w'=>e=.returned (.bool true)∧Grew w w':=by
 by_cases hl:l.length≤6∨16<l.length
 ·have H1:=Lib.hid (fun w' (g:Grew w w')=>show Calls Tryz.prog 5 #[.agg s.cells.toArray,.slice ao l.length cap,.int .i64 wrong,.int .i64 n] w' (fun e w''=>e=.returned (.tuple #[.agg (zb8 s l wrong n).s.cells.toArray,.int .i64 (zb8 s l wrong n).e])∧Grew w' w'') from zir s l wrong n hT ao cap w' (hs.grew g))
  have H2:=Lib.hid (fun w' (g:Grew w w')=>show Calls Tryz.prog 6 #[.agg s.cells.toArray,.slice ao l.length cap,.int .i64 wrong,.int .i64 n] w' (fun e w''=>e=.returned (.tuple #[.agg (zb8 s l wrong n).s.cells.toArray,.int .i64 (zb8 s l wrong n).e])∧Grew w' w'') from by
   have:=zjr s l wrong n hT ao cap w' (hs.grew g)
   rw[zln hl] at this
   exact this)
  have H3:=Lib.hid (fun w' (g:Grew w w')=>zjj s l n hT ao cap w' (hs.grew g))
  have H4:=Lib.hid (fun w' (g:Grew w w')=>zk8 s l n hT ao cap w' (hs.grew g))
  have hEq:∀ (a:State) (w:World),(Op.equalIn 10000 28 (.agg a.cells.toArray) (.agg a.cells.toArray)).run Tryz.prog w=.ok true w:=fun a w=>by rw[zi5,zcr.2 rfl]
  clear hs hT
  generalize zb8 s l wrong n=R at *
  generalize zc1 s l n=L at *
  generalize zaQ s l n=E at *
  by_cases h20:20<l.length
  ·have c1:(6:Int)<l.length:=by omega
   have c2:¬ ((l.length:Int)≤16):=by omega
   have c3:(20:Int)<l.length:=by omega
   clear hl hEq
   go_enter Tryz.func3,Tryz.ntmps3
   go_wp2
   go_ret
   exact ⟨rfl,gw⟩
  rcases (show ((l.length:Int)≤6)∨((6:Int)<l.length∧¬ ((l.length:Int)≤16)) by omega) with c1|⟨c1,c2⟩
  all_goals
   have c3:¬ ((20:Int)<l.length):=by omega
   clear hl h20
   rcases (show (¬ ((4:Int)<n))∨((4:Int)<n∧n≤16)∨((4:Int)<n∧¬ (n≤16)) by omega) with d1|⟨d1,d2⟩|⟨d1,d2⟩
   rotate_left
   ·clear hEq
    go_enter Tryz.func3,Tryz.ntmps3
    go_wp2
    go_ret
    exact ⟨rfl,gw⟩
   all_goals
    go_enter Tryz.func3,Tryz.ntmps3
    go_wp2_with (first|(go_at_call 5;(with_reducible refine zaa (H1.out _ gwr) ?_);intro u1)|(go_at_call 6;(with_reducible refine zaa (H2.out _ gwr) ?_);intro u2)|(go_at_call 7;refine (H3.out _ gwr).mono ?_;rintro e w' ⟨v3,rfl,hs3,hg3⟩;obtain ⟨z3,rfl⟩:=zaj hg3;clear hg3)|(go_at_call 8;refine (H4.out _ gwr).mono ?_;rintro e w' ⟨v4,rfl,hs4,hg4⟩;obtain ⟨z4,rfl⟩:=zaj hg4;clear hg4)|(go_at_call 9;refine zaa (zgI L _ _ _ (hs3.grew gwr) (hs4.grew gwr)) ?_;intro u5)|(with_reducible refine wLi ?_)|(with_reducible refine wSf ?_)|(with_reducible refine wSi ?_))
    go_ret
    exact ⟨rfl,gwr⟩
 ·have c1:(6:Int)<l.length:=by omega
  have c2:(l.length:Int)≤16:=by omega
  clear hl hs hT
  go_enter Tryz.func3,Tryz.ntmps3
  go_wp2
  go_ret
  exact ⟨rfl,gw⟩
end Go.Proofs.YtdkfkalplmgoeaaGreat
namespace Go.Proofs.YtdkfkalplmgoeaaGreat
open Go.RowKit Go.ChangeShapes Go.WideShapes Go.ChangeAt Go.Deep
set_option maxRecDepth 100000
set_option maxHeartbeats 8000000
namespace navTrustsRow
open Go.ChangeShapes Go.WideShapes Go.ChangeAt Go.RowKit
theorem own:ownKnob Tryz.prog.godebug=none:=by kernel_rfl
theorem lifted (os:Os) (started:os.Started) (H:Type) (enc:TypeId × Value→H) :
 ReturnsInHanded {} Tryz.checked os 3 .any (Rows.navTrustsSpec.pre6 enc Tryz.prog Tryz.f3 Rows.navTrustsRow.domain false) (Rows.navTrustsSpec.post enc Tryz.prog Tryz.f3 false true false false):=by
 refine returnsInHanded_of_change (C:=Tryz.checked) own started (by kernel_rfl) Tryz.func3
  (ChangeSpec.witness6 (enc:=enc) (C:=Tryz.checked) false ⟨#[],#[.agg #[.int .i64 0,.int .i64 0,.int .i64 0,.int .i64 0,.int .i64 0,.int .i64 0,.int .i64 0,.int .i64 0,.int .i64 0,.int .i64 0,.int .i64 0,.int .i64 0,.int .i64 0,.int .i64 0,.int .i64 0],.slice none 0 0,.int .i64 0,.int .i64 0],[]⟩ 8 (by as_aux_lemma=>kernel_rfl) (by as_aux_lemma=>kernel_rfl) (by as_aux_lemma=>kernel_rfl) (by as_aux_lemma=>kernel_rfl)) ?_
 intro W base args ds gs before hval0 hW _ _
 have hval:∀ (j:Nat) t v,Tryz.f3.params[j]?=some t→args[j]?=some v→Value.okWide Tryz.prog W .any base t v:=hval0
 have hW':=hW
 obtain ⟨p,q,hA0,hV,rfl,hfz,hnd⟩:=hW
 have hA:DataW.TrodAll enc Tryz.prog W 0 (fun _=>true) true Tryz.f3.params.toList args.toList ds p:=hA0
 rw[Tryz.params3] at hA hval
 obtain ⟨v0,vs0,d0,ds0,p0,q0,hargs,rfl,rfl,h0,r0⟩:=trodAll_cons hA
 obtain ⟨v1,vs1,d1,ds1,p1,q1,rfl,rfl,rfl,h1,r1⟩:=trodAll_cons r0
 obtain ⟨v2,vs2,d2,ds2,p2,q2,rfl,rfl,rfl,h2,r2⟩:=trodAll_cons r1
 obtain ⟨v3,vs3,d3,ds3,p3,q3,rfl,rfl,rfl,h3,r3⟩:=trodAll_cons r2
 obtain ⟨rfl,rfl,rfl⟩:=trodAll_nil r3
 obtain rfl:args=#[v0,v1,v2,v3]:=by cases args;simp_all
 obtain ⟨rfl,rfl⟩:=trodVars_none hV
 obtain ⟨cs0,rfl,-⟩:=okWide_struct Tryz.underlying28 (hval 0 28 v0 rfl rfl)
 obtain ⟨ao1,n1,cap1,rfl⟩:=okWide_slice Tryz.underlying29 (hval 1 29 v1 rfl rfl)
 obtain ⟨a2,rfl,-,-⟩:=zkb Tryz.underlying3 (hval 2 3 v2 rfl rfl) h2
 obtain ⟨a4,rfl,-,-⟩:=zkb Tryz.underlying3 (hval 3 3 v3 rfl rfl) h3
 obtain ⟨_,h0⟩:=h0
 obtain ⟨_,h1⟩:=h1
 obtain ⟨a3,e3,s1,s2,s3,s4,s5,s6,s7,s8,s9,s10,s11,s12,s13,s14,s15⟩:=zlk h0
 obtain ⟨ao,cap,l,e1,hl,hT⟩:=zjt h1
 obtain rfl:cs0=a3.cells.toArray:=Array.ext' (by simpa [Value.cells] using e3)
 obtain ⟨rfl,rfl,rfl⟩:ao1=ao∧n1=l.length∧cap1=cap:=by simpa [Value.cells] using e1
 have hA:Pv64 a3:=⟨zjQ s2 s3 s4 s5 s6 s7,zjQ s8 s9 s10 s11 s12 s13⟩
 refine (zjD a3 l a2 a4 hT ao1 cap1 W hl).mono fun e W' ⟨he,hg⟩=>?_
 subst he
 exact ⟨_,rfl,znK (by kernel_rfl) (by kernel_rfl) rfl rfl Tryz.underlying4 hW' rfl hg⟩
theorem proved:Rows.NavTrustsSaid:=
 OpenClaim.holds_of_wide 3 Tryz.f3 rfl rfl rfl rfl rfl rfl rfl ⟨rfl,rfl,rfl,rfl,rfl⟩ rfl rfl rfl rfl rfl (by as_aux_lemma=>kernel_rfl) Tryz.func3 (by as_aux_lemma=>kernel_rfl)
  (of_decide_eq_true (by as_aux_lemma=>kernel_rfl)) (by unfold Func.isWrapper;first|(rw[if_pos (by decide +kernel)];kernel_rfl)|(rw[if_neg (by decide +kernel)];exact ⟨rfl,rfl⟩))
  (fun os started H enc _=>lifted os started H enc)
end navTrustsRow
end Go.Proofs.YtdkfkalplmgoeaaGreat
