/-
  Joined: RefFlyLaw.
-/
import Derived.Test.YtdkfkalplmgoeaaGreatAlive03H
namespace Go.Proofs.YtdkfkalplmgoeaaGreat
set_option maxRecDepth 100000
def zdc (a:Arc) (j:Nat):Int:=if j≤zcv a then a.time-j*a.step else 0
theorem zgc (a:Arc) (h1:1≤a.time) (h2:1≤a.step):(zcv a:Int)*a.step+zcU a=a.time∧0≤zcU a∧zcU a<a.step:=by
 have q0:0≤a.time/a.step:=Int.ediv_nonneg (by omega) (by omega)
 have n1:=Int.emod_nonneg a.time (show a.step≠0 by omega)
 have n2:=Int.emod_lt_of_pos a.time (show 0<a.step by omega)
 have n3:=Int.mul_ediv_add_emod a.time a.step
 unfold zcv zcU
 rw[Int.toNat_of_nonneg q0,Int.mul_comm]
 omega
theorem znX (a:Arc):zdc a 0=a.time:=by
 unfold zdc
 rw[if_pos (Nat.zero_le _)]
 simp
theorem znW (a:Arc) (h1:1≤a.time) (h2:1≤a.step) (j:Nat) (hj:j<(zaZ a).length):0<zdc a j∧zdc a j≤a.time∧imin (zdc a j) a.step=(zaZ a)[j]∧zdc a j-(zaZ a)[j]=zdc a (j+1):=by
 obtain ⟨e,r0,r1⟩:=zgc a h1 h2
 by_cases c:j<zcv a
 ·have eg:(zaZ a)[j]=a.step:=by
   have h:(zaZ a)[j]?=some a.step:=by
    unfold zaZ
    rw[List.getElem?_append_left (by simpa using c)]
    simp[c]
   rw[List.getElem?_eq_getElem hj] at h
   exact Option.some.inj h
  have k1:zdc a j=a.time-j*a.step:=by unfold zdc;rw[if_pos (by omega)]
  have k2:zdc a (j+1)=a.time-j*a.step-a.step:=by
   unfold zdc
   rw[if_pos (by omega),Int.natCast_add,Int.add_mul]
   simp
   omega
  have k3:(j+1:Int)*a.step≤(zcv a:Int)*a.step:=Int.mul_le_mul_of_nonneg_right (by omega) (by omega)
  rw[Int.add_mul] at k3
  have k4:0≤(j:Int)*a.step:=Int.mul_nonneg (by omega) (by omega)
  rw[eg,k1,k2]
  unfold imin
  refine ⟨by omega,by omega,?_,rfl⟩
  split<;>omega
 ·have hr:0<zcU a∧j=zcv a:=by
   unfold zaZ at hj
   rw[List.length_append,List.length_replicate] at hj
   split at hj
   ·simp at hj
    omega
   ·simp at hj
    omega
  obtain ⟨hr,rfl⟩:=hr
  have eg:(zaZ a)[zcv a]=zcU a:=by
   have h:(zaZ a)[zcv a]?=some (zcU a):=by
    unfold zaZ
    rw[if_pos hr,List.getElem?_append_right (by simp)]
    simp
   rw[List.getElem?_eq_getElem hj] at h
   exact Option.some.inj h
  have k1:zdc a (zcv a)=zcU a:=by unfold zdc;rw[if_pos (Nat.le_refl _)];omega
  have k2:zdc a (zcv a+1)=0:=by unfold zdc;rw[if_neg (by omega)]
  rw[eg,k1,k2]
  unfold imin
  have k4:0≤(zcv a:Int)*a.step:=Int.mul_nonneg (by omega) (by omega)
  refine ⟨by omega,by omega,?_,by omega⟩
  split<;>omega
theorem zpS (a:Arc) (h1:1≤a.time) (h2:1≤a.step):zdc a (zaZ a).length=0:=by
 obtain ⟨e,r0,r1⟩:=zgc a h1 h2
 unfold zaZ
 rw[List.length_append,List.length_replicate]
 unfold zdc
 split
 ·rename_i c
  rw[if_neg]
  simp
 ·simp
  omega
def zcf (a:Arc):Nat→List Int
 |0=>[]
 |1=>if 0<zcU a then [-zcU a] else []
 |k+2=>zcf a (k+1)++[-a.step]
theorem zl5 (a:Arc):∀ k,zcf a (k+1)=(if 0<zcU a then [-zcU a] else [])++List.replicate k (-a.step)
 |0=>by simp[zcf]
 |k+1=>by
  rw[zcf,zl5 a k,List.append_assoc,List.replicate_succ']
theorem zkg (a:Arc):zcf a (zcv a+1)=zc1 a:=zl5 a _
theorem zfc {a b:Sp} (h:(addR a b).e=0):(addR a b).s.okB=true∧zdX (a.lo+b.lo)=true:=by
 obtain ⟨h1,h2,h3⟩:=add_zero h
 have h4:=h
 unfold addR at h4
 rw[h1,h2,if_pos (by rfl)] at h4
 obtain ⟨-,k1,k2⟩:=zeH h4
 rw[h3]
 have:=zgN h1
 have:=zgN h2
 unfold Sp.okB numB zdX
 simp only[Bool.and_eq_true,decide_eq_true_eq]
 omega
theorem zsC {a b:Sp} (h:(subR a b).e=0):(subR a b).s.okB=true:=by
 obtain ⟨e1,-⟩:=zhs h
 rw[e1] at h ⊢
 exact (zfc h).1
theorem zqC {p:Planet} {x:Arc} {l:List Pt} {s:State} {h:Int} (z:(zaO p x l s h).e=0):(zaO p x l s h).s.okB=true:=by
 have hz:∀ e:Int,e≠0→(zeB e).e≠0:=fun e h=>h
 unfold zaO zcV at z
 generalize hm:stM x s h (stF s h).e=M at z
 generalize hE:stE x s h (stF s h).e=E at z
 generalize hT:ze9 p x l s h M.s E=T at z
 split at z
 case isFalse=>
  split at z
  ·exact absurd z (by decide)
  ·exact absurd z (hz _ (by assumption))
 rename_i kf
 have hE0:E=0:=by
  by_cases c:E=0
  ·exact c
  ·have:=(zdu (ff:=fun q v e=>zaD p x l q v M.s e) (rr:=fun v f e=>zba s.p s.v (stD h) v f e) (wf:=wdR) (fun _ _ _ he=>zfL _ _ _ _ _ he) (fun _ _ _ he=>zfB _ _ _ _ _ _ he) c 8 s.p s.v).1
   rw[←hT] at kf
   exact absurd (this.symm.trans kf) (by decide)
 have hM0:M.e=0∧0<M.s.lo:=by
  unfold stE at hE
  rw[hm] at hE
  split at hE
  ·omega
  ·rename_i k
   have:M.e=0:=hE.trans hE0
   refine ⟨this,?_⟩
   by_cases c:M.s.lo≤0
   ·exact absurd ⟨this,c⟩ k
   ·omega
 have hm':=hm
 unfold stM at hm
 obtain ⟨e1,y1⟩:=zdj (hm▸hM0.1)
 obtain ⟨e2,y2⟩:=zdj (show (doR (stF s h).e _).e=0 from e1)
 have a1:stL x h (stF s h).e=mulR x.flow (stD h):=by unfold stL;rw[e2];rfl
 rw[a1] at y1 hm e1
 have a2:M=subR s.m (mulR x.flow (stD h)).s:=by rw[←hm,e1];rfl
 have a3:stF s h=addR ⟨s.t,s.t⟩ ⟨h,h⟩:=rfl
 rw[a3] at e2
 have a4:=(add_zero e2).2.2
 have hT':=hT
 dsimp only at z
 unfold zeb at z
 split at z
 case isFalse=>exact absurd z (hz _ (by assumption))
 rename_i kl
 obtain ⟨b1,x1⟩:=zdj (show (doR (laN x s h _).e _).e=0 from kl)
 obtain ⟨b2,x2⟩:=zdj (show (doR (laG2 s h _).e _).e=0 from b1)
 obtain ⟨b3,g2⟩:=zkS (show (lpG _ _ _ _ _ _).e=0 from b2)
 obtain ⟨b4,g1⟩:=zkS (show (lpG _ _ _ _ _ _).e=0 from b3)
 obtain ⟨b5,g0⟩:=zkS (show (lpG _ _ _ _ _ _).e=0 from b4)
 have hs:zaO p x l s h=zeb x s h (stF s h).s.lo (zo9 s (stF s h).s.lo T M.s) (zaD p x l T.p T.v M.s 0):=by
  unfold zaO zcV
  rw[hm',hE,hT',if_pos kf]
 unfold zeb at hs
 rw[if_pos kl] at hs
 rw[hs]
 have c3:laN x s h (zaD p x l T.p T.v M.s 0)=mulR ⟨h,h⟩ x.flow:=by unfold laN;rw[b2];rfl
 have c4:laM x s h (zaD p x l T.p T.v M.s 0)=subR s.m (mulR ⟨h,h⟩ x.flow).s:=by unfold laM;rw[c3,x2];rfl
 rw[c3] at x1
 have hte:(stF s h).s.lo=s.t+h:=by rw[a3,a4]
 generalize zaD p x l T.p T.v M.s 0=F at *
 -- the mass
 have hD:Nw ⟨h,h⟩ (stD h):=by
  refine ⟨(mul_zero x2).1,?_⟩
  unfold stD imin imax
  constructor<;>simp only<;>(split<;>omega)
 have ym:(mulR (stD h) x.flow).e=0:=by
  have k:stL x h 0=mulR x.flow (stD h):=rfl
  have y3:(mulR x.flow (stD h)).e=0:=by
   have:=e1
   exact this
  rw[zjX]
  exact y3
 have mw:=(zp4 hD (zhO (mul_zero x2).2.1) ym).2
 rw[zjX (stD h)] at mw
 have xm:s.m.okB=true:=(add_zero ((zhs x1).1▸x1)).1
 have sw:=(zqD (zhO xm) mw y1).2
 have h1lo:1≤(subR s.m (mulR ⟨h,h⟩ x.flow).s).s.lo:=by
  have:=sw.2.1
  have h2:=hM0.2
  rw[a2] at h2
  omega
 have nt:=(zfc e2).2
 unfold zdX at nt
 simp only[Bool.and_eq_true,decide_eq_true_eq] at nt
 unfold State.okB Bx.okB
 simp only[Bool.and_eq_true,decide_eq_true_eq]
 have gd:∀ {g k o v f:Sp},((mulR g v).e=0∧(addR o (mulR g v).s).e=0∧(mulR k f).e=0∧(addR (addR o (mulR g v).s).s (mulR k f).s).e=0∧(mulR g f).e=0∧(addR v (mulR g f).s).e=0∧(lpD g k o v f 0).s=(addR (addR o (mulR g v).s).s (mulR k f).s).s∧(lpG g k o v f 0).s=(addR v (mulR g f).s).s)→True:=fun _=>trivial
 refine ⟨⟨⟨?_,⟨⟨?_,?_⟩,?_⟩,⟨?_,?_⟩,?_⟩,?_⟩,?_⟩
 ·rw[hte]
  unfold numB
  simp only[decide_eq_true_eq]
  omega
 ·show (laD0 s h F).s.okB=true
  unfold laD0
  rw[g0.2.2.2.2.2.2.1]
  exact (zfc g0.2.2.2.1).1
 ·show (laD1 s h F).s.okB=true
  unfold laD1
  rw[g1.2.2.2.2.2.2.1]
  exact (zfc g1.2.2.2.1).1
 ·show (laD2 s h F).s.okB=true
  unfold laD2
  rw[g2.2.2.2.2.2.2.1]
  exact (zfc g2.2.2.2.1).1
 ·show (laG0 s h F).s.okB=true
  unfold laG0
  rw[g0.2.2.2.2.2.2.2]
  exact (zfc g0.2.2.2.2.2.1).1
 ·show (laG1 s h F).s.okB=true
  unfold laG1
  rw[g1.2.2.2.2.2.2.2]
  exact (zfc g1.2.2.2.2.2.1).1
 ·show (laG2 s h F).s.okB=true
  unfold laG2
  rw[g2.2.2.2.2.2.2.2]
  exact (zfc g2.2.2.2.2.2.1).1
 ·show (laM x s h F).s.okB=true
  rw[c4]
  exact zsC x1
 ·show 1≤(laM x s h F).s.lo
  rw[c4]
  exact h1lo
theorem ziV {p:Planet} {x:Arc} {l:List Pt}:∀ (r:List Int) (s:State) (T:List Tube),s.okB=true→(zan p x l s T r).e=0→(zan p x l s T r).s.okB=true
 |[],_,_,h,_=>h
 |y::r,s,T,h,z=>by
  rw[zbz] at z ⊢
  split
  ·rename_i k
   rw[if_pos k] at z
   exact ziV r _ _ (zqC k) z
  ·rename_i k
   rw[if_neg k] at z
   exact absurd z k
theorem zpa {p:Planet} {x:Arc} {l:List Pt} {s:State} {h:Int} (hp:p.okB=true) (hx:x.okB l=true) (hs:s.okB=true) (hh:numB h=true) (h0:h≠0):zbW p x l s h=zaO p x l s h:=by
 unfold zbW
 rw[if_pos]
 unfold zfs
 rw[hp,hx,hs,hh]
 simp[h0]
def Arc.re (x:Arc) (d:Sl):Arc:=⟨x.time,x.step,x.thrust,x.flow,x.dir,d,x.drop⟩
theorem zsh (x:Arc) (d:Sl) (l:List Pt):zaE (x.re d) l=zaE x l:=rfl
theorem zuo (x:Arc) (d:Sl) (l:List Pt):zaF (x.re d) l=zaF x l:=rfl
theorem zqm (x:Arc) (d:Sl):zaZ (x.re d)=zaZ x:=rfl
theorem zql (x:Arc) (d:Sl):zc1 (x.re d)=zc1 x:=rfl
theorem zsj (p:Planet) (x:Arc) (d:Sl) (l:List Pt) (s:State) (h:Int):zaO p (x.re d) l s h=zaO p x l s h:=rfl
theorem zjl (p:Planet) (x:Arc) (d:Sl) (l:List Pt):∀ (r:List Int) (s:State) (T:List Tube),zan p (x.re d) l s T r=zan p x l s T r
 |[],_,_=>rfl
 |h::r,s,T=>by
  rw[zbz,zbz,zsj,zjl p x d l r]
theorem zsi (m:Sp) (x:Arc) (d:Sl):zeo m (x.re d)=zeo m x:=rfl
inductive ReL:Arcs→Arcs→Prop
 |nil:ReL [] []
 |cons {x:Arc × List Pt} {r r':Arcs} (d:Sl) (h:ReL r r'):ReL (x::r) ((x.1.re d,x.2)::r')
theorem ReL.snoc {L L':Arcs} (h:ReL L L') (x:Arc × List Pt) (d:Sl):ReL (L++[x]) (L'++[(x.1.re d,x.2)]):=by
 induction h with
 |nil=>exact .cons d .nil
 |cons e _ ih=>exact .cons e ih
theorem ReL.rev {L L':Arcs} (h:ReL L L'):ReL L.reverse L'.reverse:=by
 induction h with
 |nil=>exact .nil
 |cons e _ ih=>
  rw[List.reverse_cons,List.reverse_cons]
  exact ih.snoc _ e
theorem ReL.len {L L':Arcs} (h:ReL L L'):L'.length=L.length:=by
 induction h with
 |nil=>rfl
 |cons e _ ih=>simp[ih]
theorem ReL.fit {m:Int} {L L':Arcs} (h:ReL L L'):∀ s,fitB m s L'=fitB m s L:=by
 induction h with
 |nil=>intro s;rfl
 |cons e _ ih=>
  intro s
  unfold fitB
  rw[zsh,zuo,ih]
theorem ReL.bad {L L':Arcs} (h:ReL L L'):L'.any badB=L.any badB:=by
 induction h with
 |nil=>rfl
 |cons e _ ih=>
  rw[List.any_cons,List.any_cons,ih]
  rfl
theorem ReL.check {L L':Arcs} (h:ReL L L') (p:Planet) (s:State):za4 p L' s=za4 p L s:=by
 unfold za4 zcN
 rw[h.bad,h.fit,h.len]
theorem ReL.go {L L':Arcs} (h:ReL L L') (p:Planet):∀ (s:State) (S:List State) (T:List Tube),zgb p s S T L'=zgb p s S T L:=by
 induction h with
 |nil=>intro s S T;rfl
 |cons e _ ih=>
  intro s S T
  unfold zgb
  simp only[zqm,zjl,zsi,ih]
theorem ReL.back {L L':Arcs} (h:ReL L L') (p:Planet):∀ (s:State) (S:List State) (T:List Tube),ze6 p s S T L'=ze6 p s S T L:=by
 induction h with
 |nil=>intro s S T;rfl
 |@cons x r r' e _ ih=>
  intro s S T
  unfold ze6
  simp only[zql,zjl,ih,show (x.1.re e).drop=x.1.drop from rfl]
theorem ReL.flyRe {L L':Arcs} (h:ReL L L') (p:Planet) (s:State):flyR p L' s=flyR p L s:=by
 unfold flyR
 rw[h.check,h.go]
theorem ReL.backRe {L L':Arcs} (h:ReL L L') (p:Planet) (s:State):zd8 p L' s=zd8 p L s:=by
 unfold zd8
 rw[h.check,h.rev.back]
end Go.Proofs.YtdkfkalplmgoeaaGreat
