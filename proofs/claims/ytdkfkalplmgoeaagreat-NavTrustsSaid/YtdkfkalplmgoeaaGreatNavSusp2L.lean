/-
  Joined: NavSusp2.
-/
import Derived.Test.YtdkfkalplmgoeaaGreatEversL
import Derived.Deep.DeepCutAuto
import Derived.Deep.CutBlock
import Derived.Test.YtdkfkalplmgoeaaGreatRangeTwoL
namespace Go.Proofs.YtdkfkalplmgoeaaGreat
open Go.RowKit Go.Shelf
set_option maxRecDepth 100000
set_option maxHeartbeats 8000000
set_option linter.unusedSimpArgs false
theorem zg0 {k k':Nat→Bool}:∀ (l:List Radio) (i:Nat) (s:State),(∀ j,j<l.length→k (i+j)=k' (i+j))→zbq k l i s=zbq k' l i s
 |[],_,_,_=>rfl
 |m::l,i,s,h=>by
  have h0:=h 0 (by simp)
  rw[Nat.add_zero] at h0
  have hr:∀ s,zbq k l (i+1) s=zbq k' l (i+1) s:=fun s=>zg0 l (i+1) s fun j hj=>by
   have:=h (j+1) (by simp;omega)
   rwa [show i+(j+1)=i+1+j by omega] at this
  unfold zbq
  rw[h0]
  simp only[hr]
theorem ze1 {k k':Nat→Bool} {l:List Radio} (h:∀ j,j<l.length→k j=k' j):∀ (n:Nat) (u:Int) (s:State),zaB k l n u s=zaB k' l n u s
 |0,_,_=>rfl
 |n+1,u,s=>by
  unfold zaB
  rw[zg0 (k:=k) (k':=k') l 0 s (fun j hj=>by rw[Nat.zero_add];exact h j hj)]
  simp only[ze1 h n]
noncomputable def zc2 (s:State) (l:List Radio) (n:Int):Nat→List Int
 |0=>[]
 |k+1=>if (zaB (butK k) l n.toNat 0 s).e=0 then zc2 s l n k++[(k:Int)] else zc2 s l n k
theorem zgw (s:State) (l:List Radio) (n:Int):∀ k,(zc2 s l n k).length≤k
 |0=>Nat.le_refl _
 |k+1=>by
  have:=zgw s l n k
  unfold zc2
  split
  ·rw[List.length_append]
   simpa using this
  ·omega
theorem ziq (s:State) (l:List Radio) (n:Int) [hp:Pv64 s] (hT:∀ m∈l,Ra64 m) (ao:Option Addr) (cap:Nat) (w:World) (hs:SlAt w (.slice ao l.length cap) l.length (l.flatMap Radio.cells)) (hE:zaQ s l n=0) (h0:(zaB za2 l n.toNat 0 s).e≠0) :
 Calls Tryz.prog 7 #[.agg s.cells.toArray,.slice ao l.length cap,.int .i64 n] w (fun e w'=>∃ v,e=.returned (.tuple #[v,.int .i64 0])∧SlAt w' v (zc2 s l n l.length).length ((zc2 s l n l.length).flatMap intC)∧Grew w w'):=by
 obtain ⟨v1,v2,v3,v4⟩:=zcM hE
 have hm:=hs.len_le
 unfold maxLen at hm
 have HC:=Lib.hid (fun w' (g:Grew w w')=>show Calls Tryz.prog 17 #[.agg s.cells.toArray,.slice ao l.length cap,.int .i64 n] w' (fun e w''=>e=.returned (.int .i64 0)∧Grew w' w'') from zaH hE (zb3 s l n ao cap w' (hs.grew g)))
 have HF:=Lib.hid (fun w' (g:Grew w w')=>show Calls Tryz.prog 19 #[.agg s.cells.toArray,.slice ao l.length cap,.int .i64 n,.int .i64 0] w' (fun e w''=>e=.returned (.tuple #[.agg (zaB za2 l n.toNat 0 s).s.cells.toArray,.int .i64 (zaB za2 l n.toNat 0 s).n,.bool false])∧Grew w' w'') from by
  have:=zdB s l n 0 hT v4 v2 v3 v1 ao cap w' (hs.grew g)
  rw[zgR] at this
  unfold RetF at this
  rw[decide_eq_false h0] at this
  exact this)
 have HM:=Lib.hid (fun (k:Int) w' (g:Grew w w')=>show Calls Tryz.prog 19 #[.agg #[.int .i64 s.t,.int .i64 s.p.x.lo,.int .i64 s.p.x.hi,.int .i64 s.p.y.lo,.int .i64 s.p.y.hi,.int .i64 s.p.z.lo,.int .i64 s.p.z.hi,.int .i64 s.v.x.lo,.int .i64 s.v.x.hi,.int .i64 s.v.y.lo,.int .i64 s.v.y.hi,.int .i64 s.v.z.lo,.int .i64 s.v.z.hi,.int .i64 s.m.lo,.int .i64 s.m.hi],.slice ao l.length cap,.int .i64 n,.int .i64 k] w' (fun e w''=>e=.returned (.tuple #[.agg #[.int .i64 ((zaB (zbQ k) l n.toNat 0 s).s).t,.int .i64 ((zaB (zbQ k) l n.toNat 0 s).s).p.x.lo,.int .i64 ((zaB (zbQ k) l n.toNat 0 s).s).p.x.hi,.int .i64 ((zaB (zbQ k) l n.toNat 0 s).s).p.y.lo,.int .i64 ((zaB (zbQ k) l n.toNat 0 s).s).p.y.hi,.int .i64 ((zaB (zbQ k) l n.toNat 0 s).s).p.z.lo,.int .i64 ((zaB (zbQ k) l n.toNat 0 s).s).p.z.hi,.int .i64 ((zaB (zbQ k) l n.toNat 0 s).s).v.x.lo,.int .i64 ((zaB (zbQ k) l n.toNat 0 s).s).v.x.hi,.int .i64 ((zaB (zbQ k) l n.toNat 0 s).s).v.y.lo,.int .i64 ((zaB (zbQ k) l n.toNat 0 s).s).v.y.hi,.int .i64 ((zaB (zbQ k) l n.toNat 0 s).s).v.z.lo,.int .i64 ((zaB (zbQ k) l n.toNat 0 s).s).v.z.hi,.int .i64 ((zaB (zbQ k) l n.toNat 0 s).s).m.lo,.int .i64 ((zaB (zbQ k) l n.toNat 0 s).s).m.hi],.int .i64 (zaB (zbQ k) l n.toNat 0 s).n,.bool (decide ((zaB (zbQ k) l n.toNat 0 s).e=0))])∧Grew w' w'') from zdB s l n k hT v4 v2 v3 v1 ao cap w' (hs.grew g))
 clear hE h0 hs v2 v3 v4 hT
 generalize zaB za2 l n.toNat 0 s=r at *
 go_enter Tryz.func7,Tryz.ntmps7
 go_upto_block 0 with (first|(go_at_call 17;(with_reducible refine zaa (HC.out _ gw) ?_);intro u1)|(go_at_call 19;(with_reducible refine zaa (HF.out _ gw) ?_);intro u2)|(with_reducible refine wLr ?_)|(with_reducible refine wLi ?_)|(with_reducible refine wSf ?_)|(with_reducible refine wSi ?_))
 refine zdF (z:=w) gwr ?_
 intro W hW
 have r3:RowIs W.world w.heap.size 28 s.cells:=by rw[hW];infer_instance
 clear hW
 have i3:=r3.blockIn
 go_wp2
 go_loopw [12,35] (fun v t wr=>∃ k:Nat,t=.int .i64 k∧k≤l.length∧wr.ownsRow W.world.heap.size 3 1 v (zc2 s l n k).length ((zc2 s l n k).flatMap intC)∧Grew W.world wr) (fun _ t _=>l.length-(intOf t).toNat)
 case atStart=>exact ⟨0,rfl,by omega,⟨rfl,.inl ⟨rfl,rfl⟩⟩,gw⟩
 case round=>
  obtain ⟨k,rfl,hk,ho,hg⟩:=hrel
  obtain ⟨z,rfl⟩:=zaj hg
  clear hg
  by_cases hlt:k<l.length
  ·have hb2:butK k=zbQ (2^k)∨True:=.inr trivial
   have hw2:IntKind.i64.wrap ((2:Int)^k)=2^k:=by
    have:∀ k,k<20→IntKind.i64.wrap ((2:Int)^k)=2^k:=by decide +kernel
    exact this k (by omega)
   have hkp:zaB (zbQ (2^k)) l n.toNat 0 s=zaB (butK k) l n.toNat 0 s:=ze1 (fun j hj=>by
    rw[zl2 k (by omega) j (by omega)]
    rfl) n.toNat 0 s
   have HMk:=Lib.hid (HM.out (2^k))
   rw[hkp] at HMk
   clear hkp hb2
   have hsu:zc2 s l n (k+1)=if (zaB (butK k) l n.toNat 0 s).e=0 then zc2 s l n k++[(k:Int)] else zc2 s l n k:=rfl
   have hlen:=zgw s l n k
   have HSU:=Lib.hid hsu
   clear hsu
   generalize zaB (butK k) l n.toNat 0 s=f at *
   generalize zc2 s l n k=xs at *
   have gz:Grew w z.world:=W.grew.trans z.grew
   go_upto_region 11 with (fail)
   have hk2:(k:Int)<64:=by omega
   have hk3:¬ ((k:Int)<0):=by omega
   go_cut [16] from 38 to 48 (fun b wx=>b=.bool (decide (f.e=0))∧Grew z.world wx)
   case first=>
    obtain ⟨w1,hw1⟩:=zaj (Grew.drew (Grew.refl z.world))
    refine zdj (Grew z.world.drew) [] rfl ?_
    rw[hw1]
    have k3:RowIs w1.world w.heap.size 28 s.cells:=inferInstance
    have g1:=w1.grew
    clear hw1
    generalize w1.world=Y at *
    have kk3:=k3.blockIn
    refine zaf 0 [] (v:=.agg #[.int .i64 s.t,.int .i64 s.p.x.lo,.int .i64 s.p.x.hi,.int .i64 s.p.y.lo,.int .i64 s.p.y.hi,.int .i64 s.p.z.lo,.int .i64 s.p.z.hi,.int .i64 s.v.x.lo,.int .i64 s.v.x.hi,.int .i64 s.v.y.lo,.int .i64 s.v.y.hi,.int .i64 s.v.z.lo,.int .i64 s.v.z.hi,.int .i64 s.m.lo,.int .i64 s.m.hi]) rfl (by kernel_rfl) (by kernel_rfl) (by kernel_rfl) (by kernel_rfl) (fun _ _ _ h=>h) (by rfl) gw (fun w' hw=>?_) ?_
    ·obtain ⟨y,rfl⟩:=zaj hw
     go_simp
    try simp only[Act.put,List.setIfInBounds_toArray,List.set_cons_zero,List.set_cons_succ]
    refine zaf 1 [] (v:=.slice ao l.length cap) rfl (by kernel_rfl) (by kernel_rfl) (by kernel_rfl) (by kernel_rfl) (fun _ _ _ h=>h) (by rfl) gw (fun w' hw=>?_) ?_
    ·obtain ⟨y,rfl⟩:=zaj hw
     go_simp
    try simp only[Act.put,List.setIfInBounds_toArray,List.set_cons_zero,List.set_cons_succ]
    refine zaf 2 [] (v:=.int .i64 n) rfl (by kernel_rfl) (by kernel_rfl) (by kernel_rfl) (by kernel_rfl) (fun _ _ _ h=>h) (by rfl) gw (fun w' hw=>?_) ?_
    ·obtain ⟨y,rfl⟩:=zaj hw
     go_simp
    try simp only[Act.put,List.setIfInBounds_toArray,List.set_cons_zero,List.set_cons_succ]
    refine zaf 3 [] (v:=.int .i64 k) rfl (by kernel_rfl) (by kernel_rfl) (by kernel_rfl) (by kernel_rfl) (fun _ _ _ h=>h) (by rfl) gw (fun w' hw=>?_) ?_
    ·obtain ⟨y,rfl⟩:=zaj hw
     go_simp
    try simp only[Act.put,List.setIfInBounds_toArray,List.set_cons_zero,List.set_cons_succ]
    refine zaf 4 [] (v:=.int .i64 ((2:Int)^k)) rfl (by kernel_rfl) (by kernel_rfl) (by kernel_rfl) (by kernel_rfl) (fun _ _ _ h=>h) (by rfl) gw (fun w' hw=>?_) ?_
    ·obtain ⟨y,rfl⟩:=zaj hw
     go_simp
    try simp only[Act.put,List.setIfInBounds_toArray,List.set_cons_zero,List.set_cons_succ]
    refine zdv 5 10 (by kernel_rfl) rfl rfl (fun K hK=>?_) (fun K hK=>?_)
    ·go_simp
     refine zaa (HMk.out _ (gz.trans (g1.trans gw))) ?_
     intro uf
     refine hK.out _ _ (fun _=>gw) ?_
     clear hK K
     try simp only[Act.put,List.setIfInBounds_toArray,List.set_cons_zero,List.set_cons_succ]
     refine zaf 6 [] (v:=.tuple #[.agg #[.int .i64 f.s.t,.int .i64 f.s.p.x.lo,.int .i64 f.s.p.x.hi,.int .i64 f.s.p.y.lo,.int .i64 f.s.p.y.hi,.int .i64 f.s.p.z.lo,.int .i64 f.s.p.z.hi,.int .i64 f.s.v.x.lo,.int .i64 f.s.v.x.hi,.int .i64 f.s.v.y.lo,.int .i64 f.s.v.y.hi,.int .i64 f.s.v.z.lo,.int .i64 f.s.v.z.hi,.int .i64 f.s.m.lo,.int .i64 f.s.m.hi],.int .i64 f.n,.bool (decide (f.e=0))]) rfl (by kernel_rfl) (by kernel_rfl) (by kernel_rfl) (by kernel_rfl) (fun _ _ _ h=>h) (by rfl) gw (fun w' hw=>?_) ?_
     ·obtain ⟨y,rfl⟩:=zaj hw
      go_simp
     try simp only[Act.put,List.setIfInBounds_toArray,List.set_cons_zero,List.set_cons_succ]
     refine zaf 7 [] (v:=.agg #[.int .i64 f.s.t,.int .i64 f.s.p.x.lo,.int .i64 f.s.p.x.hi,.int .i64 f.s.p.y.lo,.int .i64 f.s.p.y.hi,.int .i64 f.s.p.z.lo,.int .i64 f.s.p.z.hi,.int .i64 f.s.v.x.lo,.int .i64 f.s.v.x.hi,.int .i64 f.s.v.y.lo,.int .i64 f.s.v.y.hi,.int .i64 f.s.v.z.lo,.int .i64 f.s.v.z.hi,.int .i64 f.s.m.lo,.int .i64 f.s.m.hi]) rfl (by kernel_rfl) (by kernel_rfl) (by kernel_rfl) (by kernel_rfl) (fun _ _ _ h=>h) (by rfl) gw (fun w' hw=>?_) ?_
     ·obtain ⟨y,rfl⟩:=zaj hw
      go_simp
     try simp only[Act.put,List.setIfInBounds_toArray,List.set_cons_zero,List.set_cons_succ]
     refine zaf 8 [] (v:=.int .i64 f.n) rfl (by kernel_rfl) (by kernel_rfl) (by kernel_rfl) (by kernel_rfl) (fun _ _ _ h=>h) (by rfl) gw (fun w' hw=>?_) ?_
     ·obtain ⟨y,rfl⟩:=zaj hw
      go_simp
     try simp only[Act.put,List.setIfInBounds_toArray,List.set_cons_zero,List.set_cons_succ]
     refine zaf 9 [] (v:=.bool (decide (f.e=0))) rfl (by kernel_rfl) (by kernel_rfl) (by kernel_rfl) (by kernel_rfl) (fun _ _ _ h=>h) (by rfl) gw (fun w' hw=>?_) ?_
     ·obtain ⟨y,rfl⟩:=zaj hw
      go_simp
     try simp only[Act.put,List.setIfInBounds_toArray,List.set_cons_zero,List.set_cons_succ]
     refine zal 10 (by kernel_rfl) rfl fun K hK=>?_
     go_simp
     refine hK.out _ _ (fun _=>gw) ?_
     clear hK K
     try simp only[Act.put,List.setIfInBounds_toArray,List.set_cons_zero,List.set_cons_succ]
     refine zal 11 (by kernel_rfl) rfl fun K hK=>?_
     go_simp
     refine hK.out _ _ (fun _=>gw) ?_
     clear hK K
     try simp only[Act.put,List.setIfInBounds_toArray,List.set_cons_zero,List.set_cons_succ]
     refine zal 12 (by kernel_rfl) rfl fun K hK=>?_
     go_simp
     refine hK.out _ _ (fun _=>gw) ?_
     clear hK K
     try simp only[Act.put,List.setIfInBounds_toArray,List.set_cons_zero,List.set_cons_succ]
     refine zal 13 (by kernel_rfl) rfl fun K hK=>?_
     go_simp
     refine hK.out _ _ (fun _=>gw) ?_
     clear hK K
     try simp only[Act.put,List.setIfInBounds_toArray,List.set_cons_zero,List.set_cons_succ]
     refine zbs (by kernel_rfl) ?_
     go_wp2
     go_meet
     case rel=>exact ⟨rfl,g1.trans gw⟩
    ·go_simp
     refine hK.out _ _ (fun _=>gw) ?_
     clear hK K
     try simp only[Act.put,List.setIfInBounds_toArray,List.set_cons_zero,List.set_cons_succ]
     refine zal 5 (by kernel_rfl) rfl fun K hK=>?_
     go_simp
     refine zaa (HMk.out _ (gz.trans (g1.trans gw))) ?_
     intro uf
     refine hK.out _ _ (fun _=>gw) ?_
     clear hK K
     try simp only[Act.put,List.setIfInBounds_toArray,List.set_cons_zero,List.set_cons_succ]
     refine zaf 6 [] (v:=.tuple #[.agg #[.int .i64 f.s.t,.int .i64 f.s.p.x.lo,.int .i64 f.s.p.x.hi,.int .i64 f.s.p.y.lo,.int .i64 f.s.p.y.hi,.int .i64 f.s.p.z.lo,.int .i64 f.s.p.z.hi,.int .i64 f.s.v.x.lo,.int .i64 f.s.v.x.hi,.int .i64 f.s.v.y.lo,.int .i64 f.s.v.y.hi,.int .i64 f.s.v.z.lo,.int .i64 f.s.v.z.hi,.int .i64 f.s.m.lo,.int .i64 f.s.m.hi],.int .i64 f.n,.bool (decide (f.e=0))]) rfl (by kernel_rfl) (by kernel_rfl) (by kernel_rfl) (by kernel_rfl) (fun _ _ _ h=>h) (by rfl) gw (fun w' hw=>?_) ?_
     ·obtain ⟨y,rfl⟩:=zaj hw
      go_simp
     try simp only[Act.put,List.setIfInBounds_toArray,List.set_cons_zero,List.set_cons_succ]
     refine zaf 7 [] (v:=.agg #[.int .i64 f.s.t,.int .i64 f.s.p.x.lo,.int .i64 f.s.p.x.hi,.int .i64 f.s.p.y.lo,.int .i64 f.s.p.y.hi,.int .i64 f.s.p.z.lo,.int .i64 f.s.p.z.hi,.int .i64 f.s.v.x.lo,.int .i64 f.s.v.x.hi,.int .i64 f.s.v.y.lo,.int .i64 f.s.v.y.hi,.int .i64 f.s.v.z.lo,.int .i64 f.s.v.z.hi,.int .i64 f.s.m.lo,.int .i64 f.s.m.hi]) rfl (by kernel_rfl) (by kernel_rfl) (by kernel_rfl) (by kernel_rfl) (fun _ _ _ h=>h) (by rfl) gw (fun w' hw=>?_) ?_
     ·obtain ⟨y,rfl⟩:=zaj hw
      go_simp
     try simp only[Act.put,List.setIfInBounds_toArray,List.set_cons_zero,List.set_cons_succ]
     refine zaf 8 [] (v:=.int .i64 f.n) rfl (by kernel_rfl) (by kernel_rfl) (by kernel_rfl) (by kernel_rfl) (fun _ _ _ h=>h) (by rfl) gw (fun w' hw=>?_) ?_
     ·obtain ⟨y,rfl⟩:=zaj hw
      go_simp
     try simp only[Act.put,List.setIfInBounds_toArray,List.set_cons_zero,List.set_cons_succ]
     refine zaf 9 [] (v:=.bool (decide (f.e=0))) rfl (by kernel_rfl) (by kernel_rfl) (by kernel_rfl) (by kernel_rfl) (fun _ _ _ h=>h) (by rfl) gw (fun w' hw=>?_) ?_
     ·obtain ⟨y,rfl⟩:=zaj hw
      go_simp
     try simp only[Act.put,List.setIfInBounds_toArray,List.set_cons_zero,List.set_cons_succ]
     refine zal 11 (by kernel_rfl) rfl fun K hK=>?_
     go_simp
     refine hK.out _ _ (fun _=>gw) ?_
     clear hK K
     try simp only[Act.put,List.setIfInBounds_toArray,List.set_cons_zero,List.set_cons_succ]
     refine zal 12 (by kernel_rfl) rfl fun K hK=>?_
     go_simp
     refine hK.out _ _ (fun _=>gw) ?_
     clear hK K
     try simp only[Act.put,List.setIfInBounds_toArray,List.set_cons_zero,List.set_cons_succ]
     refine zal 13 (by kernel_rfl) rfl fun K hK=>?_
     go_simp
     refine hK.out _ _ (fun _=>gw) ?_
     clear hK K
     try simp only[Act.put,List.setIfInBounds_toArray,List.set_cons_zero,List.set_cons_succ]
     refine zbs (by kernel_rfl) ?_
     go_wp2
     go_meet
     case rel=>exact ⟨rfl,g1.trans gw⟩
   case rest=>
   obtain ⟨rfl,hcut⟩:=hcut
   obtain ⟨z4,rfl⟩:=zaj hcut
   clear hcut
   by_cases he:f.e=0
   ·have t0:decide (f.e=0)=true:=by simp[he]
    have hS:=HSU.out
    rw[if_pos he] at hS
    have HS2:=Lib.hid hS
    clear hS HSU
    go_wp2_with (first|(with_reducible refine wLi ?_)|(at_builtin;go_loud (refine zek W.world _ gw rfl _ _ rfl _ xs (zdr ho gw) rfl k _ rfl (by omega) ?_;intro v' y1 hown')))
    go_roundw
    case rel=>exact ⟨k+1,by go_num,by omega,by rw[HS2.out];exact hown',gw⟩
    case measure=>simp[intOf];omega
   ·have t0:decide (f.e=0)=false:=by simp[he]
    have hS:=HSU.out
    rw[if_neg he] at hS
    have HS2:=Lib.hid hS
    clear hS HSU
    go_wp2
    go_roundw
    case rel=>exact ⟨k+1,by go_num,by omega,by rw[HS2.out];exact zdr ho gw,gw⟩
    case measure=>simp[intOf];omega
  ·obtain rfl:k=l.length:=by omega
   go_wp2
   go_ret2
   exact ⟨_,rfl,SlAt.of_owns ho,gw⟩
end Go.Proofs.YtdkfkalplmgoeaaGreat
