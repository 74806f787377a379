/-
  Joined: TrustG.
-/
import Derived.Test.YtdkfkalplmgoeaaGreatTrustNL
namespace Go.Proofs.YtdkfkalplmgoeaaGreat
open Go.RowKit Go.Shelf
set_option maxRecDepth 100000
set_option maxHeartbeats 16000000
set_option linter.unusedSimpArgs false
attribute [local go_sem] Oper.semAt_some
def outT (o:Option State):State:=o.getD State.zero
theorem zlm {s:State} {l:List Radio} {n:Int} {k:Nat} (hE:zaQ s l n=0) (hk:k≤2) (hkl:k≤l.length):zb8 s l k n=zkH (zcE s l n (zbB k (2^l.length))):=by
 unfold zb8
 rw[if_pos hE,if_neg (by omega),Int.toNat_natCast]
abbrev zqd (q m:Nat) (s:State) (ao:Option Addr) (ln cap k:Nat) (n:Int) (O:Option State):List (Nat × List Value × TypeId):=[(q,s.cells, 28),(q+1,[.slice ao ln cap], 29),(q+1+1,[.int .i64 n], 3),(q+1+1+1,State.zero.cells, 28),(m,(outT O).cells, 28),(m+1,[.bool O.isSome], 4),(m+1+1,[.int .i64 ln], 3),(m+1+1+1,[.int .i64 k], 3)]
def frT (s:State) (ao:Option Addr) (ln k cap q m:Nat) (n:Int) (b1 b2:Bool) (x:Value):Act:={ tmps:=#[.agg s.cells.toArray,.slice ao ln cap,.int .i64 k,.int .i64 n,.pointer (some ⟨q,0,none⟩),.pointer (some ⟨q+1,0,none⟩),undef,.pointer (some ⟨q+1+1,0,none⟩),.pointer (some ⟨q+1+1+1,0,none⟩),.int .i64 0,.int .i64 0,.pointer (some ⟨m,0,none⟩),.pointer (some ⟨m+1,0,none⟩),x,undef,undef,undef,.agg s.cells.toArray,.slice ao ln cap,.int .i64 n,.int .i64 0,.int .i64 0,.bool false,undef,undef,.int .i64 k,.bool b1,.bool b1,.int .i64 k,.bool b2,.bool (b1||b2),.bool (b1||b2),.int .i64 k,.slice ao ln cap,.int .i64 ln,.bool false,.bool (b1||b2),undef,.slice ao ln cap,.int .i64 ln,.int .i64 k,.func (.func 36) #[] #[.pointer (some ⟨m+1+1,0,none⟩),.pointer (some ⟨m+1+1+1,0,none⟩)],x,undef,undef,undef,undef,undef,undef,undef,undef,undef,undef,undef,undef,undef,undef,undef,undef,undef,undef,undef,undef,undef,undef,undef,undef,undef,undef,undef,undef,undef,undef,undef],defers:=[] }
theorem zf3 {w W:World} (h:w.grownBy W none):Grew w W:=⟨h.os,h.tape,h.output,h.size,fun i hi=>h.block i hi (by simp)⟩
theorem zhx (s:State) (l:List Radio) (n:Int) (k:Nat) [hp:Pv64 s] (hT:∀ m∈l,Ra64 m) (ao:Option Addr) (cap:Nat) (w:World) (hs:SlAt w (.slice ao l.length cap) l.length (l.flatMap Radio.cells)) (hE:zaQ s l n=0) (hk:k≤2) (hkl:k≤l.length) :
 Calls Tryz.prog 5 #[.agg s.cells.toArray,.slice ao l.length cap,.int .i64 k,.int .i64 n] w (zh2 (zb8 s l k n) w):=by
 obtain ⟨v1,v2,v3,v4⟩:=zcM hE
 have HR:=Lib.hid (zlm (k:=k) hE hk hkl)
 have HC:=Lib.hid (fun w' (g:Grew w w')=>show Calls Tryz.prog 17 #[.agg s.cells.toArray,.slice ao l.length cap,.int .i64 n] w' (fun e w''=>e=.returned (.int .i64 0)∧Grew w' w'') from zaH hE (zb3 s l n ao cap w' (hs.grew g)))
 have HF:=Lib.hid (fun (g:Nat) w' (gr:Grew w w')=>show Calls Tryz.prog 19 #[.agg s.cells.toArray,.slice ao l.length cap,.int .i64 n,.int .i64 (g:Int)] w' (RetF (zaB (zbQ (g:Nat)) l n.toNat 0 s) w') from zdB s l n (g:Int) hT v4 v2 v3 v1 ao cap w' (hs.grew gr))
 have Hseq:=Lib.hid (fun (W:World) (Bn Bm:Nat) k0 k1=>zhe 5 (by omega) Bn Bm l.length k v1 W k0 k1)
 have c1:¬ ((k:Int)<0):=by omega
 have c2:¬ (2<(k:Int)):=by omega
 have c3:¬ ((l.length:Int)<k):=by omega
 generalize zb8 s l k n=R at *
 have Hs:=Lib.hid hs
 clear hE hs v1 v2 v3 v4 hT hk hkl
 refine (callsIn_wide (n:=6)).1 ?_
 refine callsIn_of_wp_marks Tryz.func5 rfl trivial ?_ rfl
 simp only[Tryz.ntmps5,List.size_toArray,List.length_cons,List.length_nil,Nat.reduceAdd,Nat.reduceSub,Array.replicate_succ,Array.replicate_zero,List.push_toArray,List.append_toArray,List.nil_append,List.cons_append]
 refine wpIn_wide.2 ?_
 go_wp2_with (first|(go_at_call 17;(with_reducible refine zaa (HC.out _ gw) ?_);intro u1)|(go_at_call 18;refine (zgD _ _ _).mono ?_;rintro e w' ⟨rfl,rfl⟩)|(with_reducible refine wLi ?_)|(with_reducible refine wSf ?_)|(with_reducible refine wSi ?_))
 refine zm0 (fun V=>Held V (zqd w.heap.size u1.world.heap.size s ao l.length cap k n none)∧Grew w V∧w.heap.size+4≤u1.world.heap.size) ?_ ?_
 ·refine ⟨Held.cons inferInstance (Held.cons inferInstance (Held.cons inferInstance (Held.cons inferInstance (Held.cons inferInstance (Held.cons inferInstance (Held.cons inferInstance (Held.cons inferInstance (Held.nil _)))))))),gwr,?_⟩
  have:=u1.grew.size
  simp at this
  omega
 rintro V ⟨hH,hW,hqm⟩
 generalize u1.world.heap.size=m at *
 obtain ⟨r4,hH⟩:=hH.head
 obtain ⟨r5,hH⟩:=hH.head
 obtain ⟨r7,hH⟩:=hH.head
 obtain ⟨r8,hH⟩:=hH.head
 obtain ⟨rO,hH⟩:=hH.head
 obtain ⟨rS,hH⟩:=hH.head
 obtain ⟨rn,hH⟩:=hH.head
 obtain ⟨rm,-⟩:=hH.head
 have hseq:=Hseq.out V (m+1+1) (m+1+1+1) (zlH rn 0 rfl) (zlH rm 0 rfl)
 have hsz:=rm.lt
 refine (wpIn_wide (n:=6)).1 ?_
 refine wpIn_rangeFunc_ownH rfl (by omega) (gf:=36) (lb:=#[.pointer (some ⟨m+1+1,0,none⟩),.pointer (some ⟨m+1+1+1,0,none⟩)]) rfl trivial (enters_of Tryz.func36 (by kernel_rfl) rfl)
  hseq KeepTwo.trans (zl3 (by omega) (by omega)) (Below.refl _ _) (fun _=>rfl)
  (fun pre W=>Held W (zqd w.heap.size m s ao l.length cap k n (zcE s l n pre))∧w.grownBy W none)
  (fun _ _ _=>False)
  (OwnFrom.and (zix _) (zhB hW.size))
  (fun _ _ _ _ _ h _ _=>h)
  ⟨Held.cons r4 (Held.cons r5 (Held.cons r7 (Held.cons r8 (Held.cons rO (Held.cons rS (Held.cons rn (Held.cons rm (Held.nil _)))))))),zf2 hW _⟩
  (fun x a' _=>a'=frT s ao l.length k cap w.heap.size m n (decide ((k:Int)<0)) (decide (2<(k:Int))) (.int .i64 (x:Nat)))
  (fun _ _=>fun _ _ _ _ h _ _=>h) ?assign ?body ?done ?stop
 case assign=>
  rintro l' pre x W K hI hK
  unfold encM
  gi_wp2
  exact hK _ _ (KeepsFrom.refl _ _) (KeepTwo.refl _ _ _) hI rfl
 case body=>
  rintro l' pre x a' W hl ⟨r,hr⟩ ⟨hH,hgr0⟩ rfl hlt
  obtain ⟨r4,hH⟩:=hH.head
  obtain ⟨r5,hH⟩:=hH.head
  obtain ⟨r7,hH⟩:=hH.head
  obtain ⟨r8,hH⟩:=hH.head
  obtain ⟨rO,hH⟩:=hH.head
  obtain ⟨rS,hH⟩:=hH.head
  obtain ⟨rn,hH⟩:=hH.head
  obtain ⟨rm,-⟩:=hH.head
  have i4:=r4.blockIn
  have i5:=r5.blockIn
  have i7:=r7.blockIn
  have i8:=r8.blockIn
  have iO:=rO.blockIn
  have iS:=rS.blockIn
  have iN:=rn.blockIn
  have iM:=rm.blockIn
  have hG:Grew w W:=zf3 hgr0
  have HFx:=Lib.hid (fun w' (g:Grew W w')=>HF.out x w' (hG.trans g))
  have Hsn:=Lib.hid (zlo s l n pre x)
  clear Hseq HF HC Hs hlt hseq
  generalize zcE s l n pre=O at *
  generalize zaB (zbQ (x:Nat)) l n.toNat 0 s=N at *
  unfold frT
  gi_step
  gi_step
  gi_step
  refine zab (by kernel_rfl) ?_
  go_wp2_with (first|(go_at_call 19;refine (HFx.out _ gwr).mono ?_;rintro en w2 ⟨rfl,hg2⟩;obtain ⟨u,rfl⟩:=zaj hg2;clear hg2)|(with_reducible refine wLi ?_)|(with_reducible refine wSf ?_)|(with_reducible refine wSi ?_))
  refine ⟨rfl,?_⟩
  gi_step
  gi_step
  refine zlr (fun Y=>RowIs Y u.world.heap.size 28 N.s.cells∧Grew W Y) ⟨inferInstance,gwr⟩ ?_
  rintro Y ⟨rN,gY⟩
  have hbN:=u.grew.size
  generalize u.world.heap.size=bN at *
  clear HFx u
  have hmW:=rm.lt
  have r4Y:=r4.grew gY
  have r5Y:=r5.grew gY
  have r7Y:=r7.grew gY
  have r8Y:=r8.grew gY
  have rOY:=rO.grew gY
  have rSY:=rS.grew gY
  have rnY:=rn.grew gY
  have rmY:=rm.grew gY
  have gf0:w.grownBy Y none:=zbv hgr0 (zf2 gY none) (fun _ e=>by cases e)
  have ko0:KeepsOthers W Y:=KeepsOthers.of_grownBy (zf2 gY none) (fun _ _ e=>by cases e)
  by_cases e0:N.e=0
  ·have t0:decide (N.e=0)=true:=by simp[e0]
   cases O with
   |none=>
    have hJ:zcE s l n (pre++[x])=some N.s:=Hsn.out.trans (zfG e0)
    have HJ:=Lib.hid hJ
    clear hJ Hsn
    change RowIs Y (m+1) 4 [.bool false] at rSY
    first|refine zab (by kernel_rfl) ?_|(gi_step;first|refine zab (by kernel_rfl) ?_|(gi_step;first|refine zab (by kernel_rfl) ?_|(gi_step;first|refine zab (by kernel_rfl) ?_|(gi_step;first|refine zab (by kernel_rfl) ?_|(gi_step;first|refine zab (by kernel_rfl) ?_|(gi_step;refine zab (by kernel_rfl) ?_))))))
    go_wp2
    refine ⟨rfl,?_⟩
    first|refine zab (by kernel_rfl) ?_|(gi_step;first|refine zab (by kernel_rfl) ?_|(gi_step;first|refine zab (by kernel_rfl) ?_|(gi_step;first|refine zab (by kernel_rfl) ?_|(gi_step;first|refine zab (by kernel_rfl) ?_|(gi_step;first|refine zab (by kernel_rfl) ?_|(gi_step;refine zab (by kernel_rfl) ?_))))))
    go_wp2
    refine ⟨rfl,?_⟩
    first|refine zab (by kernel_rfl) ?_|(gi_step;first|refine zab (by kernel_rfl) ?_|(gi_step;first|refine zab (by kernel_rfl) ?_|(gi_step;first|refine zab (by kernel_rfl) ?_|(gi_step;first|refine zab (by kernel_rfl) ?_|(gi_step;first|refine zab (by kernel_rfl) ?_|(gi_step;refine zab (by kernel_rfl) ?_))))))
    go_wp2_with (first|(with_reducible refine wLi ?_)|(with_reducible refine wSi ?_))
    refine ⟨rfl,?_⟩
    gi_wp2
    have g1:=zcT Y m N.s.cells.toArray
    have g2:=grownBy_setCell' (Y.setRow m N.s.cells.toArray) (m+1) (.bool true)
    have kp:∀ {b:Nat} {ty:TypeId} {cs:List Value},RowIs Y b ty cs→b≠m→b≠m+1→RowIs ((Y.setRow m N.s.cells.toArray).setCell ⟨m+1,0,none⟩ (.bool true)) b ty cs:=fun h n1 n2=>(h.kept g1 (by simpa using n1)).kept g2 (by simpa using n2)
    have kO:RowIs ((Y.setRow m N.s.cells.toArray).setCell ⟨m+1,0,none⟩ (.bool true)) m 28 N.s.cells:=RowIs.kept (zcD Y m 28 15 N.s.cells) g2 (by simp)
    have kS:RowIs ((Y.setRow m N.s.cells.toArray).setCell ⟨m+1,0,none⟩ (.bool true)) (m+1) 4 [.bool true]:=zoR (zeP _ 0 (.bool true) _ _ _ (h:=rSY.kept g1 (by simp))) rfl
    have ko:KeepsOthers W ((Y.setRow m N.s.cells.toArray).setCell ⟨m+1,0,none⟩ (.bool true)):=(ko0.trans (KeepsOthers.of_grownBy g1 (fun j o ej hj=>by cases ej;exact rOY.cells_at o hj))).trans (KeepsOthers.setCell _ _ _)
    have gf:=zbv (zbv gf0 g1 (fun j e=>by cases e;exact .inr (by omega))) g2 (fun j e=>by cases e;exact .inr (by omega))
    have kn:=kp rnY (by omega) (by omega)
    have km:=kp rmY (by omega) (by omega)
    refine ⟨ko.from _,⟨kn.is.trans rn.is.symm,km.is.trans rm.is.symm⟩,?_⟩
    dsimp only
    rw[HJ.out]
    exact ⟨Held.cons (kp r4Y (by omega) (by omega)) (Held.cons (kp r5Y (by omega) (by omega)) (Held.cons (kp r7Y (by omega) (by omega)) (Held.cons (kp r8Y (by omega) (by omega)) (Held.cons kO (Held.cons kS (Held.cons kn (Held.cons km (Held.nil _)))))))),gf⟩
   |some A=>
    have hJ:zcE s l n (pre++[x])=some (zbh A N.s):=Hsn.out.trans (zcx e0)
    have HJ:=Lib.hid hJ
    clear hJ Hsn
    change RowIs Y (m+1) 4 [.bool true] at rSY
    change RowIs Y m 28 A.cells at rOY
    first|refine zab (by kernel_rfl) ?_|(gi_step;first|refine zab (by kernel_rfl) ?_|(gi_step;first|refine zab (by kernel_rfl) ?_|(gi_step;first|refine zab (by kernel_rfl) ?_|(gi_step;first|refine zab (by kernel_rfl) ?_|(gi_step;first|refine zab (by kernel_rfl) ?_|(gi_step;refine zab (by kernel_rfl) ?_))))))
    go_wp2
    refine ⟨rfl,?_⟩
    first|refine zab (by kernel_rfl) ?_|(gi_step;first|refine zab (by kernel_rfl) ?_|(gi_step;first|refine zab (by kernel_rfl) ?_|(gi_step;first|refine zab (by kernel_rfl) ?_|(gi_step;first|refine zab (by kernel_rfl) ?_|(gi_step;first|refine zab (by kernel_rfl) ?_|(gi_step;refine zab (by kernel_rfl) ?_))))))
    go_wp2
    refine ⟨rfl,?_⟩
    first|refine zaM (by kernel_rfl) (by kernel_rfl) (zbz (S:=fun w'=>RowIs w' bN 28 N.s.cells∧RangeIs w' m 7 6 [.int .i64 A.v.x.lo,.int .i64 A.v.x.hi,.int .i64 A.v.y.lo,.int .i64 A.v.y.hi,.int .i64 A.v.z.lo,.int .i64 A.v.z.hi]) (T:=[13]) _ _ _ _ ?_)|(gi_step;first|refine zaM (by kernel_rfl) (by kernel_rfl) (zbz (S:=fun w'=>RowIs w' bN 28 N.s.cells∧RangeIs w' m 7 6 [.int .i64 A.v.x.lo,.int .i64 A.v.x.hi,.int .i64 A.v.y.lo,.int .i64 A.v.y.hi,.int .i64 A.v.z.lo,.int .i64 A.v.z.hi]) (T:=[13]) _ _ _ _ ?_)|(gi_step;first|refine zaM (by kernel_rfl) (by kernel_rfl) (zbz (S:=fun w'=>RowIs w' bN 28 N.s.cells∧RangeIs w' m 7 6 [.int .i64 A.v.x.lo,.int .i64 A.v.x.hi,.int .i64 A.v.y.lo,.int .i64 A.v.y.hi,.int .i64 A.v.z.lo,.int .i64 A.v.z.hi]) (T:=[13]) _ _ _ _ ?_)|(gi_step;first|refine zaM (by kernel_rfl) (by kernel_rfl) (zbz (S:=fun w'=>RowIs w' bN 28 N.s.cells∧RangeIs w' m 7 6 [.int .i64 A.v.x.lo,.int .i64 A.v.x.hi,.int .i64 A.v.y.lo,.int .i64 A.v.y.hi,.int .i64 A.v.z.lo,.int .i64 A.v.z.hi]) (T:=[13]) _ _ _ _ ?_)|(gi_step;first|refine zaM (by kernel_rfl) (by kernel_rfl) (zbz (S:=fun w'=>RowIs w' bN 28 N.s.cells∧RangeIs w' m 7 6 [.int .i64 A.v.x.lo,.int .i64 A.v.x.hi,.int .i64 A.v.y.lo,.int .i64 A.v.y.hi,.int .i64 A.v.z.lo,.int .i64 A.v.z.hi]) (T:=[13]) _ _ _ _ ?_)|(gi_step;first|refine zaM (by kernel_rfl) (by kernel_rfl) (zbz (S:=fun w'=>RowIs w' bN 28 N.s.cells∧RangeIs w' m 7 6 [.int .i64 A.v.x.lo,.int .i64 A.v.x.hi,.int .i64 A.v.y.lo,.int .i64 A.v.y.hi,.int .i64 A.v.z.lo,.int .i64 A.v.z.hi]) (T:=[13]) _ _ _ _ ?_)|(gi_step;first|refine zaM (by kernel_rfl) (by kernel_rfl) (zbz (S:=fun w'=>RowIs w' bN 28 N.s.cells∧RangeIs w' m 7 6 [.int .i64 A.v.x.lo,.int .i64 A.v.x.hi,.int .i64 A.v.y.lo,.int .i64 A.v.y.hi,.int .i64 A.v.z.lo,.int .i64 A.v.z.hi]) (T:=[13]) _ _ _ _ ?_)|(gi_step;refine zaM (by kernel_rfl) (by kernel_rfl) (zbz (S:=fun w'=>RowIs w' bN 28 N.s.cells∧RangeIs w' m 7 6 [.int .i64 A.v.x.lo,.int .i64 A.v.x.hi,.int .i64 A.v.y.lo,.int .i64 A.v.y.hi,.int .i64 A.v.z.lo,.int .i64 A.v.z.hi]) (T:=[13]) _ _ _ _ ?_))))))))
    have rAL:RowIs Y m 28 [.int .i64 A.t,.int .i64 A.p.x.lo,.int .i64 A.p.x.hi,.int .i64 A.p.y.lo,.int .i64 A.p.y.hi,.int .i64 A.p.z.lo,.int .i64 A.p.z.hi,.int .i64 A.v.x.lo,.int .i64 A.v.x.hi,.int .i64 A.v.y.lo,.int .i64 A.v.y.hi,.int .i64 A.v.z.lo,.int .i64 A.v.z.hi,.int .i64 A.m.lo,.int .i64 A.m.hi]:=rOY
    have rNL:RowIs Y bN 28 [.int .i64 N.s.t,.int .i64 N.s.p.x.lo,.int .i64 N.s.p.x.hi,.int .i64 N.s.p.y.lo,.int .i64 N.s.p.y.hi,.int .i64 N.s.p.z.lo,.int .i64 N.s.p.z.hi,.int .i64 N.s.v.x.lo,.int .i64 N.s.v.x.hi,.int .i64 N.s.v.y.lo,.int .i64 N.s.v.y.hi,.int .i64 N.s.v.z.lo,.int .i64 N.s.v.z.hi,.int .i64 N.s.m.lo,.int .i64 N.s.m.hi]:=rN
    have rV:RangeIs Y m 7 6 [.int .i64 A.v.x.lo,.int .i64 A.v.x.hi,.int .i64 A.v.y.lo,.int .i64 A.v.y.hi,.int .i64 A.v.z.lo,.int .i64 A.v.z.hi]:=inferInstance
    have rP:RangeIs Y m 1 6 [.int .i64 A.p.x.lo,.int .i64 A.p.x.hi,.int .i64 A.p.y.lo,.int .i64 A.p.y.hi,.int .i64 A.p.z.lo,.int .i64 A.p.z.hi]:=inferInstance
    have hN:∀ w',RowIs w' bN 28 N.s.cells→RangeIs w' bN 1 6 [.int .i64 N.s.p.x.lo,.int .i64 N.s.p.x.hi,.int .i64 N.s.p.y.lo,.int .i64 N.s.p.y.hi,.int .i64 N.s.p.z.lo,.int .i64 N.s.p.z.hi]∧RangeIs w' bN 7 6 [.int .i64 N.s.v.x.lo,.int .i64 N.s.v.x.hi,.int .i64 N.s.v.y.lo,.int .i64 N.s.v.y.hi,.int .i64 N.s.v.z.lo,.int .i64 N.s.v.z.hi]:=fun w' h=>by
     have h2:RowIs w' bN 28 [.int .i64 N.s.t,.int .i64 N.s.p.x.lo,.int .i64 N.s.p.x.hi,.int .i64 N.s.p.y.lo,.int .i64 N.s.p.y.hi,.int .i64 N.s.p.z.lo,.int .i64 N.s.p.z.hi,.int .i64 N.s.v.x.lo,.int .i64 N.s.v.x.hi,.int .i64 N.s.v.y.lo,.int .i64 N.s.v.y.hi,.int .i64 N.s.v.z.lo,.int .i64 N.s.v.z.hi,.int .i64 N.s.m.lo,.int .i64 N.s.m.hi]:=h
     exact ⟨inferInstance,inferInstance⟩
    have apN:Apart bN m:=⟨by omega⟩
    have apN2:Apart m bN:=⟨by omega⟩
    have iA:=rOY.blockIn
    have dP:RangeIs Y.drew m 1 6 [.int .i64 A.p.x.lo,.int .i64 A.p.x.hi,.int .i64 A.p.y.lo,.int .i64 A.p.y.hi,.int .i64 A.p.z.lo,.int .i64 A.p.z.hi]:=inferInstance
    have dS:RowIs Y.drew bN 28 N.s.cells∧RangeIs Y.drew m 7 6 [.int .i64 A.v.x.lo,.int .i64 A.v.x.hi,.int .i64 A.v.y.lo,.int .i64 A.v.y.hi,.int .i64 A.v.z.lo,.int .i64 A.v.z.hi]:=⟨inferInstance,inferInstance⟩
    clear rAL rNL
    refine zaf 0 [] (v:=.pointer (some ⟨m,1,none⟩)) rfl (by kernel_rfl) (by kernel_rfl) (by kernel_rfl) (by kernel_rfl) (fun _ _ _ h=>absurd h.1 (by simp)) (by rfl) (dS) (fun w' hw=>?_) ?_
    ·obtain ⟨q1,q2⟩:=hw
     go_simp
    try simp only[List.getElem_toArray,List.getElem_cons_succ,List.getElem_cons_zero,Act.put,List.setIfInBounds_toArray,List.set_cons_zero,List.set_cons_succ]
    refine zaf 2 [] (v:=.pointer (some ⟨bN,1,none⟩)) rfl (by kernel_rfl) (by kernel_rfl) (by kernel_rfl) (by kernel_rfl) (fun _ _ _ h=>absurd h.1 (by simp)) (by rfl) (dS) (fun w' hw=>?_) ?_
    ·obtain ⟨q1,q2⟩:=hw
     go_simp
    try simp only[List.getElem_toArray,List.getElem_cons_succ,List.getElem_cons_zero,Act.put,List.setIfInBounds_toArray,List.set_cons_zero,List.set_cons_succ]
    refine zaf 3 [] (v:=.agg #[.int .i64 N.s.p.x.lo,.int .i64 N.s.p.x.hi,.int .i64 N.s.p.y.lo,.int .i64 N.s.p.y.hi,.int .i64 N.s.p.z.lo,.int .i64 N.s.p.z.hi]) rfl (by kernel_rfl) (by kernel_rfl) (by kernel_rfl) (by kernel_rfl) (fun _ _ _ h=>absurd h.1 (by simp)) (by rfl) (dS) (fun w' hw=>?_) ?_
    ·obtain ⟨q1,q2⟩:=hw
     exact zdy (b:=bN) (p:=1) (n:=6) (cs:=[.int .i64 N.s.p.x.lo,.int .i64 N.s.p.x.hi,.int .i64 N.s.p.y.lo,.int .i64 N.s.p.y.hi,.int .i64 N.s.p.z.lo,.int .i64 N.s.p.z.hi]) (hr:=(hN w' q1).1) _ _ rfl rfl
    try simp only[List.getElem_toArray,List.getElem_cons_succ,List.getElem_cons_zero,Act.put,List.setIfInBounds_toArray,List.set_cons_zero,List.set_cons_succ]
    refine zaf 5 [] (v:=.pointer (some ⟨m,7,none⟩)) rfl (by kernel_rfl) (by kernel_rfl) (by kernel_rfl) (by kernel_rfl) (fun _ _ _ h=>absurd h.1 (by simp)) (by rfl) (dS) (fun w' hw=>?_) ?_
    ·obtain ⟨q1,q2⟩:=hw
     go_simp
    try simp only[List.getElem_toArray,List.getElem_cons_succ,List.getElem_cons_zero,Act.put,List.setIfInBounds_toArray,List.set_cons_zero,List.set_cons_succ]
    refine zaf 6 [] (v:=.agg #[.int .i64 A.v.x.lo,.int .i64 A.v.x.hi,.int .i64 A.v.y.lo,.int .i64 A.v.y.hi,.int .i64 A.v.z.lo,.int .i64 A.v.z.hi]) rfl (by kernel_rfl) (by kernel_rfl) (by kernel_rfl) (by kernel_rfl) (fun _ _ _ h=>absurd h.1 (by simp)) (by rfl) (dS) (fun w' hw=>?_) ?_
    ·obtain ⟨q1,q2⟩:=hw
     exact zdy (b:=m) (p:=7) (n:=6) (cs:=[.int .i64 A.v.x.lo,.int .i64 A.v.x.hi,.int .i64 A.v.y.lo,.int .i64 A.v.y.hi,.int .i64 A.v.z.lo,.int .i64 A.v.z.hi]) (hr:=q2) _ _ rfl rfl
    try simp only[List.getElem_toArray,List.getElem_cons_succ,List.getElem_cons_zero,Act.put,List.setIfInBounds_toArray,List.set_cons_zero,List.set_cons_succ]
    refine zaf 7 [] (v:=.pointer (some ⟨bN,7,none⟩)) rfl (by kernel_rfl) (by kernel_rfl) (by kernel_rfl) (by kernel_rfl) (fun _ _ _ h=>absurd h.1 (by simp)) (by rfl) (dS) (fun w' hw=>?_) ?_
    ·obtain ⟨q1,q2⟩:=hw
     go_simp
    try simp only[List.getElem_toArray,List.getElem_cons_succ,List.getElem_cons_zero,Act.put,List.setIfInBounds_toArray,List.set_cons_zero,List.set_cons_succ]
    refine zaf 8 [] (v:=.agg #[.int .i64 N.s.v.x.lo,.int .i64 N.s.v.x.hi,.int .i64 N.s.v.y.lo,.int .i64 N.s.v.y.hi,.int .i64 N.s.v.z.lo,.int .i64 N.s.v.z.hi]) rfl (by kernel_rfl) (by kernel_rfl) (by kernel_rfl) (by kernel_rfl) (fun _ _ _ h=>absurd h.1 (by simp)) (by rfl) (dS) (fun w' hw=>?_) ?_
    ·obtain ⟨q1,q2⟩:=hw
     exact zdy (b:=bN) (p:=7) (n:=6) (cs:=[.int .i64 N.s.v.x.lo,.int .i64 N.s.v.x.hi,.int .i64 N.s.v.y.lo,.int .i64 N.s.v.y.hi,.int .i64 N.s.v.z.lo,.int .i64 N.s.v.z.hi]) (hr:=(hN w' q1).2) _ _ rfl rfl
    try simp only[List.getElem_toArray,List.getElem_cons_succ,List.getElem_cons_zero,Act.put,List.setIfInBounds_toArray,List.set_cons_zero,List.set_cons_succ]
    refine zal 1 (by kernel_rfl) rfl fun K hK=>?_
    refine zhS rfl _ _ rfl (b:=m) (p:=1) (n:=6) (cs:=[.int .i64 A.p.x.lo,.int .i64 A.p.x.hi,.int .i64 A.p.y.lo,.int .i64 A.p.y.hi,.int .i64 A.p.z.lo,.int .i64 A.p.z.hi]) (hr:=dP) rfl ?_
    refine hK.out _ _ (fun _=>dS) ?_
    clear hK K
    try simp only[List.getElem_toArray,List.getElem_cons_succ,List.getElem_cons_zero,Act.put,List.setIfInBounds_toArray,List.set_cons_zero,List.set_cons_succ]
    refine zal 4 (by kernel_rfl) rfl fun K hK=>?_
    go_simp
    refine zaa (zgc A.p N.s.p _) ?_
    intro u1
    have g1:Grew Y u1.world:=gwr
    have d1:RowIs u1.world bN 28 N.s.cells∧RangeIs u1.world m 7 6 [.int .i64 A.v.x.lo,.int .i64 A.v.x.hi,.int .i64 A.v.y.lo,.int .i64 A.v.y.hi,.int .i64 A.v.z.lo,.int .i64 A.v.z.hi]:=⟨rN.grew g1,rV.grew g1⟩
    refine hK.out _ _ (fun _=>d1) ?_
    clear hK K
    try simp only[List.getElem_toArray,List.getElem_cons_succ,List.getElem_cons_zero,Act.put,List.setIfInBounds_toArray,List.set_cons_zero,List.set_cons_succ]
    have e1:znR A.cells 1 [.int .i64 ((zao A.p N.s.p)).x.lo,.int .i64 ((zao A.p N.s.p)).x.hi,.int .i64 ((zao A.p N.s.p)).y.lo,.int .i64 ((zao A.p N.s.p)).y.hi,.int .i64 ((zao A.p N.s.p)).z.lo,.int .i64 ((zao A.p N.s.p)).z.hi]=(⟨A.t,zao A.p N.s.p,A.v,A.m⟩:State).cells:=rfl
    have e2:znR (⟨A.t,zao A.p N.s.p,A.v,A.m⟩:State).cells 7 [.int .i64 ((zao A.v N.s.v)).x.lo,.int .i64 ((zao A.v N.s.v)).x.hi,.int .i64 ((zao A.v N.s.v)).y.lo,.int .i64 ((zao A.v N.s.v)).y.hi,.int .i64 ((zao A.v N.s.v)).z.lo,.int .i64 ((zao A.v N.s.v)).z.hi]=(zbh A N.s).cells:=rfl
    have oO:=rOY.grew g1
    refine zaf 10 [] (v:=.pointer (some ⟨m,1,none⟩)) rfl (by kernel_rfl) (by kernel_rfl) (by kernel_rfl) (by kernel_rfl) (fun _ _ _ h=>absurd h.1 (by simp)) (by rfl) (d1) (fun w' hw=>?_) ?_
    ·obtain ⟨q1,q2⟩:=hw
     go_simp
    try simp only[List.getElem_toArray,List.getElem_cons_succ,List.getElem_cons_zero,Act.put,List.setIfInBounds_toArray,List.set_cons_zero,List.set_cons_succ]
    refine zal 9 (by kernel_rfl) rfl fun K hK=>?_
    go_simp
    refine zaa (zgc A.v N.s.v _) ?_
    intro u2
    have g2:Grew Y u2.world:=g1.trans u2.grew
    have d2:RowIs u2.world bN 28 N.s.cells∧RangeIs u2.world m 7 6 [.int .i64 A.v.x.lo,.int .i64 A.v.x.hi,.int .i64 A.v.y.lo,.int .i64 A.v.y.hi,.int .i64 A.v.z.lo,.int .i64 A.v.z.hi]:=⟨rN.grew g2,rV.grew g2⟩
    refine hK.out _ _ (fun _=>d2) ?_
    clear hK K
    try simp only[List.getElem_toArray,List.getElem_cons_succ,List.getElem_cons_zero,Act.put,List.setIfInBounds_toArray,List.set_cons_zero,List.set_cons_succ]
    have oO2:=rOY.grew g2
    refine zal 11 (by kernel_rfl) rfl fun K hK=>?_
    refine zej rfl rfl 26 _ _ rfl (b:=m) (p:=1) (cs:=[.int .i64 ((zao A.p N.s.p)).x.lo,.int .i64 ((zao A.p N.s.p)).x.hi,.int .i64 ((zao A.p N.s.p)).y.lo,.int .i64 ((zao A.p N.s.p)).y.hi,.int .i64 ((zao A.p N.s.p)).z.lo,.int .i64 ((zao A.p N.s.p)).z.hi]) rfl rfl (hr:=oO2) (by kernel_rfl) rfl (by simp[State.cells]) ?_
    have b1:=zcC m [.int .i64 ((zao A.p N.s.p)).x.lo,.int .i64 ((zao A.p N.s.p)).x.hi,.int .i64 ((zao A.p N.s.p)).y.lo,.int .i64 ((zao A.p N.s.p)).y.hi,.int .i64 ((zao A.p N.s.p)).z.lo,.int .i64 ((zao A.p N.s.p)).z.hi] 1 u2.world
    have o1:=zfe m 28 [.int .i64 ((zao A.p N.s.p)).x.lo,.int .i64 ((zao A.p N.s.p)).x.hi,.int .i64 ((zao A.p N.s.p)).y.lo,.int .i64 ((zao A.p N.s.p)).y.hi,.int .i64 ((zao A.p N.s.p)).z.lo,.int .i64 ((zao A.p N.s.p)).z.hi] A.cells 1 u2.world oO2
    rw[e1] at o1
    have ko1:KeepsOthers u2.world (u2.world.setCells m 1 [.int .i64 ((zao A.p N.s.p)).x.lo,.int .i64 ((zao A.p N.s.p)).x.hi,.int .i64 ((zao A.p N.s.p)).y.lo,.int .i64 ((zao A.p N.s.p)).y.hi,.int .i64 ((zao A.p N.s.p)).z.lo,.int .i64 ((zao A.p N.s.p)).z.hi]):=KeepsOthers.of_grownBy b1 (fun j o ej hj=>by cases ej;exact oO2.cells_at o hj)
    have o1L:RowIs (u2.world.setCells m 1 [.int .i64 ((zao A.p N.s.p)).x.lo,.int .i64 ((zao A.p N.s.p)).x.hi,.int .i64 ((zao A.p N.s.p)).y.lo,.int .i64 ((zao A.p N.s.p)).y.hi,.int .i64 ((zao A.p N.s.p)).z.lo,.int .i64 ((zao A.p N.s.p)).z.hi]) m 28 [.int .i64 ((⟨A.t,zao A.p N.s.p,A.v,A.m⟩:State)).t,.int .i64 ((⟨A.t,zao A.p N.s.p,A.v,A.m⟩:State)).p.x.lo,.int .i64 ((⟨A.t,zao A.p N.s.p,A.v,A.m⟩:State)).p.x.hi,.int .i64 ((⟨A.t,zao A.p N.s.p,A.v,A.m⟩:State)).p.y.lo,.int .i64 ((⟨A.t,zao A.p N.s.p,A.v,A.m⟩:State)).p.y.hi,.int .i64 ((⟨A.t,zao A.p N.s.p,A.v,A.m⟩:State)).p.z.lo,.int .i64 ((⟨A.t,zao A.p N.s.p,A.v,A.m⟩:State)).p.z.hi,.int .i64 ((⟨A.t,zao A.p N.s.p,A.v,A.m⟩:State)).v.x.lo,.int .i64 ((⟨A.t,zao A.p N.s.p,A.v,A.m⟩:State)).v.x.hi,.int .i64 ((⟨A.t,zao A.p N.s.p,A.v,A.m⟩:State)).v.y.lo,.int .i64 ((⟨A.t,zao A.p N.s.p,A.v,A.m⟩:State)).v.y.hi,.int .i64 ((⟨A.t,zao A.p N.s.p,A.v,A.m⟩:State)).v.z.lo,.int .i64 ((⟨A.t,zao A.p N.s.p,A.v,A.m⟩:State)).v.z.hi,.int .i64 ((⟨A.t,zao A.p N.s.p,A.v,A.m⟩:State)).m.lo,.int .i64 ((⟨A.t,zao A.p N.s.p,A.v,A.m⟩:State)).m.hi]:=o1
    have d3:RowIs (u2.world.setCells m 1 [.int .i64 ((zao A.p N.s.p)).x.lo,.int .i64 ((zao A.p N.s.p)).x.hi,.int .i64 ((zao A.p N.s.p)).y.lo,.int .i64 ((zao A.p N.s.p)).y.hi,.int .i64 ((zao A.p N.s.p)).z.lo,.int .i64 ((zao A.p N.s.p)).z.hi]) bN 28 N.s.cells∧RangeIs (u2.world.setCells m 1 [.int .i64 ((zao A.p N.s.p)).x.lo,.int .i64 ((zao A.p N.s.p)).x.hi,.int .i64 ((zao A.p N.s.p)).y.lo,.int .i64 ((zao A.p N.s.p)).y.hi,.int .i64 ((zao A.p N.s.p)).z.lo,.int .i64 ((zao A.p N.s.p)).z.hi]) m 7 6 [.int .i64 A.v.x.lo,.int .i64 A.v.x.hi,.int .i64 A.v.y.lo,.int .i64 A.v.y.hi,.int .i64 A.v.z.lo,.int .i64 A.v.z.hi]:=⟨d2.1.kept b1 (by simp;omega),inferInstance⟩
    clear o1L
    generalize u2.world.setCells m 1 [.int .i64 ((zao A.p N.s.p)).x.lo,.int .i64 ((zao A.p N.s.p)).x.hi,.int .i64 ((zao A.p N.s.p)).y.lo,.int .i64 ((zao A.p N.s.p)).y.hi,.int .i64 ((zao A.p N.s.p)).z.lo,.int .i64 ((zao A.p N.s.p)).z.hi]=Z at *
    refine hK.out _ _ (fun _=>d3) ?_
    clear hK K
    try simp only[List.getElem_toArray,List.getElem_cons_succ,List.getElem_cons_zero,Act.put,List.setIfInBounds_toArray,List.set_cons_zero,List.set_cons_succ]
    refine zal 12 (by kernel_rfl) rfl fun K hK=>?_
    go_simp
    refine hK.out _ _ (fun _=>d3) ?_
    clear hK K
    try simp only[List.getElem_toArray,List.getElem_cons_succ,List.getElem_cons_zero,Act.put,List.setIfInBounds_toArray,List.set_cons_zero,List.set_cons_succ]
    refine zal 13 (by kernel_rfl) rfl fun K hK=>?_
    refine zej rfl rfl 26 _ _ rfl (b:=m) (p:=7) (cs:=[.int .i64 ((zao A.v N.s.v)).x.lo,.int .i64 ((zao A.v N.s.v)).x.hi,.int .i64 ((zao A.v N.s.v)).y.lo,.int .i64 ((zao A.v N.s.v)).y.hi,.int .i64 ((zao A.v N.s.v)).z.lo,.int .i64 ((zao A.v N.s.v)).z.hi]) rfl rfl (hr:=o1) (by kernel_rfl) rfl (by simp[State.cells]) ?_
    have b2:=zcC m [.int .i64 ((zao A.v N.s.v)).x.lo,.int .i64 ((zao A.v N.s.v)).x.hi,.int .i64 ((zao A.v N.s.v)).y.lo,.int .i64 ((zao A.v N.s.v)).y.hi,.int .i64 ((zao A.v N.s.v)).z.lo,.int .i64 ((zao A.v N.s.v)).z.hi] 7 Z
    have o2:=zfe m 28 [.int .i64 ((zao A.v N.s.v)).x.lo,.int .i64 ((zao A.v N.s.v)).x.hi,.int .i64 ((zao A.v N.s.v)).y.lo,.int .i64 ((zao A.v N.s.v)).y.hi,.int .i64 ((zao A.v N.s.v)).z.lo,.int .i64 ((zao A.v N.s.v)).z.hi] (⟨A.t,zao A.p N.s.p,A.v,A.m⟩:State).cells 7 Z o1
    rw[e2] at o2
    have ko2:KeepsOthers Z (Z.setCells m 7 [.int .i64 ((zao A.v N.s.v)).x.lo,.int .i64 ((zao A.v N.s.v)).x.hi,.int .i64 ((zao A.v N.s.v)).y.lo,.int .i64 ((zao A.v N.s.v)).y.hi,.int .i64 ((zao A.v N.s.v)).z.lo,.int .i64 ((zao A.v N.s.v)).z.hi]):=KeepsOthers.of_grownBy b2 (fun j o ej hj=>by cases ej;exact o1.cells_at o hj)
    generalize Z.setCells m 7 [.int .i64 ((zao A.v N.s.v)).x.lo,.int .i64 ((zao A.v N.s.v)).x.hi,.int .i64 ((zao A.v N.s.v)).y.lo,.int .i64 ((zao A.v N.s.v)).y.hi,.int .i64 ((zao A.v N.s.v)).z.lo,.int .i64 ((zao A.v N.s.v)).z.hi]=Z2 at *
    refine hK.out _ _ (fun h=>absurd h (by decide)) ?_
    clear hK K
    refine zbs (by kernel_rfl) ⟨rfl,?_⟩
    gi_wp2
    have kp:∀ {b:Nat} {ty:TypeId} {cs:List Value},RowIs Y b ty cs→b≠m→RowIs Z2 b ty cs:=fun h n1=>((h.grew g2).kept b1 (by simpa using n1)).kept b2 (by simpa using n1)
    have ko:KeepsOthers W Z2:=((ko0.trans (KeepsOthers.of_grownBy (zf2 g2 none) (fun _ _ e=>by cases e))).trans ko1).trans ko2
    have gf:=zbv (zbv (zbv gf0 (zf2 g2 none) (fun _ e=>by cases e)) b1 (fun j e=>by cases e;exact .inr (by omega))) b2 (fun j e=>by cases e;exact .inr (by omega))
    have kn:=kp rnY (by omega)
    have km:=kp rmY (by omega)
    refine ⟨ko.from _,⟨kn.is.trans rn.is.symm,km.is.trans rm.is.symm⟩,?_⟩
    dsimp only
    rw[HJ.out]
    exact ⟨Held.cons (kp r4Y (by omega)) (Held.cons (kp r5Y (by omega)) (Held.cons (kp r7Y (by omega)) (Held.cons (kp r8Y (by omega)) (Held.cons o2 (Held.cons (kp rSY (by omega)) (Held.cons kn (Held.cons km (Held.nil _)))))))),gf⟩
  ·have t0:decide (N.e=0)=false:=by simp[e0]
   have HJ:=Lib.hid (Hsn.out.trans (zd5 e0))
   clear Hsn
   first|refine zab (by kernel_rfl) ?_|(gi_step;first|refine zab (by kernel_rfl) ?_|(gi_step;first|refine zab (by kernel_rfl) ?_|(gi_step;first|refine zab (by kernel_rfl) ?_|(gi_step;first|refine zab (by kernel_rfl) ?_|(gi_step;first|refine zab (by kernel_rfl) ?_|(gi_step;refine zab (by kernel_rfl) ?_))))))
   go_wp2
   refine ⟨rfl,?_⟩
   gi_wp2
   refine ⟨ko0.from _,⟨rnY.is.trans rn.is.symm,rmY.is.trans rm.is.symm⟩,?_⟩
   dsimp only
   rw[HJ.out]
   exact ⟨Held.cons r4Y (Held.cons r5Y (Held.cons r7Y (Held.cons r8Y (Held.cons rOY (Held.cons rSY (Held.cons rnY (Held.cons rmY (Held.nil _)))))))),gf0⟩
 case done=>
  rintro D ys W hD hys ⟨hH,hgr0⟩ hK
  obtain ⟨r4,hH⟩:=hH.head
  obtain ⟨r5,hH⟩:=hH.head
  obtain ⟨r7,hH⟩:=hH.head
  obtain ⟨r8,hH⟩:=hH.head
  obtain ⟨rO,hH⟩:=hH.head
  obtain ⟨rS,hH⟩:=hH.head
  clear hH
  have i8:=r8.blockIn
  have iO:=rO.blockIn
  have iS:=rS.blockIn
  have HR2:=Lib.hid (show R=zkH (zcE s l n ys) by rw[hys];exact HR.out)
  clear Hseq HF HC Hs hseq HR
  generalize zcE s l n ys=O at *
  have kD:W.heap[D]?=some (.deferred (some [])):=hK
  have hwV:=hW.size
  cases O with
  |none=>
   change RowIs W (m+1) 4 [.bool false] at rS
   go_wp2_with (first|(with_reducible refine wLi ?_)|(with_reducible refine wSi ?_))
   have g1:=zcT W (w.heap.size+1+1+1) State.zero.cells.toArray
   have x8:RowIs (W.setRow (w.heap.size+1+1+1) State.zero.cells.toArray) (w.heap.size+1+1+1) 28 State.zero.cells:=zcD W (w.heap.size+1+1+1) 28 15 State.zero.cells
   have kD2:(W.setRow (w.heap.size+1+1+1) State.zero.cells.toArray).heap[D]?=some (.deferred (some [])):=(KeepsOthers.of_grownBy g1 (fun j o ej hj=>by cases ej;exact r8.cells_at o hj)).same D _ kD rfl
   have gD:=grownBy_putObj' (W.setRow (w.heap.size+1+1+1) State.zero.cells.toArray) D (.deferred none)
   have z8:=x8.kept gD (fun e=>by
    cases e
    have:=x8.is
    rw[kD2] at this
    cases this)
   have gf:=zbv (zbv hgr0 g1 (fun j e=>by cases e;exact .inr (by omega))) gD (fun j e=>by cases e;exact .inr (by omega))
   refine ⟨by simp,.inl ⟨_,_,rfl,run_takeDeferred kD2,?_⟩⟩
   refine ⟨.tuple #[.agg State.zero.cells.toArray,.int .i64 7],?_,⟨zfs HR2.out,zf3 gf⟩⟩
   exact zdV Tryz.results5 rfl rfl inferInstance z8 inferInstance
  |some A=>
   change RowIs W (m+1) 4 [.bool true] at rS
   change RowIs W m 28 A.cells at rO
   go_wp2_with (first|(with_reducible refine wLi ?_)|(with_reducible refine wSi ?_))
   have g1:=zcT W (w.heap.size+1+1+1) A.cells.toArray
   have x8:RowIs (W.setRow (w.heap.size+1+1+1) A.cells.toArray) (w.heap.size+1+1+1) 28 A.cells:=zcD W (w.heap.size+1+1+1) 28 15 A.cells
   have kD2:(W.setRow (w.heap.size+1+1+1) A.cells.toArray).heap[D]?=some (.deferred (some [])):=(KeepsOthers.of_grownBy g1 (fun j o ej hj=>by cases ej;exact r8.cells_at o hj)).same D _ kD rfl
   have gD:=grownBy_putObj' (W.setRow (w.heap.size+1+1+1) A.cells.toArray) D (.deferred none)
   have z8:=x8.kept gD (fun e=>by
    cases e
    have:=x8.is
    rw[kD2] at this
    cases this)
   have gf:=zbv (zbv hgr0 g1 (fun j e=>by cases e;exact .inr (by omega))) gD (fun j e=>by cases e;exact .inr (by omega))
   refine ⟨by simp,.inl ⟨_,_,rfl,run_takeDeferred kD2,?_⟩⟩
   refine ⟨.tuple #[.agg A.cells.toArray,.int .i64 0],?_,⟨zfs HR2.out,zf3 gf⟩⟩
   exact zdV Tryz.results5 rfl rfl inferInstance z8 inferInstance
 case stop=>
  rintro D c pre W hD hpre hf hK
  exact hf.elim
theorem zir (s:State) (l:List Radio) (wrong n:Int) [hp:Pv64 s] (hT:∀ m∈l,Ra64 m) (ao:Option Addr) (cap:Nat) (w:World) (hs:SlAt w (.slice ao l.length cap) l.length (l.flatMap Radio.cells)) :
 Calls Tryz.prog 5 #[.agg s.cells.toArray,.slice ao l.length cap,.int .i64 wrong,.int .i64 n] w (zh2 (zb8 s l wrong n) w):=by
 by_cases hE:zaQ s l n=0
 ·by_cases hw:wrong<0∨2<wrong∨(l.length:Int)<wrong
  ·exact zgE s l n ao cap w hs wrong hE hw
  ·obtain ⟨k,rfl⟩:=Int.eq_ofNat_of_zero_le (show 0≤wrong by omega)
   exact zhx s l n k hT ao cap w hs hE (by omega) (by omega)
 ·exact zis s l n ao cap w hs wrong hE
end Go.Proofs.YtdkfkalplmgoeaaGreat
