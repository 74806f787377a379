/-
  Joined: FuseRef.
-/
import Derived.Test.YtdkfkalplmgoeaaGreatAppRadL
import Derived.Test.YtdkfkalplmgoeaaGreatRefCutL
namespace Go.Proofs.YtdkfkalplmgoeaaGreat
open Go.RowKit Go.Shelf
set_option maxRecDepth 100000
set_option maxHeartbeats 8000000
section
variable {s:State} {m:Radio} [hp:Pv64 s] [hm:Ra64 m]
theorem zmw (hk:m.okB=true) (h:cutE s m=0) (w:World):Calls Tryz.prog 40 #[.agg #[.int .i64 s.t,.int .i64 s.p.x.lo,.int .i64 s.p.x.hi,.int .i64 s.p.y.lo,.int .i64 s.p.y.hi,.int .i64 s.p.z.lo,.int .i64 s.p.z.hi,.int .i64 s.v.x.lo,.int .i64 s.v.x.hi,.int .i64 s.v.y.lo,.int .i64 s.v.y.hi,.int .i64 s.v.z.lo,.int .i64 s.v.z.hi,.int .i64 s.m.lo,.int .i64 s.m.hi],.agg #[.int .i64 m.kind,.int .i64 m.place.x.lo,.int .i64 m.place.x.hi,.int .i64 m.place.y.lo,.int .i64 m.place.y.hi,.int .i64 m.place.z.lo,.int .i64 m.place.z.hi,.int .i64 m.dir.x.lo,.int .i64 m.dir.x.hi,.int .i64 m.dir.y.lo,.int .i64 m.dir.y.hi,.int .i64 m.dir.z.lo,.int .i64 m.dir.z.hi,.int .i64 m.value.lo,.int .i64 m.value.hi]] w fun e w'=>e=.returned (.tuple #[.agg (cutS s m).cells.toArray,.int .i64 0])∧Grew w w':=by
 have:=ziC s m (zb5 hk).1 (zb5 hk).2 w
 rw[←zen h] at this
 exact this
theorem zmv (hk:m.okB=true) (h:cutE s m≠0) (w:World):Calls Tryz.prog 40 #[.agg #[.int .i64 s.t,.int .i64 s.p.x.lo,.int .i64 s.p.x.hi,.int .i64 s.p.y.lo,.int .i64 s.p.y.hi,.int .i64 s.p.z.lo,.int .i64 s.p.z.hi,.int .i64 s.v.x.lo,.int .i64 s.v.x.hi,.int .i64 s.v.y.lo,.int .i64 s.v.y.hi,.int .i64 s.v.z.lo,.int .i64 s.v.z.hi,.int .i64 s.m.lo,.int .i64 s.m.hi],.agg #[.int .i64 m.kind,.int .i64 m.place.x.lo,.int .i64 m.place.x.hi,.int .i64 m.place.y.lo,.int .i64 m.place.y.hi,.int .i64 m.place.z.lo,.int .i64 m.place.z.hi,.int .i64 m.dir.x.lo,.int .i64 m.dir.x.hi,.int .i64 m.dir.y.lo,.int .i64 m.dir.y.hi,.int .i64 m.dir.z.lo,.int .i64 m.dir.z.hi,.int .i64 m.value.lo,.int .i64 m.value.hi]] w fun e w'=>e=.returned (.tuple #[.agg State.zero.cells.toArray,.int .i64 (cutE s m)])∧Grew w w':=by
 have:=ziC s m (zb5 hk).1 (zb5 hk).2 w
 rw[←zem h] at this
 exact this
end
theorem zd7 (s:State) (l:List Radio) (n:Int) [hp:Pv64 s] (hT:∀ m∈l,Ra64 m) (hK:∀ m∈l,m.okB=true) (hn:0≤n) (hn2:n≤16) (ao:Option Addr) (cap:Nat) (w:World) (hs:SlAt w (.slice ao l.length cap) l.length (l.flatMap Radio.cells)) :
 Calls Tryz.prog 22 #[.agg s.cells.toArray,.slice ao l.length cap,.int .i64 n] w (zlx (zaB za2 l n.toNat 0 s) w):=by
 have hm:=hs.len_le
 unfold maxLen at hm
 obtain ⟨ao',cap',e1,-,hx⟩:=hs
 cases e1
 have HE:=Lib.hid (SlAt.elem (f:=Radio.cells) (c:=15) (fun _=>rfl) (by omega) hx)
 have HT:=Lib.hid hT
 have HK:=Lib.hid hK
 clear hx hT hK
 generalize hkeep:za2=keep at *
 have Hkeep:=Lib.hid hkeep
 clear hkeep
 generalize hF:zaB keep l n.toNat 0 s=F at *
 have HF:=Lib.hid hF
 clear hF
 have hEq:=zi5
 have B1:=fun W=>(inferInstance:RowIs (World.alloc W (.cells s.cells.toArray 28)) W.heap.size 28 s.cells)
 go_enter Tryz.func22,Tryz.ntmps22
 go_wp2
 go_loopw [9] (fun t wr=>∃ (u:Nat) (S:State) (z:World),z=wr∧t=.int .i64 u∧(u:Int)≤n∧Pv64 S∧Hid (FuseAt w w.heap.size (w.heap.size+1) S z)∧Hid (zaB keep l (n.toNat-u) u S=F)) (fun t _=>n.toNat-(intOf t).toNat)
 case atStart=>exact ⟨0,s,_,rfl,rfl,hn,hp,Lib.hid ⟨gwr,inferInstance,inferInstance⟩,HF⟩
 case round=>
  obtain ⟨u,S,z,rfl,rfl,hu,hS,HS,HR⟩:=hrel
  clear hp
  have n4:NewFor w w.heap.size:=inferInstance
  have n8:NewFor w (w.heap.size+1):=inferInstance
  have r4:=HS.out.r4
  have r8:=HS.out.r8
  have l8:w.heap.size+1<z.heap.size:=r8.lt
  have l4:w.heap.size<z.heap.size:=by omega
  generalize h4:w.heap.size=q4 at *
  generalize h8:q4+1=q8 at *
  have ib4:BlockIn z q4:=⟨l4⟩
  have ib8:BlockIn z q8:=⟨l8⟩
  by_cases hlt:(u:Int)<n
  ·have HR0:=Lib.hid (show n.toNat-u=(n.toNat-(u+1))+1 by omega)
   go_wp2_with (first|(with_reducible refine wLr ?_)|(with_reducible refine wLi ?_)|(with_reducible refine wSf ?_)|(with_reducible refine wSi ?_))
   go_loopw [11] (fun t wr=>∃ (k:Nat) (S':State) (y:World),y=wr∧t=.int .i64 k∧k≤l.length∧Pv64 S'∧Hid (InAt w q4 q8 z.heap.size S S' y)∧Hid (zbq keep l 0 S=zbq keep (l.drop k) k S')) (fun t _=>l.length-(intOf t).toNat)
   case atStart=>exact ⟨0,S,_,rfl,rfl,by omega,hS,Lib.hid ⟨⟨HS.out.grew.trans gwr,inferInstance,inferInstance⟩,inferInstance⟩,Lib.hid rfl⟩
   case round=>
    obtain ⟨k,S',y,rfl,rfl,hk,hS',HI,HQ⟩:=hrel
    have n11:NewFor w z.heap.size:=⟨Grew.size HS.out.grew⟩
    clear r4 r8 ib4 ib8 HS hS
    generalize z.heap.size=q11 at *
    obtain ⟨y',hy⟩:=zaj HI.out.on.grew
    subst hy
    have r4:=HI.out.on.r4
    have r8:=HI.out.on.r8
    have r11:=HI.out.was
    have ib4:BlockIn y'.world q4:=r4.blockIn
    have ib8:BlockIn y'.world q8:=r8.blockIn
    have ib11:BlockIn y'.world q11:=r11.blockIn
    have:Apart (q4) (q8):=⟨by omega⟩
    have:Apart (q4) (q11):=⟨by omega⟩
    have:Apart (q8) (q4):=⟨by omega⟩
    have:Apart (q8) (q11):=⟨by omega⟩
    have:Apart (q11) (q4):=⟨by omega⟩
    have:Apart (q11) (q8):=⟨by omega⟩
    by_cases hkl:k<l.length
    ·obtain ⟨b1,o1,e1,i1,hd1,hd2⟩:=HE.out k hkl
     cases e1
     have hc0:=hd1 _ rfl
     have hc1:=hd2 1 _ rfl
     have hc2:=hd2 2 _ rfl
     have hc3:=hd2 3 _ rfl
     have hc4:=hd2 4 _ rfl
     have hc5:=hd2 5 _ rfl
     have hc6:=hd2 6 _ rfl
     have hc7:=hd2 7 _ rfl
     have hc8:=hd2 8 _ rfl
     have hc9:=hd2 9 _ rfl
     have hc10:=hd2 10 _ rfl
     have hc11:=hd2 11 _ rfl
     have hc12:=hd2 12 _ rfl
     have hc13:=hd2 13 _ rfl
     have hc14:=hd2 14 _ rfl
     have j1:BlockIn w b1:=⟨by omega⟩
     clear hd1 hd2
     have G2:=Lib.hid (fun h h0=>zke (keep:=keep) (s:=S') hkl h h0)
     have G3:=Lib.hid (fun h h7=>ziy (keep:=keep) (s:=S') hkl h h7)
     have G4:=Lib.hid (fun h h0 h7=>ziz (keep:=keep) (s:=S') hkl h h0 h7)
     have hT:=HT.out _ (List.getElem_mem hkl)
     have hK:=HK.out _ (List.getElem_mem hkl)
     generalize l[k]=m at *
     have hb:keep k=true:=by rw[←Hkeep.out]
     have sc0:S'.cells[0]?=some (.int .i64 S'.t):=rfl
     have sc1:S'.cells[1]?=some (.int .i64 S'.p.x.lo):=rfl
     have sc2:S'.cells[2]?=some (.int .i64 S'.p.x.hi):=rfl
     have sc3:S'.cells[3]?=some (.int .i64 S'.p.y.lo):=rfl
     have sc4:S'.cells[4]?=some (.int .i64 S'.p.y.hi):=rfl
     have sc5:S'.cells[5]?=some (.int .i64 S'.p.z.lo):=rfl
     have sc6:S'.cells[6]?=some (.int .i64 S'.p.z.hi):=rfl
     have sc7:S'.cells[7]?=some (.int .i64 S'.v.x.lo):=rfl
     have sc8:S'.cells[8]?=some (.int .i64 S'.v.x.hi):=rfl
     have sc9:S'.cells[9]?=some (.int .i64 S'.v.y.lo):=rfl
     have sc10:S'.cells[10]?=some (.int .i64 S'.v.y.hi):=rfl
     have sc11:S'.cells[11]?=some (.int .i64 S'.v.z.lo):=rfl
     have sc12:S'.cells[12]?=some (.int .i64 S'.v.z.hi):=rfl
     have sc13:S'.cells[13]?=some (.int .i64 S'.m.lo):=rfl
     have sc14:S'.cells[14]?=some (.int .i64 S'.m.hi):=rfl
     ·by_cases h0:cutE S' m=0
      ·have HQ2:=Lib.hid (HQ.out.trans (G2.out hb h0))
       have hS2:Pv64 (cutS S' m):=zkg S' m
       have HC:=Lib.hid (fun w=>zmw (s:=S') (m:=m) hK h0 w)
       clear h0 G2 G3 G4 hb hT hK
       generalize cutS S' m=S2 at *
       have hst:∀ (W:World) (b:Nat) [RowIs W b 28 zcm],(storeCells ⟨b,0,none⟩ S2.cells).run Tryz.prog W=.ok () (W.setRow b S2.cells.toArray):=fun W b _=>zhU W b S2.cells zcm
       go_wp2_with (first|(with_reducible refine wLr ?_)|(with_reducible refine wLi ?_)|(with_reducible refine wSf ?_)|(with_reducible refine wSi ?_))
       go_region_held3 (fun w'=>w'.cell? ⟨q4,0,none⟩=some (.int .i64 S'.t)∧w'.cell? ⟨q4,1,none⟩=some (.int .i64 S'.p.x.lo)∧w'.cell? ⟨q4,2,none⟩=some (.int .i64 S'.p.x.hi)∧w'.cell? ⟨q4,3,none⟩=some (.int .i64 S'.p.y.lo)∧w'.cell? ⟨q4,4,none⟩=some (.int .i64 S'.p.y.hi)∧w'.cell? ⟨q4,5,none⟩=some (.int .i64 S'.p.z.lo)∧w'.cell? ⟨q4,6,none⟩=some (.int .i64 S'.p.z.hi)∧w'.cell? ⟨q4,7,none⟩=some (.int .i64 S'.v.x.lo)∧w'.cell? ⟨q4,8,none⟩=some (.int .i64 S'.v.x.hi)∧w'.cell? ⟨q4,9,none⟩=some (.int .i64 S'.v.y.lo)∧w'.cell? ⟨q4,10,none⟩=some (.int .i64 S'.v.y.hi)∧w'.cell? ⟨q4,11,none⟩=some (.int .i64 S'.v.z.lo)∧w'.cell? ⟨q4,12,none⟩=some (.int .i64 S'.v.z.hi)∧w'.cell? ⟨q4,13,none⟩=some (.int .i64 S'.m.lo)∧w'.cell? ⟨q4,14,none⟩=some (.int .i64 S'.m.hi)∧w'.cell? ⟨b1,o1+k*15,none⟩=some (.int .i64 m.kind)∧w'.cell? ⟨b1,o1+k*15+1,none⟩=some (.int .i64 m.place.x.lo)∧w'.cell? ⟨b1,o1+k*15+2,none⟩=some (.int .i64 m.place.x.hi)∧w'.cell? ⟨b1,o1+k*15+3,none⟩=some (.int .i64 m.place.y.lo)∧w'.cell? ⟨b1,o1+k*15+4,none⟩=some (.int .i64 m.place.y.hi)∧w'.cell? ⟨b1,o1+k*15+5,none⟩=some (.int .i64 m.place.z.lo)∧w'.cell? ⟨b1,o1+k*15+6,none⟩=some (.int .i64 m.place.z.hi)∧w'.cell? ⟨b1,o1+k*15+7,none⟩=some (.int .i64 m.dir.x.lo)∧w'.cell? ⟨b1,o1+k*15+8,none⟩=some (.int .i64 m.dir.x.hi)∧w'.cell? ⟨b1,o1+k*15+9,none⟩=some (.int .i64 m.dir.y.lo)∧w'.cell? ⟨b1,o1+k*15+10,none⟩=some (.int .i64 m.dir.y.hi)∧w'.cell? ⟨b1,o1+k*15+11,none⟩=some (.int .i64 m.dir.z.lo)∧w'.cell? ⟨b1,o1+k*15+12,none⟩=some (.int .i64 m.dir.z.hi)∧w'.cell? ⟨b1,o1+k*15+13,none⟩=some (.int .i64 m.value.lo)∧w'.cell? ⟨b1,o1+k*15+14,none⟩=some (.int .i64 m.value.hi)) (first|exact ⟨(by go_simp),(by go_simp),(by go_simp),(by go_simp),(by go_simp),(by go_simp),(by go_simp),(by go_simp),(by go_simp),(by go_simp),(by go_simp),(by go_simp),(by go_simp),(by go_simp),(by go_simp),(by go_simp),(by go_simp),(by go_simp),(by go_simp),(by go_simp),(by go_simp),(by go_simp),(by go_simp),(by go_simp),(by go_simp),(by go_simp),(by go_simp),(by go_simp),(by go_simp),(by go_simp)⟩) (first|(go_at_call 40;(with_reducible refine zaa (HC.out _) ?_);intro u6))
       all_goals go_wp2_with (first|(with_reducible refine wLr ?_)|(with_reducible refine wLi ?_)|(with_reducible refine wSf ?_)|(with_reducible refine wSi ?_))
       all_goals
        go_roundw
        case rel=>exact ⟨k+1,S2,_,rfl,by go_num,by omega,hS2,Lib.hid ⟨⟨gwr,inferInstance,inferInstance⟩,inferInstance⟩,HQ2⟩
        case measure=>simp[intOf];omega
      ·have HC:=Lib.hid (fun w=>zmv (s:=S') (m:=m) hK h0 w)
       by_cases h7:cutE S' m=7
       ·have hq7:=HQ.out.trans (G3.out hb h7)
        have hF7:=HR.out
        rw[HR0.out,zeD hq7] at hF7
        have HF7:=Lib.hid hF7
        rw[h7] at HC
        clear hq7 hF7 h0 h7 G2 G3 G4 hb hT hK HQ
        have hst:∀ (W:World) (b:Nat) [RowIs W b 28 zcm],(storeCells ⟨b,0,none⟩ State.zero.cells).run Tryz.prog W=.ok () (W.setRow b State.zero.cells.toArray):=fun W b _=>zhU W b State.zero.cells zcm
        go_wp2_with (first|(with_reducible refine wLr ?_)|(with_reducible refine wLi ?_)|(with_reducible refine wSf ?_)|(with_reducible refine wSi ?_))
        go_region_held3 (fun w'=>w'.cell? ⟨q4,0,none⟩=some (.int .i64 S'.t)∧w'.cell? ⟨q4,1,none⟩=some (.int .i64 S'.p.x.lo)∧w'.cell? ⟨q4,2,none⟩=some (.int .i64 S'.p.x.hi)∧w'.cell? ⟨q4,3,none⟩=some (.int .i64 S'.p.y.lo)∧w'.cell? ⟨q4,4,none⟩=some (.int .i64 S'.p.y.hi)∧w'.cell? ⟨q4,5,none⟩=some (.int .i64 S'.p.z.lo)∧w'.cell? ⟨q4,6,none⟩=some (.int .i64 S'.p.z.hi)∧w'.cell? ⟨q4,7,none⟩=some (.int .i64 S'.v.x.lo)∧w'.cell? ⟨q4,8,none⟩=some (.int .i64 S'.v.x.hi)∧w'.cell? ⟨q4,9,none⟩=some (.int .i64 S'.v.y.lo)∧w'.cell? ⟨q4,10,none⟩=some (.int .i64 S'.v.y.hi)∧w'.cell? ⟨q4,11,none⟩=some (.int .i64 S'.v.z.lo)∧w'.cell? ⟨q4,12,none⟩=some (.int .i64 S'.v.z.hi)∧w'.cell? ⟨q4,13,none⟩=some (.int .i64 S'.m.lo)∧w'.cell? ⟨q4,14,none⟩=some (.int .i64 S'.m.hi)∧w'.cell? ⟨b1,o1+k*15,none⟩=some (.int .i64 m.kind)∧w'.cell? ⟨b1,o1+k*15+1,none⟩=some (.int .i64 m.place.x.lo)∧w'.cell? ⟨b1,o1+k*15+2,none⟩=some (.int .i64 m.place.x.hi)∧w'.cell? ⟨b1,o1+k*15+3,none⟩=some (.int .i64 m.place.y.lo)∧w'.cell? ⟨b1,o1+k*15+4,none⟩=some (.int .i64 m.place.y.hi)∧w'.cell? ⟨b1,o1+k*15+5,none⟩=some (.int .i64 m.place.z.lo)∧w'.cell? ⟨b1,o1+k*15+6,none⟩=some (.int .i64 m.place.z.hi)∧w'.cell? ⟨b1,o1+k*15+7,none⟩=some (.int .i64 m.dir.x.lo)∧w'.cell? ⟨b1,o1+k*15+8,none⟩=some (.int .i64 m.dir.x.hi)∧w'.cell? ⟨b1,o1+k*15+9,none⟩=some (.int .i64 m.dir.y.lo)∧w'.cell? ⟨b1,o1+k*15+10,none⟩=some (.int .i64 m.dir.y.hi)∧w'.cell? ⟨b1,o1+k*15+11,none⟩=some (.int .i64 m.dir.z.lo)∧w'.cell? ⟨b1,o1+k*15+12,none⟩=some (.int .i64 m.dir.z.hi)∧w'.cell? ⟨b1,o1+k*15+13,none⟩=some (.int .i64 m.value.lo)∧w'.cell? ⟨b1,o1+k*15+14,none⟩=some (.int .i64 m.value.hi)) (first|exact ⟨(by go_simp),(by go_simp),(by go_simp),(by go_simp),(by go_simp),(by go_simp),(by go_simp),(by go_simp),(by go_simp),(by go_simp),(by go_simp),(by go_simp),(by go_simp),(by go_simp),(by go_simp),(by go_simp),(by go_simp),(by go_simp),(by go_simp),(by go_simp),(by go_simp),(by go_simp),(by go_simp),(by go_simp),(by go_simp),(by go_simp),(by go_simp),(by go_simp),(by go_simp),(by go_simp)⟩) (first|(go_at_call 40;(with_reducible refine zaa (HC.out _) ?_);intro u6))
        all_goals go_wp2_with (first|(with_reducible refine wLr ?_)|(with_reducible refine wLi ?_)|(with_reducible refine wSf ?_)|(with_reducible refine wSi ?_))
        all_goals
         refine bodyPost_ret (zds Tryz.results22 rfl rfl rfl inferInstance inferInstance inferInstance) rfl ?_
         exact ⟨zmJ (s:=State.zero) HF7.out.symm,gwr⟩
       ·have HQ2:=Lib.hid (HQ.out.trans (G4.out hb h0 h7))
        have t0:(cutE S' m==0)=false:=by simp[h0]
        have t7:(cutE S' m==7)=false:=by simp[h7]
        clear h0 h7 G2 G3 G4 hb hT hK
        generalize cutE S' m=E at *
        have hst:∀ (W:World) (b:Nat) [RowIs W b 28 zcm],(storeCells ⟨b,0,none⟩ State.zero.cells).run Tryz.prog W=.ok () (W.setRow b State.zero.cells.toArray):=fun W b _=>zhU W b State.zero.cells zcm
        go_wp2_with (first|(with_reducible refine wLr ?_)|(with_reducible refine wLi ?_)|(with_reducible refine wSf ?_)|(with_reducible refine wSi ?_))
        go_region_held3 (fun w'=>w'.cell? ⟨q4,0,none⟩=some (.int .i64 S'.t)∧w'.cell? ⟨q4,1,none⟩=some (.int .i64 S'.p.x.lo)∧w'.cell? ⟨q4,2,none⟩=some (.int .i64 S'.p.x.hi)∧w'.cell? ⟨q4,3,none⟩=some (.int .i64 S'.p.y.lo)∧w'.cell? ⟨q4,4,none⟩=some (.int .i64 S'.p.y.hi)∧w'.cell? ⟨q4,5,none⟩=some (.int .i64 S'.p.z.lo)∧w'.cell? ⟨q4,6,none⟩=some (.int .i64 S'.p.z.hi)∧w'.cell? ⟨q4,7,none⟩=some (.int .i64 S'.v.x.lo)∧w'.cell? ⟨q4,8,none⟩=some (.int .i64 S'.v.x.hi)∧w'.cell? ⟨q4,9,none⟩=some (.int .i64 S'.v.y.lo)∧w'.cell? ⟨q4,10,none⟩=some (.int .i64 S'.v.y.hi)∧w'.cell? ⟨q4,11,none⟩=some (.int .i64 S'.v.z.lo)∧w'.cell? ⟨q4,12,none⟩=some (.int .i64 S'.v.z.hi)∧w'.cell? ⟨q4,13,none⟩=some (.int .i64 S'.m.lo)∧w'.cell? ⟨q4,14,none⟩=some (.int .i64 S'.m.hi)∧w'.cell? ⟨b1,o1+k*15,none⟩=some (.int .i64 m.kind)∧w'.cell? ⟨b1,o1+k*15+1,none⟩=some (.int .i64 m.place.x.lo)∧w'.cell? ⟨b1,o1+k*15+2,none⟩=some (.int .i64 m.place.x.hi)∧w'.cell? ⟨b1,o1+k*15+3,none⟩=some (.int .i64 m.place.y.lo)∧w'.cell? ⟨b1,o1+k*15+4,none⟩=some (.int .i64 m.place.y.hi)∧w'.cell? ⟨b1,o1+k*15+5,none⟩=some (.int .i64 m.place.z.lo)∧w'.cell? ⟨b1,o1+k*15+6,none⟩=some (.int .i64 m.place.z.hi)∧w'.cell? ⟨b1,o1+k*15+7,none⟩=some (.int .i64 m.dir.x.lo)∧w'.cell? ⟨b1,o1+k*15+8,none⟩=some (.int .i64 m.dir.x.hi)∧w'.cell? ⟨b1,o1+k*15+9,none⟩=some (.int .i64 m.dir.y.lo)∧w'.cell? ⟨b1,o1+k*15+10,none⟩=some (.int .i64 m.dir.y.hi)∧w'.cell? ⟨b1,o1+k*15+11,none⟩=some (.int .i64 m.dir.z.lo)∧w'.cell? ⟨b1,o1+k*15+12,none⟩=some (.int .i64 m.dir.z.hi)∧w'.cell? ⟨b1,o1+k*15+13,none⟩=some (.int .i64 m.value.lo)∧w'.cell? ⟨b1,o1+k*15+14,none⟩=some (.int .i64 m.value.hi)) (first|exact ⟨(by go_simp),(by go_simp),(by go_simp),(by go_simp),(by go_simp),(by go_simp),(by go_simp),(by go_simp),(by go_simp),(by go_simp),(by go_simp),(by go_simp),(by go_simp),(by go_simp),(by go_simp),(by go_simp),(by go_simp),(by go_simp),(by go_simp),(by go_simp),(by go_simp),(by go_simp),(by go_simp),(by go_simp),(by go_simp),(by go_simp),(by go_simp),(by go_simp),(by go_simp),(by go_simp)⟩) (first|(go_at_call 40;(with_reducible refine zaa (HC.out _) ?_);intro u6))
        all_goals go_wp2_with (first|(with_reducible refine wLr ?_)|(with_reducible refine wLi ?_)|(with_reducible refine wSf ?_)|(with_reducible refine wSi ?_))
        all_goals
         go_roundw
         case rel=>exact ⟨k+1,S',_,rfl,by go_num,by omega,hS',Lib.hid ⟨⟨gwr,inferInstance,inferInstance⟩,inferInstance⟩,HQ2⟩
         case measure=>simp[intOf];omega
    ·obtain rfl:k=l.length:=by omega
     have hQ:=HQ.out.trans zkf
     have hF2:=HR.out
     rw[HR0.out] at hF2
     cases hsame:zg4 S' S
     ·have hne:S'≠S:=fun e=>by rw[zcr.2 e] at hsame;cases hsame
      rw[zeC hQ hne] at hF2
      have HF2:=Lib.hid hF2
      clear hF2 hQ hne
      go_wp2_with (first|(with_reducible refine wLr ?_)|(with_reducible refine wLi ?_)|(with_reducible refine wSf ?_)|(with_reducible refine wSi ?_))
      go_roundw
      case rel=>exact ⟨u+1,S',_,rfl,by go_num,by omega,hS',Lib.hid ⟨gwr,inferInstance,inferInstance⟩,HF2⟩
      case measure=>simp[intOf];omega
     ·rw[zeE (by rw[hQ,zcr.1 hsame])] at hF2
      rw[←zcr.1 hsame] at hF2
      have HF2:=Lib.hid hF2
      clear hF2 hQ
      go_wp2_with (first|(with_reducible refine wLr ?_)|(with_reducible refine wLi ?_)|(with_reducible refine wSf ?_)|(with_reducible refine wSi ?_))
      refine bodyPost_ret (zds Tryz.results22 rfl rfl rfl inferInstance inferInstance inferInstance) rfl ?_
      exact ⟨zmJ HF2.out.symm,gwr⟩
  ·have hu2:n=u:=by omega
   subst hu2
   have hF2:=HR.out
   rw[show (u:Int).toNat-u=0 by simp] at hF2
   have HF2:=Lib.hid hF2
   clear hF2 HR
   have hg:=HS.out.grew
   have:Apart (q4) (q8):=⟨by omega⟩
   have:Apart (q8) (q4):=⟨by omega⟩
   go_wp2_with (first|(with_reducible refine wLr ?_)|(with_reducible refine wLi ?_)|(with_reducible refine wSf ?_)|(with_reducible refine wSi ?_))
   refine bodyPost_ret (zds Tryz.results22 rfl rfl rfl inferInstance inferInstance inferInstance) rfl ?_
   exact ⟨zmJ HF2.out.symm,gwr⟩
end Go.Proofs.YtdkfkalplmgoeaaGreat
