/-
  Joined: FliesS, FliesK.
-/
import Derived.Test.YtdkfkalplmgoeaaGreatFliesBH
import Derived.Test.YtdkfkalplmgoeaaGreatAlive03H
import Derived.Deep.QuietTactic
import Derived.BigQuiet
import Derived.Maps.AppendAt
import Derived.Laws.OwnMore
import Derived.Test.YtdkfkalplmgoeaaGreatFliesCH
namespace Go.Proofs.YtdkfkalplmgoeaaGreat
open Go.RowKit Go.Shelf
set_option maxRecDepth 100000
set_option maxHeartbeats 16000000
set_option linter.unusedSimpArgs false
theorem eqSt (s:State) (w:World):(Op.equalIn 10000 28 (.agg #[.int .i64 s.t,.int .i64 s.p.x.lo,.int .i64 s.p.x.hi,.int .i64 s.p.y.lo,.int .i64 s.p.y.hi,.int .i64 s.p.z.lo,.int .i64 s.p.z.hi,.int .i64 s.v.x.lo,.int .i64 s.v.x.hi,.int .i64 s.v.y.lo,.int .i64 s.v.y.hi,.int .i64 s.v.z.lo,.int .i64 s.v.z.hi,.int .i64 s.m.lo,.int .i64 s.m.hi]) (.agg #[.int .i64 s.t,.int .i64 s.p.x.lo,.int .i64 s.p.x.hi,.int .i64 s.p.y.lo,.int .i64 s.p.y.hi,.int .i64 s.p.z.lo,.int .i64 s.p.z.hi,.int .i64 s.v.x.lo,.int .i64 s.v.x.hi,.int .i64 s.v.y.lo,.int .i64 s.v.y.hi,.int .i64 s.v.z.lo,.int .i64 s.v.z.hi,.int .i64 s.m.lo,.int .i64 s.m.hi])).run Tryz.prog w=.ok true w:=by
 have h1:=ztB
 simp[go_sem,h1]
theorem eqTb (s:Tube) (w:World):(Op.equalIn 10000 81 (.agg #[.int .i64 s.a,.int .i64 s.z,.int .i64 s.p.x.lo,.int .i64 s.p.x.hi,.int .i64 s.p.y.lo,.int .i64 s.p.y.hi,.int .i64 s.p.z.lo,.int .i64 s.p.z.hi,.int .i64 s.v.x.lo,.int .i64 s.v.x.hi,.int .i64 s.v.y.lo,.int .i64 s.v.y.hi,.int .i64 s.v.z.lo,.int .i64 s.v.z.hi,.int .i64 s.m.lo,.int .i64 s.m.hi]) (.agg #[.int .i64 s.a,.int .i64 s.z,.int .i64 s.p.x.lo,.int .i64 s.p.x.hi,.int .i64 s.p.y.lo,.int .i64 s.p.y.hi,.int .i64 s.p.z.lo,.int .i64 s.p.z.hi,.int .i64 s.v.x.lo,.int .i64 s.v.x.hi,.int .i64 s.v.y.lo,.int .i64 s.v.y.hi,.int .i64 s.v.z.lo,.int .i64 s.v.z.hi,.int .i64 s.m.lo,.int .i64 s.m.hi])).run Tryz.prog w=.ok true w:=by
 have h1:=ztB
 simp[go_sem,h1]
theorem eqPt (a b c:Int) (w:World):(Op.equalIn 10000 58 (.agg #[.int .i64 a,.int .i64 b,.int .i64 c]) (.agg #[.int .i64 a,.int .i64 b,.int .i64 c])).run Tryz.prog w=.ok true w:=by
 simp[go_sem]
theorem zg7 (S:List State) (v1 v2:Value) (w:World) (h1:SlAt w v1 S.length (S.flatMap State.cells)) (h2:SlAt w v2 S.length (S.flatMap State.cells)):Calls Tryz.prog 15 #[v1,v2] w fun e w'=>e=.returned (.bool true)∧Grew w w':=by
 obtain ⟨ao1,cap1,rfl,hm1,hel1⟩:=ziK h1
 obtain ⟨ao2,cap2,rfl,hm2,hel2⟩:=ziK h2
 have H1:=Lib.hid hel1
 have H2:=Lib.hid hel2
 have hEq:=eqSt
 clear h1 h2 hel1 hel2
 go_enter Tryz.func15,Tryz.ntmps15
 go_wp2
 go_loopw [5] (fun t wr=>∃ k:Nat,t=.int .i64 k∧k≤S.length∧Grew w wr) (fun t _=>S.length-(intOf t).toNat)
 case atStart=>exact ⟨0,rfl,by omega,gwr⟩
 case round=>
  obtain ⟨k,rfl,hk,hg⟩:=hrel
  obtain ⟨z,rfl⟩:=zal hg
  clear hg
  by_cases hlt:k<S.length
  ·obtain ⟨b1,o1,rfl,hb1,hr1⟩:=H1.out k hlt
   obtain ⟨b2,o2,rfl,hb2,hr2⟩:=H2.out k hlt
   have ib1:BlockIn w b1:=⟨hb1⟩
   have ib2:BlockIn w b2:=⟨hb2⟩
   have f1_0:w.cell? ⟨b1,o1+k*15,none⟩=some (.int .i64 S[k].t):=by simpa using hr1.is 0 _ rfl
   have f2_0:w.cell? ⟨b2,o2+k*15,none⟩=some (.int .i64 S[k].t):=by simpa using hr2.is 0 _ rfl
   have f1_1:w.cell? ⟨b1,o1+k*15+1,none⟩=some (.int .i64 S[k].p.x.lo):=by simpa using hr1.is 1 _ rfl
   have f2_1:w.cell? ⟨b2,o2+k*15+1,none⟩=some (.int .i64 S[k].p.x.lo):=by simpa using hr2.is 1 _ rfl
   have f1_2:w.cell? ⟨b1,o1+k*15+2,none⟩=some (.int .i64 S[k].p.x.hi):=by simpa using hr1.is 2 _ rfl
   have f2_2:w.cell? ⟨b2,o2+k*15+2,none⟩=some (.int .i64 S[k].p.x.hi):=by simpa using hr2.is 2 _ rfl
   have f1_3:w.cell? ⟨b1,o1+k*15+3,none⟩=some (.int .i64 S[k].p.y.lo):=by simpa using hr1.is 3 _ rfl
   have f2_3:w.cell? ⟨b2,o2+k*15+3,none⟩=some (.int .i64 S[k].p.y.lo):=by simpa using hr2.is 3 _ rfl
   have f1_4:w.cell? ⟨b1,o1+k*15+4,none⟩=some (.int .i64 S[k].p.y.hi):=by simpa using hr1.is 4 _ rfl
   have f2_4:w.cell? ⟨b2,o2+k*15+4,none⟩=some (.int .i64 S[k].p.y.hi):=by simpa using hr2.is 4 _ rfl
   have f1_5:w.cell? ⟨b1,o1+k*15+5,none⟩=some (.int .i64 S[k].p.z.lo):=by simpa using hr1.is 5 _ rfl
   have f2_5:w.cell? ⟨b2,o2+k*15+5,none⟩=some (.int .i64 S[k].p.z.lo):=by simpa using hr2.is 5 _ rfl
   have f1_6:w.cell? ⟨b1,o1+k*15+6,none⟩=some (.int .i64 S[k].p.z.hi):=by simpa using hr1.is 6 _ rfl
   have f2_6:w.cell? ⟨b2,o2+k*15+6,none⟩=some (.int .i64 S[k].p.z.hi):=by simpa using hr2.is 6 _ rfl
   have f1_7:w.cell? ⟨b1,o1+k*15+7,none⟩=some (.int .i64 S[k].v.x.lo):=by simpa using hr1.is 7 _ rfl
   have f2_7:w.cell? ⟨b2,o2+k*15+7,none⟩=some (.int .i64 S[k].v.x.lo):=by simpa using hr2.is 7 _ rfl
   have f1_8:w.cell? ⟨b1,o1+k*15+8,none⟩=some (.int .i64 S[k].v.x.hi):=by simpa using hr1.is 8 _ rfl
   have f2_8:w.cell? ⟨b2,o2+k*15+8,none⟩=some (.int .i64 S[k].v.x.hi):=by simpa using hr2.is 8 _ rfl
   have f1_9:w.cell? ⟨b1,o1+k*15+9,none⟩=some (.int .i64 S[k].v.y.lo):=by simpa using hr1.is 9 _ rfl
   have f2_9:w.cell? ⟨b2,o2+k*15+9,none⟩=some (.int .i64 S[k].v.y.lo):=by simpa using hr2.is 9 _ rfl
   have f1_10:w.cell? ⟨b1,o1+k*15+10,none⟩=some (.int .i64 S[k].v.y.hi):=by simpa using hr1.is 10 _ rfl
   have f2_10:w.cell? ⟨b2,o2+k*15+10,none⟩=some (.int .i64 S[k].v.y.hi):=by simpa using hr2.is 10 _ rfl
   have f1_11:w.cell? ⟨b1,o1+k*15+11,none⟩=some (.int .i64 S[k].v.z.lo):=by simpa using hr1.is 11 _ rfl
   have f2_11:w.cell? ⟨b2,o2+k*15+11,none⟩=some (.int .i64 S[k].v.z.lo):=by simpa using hr2.is 11 _ rfl
   have f1_12:w.cell? ⟨b1,o1+k*15+12,none⟩=some (.int .i64 S[k].v.z.hi):=by simpa using hr1.is 12 _ rfl
   have f2_12:w.cell? ⟨b2,o2+k*15+12,none⟩=some (.int .i64 S[k].v.z.hi):=by simpa using hr2.is 12 _ rfl
   have f1_13:w.cell? ⟨b1,o1+k*15+13,none⟩=some (.int .i64 S[k].m.lo):=by simpa using hr1.is 13 _ rfl
   have f2_13:w.cell? ⟨b2,o2+k*15+13,none⟩=some (.int .i64 S[k].m.lo):=by simpa using hr2.is 13 _ rfl
   have f1_14:w.cell? ⟨b1,o1+k*15+14,none⟩=some (.int .i64 S[k].m.hi):=by simpa using hr1.is 14 _ rfl
   have f2_14:w.cell? ⟨b2,o2+k*15+14,none⟩=some (.int .i64 S[k].m.hi):=by simpa using hr2.is 14 _ rfl
   clear hr1 hr2 H1 H2
   generalize S[k]=s at *
   go_upto_region 6 with (fail)
   go_quiet (fail)
   go_wp2
   go_roundw
   case rel=>exact ⟨k+1,by go_num,by omega,⟨z.grew.os,z.grew.tape,z.grew.output,z.grew.size,z.grew.block⟩⟩
   case measure=>simp[intOf];omega
  ·go_wp2
   go_ret
   exact ⟨rfl,gwr⟩
theorem zg8 (S:List Tube) (v1 v2:Value) (w:World) (h1:SlAt w v1 S.length (S.flatMap Tube.cells)) (h2:SlAt w v2 S.length (S.flatMap Tube.cells)):Calls Tryz.prog 16 #[v1,v2] w fun e w'=>e=.returned (.bool true)∧Grew w w':=by
 obtain ⟨ao1,cap1,rfl,hm1,hel1⟩:=zkk h1
 obtain ⟨ao2,cap2,rfl,hm2,hel2⟩:=zkk h2
 have H1:=Lib.hid hel1
 have H2:=Lib.hid hel2
 have hEq:=eqTb
 clear h1 h2 hel1 hel2
 go_enter Tryz.func16,Tryz.ntmps16
 go_wp2
 go_loopw [5] (fun t wr=>∃ k:Nat,t=.int .i64 k∧k≤S.length∧Grew w wr) (fun t _=>S.length-(intOf t).toNat)
 case atStart=>exact ⟨0,rfl,by omega,gwr⟩
 case round=>
  obtain ⟨k,rfl,hk,hg⟩:=hrel
  obtain ⟨z,rfl⟩:=zal hg
  clear hg
  by_cases hlt:k<S.length
  ·obtain ⟨b1,o1,rfl,hb1,hr1⟩:=H1.out k hlt
   obtain ⟨b2,o2,rfl,hb2,hr2⟩:=H2.out k hlt
   have ib1:BlockIn w b1:=⟨hb1⟩
   have ib2:BlockIn w b2:=⟨hb2⟩
   have f1_0:w.cell? ⟨b1,o1+k*16,none⟩=some (.int .i64 S[k].a):=by simpa using hr1.is 0 _ rfl
   have f2_0:w.cell? ⟨b2,o2+k*16,none⟩=some (.int .i64 S[k].a):=by simpa using hr2.is 0 _ rfl
   have f1_1:w.cell? ⟨b1,o1+k*16+1,none⟩=some (.int .i64 S[k].z):=by simpa using hr1.is 1 _ rfl
   have f2_1:w.cell? ⟨b2,o2+k*16+1,none⟩=some (.int .i64 S[k].z):=by simpa using hr2.is 1 _ rfl
   have f1_2:w.cell? ⟨b1,o1+k*16+2,none⟩=some (.int .i64 S[k].p.x.lo):=by simpa using hr1.is 2 _ rfl
   have f2_2:w.cell? ⟨b2,o2+k*16+2,none⟩=some (.int .i64 S[k].p.x.lo):=by simpa using hr2.is 2 _ rfl
   have f1_3:w.cell? ⟨b1,o1+k*16+3,none⟩=some (.int .i64 S[k].p.x.hi):=by simpa using hr1.is 3 _ rfl
   have f2_3:w.cell? ⟨b2,o2+k*16+3,none⟩=some (.int .i64 S[k].p.x.hi):=by simpa using hr2.is 3 _ rfl
   have f1_4:w.cell? ⟨b1,o1+k*16+4,none⟩=some (.int .i64 S[k].p.y.lo):=by simpa using hr1.is 4 _ rfl
   have f2_4:w.cell? ⟨b2,o2+k*16+4,none⟩=some (.int .i64 S[k].p.y.lo):=by simpa using hr2.is 4 _ rfl
   have f1_5:w.cell? ⟨b1,o1+k*16+5,none⟩=some (.int .i64 S[k].p.y.hi):=by simpa using hr1.is 5 _ rfl
   have f2_5:w.cell? ⟨b2,o2+k*16+5,none⟩=some (.int .i64 S[k].p.y.hi):=by simpa using hr2.is 5 _ rfl
   have f1_6:w.cell? ⟨b1,o1+k*16+6,none⟩=some (.int .i64 S[k].p.z.lo):=by simpa using hr1.is 6 _ rfl
   have f2_6:w.cell? ⟨b2,o2+k*16+6,none⟩=some (.int .i64 S[k].p.z.lo):=by simpa using hr2.is 6 _ rfl
   have f1_7:w.cell? ⟨b1,o1+k*16+7,none⟩=some (.int .i64 S[k].p.z.hi):=by simpa using hr1.is 7 _ rfl
   have f2_7:w.cell? ⟨b2,o2+k*16+7,none⟩=some (.int .i64 S[k].p.z.hi):=by simpa using hr2.is 7 _ rfl
   have f1_8:w.cell? ⟨b1,o1+k*16+8,none⟩=some (.int .i64 S[k].v.x.lo):=by simpa using hr1.is 8 _ rfl
   have f2_8:w.cell? ⟨b2,o2+k*16+8,none⟩=some (.int .i64 S[k].v.x.lo):=by simpa using hr2.is 8 _ rfl
   have f1_9:w.cell? ⟨b1,o1+k*16+9,none⟩=some (.int .i64 S[k].v.x.hi):=by simpa using hr1.is 9 _ rfl
   have f2_9:w.cell? ⟨b2,o2+k*16+9,none⟩=some (.int .i64 S[k].v.x.hi):=by simpa using hr2.is 9 _ rfl
   have f1_10:w.cell? ⟨b1,o1+k*16+10,none⟩=some (.int .i64 S[k].v.y.lo):=by simpa using hr1.is 10 _ rfl
   have f2_10:w.cell? ⟨b2,o2+k*16+10,none⟩=some (.int .i64 S[k].v.y.lo):=by simpa using hr2.is 10 _ rfl
   have f1_11:w.cell? ⟨b1,o1+k*16+11,none⟩=some (.int .i64 S[k].v.y.hi):=by simpa using hr1.is 11 _ rfl
   have f2_11:w.cell? ⟨b2,o2+k*16+11,none⟩=some (.int .i64 S[k].v.y.hi):=by simpa using hr2.is 11 _ rfl
   have f1_12:w.cell? ⟨b1,o1+k*16+12,none⟩=some (.int .i64 S[k].v.z.lo):=by simpa using hr1.is 12 _ rfl
   have f2_12:w.cell? ⟨b2,o2+k*16+12,none⟩=some (.int .i64 S[k].v.z.lo):=by simpa using hr2.is 12 _ rfl
   have f1_13:w.cell? ⟨b1,o1+k*16+13,none⟩=some (.int .i64 S[k].v.z.hi):=by simpa using hr1.is 13 _ rfl
   have f2_13:w.cell? ⟨b2,o2+k*16+13,none⟩=some (.int .i64 S[k].v.z.hi):=by simpa using hr2.is 13 _ rfl
   have f1_14:w.cell? ⟨b1,o1+k*16+14,none⟩=some (.int .i64 S[k].m.lo):=by simpa using hr1.is 14 _ rfl
   have f2_14:w.cell? ⟨b2,o2+k*16+14,none⟩=some (.int .i64 S[k].m.lo):=by simpa using hr2.is 14 _ rfl
   have f1_15:w.cell? ⟨b1,o1+k*16+15,none⟩=some (.int .i64 S[k].m.hi):=by simpa using hr1.is 15 _ rfl
   have f2_15:w.cell? ⟨b2,o2+k*16+15,none⟩=some (.int .i64 S[k].m.hi):=by simpa using hr2.is 15 _ rfl
   clear hr1 hr2 H1 H2
   generalize S[k]=s at *
   go_upto_region 6 with (fail)
   go_quiet (fail)
   go_wp2
   go_roundw
   case rel=>exact ⟨k+1,by go_num,by omega,⟨z.grew.os,z.grew.tape,z.grew.output,z.grew.size,z.grew.block⟩⟩
   case measure=>simp[intOf];omega
  ·go_wp2
   go_ret
   exact ⟨rfl,gwr⟩
end Go.Proofs.YtdkfkalplmgoeaaGreat
namespace Go.Proofs.YtdkfkalplmgoeaaGreat
open Go.RowKit Go.Shelf
set_option maxRecDepth 100000
set_option maxHeartbeats 4000000
set_option linter.unusedSimpArgs false
theorem zqb {w:World} {base:Nat} {e:TypeId} {size:Nat} {v:Value} {n:Nat} {xs:List Value} (h:w.ownsRow base e size v n xs):∀ k,v.ownBlock=some k→k<w.heap.size:=by
 intro k hk
 rcases h.2 with ⟨rfl,-⟩|⟨g,cap,cur,rfl,-,hh,-⟩
 ·cases hk
 ·cases hk
  exact (Array.getElem?_eq_some_iff.1 hh).1
structure FarAt (w:World) (row:Option Nat) (ao:Option Addr) (n:Nat) (xs:List Value):Prop where
 le:n≤maxLen
 at_:∀ i x,xs[i]?=some x→∃ b off,ao=some ⟨b,off,none⟩∧w.cell? ⟨b,off+i,none⟩=some x∧row≠some b
theorem FarAt.sl {w:World} {row:Option Nat} {ao:Option Addr} {n cap:Nat} {xs:List Value} (h:FarAt w row ao n xs):SlAt w (.slice ao n cap) n xs:=⟨ao,cap,rfl,h.le,fun i x hx=>by
 obtain ⟨b,off,e,h1,-⟩:=h.at_ i x hx
 exact ⟨b,off,e,h1⟩⟩
theorem FarAt.grew {w w':World} {row:Option Nat} {ao:Option Addr} {n:Nat} {xs:List Value} (h:FarAt w row ao n xs) (g:Grew w w'):FarAt w' row ao n xs:=⟨h.le,fun i x hx=>by
 obtain ⟨b,off,e,h1,h2⟩:=h.at_ i x hx
 exact ⟨b,off,e,g.cell h1,h2⟩⟩
theorem FarAt.row {w w':World} {row row':Option Nat} {ao:Option Addr} {n:Nat} {xs:List Value} (h:FarAt w row ao n xs) (g:w.grownBy w' row) (hr:row'=row∨∀ b,row'=some b→w.heap.size≤b):FarAt w' row' ao n xs:=⟨h.le,fun i x hx=>by
 obtain ⟨b,off,e,h1,h2⟩:=h.at_ i x hx
 have hb:=World.block_lt_of_cell? w _ h1
 refine ⟨b,off,e,?_,?_⟩
 ·have:=g.block b hb (fun k=>h2 k.symm)
  rw[←h1]
  simp[World.cell?,this]
 ·rcases hr with rfl|hr
  ·exact h2
  ·intro k
   have:=hr b k
   have hb':b<w.heap.size:=hb
   omega⟩
theorem zoZ {P:Program} (w:World) (t ty e:TypeId) (i:TypeInfo) (z:Value) (size bytes:Nat) (ht:P.underlying t=some (.slice e)) (hi:P.info? e=some i) (hz:i.zero=some z)
 (hsize:i.size=size) (hby:i.bytes=bytes) (hzs:z.cells.size=size) (hsz:0<size) (V:Value) (n:Nat) (xs:List Value) (hV:SlAt w V n xs) (hl:xs.length=n*size) (h1:∀ u∈xs,u.oneCell'=true) (hbytes:n*bytes≤140737488355328) :
 ∃ ao cap w',(Builtin.append_ #[t,t] ty #[.slice (some ⟨w.heap.size,0,none⟩) 0 0,V]).run P (w.alloc (.cells #[] e))=.ok (.slice ao n cap) w'∧SlAt w' (.slice ao n cap) n xs∧Grew w w'∧(∀ b off,ao=some ⟨b,off,none⟩→w.heap.size≤b):=by
 have hown:(w.alloc (.cells #[] e)).ownsRow w.heap.size e size (.slice (some ⟨w.heap.size,0,none⟩) 0 0) 0 []:=World.ownsRow_lit w #[] 0 (Nat.le_refl _) (by simp[maxLen]) (by simp)
 obtain ⟨ao,cap,rfl,hm,hc⟩:=hV
 by_cases h0:n=0
 ·subst h0
  have:xs=[]:=List.eq_nil_of_length_eq_zero (by simpa using hl)
  subst this
  refine ⟨some ⟨w.heap.size,0,none⟩,0,w.alloc (.cells #[] e),?_,⟨_,_,rfl,by simp[maxLen],fun i x hx=>by simp at hx⟩,(Grew.refl w).alloc _,fun b off h=>by cases h;exact Nat.le_refl _⟩
  cases ao<;>simp[Builtin.append_,run_underlying ht,sizeOf,typeInfo,hi,Builtin.lenOf,Builtin.firstCells,storeCells,loadCells,loadCellsFrom]
 ·have hx0:0<xs.length:=by
   rw[hl]
   exact Nat.mul_pos (by omega) hsz
  obtain ⟨b,off,rfl,-⟩:=hc 0 _ (List.getElem?_eq_getElem hx0)
  obtain ⟨v',w',hr,h2,h3,-,-⟩:=run_append_own_at (P:=P) (w.alloc (.cells #[] e)) w.heap.size t ty e i z size bytes ht hi hz hsize hby hzs hsz _ 0 [] hown ⟨b,off,none⟩ n cap xs hl (fun j u hu=>by
   obtain ⟨b',off',e1,e2⟩:=hc j u hu
   cases e1
   rw[Addr.add_lit,World.cell?_alloc_lt _ _ _ (World.block_lt_of_cell? w _ e2),e2]) h1 (by rw[Nat.zero_add];exact hm) (by rw[Nat.zero_add];exact hbytes) (by simp)
  rw[Nat.zero_add] at h2
  have hb:=zaN h2
  obtain ⟨ao2,cap2,rfl⟩:=zhQ h2
  refine ⟨ao2,cap2,w',hr,SlAt.of_owns h2,?_,fun b off h=>hb b (by rw[h];rfl)⟩
  exact ((Grew.refl w).alloc _).grown h3 (fun k hk=>by simp[Value.ownBlock] at hk;omega)
theorem zkq {P:Program} {ops:Array Oper} {rest:List Oper} {o:Oper} {a:Act} {Q:Exit→Act→World→Prop} (w:World) {m:Nat} [hm:SizeAt w m] (hgd:o.guard=none) (s x:Operand) (t:TypeId)
 (ho:o.op=.call { callee:=.builtin .append,args:=#[s,x],argTypes:=#[t,t] }) (e:TypeId) (size bytes:Nat) (z:Value) (ht:P.underlying t=some (.slice e))
 (hinfo:(P.info? e).map (fun i=>(i.zero,i.size,i.bytes))=some (some z,size,bytes)) (hzs:z.cells.size=size) (hsz:0<size) (hs:a.eval s=.slice (some ⟨m,0,none⟩) 0 0) (V:Value) (n:Nat) (xs:List Value)
 (hV:SlAt w V n xs) (hx:a.eval x=V) (hl:xs.length=n*size) (h1:∀ u∈xs,u.oneCell'=true) (hbytes:n*bytes≤140737488355328)
 (h:∀ ao cap (y:Later w),SlAt y.world (.slice ao n cap) n xs→(∀ b off,ao=some ⟨b,off,none⟩→w.heap.size≤b)→wpList P ops Q rest (a.put o.dst (.slice ao n cap)) y.world):wpList P ops Q (o::rest) a (w.alloc (.cells #[] e)):=by
 obtain rfl:=hm.eq
 obtain ⟨i,hi,hz,hsize,hby⟩:=info_parts hinfo
 obtain ⟨ao,cap,w',hr,h2,h3,h4⟩:=zoZ w t o.type e i z size bytes ht hi hz hsize hby hzs hsz V n xs hV hl h1 hbytes
 refine wpList_plain hgd fun K' hK'=>?_
 unfold Oper.wp execOp
 simp only[ho,resolve,invoke,builtin,Sem.run_bind,Sem.run_pure,Result.andThen_ok,List.map_toArray,List.map_cons,List.map_nil,hs,hx,hr]
 exact hK' _ _ (h ao cap ⟨w',h3⟩ h2 h4)
theorem ztL:(Tryz.prog.info? 48).map (fun i=>(i.zero,i.size,i.bytes))=some (some (.agg #[.int .i64 0,.int .i64 0,.int .i64 0,.int .i64 0,.int .i64 0,.int .i64 0,.int .i64 0,.int .i64 0,.int .i64 0,.int .i64 0,.int .i64 0,.int .i64 0,.slice none 0 0,.int .i64 0,.int .i64 0]),15,136):=by kernel_rfl
theorem znk (L:Arcs) (x:Arc × List Pt):(L++[x]).flatMap zcM=L.flatMap zcM++[.int .i64 x.1.time,.int .i64 x.1.step,.int .i64 x.1.thrust.lo,.int .i64 x.1.thrust.hi,.int .i64 x.1.flow.lo,.int .i64 x.1.flow.hi,.int .i64 x.1.dir.x.lo,.int .i64 x.1.dir.x.hi,.int .i64 x.1.dir.y.lo,.int .i64 x.1.dir.y.hi,.int .i64 x.1.dir.z.lo,.int .i64 x.1.dir.z.hi,.slice x.1.drag.ao x.1.drag.n x.1.drag.cap,.int .i64 x.1.drop.lo,.int .i64 x.1.drop.hi]:=by rw[List.flatMap_append];rfl
theorem zjv {ops:Array Oper} {rest:List Oper} {o:Oper} {a:Act} {Q:Exit→Act→World→Prop} (base:Nat) (w0:World) (hb:base≤w0.heap.size) {m:Nat} [hm:SizeAt w0 m] (hgd:o.guard=none) (s x:Operand)
 (ho:o.op=.call { callee:=.builtin .append,args:=#[s,x],argTypes:=#[44, 44] }) (v:Value) (S:Arcs) (hown:w0.ownsRow base 48 15 v S.length (S.flatMap zcM)) (hs:a.eval s=v) (t:Arc × List Pt) (ty:TypeId)
 (hx:a.eval x=.slice (some ⟨m,0,none⟩) 1 1) (hn:S.length≤4096)
 (h:∀ v' w1,w1.ownsRow base 48 15 v' (S++[t]).length ((S++[t]).flatMap zcM)→w0.grownBy w1 v.ownBlock→(v'.ownBlock=v.ownBlock∨∀ b,v'.ownBlock=some b→w0.heap.size≤b)→wpList Tryz.prog ops Q rest (a.put o.dst v') w1) :
 wpList Tryz.prog ops Q (o::rest) a (w0.alloc (.cells #[.int .i64 t.1.time,.int .i64 t.1.step,.int .i64 t.1.thrust.lo,.int .i64 t.1.thrust.hi,.int .i64 t.1.flow.lo,.int .i64 t.1.flow.hi,.int .i64 t.1.dir.x.lo,.int .i64 t.1.dir.x.hi,.int .i64 t.1.dir.y.lo,.int .i64 t.1.dir.y.hi,.int .i64 t.1.dir.z.lo,.int .i64 t.1.dir.z.hi,.slice t.1.drag.ao t.1.drag.n t.1.drag.cap,.int .i64 t.1.drop.lo,.int .i64 t.1.drop.hi] ty)):=by
 obtain rfl:=hm.eq
 obtain ⟨i0,hi,hz0,hzz1,hzz2⟩:=info_parts ztL
 refine wpList_append_lies _ hgd s x 44 ho base 48 i0 _ 15 136 Tryz.underlying44 hi hz0 hzz1 hzz2 rfl (by decide) v _ _ hs (hown.alloc _) ⟨w0.heap.size,0,none⟩ 1 1 [.int .i64 t.1.time,.int .i64 t.1.step,.int .i64 t.1.thrust.lo,.int .i64 t.1.thrust.hi,.int .i64 t.1.flow.lo,.int .i64 t.1.flow.hi,.int .i64 t.1.dir.x.lo,.int .i64 t.1.dir.x.hi,.int .i64 t.1.dir.y.lo,.int .i64 t.1.dir.y.hi,.int .i64 t.1.dir.z.lo,.int .i64 t.1.dir.z.hi,.slice t.1.drag.ao t.1.drag.n t.1.drag.cap,.int .i64 t.1.drop.lo,.int .i64 t.1.drop.hi] hx rfl (by simpa using zf5 w0 [.int .i64 t.1.time,.int .i64 t.1.step,.int .i64 t.1.thrust.lo,.int .i64 t.1.thrust.hi,.int .i64 t.1.flow.lo,.int .i64 t.1.flow.hi,.int .i64 t.1.dir.x.lo,.int .i64 t.1.dir.x.hi,.int .i64 t.1.dir.y.lo,.int .i64 t.1.dir.y.hi,.int .i64 t.1.dir.z.lo,.int .i64 t.1.dir.z.hi,.slice t.1.drag.ao t.1.drag.n t.1.drag.cap,.int .i64 t.1.drop.lo,.int .i64 t.1.drop.hi] ty) (by simp[Value.oneCell']) (by decide) (by simp[maxLen];omega) (by omega) (by simp;omega) _ rfl ?_
 intro g cap w1 hown1 hgrow1 hl1 hl2
 refine h _ w1 ?_ ⟨hgrow1.os,hgrow1.tape,hgrow1.output,Nat.le_trans (by simp) hgrow1.size,fun i hi hne=>(hgrow1.block i (by simp;omega) hne).trans (Below.heap_alloc w0 _ _ hi)⟩ ?_
 ·rw[znk,List.length_append]
  exact hown1
 ·rcases hl1 with e|e
  ·exact .inl e.symm
  ·right
   intro b hb
   cases hb
   rw[e]
   simp
theorem FarAt.set {w:World} {row:Option Nat} {ao:Option Addr} {n:Nat} {xs:List Value} (h:FarAt w row ao n xs) (c j:Nat) (v:Value) (hc:∀ b off,ao=some ⟨b,off,none⟩→b≠c):FarAt (w.setCell ⟨c,j,none⟩ v) row ao n xs:=⟨h.le,fun i x hx=>by
 obtain ⟨b,off,e,h1,h2⟩:=h.at_ i x hx
 refine ⟨b,off,e,?_,h2⟩
 have hb:=Below.heap_setCell w ⟨c,j,none⟩ v b (hc b off e)
 rw[←h1]
 simp[World.cell?,hb]⟩
def ztt (L:Arcs) (e:Ending):Prop:=∃ b,e=.returned (.bool b)∧(b=false→L.length≤34)
theorem zj3 (most:Int) (L:Arcs) (v:Value) (w:World) (hd:zcl w v L):Calls Tryz.prog 10 #[v,.int .i64 most] w (fun e w'=>ztt L e∧Grew w w'):=by
 have Hdr:=Lib.hid hd.2
 obtain ⟨ao,cap,rfl,hm,hel⟩:=zdz hd
 have Hel:=Lib.hid hel
 clear hd hel
 go_enter Tryz.func10,Tryz.ntmps10
 go_wp2
 go_loopw [5,6] (fun q t wr=>∃ (k:Nat) (sm:Int),t=.int .i64 k∧q=.int .i64 sm∧k≤L.length∧Grew w wr) (fun _ t _=>L.length-(intOf t).toNat)
 case atStart=>exact ⟨0,0,rfl,rfl,by omega,gw⟩
 case round=>
  obtain ⟨k,sm,rfl,rfl,hk,hg⟩:=hrel
  obtain ⟨z,rfl⟩:=zal hg
  clear hg
  by_cases hlt:k<L.length∧k≤32
  ·obtain ⟨hlt,h32⟩:=hlt
   obtain ⟨b,o,rfl,hb,hr⟩:=Hel.out k hlt
   obtain ⟨hdr,ht,hst⟩:=Hdr.out _ (List.getElem_mem hlt)
   have HA:=Lib.hid (fun w' (g:Grew w w')=>show Calls Tryz.prog 25 #[.agg L[k].1.cells.toArray] w' _ from zhT L[k].1 L[k].2 w' (hdr.grew g) ht hst)
   have ib:BlockIn w b:=⟨hb⟩
   have rz:=hr.grew z.grew
   have hd12:=hr.is 12 _ rfl
   clear Hel Hdr hdr hr ht hst
   generalize zaF L[k].1 L[k].2=sn at *
   generalize zaE L[k].1 L[k].2=sc at *
   generalize L[k].1=x at *
   by_cases h11:sc=0
   ·have h11':(sc==0)=true:=by simp[h11]
    clear h11
    by_cases h8:8<x.drag.n
    ·have h8':(8:Int)<x.drag.n:=by omega
     go_wp2_with (first|(go_at_call 25;(with_reducible refine zaa (HA.out _ ?_) ?_);(· exact gwr);intro u)|(with_reducible refine wLr ?_)|(with_reducible refine wLi ?_)|(with_reducible refine wSf ?_)|(with_reducible refine wSi ?_))
     go_ret
     exact ⟨⟨_,rfl,by first|(intro h;cases h;done)|(intro _;omega)⟩,gwr⟩
    ·have h8':¬ ((8:Int)<x.drag.n):=by omega
     go_wp2_with (first|(go_at_call 25;(with_reducible refine zaa (HA.out _ ?_) ?_);(· exact gwr);intro u)|(with_reducible refine wLr ?_)|(with_reducible refine wLi ?_)|(with_reducible refine wSf ?_)|(with_reducible refine wSi ?_))
     go_roundw
     case rel=>exact ⟨k+1,_,by go_num,rfl,by omega,gwr⟩
     case measure=>simp[intOf];omega
   ·have h11':(sc==0)=false:=by simp[h11]
    clear h11
    by_cases h8:8<x.drag.n
    ·have h8':(8:Int)<x.drag.n:=by omega
     go_wp2_with (first|(go_at_call 25;(with_reducible refine zaa (HA.out _ ?_) ?_);(· exact gwr);intro u)|(with_reducible refine wLr ?_)|(with_reducible refine wLi ?_)|(with_reducible refine wSf ?_)|(with_reducible refine wSi ?_))
     go_ret
     exact ⟨⟨_,rfl,by first|(intro h;cases h;done)|(intro _;omega)⟩,gwr⟩
    ·have h8':¬ ((8:Int)<x.drag.n):=by omega
     go_wp2_with (first|(go_at_call 25;(with_reducible refine zaa (HA.out _ ?_) ?_);(· exact gwr);intro u)|(with_reducible refine wLr ?_)|(with_reducible refine wLi ?_)|(with_reducible refine wSf ?_)|(with_reducible refine wSi ?_))
     go_roundw
     case rel=>exact ⟨k+1,_,by go_num,rfl,by omega,gwr⟩
     case measure=>simp[intOf];omega
  ·by_cases h1:k<L.length
   ·have h2:¬ ((k:Int)≤32):=by omega
    clear Hel Hdr
    by_cases hq:most<sm
    ·go_wp2
     go_ret
     exact ⟨⟨_,rfl,by first|(intro h;cases h;done)|(intro _;omega)⟩,gwr⟩
    ·by_cases h34:(34:Int)<L.length
     all_goals
      go_wp2
      go_ret
      exact ⟨⟨_,rfl,by first|(intro h;cases h;done)|(intro _;omega)⟩,gwr⟩
   ·clear Hel Hdr
    by_cases hq:most<sm
    ·go_wp2
     go_ret
     exact ⟨⟨_,rfl,by first|(intro h;cases h;done)|(intro _;omega)⟩,gwr⟩
    ·by_cases h34:(34:Int)<L.length
     all_goals
      go_wp2
      go_ret
      exact ⟨⟨_,rfl,by first|(intro h;cases h;done)|(intro _;omega)⟩,gwr⟩
end Go.Proofs.YtdkfkalplmgoeaaGreat
