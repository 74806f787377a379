/-
  Joined: NavCutAll.
-/
import Derived.Test.YtdkfkalplmgoeaaGreatNavCutOneL
import Derived.Test.YtdkfkalplmgoeaaGreatNavCutRateL
namespace Go.Proofs.YtdkfkalplmgoeaaGreat
open Go.RowKit Go.Shelf
set_option maxRecDepth 100000
set_option maxHeartbeats 8000000
def cutS (s:State) (m:Radio):State:=
 if m.kind=0 then { s with p:=(diTo s.p m.place m.value 3).pl }
 else if m.kind=1 then { s with v:=(zam 0 (zcA s m) s.v (zcY s m).s 3).1 }
 else if m.kind=2 then { s with p:=(zam 0 m.dir s.p m.value 3).1 }
 else { s with v:=(zam 0 m.dir s.v m.value 3).1 }
def cutE (s:State) (m:Radio):Int:=
 if m.kind=0 then (diTo s.p m.place m.value 3).e
 else if m.kind=1 then zcX s m
 else if m.kind=2 then (sumM 0 m.dir s.p m.value).e
 else (sumM 0 m.dir s.v m.value).e
theorem zp4 {w w':World} {b:Nat} {s:State} {X:Bx} (h:zan w b [.int .i64 s.t,.int .i64 s.p.x.lo,.int .i64 s.p.x.hi,.int .i64 s.p.y.lo,.int .i64 s.p.y.hi,.int .i64 s.p.z.lo,.int .i64 s.p.z.hi,.int .i64 s.v.x.lo,.int .i64 s.v.x.hi,.int .i64 s.v.y.lo,.int .i64 s.v.y.hi,.int .i64 s.v.z.lo,.int .i64 s.v.z.hi,.int .i64 s.m.lo,.int .i64 s.m.hi]) (k:ButX b 1 w w') (x:XAt w' b 1 X):zan w' b [.int .i64 ({ s with p:=X }).t,.int .i64 ({ s with p:=X }).p.x.lo,.int .i64 ({ s with p:=X }).p.x.hi,.int .i64 ({ s with p:=X }).p.y.lo,.int .i64 ({ s with p:=X }).p.y.hi,.int .i64 ({ s with p:=X }).p.z.lo,.int .i64 ({ s with p:=X }).p.z.hi,.int .i64 ({ s with p:=X }).v.x.lo,.int .i64 ({ s with p:=X }).v.x.hi,.int .i64 ({ s with p:=X }).v.y.lo,.int .i64 ({ s with p:=X }).v.y.hi,.int .i64 ({ s with p:=X }).v.z.lo,.int .i64 ({ s with p:=X }).v.z.hi,.int .i64 ({ s with p:=X }).m.lo,.int .i64 ({ s with p:=X }).m.hi]:=by
 have same:∀ i v,(i<1∨7≤i)→[.int .i64 s.t,.int .i64 s.p.x.lo,.int .i64 s.p.x.hi,.int .i64 s.p.y.lo,.int .i64 s.p.y.hi,.int .i64 s.p.z.lo,.int .i64 s.p.z.hi,.int .i64 s.v.x.lo,.int .i64 s.v.x.hi,.int .i64 s.v.y.lo,.int .i64 s.v.y.hi,.int .i64 s.v.z.lo,.int .i64 s.v.z.hi,.int .i64 s.m.lo,.int .i64 s.m.hi][i]?=some v→w'.cell? ⟨b,i,none⟩=some v∧w'.frozen? ⟨b,i,none⟩=false:=fun i v hi hv=>⟨by rw[k.cell i hi];exact (h i v hv).1,by rw[k.mark i];exact (h i v hv).2⟩
 intro i v hv
 match i,hv with
 |0,hv=>exact same 0 v (by omega) hv
 |1,hv=>cases hv;exact (x 0 (by omega)).1
 |2,hv=>cases hv;exact (x 0 (by omega)).2
 |3,hv=>cases hv;exact (x 1 (by omega)).1
 |4,hv=>cases hv;exact (x 1 (by omega)).2
 |5,hv=>cases hv;exact (x 2 (by omega)).1
 |6,hv=>cases hv;exact (x 2 (by omega)).2
 |n+7,hv=>exact same (n+7) v (by omega) hv
theorem zp5 {w w':World} {b:Nat} {s:State} {X:Bx} (h:zan w b [.int .i64 s.t,.int .i64 s.p.x.lo,.int .i64 s.p.x.hi,.int .i64 s.p.y.lo,.int .i64 s.p.y.hi,.int .i64 s.p.z.lo,.int .i64 s.p.z.hi,.int .i64 s.v.x.lo,.int .i64 s.v.x.hi,.int .i64 s.v.y.lo,.int .i64 s.v.y.hi,.int .i64 s.v.z.lo,.int .i64 s.v.z.hi,.int .i64 s.m.lo,.int .i64 s.m.hi]) (k:ButX b 7 w w') (x:XAt w' b 7 X):zan w' b [.int .i64 ({ s with v:=X }).t,.int .i64 ({ s with v:=X }).p.x.lo,.int .i64 ({ s with v:=X }).p.x.hi,.int .i64 ({ s with v:=X }).p.y.lo,.int .i64 ({ s with v:=X }).p.y.hi,.int .i64 ({ s with v:=X }).p.z.lo,.int .i64 ({ s with v:=X }).p.z.hi,.int .i64 ({ s with v:=X }).v.x.lo,.int .i64 ({ s with v:=X }).v.x.hi,.int .i64 ({ s with v:=X }).v.y.lo,.int .i64 ({ s with v:=X }).v.y.hi,.int .i64 ({ s with v:=X }).v.z.lo,.int .i64 ({ s with v:=X }).v.z.hi,.int .i64 ({ s with v:=X }).m.lo,.int .i64 ({ s with v:=X }).m.hi]:=by
 have same:∀ i v,(i<7∨13≤i)→[.int .i64 s.t,.int .i64 s.p.x.lo,.int .i64 s.p.x.hi,.int .i64 s.p.y.lo,.int .i64 s.p.y.hi,.int .i64 s.p.z.lo,.int .i64 s.p.z.hi,.int .i64 s.v.x.lo,.int .i64 s.v.x.hi,.int .i64 s.v.y.lo,.int .i64 s.v.y.hi,.int .i64 s.v.z.lo,.int .i64 s.v.z.hi,.int .i64 s.m.lo,.int .i64 s.m.hi][i]?=some v→w'.cell? ⟨b,i,none⟩=some v∧w'.frozen? ⟨b,i,none⟩=false:=fun i v hi hv=>⟨by rw[k.cell i hi];exact (h i v hv).1,by rw[k.mark i];exact (h i v hv).2⟩
 intro i v hv
 match i,hv with
 |0,hv=>exact same 0 v (by omega) hv
 |1,hv=>exact same 1 v (by omega) hv
 |2,hv=>exact same 2 v (by omega) hv
 |3,hv=>exact same 3 v (by omega) hv
 |4,hv=>exact same 4 v (by omega) hv
 |5,hv=>exact same 5 v (by omega) hv
 |6,hv=>exact same 6 v (by omega) hv
 |7,hv=>cases hv;exact (x 0 (by omega)).1
 |8,hv=>cases hv;exact (x 0 (by omega)).2
 |9,hv=>cases hv;exact (x 1 (by omega)).1
 |10,hv=>cases hv;exact (x 1 (by omega)).2
 |11,hv=>cases hv;exact (x 2 (by omega)).1
 |12,hv=>cases hv;exact (x 2 (by omega)).2
 |n+13,hv=>exact same (n+13) v (by omega) hv
def cutQ (S:State) (E:Int) (W:World) (n b:Nat):Option Int→World→Prop
 |none,w'=>E=0∧zan (zfv n none w') b [.int .i64 S.t,.int .i64 S.p.x.lo,.int .i64 S.p.x.hi,.int .i64 S.p.y.lo,.int .i64 S.p.y.hi,.int .i64 S.p.z.lo,.int .i64 S.p.z.hi,.int .i64 S.v.x.lo,.int .i64 S.v.x.hi,.int .i64 S.v.y.lo,.int .i64 S.v.y.hi,.int .i64 S.v.z.lo,.int .i64 S.v.z.hi,.int .i64 S.m.lo,.int .i64 S.m.hi]∧(∀ q l,q<W.heap.size→q≠b→zan W q l→zan (zfv n none w') q l)∧∀ a,Grew a W→a.heap.size≤b→Grew a (zfv n none w')
 |some c,w'=>E≠0∧c=E∧(∀ q l,q<W.heap.size→q≠b→zan W q l→zan (zfv n (some c) w') q l)∧∀ a,Grew a W→a.heap.size≤b→Grew a (zfv n (some c) w')
theorem zlG {a w w':World} {b off:Nat} (k:ButX b off w w') (g:Grew a w) (hb:a.heap.size≤b):Grew a w':=by
 have hs:=Below.size g
 exact { os:=k.os.trans g.os,tape:=k.tape.trans g.tape,output:=k.output.trans g.output,size:=Nat.le_trans hs k.size,block:=fun j hj=>(k.block j (by omega) (by omega)).trans (g.block j hj) }
theorem zfE {W w':World} {b off:Nat} {X:Bx} {c:Int} {e:Ending} {S:State} (hb:b<W.heap.size) (h:zes b off X c (W.alloc (.cells #[.int .i64 0] 30)) e w') (hS:c=0→ButX b off (W.alloc (.cells #[.int .i64 0] 30)) w'→XAt w' b off X→zan w' b [.int .i64 S.t,.int .i64 S.p.x.lo,.int .i64 S.p.x.hi,.int .i64 S.p.y.lo,.int .i64 S.p.y.hi,.int .i64 S.p.z.lo,.int .i64 S.p.z.hi,.int .i64 S.v.x.lo,.int .i64 S.v.x.hi,.int .i64 S.v.y.lo,.int .i64 S.v.y.hi,.int .i64 S.v.z.lo,.int .i64 S.v.z.hi,.int .i64 S.m.lo,.int .i64 S.m.hi]) :
 Ends W (cutQ S c W W.heap.size b) e w':=by
 obtain ⟨he,k,hx⟩:=h
 have hne:W.heap.size≠b:=by omega
 have hlt:W.heap.size<(W.alloc (.cells #[.int .i64 0] 30)).heap.size:=by simp
 have c0:(W.alloc (.cells #[.int .i64 0] 30)).cell? ⟨W.heap.size,0,none⟩=some (.int .i64 0)∧(W.alloc (.cells #[.int .i64 0] 30)).frozen? ⟨W.heap.size,0,none⟩=false:=zev W [.int .i64 0] 30 0 _ rfl
 have c1:w'.cell? ⟨W.heap.size,0,none⟩=some (.int .i64 0):=by rw[zcI (k.block _ hlt hne) 0];exact c0.1
 have c2:w'.frozen? ⟨W.heap.size,0,none⟩=false:=by rw[zbm (k.block _ hlt hne) 0];exact c0.2
 have gg:∀ a,Grew a W→a.heap.size≤b→Grew a w':=fun a g ha=>zlG k (g.alloc _) ha
 have kp:∀ q l,q<W.heap.size→q≠b→zan W q l→zan w' q l:=fun q l hq hne h=>(h.grew hq ((Grew.refl W).alloc _)).butx k (Nat.lt_trans hq hlt) hne
 refine ⟨?_,c1,c2⟩
 by_cases hc:c=0
 ·rw[if_pos hc] at he
  exact .inl ⟨he,hc,zah (hS hc k (hx hc)) hne,fun q l hq hn h=>zah (kp q l hq hn h) (by omega),fun a g ha=>(gg a g ha).setCell (by have:=Below.size g;exact this) _⟩
 ·rw[if_neg hc] at he
  exact .inr ⟨c,he,hc,rfl,fun q l hq hn h=>zah ((kp q l hq hn h).grew (Nat.lt_of_lt_of_le hq (Nat.le_trans (Nat.le_of_lt hlt) k.size)) ((Grew.refl w').alloc _)) (by omega),fun a g ha=>((gg a g ha).alloc _).setCell (by have:=Below.size g;exact this) _⟩
theorem zky (s:State) (m:Radio) [hp:B64 s.p] [hq:B64 s.v] [hf:B64 m.place] [hd:B64 m.dir] [hv:S64 m.value] (h0:0≤m.kind) (h1:m.kind≤3) (W:World) (b1 b2:Nat) (hm:zan W b1 [.int .i64 m.kind,.int .i64 m.place.x.lo,.int .i64 m.place.x.hi,.int .i64 m.place.y.lo,.int .i64 m.place.y.hi,.int .i64 m.place.z.lo,.int .i64 m.place.z.hi,.int .i64 m.dir.x.lo,.int .i64 m.dir.x.hi,.int .i64 m.dir.y.lo,.int .i64 m.dir.y.hi,.int .i64 m.dir.z.lo,.int .i64 m.dir.z.hi,.int .i64 m.value.lo,.int .i64 m.value.hi]) (hs:zan W b2 [.int .i64 s.t,.int .i64 s.p.x.lo,.int .i64 s.p.x.hi,.int .i64 s.p.y.lo,.int .i64 s.p.y.hi,.int .i64 s.p.z.lo,.int .i64 s.p.z.hi,.int .i64 s.v.x.lo,.int .i64 s.v.x.hi,.int .i64 s.v.y.lo,.int .i64 s.v.y.hi,.int .i64 s.v.z.lo,.int .i64 s.v.z.hi,.int .i64 s.m.lo,.int .i64 s.m.hi]) :
 Calls Tryz.prog 74 #[.pointer (some ⟨b1,0,none⟩),.pointer (some ⟨b2,0,none⟩)] (W.alloc (.cells #[.int .i64 0] 30)) (Ends W (cutQ (cutS s m) (cutE s m) W W.heap.size b2)):=by
 have g:Grew W (W.alloc (.cells #[.int .i64 0] 30)):=(Grew.refl W).alloc _
 have l1:=World.block_lt_of_cell? W _ (hm 0 _ rfl).1
 have l2:=World.block_lt_of_cell? W _ (hs 0 _ rfl).1
 have hm':=hm.grew l1 g
 have hs':=hs.grew l2 g
 rcases zf5 h0 h1 with hk|hk|hk|hk
 ·rw[show cutS s m={ s with p:=(diTo s.p m.place m.value 3).pl } by unfold cutS;rw[if_pos hk],show cutE s m=(diTo s.p m.place m.value 3).e by unfold cutE;rw[if_pos hk]]
  exact (zne s m hk _ b1 b2 hm' hs').mono fun e w' h=>zfE l2 h fun _ k x=>zp4 hs' k x
 ·rw[show cutS s m={ s with v:=(zam 0 (zcA s m) s.v (zcY s m).s 3).1 } by unfold cutS;rw[if_neg (by omega),if_pos hk],show cutE s m=zcX s m by unfold cutE;rw[if_neg (by omega),if_pos hk]]
  exact (znf s m hk _ b1 b2 hm' hs').mono fun e w' h=>zfE l2 h fun _ k x=>zp5 hs' k x
 ·rw[show cutS s m={ s with p:=(zam 0 m.dir s.p m.value 3).1 } by unfold cutS;rw[if_neg (by omega),if_neg (by omega),if_pos hk],show cutE s m=(sumM 0 m.dir s.p m.value).e by unfold cutE;rw[if_neg (by omega),if_neg (by omega),if_pos hk]]
  exact (zng s m hk _ b1 b2 hm' hs').mono fun e w' h=>zfE l2 h fun _ k x=>zp4 hs' k x
 ·rw[show cutS s m={ s with v:=(zam 0 m.dir s.v m.value 3).1 } by unfold cutS;rw[if_neg (by omega),if_neg (by omega),if_neg (by omega)],show cutE s m=(sumM 0 m.dir s.v m.value).e by unfold cutE;rw[if_neg (by omega),if_neg (by omega),if_neg (by omega)]]
  exact (znh s m hk _ b1 b2 hm' hs').mono fun e w' h=>zfE l2 h fun _ k x=>zp5 hs' k x
def State.zero:State:=⟨0,⟨⟨0,0⟩,⟨0,0⟩,⟨0,0⟩⟩,⟨⟨0,0⟩,⟨0,0⟩,⟨0,0⟩⟩,⟨0,0⟩⟩
structure ResT where
 s:State
 e:Int
def errT (e:Int):ResT:=⟨State.zero,e⟩
def cutR (s:State) (m:Radio):ResT:=if cutE s m=0 then ⟨cutS s m,0⟩ else errT (cutE s m)
def cutRR (s:State) (m:Radio):ResT:=if s.okB&&m.okB then cutR s m else errT 2
def RetT (r:ResT) (w:World) (e:Ending) (w':World):Prop:=e=.returned (.tuple #[.agg #[.int .i64 r.s.t,.int .i64 r.s.p.x.lo,.int .i64 r.s.p.x.hi,.int .i64 r.s.p.y.lo,.int .i64 r.s.p.y.hi,.int .i64 r.s.p.z.lo,.int .i64 r.s.p.z.hi,.int .i64 r.s.v.x.lo,.int .i64 r.s.v.x.hi,.int .i64 r.s.v.y.lo,.int .i64 r.s.v.y.hi,.int .i64 r.s.v.z.lo,.int .i64 r.s.v.z.hi,.int .i64 r.s.m.lo,.int .i64 r.s.m.hi],.int .i64 r.e])∧Grew w w'
theorem zgH {t px0 px1 py0 py1 pz0 pz1 vx0 vx1 vy0 vy1 vz0 vz1 m0 m1 e:Int} {r:ResT} (h:(⟨⟨t,⟨⟨px0,px1⟩,⟨py0,py1⟩,⟨pz0,pz1⟩⟩,⟨⟨vx0,vx1⟩,⟨vy0,vy1⟩,⟨vz0,vz1⟩⟩,⟨m0,m1⟩⟩,e⟩:ResT)=r) :
 Ending.returned (.tuple #[.agg #[.int .i64 t,.int .i64 px0,.int .i64 px1,.int .i64 py0,.int .i64 py1,.int .i64 pz0,.int .i64 pz1,.int .i64 vx0,.int .i64 vx1,.int .i64 vy0,.int .i64 vy1,.int .i64 vz0,.int .i64 vz1,.int .i64 m0,.int .i64 m1],.int .i64 e])=.returned (.tuple #[.agg #[.int .i64 r.s.t,.int .i64 r.s.p.x.lo,.int .i64 r.s.p.x.hi,.int .i64 r.s.p.y.lo,.int .i64 r.s.p.y.hi,.int .i64 r.s.p.z.lo,.int .i64 r.s.p.z.hi,.int .i64 r.s.v.x.lo,.int .i64 r.s.v.x.hi,.int .i64 r.s.v.y.lo,.int .i64 r.s.v.y.hi,.int .i64 r.s.v.z.lo,.int .i64 r.s.v.z.hi,.int .i64 r.s.m.lo,.int .i64 r.s.m.hi],.int .i64 r.e]):=by rw[←h]
theorem zen {s:State} {m:Radio} (h:cutE s m=0):(⟨cutS s m,0⟩:ResT)=cutR s m:=by unfold cutR;rw[if_pos h]
theorem zem {s:State} {m:Radio} (h:cutE s m≠0):errT (cutE s m)=cutR s m:=by unfold cutR;rw[if_neg h]
structure Halts (p:Prop):Prop where
 out:p
theorem zgW (s:State) (m:Radio) [hp:B64 s.p] [hq:B64 s.v] [hf:B64 m.place] [hd:B64 m.dir] [hv:S64 m.value] (h0:0≤m.kind) (h1:m.kind≤3) (w:World):Calls Tryz.prog 37 #[.agg #[.int .i64 s.t,.int .i64 s.p.x.lo,.int .i64 s.p.x.hi,.int .i64 s.p.y.lo,.int .i64 s.p.y.hi,.int .i64 s.p.z.lo,.int .i64 s.p.z.hi,.int .i64 s.v.x.lo,.int .i64 s.v.x.hi,.int .i64 s.v.y.lo,.int .i64 s.v.y.hi,.int .i64 s.v.z.lo,.int .i64 s.v.z.hi,.int .i64 s.m.lo,.int .i64 s.m.hi],.agg #[.int .i64 m.kind,.int .i64 m.place.x.lo,.int .i64 m.place.x.hi,.int .i64 m.place.y.lo,.int .i64 m.place.y.hi,.int .i64 m.place.z.lo,.int .i64 m.place.z.hi,.int .i64 m.dir.x.lo,.int .i64 m.dir.x.hi,.int .i64 m.dir.y.lo,.int .i64 m.dir.y.hi,.int .i64 m.dir.z.lo,.int .i64 m.dir.z.hi,.int .i64 m.value.lo,.int .i64 m.value.hi]] w (RetT (cutR s m) w):=by
 have HC:=Lib.hid (fun W n (hn:SizeAt W n) b1 b2 h h'=>show Calls Tryz.prog 74 #[.pointer (some ⟨b1,0,none⟩),.pointer (some ⟨b2,0,none⟩)] (W.alloc (.cells #[.int .i64 0] 30)) (Ends W (cutQ (cutS s m) (cutE s m) W n b2)) from by rw[←hn.eq];exact zky s m h0 h1 W b1 b2 h h')
 have hmf:∀ (fn:Fn) (first cap:Array Value) (w:World),(Instr.makeFunc fn first cap).run Tryz.prog w=.ok (.func fn first cap) w:=fun _ _ _ _=>rfl
 have B1:=Lib.hid (fun W' (g:Grew (w.alloc (.cells #[.int .i64 s.t,.int .i64 s.p.x.lo,.int .i64 s.p.x.hi,.int .i64 s.p.y.lo,.int .i64 s.p.y.hi,.int .i64 s.p.z.lo,.int .i64 s.p.z.hi,.int .i64 s.v.x.lo,.int .i64 s.v.x.hi,.int .i64 s.v.y.lo,.int .i64 s.v.y.hi,.int .i64 s.v.z.lo,.int .i64 s.v.z.hi,.int .i64 s.m.lo,.int .i64 s.m.hi] 28)) W')=>(zan.fresh (w:=w) (m:=w.heap.size) [.int .i64 s.t,.int .i64 s.p.x.lo,.int .i64 s.p.x.hi,.int .i64 s.p.y.lo,.int .i64 s.p.y.hi,.int .i64 s.p.z.lo,.int .i64 s.p.z.hi,.int .i64 s.v.x.lo,.int .i64 s.v.x.hi,.int .i64 s.v.y.lo,.int .i64 s.v.y.hi,.int .i64 s.v.z.lo,.int .i64 s.v.z.hi,.int .i64 s.m.lo,.int .i64 s.m.hi] 28).grew (by simp) g)
 have B2:=Lib.hid (fun W' (g:Grew ((w.alloc (.cells #[.int .i64 s.t,.int .i64 s.p.x.lo,.int .i64 s.p.x.hi,.int .i64 s.p.y.lo,.int .i64 s.p.y.hi,.int .i64 s.p.z.lo,.int .i64 s.p.z.hi,.int .i64 s.v.x.lo,.int .i64 s.v.x.hi,.int .i64 s.v.y.lo,.int .i64 s.v.y.hi,.int .i64 s.v.z.lo,.int .i64 s.v.z.hi,.int .i64 s.m.lo,.int .i64 s.m.hi] 28)).alloc (.cells #[.int .i64 m.kind,.int .i64 m.place.x.lo,.int .i64 m.place.x.hi,.int .i64 m.place.y.lo,.int .i64 m.place.y.hi,.int .i64 m.place.z.lo,.int .i64 m.place.z.hi,.int .i64 m.dir.x.lo,.int .i64 m.dir.x.hi,.int .i64 m.dir.y.lo,.int .i64 m.dir.y.hi,.int .i64 m.dir.z.lo,.int .i64 m.dir.z.hi,.int .i64 m.value.lo,.int .i64 m.value.hi] 88)) W')=>(zan.fresh (w:=w.alloc (.cells #[.int .i64 s.t,.int .i64 s.p.x.lo,.int .i64 s.p.x.hi,.int .i64 s.p.y.lo,.int .i64 s.p.y.hi,.int .i64 s.p.z.lo,.int .i64 s.p.z.hi,.int .i64 s.v.x.lo,.int .i64 s.v.x.hi,.int .i64 s.v.y.lo,.int .i64 s.v.y.hi,.int .i64 s.v.z.lo,.int .i64 s.v.z.hi,.int .i64 s.m.lo,.int .i64 s.m.hi] 28)) (m:=w.heap.size+1) [.int .i64 m.kind,.int .i64 m.place.x.lo,.int .i64 m.place.x.hi,.int .i64 m.place.y.lo,.int .i64 m.place.y.hi,.int .i64 m.place.z.lo,.int .i64 m.place.z.hi,.int .i64 m.dir.x.lo,.int .i64 m.dir.x.hi,.int .i64 m.dir.y.lo,.int .i64 m.dir.y.hi,.int .i64 m.dir.z.lo,.int .i64 m.dir.z.hi,.int .i64 m.value.lo,.int .i64 m.value.hi] 88).grew (by simp) g)
 have B4:=zan.fresh (w:=(w.alloc (.cells #[.int .i64 s.t,.int .i64 s.p.x.lo,.int .i64 s.p.x.hi,.int .i64 s.p.y.lo,.int .i64 s.p.y.hi,.int .i64 s.p.z.lo,.int .i64 s.p.z.hi,.int .i64 s.v.x.lo,.int .i64 s.v.x.hi,.int .i64 s.v.y.lo,.int .i64 s.v.y.hi,.int .i64 s.v.z.lo,.int .i64 s.v.z.hi,.int .i64 s.m.lo,.int .i64 s.m.hi] 28)).alloc (.cells #[.int .i64 m.kind,.int .i64 m.place.x.lo,.int .i64 m.place.x.hi,.int .i64 m.place.y.lo,.int .i64 m.place.y.hi,.int .i64 m.place.z.lo,.int .i64 m.place.z.hi,.int .i64 m.dir.x.lo,.int .i64 m.dir.x.hi,.int .i64 m.dir.y.lo,.int .i64 m.dir.y.hi,.int .i64 m.dir.z.lo,.int .i64 m.dir.z.hi,.int .i64 m.value.lo,.int .i64 m.value.hi] 88)) (m:=w.heap.size+1+1) [.int .i64 0,.int .i64 0,.int .i64 0,.int .i64 0,.int .i64 0,.int .i64 0,.int .i64 0,.int .i64 0,.int .i64 0,.int .i64 0,.int .i64 0,.int .i64 0,.int .i64 0,.int .i64 0,.int .i64 0] 28
 have HX:=Lib.hid (enters_of Tryz.func74 (by kernel_rfl) rfl)
 have HY:=Lib.hid (fun h=>zen (s:=s) (m:=m) h)
 have HN:=Lib.hid (fun h=>zem (s:=s) (m:=m) h)
 clear h0 h1
 generalize cutS s m=S at *
 generalize cutE s m=E at *
 generalize cutR s m=R at *
 go_enter Tryz.func37,Tryz.ntmps37
 go_wp2_with (go_at_call 73;go_loud (refine (zmW 74 _ HX.out _ _ (HC.out _ (w.heap.size+1+1+1) inferInstance _ _ (B2.out _ gw) (B1.out _ gw))).mono ?_;rintro e w9 ⟨o,w8,hq,rfl,rfl⟩;refine Halts.out ?_))
 refine ⟨?_⟩
 rcases o with _|c
 ·obtain ⟨hz,hB,hk,hg⟩:=hq
  have hR:=hk (w.heap.size+1+1) _ (by simp) (by omega) B4
  have n4:NewFor w (w.heap.size+1+1):=inferInstance
  have G9:=hg w gw (Nat.le_refl _)
  have HZ:=Lib.hid (HY.out hz)
  clear hg hk hz HY HN HC B1 B2 B4
  dsimp only[Option.getD]
  generalize zfv _ none w8=w9 at *
  have hB_0:=(hB 0 _ rfl).1
  have hBf0:=(hB 0 _ rfl).2
  have hBi0:HasCell (w9) (w.heap.size) 0:=⟨_,hB_0⟩
  have hB_1:=(hB 1 _ rfl).1
  have hBf1:=(hB 1 _ rfl).2
  have hBi1:HasCell (w9) (w.heap.size) 1:=⟨_,hB_1⟩
  have hB_2:=(hB 2 _ rfl).1
  have hBf2:=(hB 2 _ rfl).2
  have hBi2:HasCell (w9) (w.heap.size) 2:=⟨_,hB_2⟩
  have hB_3:=(hB 3 _ rfl).1
  have hBf3:=(hB 3 _ rfl).2
  have hBi3:HasCell (w9) (w.heap.size) 3:=⟨_,hB_3⟩
  have hB_4:=(hB 4 _ rfl).1
  have hBf4:=(hB 4 _ rfl).2
  have hBi4:HasCell (w9) (w.heap.size) 4:=⟨_,hB_4⟩
  have hB_5:=(hB 5 _ rfl).1
  have hBf5:=(hB 5 _ rfl).2
  have hBi5:HasCell (w9) (w.heap.size) 5:=⟨_,hB_5⟩
  have hB_6:=(hB 6 _ rfl).1
  have hBf6:=(hB 6 _ rfl).2
  have hBi6:HasCell (w9) (w.heap.size) 6:=⟨_,hB_6⟩
  have hB_7:=(hB 7 _ rfl).1
  have hBf7:=(hB 7 _ rfl).2
  have hBi7:HasCell (w9) (w.heap.size) 7:=⟨_,hB_7⟩
  have hB_8:=(hB 8 _ rfl).1
  have hBf8:=(hB 8 _ rfl).2
  have hBi8:HasCell (w9) (w.heap.size) 8:=⟨_,hB_8⟩
  have hB_9:=(hB 9 _ rfl).1
  have hBf9:=(hB 9 _ rfl).2
  have hBi9:HasCell (w9) (w.heap.size) 9:=⟨_,hB_9⟩
  have hB_10:=(hB 10 _ rfl).1
  have hBf10:=(hB 10 _ rfl).2
  have hBi10:HasCell (w9) (w.heap.size) 10:=⟨_,hB_10⟩
  have hB_11:=(hB 11 _ rfl).1
  have hBf11:=(hB 11 _ rfl).2
  have hBi11:HasCell (w9) (w.heap.size) 11:=⟨_,hB_11⟩
  have hB_12:=(hB 12 _ rfl).1
  have hBf12:=(hB 12 _ rfl).2
  have hBi12:HasCell (w9) (w.heap.size) 12:=⟨_,hB_12⟩
  have hB_13:=(hB 13 _ rfl).1
  have hBf13:=(hB 13 _ rfl).2
  have hBi13:HasCell (w9) (w.heap.size) 13:=⟨_,hB_13⟩
  have hB_14:=(hB 14 _ rfl).1
  have hBf14:=(hB 14 _ rfl).2
  have hBi14:HasCell (w9) (w.heap.size) 14:=⟨_,hB_14⟩
  have hBb:BlockIn (w9) (w.heap.size):=BlockIn.of_cell hB_0
  clear hB
  have hR_0:=(hR 0 _ rfl).1
  have hRf0:=(hR 0 _ rfl).2
  have hRi0:HasCell (w9) (w.heap.size+1+1) 0:=⟨_,hR_0⟩
  have hR_1:=(hR 1 _ rfl).1
  have hRf1:=(hR 1 _ rfl).2
  have hRi1:HasCell (w9) (w.heap.size+1+1) 1:=⟨_,hR_1⟩
  have hR_2:=(hR 2 _ rfl).1
  have hRf2:=(hR 2 _ rfl).2
  have hRi2:HasCell (w9) (w.heap.size+1+1) 2:=⟨_,hR_2⟩
  have hR_3:=(hR 3 _ rfl).1
  have hRf3:=(hR 3 _ rfl).2
  have hRi3:HasCell (w9) (w.heap.size+1+1) 3:=⟨_,hR_3⟩
  have hR_4:=(hR 4 _ rfl).1
  have hRf4:=(hR 4 _ rfl).2
  have hRi4:HasCell (w9) (w.heap.size+1+1) 4:=⟨_,hR_4⟩
  have hR_5:=(hR 5 _ rfl).1
  have hRf5:=(hR 5 _ rfl).2
  have hRi5:HasCell (w9) (w.heap.size+1+1) 5:=⟨_,hR_5⟩
  have hR_6:=(hR 6 _ rfl).1
  have hRf6:=(hR 6 _ rfl).2
  have hRi6:HasCell (w9) (w.heap.size+1+1) 6:=⟨_,hR_6⟩
  have hR_7:=(hR 7 _ rfl).1
  have hRf7:=(hR 7 _ rfl).2
  have hRi7:HasCell (w9) (w.heap.size+1+1) 7:=⟨_,hR_7⟩
  have hR_8:=(hR 8 _ rfl).1
  have hRf8:=(hR 8 _ rfl).2
  have hRi8:HasCell (w9) (w.heap.size+1+1) 8:=⟨_,hR_8⟩
  have hR_9:=(hR 9 _ rfl).1
  have hRf9:=(hR 9 _ rfl).2
  have hRi9:HasCell (w9) (w.heap.size+1+1) 9:=⟨_,hR_9⟩
  have hR_10:=(hR 10 _ rfl).1
  have hRf10:=(hR 10 _ rfl).2
  have hRi10:HasCell (w9) (w.heap.size+1+1) 10:=⟨_,hR_10⟩
  have hR_11:=(hR 11 _ rfl).1
  have hRf11:=(hR 11 _ rfl).2
  have hRi11:HasCell (w9) (w.heap.size+1+1) 11:=⟨_,hR_11⟩
  have hR_12:=(hR 12 _ rfl).1
  have hRf12:=(hR 12 _ rfl).2
  have hRi12:HasCell (w9) (w.heap.size+1+1) 12:=⟨_,hR_12⟩
  have hR_13:=(hR 13 _ rfl).1
  have hRf13:=(hR 13 _ rfl).2
  have hRi13:HasCell (w9) (w.heap.size+1+1) 13:=⟨_,hR_13⟩
  have hR_14:=(hR 14 _ rfl).1
  have hRf14:=(hR 14 _ rfl).2
  have hRi14:HasCell (w9) (w.heap.size+1+1) 14:=⟨_,hR_14⟩
  have hRb:BlockIn (w9) (w.heap.size+1+1):=BlockIn.of_cell hR_0
  clear hR
  go_wp2
  refine bodyPost_ret (by (simp[results,Tryz.results37,go_sem]<;>rfl)) rfl ?_
  exact ⟨zgH HZ.out,gw⟩
 ·obtain ⟨hz,rfl,hk,hg⟩:=hq
  have hR:=hk (w.heap.size+1+1) _ (by simp) (by omega) B4
  have n4:NewFor w (w.heap.size+1+1):=inferInstance
  have G9:=hg w gw (Nat.le_refl _)
  have HZ:=Lib.hid (HN.out hz)
  have hz':(c != 0)=true:=by simp[hz]
  clear hg hk hz HY HN HC B1 B2 B4
  dsimp only[Option.getD]
  generalize zfv _ (some c) w8=w9 at *
  have hR_0:=(hR 0 _ rfl).1
  have hRf0:=(hR 0 _ rfl).2
  have hRi0:HasCell (w9) (w.heap.size+1+1) 0:=⟨_,hR_0⟩
  have hR_1:=(hR 1 _ rfl).1
  have hRf1:=(hR 1 _ rfl).2
  have hRi1:HasCell (w9) (w.heap.size+1+1) 1:=⟨_,hR_1⟩
  have hR_2:=(hR 2 _ rfl).1
  have hRf2:=(hR 2 _ rfl).2
  have hRi2:HasCell (w9) (w.heap.size+1+1) 2:=⟨_,hR_2⟩
  have hR_3:=(hR 3 _ rfl).1
  have hRf3:=(hR 3 _ rfl).2
  have hRi3:HasCell (w9) (w.heap.size+1+1) 3:=⟨_,hR_3⟩
  have hR_4:=(hR 4 _ rfl).1
  have hRf4:=(hR 4 _ rfl).2
  have hRi4:HasCell (w9) (w.heap.size+1+1) 4:=⟨_,hR_4⟩
  have hR_5:=(hR 5 _ rfl).1
  have hRf5:=(hR 5 _ rfl).2
  have hRi5:HasCell (w9) (w.heap.size+1+1) 5:=⟨_,hR_5⟩
  have hR_6:=(hR 6 _ rfl).1
  have hRf6:=(hR 6 _ rfl).2
  have hRi6:HasCell (w9) (w.heap.size+1+1) 6:=⟨_,hR_6⟩
  have hR_7:=(hR 7 _ rfl).1
  have hRf7:=(hR 7 _ rfl).2
  have hRi7:HasCell (w9) (w.heap.size+1+1) 7:=⟨_,hR_7⟩
  have hR_8:=(hR 8 _ rfl).1
  have hRf8:=(hR 8 _ rfl).2
  have hRi8:HasCell (w9) (w.heap.size+1+1) 8:=⟨_,hR_8⟩
  have hR_9:=(hR 9 _ rfl).1
  have hRf9:=(hR 9 _ rfl).2
  have hRi9:HasCell (w9) (w.heap.size+1+1) 9:=⟨_,hR_9⟩
  have hR_10:=(hR 10 _ rfl).1
  have hRf10:=(hR 10 _ rfl).2
  have hRi10:HasCell (w9) (w.heap.size+1+1) 10:=⟨_,hR_10⟩
  have hR_11:=(hR 11 _ rfl).1
  have hRf11:=(hR 11 _ rfl).2
  have hRi11:HasCell (w9) (w.heap.size+1+1) 11:=⟨_,hR_11⟩
  have hR_12:=(hR 12 _ rfl).1
  have hRf12:=(hR 12 _ rfl).2
  have hRi12:HasCell (w9) (w.heap.size+1+1) 12:=⟨_,hR_12⟩
  have hR_13:=(hR 13 _ rfl).1
  have hRf13:=(hR 13 _ rfl).2
  have hRi13:HasCell (w9) (w.heap.size+1+1) 13:=⟨_,hR_13⟩
  have hR_14:=(hR 14 _ rfl).1
  have hRf14:=(hR 14 _ rfl).2
  have hRi14:HasCell (w9) (w.heap.size+1+1) 14:=⟨_,hR_14⟩
  have hRb:BlockIn (w9) (w.heap.size+1+1):=BlockIn.of_cell hR_0
  clear hR
  go_wp2
  refine bodyPost_ret (by (simp[results,Tryz.results37,go_sem]<;>rfl)) rfl ?_
  exact ⟨zgH HZ.out,gw⟩
end Go.Proofs.YtdkfkalplmgoeaaGreat
