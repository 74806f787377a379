/-
  Joined: Folds.
-/
import Derived.RangeFuncNested
import Derived.RangeFuncBound
import Derived.RangeFuncCalls
import Derived.RangeFuncLeaves
import Derived.RangeFuncBox
import Derived.Shelf.Abstract
import Derived.Shelf.RegionOpen
import Derived.OwnWalkIn
import Derived.TacticsInMore
import Derived.LoopNIn
import Derived.LoopIn
import Derived.Test.YtdkfkalplmgoeaaGreatSpanMul2L
namespace Go.Proofs.YtdkfkalplmgoeaaGreat
open Go.RowKit Go.Shelf
set_option maxRecDepth 100000
set_option maxHeartbeats 2000000
attribute [local go_sem] Oper.semAt_some

def upto {α:Type} (f:Nat→α) (k:Nat):List α:=(List.range k).map f
theorem zeT {α:Type} (f:Nat→α) (k:Nat):upto f (k+1)=upto f k++[f k]:=by simp[upto,List.range_succ]
theorem zgx {α:Type} (f:Nat→α) (k:Nat):(upto f k).length=k:=by simp[upto]
def Sx:Type:={ s:Sp // S64 s }
instance:Inhabited Sx:=⟨⟨⟨0,0⟩,inferInstance⟩⟩
def Sx.cells (x:Sx):List Value:=x.1.cells
abbrev nth (L:List Sx) (k:Nat):Nat × Sx:=(k,L[k]?.getD default)
def znv (x:Nat × Sx):Array Value:=#[.int .i64 (x.1:Int),.agg #[.int .i64 x.2.1.lo,.int .i64 x.2.1.hi]]
theorem zoY (N:Nat) (hn:1≤N) (l Bs n₀ b off cap:Nat) (L:List Sx) (hlen:L.length≤9223372036854775807) (hBn:Bs<n₀) (hb:b<n₀) (J Jx:List (Nat × Sx)→World→Prop)
 (hY:∀ pre x W,J pre W→pre.length<L.length→YieldAt Fence.wide (N-1) Tryz.prog l (znv x) W fun e W'=>
   (e=.returned (.bool true)∧J (pre++[x]) W'∧Below n₀ W W')∨(e=.returned (.bool false)∧Jx (pre++[x]) W'))
 (W:World) (hBs:W.cell? ⟨Bs,0,none⟩=some (.slice (some ⟨b,off,none⟩) L.length cap))
 (hc:∀ k,k<L.length→W.cell? ⟨b,off+k*2,none⟩=some (.int .i64 (L[k]?.getD default).1.lo)∧W.cell? ⟨b,off+k*2+1,none⟩=some (.int .i64 (L[k]?.getD default).1.hi)) (h0:J [] W) :
 CallsIn Fence.wide N Tryz.prog 205 #[.func (.yield l) #[] #[],.pointer (some ⟨Bs,0,none⟩)] W fun e W'=>(∃ v,e=.returned v)∧
  ((∃ ys,ys=upto (nth L) L.length∧J ys W')∨(∃ pre,(∃ k,k≤L.length∧pre=upto (nth L) k)∧Jx pre W')):=by
 refine callsIn_of_wp Tryz.func205 rfl trivial ?_ rfl
 simp only[Tryz.ntmps205,List.size_toArray,List.length_cons,List.length_nil,Nat.reduceAdd,Nat.reduceSub,Array.replicate_succ,Array.replicate_zero,List.push_toArray,List.append_toArray,List.nil_append,List.cons_append]
 gi_wp2
 gi_loopw [6] (fun i wr=>∃ k:Nat,k≤L.length∧i=.int .i64 k∧J (upto (nth L) k) wr∧Below n₀ W wr)
  (fun i _=>L.length-(intOf i).toNat)
 case atStart=>exact ⟨0,Nat.zero_le _,rfl,h0,Below.refl _ _⟩
 case round=>
  obtain ⟨k,hk,rfl,hJs,hnx⟩:=hrel
  have hBs':=(hnx.cell (p:=⟨Bs,0,none⟩) hBn).trans hBs
  have hcx:k<L.length→wr.cell? ⟨b,off+k*2,none⟩=some (.int .i64 (L[k]?.getD default).1.lo)∧wr.cell? ⟨b,off+k*2+1,none⟩=some (.int .i64 (L[k]?.getD default).1.hi):=
   fun h=>⟨(hnx.cell (p:=⟨b,off+k*2,none⟩) hb).trans (hc k h).1,(hnx.cell (p:=⟨b,off+k*2+1,none⟩) hb).trans (hc k h).2⟩
  by_cases hlt:k<L.length
  ·obtain ⟨fn,tmps,assign,body,hy,hR⟩:=hY _ (k,L[k]?.getD default) wr hJs (by rw[zgx];exact hlt)
   unfold znv at hy
   dsimp only at hy
   obtain ⟨hc1,hc2⟩:=hcx hlt
   clear hcx hc hY
   generalize hx:L[k]?.getD default=x at *
   have Hx:=Lib.hid hx
   clear hx
   gi_wp2
   refine hR.mono ?_
   rintro e W3 (⟨rfl,hJ3,hk3⟩|⟨rfl,hJx3⟩)
   ·gi_wp2
    go_roundw
    case rel=>exact ⟨k+1,by omega,by go_num,by rw[zeT];show J (upto (nth L) k++[(k,L[k]?.getD default)]) W3;rw[Hx.out];exact hJ3,hnx.trans hk3⟩
    case measure=>simp[intOf];omega
   ·gi_wp2
    refine bodyPost_ret (results_none rfl _ _ _) rfl ?_
    exact ⟨⟨_,rfl⟩,.inr ⟨_,⟨k+1,by omega,by rw[zeT];show _=upto (nth L) k++[(k,L[k]?.getD default)];rw[Hx.out]⟩,hJx3⟩⟩
  ·obtain rfl:k=L.length:=by omega
   gi_wp2
   go_end0
   exact ⟨⟨_,rfl⟩,.inl ⟨_,rfl,hJs⟩⟩
theorem ziT (N:Nat) (l Bs:Nat) (ao:Option Addr) (cap:Nat) (J:List (Nat × Sx)→World→Prop) (W:World) (hBs:W.cell? ⟨Bs,0,none⟩=some (.slice ao 0 cap)) (h0:J [] W) :
 CallsIn Fence.wide N Tryz.prog 205 #[.func (.yield l) #[] #[],.pointer (some ⟨Bs,0,none⟩)] W fun e W'=>(∃ v,e=.returned v)∧J [] W':=by
 refine callsIn_of_wp Tryz.func205 rfl trivial ?_ rfl
 simp only[Tryz.ntmps205,List.size_toArray,List.length_cons,List.length_nil,Nat.reduceAdd,Nat.reduceSub,Array.replicate_succ,Array.replicate_zero,List.push_toArray,List.append_toArray,List.nil_append,List.cons_append]
 gi_wp2
 gi_loopw [6] (fun i wr=>i=.int .i64 0∧J [] wr) (fun _ _=>0)
 case atStart=>exact ⟨rfl,h0⟩
 case round=>
  obtain ⟨rfl,hJs⟩:=hrel
  gi_wp2
  go_end0
  exact ⟨⟨_,rfl⟩,hJs⟩
theorem zlz (N:Nat) (hn:1≤N) (Bs:Nat) (v:Value) (L:List Sx) (w:World) (hc:w.cell? ⟨Bs,0,none⟩=some v) (hs:SlAt w v L.length (L.flatMap Sx.cells)) :
 SeqStopsK Fence.wide N Tryz.prog 205 #[.pointer (some ⟨Bs,0,none⟩)] znv (Below w.heap.size) (fun ys=>ys=upto (nth L) L.length) (fun pre=>∃ k,k≤L.length∧pre=upto (nth L) k) L.length w:=by
 intro l J Jx W hW _ _ hY h0
 have hBs:Bs<w.heap.size:=World.block_lt_of_cell? w _ hc
 have hc':=(hW.cell (p:=⟨Bs,0,none⟩) hBs).trans hc
 obtain ⟨ao,cap,rfl,hm,hx⟩:=hs
 have hE:=SlAt.elem (f:=Sx.cells) (c:=2) (fun _=>rfl) (by omega) hx
 by_cases hL:L.length=0
 ·obtain rfl:L=[]:=List.eq_nil_of_length_eq_zero hL
  exact (ziT N l Bs ao cap J W hc' h0).mono fun e W' ⟨he,hj⟩=>⟨he,.inl ⟨_,rfl,hj⟩⟩
 ·obtain ⟨b,off,rfl,hb,-,-⟩:=hE 0 (by omega)
  refine zoY N hn l Bs w.heap.size b off cap L (by unfold maxLen at hm;omega) hBs hb J Jx hY W hc' (fun k hk=>?_) h0
  obtain ⟨b',off',e,-,h1,h2⟩:=hE k hk
  cases e
  have h1:=h1 _ rfl
  have h2:=h2 1 _ rfl
  rw[List.getElem?_eq_getElem hk]
  exact ⟨(hW.cell (p:=⟨b,off+k*2,none⟩) hb).trans h1,(hW.cell (p:=⟨b,off+k*2+1,none⟩) hb).trans h2⟩
theorem ziJ (ao:Option Addr) (n cap:Nat) (w:World) :
 Calls Tryz.prog 183 #[.slice ao n cap] w fun e w'=>e=.returned (.func (.func 205) #[] #[.pointer (some ⟨w.heap.size,0,none⟩)])∧w'=w.alloc (.cells #[.slice ao n cap] 157):=by
 go_enter Tryz.func183,Tryz.ntmps183
 go_wp2
 go_ret
 exact ⟨rfl,rfl⟩
end Go.Proofs.YtdkfkalplmgoeaaGreat
namespace Go.Proofs.YtdkfkalplmgoeaaGreat
open Go.RowKit Go.Shelf
set_option maxRecDepth 100000
set_option maxHeartbeats 2000000
attribute [local go_sem] Oper.semAt_some

def zaD (W:World) (l:List (Nat × Nat × Value)):Prop:=∀ p∈l,W.cell? ⟨p.1,p.2.1,none⟩=some p.2.2∧W.frozen? ⟨p.1,p.2.1,none⟩=false
theorem zaD.nil (W:World):zaD W []:=fun p h=>by simp at h
theorem zaD.cons {W:World} {b i:Nat} {v:Value} {l:List (Nat × Nat × Value)} (h1:W.cell? ⟨b,i,none⟩=some v) (h2:W.frozen? ⟨b,i,none⟩=false) (h:zaD W l):zaD W ((b,i,v)::l):=by
 intro p hp
 rcases List.mem_cons.1 hp with rfl|hp
 ·exact ⟨h1,h2⟩
 ·exact h p hp
theorem zaD.head {W:World} {b i:Nat} {v:Value} {l:List (Nat × Nat × Value)} (h:zaD W ((b,i,v)::l)):(W.cell? ⟨b,i,none⟩=some v∧W.frozen? ⟨b,i,none⟩=false)∧zaD W l:=
 ⟨h (b,i,v) (by simp),fun p hp=>h p (by simp[hp])⟩
theorem zaD.kept {W W':World} {row:Option Nat} {l:List (Nat × Nat × Value)} (h:zaD W l) (hg:W.grownBy W' row) (hr:∀ r,row=some r→∃ o:Obj,W.heap[r]?=some o∧o.isCells=false):zaD W' l:=by
 intro p hp
 obtain ⟨h1,h2⟩:=h p hp
 exact ⟨cell_kept h1 hg hr,(frozen_kept h1 hg hr).trans h2⟩
theorem zcJ {β τ:Type} {B n₀:Nat} {w₀:World} (hn:n₀≤w₀.heap.size) (hB:n₀≤B) (Q:β→τ→Prop) (l:β→τ→List (Nat × Nat × Value)):OwnFrom B (fun s W=>∃ t,Q s t∧zaD W (l s t)∧Below n₀ w₀ W):=by
 intro s W W' row ⟨t,hq,hc,hb⟩ hg hr
 exact ⟨t,hq,hc.kept hg (fun r e=>(hr r e).2),ownFrom_below (β:=Unit) hn hB () W W' row hb hg hr⟩
theorem zei {τ:Type} {B:Nat} (Q:τ→Prop) (l:τ→List (Nat × Nat × Value)):OwnFrom B (fun (_:Unit) W=>∃ t,Q t∧zaD W (l t)):=by
 intro s W W' row ⟨t,hq,hc⟩ hg hr
 exact ⟨t,hq,hc.kept hg (fun r e=>(hr r e).2)⟩
theorem zbj {a w:World} {o:Obj} (h:KeepsOthers a w):KeepsOthers a (w.alloc o):=h.trans (KeepsOthers.alloc _ _)
theorem zaX {a w:World} {p:Addr} {v:Value} (h:KeepsOthers a w):KeepsOthers a (w.setCell p v):=h.trans (KeepsOthers.setCell _ _ _)
theorem zbw {a w:World} (h:KeepsOthers a w):KeepsOthers a w.drew:=h.trans (KeepsOthers.drew _)
theorem zbk {a w:World} {u:Later w} (h:KeepsOthers a w):KeepsOthers a u.world:=
 h.trans ⟨Below.size u.grew,fun k _ hk _=>(Below.block u.grew k (Array.getElem?_eq_some_iff.1 hk).1).trans hk⟩
theorem zeu {n:Nat} {w W W':World} (h1:Below n w W) (h2:Below n w W') (h3:W.heap.size≤W'.heap.size):Below n W W':=
 ⟨h2.os.trans h1.os.symm,h2.tape.trans h1.tape.symm,h2.output.trans h1.output.symm,h3,fun k hk=>(h2.block k hk).trans (h1.block k hk).symm⟩
theorem zaT {n l:Nat} {P:Program} {f:FuncId} {args:Array Value} {w:World} {v:Value} {R:Ending→World→Prop}
 (h:Calls P f args w fun e w'=>e=.returned v∧Grew w w') (k:∀ u:Later w,R (.returned v) u.world):CallsIn (Fence.wide.inRound l) n P f args w R:=
 CallsIn.inRound l (callsIn_wide.2 (h.mono fun _ w' ⟨he,hg⟩=>by subst he;exact k ⟨w',hg⟩))
def zcG (pre:List (Nat × Sx)):List Sp:=pre.map fun p=>p.2.1
theorem zlp (L:List Sx):zcG (upto (nth L) L.length)=L.map fun x=>x.1:=by
 apply List.ext_getElem
 ·simp[zcG,upto]
 ·intro i h1 h2
  simp[zcG,upto] at h1
  simp[zcG,upto,h1]
theorem zjJ (L:List Sx) (k:Nat) (hk:k≤L.length):zcG (upto (nth L) k)++((L.map fun x=>x.1).drop k)=L.map fun x=>x.1:=by
 have:zcG (upto (nth L) k)=(L.map fun x=>x.1).take k:=by
  apply List.ext_getElem
  ·simp[zcG,upto];omega
  ·intro i h1 h2
   simp[zcG,upto] at h1
   have h3:i<L.length:=by omega
   simp[zcG,upto,h3]
 rw[this,List.take_append_drop]
theorem zb2 {α:Type} (f:α→Res) (s:Sp) (l:List α) (x:α):zaK f s (l++[x])=if (zaK f s l).e=0 then zaK f (zaK f s l).s [x] else zaK f s l:=by
 induction l generalizing s with
 |nil=>rfl
 |cons y l ih=>
  simp only[List.cons_append,zaK]
  split
  ·split
   ·exact ih _
   ·rw[if_neg (by assumption)]
  ·rw[if_neg (by assumption)]
theorem zeB {α:Type} (f:α→Res) (s:Sp) (l m:List α) (h:(zaK f s l).e≠0):zaK f s (l++m)=zaK f s l:=by
 induction l generalizing s with
 |nil=>exact absurd rfl h
 |cons y l ih=>
  simp only[List.cons_append,zaK] at h ⊢
  split
  ·rename_i h1
   rw[if_pos h1] at h
   split
   ·rename_i h2
    rw[if_pos h2] at h
    exact ih _ h
   ·rfl
  ·rfl
def zoo (g:Nat) (lb:Array Value) (f:Sp→Res) (w0:World):Prop:=∀ (w:World) (x:Sx),Grew w0 w→Calls Tryz.prog g (#[.agg #[.int .i64 x.1.lo,.int .i64 x.1.hi]]++lb) w fun e w'=>e=.returned (.tuple #[.agg #[.int .i64 (f x.1).s.lo,.int .i64 (f x.1).s.hi],.int .i64 (f x.1).e])∧Grew w w'
theorem zny (f:Sp→Res) (hfs:∀ x,S64 x→S64 (f x).s) (g:Nat) (lb:Array Value) (eg:∀ args w,(callFunc g args).run Tryz.prog w=.ok (.enter g args) w) (L:List Sx) (Bs:Nat) (v:Value) (w:World)
 (hBs:w.cell? ⟨Bs,0,none⟩=some v) (hsl:SlAt w v L.length (L.flatMap Sx.cells)) (hterm:zoo g lb f w) :
 Calls Tryz.prog 182 #[.func (.func 205) #[] #[.pointer (some ⟨Bs,0,none⟩)],.func (.func g) #[] lb] w fun e w'=>e=.returned (.tuple #[.agg #[.int .i64 (zaK f z0 (L.map fun x=>x.1)).s.lo,.int .i64 (zaK f z0 (L.map fun x=>x.1)).s.hi],.int .i64 (zaK f z0 (L.map fun x=>x.1)).e])∧Grew w w':=by
 have hseq:=Lib.hid (zlz 5 (by omega) Bs v L w hBs hsl)
 have Ht:=Lib.hid hterm
 clear hterm hBs hsl
 refine (callsIn_wide (n:=6)).1 ?_
 refine callsIn_of_wp_marks Tryz.func182 rfl trivial ?_ rfl
 simp only[Tryz.ntmps182,List.size_toArray,List.length_cons,List.length_nil,Nat.reduceAdd,Nat.reduceSub,Array.replicate_succ,Array.replicate_zero,List.push_toArray,List.append_toArray,List.nil_append,List.cons_append]
 gi_wp2
 have hB0:Below w.heap.size w ((((w.alloc (.cells #[.func (.func g) #[] lb] 107)).alloc (.cells #[.int .i64 0,.int .i64 0] 24)).alloc (.cells #[.int .i64 0] 30)).alloc (.cells #[.int .i64 0,.int .i64 0] 24)):=(show Grew w _ from gw)
 refine wpIn_rangeFunc_ownH rfl (by omega) (gf:=205) (lb:=#[.pointer (some ⟨Bs,0,none⟩)]) rfl trivial (enters_of Tryz.func205 (by kernel_rfl) rfl)
  hseq.out belowK_t (belowK_b (by simp;omega)) hB0 (fun _=>rfl)
  (fun pre W=>∃ s:Sp,(zaK f z0 (zcG pre)=⟨s,0⟩∧S64 s)∧zaD W [(w.heap.size,0,.func (.func g) #[] lb),(w.heap.size+1,0,.int .i64 0),(w.heap.size+1,1,.int .i64 0),(w.heap.size+1+1,0,.int .i64 0),(w.heap.size+1+1+1,0,.int .i64 s.lo),(w.heap.size+1+1+1,1,.int .i64 s.hi)]∧Below w.heap.size w W)
  (fun c pre W=>∃ t:Int,(c=.ret∧t≠0∧zaK f z0 (zcG pre)=errR t)∧zaD W [(w.heap.size+1,0,.int .i64 0),(w.heap.size+1,1,.int .i64 0),(w.heap.size+1+1,0,.int .i64 t)]∧Below w.heap.size w W)
  (zcJ (Nat.le_refl _) (by simp;omega) (fun pre s=>zaK f z0 (zcG pre)=⟨s,0⟩∧S64 s) (fun _ s=>[(w.heap.size,0,.func (.func g) #[] lb),(w.heap.size+1,0,.int .i64 0),(w.heap.size+1,1,.int .i64 0),(w.heap.size+1+1,0,.int .i64 0),(w.heap.size+1+1+1,0,.int .i64 s.lo),(w.heap.size+1+1+1,1,.int .i64 s.hi)]))
  (fun c=>zcJ (Nat.le_refl _) (by simp;omega) (fun pre t=>c=.ret∧t≠0∧zaK f z0 (zcG pre)=errR t) (fun _ t=>[(w.heap.size+1,0,.int .i64 0),(w.heap.size+1,1,.int .i64 0),(w.heap.size+1+1,0,.int .i64 t)]))
  ⟨z0,⟨rfl,inferInstance⟩,zaD.cons (by go_simp) (by go_simp) (zaD.cons (by go_simp) (by go_simp) (zaD.cons (by go_simp) (by go_simp) (zaD.cons (by go_simp) (by go_simp) (zaD.cons (by go_simp) (by go_simp) (zaD.cons (by go_simp) (by go_simp) (zaD.nil _)))))),hB0⟩
  (fun x a' W=>∃ Bx:Nat,(w.heap.size+1+1+1<Bx∧a'={ tmps:=#[.func (.func 205) #[] #[.pointer (some ⟨Bs,0,none⟩)],.func (.func g) #[] lb,undef,.pointer (some ⟨w.heap.size,0,none⟩),.pointer (some ⟨w.heap.size+1,0,none⟩),.pointer (some ⟨w.heap.size+1+1,0,none⟩),.pointer (some ⟨w.heap.size+1+1+1,0,none⟩),undef,.pointer (some ⟨Bx,0,none⟩),undef,undef,
    .func (.func 205) #[] #[.pointer (some ⟨Bs,0,none⟩)],.int .i64 (x.1:Int),.agg #[.int .i64 x.2.1.lo,.int .i64 x.2.1.hi],undef,undef,undef,undef,undef,undef,undef,undef,undef,undef,undef,undef,undef,undef,undef,undef,undef,undef,undef],defers:=[] })∧zaD W [(Bx,0,.int .i64 x.2.1.lo),(Bx,1,.int .i64 x.2.1.hi)])
  (fun x a'=>zei _ (fun Bx=>[(Bx,0,.int .i64 x.2.1.lo),(Bx,1,.int .i64 x.2.1.hi)])) ?assign ?body ?done ?stop
 case assign=>
  rintro l pre x W K ⟨s,hs,hc,hB⟩ hK
  have hc0:=hc
  have hsz:=hB.size
  have hc':=hc.head
  clear hc
  obtain ⟨⟨hc_0,hcf0⟩,hc⟩:=hc'
  have hci0:HasCell (W) (w.heap.size) (0):=⟨_,hc_0⟩
  have hcb0:BlockIn (W) (w.heap.size):=BlockIn.of_cell hc_0
  have hc':=hc.head
  clear hc
  obtain ⟨⟨hc_1,hcf1⟩,hc⟩:=hc'
  have hci1:HasCell (W) (w.heap.size+1) (0):=⟨_,hc_1⟩
  have hcb1:BlockIn (W) (w.heap.size+1):=BlockIn.of_cell hc_1
  have hc':=hc.head
  clear hc
  obtain ⟨⟨hc_2,hcf2⟩,hc⟩:=hc'
  have hci2:HasCell (W) (w.heap.size+1) (1):=⟨_,hc_2⟩
  have hcb2:BlockIn (W) (w.heap.size+1):=BlockIn.of_cell hc_2
  have hc':=hc.head
  clear hc
  obtain ⟨⟨hc_3,hcf3⟩,hc⟩:=hc'
  have hci3:HasCell (W) (w.heap.size+1+1) (0):=⟨_,hc_3⟩
  have hcb3:BlockIn (W) (w.heap.size+1+1):=BlockIn.of_cell hc_3
  have hc':=hc.head
  clear hc
  obtain ⟨⟨hc_4,hcf4⟩,hc⟩:=hc'
  have hci4:HasCell (W) (w.heap.size+1+1+1) (0):=⟨_,hc_4⟩
  have hcb4:BlockIn (W) (w.heap.size+1+1+1):=BlockIn.of_cell hc_4
  have hc':=hc.head
  clear hc
  obtain ⟨⟨hc_5,hcf5⟩,hc⟩:=hc'
  have hci5:HasCell (W) (w.heap.size+1+1+1) (1):=⟨_,hc_5⟩
  have hcb5:BlockIn (W) (w.heap.size+1+1+1):=BlockIn.of_cell hc_5
  clear hc
  have hb4:=hcb5.lt
  unfold znv
  gi_wp2
  refine hK _ _ ((KeepsOthers.alloc _ _).from _) ((Below.refl _ W).alloc hsz _) ⟨s,hs,?_,hB.alloc hsz _⟩ ⟨W.heap.size,⟨hb4,rfl⟩,?_⟩
  ·exact zaD.cons (by go_simp) (by go_simp) (zaD.cons (by go_simp) (by go_simp) (zaD.cons (by go_simp) (by go_simp) (zaD.cons (by go_simp) (by go_simp) (zaD.cons (by go_simp) (by go_simp) (zaD.cons (by go_simp) (by go_simp) (zaD.nil _))))))
  ·exact zaD.cons (by go_simp) (by go_simp) (zaD.cons (by go_simp) (by go_simp) (zaD.nil _))
 case body=>
  rintro l pre x a' W hl ⟨r,hr⟩ ⟨s,⟨hs1,hs2⟩,hc,hB⟩ ⟨Bx,⟨hBx,rfl⟩,hd⟩ hlt
  have hsz:=hB.size
  have hc0:=hc
  have hc':=hc.head
  clear hc
  obtain ⟨⟨hc_0,hcf0⟩,hc⟩:=hc'
  have hci0:HasCell (W) (w.heap.size) (0):=⟨_,hc_0⟩
  have hcb0:BlockIn (W) (w.heap.size):=BlockIn.of_cell hc_0
  have hc':=hc.head
  clear hc
  obtain ⟨⟨hc_1,hcf1⟩,hc⟩:=hc'
  have hci1:HasCell (W) (w.heap.size+1) (0):=⟨_,hc_1⟩
  have hcb1:BlockIn (W) (w.heap.size+1):=BlockIn.of_cell hc_1
  have hc':=hc.head
  clear hc
  obtain ⟨⟨hc_2,hcf2⟩,hc⟩:=hc'
  have hci2:HasCell (W) (w.heap.size+1) (1):=⟨_,hc_2⟩
  have hcb2:BlockIn (W) (w.heap.size+1):=BlockIn.of_cell hc_2
  have hc':=hc.head
  clear hc
  obtain ⟨⟨hc_3,hcf3⟩,hc⟩:=hc'
  have hci3:HasCell (W) (w.heap.size+1+1) (0):=⟨_,hc_3⟩
  have hcb3:BlockIn (W) (w.heap.size+1+1):=BlockIn.of_cell hc_3
  have hc':=hc.head
  clear hc
  obtain ⟨⟨hc_4,hcf4⟩,hc⟩:=hc'
  have hci4:HasCell (W) (w.heap.size+1+1+1) (0):=⟨_,hc_4⟩
  have hcb4:BlockIn (W) (w.heap.size+1+1+1):=BlockIn.of_cell hc_4
  have hc':=hc.head
  clear hc
  obtain ⟨⟨hc_5,hcf5⟩,hc⟩:=hc'
  have hci5:HasCell (W) (w.heap.size+1+1+1) (1):=⟨_,hc_5⟩
  have hcb5:BlockIn (W) (w.heap.size+1+1+1):=BlockIn.of_cell hc_5
  clear hc
  have hd':=hd.head
  clear hd
  obtain ⟨⟨hd_0,hdf0⟩,hd⟩:=hd'
  have hdi0:HasCell (W) (Bx) (0):=⟨_,hd_0⟩
  have hdb0:BlockIn (W) (Bx):=BlockIn.of_cell hd_0
  have hd':=hd.head
  clear hd
  obtain ⟨⟨hd_1,hdf1⟩,hd⟩:=hd'
  have hdi1:HasCell (W) (Bx) (1):=⟨_,hd_1⟩
  have hdb1:BlockIn (W) (Bx):=BlockIn.of_cell hd_1
  clear hd
  have:Apart (w.heap.size) (Bx):=⟨by omega⟩
  have:Apart (w.heap.size+1) (Bx):=⟨by omega⟩
  have:Apart (w.heap.size+1+1) (Bx):=⟨by omega⟩
  have:Apart (w.heap.size+1+1+1) (Bx):=⟨by omega⟩
  have:Apart (Bx) (w.heap.size):=⟨by omega⟩
  have:Apart (Bx) (w.heap.size+1):=⟨by omega⟩
  have:Apart (Bx) (w.heap.size+1+1):=⟨by omega⟩
  have:Apart (Bx) (w.heap.size+1+1+1):=⟨by omega⟩
  have hx:=x.2.2
  have hfx:=hfs x.2.1 hx
  have Hs1:=Lib.hid hs1
  have hn:(1:Nat)≤4:=by omega
  clear hs1
  have hB':Grew w W:=hB
  have hv:zcG (pre++[x])=zcG pre++[x.2.1]:=by simp[zcG]
  have Hv:=Lib.hid hv
  clear hv
  by_cases c1:(f x.2.1).e=0
  ·have C1:=Lib.hid c1
   have c1':((f x.2.1).e==0)=true:=by simp[c1]
   clear c1
   by_cases c2:(addR s (f x.2.1).s).e=0
   ·have C2:=Lib.hid c2
    have c2':((addR s (f x.2.1).s).e != 0)=false:=by simp[c2]
    clear c2
    gi_wp2_with (first|(refine ⟨trivial,?_⟩;gi_at_call 32;refine zaT (zcj _ _ _) ?_;intro u)|(refine ⟨trivial,?_⟩;refine zaT (Ht.out W x.2 hB') ?_;intro u))
    refine ⟨KeepsOthers.from (by repeat (first|with_reducible exact KeepsOthers.refl _|with_reducible apply zbj|with_reducible apply zbk|with_reducible apply zaX|with_reducible apply zbw)) _,zeu hB (show Grew w _ from gw) (KeepsOthers.size (by repeat (first|with_reducible exact KeepsOthers.refl _|with_reducible apply zbj|with_reducible apply zbk|with_reducible apply zaX|with_reducible apply zbw))),(addR s (f x.2.1).s).s,⟨?_,inferInstance⟩,?_,(show Grew w _ from gw)⟩
    ·rw[Hv.out,zb2,Hs1.out,if_pos rfl]
     simp only[zaK,C1.out,C2.out,if_true]
    ·exact (zaD.cons (by go_simp) (by go_simp) (zaD.cons (by go_simp) (by go_simp) (zaD.cons (by go_simp) (by go_simp) (zaD.cons (by go_simp) (by go_simp) (zaD.cons (by go_simp) (by go_simp) (zaD.cons (by go_simp) (by go_simp) (zaD.nil _)))))))
   ·have C2:=Lib.hid c2
    have c2':((addR s (f x.2.1).s).e != 0)=true:=by simp[c2]
    clear c2
    gi_wp2_with (first|(refine ⟨trivial,?_⟩;gi_at_call 32;refine zaT (zcj _ _ _) ?_;intro u)|(refine ⟨trivial,?_⟩;refine zaT (Ht.out W x.2 hB') ?_;intro u))
    refine ⟨KeepsOthers.from (by repeat (first|with_reducible exact KeepsOthers.refl _|with_reducible apply zbj|with_reducible apply zbk|with_reducible apply zaX|with_reducible apply zbw)) _,(addR s (f x.2.1).s).e,⟨rfl,C2.out,?_⟩,?_,(show Grew w _ from gw)⟩
    ·rw[Hv.out,zb2,Hs1.out,if_pos rfl]
     simp only[zaK,C1.out,if_neg C2.out,if_true]
    ·exact (zaD.cons (by go_simp) (by go_simp) (zaD.cons (by go_simp) (by go_simp) (zaD.cons (by go_simp) (by go_simp) (zaD.nil _))))
  ·have C1:=Lib.hid c1
   have c1':((f x.2.1).e==0)=false:=by simp[c1]
   have c1'':((f x.2.1).e != 0)=true:=by simp[c1]
   clear c1
   gi_wp2_with (first|(refine ⟨trivial,?_⟩;gi_at_call 32;refine zaT (zcj _ _ _) ?_;intro u)|(refine ⟨trivial,?_⟩;refine zaT (Ht.out W x.2 hB') ?_;intro u))
   refine ⟨KeepsOthers.from (by repeat (first|with_reducible exact KeepsOthers.refl _|with_reducible apply zbj|with_reducible apply zbk|with_reducible apply zaX|with_reducible apply zbw)) _,(f x.2.1).e,⟨rfl,C1.out,?_⟩,?_,(show Grew w _ from gw)⟩
   ·rw[Hv.out,zb2,Hs1.out,if_pos rfl]
    simp only[zaK,if_neg C1.out]
   ·exact (zaD.cons (by go_simp) (by go_simp) (zaD.cons (by go_simp) (by go_simp) (zaD.cons (by go_simp) (by go_simp) (zaD.nil _))))
 case done=>
  rintro D ys W hD rfl ⟨s,⟨hs1,hs2⟩,hc,hB⟩ hK
  have hsz:=hB.size
  have hB':Grew w W:=hB
  have hD':w.heap.size+1+1+1+1≤D:=by simpa using hD
  have hc':=hc.head
  clear hc
  obtain ⟨⟨hc_0,hcf0⟩,hc⟩:=hc'
  have hci0:HasCell (W) (w.heap.size) (0):=⟨_,hc_0⟩
  have hcb0:BlockIn (W) (w.heap.size):=BlockIn.of_cell hc_0
  have hc':=hc.head
  clear hc
  obtain ⟨⟨hc_1,hcf1⟩,hc⟩:=hc'
  have hci1:HasCell (W) (w.heap.size+1) (0):=⟨_,hc_1⟩
  have hcb1:BlockIn (W) (w.heap.size+1):=BlockIn.of_cell hc_1
  have hc':=hc.head
  clear hc
  obtain ⟨⟨hc_2,hcf2⟩,hc⟩:=hc'
  have hci2:HasCell (W) (w.heap.size+1) (1):=⟨_,hc_2⟩
  have hcb2:BlockIn (W) (w.heap.size+1):=BlockIn.of_cell hc_2
  have hc':=hc.head
  clear hc
  obtain ⟨⟨hc_3,hcf3⟩,hc⟩:=hc'
  have hci3:HasCell (W) (w.heap.size+1+1) (0):=⟨_,hc_3⟩
  have hcb3:BlockIn (W) (w.heap.size+1+1):=BlockIn.of_cell hc_3
  have hc':=hc.head
  clear hc
  obtain ⟨⟨hc_4,hcf4⟩,hc⟩:=hc'
  have hci4:HasCell (W) (w.heap.size+1+1+1) (0):=⟨_,hc_4⟩
  have hcb4:BlockIn (W) (w.heap.size+1+1+1):=BlockIn.of_cell hc_4
  have hc':=hc.head
  clear hc
  obtain ⟨⟨hc_5,hcf5⟩,hc⟩:=hc'
  have hci5:HasCell (W) (w.heap.size+1+1+1) (1):=⟨_,hc_5⟩
  have hcb5:BlockIn (W) (w.heap.size+1+1+1):=BlockIn.of_cell hc_5
  clear hc
  have:Apart (w.heap.size) (D):=⟨by omega⟩
  have:Apart (w.heap.size+1) (D):=⟨by omega⟩
  have:Apart (w.heap.size+1+1) (D):=⟨by omega⟩
  have:Apart (w.heap.size+1+1+1) (D):=⟨by omega⟩
  have:Apart (D) (w.heap.size):=⟨by omega⟩
  have:Apart (D) (w.heap.size+1):=⟨by omega⟩
  have:Apart (D) (w.heap.size+1+1):=⟨by omega⟩
  have:Apart (D) (w.heap.size+1+1+1):=⟨by omega⟩
  have Hs1:=Lib.hid hs1
  clear hs1
  have hfin:zaK f z0 (L.map fun x=>x.1)=⟨s,0⟩:=by rw[←zlp L];exact Hs1.out
  have k1:(((W.setCell ⟨w.heap.size+1,0,none⟩ (.int .i64 s.lo)).setCell ⟨w.heap.size+1,1,none⟩ (.int .i64 s.hi)).setCell ⟨w.heap.size+1+1,0,none⟩ (.int .i64 0)).cell? ⟨w.heap.size+1,0,none⟩=some (.int .i64 s.lo):=by go_simp
  have k2:(((W.setCell ⟨w.heap.size+1,0,none⟩ (.int .i64 s.lo)).setCell ⟨w.heap.size+1,1,none⟩ (.int .i64 s.hi)).setCell ⟨w.heap.size+1+1,0,none⟩ (.int .i64 0)).cell? ⟨w.heap.size+1,1,none⟩=some (.int .i64 s.hi):=by go_simp
  have k3:(((W.setCell ⟨w.heap.size+1,0,none⟩ (.int .i64 s.lo)).setCell ⟨w.heap.size+1,1,none⟩ (.int .i64 s.hi)).setCell ⟨w.heap.size+1+1,0,none⟩ (.int .i64 0)).cell? ⟨w.heap.size+1+1,0,none⟩=some (.int .i64 0):=by go_simp
  have kK:(((W.setCell ⟨w.heap.size+1,0,none⟩ (.int .i64 s.lo)).setCell ⟨w.heap.size+1,1,none⟩ (.int .i64 s.hi)).setCell ⟨w.heap.size+1+1,0,none⟩ (.int .i64 0)).heap[D]?=some (.deferred (some [])):=KeepsOthers.same (W:=W) (by repeat (first|with_reducible exact KeepsOthers.refl _|with_reducible apply zbj|with_reducible apply zbk|with_reducible apply zaX|with_reducible apply zbw)) D _ hK rfl
  have kB:Grew w (((W.setCell ⟨w.heap.size+1,0,none⟩ (.int .i64 s.lo)).setCell ⟨w.heap.size+1,1,none⟩ (.int .i64 s.hi)).setCell ⟨w.heap.size+1+1,0,none⟩ (.int .i64 0)):=gw
  gi_wp2
  generalize (((W.setCell ⟨w.heap.size+1,0,none⟩ (.int .i64 s.lo)).setCell ⟨w.heap.size+1,1,none⟩ (.int .i64 s.hi)).setCell ⟨w.heap.size+1+1,0,none⟩ (.int .i64 0))=W2 at *
  have q1:=cell_kept k1 (grownBy_putObj' _ D (.deferred none)) (fun r e=>by cases e;exact ⟨_,kK,rfl⟩)
  have q2:=cell_kept k2 (grownBy_putObj' _ D (.deferred none)) (fun r e=>by cases e;exact ⟨_,kK,rfl⟩)
  have q3:=cell_kept k3 (grownBy_putObj' _ D (.deferred none)) (fun r e=>by cases e;exact ⟨_,kK,rfl⟩)
  refine ⟨by simp,.inl ⟨_,_,rfl,run_takeDeferred kK,?_⟩⟩
  rw[hfin]
  refine ⟨.tuple #[.agg #[.int .i64 s.lo,.int .i64 s.hi],.int .i64 0],?_,rfl,Below.trans kB (belowK_b (w:=w) (Nat.le_refl _) W2 D _ _ (by omega) kK rfl rfl)⟩
  simp[results,Tryz.results182,go_sem,q1,q2,q3]
 case stop=>
  rintro D c pre W hD ⟨k,hk,rfl⟩ ⟨t,⟨rfl,ht,he⟩,hc,hB⟩ hK
  have hsz:=hB.size
  have hD':w.heap.size+1+1+1+1≤D:=by simpa using hD
  have hc':=hc.head
  clear hc
  obtain ⟨⟨hc_0,hcf0⟩,hc⟩:=hc'
  have hci0:HasCell (W) (w.heap.size+1) (0):=⟨_,hc_0⟩
  have hcb0:BlockIn (W) (w.heap.size+1):=BlockIn.of_cell hc_0
  have hc':=hc.head
  clear hc
  obtain ⟨⟨hc_1,hcf1⟩,hc⟩:=hc'
  have hci1:HasCell (W) (w.heap.size+1) (1):=⟨_,hc_1⟩
  have hcb1:BlockIn (W) (w.heap.size+1):=BlockIn.of_cell hc_1
  have hc':=hc.head
  clear hc
  obtain ⟨⟨hc_2,hcf2⟩,hc⟩:=hc'
  have hci2:HasCell (W) (w.heap.size+1+1) (0):=⟨_,hc_2⟩
  have hcb2:BlockIn (W) (w.heap.size+1+1):=BlockIn.of_cell hc_2
  clear hc
  have:Apart (w.heap.size) (D):=⟨by omega⟩
  have:Apart (w.heap.size+1) (D):=⟨by omega⟩
  have:Apart (w.heap.size+1+1) (D):=⟨by omega⟩
  have:Apart (w.heap.size+1+1+1) (D):=⟨by omega⟩
  have:Apart (D) (w.heap.size):=⟨by omega⟩
  have:Apart (D) (w.heap.size+1):=⟨by omega⟩
  have:Apart (D) (w.heap.size+1+1):=⟨by omega⟩
  have:Apart (D) (w.heap.size+1+1+1):=⟨by omega⟩
  have He:=Lib.hid he
  clear he
  have hfin:zaK f z0 (L.map fun x=>x.1)=⟨⟨0,0⟩,t⟩:=by
   rw[←zjJ L k hk,zeB f z0 _ _ (by rw[He.out];exact ht),He.out];rfl
  have k1:=hc_0
  have k2:=hc_1
  have k3:=hc_2
  have kK:=hK
  have kB:Grew w W:=hB
  gi_wp2
  have q1:=cell_kept k1 (grownBy_putObj' _ D (.deferred none)) (fun r e=>by cases e;exact ⟨_,kK,rfl⟩)
  have q2:=cell_kept k2 (grownBy_putObj' _ D (.deferred none)) (fun r e=>by cases e;exact ⟨_,kK,rfl⟩)
  have q3:=cell_kept k3 (grownBy_putObj' _ D (.deferred none)) (fun r e=>by cases e;exact ⟨_,kK,rfl⟩)
  refine ⟨by simp,.inl ⟨_,_,rfl,run_takeDeferred kK,?_⟩⟩
  rw[hfin]
  refine ⟨.tuple #[.agg #[.int .i64 0,.int .i64 0],.int .i64 t],?_,rfl,Below.trans kB (belowK_b (w:=w) (Nat.le_refl _) W D _ _ (by omega) kK rfl rfl)⟩
  simp[results,Tryz.results182,go_sem,q1,q2,q3]
end Go.Proofs.YtdkfkalplmgoeaaGreat
namespace Go.Proofs.YtdkfkalplmgoeaaGreat
open Go.RowKit Go.Shelf
set_option maxRecDepth 100000
set_option maxHeartbeats 2000000
theorem zcO (a b:Sp) (w:World):Calls Tryz.prog 130 #[.agg #[.int .i64 a.lo,.int .i64 a.hi],.agg #[.int .i64 b.lo,.int .i64 b.hi]] w fun e w'=>e=.returned (.tuple #[.agg #[.int .i64 (zaG a b).s.lo,.int .i64 (zaG a b).s.hi],.int .i64 (zaG a b).e])∧Grew w w':=by
 cases hk:(a.okB&&b.okB)
 ·have Hf:=Lib.hid (show errR 2=zaG a b by unfold zaG;rw[hk];rfl)
  go_enter Tryz.func130,Tryz.ntmps130
  go_wp2_with (first|(go_at_call 60;(with_reducible refine zaa (zbr a b hk _ _ (SlAt.fresh _ _ _ _ (by simp[maxLen]))) ?_);intro u))
  refine bodyPost_ret (by (simp[results,Tryz.results130,go_sem]<;>rfl)) rfl ?_
  exact ⟨zaJ Hf.out rfl,gw⟩
 ·have Hf:=Lib.hid (show (if (zde a b).hi<(zde a b).lo then errR 7 else ⟨zde a b,0⟩)=zaG a b by unfold zaG;rw[hk];rfl)
  go_enter Tryz.func130,Tryz.ntmps130
  go_wp2_with (first|(go_at_call 60;(with_reducible refine zaa (za0 a b hk _ _ (SlAt.fresh _ _ _ _ (by simp[maxLen]))) ?_);intro u))
  all_goals
   refine bodyPost_ret (by (simp[results,Tryz.results130,go_sem]<;>rfl)) rfl ?_
   first
   |exact ⟨zaJ (by rw[←Hf.out];unfold zde imin imax;simp only[];rw[if_pos (by (repeat' split)<;>omega)]) rfl,gw⟩
   |exact ⟨zaS (by rw[←Hf.out];unfold zde imin imax;simp only[];rw[if_neg (by (repeat' split)<;>omega)];congr 2<;>(repeat' split)<;>omega),gw⟩
def fewE (L:List Sp):Int:=if L.length≤64 then zaL (L.all Sp.okB) 2 else 3
theorem zpb (L:List Sp) (ao:Option Addr) (cap b:Nat) (w:World) (hc:w.cell? ⟨b,0,none⟩=some (.slice ao L.length cap)) (hs:SlAt w (.slice ao L.length cap) L.length (L.flatMap Sp.cells)) :
 Calls Tryz.prog 181 #[.slice (some ⟨b,0,none⟩) 1 1] w fun e w'=>e=.returned (.int .i64 (fewE L))∧Grew w w':=by
 have hm:=hs.len_le
 unfold maxLen at hm
 have Hs:=Lib.hid hs
 clear hs
 have ib:BlockIn w b:=BlockIn.of_cell hc
 have Hf1:=Lib.hid (fun h:¬ L.length≤64=>show fewE L=3 by unfold fewE;rw[if_neg h])
 have Hf2:=Lib.hid (fun h:L.length≤64=>show fewE L=zaL (L.all Sp.okB) 2 by unfold fewE;rw[if_pos h])
 go_enter Tryz.func181,Tryz.ntmps181
 go_wp2
 go_loopw [10] (fun t wr=>∃ k:Nat,t=.int .i64 k∧k≤1∧(k=1→L.length≤64)∧Grew w wr) (fun t _=>1-(intOf t).toNat)
 case atStart=>exact ⟨0,rfl,by omega,by omega,Grew.refl _⟩
 case round=>
  obtain ⟨k,rfl,hk,h64,hg⟩:=hrel
  obtain ⟨z,rfl⟩:=zaj hg
  clear hg
  by_cases hlt:k<1
  ·obtain rfl:k=0:=by omega
   clear h64
   by_cases hl:L.length≤64
   ·go_wp2
    go_roundw
    case rel=>exact ⟨1,by go_num,by omega,fun _=>hl,gw⟩
    case measure=>simp[intOf]
   ·go_wp2
    go_ret
    exact ⟨zaC (by rw[Hf1.out hl]),gw⟩
  ·obtain rfl:k=1:=by omega
   rw[show ((1:Nat):Int)=1 from rfl]
   have hl:=h64 rfl
   clear h64
   have Hcode:=Lib.hid (Hf2.out hl)
   cases hall:L.all Sp.okB
   ·rw[hall] at Hcode
    have Hc:=Lib.hid (fun w h=>zaH (b:=zaL (L.all Sp.okB) 2) (b':=2) (k:=.i64) (by rw[hall];rfl) (zck L (.slice ao L.length cap) w h))
    clear hall
    go_wp2
    go_loopw [20] (fun t wr=>t=.int .i64 0∧Grew w wr) (fun t _=>0)
    case atStart=>exact ⟨rfl,gw⟩
    case round=>
     obtain ⟨rfl,hg⟩:=hrel
     obtain ⟨y,rfl⟩:=zaj hg
     clear hg
     go_wp2_with (first|(go_at_call 60;(with_reducible refine zaa (Hc.out _ (Hs.out.grew gw)) ?_);intro u))
     go_ret
     exact ⟨zaC (by rw[Hcode.out];rfl),gw⟩
   ·rw[hall] at Hcode
    have Hc:=Lib.hid (fun w h=>zaH (b:=zaL (L.all Sp.okB) 2) (b':=0) (k:=.i64) (by rw[hall];rfl) (zck L (.slice ao L.length cap) w h))
    clear hall
    go_wp2
    go_loopw [20] (fun t wr=>∃ k:Nat,t=.int .i64 k∧k≤1∧Grew w wr) (fun t _=>1-(intOf t).toNat)
    case atStart=>exact ⟨0,rfl,by omega,gw⟩
    case round=>
     obtain ⟨k,rfl,hk,hg⟩:=hrel
     obtain ⟨y,rfl⟩:=zaj hg
     clear hg
     by_cases hlt:k<1
     ·obtain rfl:k=0:=by omega
      go_wp2_with (first|(go_at_call 60;(with_reducible refine zaa (Hc.out _ (Hs.out.grew gw)) ?_);intro u))
      go_roundw
      case rel=>exact ⟨1,by go_num,by omega,gw⟩
      case measure=>simp[intOf]
     ·obtain rfl:k=1:=by omega
      go_wp2
      go_ret
      exact ⟨zaC (by rw[Hcode.out];rfl),gw⟩
theorem zfg (a:Sp) [ha:S64 a] (w:World):Calls Tryz.prog 136 #[.agg #[.int .i64 a.lo,.int .i64 a.hi]] w fun e w'=>e=.returned (.tuple #[.agg #[.int .i64 (za5 a).s.lo,.int .i64 (za5 a).s.hi],.int .i64 (za5 a).e])∧Grew w w':=by
 cases hk:a.okB
 ·have Hf:=Lib.hid (show errR 2=za5 a by unfold za5;rw[hk];rfl)
  go_enter Tryz.func136,Tryz.ntmps136
  go_wp2_with (first|(go_at_call 72;(with_reducible refine zaa (zff a hk _) ?_);intro u))
  refine bodyPost_ret (by (simp[results,Tryz.results136,go_sem]<;>rfl)) rfl ?_
  exact ⟨zaJ Hf.out rfl,gw⟩
 ·have h1:=zbZ hk
  have h2:=ha.lo.2
  have h3:=ha.hi.2
  by_cases hn:a.hi<0
  ·have Hf:=Lib.hid (show errR 4=za5 a by unfold za5;rw[hk,if_pos hn];rfl)
   go_enter Tryz.func136,Tryz.ntmps136
   go_wp2_with (first|(go_at_call 72;(with_reducible refine zaa (zcs a hk _) ?_);intro u))
   refine bodyPost_ret (by (simp[results,Tryz.results136,go_sem]<;>rfl)) rfl ?_
   exact ⟨zaJ Hf.out rfl,gw⟩
  ·have Hf:=Lib.hid (show (⟨⟨zaW (imax a.lo 0*4294967296),zc0 (a.hi*4294967296)⟩,0⟩:Res)=za5 a by unfold za5;rw[hk,if_neg hn];rfl)
   obtain ⟨h11,h12,h13⟩:=h1
   have hr1:=zda (imax a.lo 0*4294967296)
   have hr2:=zda (a.hi*4294967296)
   obtain ⟨hr11,hr12⟩:=hr1
   obtain ⟨hr21,hr22⟩:=hr2
   have Hq:=Lib.hid (show zc0 (a.hi*4294967296)=if ziH (a.hi*4294967296) then zaW (a.hi*4294967296) else zaW (a.hi*4294967296)+1 by unfold zc0 ziH;by_cases h:zaW (a.hi*4294967296)*zaW (a.hi*4294967296)=a.hi*4294967296<;>simp[h])
   have Hhi:=Lib.hid (fun w=>zkl a.hi (by omega) h3 w)
   have Hlo:=Lib.hid (fun w=>zkl (imax a.lo 0) (by unfold imax;split<;>omega) (by unfold imax;split<;>omega) w)
   have hmax:a.lo<0∨¬ a.lo<0:=Classical.em _
   rcases hmax with hm|hm
   all_goals
    first|rw[show imax a.lo 0=0 by unfold imax;rw[if_pos hm]] at Hlo Hf hr11 hr12|rw[show imax a.lo 0=a.lo by unfold imax;rw[if_neg hm]] at Hlo Hf hr11 hr12
    cases hs:ziH (a.hi*4294967296)
    all_goals
     rw[hs] at Hhi Hq
     clear hs
     generalize zaW (a.hi*4294967296)=r2 at *
     first|generalize zaW (0*4294967296)=r1 at*| generalize zaW (a.lo*4294967296)=r1 at *
     go_enter Tryz.func136,Tryz.ntmps136
     go_wp2_with (first|(go_at_call 72;(with_reducible refine zaa (zcs a hk _) ?_);intro u)|(go_at_call 174;(with_reducible refine zaa (Hlo.out _) ?_);intro u)|(go_at_call 174;(with_reducible refine zaa (Hhi.out _) ?_);intro u))
     refine bodyPost_ret (by (simp[results,Tryz.results136,go_sem]<;>rfl)) rfl ?_
     exact ⟨zaS (by rw[←Hf.out,Hq.out];(try simp);(try omega)),gw⟩
theorem zjC (w:World):zoo 131 #[] zai w:=fun w x _=>by
 have:=x.2
 exact zb7 x.1 w
def za4 (L:List Sx):List Sp:=L.map fun x=>x.1
theorem zlI (L:List Sx):L.flatMap Sx.cells=(za4 L).flatMap Sp.cells:=by
 unfold za4
 rw[List.flatMap_map]
 rfl
theorem zgs {α:Type} (f:α→Res) (_hf:∀ x,S64 (f x).s) (l:List α):∀ s:Sp,S64 s→S64 (zaK f s l).s:=by
 induction l with
 |nil=>intro s h;exact h
 |cons x l ih=>
  intro s h
  unfold zaK
  split
  ·split
   ·exact ih _ inferInstance
   ·exact zbc _
  ·exact zbc _
theorem zlj (L:List Sx) (ao:Option Addr) (cap:Nat) (w:World) (hs:SlAt w (.slice ao L.length cap) L.length (L.flatMap Sx.cells)) :
 Calls Tryz.prog 140 #[.slice ao L.length cap] w fun e w'=>e=.returned (.tuple #[.agg #[.int .i64 (zbp (za4 L)).s.lo,.int .i64 (zbp (za4 L)).s.hi],.int .i64 (zbp (za4 L)).e])∧Grew w w':=by
 have hlen:(za4 L).length=L.length:=by simp[za4]
 have Hs:=Lib.hid hs
 clear hs
 have Hsc:=Lib.hid (zlI L)
 have Hfew:=Lib.hid (show ∀ (b:Nat) (w:World),w.cell? ⟨b,0,none⟩=some (.slice ao L.length cap)→SlAt w (.slice ao L.length cap) L.length (L.flatMap Sx.cells)→Calls Tryz.prog 181 #[.slice (some ⟨b,0,none⟩) 1 1] w fun e w'=>e=.returned (.int .i64 (fewE (za4 L)))∧Grew w w' from fun b w hc h=>by
  have:=zpb (za4 L) ao cap b w (by rw[hlen];exact hc) (by rw[hlen,←zlI];exact h)
  exact this)
 by_cases hf:fewE (za4 L)=0
 ·have hn:zbp (za4 L)=if (zaK zai z0 (za4 L)).e=0 then za5 (zaK zai z0 (za4 L)).s else errR (zaK zai z0 (za4 L)).e:=by
   unfold fewE at hf
   unfold zbp
   split at hf
   ·rename_i h
    rw[if_pos h]
    cases h2:(za4 L).all Sp.okB
    ·rw[h2] at hf;cases hf
    ·rfl
   ·cases hf
  have Hn:=Lib.hid hn
  clear hn
  rw[hf] at Hfew
  clear hf hlen
  have Hfold:=Lib.hid (show ∀ (Bs:Nat) (w:World),w.cell? ⟨Bs,0,none⟩=some (.slice ao L.length cap)→SlAt w (.slice ao L.length cap) L.length (L.flatMap Sx.cells)→Calls Tryz.prog 182 #[.func (.func 205) #[] #[.pointer (some ⟨Bs,0,none⟩)],.func (.func 131) #[] #[]] w fun e w'=>e=.returned (.tuple #[.agg #[.int .i64 (zaK zai z0 (za4 L)).s.lo,.int .i64 (zaK zai z0 (za4 L)).s.hi],.int .i64 (zaK zai z0 (za4 L)).e])∧Grew w w' from
   fun Bs w hc h=>zny zai (fun x hx=>inferInstance) 131 #[] (enters_of Tryz.func131 (by kernel_rfl) rfl) L Bs _ w hc h (zjC w))
  have hS:=zgs zai (fun x=>inferInstance) (za4 L) z0 inferInstance
  by_cases he:(zaK zai z0 (za4 L)).e=0
  ·have he':((zaK zai z0 (za4 L)).e != 0)=false:=by simp[he]
   rw[if_pos he] at Hn
   clear he
   generalize zaK zai z0 (za4 L)=r at *
   have hRs:=hS
   go_enter Tryz.func140,Tryz.ntmps140
   go_wp2_with (first|(go_at_call 181;(with_reducible refine zaa (Hfew.out _ _ (by go_simp) (Hs.out.grew gw)) ?_);intro u)|(go_at_call 182;(with_reducible refine zaa (Hfold.out _ _ (by go_simp) (Hs.out.grew gw)) ?_);intro u)|(go_at_call 136;(with_reducible refine zaa (zfg _ _) ?_);intro u)|(go_at_call 183;refine (ziJ _ _ _ _).mono ?_;rintro e w' ⟨rfl,rfl⟩))
   refine bodyPost_ret (by (simp[results,Tryz.results140,go_sem]<;>rfl)) rfl ?_
   exact ⟨zaS (by rw[Hn.out]),gw⟩
  ·have he':((zaK zai z0 (za4 L)).e != 0)=true:=by simp[he]
   rw[if_neg he] at Hn
   clear he
   generalize zaK zai z0 (za4 L)=r at *
   go_enter Tryz.func140,Tryz.ntmps140
   go_wp2_with (first|(go_at_call 181;(with_reducible refine zaa (Hfew.out _ _ (by go_simp) (Hs.out.grew gw)) ?_);intro u)|(go_at_call 182;(with_reducible refine zaa (Hfold.out _ _ (by go_simp) (Hs.out.grew gw)) ?_);intro u)|(go_at_call 136;(with_reducible refine zaa (zfg _ _) ?_);intro u)|(go_at_call 183;refine (ziJ _ _ _ _).mono ?_;rintro e w' ⟨rfl,rfl⟩))
   refine bodyPost_ret (by (simp[results,Tryz.results140,go_sem]<;>rfl)) rfl ?_
   exact ⟨zaJ Hn.out.symm rfl,gw⟩
 ·have hn:zbp (za4 L)=errR (fewE (za4 L)):=by
   unfold fewE at hf ⊢
   unfold zbp
   split at hf
   ·rename_i h
    rw[if_pos h]
    cases h2:(za4 L).all Sp.okB
    ·rw[if_pos h];rfl
    ·rw[h2] at hf;exact absurd rfl hf
   ·rename_i h
    rw[if_neg h,if_neg h]
  have Hn:=Lib.hid hn
  have hf':(fewE (za4 L) != 0)=true:=by simp[hf]
  clear hn hf hlen
  generalize fewE (za4 L)=c at *
  go_enter Tryz.func140,Tryz.ntmps140
  go_wp2_with (first|(go_at_call 181;(with_reducible refine zaa (Hfew.out _ _ (by go_simp) (Hs.out.grew gw)) ?_);intro u))
  refine bodyPost_ret (by (simp[results,Tryz.results140,go_sem]<;>rfl)) rfl ?_
  exact ⟨zaJ Hn.out.symm rfl,gw⟩
end Go.Proofs.YtdkfkalplmgoeaaGreat
