/-
  Joined: Folds2.
-/
import Derived.Test.YtdkfkalplmgoeaaGreatFoldsL
import Derived.Test.YtdkfkalplmgoeaaGreatCalcsL
import Derived.Deep.RegionHeld3
namespace Go.Proofs.YtdkfkalplmgoeaaGreat
open Go.RowKit Go.Shelf
set_option maxRecDepth 100000
set_option maxHeartbeats 2000000
attribute [local go_sem] Oper.semAt_some
def Px:Type:=Sx × Sx
instance:Inhabited Px:=⟨(default,default)⟩
def Px.cells (x:Px):List Value:=[.int .i64 x.1.1.lo,.int .i64 x.1.1.hi,.int .i64 x.2.1.lo,.int .i64 x.2.1.hi]
abbrev nthP (L:List Px) (k:Nat):Nat × Px:=(k,L[k]?.getD default)
def znu (x:Nat × Px):Array Value:=#[.int .i64 (x.1:Int),.agg #[.int .i64 x.2.1.1.lo,.int .i64 x.2.1.1.hi,.int .i64 x.2.2.1.lo,.int .i64 x.2.2.1.hi]]
theorem zoZ (N:Nat) (hn:1≤N) (l Bs n₀ b off cap:Nat) (L:List Px) (hlen:L.length≤9223372036854775807) (hBn:Bs<n₀) (hb:b<n₀) (J Jx:List (Nat × Px)→World→Prop)
 (hY:∀ pre x W,J pre W→pre.length<L.length→YieldAt Fence.wide (N-1) Tryz.prog l (znu x) W fun e W'=>
   (e=.returned (.bool true)∧J (pre++[x]) W'∧Below n₀ W W')∨(e=.returned (.bool false)∧Jx (pre++[x]) W'))
 (W:World) (hBs:W.cell? ⟨Bs,0,none⟩=some (.slice (some ⟨b,off,none⟩) L.length cap))
 (hc:∀ k,k<L.length→W.cell? ⟨b,off+k*4,none⟩=some (.int .i64 (L[k]?.getD default).1.1.lo)∧W.cell? ⟨b,off+k*4+1,none⟩=some (.int .i64 (L[k]?.getD default).1.1.hi)∧W.cell? ⟨b,off+k*4+2,none⟩=some (.int .i64 (L[k]?.getD default).2.1.lo)∧W.cell? ⟨b,off+k*4+3,none⟩=some (.int .i64 (L[k]?.getD default).2.1.hi)) (h0:J [] W) :
 CallsIn Fence.wide N Tryz.prog 216 #[.func (.yield l) #[] #[],.pointer (some ⟨Bs,0,none⟩)] W fun e W'=>(∃ v,e=.returned v)∧
  ((∃ ys,ys=upto (nthP L) L.length∧J ys W')∨(∃ pre,(∃ k,k≤L.length∧pre=upto (nthP L) k)∧Jx pre W')):=by
 refine callsIn_of_wp Tryz.func216 rfl trivial ?_ rfl
 simp only[Tryz.ntmps216,List.size_toArray,List.length_cons,List.length_nil,Nat.reduceAdd,Nat.reduceSub,Array.replicate_succ,Array.replicate_zero,List.push_toArray,List.append_toArray,List.nil_append,List.cons_append]
 gi_wp2
 gi_loopw [6] (fun i wr=>∃ k:Nat,k≤L.length∧i=.int .i64 k∧J (upto (nthP L) k) wr∧Below n₀ W wr)
  (fun i _=>L.length-(intOf i).toNat)
 case atStart=>exact ⟨0,Nat.zero_le _,rfl,h0,Below.refl _ _⟩
 case round=>
  obtain ⟨k,hk,rfl,hJs,hnx⟩:=hrel
  have hBs':=(hnx.cell (p:=⟨Bs,0,none⟩) hBn).trans hBs
  have hcx:k<L.length→wr.cell? ⟨b,off+k*4,none⟩=some (.int .i64 (L[k]?.getD default).1.1.lo)∧wr.cell? ⟨b,off+k*4+1,none⟩=some (.int .i64 (L[k]?.getD default).1.1.hi)∧wr.cell? ⟨b,off+k*4+2,none⟩=some (.int .i64 (L[k]?.getD default).2.1.lo)∧wr.cell? ⟨b,off+k*4+3,none⟩=some (.int .i64 (L[k]?.getD default).2.1.hi):=
   fun h=>⟨(hnx.cell (p:=⟨b,off+k*4,none⟩) hb).trans (hc k h).1,(hnx.cell (p:=⟨b,off+k*4+1,none⟩) hb).trans (hc k h).2.1,(hnx.cell (p:=⟨b,off+k*4+2,none⟩) hb).trans (hc k h).2.2.1,(hnx.cell (p:=⟨b,off+k*4+3,none⟩) hb).trans (hc k h).2.2.2⟩
  by_cases hlt:k<L.length
  ·obtain ⟨fn,tmps,assign,body,hy,hR⟩:=hY _ (k,L[k]?.getD default) wr hJs (by rw[zgx];exact hlt)
   unfold znu at hy
   dsimp only at hy
   obtain ⟨hc1,hc2,hc3,hc4⟩:=hcx hlt
   clear hcx hc hY
   generalize hx:L[k]?.getD default=x at *
   have Hx:=Lib.hid hx
   clear hx
   gi_wp2
   refine hR.mono ?_
   rintro e W3 (⟨rfl,hJ3,hk3⟩|⟨rfl,hJx3⟩)
   ·gi_wp2
    go_roundw
    case rel=>exact ⟨k+1,by omega,by go_num,by rw[zeT];show J (upto (nthP L) k++[(k,L[k]?.getD default)]) W3;rw[Hx.out];exact hJ3,hnx.trans hk3⟩
    case measure=>simp[intOf];omega
   ·gi_wp2
    refine bodyPost_ret (results_none rfl _ _ _) rfl ?_
    exact ⟨⟨_,rfl⟩,.inr ⟨_,⟨k+1,by omega,by rw[zeT];show _=upto (nthP L) k++[(k,L[k]?.getD default)];rw[Hx.out]⟩,hJx3⟩⟩
  ·obtain rfl:k=L.length:=by omega
   gi_wp2
   go_end0
   exact ⟨⟨_,rfl⟩,.inl ⟨_,rfl,hJs⟩⟩
theorem ziU (N:Nat) (l Bs:Nat) (ao:Option Addr) (cap:Nat) (J:List (Nat × Px)→World→Prop) (W:World) (hBs:W.cell? ⟨Bs,0,none⟩=some (.slice ao 0 cap)) (h0:J [] W) :
 CallsIn Fence.wide N Tryz.prog 216 #[.func (.yield l) #[] #[],.pointer (some ⟨Bs,0,none⟩)] W fun e W'=>(∃ v,e=.returned v)∧J [] W':=by
 refine callsIn_of_wp Tryz.func216 rfl trivial ?_ rfl
 simp only[Tryz.ntmps216,List.size_toArray,List.length_cons,List.length_nil,Nat.reduceAdd,Nat.reduceSub,Array.replicate_succ,Array.replicate_zero,List.push_toArray,List.append_toArray,List.nil_append,List.cons_append]
 gi_wp2
 gi_loopw [6] (fun i wr=>i=.int .i64 0∧J [] wr) (fun _ _=>0)
 case atStart=>exact ⟨rfl,h0⟩
 case round=>
  obtain ⟨rfl,hJs⟩:=hrel
  gi_wp2
  go_end0
  exact ⟨⟨_,rfl⟩,hJs⟩
theorem zkq (N:Nat) (hn:1≤N) (Bs:Nat) (v:Value) (L:List Px) (w:World) (hc:w.cell? ⟨Bs,0,none⟩=some v) (hs:SlAt w v L.length (L.flatMap Px.cells)) :
 SeqStopsK Fence.wide N Tryz.prog 216 #[.pointer (some ⟨Bs,0,none⟩)] znu (Below w.heap.size) (fun ys=>ys=upto (nthP L) L.length) (fun pre=>∃ k,k≤L.length∧pre=upto (nthP L) k) L.length w:=by
 intro l J Jx W hW _ _ hY h0
 have hBs:Bs<w.heap.size:=World.block_lt_of_cell? w _ hc
 have hc':=(hW.cell (p:=⟨Bs,0,none⟩) hBs).trans hc
 obtain ⟨ao,cap,rfl,hm,hx⟩:=hs
 have hE:=SlAt.elem (f:=Px.cells) (c:=4) (fun _=>rfl) (by omega) hx
 by_cases hL:L.length=0
 ·obtain rfl:L=[]:=List.eq_nil_of_length_eq_zero hL
  exact (ziU N l Bs ao cap J W hc' h0).mono fun e W' ⟨he,hj⟩=>⟨he,.inl ⟨_,rfl,hj⟩⟩
 ·obtain ⟨b,off,rfl,hb,-,-⟩:=hE 0 (by omega)
  refine zoZ N hn l Bs w.heap.size b off cap L (by unfold maxLen at hm;omega) hBs hb J Jx hY W hc' (fun k hk=>?_) h0
  obtain ⟨b',off',e,-,h1,h2⟩:=hE k hk
  cases e
  have h1:=h1 _ rfl
  have h3:=h2 2 _ rfl
  have h4:=h2 3 _ rfl
  have h2:=h2 1 _ rfl
  rw[List.getElem?_eq_getElem hk]
  exact ⟨(hW.cell (p:=⟨b,off+k*4,none⟩) hb).trans h1,(hW.cell (p:=⟨b,off+k*4+1,none⟩) hb).trans h2,(hW.cell (p:=⟨b,off+k*4+2,none⟩) hb).trans h3,(hW.cell (p:=⟨b,off+k*4+3,none⟩) hb).trans h4⟩
theorem zlh (ao:Option Addr) (n cap:Nat) (w:World) :
 Calls Tryz.prog 200 #[.slice ao n cap] w fun e w'=>e=.returned (.func (.func 216) #[] #[.pointer (some ⟨w.heap.size,0,none⟩)])∧w'=w.alloc (.cells #[.slice ao n cap] 242):=by
 go_enter Tryz.func200,Tryz.ntmps200
 go_wp2
 go_ret
 exact ⟨rfl,rfl⟩
end Go.Proofs.YtdkfkalplmgoeaaGreat
namespace Go.Proofs.YtdkfkalplmgoeaaGreat
open Go.RowKit Go.Shelf
set_option maxRecDepth 100000
set_option maxHeartbeats 2000000
attribute [local go_sem] Oper.semAt_some
abbrev SS:=Sp × Sp
def Px.ss (x:Px):SS:=(x.1.1,x.2.1)
def zbN (pre:List (Nat × Px)):List SS:=pre.map fun p=>p.2.ss
theorem zjI (L:List Px):zbN (upto (nthP L) L.length)=L.map Px.ss:=by
 apply List.ext_getElem
 ·simp[zbN,upto]
 ·intro i h1 h2
  simp[zbN,upto] at h1
  simp[zbN,upto,h1]
theorem ziO (L:List Px) (k:Nat) (hk:k≤L.length):zbN (upto (nthP L) k)++((L.map Px.ss).drop k)=L.map Px.ss:=by
 have:zbN (upto (nthP L) k)=(L.map Px.ss).take k:=by
  apply List.ext_getElem
  ·simp[zbN,upto];omega
  ·intro i h1 h2
   simp[zbN,upto] at h1
   have h3:i<L.length:=by omega
   simp[zbN,upto,h3]
 rw[this,List.take_append_drop]
def zly (g:Nat) (lb:Array Value) (f:SS→Res) (w0:World):Prop:=∀ (w:World) (x:Px),Grew w0 w→Calls Tryz.prog g (#[.agg #[.int .i64 x.1.1.lo,.int .i64 x.1.1.hi,.int .i64 x.2.1.lo,.int .i64 x.2.1.hi]]++lb) w fun e w'=>e=.returned (.tuple #[.agg #[.int .i64 (f x.ss).s.lo,.int .i64 (f x.ss).s.hi],.int .i64 (f x.ss).e])∧Grew w w'
theorem zlP (f:SS→Res) (hfs:∀ x,S64 (f x).s) (g:Nat) (lb:Array Value) (eg:∀ args w,(callFunc g args).run Tryz.prog w=.ok (.enter g args) w) (L:List Px) (Bs:Nat) (v:Value) (w:World)
 (hBs:w.cell? ⟨Bs,0,none⟩=some v) (hsl:SlAt w v L.length (L.flatMap Px.cells)) (hterm:zly g lb f w) :
 Calls Tryz.prog 199 #[.func (.func 216) #[] #[.pointer (some ⟨Bs,0,none⟩)],.func (.func g) #[] lb] w fun e w'=>e=.returned (.tuple #[.agg #[.int .i64 (zaK f z0 (L.map Px.ss)).s.lo,.int .i64 (zaK f z0 (L.map Px.ss)).s.hi],.int .i64 (zaK f z0 (L.map Px.ss)).e])∧Grew w w':=by
 have hseq:=Lib.hid (zkq 5 (by omega) Bs v L w hBs hsl)
 have Ht:=Lib.hid hterm
 clear hterm hBs hsl
 refine (callsIn_wide (n:=6)).1 ?_
 refine callsIn_of_wp_marks Tryz.func199 rfl trivial ?_ rfl
 simp only[Tryz.ntmps199,List.size_toArray,List.length_cons,List.length_nil,Nat.reduceAdd,Nat.reduceSub,Array.replicate_succ,Array.replicate_zero,List.push_toArray,List.append_toArray,List.nil_append,List.cons_append]
 gi_wp2
 have hB0:Below w.heap.size w ((((w.alloc (.cells #[.func (.func g) #[] lb] 248)).alloc (.cells #[.int .i64 0,.int .i64 0] 24)).alloc (.cells #[.int .i64 0] 30)).alloc (.cells #[.int .i64 0,.int .i64 0] 24)):=(show Grew w _ from gw)
 refine wpIn_rangeFunc_ownH rfl (by omega) (gf:=216) (lb:=#[.pointer (some ⟨Bs,0,none⟩)]) rfl trivial (enters_of Tryz.func216 (by kernel_rfl) rfl)
  hseq.out belowK_t (belowK_b (by simp;omega)) hB0 (fun _=>rfl)
  (fun pre W=>∃ s:Sp,(zaK f z0 (zbN pre)=⟨s,0⟩∧S64 s)∧zaD W [(w.heap.size,0,.func (.func g) #[] lb),(w.heap.size+1,0,.int .i64 0),(w.heap.size+1,1,.int .i64 0),(w.heap.size+1+1,0,.int .i64 0),(w.heap.size+1+1+1,0,.int .i64 s.lo),(w.heap.size+1+1+1,1,.int .i64 s.hi)]∧Below w.heap.size w W)
  (fun c pre W=>∃ t:Int,(c=.ret∧t≠0∧zaK f z0 (zbN pre)=errR t)∧zaD W [(w.heap.size+1,0,.int .i64 0),(w.heap.size+1,1,.int .i64 0),(w.heap.size+1+1,0,.int .i64 t)]∧Below w.heap.size w W)
  (zcJ (Nat.le_refl _) (by simp;omega) (fun pre s=>zaK f z0 (zbN pre)=⟨s,0⟩∧S64 s) (fun _ s=>[(w.heap.size,0,.func (.func g) #[] lb),(w.heap.size+1,0,.int .i64 0),(w.heap.size+1,1,.int .i64 0),(w.heap.size+1+1,0,.int .i64 0),(w.heap.size+1+1+1,0,.int .i64 s.lo),(w.heap.size+1+1+1,1,.int .i64 s.hi)]))
  (fun c=>zcJ (Nat.le_refl _) (by simp;omega) (fun pre t=>c=.ret∧t≠0∧zaK f z0 (zbN pre)=errR t) (fun _ t=>[(w.heap.size+1,0,.int .i64 0),(w.heap.size+1,1,.int .i64 0),(w.heap.size+1+1,0,.int .i64 t)]))
  ⟨z0,⟨rfl,inferInstance⟩,zaD.cons (by go_simp) (by go_simp) (zaD.cons (by go_simp) (by go_simp) (zaD.cons (by go_simp) (by go_simp) (zaD.cons (by go_simp) (by go_simp) (zaD.cons (by go_simp) (by go_simp) (zaD.cons (by go_simp) (by go_simp) (zaD.nil _)))))),hB0⟩
  (fun x a' W=>∃ Bx:Nat,(w.heap.size+1+1+1<Bx∧a'={ tmps:=#[.func (.func 216) #[] #[.pointer (some ⟨Bs,0,none⟩)],.func (.func g) #[] lb,undef,.pointer (some ⟨w.heap.size,0,none⟩),.pointer (some ⟨w.heap.size+1,0,none⟩),.pointer (some ⟨w.heap.size+1+1,0,none⟩),.pointer (some ⟨w.heap.size+1+1+1,0,none⟩),undef,.pointer (some ⟨Bx,0,none⟩),undef,undef,
    .func (.func 216) #[] #[.pointer (some ⟨Bs,0,none⟩)],.int .i64 (x.1:Int),.agg #[.int .i64 x.2.1.1.lo,.int .i64 x.2.1.1.hi,.int .i64 x.2.2.1.lo,.int .i64 x.2.2.1.hi],undef,undef,undef,undef,undef,undef,undef,undef,undef,undef,undef,undef,undef,undef,undef,undef,undef,undef,undef],defers:=[] })∧zaD W [(Bx,0,.int .i64 x.2.1.1.lo),(Bx,1,.int .i64 x.2.1.1.hi),(Bx,2,.int .i64 x.2.2.1.lo),(Bx,3,.int .i64 x.2.2.1.hi)])
  (fun x a'=>zei _ (fun Bx=>[(Bx,0,.int .i64 x.2.1.1.lo),(Bx,1,.int .i64 x.2.1.1.hi),(Bx,2,.int .i64 x.2.2.1.lo),(Bx,3,.int .i64 x.2.2.1.hi)])) ?assign ?body ?done ?stop
 case assign=>
  rintro l pre x W K ⟨s,hs,hc,hB⟩ hK
  have hc0:=hc
  have hsz:=hB.size
  have hc':=hc.head
  clear hc
  obtain ⟨⟨hc_0,hcf0⟩,hc⟩:=hc'
  have hci0:HasCell (W) (w.heap.size) (0):=⟨_,hc_0⟩
  have hcb0:BlockIn (W) (w.heap.size):=BlockIn.of_cell hc_0
  have hc':=hc.head
  clear hc
  obtain ⟨⟨hc_1,hcf1⟩,hc⟩:=hc'
  have hci1:HasCell (W) (w.heap.size+1) (0):=⟨_,hc_1⟩
  have hcb1:BlockIn (W) (w.heap.size+1):=BlockIn.of_cell hc_1
  have hc':=hc.head
  clear hc
  obtain ⟨⟨hc_2,hcf2⟩,hc⟩:=hc'
  have hci2:HasCell (W) (w.heap.size+1) (1):=⟨_,hc_2⟩
  have hcb2:BlockIn (W) (w.heap.size+1):=BlockIn.of_cell hc_2
  have hc':=hc.head
  clear hc
  obtain ⟨⟨hc_3,hcf3⟩,hc⟩:=hc'
  have hci3:HasCell (W) (w.heap.size+1+1) (0):=⟨_,hc_3⟩
  have hcb3:BlockIn (W) (w.heap.size+1+1):=BlockIn.of_cell hc_3
  have hc':=hc.head
  clear hc
  obtain ⟨⟨hc_4,hcf4⟩,hc⟩:=hc'
  have hci4:HasCell (W) (w.heap.size+1+1+1) (0):=⟨_,hc_4⟩
  have hcb4:BlockIn (W) (w.heap.size+1+1+1):=BlockIn.of_cell hc_4
  have hc':=hc.head
  clear hc
  obtain ⟨⟨hc_5,hcf5⟩,hc⟩:=hc'
  have hci5:HasCell (W) (w.heap.size+1+1+1) (1):=⟨_,hc_5⟩
  have hcb5:BlockIn (W) (w.heap.size+1+1+1):=BlockIn.of_cell hc_5
  clear hc
  have hb4:=hcb5.lt
  unfold znu
  gi_wp2
  refine hK _ _ ((KeepsOthers.alloc _ _).from _) ((Below.refl _ W).alloc hsz _) ⟨s,hs,?_,hB.alloc hsz _⟩ ⟨W.heap.size,⟨hb4,rfl⟩,?_⟩
  ·exact zaD.cons (by go_simp) (by go_simp) (zaD.cons (by go_simp) (by go_simp) (zaD.cons (by go_simp) (by go_simp) (zaD.cons (by go_simp) (by go_simp) (zaD.cons (by go_simp) (by go_simp) (zaD.cons (by go_simp) (by go_simp) (zaD.nil _))))))
  ·exact zaD.cons (by go_simp) (by go_simp) (zaD.cons (by go_simp) (by go_simp) (zaD.cons (by go_simp) (by go_simp) (zaD.cons (by go_simp) (by go_simp) (zaD.nil _))))
 case body=>
  rintro l pre x a' W hl ⟨r,hr⟩ ⟨s,⟨hs1,hs2⟩,hc,hB⟩ ⟨Bx,⟨hBx,rfl⟩,hd⟩ hlt
  have hsz:=hB.size
  have hc0:=hc
  have hc':=hc.head
  clear hc
  obtain ⟨⟨hc_0,hcf0⟩,hc⟩:=hc'
  have hci0:HasCell (W) (w.heap.size) (0):=⟨_,hc_0⟩
  have hcb0:BlockIn (W) (w.heap.size):=BlockIn.of_cell hc_0
  have hc':=hc.head
  clear hc
  obtain ⟨⟨hc_1,hcf1⟩,hc⟩:=hc'
  have hci1:HasCell (W) (w.heap.size+1) (0):=⟨_,hc_1⟩
  have hcb1:BlockIn (W) (w.heap.size+1):=BlockIn.of_cell hc_1
  have hc':=hc.head
  clear hc
  obtain ⟨⟨hc_2,hcf2⟩,hc⟩:=hc'
  have hci2:HasCell (W) (w.heap.size+1) (1):=⟨_,hc_2⟩
  have hcb2:BlockIn (W) (w.heap.size+1):=BlockIn.of_cell hc_2
  have hc':=hc.head
  clear hc
  obtain ⟨⟨hc_3,hcf3⟩,hc⟩:=hc'
  have hci3:HasCell (W) (w.heap.size+1+1) (0):=⟨_,hc_3⟩
  have hcb3:BlockIn (W) (w.heap.size+1+1):=BlockIn.of_cell hc_3
  have hc':=hc.head
  clear hc
  obtain ⟨⟨hc_4,hcf4⟩,hc⟩:=hc'
  have hci4:HasCell (W) (w.heap.size+1+1+1) (0):=⟨_,hc_4⟩
  have hcb4:BlockIn (W) (w.heap.size+1+1+1):=BlockIn.of_cell hc_4
  have hc':=hc.head
  clear hc
  obtain ⟨⟨hc_5,hcf5⟩,hc⟩:=hc'
  have hci5:HasCell (W) (w.heap.size+1+1+1) (1):=⟨_,hc_5⟩
  have hcb5:BlockIn (W) (w.heap.size+1+1+1):=BlockIn.of_cell hc_5
  clear hc
  have hd':=hd.head
  clear hd
  obtain ⟨⟨hd_0,hdf0⟩,hd⟩:=hd'
  have hdi0:HasCell (W) (Bx) (0):=⟨_,hd_0⟩
  have hdb0:BlockIn (W) (Bx):=BlockIn.of_cell hd_0
  have hd':=hd.head
  clear hd
  obtain ⟨⟨hd_1,hdf1⟩,hd⟩:=hd'
  have hdi1:HasCell (W) (Bx) (1):=⟨_,hd_1⟩
  have hdb1:BlockIn (W) (Bx):=BlockIn.of_cell hd_1
  have hd':=hd.head
  clear hd
  obtain ⟨⟨hd_2,hdf2⟩,hd⟩:=hd'
  have hdi2:HasCell (W) (Bx) (2):=⟨_,hd_2⟩
  have hdb2:BlockIn (W) (Bx):=BlockIn.of_cell hd_2
  have hd':=hd.head
  clear hd
  obtain ⟨⟨hd_3,hdf3⟩,hd⟩:=hd'
  have hdi3:HasCell (W) (Bx) (3):=⟨_,hd_3⟩
  have hdb3:BlockIn (W) (Bx):=BlockIn.of_cell hd_3
  clear hd
  have:Apart (w.heap.size) (Bx):=⟨by omega⟩
  have:Apart (w.heap.size+1) (Bx):=⟨by omega⟩
  have:Apart (w.heap.size+1+1) (Bx):=⟨by omega⟩
  have:Apart (w.heap.size+1+1+1) (Bx):=⟨by omega⟩
  have:Apart (Bx) (w.heap.size):=⟨by omega⟩
  have:Apart (Bx) (w.heap.size+1):=⟨by omega⟩
  have:Apart (Bx) (w.heap.size+1+1):=⟨by omega⟩
  have:Apart (Bx) (w.heap.size+1+1+1):=⟨by omega⟩
  have hx1:=x.2.1.2
  have hx2:=x.2.2.2
  have hfx:=hfs x.2.ss
  have Hs1:=Lib.hid hs1
  have hn:(1:Nat)≤4:=by omega
  clear hs1
  have hB':Grew w W:=hB
  have hv:zbN (pre++[x])=zbN pre++[x.2.ss]:=by simp[zbN]
  have Hv:=Lib.hid hv
  clear hv
  by_cases c1:(f x.2.ss).e=0
  ·have C1:=Lib.hid c1
   have c1':((f x.2.ss).e==0)=true:=by simp[c1]
   clear c1
   by_cases c2:(addR s (f x.2.ss).s).e=0
   ·have C2:=Lib.hid c2
    have c2':((addR s (f x.2.ss).s).e != 0)=false:=by simp[c2]
    clear c2
    gi_wp2_with (first|(refine ⟨trivial,?_⟩;gi_at_call 32;refine zaT (zcj _ _ _) ?_;intro u)|(refine ⟨trivial,?_⟩;refine zaT (Ht.out W x.2 hB') ?_;intro u))
    refine ⟨KeepsOthers.from (by repeat (first|with_reducible exact KeepsOthers.refl _|with_reducible apply zbj|with_reducible apply zbk|with_reducible apply zaX|with_reducible apply zbw)) _,zeu hB (show Grew w _ from gw) (KeepsOthers.size (by repeat (first|with_reducible exact KeepsOthers.refl _|with_reducible apply zbj|with_reducible apply zbk|with_reducible apply zaX|with_reducible apply zbw))),(addR s (f x.2.ss).s).s,⟨?_,inferInstance⟩,?_,(show Grew w _ from gw)⟩
    ·rw[Hv.out,zb2,Hs1.out,if_pos rfl]
     simp only[zaK,C1.out,C2.out,if_true]
    ·exact (zaD.cons (by go_simp) (by go_simp) (zaD.cons (by go_simp) (by go_simp) (zaD.cons (by go_simp) (by go_simp) (zaD.cons (by go_simp) (by go_simp) (zaD.cons (by go_simp) (by go_simp) (zaD.cons (by go_simp) (by go_simp) (zaD.nil _)))))))
   ·have C2:=Lib.hid c2
    have c2':((addR s (f x.2.ss).s).e != 0)=true:=by simp[c2]
    clear c2
    gi_wp2_with (first|(refine ⟨trivial,?_⟩;gi_at_call 32;refine zaT (zcj _ _ _) ?_;intro u)|(refine ⟨trivial,?_⟩;refine zaT (Ht.out W x.2 hB') ?_;intro u))
    refine ⟨KeepsOthers.from (by repeat (first|with_reducible exact KeepsOthers.refl _|with_reducible apply zbj|with_reducible apply zbk|with_reducible apply zaX|with_reducible apply zbw)) _,(addR s (f x.2.ss).s).e,⟨rfl,C2.out,?_⟩,?_,(show Grew w _ from gw)⟩
    ·rw[Hv.out,zb2,Hs1.out,if_pos rfl]
     simp only[zaK,C1.out,if_neg C2.out,if_true]
    ·exact (zaD.cons (by go_simp) (by go_simp) (zaD.cons (by go_simp) (by go_simp) (zaD.cons (by go_simp) (by go_simp) (zaD.nil _))))
  ·have C1:=Lib.hid c1
   have c1':((f x.2.ss).e==0)=false:=by simp[c1]
   have c1'':((f x.2.ss).e != 0)=true:=by simp[c1]
   clear c1
   gi_wp2_with (first|(refine ⟨trivial,?_⟩;gi_at_call 32;refine zaT (zcj _ _ _) ?_;intro u)|(refine ⟨trivial,?_⟩;refine zaT (Ht.out W x.2 hB') ?_;intro u))
   refine ⟨KeepsOthers.from (by repeat (first|with_reducible exact KeepsOthers.refl _|with_reducible apply zbj|with_reducible apply zbk|with_reducible apply zaX|with_reducible apply zbw)) _,(f x.2.ss).e,⟨rfl,C1.out,?_⟩,?_,(show Grew w _ from gw)⟩
   ·rw[Hv.out,zb2,Hs1.out,if_pos rfl]
    simp only[zaK,if_neg C1.out]
   ·exact (zaD.cons (by go_simp) (by go_simp) (zaD.cons (by go_simp) (by go_simp) (zaD.cons (by go_simp) (by go_simp) (zaD.nil _))))
 case done=>
  rintro D ys W hD rfl ⟨s,⟨hs1,hs2⟩,hc,hB⟩ hK
  have hsz:=hB.size
  have hB':Grew w W:=hB
  have hD':w.heap.size+1+1+1+1≤D:=by simpa using hD
  have hc':=hc.head
  clear hc
  obtain ⟨⟨hc_0,hcf0⟩,hc⟩:=hc'
  have hci0:HasCell (W) (w.heap.size) (0):=⟨_,hc_0⟩
  have hcb0:BlockIn (W) (w.heap.size):=BlockIn.of_cell hc_0
  have hc':=hc.head
  clear hc
  obtain ⟨⟨hc_1,hcf1⟩,hc⟩:=hc'
  have hci1:HasCell (W) (w.heap.size+1) (0):=⟨_,hc_1⟩
  have hcb1:BlockIn (W) (w.heap.size+1):=BlockIn.of_cell hc_1
  have hc':=hc.head
  clear hc
  obtain ⟨⟨hc_2,hcf2⟩,hc⟩:=hc'
  have hci2:HasCell (W) (w.heap.size+1) (1):=⟨_,hc_2⟩
  have hcb2:BlockIn (W) (w.heap.size+1):=BlockIn.of_cell hc_2
  have hc':=hc.head
  clear hc
  obtain ⟨⟨hc_3,hcf3⟩,hc⟩:=hc'
  have hci3:HasCell (W) (w.heap.size+1+1) (0):=⟨_,hc_3⟩
  have hcb3:BlockIn (W) (w.heap.size+1+1):=BlockIn.of_cell hc_3
  have hc':=hc.head
  clear hc
  obtain ⟨⟨hc_4,hcf4⟩,hc⟩:=hc'
  have hci4:HasCell (W) (w.heap.size+1+1+1) (0):=⟨_,hc_4⟩
  have hcb4:BlockIn (W) (w.heap.size+1+1+1):=BlockIn.of_cell hc_4
  have hc':=hc.head
  clear hc
  obtain ⟨⟨hc_5,hcf5⟩,hc⟩:=hc'
  have hci5:HasCell (W) (w.heap.size+1+1+1) (1):=⟨_,hc_5⟩
  have hcb5:BlockIn (W) (w.heap.size+1+1+1):=BlockIn.of_cell hc_5
  clear hc
  have:Apart (w.heap.size) (D):=⟨by omega⟩
  have:Apart (w.heap.size+1) (D):=⟨by omega⟩
  have:Apart (w.heap.size+1+1) (D):=⟨by omega⟩
  have:Apart (w.heap.size+1+1+1) (D):=⟨by omega⟩
  have:Apart (D) (w.heap.size):=⟨by omega⟩
  have:Apart (D) (w.heap.size+1):=⟨by omega⟩
  have:Apart (D) (w.heap.size+1+1):=⟨by omega⟩
  have:Apart (D) (w.heap.size+1+1+1):=⟨by omega⟩
  have Hs1:=Lib.hid hs1
  clear hs1
  have hfin:zaK f z0 (L.map Px.ss)=⟨s,0⟩:=by rw[←zjI L];exact Hs1.out
  have k1:(((W.setCell ⟨w.heap.size+1,0,none⟩ (.int .i64 s.lo)).setCell ⟨w.heap.size+1,1,none⟩ (.int .i64 s.hi)).setCell ⟨w.heap.size+1+1,0,none⟩ (.int .i64 0)).cell? ⟨w.heap.size+1,0,none⟩=some (.int .i64 s.lo):=by go_simp
  have k2:(((W.setCell ⟨w.heap.size+1,0,none⟩ (.int .i64 s.lo)).setCell ⟨w.heap.size+1,1,none⟩ (.int .i64 s.hi)).setCell ⟨w.heap.size+1+1,0,none⟩ (.int .i64 0)).cell? ⟨w.heap.size+1,1,none⟩=some (.int .i64 s.hi):=by go_simp
  have k3:(((W.setCell ⟨w.heap.size+1,0,none⟩ (.int .i64 s.lo)).setCell ⟨w.heap.size+1,1,none⟩ (.int .i64 s.hi)).setCell ⟨w.heap.size+1+1,0,none⟩ (.int .i64 0)).cell? ⟨w.heap.size+1+1,0,none⟩=some (.int .i64 0):=by go_simp
  have kK:(((W.setCell ⟨w.heap.size+1,0,none⟩ (.int .i64 s.lo)).setCell ⟨w.heap.size+1,1,none⟩ (.int .i64 s.hi)).setCell ⟨w.heap.size+1+1,0,none⟩ (.int .i64 0)).heap[D]?=some (.deferred (some [])):=KeepsOthers.same (W:=W) (by repeat (first|with_reducible exact KeepsOthers.refl _|with_reducible apply zbj|with_reducible apply zbk|with_reducible apply zaX|with_reducible apply zbw)) D _ hK rfl
  have kB:Grew w (((W.setCell ⟨w.heap.size+1,0,none⟩ (.int .i64 s.lo)).setCell ⟨w.heap.size+1,1,none⟩ (.int .i64 s.hi)).setCell ⟨w.heap.size+1+1,0,none⟩ (.int .i64 0)):=gw
  gi_wp2
  generalize (((W.setCell ⟨w.heap.size+1,0,none⟩ (.int .i64 s.lo)).setCell ⟨w.heap.size+1,1,none⟩ (.int .i64 s.hi)).setCell ⟨w.heap.size+1+1,0,none⟩ (.int .i64 0))=W2 at *
  have q1:=cell_kept k1 (grownBy_putObj' _ D (.deferred none)) (fun r e=>by cases e;exact ⟨_,kK,rfl⟩)
  have q2:=cell_kept k2 (grownBy_putObj' _ D (.deferred none)) (fun r e=>by cases e;exact ⟨_,kK,rfl⟩)
  have q3:=cell_kept k3 (grownBy_putObj' _ D (.deferred none)) (fun r e=>by cases e;exact ⟨_,kK,rfl⟩)
  refine ⟨by simp,.inl ⟨_,_,rfl,run_takeDeferred kK,?_⟩⟩
  rw[hfin]
  refine ⟨.tuple #[.agg #[.int .i64 s.lo,.int .i64 s.hi],.int .i64 0],?_,rfl,Below.trans kB (belowK_b (w:=w) (Nat.le_refl _) W2 D _ _ (by omega) kK rfl rfl)⟩
  simp[results,Tryz.results199,go_sem,q1,q2,q3]
 case stop=>
  rintro D c pre W hD ⟨k,hk,rfl⟩ ⟨t,⟨rfl,ht,he⟩,hc,hB⟩ hK
  have hsz:=hB.size
  have hD':w.heap.size+1+1+1+1≤D:=by simpa using hD
  have hc':=hc.head
  clear hc
  obtain ⟨⟨hc_0,hcf0⟩,hc⟩:=hc'
  have hci0:HasCell (W) (w.heap.size+1) (0):=⟨_,hc_0⟩
  have hcb0:BlockIn (W) (w.heap.size+1):=BlockIn.of_cell hc_0
  have hc':=hc.head
  clear hc
  obtain ⟨⟨hc_1,hcf1⟩,hc⟩:=hc'
  have hci1:HasCell (W) (w.heap.size+1) (1):=⟨_,hc_1⟩
  have hcb1:BlockIn (W) (w.heap.size+1):=BlockIn.of_cell hc_1
  have hc':=hc.head
  clear hc
  obtain ⟨⟨hc_2,hcf2⟩,hc⟩:=hc'
  have hci2:HasCell (W) (w.heap.size+1+1) (0):=⟨_,hc_2⟩
  have hcb2:BlockIn (W) (w.heap.size+1+1):=BlockIn.of_cell hc_2
  clear hc
  have:Apart (w.heap.size) (D):=⟨by omega⟩
  have:Apart (w.heap.size+1) (D):=⟨by omega⟩
  have:Apart (w.heap.size+1+1) (D):=⟨by omega⟩
  have:Apart (w.heap.size+1+1+1) (D):=⟨by omega⟩
  have:Apart (D) (w.heap.size):=⟨by omega⟩
  have:Apart (D) (w.heap.size+1):=⟨by omega⟩
  have:Apart (D) (w.heap.size+1+1):=⟨by omega⟩
  have:Apart (D) (w.heap.size+1+1+1):=⟨by omega⟩
  have He:=Lib.hid he
  clear he
  have hfin:zaK f z0 (L.map Px.ss)=⟨⟨0,0⟩,t⟩:=by
   rw[←ziO L k hk,zeB f z0 _ _ (by rw[He.out];exact ht),He.out];rfl
  have k1:=hc_0
  have k2:=hc_1
  have k3:=hc_2
  have kK:=hK
  have kB:Grew w W:=hB
  gi_wp2
  have q1:=cell_kept k1 (grownBy_putObj' _ D (.deferred none)) (fun r e=>by cases e;exact ⟨_,kK,rfl⟩)
  have q2:=cell_kept k2 (grownBy_putObj' _ D (.deferred none)) (fun r e=>by cases e;exact ⟨_,kK,rfl⟩)
  have q3:=cell_kept k3 (grownBy_putObj' _ D (.deferred none)) (fun r e=>by cases e;exact ⟨_,kK,rfl⟩)
  refine ⟨by simp,.inl ⟨_,_,rfl,run_takeDeferred kK,?_⟩⟩
  rw[hfin]
  refine ⟨.tuple #[.agg #[.int .i64 0,.int .i64 0],.int .i64 t],?_,rfl,Below.trans kB (belowK_b (w:=w) (Nat.le_refl _) W D _ _ (by omega) kK rfl rfl)⟩
  simp[results,Tryz.results199,go_sem,q1,q2,q3]
end Go.Proofs.YtdkfkalplmgoeaaGreat
namespace Go.Proofs.YtdkfkalplmgoeaaGreat
open Go.RowKit Go.Shelf
set_option maxRecDepth 100000
set_option maxHeartbeats 2000000
def Bx.terms (a b:Bx):List SS:=[(a.x,b.x),(a.y,b.y),(a.z,b.z)]
def mul2 (p:SS):Res:=mulR p.1 p.2
def zbn (a b:Bx):Res:=if a.okB&&b.okB then zaK mul2 z0 (a.terms b) else errR 2
theorem zjg (a:Bx):a.list.all Sp.okB=a.okB:=by
 unfold Bx.list Bx.okB
 simp[Bool.and_assoc]
theorem znw (A B:List Sp) (ao1 ao2:Option Addr) (cap1 cap2 b:Nat) (w:World) (hA:A.length≤64) (hB:B.length≤64) (hc1:w.cell? ⟨b,0,none⟩=some (.slice ao1 A.length cap1)) (hc2:w.cell? ⟨b,1,none⟩=some (.slice ao2 B.length cap2))
 (hs1:SlAt w (.slice ao1 A.length cap1) A.length (A.flatMap Sp.cells)) (hs2:SlAt w (.slice ao2 B.length cap2) B.length (B.flatMap Sp.cells)) :
 Calls Tryz.prog 181 #[.slice (some ⟨b,0,none⟩) 2 2] w fun e w'=>e=.returned (.int .i64 (zaL (A.all Sp.okB&&B.all Sp.okB) 2))∧Grew w w':=by
 have HA:=Lib.hid (fun w' (g:Grew w w')=>zck A (.slice ao1 A.length cap1) w' (hs1.grew g))
 have HB:=Lib.hid (fun w' (g:Grew w w')=>zck B (.slice ao2 B.length cap2) w' (hs2.grew g))
 clear hs1 hs2
 have ib:BlockIn w b:=BlockIn.of_cell hc1
 have hA':¬ ((64:Int)<A.length):=by omega
 have hB':¬ ((64:Int)<B.length):=by omega
 cases h1:A.all Sp.okB
 ·have HA2:=Lib.hid (fun w' g=>zaH (show zaL (A.all Sp.okB) 2=2 by rw[h1];rfl) (HA.out w' g))
  clear HA h1
  go_enter Tryz.func181,Tryz.ntmps181
  go_wp2
  refine wp_loop_rounds 3 ?_
  rw[rounds_succ]
  go_wp2
  rw[rounds_succ]
  go_wp2
  rw[rounds_succ]
  go_wp2
  refine wp_loop_rounds 3 ?_
  rw[rounds_succ]
  go_wp2_with (first|(go_at_call 60;(with_reducible refine zaa (HA2.out _ gw) ?_);intro u))
  go_ret
  exact ⟨rfl,gw⟩
 ·have HA2:=Lib.hid (fun w' g=>zaH (show zaL (A.all Sp.okB) 2=0 by rw[h1];rfl) (HA.out w' g))
  clear HA h1
  cases h2:B.all Sp.okB
  ·have HB2:=Lib.hid (fun w' g=>zaH (show zaL (B.all Sp.okB) 2=2 by rw[h2];rfl) (HB.out w' g))
   clear HB h2
   go_enter Tryz.func181,Tryz.ntmps181
   go_wp2
   refine wp_loop_rounds 3 ?_
   rw[rounds_succ]
   go_wp2
   rw[rounds_succ]
   go_wp2
   rw[rounds_succ]
   go_wp2
   refine wp_loop_rounds 3 ?_
   rw[rounds_succ]
   go_wp2_with (first|(go_at_call 60;(with_reducible refine zaa (HA2.out _ gw) ?_);intro u))
   rw[rounds_succ]
   go_wp2_with (first|(go_at_call 60;(with_reducible refine zaa (HB2.out _ gw) ?_);intro u))
   go_ret
   exact ⟨rfl,gw⟩
  ·have HB2:=Lib.hid (fun w' g=>zaH (show zaL (B.all Sp.okB) 2=0 by rw[h2];rfl) (HB.out w' g))
   clear HB h2
   go_enter Tryz.func181,Tryz.ntmps181
   go_wp2
   refine wp_loop_rounds 3 ?_
   rw[rounds_succ]
   go_wp2
   rw[rounds_succ]
   go_wp2
   rw[rounds_succ]
   go_wp2
   refine wp_loop_rounds 3 ?_
   rw[rounds_succ]
   go_wp2_with (first|(go_at_call 60;(with_reducible refine zaa (HA2.out _ gw) ?_);intro u))
   rw[rounds_succ]
   go_wp2_with (first|(go_at_call 60;(with_reducible refine zaa (HB2.out _ gw) ?_);intro u))
   rw[rounds_succ]
   go_wp2
   go_ret
   exact ⟨rfl,gw⟩
theorem zof (w:World):zly 201 #[] mul2 w:=fun w x _=>by
 obtain ⟨⟨a,ha⟩,⟨b,hb⟩⟩:=x
 show Calls Tryz.prog 201 #[.agg #[.int .i64 a.lo,.int .i64 a.hi,.int .i64 b.lo,.int .i64 b.hi]] w fun e w'=>e=.returned (.tuple #[.agg #[.int .i64 (mulR a b).s.lo,.int .i64 (mulR a b).s.hi],.int .i64 (mulR a b).e])∧Grew w w'
 go_enter Tryz.func201,Tryz.ntmps201
 go_wp2_with (first|(go_at_call 139;(with_reducible refine zaa (zeR a b _) ?_);intro u))
 refine bodyPost_ret (by (simp[results,Tryz.results201,go_sem]<;>rfl)) rfl ?_
 exact ⟨rfl,gw⟩
theorem znH:(Tryz.prog.info? 243).map (fun i=>(i.zero,i.size,i.bytes))=some (some (.agg #[.int .i64 0,.int .i64 0,.int .i64 0,.int .i64 0]),4,32):=by kernel_rfl
theorem zkM (w:World):(Instr.makeSlice 242 (.int .i64 3) (.int .i64 3)).run Tryz.prog w=.ok (.slice (some ⟨w.heap.size,0,none⟩) 3 3) (w.alloc (.cells #[.int .i64 0,.int .i64 0,.int .i64 0,.int .i64 0,.int .i64 0,.int .i64 0,.int .i64 0,.int .i64 0,.int .i64 0,.int .i64 0,.int .i64 0,.int .i64 0] 243)):=by
 obtain ⟨i0,hi,hz0,hz1,hz2⟩:=info_parts znH
 have:=run_make (P:=Tryz.prog) w 242 243 i0 _ Tryz.underlying242 hi hz0 .i64 .i64 3 3 (by omega) (by omega) (by rw[hz2];decide) (by omega)
 rw[hz1] at this
 refine this.trans ?_
 kernel_rfl
def zjl (a b:Bx) (ha:B64 a) (hb:B64 b):List Px:=[(⟨a.x,ha.x⟩,⟨b.x,hb.x⟩),(⟨a.y,ha.y⟩,⟨b.y,hb.y⟩),(⟨a.z,ha.z⟩,⟨b.z,hb.z⟩)]
theorem zmR (a b:Bx) [ha:B64 a] [hb:B64 b] (ao1 ao2:Option Addr) (w:World) (hs1:SlAt w (.slice ao1 3 3) 3 [.int .i64 a.x.lo,.int .i64 a.x.hi,.int .i64 a.y.lo,.int .i64 a.y.hi,.int .i64 a.z.lo,.int .i64 a.z.hi]) (hs2:SlAt w (.slice ao2 3 3) 3 [.int .i64 b.x.lo,.int .i64 b.x.hi,.int .i64 b.y.lo,.int .i64 b.y.hi,.int .i64 b.z.lo,.int .i64 b.z.hi]):Calls Tryz.prog 177 #[.slice ao1 3 3,.slice ao2 3 3] w fun e w'=>e=.returned (.tuple #[.agg #[.int .i64 (zbn a b).s.lo,.int .i64 (zbn a b).s.hi],.int .i64 (zbn a b).e])∧Grew w w':=by
 have HF:=Lib.hid (fun bb w' (g:Grew w w') (hc1:w'.cell? ⟨bb,0,none⟩=some (.slice ao1 3 3)) (hc2:w'.cell? ⟨bb,1,none⟩=some (.slice ao2 3 3))=>znw a.list b.list ao1 ao2 3 3 bb w' (by simp[Bx.list]) (by simp[Bx.list]) hc1 hc2 (hs1.grew g) (hs2.grew g))
 rw[zjg,zjg] at HF
 cases hok:(a.okB&&b.okB)
 ·have Hn:=Lib.hid (show zbn a b=errR 2 by unfold zbn;rw[hok];rfl)
  have HF2:=Lib.hid (fun bb w' g h1 h2=>zaH (show zaL (a.okB&&b.okB) 2=2 by rw[hok];rfl) (HF.out bb w' g h1 h2))
  clear HF hok hs1 hs2
  go_enter Tryz.func177,Tryz.ntmps177
  go_wp2_with (first|(go_at_call 181;(with_reducible refine zaa (HF2.out _ _ gw (by go_simp) (by go_simp)) ?_);intro u)|((with_reducible refine zac ?_ ?_ ?_);(· kernel_rfl);(· kernel_rfl);(try simp only[List.append_eq,List.cons_append,List.nil_append]);(repeat (go_big_quiet_step ((first|(go_at_call 181;(with_reducible exact zad (HF2.out _ _ gw (by go_simp) (by go_simp))))))));refine wpQuiet_nil ?_;rintro _ ⟨u,rfl⟩))
  refine bodyPost_ret (by (simp[results,Tryz.results177,go_sem]<;>rfl)) rfl ?_
  exact ⟨zaJ Hn.out.symm rfl,gw⟩
 ·have Hn:=Lib.hid (show zbn a b=zaK mul2 z0 (a.terms b) by unfold zbn;rw[hok];rfl)
  have HF2:=Lib.hid (fun bb w' g h1 h2=>zaH (show zaL (a.okB&&b.okB) 2=0 by rw[hok];rfl) (HF.out bb w' g h1 h2))
  obtain ⟨ao1',cap1',e1,-,hx1⟩:=hs1
  cases e1
  obtain ⟨ao2',cap2',e2,-,hx2⟩:=hs2
  cases e2
  obtain ⟨b1,o1,rfl,hc0⟩:=hx1 0 _ rfl
  obtain ⟨_,_,q,hc1⟩:=hx1 1 _ rfl
  cases q
  obtain ⟨_,_,q,hc2⟩:=hx1 2 _ rfl
  cases q
  obtain ⟨_,_,q,hc3⟩:=hx1 3 _ rfl
  cases q
  obtain ⟨_,_,q,hc4⟩:=hx1 4 _ rfl
  cases q
  obtain ⟨_,_,q,hc5⟩:=hx1 5 _ rfl
  cases q
  obtain ⟨b2,o2,rfl,hd0⟩:=hx2 0 _ rfl
  obtain ⟨_,_,q,hd1⟩:=hx2 1 _ rfl
  cases q
  obtain ⟨_,_,q,hd2⟩:=hx2 2 _ rfl
  cases q
  obtain ⟨_,_,q,hd3⟩:=hx2 3 _ rfl
  cases q
  obtain ⟨_,_,q,hd4⟩:=hx2 4 _ rfl
  cases q
  obtain ⟨_,_,q,hd5⟩:=hx2 5 _ rfl
  cases q
  rw[Nat.add_zero] at hc0 hd0
  have i1:BlockIn w b1:=BlockIn.of_cell hc0
  have i2:BlockIn w b2:=BlockIn.of_cell hd0
  have hmk:=zkM
  have Hfold:=Lib.hid (fun Bs v w' (hc:w'.cell? ⟨Bs,0,none⟩=some v) (hs:SlAt w' v 3 ((zjl a b ha hb).flatMap Px.cells))=>show (fun w=>Calls Tryz.prog 199 #[.func (.func 216) #[] #[.pointer (some ⟨Bs,0,none⟩)],.func (.func 201) #[] #[]] w fun e w'=>e=.returned (.tuple #[.agg #[.int .i64 (zaK mul2 z0 (a.terms b)).s.lo,.int .i64 (zaK mul2 z0 (a.terms b)).s.hi],.int .i64 (zaK mul2 z0 (a.terms b)).e])∧Grew w w') w' from
   by
    have:=zlP mul2 (fun x=>by unfold mul2;infer_instance) 201 #[] (enters_of Tryz.func201 (by kernel_rfl) rfl) (zjl a b ha hb) Bs v w' hc hs (zof w')
    rw[show (zjl a b ha hb).map Px.ss=a.terms b from rfl] at this
    exact this)
  clear HF hok hx1 hx2
  go_enter Tryz.func177,Tryz.ntmps177
  go_wp2_with (first|(go_at_call 181;(with_reducible refine zaa (HF2.out _ _ gw (by go_simp) (by go_simp)) ?_);intro u)|((with_reducible refine zac ?_ ?_ ?_);(· kernel_rfl);(· kernel_rfl);(try simp only[List.append_eq,List.cons_append,List.nil_append]);(repeat (go_big_quiet_step ((first|(go_at_call 181;(with_reducible exact zad (HF2.out _ _ gw (by go_simp) (by go_simp))))))));refine wpQuiet_nil ?_;rintro _ ⟨u,rfl⟩))
  refine wp_loop_rounds 4 ?_
  rw[rounds_succ]
  go_wp2
  go_region_held3 (fun w'=>w'.cell? ⟨b1,o1,none⟩=some (.int .i64 a.x.lo)∧w'.cell? ⟨b1,o1+1,none⟩=some (.int .i64 a.x.hi)∧w'.cell? ⟨b2,o2,none⟩=some (.int .i64 b.x.lo)∧w'.cell? ⟨b2,o2+1,none⟩=some (.int .i64 b.x.hi)) (exact ⟨by (first|(go_simp;done)),by (first|(go_simp;done)),by (first|(go_simp;done)),by (first|(go_simp;done))⟩) (fail)
  go_wp2
  rw[rounds_succ]
  go_wp2
  go_region_held3 (fun w'=>w'.cell? ⟨b1,o1+2,none⟩=some (.int .i64 a.y.lo)∧w'.cell? ⟨b1,o1+3,none⟩=some (.int .i64 a.y.hi)∧w'.cell? ⟨b2,o2+2,none⟩=some (.int .i64 b.y.lo)∧w'.cell? ⟨b2,o2+3,none⟩=some (.int .i64 b.y.hi)) (exact ⟨by (first|(go_simp;done)),by (first|(go_simp;done)),by (first|(go_simp;done)),by (first|(go_simp;done))⟩) (fail)
  go_wp2
  rw[rounds_succ]
  go_wp2
  go_region_held3 (fun w'=>w'.cell? ⟨b1,o1+4,none⟩=some (.int .i64 a.z.lo)∧w'.cell? ⟨b1,o1+5,none⟩=some (.int .i64 a.z.hi)∧w'.cell? ⟨b2,o2+4,none⟩=some (.int .i64 b.z.lo)∧w'.cell? ⟨b2,o2+5,none⟩=some (.int .i64 b.z.hi)) (exact ⟨by (first|(go_simp;done)),by (first|(go_simp;done)),by (first|(go_simp;done)),by (first|(go_simp;done))⟩) (fail)
  go_wp2
  rw[rounds_succ]
  have S3:=Lib.hid (SlAt.fresh (w:=u.world) (m:=u.world.heap.size) [.int .i64 a.x.lo,.int .i64 a.x.hi,.int .i64 b.x.lo,.int .i64 b.x.hi,.int .i64 a.y.lo,.int .i64 a.y.hi,.int .i64 b.y.lo,.int .i64 b.y.hi,.int .i64 a.z.lo,.int .i64 a.z.hi,.int .i64 b.z.lo,.int .i64 b.z.hi] 243 3 3 (by simp[maxLen]))
  go_wp2_with (first|(first|(go_at_call 200;refine (zlh _ _ _ _).mono ?_;rintro e w' ⟨rfl,rfl⟩)|(go_at_call 199;go_loud (refine zaa (Hfold.out _ _ _ (by go_simp) (S3.out.grew gw)) ?_;intro u5)))|((with_reducible refine zac ?_ ?_ ?_);(· kernel_rfl);(· kernel_rfl);(try simp only[List.append_eq,List.cons_append,List.nil_append]);(repeat (go_big_quiet_step (fail)));refine wpQuiet_nil ?_;rintro _ ⟨u,rfl⟩))
  refine bodyPost_ret (by (simp[results,Tryz.results177,go_sem]<;>rfl)) rfl ?_
  exact ⟨zaS (by rw[Hn.out]),gw⟩
end Go.Proofs.YtdkfkalplmgoeaaGreat
