/-
  Joined: Choices, TrustN.
-/
import Derived.Test.YtdkfkalplmgoeaaGreatRangeTwoL
namespace Go.Proofs.YtdkfkalplmgoeaaGreat
open Go.RowKit Go.Shelf
set_option maxRecDepth 100000
set_option maxHeartbeats 4000000
attribute [local go_sem] Oper.semAt_some
theorem zor (a:Nat) (ha:a<9223372036854775808):(BitVec.ofInt 64 (a:Int)).toNat=a:=by simp[BitVec.ofInt];omega
theorem zlE (a b:Nat) (ha:a<9223372036854775808) (hb:b<9223372036854775808):bits .and .i64 (a:Int) (b:Int)=((a &&& b:Nat):Int):=by
 have h3:a &&& b≤a:=Nat.and_le_left
 show IntKind.i64.wrap ((BitVec.ofInt 64 (a:Int) &&& BitVec.ofInt 64 (b:Int)).toNat:Int)=_
 rw[BitVec.toNat_and,zor a ha,zor b hb,IntKind.wrap_i64]
 omega
theorem zpJ:∀ n,n<17→IntKind.i64.wrap ((2:Int)^n)=2^n:=by decide +kernel
def encM (x:Nat):Array Value:=#[.int .i64 (x:Int)]
theorem zik (many k:Nat):∀ j,k≤j→(zbB many k).length≤(zbB many j).length
 |0,h=>by rw[show k=0 by omega];exact Nat.le_refl _
 |j+1,h=>by
  by_cases e:k=j+1
  ·rw[e];exact Nat.le_refl _
  ·refine Nat.le_trans (zik many k j (by omega)) ?_
   rw[zgU]
   split
   ·simp
   ·exact Nat.le_refl _
theorem zkw (N:Nat) (hn:1≤N) (l Bn Bm n many:Nat) (h16:n≤16) (J Jx:List Nat→World→Prop)
 (hY:∀ pre x W,J pre W→pre.length<(zbB many (2^n)).length→YieldAt Fence.wide (N-1) Tryz.prog l (encM x) W fun e W'=>
   (e=.returned (.bool true)∧J (pre++[x]) W'∧KeepTwo Bn Bm W W')∨(e=.returned (.bool false)∧Jx (pre++[x]) W'))
 (W:World) (hA:W.cell? ⟨Bn,0,none⟩=some (.int .i64 n)) (hB:W.cell? ⟨Bm,0,none⟩=some (.int .i64 many)) (h0:J [] W) :
 CallsIn Fence.wide N Tryz.prog 36 #[.func (.yield l) #[] #[],.pointer (some ⟨Bn,0,none⟩),.pointer (some ⟨Bm,0,none⟩)] W fun e W'=>(∃ v,e=.returned v)∧
  ((∃ ys,ys=zbB many (2^n)∧J ys W')∨(∃ pre,(∃ k,pre=zbB many k)∧Jx pre W')):=by
 have HY:=Lib.hid hY
 have iA:BlockIn W Bn:=BlockIn.of_cell hA
 have iB:BlockIn W Bm:=BlockIn.of_cell hB
 have hsh:=zpJ n (by omega)
 have hn1:¬ ((n:Int)<0):=by omega
 have hn2:(n:Int)<64:=by omega
 have hp:((2^n:Nat):Int)=2^n:=by simp
 have hle:2^n≤2^16:=Nat.pow_le_pow_right (n:=2) (by decide) h16
 clear hY
 obtain ⟨T,hT⟩:∃ T,T=2^n:=⟨_,rfl⟩
 rw[←hT] at hp hle
 have HT:=Lib.hid hT
 rw[←hp] at hsh
 refine callsIn_of_wp Tryz.func36 rfl trivial ?_ rfl
 simp only[Tryz.ntmps36,List.size_toArray,List.length_cons,List.length_nil,Nat.reduceAdd,Nat.reduceSub,Array.replicate_succ,Array.replicate_zero,List.push_toArray,List.append_toArray,List.nil_append,List.cons_append]
 gi_wp2;iterate 12 (try (refine ⟨(fun _ h=>by cases h),?_⟩;gi_wp2))
 gi_loopw [9] (fun i wr=>∃ k:Nat,i=.int .i64 k∧k≤T∧J (zbB many k) wr∧KeepTwo Bn Bm W wr) (fun i _=>T-(intOf i).toNat)
 case atStart=>exact ⟨0,rfl,Nat.zero_le _,h0,KeepTwo.refl _ _ _⟩
 case round=>
  obtain ⟨k,rfl,hk,hJs,hkeep⟩:=hrel
  have hB':=(hkeep.cell2 (o:=0)).trans hB
  have iA':BlockIn wr Bn:=BlockIn.of_cell ((hkeep.cell1 (o:=0)).trans hA)
  have iB':BlockIn wr Bm:=BlockIn.of_cell hB'
  by_cases hlt:k<T
  ·have hlt':(k:Int)<T:=by omega
   gi_wp2;iterate 12 (try (refine ⟨(fun _ h=>by cases h),?_⟩;gi_wp2))
   gi_loopw [5,6] (fun b m w'=>∃ bn mn:Nat,w'=wr∧b=.int .i64 bn∧m=.int .i64 mn∧mn≤k∧bn+popN mn=popN k∧bn≤k) (fun _ m _=>(intOf m).toNat)
   case atStart=>exact ⟨0,k,rfl,rfl,rfl,Nat.le_refl _,by omega,Nat.zero_le _⟩
   case round=>
    obtain ⟨bn,mn,rfl,rfl,rfl,hmn,hpop,hbn⟩:=hrel
    by_cases h0:0<mn
    ·have hd:(0:Int)<mn:=by omega
     have ha:bits .and .i64 (mn:Int) ((mn:Int)-1)=((mn &&& (mn-1):Nat):Int):=by
      rw[←zlE mn (mn-1) (by omega) (by omega),show ((mn:Int)-1)=((mn-1:Nat):Int) by omega]
     have hstep:=znT h0
     have hlt2:=zel h0
     generalize mn &&& (mn-1)=mm at *
     have hb2:bn+1≤k:=by
      have:popN k≤k:=by
       have:∀ f m,popF f m≤f:=fun f=>by
        induction f with
        |zero=>exact fun m=>Nat.le_refl _
        |succ f ih=>
         intro m
         unfold popF
         split
         ·omega
         ·exact Nat.succ_le_succ (ih _)
       exact this k k
      omega
     gi_wp2;iterate 12 (try (refine ⟨(fun _ h=>by cases h),?_⟩;gi_wp2))
     go_roundw
     case rel=>exact ⟨bn+1,mm,trivial,by go_num,rfl,by omega,by omega,hb2⟩
     case measure=>simp[intOf];omega
    ·obtain rfl:mn=0:=by omega
     have hq:bn=popN k:=by rw[znU] at hpop;omega
     subst hq
     have hle2:=zik many (k+1) T (by omega)
     have hsn:=zgU many k
     by_cases hc:popN k=many
     ·rw[if_pos hc] at hsn
      have hq1:(((popN k:Nat):Int)==((many:Nat):Int))=true:=by simp[hc]
      have hl:(zbB many k).length<(zbB many (2^n)).length:=by
       rw[←HT.out]
       rw[hsn] at hle2
       simp at hle2
       omega
      obtain ⟨fn,tmps,assign,body,hy,hR⟩:=HY.out _ k wr hJs hl
      unfold encM at hy
      have Hsn:=Lib.hid hsn
      clear hsn hc hl
      generalize popN k=pk at *
      gi_wp2;iterate 12 (try (refine ⟨(fun _ h=>by cases h),?_⟩;gi_wp2))
      refine hR.mono ?_
      rintro e W3 (⟨rfl,hJ3,hk3⟩|⟨rfl,hJx3⟩)
      ·skip
       gi_wp2;iterate 12 (try (refine ⟨(fun _ h=>by cases h),?_⟩;gi_wp2))
       go_roundw
       case rel=>exact ⟨k+1,by go_num,by omega,by rw[Hsn.out];exact hJ3,hkeep.trans hk3⟩
       case measure=>simp[intOf];omega
      ·skip
       gi_wp2;iterate 12 (try (refine ⟨(fun _ h=>by cases h),?_⟩;gi_wp2))
       refine bodyPost_ret (results_none rfl _ _ _) rfl ?_
       exact ⟨⟨_,rfl⟩,.inr ⟨_,⟨k+1,Hsn.out.symm⟩,hJx3⟩⟩
     ·rw[if_neg hc] at hsn
      have hq1:(((popN k:Nat):Int)==((many:Nat):Int))=false:=by simp;omega
      have Hsn:=Lib.hid hsn
      clear hsn hc
      generalize popN k=pk at *
      gi_wp2;iterate 12 (try (refine ⟨(fun _ h=>by cases h),?_⟩;gi_wp2))
      go_roundw
      case rel=>exact ⟨k+1,by go_num,by omega,by rw[Hsn.out];exact hJs,hkeep⟩
      case measure=>simp[intOf];omega
  ·obtain rfl:k=T:=by omega
   have hlt':¬ ((k:Int)<k):=by omega
   gi_wp2;iterate 12 (try (refine ⟨(fun _ h=>by cases h),?_⟩;gi_wp2))
   go_end0
   exact ⟨⟨_,rfl⟩,.inl (by rw[←HT.out];exact hJs)⟩
end Go.Proofs.YtdkfkalplmgoeaaGreat
namespace Go.Proofs.YtdkfkalplmgoeaaGreat
open Go.RowKit Go.Shelf
set_option maxRecDepth 100000
set_option maxHeartbeats 16000000
set_option linter.unusedSimpArgs false
@[go_sem high] theorem zqx {P:Program} (w:World) (ts:Array TypeId) (t:TypeId) (k k':IntKind) (x y:Int):(Builtin.max_ ts t #[.int k x,.int k' y]).run P w=.ok (.int k (imax x y)) w:=by
 have e:(if y > x then y else x)=imax x y:=by
  unfold imax
  repeat' split
  all_goals first|rfl|omega
 simp[Builtin.max_,Builtin.max2,e]
@[go_sem high] theorem zqy {P:Program} (w:World) (ts:Array TypeId) (t:TypeId) (k k':IntKind) (x y:Int):(Builtin.min_ ts t #[.int k x,.int k' y]).run P w=.ok (.int k (imin x y)) w:=by
 have e:(if y<x then y else x)=imin x y:=by
  unfold imin
  repeat' split
  all_goals first|rfl|omega
 simp[Builtin.min_,Builtin.min2,e]
@[go_sem] theorem zqi (a b:Int):min a b=imin a b:=by
 rw[Int.min_def]
 unfold imin
 repeat' split
 all_goals first|rfl|omega
@[go_sem] theorem zqh (a b:Int):max a b=imax a b:=by
 rw[Int.max_def]
 unfold imax
 repeat' split
 all_goals first|rfl|omega
def znR:List Value→Nat→List Value→List Value
 |l,_,[]=>l
 |l,o,v::r=>znR (l.set o v) (o+1) r
theorem zfe (b:Nat) (t:TypeId):∀ (vs l:List Value) (o:Nat) (w:World),RowIs w b t l→RowIs (w.setCells b o vs) b t (znR l o vs)
 |[],_,_,_,h=>h
 |v::r,l,o,w,h=>by
  have h1:RowIs (w.setCell ⟨b,o,none⟩ v) b t (l.set o v):=zeP w o v b t l (h:=h)
  exact zfe b t r _ (o+1) _ h1
theorem zjc {u v w:World} {r:Option Nat} (h:u.grownBy v r) (k:v.grownBy w r):u.grownBy w r:=
 ⟨k.os.trans h.os,k.tape.trans h.tape,k.output.trans h.output,Nat.le_trans h.size k.size,fun i hi hne=>(k.block i (Nat.lt_of_lt_of_le hi h.size) hne).trans (h.block i hi hne)⟩
theorem zig (W:World) (b o:Nat) (v:Value):W.grownBy (W.setCell ⟨b,o,none⟩ v) (some b):=
 ⟨rfl,rfl,rfl,by simp[World.setCell],fun k _ hk=>Below.heap_setCell _ _ _ _ (fun e=>hk (by rw[e]))⟩
theorem zcC (b:Nat):∀ (vs:List Value) (o:Nat) (w:World),w.grownBy (w.setCells b o vs) (some b)
 |[],_,w=>World.grownBy.refl w _
 |v::r,o,w=>zjc (zig w b o v) (zcC b r (o+1) _)
theorem znB (a b:Bx):(.agg #[.int .i64 (zao a b).x.lo,.int .i64 (zao a b).x.hi,.int .i64 (zao a b).y.lo,.int .i64 (zao a b).y.hi,.int .i64 (zao a b).z.lo,.int .i64 (zao a b).z.hi]:Value)=.agg #[.int .i64 (imin a.x.lo b.x.lo),.int .i64 (imax a.x.hi b.x.hi),.int .i64 (imin a.y.lo b.y.lo),.int .i64 (imax a.y.hi b.y.hi),.int .i64 (imin a.z.lo b.z.lo),.int .i64 (imax a.z.hi b.z.hi)]:=rfl
theorem zfi {P:Program} {id:Nat} {Q:Exit→Act→World→Prop} {a:Act} {w:World} {l:List Oper} (n:Nat) (hm:P.follows .mixedOrders=true) (hB:Region.lexTailB .any l.toArray n=true)
 (h:∀ Y,Y=w.drew→wpStill P l.toArray Y (fun a'=>wpList P l.toArray Q (l.drop n) a' Y) (l.take n) a):(Code.region id l.toArray true).wp P Q a w:=wp_region_still_tail n hm hB (h _ rfl)
theorem zgc (a b:Bx) (w:World):Calls Tryz.prog 20 #[.agg #[.int .i64 a.x.lo,.int .i64 a.x.hi,.int .i64 a.y.lo,.int .i64 a.y.hi,.int .i64 a.z.lo,.int .i64 a.z.hi],.agg #[.int .i64 b.x.lo,.int .i64 b.x.hi,.int .i64 b.y.lo,.int .i64 b.y.hi,.int .i64 b.z.lo,.int .i64 b.z.hi]] w fun e w'=>e=.returned (.agg #[.int .i64 (zao a b).x.lo,.int .i64 (zao a b).x.hi,.int .i64 (zao a b).y.lo,.int .i64 (zao a b).y.hi,.int .i64 (zao a b).z.lo,.int .i64 (zao a b).z.hi])∧Grew w w':=by
 rw[znB]
 go_enter Tryz.func20,Tryz.ntmps20
 go_wp2
 refine wp_loop_rounds 4 ?_
 rw[rounds_succ]
 go_wp2
 refine zfi 21 (by kernel_rfl) (by kernel_rfl) ?_
 intro Y hY
 have h1:Y.cell? ⟨w.heap.size,0,none⟩=some (.int .i64 a.x.lo):=by rw[hY];go_simp
 have h2:Y.cell? ⟨w.heap.size,1,none⟩=some (.int .i64 a.x.hi):=by rw[hY];go_simp
 have h3:Y.cell? ⟨w.heap.size+1,0,none⟩=some (.int .i64 b.x.lo):=by rw[hY];go_simp
 have h4:Y.cell? ⟨w.heap.size+1,1,none⟩=some (.int .i64 b.x.hi):=by rw[hY];go_simp
 simp only[List.take_succ_cons,List.take_zero,List.drop_succ_cons,List.drop_zero]
 repeat still_step
 refine wpStill_nil ?_
 subst hY
 clear h1 h2 h3 h4
 go_wp2
 rw[rounds_succ]
 go_wp2
 refine zfi 21 (by kernel_rfl) (by kernel_rfl) ?_
 intro Y hY
 have h1:Y.cell? ⟨w.heap.size,2,none⟩=some (.int .i64 a.y.lo):=by rw[hY];go_simp
 have h2:Y.cell? ⟨w.heap.size,3,none⟩=some (.int .i64 a.y.hi):=by rw[hY];go_simp
 have h3:Y.cell? ⟨w.heap.size+1,2,none⟩=some (.int .i64 b.y.lo):=by rw[hY];go_simp
 have h4:Y.cell? ⟨w.heap.size+1,3,none⟩=some (.int .i64 b.y.hi):=by rw[hY];go_simp
 simp only[List.take_succ_cons,List.take_zero,List.drop_succ_cons,List.drop_zero]
 repeat still_step
 refine wpStill_nil ?_
 subst hY
 clear h1 h2 h3 h4
 go_wp2
 rw[rounds_succ]
 go_wp2
 refine zfi 21 (by kernel_rfl) (by kernel_rfl) ?_
 intro Y hY
 have h1:Y.cell? ⟨w.heap.size,4,none⟩=some (.int .i64 a.z.lo):=by rw[hY];go_simp
 have h2:Y.cell? ⟨w.heap.size,5,none⟩=some (.int .i64 a.z.hi):=by rw[hY];go_simp
 have h3:Y.cell? ⟨w.heap.size+1,4,none⟩=some (.int .i64 b.z.lo):=by rw[hY];go_simp
 have h4:Y.cell? ⟨w.heap.size+1,5,none⟩=some (.int .i64 b.z.hi):=by rw[hY];go_simp
 simp only[List.take_succ_cons,List.take_zero,List.drop_succ_cons,List.drop_zero]
 repeat still_step
 refine wpStill_nil ?_
 subst hY
 clear h1 h2 h3 h4
 go_wp2
 rw[rounds_succ]
 go_wp2
 refine bodyPost_ret (zmI Tryz.results20 rfl inferInstance inferInstance inferInstance) rfl ?_
 exact ⟨rfl,gw⟩
theorem zgD (n many:Nat) (w:World) :
 Calls Tryz.prog 18 #[.int .i64 n,.int .i64 many] w fun e w'=>e=.returned (.func (.func 36) #[] #[.pointer (some ⟨w.heap.size,0,none⟩),.pointer (some ⟨w.heap.size+1,0,none⟩)])∧w'=(w.alloc (.cells #[.int .i64 n] 3)).alloc (.cells #[.int .i64 many] 3):=by
 go_enter Tryz.func18,Tryz.ntmps18
 go_wp2
 go_ret
 exact ⟨rfl,rfl⟩
theorem zhe (N:Nat) (hn:1≤N) (Bn Bm n many:Nat) (h16:n≤16) (w:World) (hA:w.cell? ⟨Bn,0,none⟩=some (.int .i64 n)) (hB:w.cell? ⟨Bm,0,none⟩=some (.int .i64 many)) :
 SeqStopsK Fence.wide N Tryz.prog 36 #[.pointer (some ⟨Bn,0,none⟩),.pointer (some ⟨Bm,0,none⟩)] encM (KeepTwo Bn Bm) (fun ys=>ys=zbB many (2^n)) (fun pre=>∃ k,pre=zbB many k) (zbB many (2^n)).length w:=by
 intro l J Jx W hW _ _ hY h0
 have bA:=World.block_lt_of_cell? w _ hA
 have bB:=World.block_lt_of_cell? w _ hB
 have k0:=(hW.cell (p:=⟨Bn,0,none⟩) bA).trans hA
 have k1:=(hW.cell (p:=⟨Bm,0,none⟩) bB).trans hB
 exact zkw N hn l Bn Bm n many h16 J Jx hY W k0 k1 h0
section
variable {ops:Array Oper} {o:Oper} {a:Act} {w:World} {K:Act→World→Prop} {Q:Exit→Act→World→Prop} {E:Prop}
theorem zdy (ty:TypeId) (x:Operand) {b p n:Nat} {cs:List Value} (ho:o.op=.load ty x) (hx:a.eval x=.pointer (some ⟨b,p,none⟩)) [hs:StructTy ty n] [hr:RangeIs w b p n cs]:(execOp a.eval o).run Tryz.prog w=.ok (.value (.agg cs.toArray)) w:=by
 have h:=zkJ w b p n ty cs
 unfold execOp
 rw[ho]
 simp[hx,h]
theorem zhS (hgd:o.guard=none) (ty:TypeId) (x:Operand) (ho:o.op=.load ty x) {b p n:Nat} {cs:List Value} (hx:a.eval x=.pointer (some ⟨b,p,none⟩)) [hs:StructTy ty n] [hr:RangeIs w b p n cs] (k:K (a.put o.dst (.agg cs.toArray)) w):if Region.wanted o (yielded ops a.tmps)=true then Oper.wp Tryz.prog o a w K Q else E:=by
 have hw:Region.wanted o (yielded ops a.tmps)=true:=by simp[Region.wanted,hgd]
 rw[if_pos hw]
 obtain ⟨⟨d,hd1,hd2⟩,hz⟩:=hs
 exact wp_load_mid ty x ho b p hx cs d hr.is hd1 (by cases d<;>first|rfl|cases hd2) (by rw[hz,hr.len]) k
theorem zej (hgd:o.guard=none) (hd:o.dst=none) (ty:TypeId) (x y:Operand) (ho:o.op=.store ty x y) {b p:Nat} {t:TypeId} {l cs:List Value} (hx:a.eval x=.pointer (some ⟨b,p,none⟩)) (hy:a.eval y=.agg cs.toArray) [hr:RowIs w b t l] (hi:(Tryz.prog.info? ty).map (·.size)=some cs.length) (h1:cs.all (·.oneCell')=true) (hp:p+cs.length≤l.length) (k:K a (w.setCells b p cs)):if Region.wanted o (yielded ops a.tmps)=true then Oper.wp Tryz.prog o a w K Q else E:=by
 have hw:Region.wanted o (yielded ops a.tmps)=true:=by simp[Region.wanted,hgd]
 rw[if_pos hw]
 refine wp_store_mid ty x y ho b p cs.toArray hx hy (fun j hj=>⟨?_,zid w b _ _ _⟩) (by simpa using hi) (all_oneCell_toArray (List.all_eq_true.1 h1)) ?_
 ·have hj2:j<cs.length:=by simpa using hj
  rw[zd2,List.getElem?_eq_getElem (by omega)]
  rfl
 ·rw[hd]
  exact k
end
def zh2 (r:ResT) (w:World) (e:Ending) (w':World):Prop:=e=.returned (.tuple #[.agg r.s.cells.toArray,.int .i64 r.e])∧Grew w w'
theorem zfs {s:State} {e:Int} {r:ResT} (h:r=⟨s,e⟩):Ending.returned (.tuple #[.agg s.cells.toArray,.int .i64 e])=.returned (.tuple #[.agg r.s.cells.toArray,.int .i64 r.e]):=by subst h;rfl
section
variable (s:State) (l:List Radio) (n:Int) (ao:Option Addr) (cap:Nat) (w:World) (hs:SlAt w (.slice ao l.length cap) l.length (l.flatMap Radio.cells))
include hs
theorem zis (wrong:Int) (hE:zaQ s l n≠0):Calls Tryz.prog 5 #[.agg s.cells.toArray,.slice ao l.length cap,.int .i64 wrong,.int .i64 n] w (zh2 (zb8 s l wrong n) w):=by
 have HR:=Lib.hid (show zb8 s l wrong n=errT (zaQ s l n) by unfold zb8;rw[if_neg hE])
 have HC:=Lib.hid (fun w' (g:Grew w w')=>show Calls Tryz.prog 17 #[.agg s.cells.toArray,.slice ao l.length cap,.int .i64 n] w' (fun e w''=>e=.returned (.int .i64 (zaQ s l n))∧Grew w' w'') from zb3 s l n ao cap w' (hs.grew g))
 have t0:(zaQ s l n != 0)=true:=by simp[hE]
 clear hE hs
 generalize zb8 s l wrong n=R at *
 generalize zaQ s l n=E at *
 go_enter Tryz.func5,Tryz.ntmps5
 go_wp2_with (first|(go_at_call 17;(with_reducible refine zaa (HC.out _ gw) ?_);intro u)|(with_reducible refine wLi ?_)|(with_reducible refine wSf ?_)|(with_reducible refine wSi ?_)|((with_reducible refine zac ?_ ?_ ?_);(· kernel_rfl);(· kernel_rfl);(try simp only[List.append_eq,List.cons_append,List.nil_append]);(repeat (go_big_quiet_step ((first|(go_at_call 17;(with_reducible exact zad (HC.out _ gw)))))));refine wpQuiet_nil ?_;rintro _ ⟨u,rfl⟩))
 refine bodyPost_ret (zdV Tryz.results5 rfl rfl inferInstance inferInstance inferInstance) rfl ?_
 exact ⟨zfs HR.out,gwr⟩
theorem zgE (wrong:Int) (hE:zaQ s l n=0) (hw:wrong<0∨2<wrong∨(l.length:Int)<wrong):Calls Tryz.prog 5 #[.agg s.cells.toArray,.slice ao l.length cap,.int .i64 wrong,.int .i64 n] w (zh2 (zb8 s l wrong n) w):=by
 have HR:=Lib.hid (show zb8 s l wrong n=errT 2 by unfold zb8;rw[if_pos hE,if_pos hw])
 have HC:=Lib.hid (fun w' (g:Grew w w')=>show Calls Tryz.prog 17 #[.agg s.cells.toArray,.slice ao l.length cap,.int .i64 n] w' (fun e w''=>e=.returned (.int .i64 0)∧Grew w' w'') from zaH hE (zb3 s l n ao cap w' (hs.grew g)))
 clear hE hs
 generalize zb8 s l wrong n=R at *
 rcases (show wrong<0∨(¬ wrong<0∧2<wrong)∨(¬ wrong<0∧¬ 2<wrong∧(l.length:Int)<wrong) by omega) with c|⟨c,c2⟩|⟨c,c2,c3⟩
 all_goals
  clear hw
  go_enter Tryz.func5,Tryz.ntmps5
  go_wp2_with (first|(go_at_call 17;(with_reducible refine zaa (HC.out _ gw) ?_);intro u)|(with_reducible refine wLi ?_)|(with_reducible refine wSf ?_)|(with_reducible refine wSi ?_)|((with_reducible refine zac ?_ ?_ ?_);(· kernel_rfl);(· kernel_rfl);(try simp only[List.append_eq,List.cons_append,List.nil_append]);(repeat (go_big_quiet_step ((first|(go_at_call 17;(with_reducible exact zad (HC.out _ gw)))))));refine wpQuiet_nil ?_;rintro _ ⟨u,rfl⟩))
  refine bodyPost_ret (zdV Tryz.results5 rfl rfl inferInstance inferInstance inferInstance) rfl ?_
  exact ⟨zfs HR.out,gwr⟩
end
end Go.Proofs.YtdkfkalplmgoeaaGreat
