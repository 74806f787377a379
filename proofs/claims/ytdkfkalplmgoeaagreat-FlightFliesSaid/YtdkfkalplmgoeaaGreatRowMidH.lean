/-
  Joined: Whole, RowMid.
-/
import Derived.Test.YtdkfkalplmgoeaaGreatCoreH
import Derived.Deep.WholeRow
import Derived.Laws.CopyOwn
import Derived.Test.YtdkfkalplmgoeaaGreatChecksH
import Derived.Laws.Rows
import Derived.Deep.MidRow
import Derived.Great.Walk
namespace Go.Proofs.YtdkfkalplmgoeaaGreat
open Go.RowKit
class RowOf (w:World) (b:Nat) (t:outParam TypeId) (n:outParam Nat):Prop where
 is:∃ cur:Array Value,w.heap[b]?=some (.cells cur t (0,0))∧cur.size=n
class OneCells (l:List Value) (n:outParam Nat):Prop where
 len:l.length=n
 one:∀ v∈l,v.oneCell'=true
instance zq4:OneCells [] 0:=⟨rfl,by simp⟩
instance zq3 (k:IntKind) (a:Int) (l:List Value) (n:Nat) [h:OneCells l n]:OneCells (.int k a::l) (n+1):=⟨by simp[h.len],by intro v hv;rcases List.mem_cons.1 hv with rfl|hv;rfl;exact h.one v hv⟩
instance zqa (a:Bool) (l:List Value) (n:Nat) [h:OneCells l n]:OneCells (.bool a::l) (n+1):=⟨by simp[h.len],by intro v hv;rcases List.mem_cons.1 hv with rfl|hv;rfl;exact h.one v hv⟩
instance zpq (a:Option Addr) (p q:Nat) (l:List Value) (n:Nat) [h:OneCells l n]:OneCells (.slice a p q::l) (n+1):=⟨by simp[h.len],by intro v hv;rcases List.mem_cons.1 hv with rfl|hv;rfl;exact h.one v hv⟩
instance zuu (w:World) (l:List Value) (t:TypeId) (m n:Nat) [h:SizeAt w m] [k:OneCells l n]:RowOf (w.alloc (.cells l.toArray t)) m t n:=by
 obtain rfl:=h.eq
 exact ⟨_,heap_alloc_last w _,by simp[k.len]⟩
instance zsr (w:World) (o:Obj) (b:Nat) (t:TypeId) (n:Nat) [h:RowOf w b t n]:RowOf (w.alloc o) b t n:=by
 obtain ⟨cur,h1,h2⟩:=h.is
 exact ⟨cur,(Below.heap_alloc _ _ _ (Array.getElem?_eq_some_iff.1 h1).1).trans h1,h2⟩
instance ztm (w:World) (b:Nat) (t:TypeId) (n:Nat) [h:RowOf w b t n]:RowOf w.drew b t n:=⟨h.is⟩
instance zss (w:World) (u:Later w) (b:Nat) (t:TypeId) (n:Nat) [h:RowOf w b t n]:RowOf u.world b t n:=by
 obtain ⟨cur,h1,h2⟩:=h.is
 exact ⟨cur,(u.grew.block b (Array.getElem?_eq_some_iff.1 h1).1).trans h1,h2⟩
instance zqt (w:World) (c j:Nat) (v:Value) (b:Nat) (t:TypeId) (n:Nat) [h:RowOf w b t n]:RowOf (w.setCell ⟨c,j,none⟩ v) b t n:=by
 obtain ⟨cur,h1,h2⟩:=h.is
 by_cases e:b=c
 ·subst e
  exact ⟨cur.setIfInBounds j v,by unfold World.setCell;simp[Array.getElem?_modify,h1],by simp[h2]⟩
 ·exact ⟨cur,(Below.heap_setCell _ _ _ _ e).trans h1,h2⟩
instance zq8 (w:World) (c:Nat) (l:List Value) (b:Nat) (t:TypeId) (n:Nat) [h:RowOf w b t n] [k:Apart b c]:RowOf (w.setRow c l.toArray) b t n:=by
 obtain ⟨cur,h1,h2⟩:=h.is
 exact ⟨cur,(setRow_other w c b _ k.ne).trans h1,h2⟩
theorem zgy {P:Program} {w:World} {b:Nat} {t:TypeId} {n:Nat} {l:List Value} [h:RowOf w b t n] [hl:OneCells l n] (hi:(P.info? t).map (·.size)=some n) :
 (Instr.storeAt t (.pointer (some ⟨b,0,none⟩)) (.agg l.toArray)).run P w=.ok () (w.setRow b l.toArray):=by
 obtain ⟨cur,h1,h2⟩:=h.is
 simp only[Instr.storeAt,Instr.sureAddr,Sem.run_bind,Sem.run_pure,Result.andThen]
 exact run_storeVar_row w b t t cur l.toArray h1 (by rw[hi];simp[hl.len]) (by simp[h2,hl.len]) (by rw[Array.all_eq_true_iff_forall_mem];intro v hv;exact hl.one v (by simpa using hv))
@[go_sem] theorem zpm (w:World) (b i:Nat) (t:TypeId) (n:Nat) (l:List Value) [h:RowOf w b t n]:(w.setRow b l.toArray).cell? ⟨b,i,none⟩=l[i]?:=by
 obtain ⟨cur,h1,-⟩:=h.is
 rw[cell_setRow_same w b i cur _ t (0,0) h1]
 simp
@[go_sem] theorem zda (w:World) (c b i:Nat) (cs:Array Value) [h:Apart b c]:(w.setRow c cs).cell? ⟨b,i,none⟩=w.cell? ⟨b,i,none⟩:=cell_setRow_other w c cs _ h.ne
@[go_sem] theorem zkK (w:World) (c b i:Nat) (cs:Array Value) [h:Apart b c]:(w.setRow c cs).frozen? ⟨b,i,none⟩=w.frozen? ⟨b,i,none⟩:=World.frozen?_of_block (setRow_other w c b cs h.ne)
instance zqA (w:World) (c:Nat) (cs:Array Value) (n:Nat) [h:SizeAt w n]:SizeAt (w.setRow c cs) n:=⟨by simp[h.eq]⟩
instance zpl (w:World) (c:Nat) (cs:Array Value) (b:Nat) [h:BlockIn w b]:BlockIn (w.setRow c cs) b:=⟨by simpa using h.lt⟩
instance zpn (w:World) (c:Nat) (cs:Array Value) (b i:Nat) [h:HasCell w b i] [k:Apart b c]:HasCell (w.setRow c cs) b i:=by
 obtain ⟨v,hv⟩:=h.is
 exact ⟨v,by rw[zda,hv]⟩
theorem Grew.setRow {a w:World} (h:Grew a w) (b:Nat) (cs:Array Value) [hb:NewFor a b]:Grew a (w.setRow b cs):=below_setRow h hb.le cs
theorem gwr {a w:World} (h:Grew a w:=by repeat (first|with_reducible exact Grew.refl _|with_reducible apply Grew.alloc|with_reducible apply Grew.later|with_reducible apply Grew.drew|with_reducible apply Grew.setRow|with_reducible apply Grew.store|with_reducible assumption)):Grew a w:=h
end Go.Proofs.YtdkfkalplmgoeaaGreat
namespace Go.Proofs.YtdkfkalplmgoeaaGreat
open Go.RowKit
class RowIs (w:World) (b:Nat) (t:outParam TypeId) (l:outParam (List Value)):Prop where
 is:w.heap[b]?=some (.cells l.toArray t (0,0))
instance zhZ (w:World) (l:List Value) (t:TypeId) (m:Nat) [h:SizeAt w m]:RowIs (w.alloc (.cells l.toArray t)) m t l:=by
 obtain rfl:=h.eq
 exact ⟨heap_alloc_last w _⟩
instance zeW (w:World) (o:Obj) (b:Nat) (t:TypeId) (l:List Value) [h:RowIs w b t l]:RowIs (w.alloc o) b t l:=
 ⟨(Below.heap_alloc _ _ _ (Array.getElem?_eq_some_iff.1 h.is).1).trans h.is⟩
instance ztl (w:World) (b:Nat) (t:TypeId) (l:List Value) [h:RowIs w b t l]:RowIs w.drew b t l:=⟨h.is⟩
instance zsq (w:World) (u:Later w) (b:Nat) (t:TypeId) (l:List Value) [h:RowIs w b t l]:RowIs u.world b t l:=
 ⟨(u.grew.block b (Array.getElem?_eq_some_iff.1 h.is).1).trans h.is⟩
instance (priority:=low) rowIs_setCell_far (w:World) (c j:Nat) (v:Value) (b:Nat) (t:TypeId) (l:List Value) [h:RowIs w b t l] [k:Apart b c]:RowIs (w.setCell ⟨c,j,none⟩ v) b t l:=
 ⟨(Below.heap_setCell _ _ _ _ k.ne).trans h.is⟩
instance zdB (w:World) (j:Nat) (v:Value) (b:Nat) (t:TypeId) (l:List Value) [h:RowIs w b t l]:RowIs (w.setCell ⟨b,j,none⟩ v) b t (l.set j v):=
 ⟨by unfold World.setCell;simp[Array.getElem?_modify,h.is]⟩
instance zbJ (w:World) (c:Nat) (l':List Value) (b:Nat) (t:TypeId) (l:List Value) [h:RowIs w b t l] [k:Apart b c]:RowIs (w.setRow c l'.toArray) b t l:=
 ⟨(setRow_other w c b _ k.ne).trans h.is⟩
instance zcO (w:World) (b:Nat) (t:TypeId) (n:Nat) (l:List Value) [h:RowOf w b t n]:RowIs (w.setRow b l.toArray) b t l:=by
 obtain ⟨cur,h1,-⟩:=h.is
 exact ⟨setRow_heap w b cur _ t (0,0) h1⟩
theorem RowIs.grew {a w:World} {b:Nat} {t:TypeId} {l:List Value} (h:RowIs a b t l) (g:Grew a w):RowIs w b t l:=
 ⟨(g.block b (Array.getElem?_eq_some_iff.1 h.is).1).trans h.is⟩
theorem RowIs.lt {w:World} {b:Nat} {t:TypeId} {l:List Value} (h:RowIs w b t l):b<w.heap.size:=(Array.getElem?_eq_some_iff.1 h.is).1
theorem RowIs.blockIn {w:World} {b:Nat} {t:TypeId} {l:List Value} (h:RowIs w b t l):BlockIn w b:=⟨h.lt⟩
@[go_sem] theorem zem (w:World) (b i:Nat) (t:TypeId) (l:List Value) [h:RowIs w b t l]:w.cell? ⟨b,i,none⟩=l[i]?:=by
 rw[cell_of_row w b i _ _ _ h.is]
 simp
@[go_sem] theorem zd3 (w:World) (b i:Nat) (t:TypeId) (l:List Value) [h:RowIs w b t l]:w.frozen? ⟨b,i,none⟩=false:=frozen_of_row w b i _ _ h.is
class StructTy (t:TypeId) (n:outParam Nat):Prop where
 und:∃ d,Tryz.prog.underlying t=some d∧(match d with | .struct _ | .array _ _=>true|_=>false)=true
 sz:(Tryz.prog.info? t).map (·.size)=some n
instance:StructTy 24 2:=⟨⟨_,Tryz.underlying24,rfl⟩,by kernel_rfl⟩
instance:StructTy 26 6:=⟨⟨_,Tryz.underlying26,rfl⟩,by kernel_rfl⟩
theorem zet {w:World} {b:Nat} {ty t:TypeId} {n:Nat} {l:List Value} (hs:StructTy ty n) (hr:RowIs w b t l) (hl:l.length=n):(loadVar ty ⟨b,0,none⟩).run Tryz.prog w=.ok (.agg l.toArray) w:=by
 obtain ⟨⟨d,hd1,hd2⟩,hz⟩:=hs
 cases d<;>first|exact run_loadVar_row w b t ty _ _ _ hr.is hd1 rfl (by rw[hz,←hl];simp)|cases hd2
section
variable {ops:Array Oper} {rest:List Oper} {o:Oper} {a:Act} {w:World} {Q:Exit→Act→World→Prop}
theorem zij (ty:TypeId) (x:Operand) (b n:Nat) (t:TypeId) (l:List Value) (hg:o.guard=none) (ho:o.op=.load ty x) (hx:a.eval x=.pointer (some ⟨b,0,none⟩)) (hs:StructTy ty n) (hr:RowIs w b t l) (hl:l.length=n)
 (k:wpList Tryz.prog ops Q rest (a.put o.dst (.agg l.toArray)) w):wpList Tryz.prog ops Q (o::rest) a w:=by
 obtain ⟨⟨d,hd1,hd2⟩,hz⟩:=hs
 cases d<;>first|exact wpList_load_row hg ty x ho b hx t _ _ _ hr.is hd1 rfl (by rw[hz,←hl];simp) k|cases hd2
theorem zgA (ty:TypeId) (x y:Operand) (m n:Nat) (l l':List Value) (hg:o.guard=none) (hd:o.dst=none) (ho:o.op=.store ty x y) (hx:a.eval x=.pointer (some ⟨m,0,none⟩)) (hy:a.eval y=.agg l.toArray)
 (hs:StructTy ty n) (hz:SizeAt w m) (hl:OneCells l n) (hl':OneCells l' n) (k:wpList Tryz.prog ops Q rest a (w.alloc (.cells l.toArray ty))):wpList Tryz.prog ops Q (o::rest) a (w.alloc (.cells l'.toArray ty)):=by
 obtain rfl:=hz.eq
 refine wpList_store_row hg _ x y ho w.heap.size l.toArray hx hy ty l'.toArray (heap_alloc_last w _) (by rw[hs.sz];simp[hl.len]) (by simp[hl.len,hl'.len]) (by rw[Array.all_eq_true_iff_forall_mem];intro v hv;exact hl.one v (by simpa using hv)) ?_
 rw[hd,World.setRow_alloc_new]
 exact k
theorem zif (ty:TypeId) (x y:Operand) (b n:Nat) (l l':List Value) (hg:o.guard=none) (hd:o.dst=none) (ho:o.op=.store ty x y) (hx:a.eval x=.pointer (some ⟨b,0,none⟩)) (hy:a.eval y=.agg l.toArray)
 (hs:StructTy ty n) (hr:RowIs w b ty l') (hl:OneCells l n) (hl':OneCells l' n) (k:wpList Tryz.prog ops Q rest a (w.setRow b l.toArray)):wpList Tryz.prog ops Q (o::rest) a w:=by
 refine wpList_store_row hg _ x y ho b l.toArray hx hy ty l'.toArray hr.is (by rw[hs.sz];simp[hl.len]) (by simp[hl.len,hl'.len]) (by rw[Array.all_eq_true_iff_forall_mem];intro v hv;exact hl.one v (by simpa using hv)) ?_
 rw[hd]
 exact k
end
end Go.Proofs.YtdkfkalplmgoeaaGreat
namespace Go.Proofs.YtdkfkalplmgoeaaGreat
open Go.RowKit
set_option maxRecDepth 100000
class Sub (l:List Value) (o n:Nat) (cs:outParam (List Value)):Prop where
 is:(l.drop o).take n=cs
instance zvY (l:List Value):Sub l 0 0 []:=⟨by simp⟩
instance zvh (v:Value) (l:List Value) (n:Nat) (cs:List Value) [h:Sub l 0 n cs]:Sub (v::l) 0 (n+1) (v::cs):=⟨by have:=h.is;simp at this;simp[this]⟩
instance (priority:=high) sub_drop (v:Value) (l:List Value) (o n:Nat) (cs:List Value) [h:Sub l o n cs]:Sub (v::l) (o+1) n cs:=⟨by simpa using h.is⟩
class CLen (l:List Value) (n:outParam Nat):Prop where
 len:l.length=n
instance zu4:CLen [] 0:=⟨rfl⟩
instance ztx (v:Value) (l:List Value) (n:Nat) [h:CLen l n]:CLen (v::l) (n+1):=⟨by simp[h.len]⟩
class RangeIs (w:World) (b o n:Nat) (cs:outParam (List Value)):Prop where
 is:w.rangeAt b o cs
 len:cs.length=n
instance zse (w:World) (b o n:Nat) (t:TypeId) (l cs:List Value) [h:RowIs w b t l] [k:Sub l o n cs] [hn:CLen cs n]:RangeIs w b o n cs where
 is:=fun j v hv=>by
  rw[zem,←hv,←k.is,List.getElem?_take]
  split
  ·rw[List.getElem?_drop]
  ·rename_i hj
   rw[←k.is] at hv
   rw[List.getElem?_take,if_neg hj] at hv
   cases hv
 len:=hn.len
instance zqi (w:World) (ob:Obj) (b o n:Nat) (cs:List Value) [h:RangeIs w b o n cs]:RangeIs (w.alloc ob) b o n cs where
 is:=fun j v hv=>by rw[World.cell?_alloc_lt _ _ _ (World.block_lt_of_cell? w _ (h.is j v hv)),h.is j v hv]
 len:=h.len
instance zq6 (w:World) (b o n:Nat) (cs:List Value) [h:RangeIs w b o n cs]:RangeIs w.drew b o n cs:=⟨h.is,h.len⟩
instance zqj (w:World) (u:Later w) (b o n:Nat) (cs:List Value) [h:RangeIs w b o n cs]:RangeIs u.world b o n cs:=⟨fun j v hv=>u.grew.cell (h.is j v hv),h.len⟩
instance zoT (w:World) (c i:Nat) (x:Value) (b o n:Nat) (cs:List Value) [h:RangeIs w b o n cs] [k:Apart b c]:RangeIs (w.setCell ⟨c,i,none⟩ x) b o n cs where
 is:=fun j v hv=>by rw[zbL,h.is j v hv]
 len:=h.len
instance zpr (w:World) (c:Nat) (l:Array Value) (b o n:Nat) (cs:List Value) [h:RangeIs w b o n cs] [k:Apart b c]:RangeIs (w.setRow c l) b o n cs where
 is:=fun j v hv=>by rw[zda,h.is j v hv]
 len:=h.len
theorem RangeIs.grew {a w:World} {b o n:Nat} {cs:List Value} (h:RangeIs a b o n cs) (g:Grew a w):RangeIs w b o n cs:=⟨fun j v hv=>g.cell (h.is j v hv),h.len⟩
instance:StructTy 28 15:=⟨⟨_,Tryz.underlying28,rfl⟩,by kernel_rfl⟩
instance:StructTy 81 16:=⟨⟨_,Tryz.underlying81,rfl⟩,by kernel_rfl⟩
class Built (t:TypeId) (l:List (Nat × Value)) (cs:outParam (List Value)):Prop where
 is:Tryz.prog.built t l=some cs.toArray
section
variable {ops:Array Oper} {rest:List Oper} {o:Oper} {a:Act} {w:World} {Q:Exit→Act→World→Prop}
theorem zie (ty:TypeId) (x:Operand) (b p n:Nat) (cs:List Value) (hg:o.guard=none) (ho:o.op=.load ty x) (hx:a.eval x=.pointer (some ⟨b,p,none⟩)) (hs:StructTy ty n) (hr:RangeIs w b p n cs)
 (k:wpList Tryz.prog ops Q rest (a.put o.dst (.agg cs.toArray)) w):wpList Tryz.prog ops Q (o::rest) a w:=by
 obtain ⟨⟨d,hd1,hd2⟩,hz⟩:=hs
 exact wpList_load_mid hg ty x ho b p hx cs d hr.is hd1 (by cases d<;>first|rfl|cases hd2) (by rw[hz,hr.len]) k
theorem zfv (t:TypeId) (parts:Array (Nat × Operand)) (l:List (Nat × Value)) (cs:List Value) (hg:o.guard=none) (ho:o.op=.build t parts) (hl:(parts.map fun p=>(p.1,a.eval p.2)).toList=l) (hb:Built t l cs)
 (k:wpList Tryz.prog ops Q rest (a.put o.dst (.agg cs.toArray)) w):wpList Tryz.prog ops Q (o::rest) a w:=by
 have e:Tryz.prog.built t (parts.map fun p=>(p.1,a.eval p.2)).toList=some cs.toArray:=by rw[hl];exact hb.is
 exact wpList_build hg _ _ ho (by rw[e];rfl) (by rw[e];exact k)
end
section
variable {ops:Array Oper} {rest:List Oper} {o:Oper} {a:Act} {Q:Exit→Act→World→Prop} {w:World}
theorem wLi {ty:TypeId} {x:Operand} {b n:Nat} {t:TypeId} {l:List Value} (k:wpList Tryz.prog ops Q rest (a.put o.dst (.agg l.toArray)) w) (hg:o.guard=none:=by with_unfolding_all rfl) (ho:o.op=.load ty x:=by with_unfolding_all rfl) (hx:a.eval x=.pointer (some ⟨b,0,none⟩):=by with_unfolding_all rfl) (hs:StructTy ty n:=by infer_instance) (hr:RowIs w b t l:=by infer_instance) (hl:l.length=n:=by with_unfolding_all rfl):wpList Tryz.prog ops Q (o::rest) a w:=zij _ _ _ _ _ _ hg ho hx hs hr hl k
theorem wLr {ty:TypeId} {x:Operand} {b p n:Nat} {cs:List Value} (k:wpList Tryz.prog ops Q rest (a.put o.dst (.agg cs.toArray)) w) (hg:o.guard=none:=by with_unfolding_all rfl) (ho:o.op=.load ty x:=by with_unfolding_all rfl) (hx:a.eval x=.pointer (some ⟨b,p,none⟩):=by with_unfolding_all rfl) (hs:StructTy ty n:=by infer_instance) (hr:RangeIs w b p n cs:=by infer_instance):wpList Tryz.prog ops Q (o::rest) a w:=zie _ _ _ _ _ _ hg ho hx hs hr k
theorem wSf {ty:TypeId} {x y:Operand} {m n:Nat} {l l':List Value} (k:wpList Tryz.prog ops Q rest a (w.alloc (.cells l.toArray ty))) (hg:o.guard=none:=by with_unfolding_all rfl) (hd:o.dst=none:=by with_unfolding_all rfl) (ho:o.op=.store ty x y:=by with_unfolding_all rfl) (hx:a.eval x=.pointer (some ⟨m,0,none⟩):=by with_unfolding_all rfl) (hy:a.eval y=.agg l.toArray:=by with_unfolding_all rfl) (hs:StructTy ty n:=by infer_instance) (hz:SizeAt w m:=by infer_instance) (hl:OneCells l n:=by infer_instance) (hl':OneCells l' n:=by infer_instance):wpList Tryz.prog ops Q (o::rest) a (w.alloc (.cells l'.toArray ty)):=zgA _ _ _ _ _ _ _ hg hd ho hx hy hs hz hl hl' k
theorem wSi {ty:TypeId} {x y:Operand} {b n:Nat} {l l':List Value} (k:wpList Tryz.prog ops Q rest a (w.setRow b l.toArray)) (hg:o.guard=none:=by with_unfolding_all rfl) (hd:o.dst=none:=by with_unfolding_all rfl) (ho:o.op=.store ty x y:=by with_unfolding_all rfl) (hx:a.eval x=.pointer (some ⟨b,0,none⟩):=by with_unfolding_all rfl) (hy:a.eval y=.agg l.toArray:=by with_unfolding_all rfl) (hs:StructTy ty n:=by infer_instance) (hr:RowIs w b ty l':=by infer_instance) (hl:OneCells l n:=by infer_instance) (hl':OneCells l' n:=by infer_instance):wpList Tryz.prog ops Q (o::rest) a w:=zif _ _ _ _ _ _ _ hg hd ho hx hy hs hr hl hl' k
end
end Go.Proofs.YtdkfkalplmgoeaaGreat
