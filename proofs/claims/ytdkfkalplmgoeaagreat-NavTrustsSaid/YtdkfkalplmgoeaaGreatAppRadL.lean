/-
  Joined: RowMid, FuseNav, AppRad.
-/
import Derived.Test.YtdkfkalplmgoeaaGreatChecksL
import Derived.Test.YtdkfkalplmgoeaaGreatWholeL
import Derived.Laws.Rows
import Derived.Deep.MidRow
import Derived.Great.Walk
import Derived.Test.YtdkfkalplmgoeaaGreatRowL
namespace Go.Proofs.YtdkfkalplmgoeaaGreat
open Go.RowKit
class RowIs (w:World) (b:Nat) (t:outParam TypeId) (l:outParam (List Value)):Prop where
 is:w.heap[b]?=some (.cells l.toArray t (0,0))
instance zqv (w:World) (l:List Value) (t:TypeId) (m:Nat) [h:SizeAt w m]:RowIs (w.alloc (.cells l.toArray t)) m t l:=by
 obtain rfl:=h.eq
 exact ⟨heap_alloc_last w _⟩
instance zpC (w:World) (o:Obj) (b:Nat) (t:TypeId) (l:List Value) [h:RowIs w b t l]:RowIs (w.alloc o) b t l:=
 ⟨(Below.heap_alloc _ _ _ (Array.getElem?_eq_some_iff.1 h.is).1).trans h.is⟩
instance zpY (w:World) (b:Nat) (t:TypeId) (l:List Value) [h:RowIs w b t l]:RowIs w.drew b t l:=⟨h.is⟩
instance zpD (w:World) (u:Later w) (b:Nat) (t:TypeId) (l:List Value) [h:RowIs w b t l]:RowIs u.world b t l:=
 ⟨(u.grew.block b (Array.getElem?_eq_some_iff.1 h.is).1).trans h.is⟩
instance (priority:=low) rowIs_setCell_far (w:World) (c j:Nat) (v:Value) (b:Nat) (t:TypeId) (l:List Value) [h:RowIs w b t l] [k:Apart b c]:RowIs (w.setCell ⟨c,j,none⟩ v) b t l:=
 ⟨(Below.heap_setCell _ _ _ _ k.ne).trans h.is⟩
instance zeP (w:World) (j:Nat) (v:Value) (b:Nat) (t:TypeId) (l:List Value) [h:RowIs w b t l]:RowIs (w.setCell ⟨b,j,none⟩ v) b t (l.set j v):=
 ⟨by unfold World.setCell;simp[Array.getElem?_modify,h.is]⟩
instance zlt (w:World) (c:Nat) (l':List Value) (b:Nat) (t:TypeId) (l:List Value) [h:RowIs w b t l] [k:Apart b c]:RowIs (w.setRow c l'.toArray) b t l:=
 ⟨(setRow_other w c b _ k.ne).trans h.is⟩
instance zcD (w:World) (b:Nat) (t:TypeId) (n:Nat) (l:List Value) [h:RowOf w b t n]:RowIs (w.setRow b l.toArray) b t l:=by
 obtain ⟨cur,h1,-⟩:=h.is
 exact ⟨setRow_heap w b cur _ t (0,0) h1⟩
theorem RowIs.grew {a w:World} {b:Nat} {t:TypeId} {l:List Value} (h:RowIs a b t l) (g:Grew a w):RowIs w b t l:=
 ⟨(g.block b (Array.getElem?_eq_some_iff.1 h.is).1).trans h.is⟩
theorem RowIs.lt {w:World} {b:Nat} {t:TypeId} {l:List Value} (h:RowIs w b t l):b<w.heap.size:=(Array.getElem?_eq_some_iff.1 h.is).1
theorem RowIs.blockIn {w:World} {b:Nat} {t:TypeId} {l:List Value} (h:RowIs w b t l):BlockIn w b:=⟨h.lt⟩
@[go_sem] theorem zd2 (w:World) (b i:Nat) (t:TypeId) (l:List Value) [h:RowIs w b t l]:w.cell? ⟨b,i,none⟩=l[i]?:=by
 rw[cell_of_row w b i _ _ _ h.is]
 simp
@[go_sem] theorem zid (w:World) (b i:Nat) (t:TypeId) (l:List Value) [h:RowIs w b t l]:w.frozen? ⟨b,i,none⟩=false:=frozen_of_row w b i _ _ h.is
class StructTy (t:TypeId) (n:outParam Nat):Prop where
 und:∃ d,Tryz.prog.underlying t=some d∧(match d with | .struct _ | .array _ _=>true|_=>false)=true
 sz:(Tryz.prog.info? t).map (·.size)=some n
instance:StructTy 24 2:=⟨⟨_,Tryz.underlying24,rfl⟩,by kernel_rfl⟩
instance:StructTy 26 6:=⟨⟨_,Tryz.underlying26,rfl⟩,by kernel_rfl⟩
theorem ze5 {w:World} {b:Nat} {ty t:TypeId} {n:Nat} {l:List Value} (hs:StructTy ty n) (hr:RowIs w b t l) (hl:l.length=n):(loadVar ty ⟨b,0,none⟩).run Tryz.prog w=.ok (.agg l.toArray) w:=by
 obtain ⟨⟨d,hd1,hd2⟩,hz⟩:=hs
 cases d<;>first|exact run_loadVar_row w b t ty _ _ _ hr.is hd1 rfl (by rw[hz,←hl];simp)|cases hd2
section
variable {ops:Array Oper} {rest:List Oper} {o:Oper} {a:Act} {w:World} {Q:Exit→Act→World→Prop}
theorem zgJ (ty:TypeId) (x:Operand) (b n:Nat) (t:TypeId) (l:List Value) (hg:o.guard=none) (ho:o.op=.load ty x) (hx:a.eval x=.pointer (some ⟨b,0,none⟩)) (hs:StructTy ty n) (hr:RowIs w b t l) (hl:l.length=n)
 (k:wpList Tryz.prog ops Q rest (a.put o.dst (.agg l.toArray)) w):wpList Tryz.prog ops Q (o::rest) a w:=by
 obtain ⟨⟨d,hd1,hd2⟩,hz⟩:=hs
 cases d<;>first|exact wpList_load_row hg ty x ho b hx t _ _ _ hr.is hd1 rfl (by rw[hz,←hl];simp) k|cases hd2
theorem zeX (ty:TypeId) (x y:Operand) (m n:Nat) (l l':List Value) (hg:o.guard=none) (hd:o.dst=none) (ho:o.op=.store ty x y) (hx:a.eval x=.pointer (some ⟨m,0,none⟩)) (hy:a.eval y=.agg l.toArray)
 (hs:StructTy ty n) (hz:SizeAt w m) (hl:OneCells l n) (hl':OneCells l' n) (k:wpList Tryz.prog ops Q rest a (w.alloc (.cells l.toArray ty))):wpList Tryz.prog ops Q (o::rest) a (w.alloc (.cells l'.toArray ty)):=by
 obtain rfl:=hz.eq
 refine wpList_store_row hg _ x y ho w.heap.size l.toArray hx hy ty l'.toArray (heap_alloc_last w _) (by rw[hs.sz];simp[hl.len]) (by simp[hl.len,hl'.len]) (by rw[Array.all_eq_true_iff_forall_mem];intro v hv;exact hl.one v (by simpa using hv)) ?_
 rw[hd,World.setRow_alloc_new]
 exact k
theorem zgA (ty:TypeId) (x y:Operand) (b n:Nat) (l l':List Value) (hg:o.guard=none) (hd:o.dst=none) (ho:o.op=.store ty x y) (hx:a.eval x=.pointer (some ⟨b,0,none⟩)) (hy:a.eval y=.agg l.toArray)
 (hs:StructTy ty n) (hr:RowIs w b ty l') (hl:OneCells l n) (hl':OneCells l' n) (k:wpList Tryz.prog ops Q rest a (w.setRow b l.toArray)):wpList Tryz.prog ops Q (o::rest) a w:=by
 refine wpList_store_row hg _ x y ho b l.toArray hx hy ty l'.toArray hr.is (by rw[hs.sz];simp[hl.len]) (by simp[hl.len,hl'.len]) (by rw[Array.all_eq_true_iff_forall_mem];intro v hv;exact hl.one v (by simpa using hv)) ?_
 rw[hd]
 exact k
end
end Go.Proofs.YtdkfkalplmgoeaaGreat
namespace Go.Proofs.YtdkfkalplmgoeaaGreat
open Go.RowKit
set_option maxRecDepth 100000
class Sub (l:List Value) (o n:Nat) (cs:outParam (List Value)):Prop where
 is:(l.drop o).take n=cs
instance zrG (l:List Value):Sub l 0 0 []:=⟨by simp⟩
instance zq8 (v:Value) (l:List Value) (n:Nat) (cs:List Value) [h:Sub l 0 n cs]:Sub (v::l) 0 (n+1) (v::cs):=⟨by have:=h.is;simp at this;simp[this]⟩
instance (priority:=high) sub_drop (v:Value) (l:List Value) (o n:Nat) (cs:List Value) [h:Sub l o n cs]:Sub (v::l) (o+1) n cs:=⟨by simpa using h.is⟩
class CLen (l:List Value) (n:outParam Nat):Prop where
 len:l.length=n
instance zqW:CLen [] 0:=⟨rfl⟩
instance zp7 (v:Value) (l:List Value) (n:Nat) [h:CLen l n]:CLen (v::l) (n+1):=⟨by simp[h.len]⟩
class RangeIs (w:World) (b o n:Nat) (cs:outParam (List Value)):Prop where
 is:w.rangeAt b o cs
 len:cs.length=n
instance zpv (w:World) (b o n:Nat) (t:TypeId) (l cs:List Value) [h:RowIs w b t l] [k:Sub l o n cs] [hn:CLen cs n]:RangeIs w b o n cs where
 is:=fun j v hv=>by
  rw[zd2,←hv,←k.is,List.getElem?_take]
  split
  ·rw[List.getElem?_drop]
  ·rename_i hj
   rw[←k.is] at hv
   rw[List.getElem?_take,if_neg hj] at hv
   cases hv
 len:=hn.len
instance znZ (w:World) (ob:Obj) (b o n:Nat) (cs:List Value) [h:RangeIs w b o n cs]:RangeIs (w.alloc ob) b o n cs where
 is:=fun j v hv=>by rw[World.cell?_alloc_lt _ _ _ (World.block_lt_of_cell? w _ (h.is j v hv)),h.is j v hv]
 len:=h.len
instance zoP (w:World) (b o n:Nat) (cs:List Value) [h:RangeIs w b o n cs]:RangeIs w.drew b o n cs:=⟨h.is,h.len⟩
instance zn0 (w:World) (u:Later w) (b o n:Nat) (cs:List Value) [h:RangeIs w b o n cs]:RangeIs u.world b o n cs:=⟨fun j v hv=>u.grew.cell (h.is j v hv),h.len⟩
instance zmE (w:World) (c i:Nat) (x:Value) (b o n:Nat) (cs:List Value) [h:RangeIs w b o n cs] [k:Apart b c]:RangeIs (w.setCell ⟨c,i,none⟩ x) b o n cs where
 is:=fun j v hv=>by rw[zca,h.is j v hv]
 len:=h.len
instance zm7 (w:World) (c:Nat) (l:Array Value) (b o n:Nat) (cs:List Value) [h:RangeIs w b o n cs] [k:Apart b c]:RangeIs (w.setRow c l) b o n cs where
 is:=fun j v hv=>by rw[zdl,h.is j v hv]
 len:=h.len
theorem RangeIs.grew {a w:World} {b o n:Nat} {cs:List Value} (h:RangeIs a b o n cs) (g:Grew a w):RangeIs w b o n cs:=⟨fun j v hv=>g.cell (h.is j v hv),h.len⟩
instance:StructTy 28 15:=⟨⟨_,Tryz.underlying28,rfl⟩,by kernel_rfl⟩
instance:StructTy 81 16:=⟨⟨_,Tryz.underlying81,rfl⟩,by kernel_rfl⟩
theorem zkJ (w:World) (b o n:Nat) (ty:TypeId) (cs:List Value) [hs:StructTy ty n] [hr:RangeIs w b o n cs]:(Instr.loadAt ty (.pointer (some ⟨b,o,none⟩))).run Tryz.prog w=.ok (.agg cs.toArray) w:=by
 obtain ⟨⟨d,hd1,hd2⟩,hz⟩:=hs
 exact run_loadAt_mid w b o ty cs d hr.is hd1 (by cases d<;>first|rfl|cases hd2) (by rw[hz,hr.len])
class Built (t:TypeId) (l:List (Nat × Value)) (cs:outParam (List Value)):Prop where
 is:Tryz.prog.built t l=some cs.toArray
section
variable {ops:Array Oper} {rest:List Oper} {o:Oper} {a:Act} {w:World} {Q:Exit→Act→World→Prop}
theorem zgz (ty:TypeId) (x:Operand) (b p n:Nat) (cs:List Value) (hg:o.guard=none) (ho:o.op=.load ty x) (hx:a.eval x=.pointer (some ⟨b,p,none⟩)) (hs:StructTy ty n) (hr:RangeIs w b p n cs)
 (k:wpList Tryz.prog ops Q rest (a.put o.dst (.agg cs.toArray)) w):wpList Tryz.prog ops Q (o::rest) a w:=by
 obtain ⟨⟨d,hd1,hd2⟩,hz⟩:=hs
 exact wpList_load_mid hg ty x ho b p hx cs d hr.is hd1 (by cases d<;>first|rfl|cases hd2) (by rw[hz,hr.len]) k
end
theorem zmI {fn:Func} {tmps:Array Value} {W:World} {p:Tmp} {ty t:TypeId} {b n:Nat} {l:List Value} (h:fn.results=#[.cell p ty]) (hp:tmps.getD p undef=.pointer (some ⟨b,0,none⟩)) (hs:StructTy ty n) (hr:RowIs W b t l) (hl:CLen l n) :
 (results fn tmps).run Tryz.prog W=.ok (.agg l.toArray) W:=by
 have h3:=ze5 (ty:=ty) hs hr hl.len
 simp only[Array.getD_eq_getD_getElem?] at hp
 simp[results,h,asAddr,hp,h3]
theorem zdV {fn:Func} {tmps:Array Value} {W:World} {p q:Tmp} {ty t:TypeId} {b n:Nat} {l:List Value} {v:Value} (h:fn.results=#[.cell p ty,.tmp q]) (hp:tmps.getD p undef=.pointer (some ⟨b,0,none⟩)) (hq:tmps.getD q undef=v) (hs:StructTy ty n) (hr:RowIs W b t l) (hl:CLen l n) :
 (results fn tmps).run Tryz.prog W=.ok (.tuple #[.agg l.toArray,v]) W:=by
 have h3:=ze5 (ty:=ty) hs hr hl.len
 simp only[Array.getD_eq_getD_getElem?] at hp hq
 simp[results,h,asAddr,hp,hq,h3]
section
variable {ops:Array Oper} {rest:List Oper} {o:Oper} {a:Act} {Q:Exit→Act→World→Prop} {w:World}
theorem wLi {ty:TypeId} {x:Operand} {b n:Nat} {t:TypeId} {l:List Value} (k:wpList Tryz.prog ops Q rest (a.put o.dst (.agg l.toArray)) w) (hg:o.guard=none:=by with_unfolding_all rfl) (ho:o.op=.load ty x:=by with_unfolding_all rfl) (hx:a.eval x=.pointer (some ⟨b,0,none⟩):=by with_unfolding_all rfl) (hs:StructTy ty n:=by infer_instance) (hr:RowIs w b t l:=by infer_instance) (hl:l.length=n:=by with_unfolding_all rfl):wpList Tryz.prog ops Q (o::rest) a w:=zgJ _ _ _ _ _ _ hg ho hx hs hr hl k
theorem wLr {ty:TypeId} {x:Operand} {b p n:Nat} {cs:List Value} (k:wpList Tryz.prog ops Q rest (a.put o.dst (.agg cs.toArray)) w) (hg:o.guard=none:=by with_unfolding_all rfl) (ho:o.op=.load ty x:=by with_unfolding_all rfl) (hx:a.eval x=.pointer (some ⟨b,p,none⟩):=by with_unfolding_all rfl) (hs:StructTy ty n:=by infer_instance) (hr:RangeIs w b p n cs:=by infer_instance):wpList Tryz.prog ops Q (o::rest) a w:=zgz _ _ _ _ _ _ hg ho hx hs hr k
theorem wSf {ty:TypeId} {x y:Operand} {m n:Nat} {l l':List Value} (k:wpList Tryz.prog ops Q rest a (w.alloc (.cells l.toArray ty))) (hg:o.guard=none:=by with_unfolding_all rfl) (hd:o.dst=none:=by with_unfolding_all rfl) (ho:o.op=.store ty x y:=by with_unfolding_all rfl) (hx:a.eval x=.pointer (some ⟨m,0,none⟩):=by with_unfolding_all rfl) (hy:a.eval y=.agg l.toArray:=by with_unfolding_all rfl) (hs:StructTy ty n:=by infer_instance) (hz:SizeAt w m:=by infer_instance) (hl:OneCells l n:=by infer_instance) (hl':OneCells l' n:=by infer_instance):wpList Tryz.prog ops Q (o::rest) a (w.alloc (.cells l'.toArray ty)):=zeX _ _ _ _ _ _ _ hg hd ho hx hy hs hz hl hl' k
theorem wSi {ty:TypeId} {x y:Operand} {b n:Nat} {l l':List Value} (k:wpList Tryz.prog ops Q rest a (w.setRow b l.toArray)) (hg:o.guard=none:=by with_unfolding_all rfl) (hd:o.dst=none:=by with_unfolding_all rfl) (ho:o.op=.store ty x y:=by with_unfolding_all rfl) (hx:a.eval x=.pointer (some ⟨b,0,none⟩):=by with_unfolding_all rfl) (hy:a.eval y=.agg l.toArray:=by with_unfolding_all rfl) (hs:StructTy ty n:=by infer_instance) (hr:RowIs w b ty l':=by infer_instance) (hl:OneCells l n:=by infer_instance) (hl':OneCells l' n:=by infer_instance):wpList Tryz.prog ops Q (o::rest) a w:=zgA _ _ _ _ _ _ _ hg hd ho hx hy hs hr hl hl' k
end
end Go.Proofs.YtdkfkalplmgoeaaGreat
namespace Go.Proofs.YtdkfkalplmgoeaaGreat
open Go.RowKit Go.Shelf
set_option maxRecDepth 100000
set_option maxHeartbeats 8000000
instance:StructTy 88 15:=⟨⟨_,Tryz.underlying88,rfl⟩,by kernel_rfl⟩
instance zpR (s:State):CLen s.cells 15:=⟨rfl⟩
instance zpQ (m:Radio):CLen m.cells 15:=⟨rfl⟩
theorem zoL {l:List Value} (h:l.all Value.oneCell'=true):∀ v∈l,v.oneCell'=true:=List.all_eq_true.1 h
instance zm6 (s:State):OneCells s.cells 15:=⟨rfl,zoL rfl⟩
instance zgF (m:Radio):OneCells m.cells 15:=⟨rfl,zoL rfl⟩
instance zq0 (w:World) (b:Nat) (t:TypeId) (l:List Value) (n:Nat) [h:RowIs w b t l] [k:CLen l n]:RowOf w b t n:=⟨_,h.is,by simp[k.len]⟩
abbrev zcm:List Value:=[.int .i64 0,.int .i64 0,.int .i64 0,.int .i64 0,.int .i64 0,.int .i64 0,.int .i64 0,.int .i64 0,.int .i64 0,.int .i64 0,.int .i64 0,.int .i64 0,.int .i64 0,.int .i64 0,.int .i64 0]
theorem zds {fn:Func} {tmps:Array Value} {W:World} {p q r:Tmp} {ty t:TypeId} {b n:Nat} {l:List Value} {v v2:Value} (h:fn.results=#[.cell p ty,.tmp q,.tmp r]) (hp:tmps.getD p undef=.pointer (some ⟨b,0,none⟩)) (hq:tmps.getD q undef=v) (hr2:tmps.getD r undef=v2) (hs:StructTy ty n) (hr:RowIs W b t l) (hl:CLen l n) :
 (results fn tmps).run Tryz.prog W=.ok (.tuple #[.agg l.toArray,v,v2]) W:=by
 have h3:=ze5 (ty:=ty) hs hr hl.len
 simp only[Array.getD_eq_getD_getElem?] at hp hq hr2
 simp[results,h,asAddr,hp,hq,hr2,h3]
structure FuseAt (w:World) (q4 q8:Nat) (S:State) (z:World):Prop where
 grew:Grew w z
 r4:RowIs z q4 28 S.cells
 r8:RowIs z q8 28 zcm
structure InAt (w:World) (q4 q8 q11:Nat) (S S':State) (z:World):Prop where
 on:FuseAt w q4 q8 S' z
 was:RowIs z q11 28 S.cells
section
variable {s:State} {m:Radio} [hp:Pv64 s] [hm:Ra64 m]
theorem zkR (hk:m.okB=true) (h:cutE s m=0) (w:World):Calls Tryz.prog 37 #[.agg s.cells.toArray,.agg m.cells.toArray] w fun e w'=>e=.returned (.tuple #[.agg (cutS s m).cells.toArray,.int .i64 0])∧Grew w w':=by
 have:=zgW s m (zb5 hk).1 (zb5 hk).2 w
 rw[←zen h] at this
 exact this
theorem zkQ (hk:m.okB=true) (h:cutE s m≠0) (w:World):Calls Tryz.prog 37 #[.agg s.cells.toArray,.agg m.cells.toArray] w fun e w'=>e=.returned (.tuple #[.agg State.zero.cells.toArray,.int .i64 (cutE s m)])∧Grew w w':=by
 have:=zgW s m (zb5 hk).1 (zb5 hk).2 w
 rw[←zem h] at this
 exact this
end
def RetF (r:ResF) (w:World) (e:Ending) (w':World):Prop:=e=.returned (.tuple #[.agg r.s.cells.toArray,.int .i64 r.n,.bool (decide (r.e=0))])∧Grew w w'
theorem zpy {s:State} {n e:Int} {b:Bool} {r:ResF} (h:r=⟨s,n,e⟩) (hb:b=decide (e=0)):Ending.returned (.tuple #[.agg s.cells.toArray,.int .i64 n,.bool b])=.returned (.tuple #[.agg r.s.cells.toArray,.int .i64 r.n,.bool (decide (r.e=0))]):=by subst h;subst hb;rfl
def zbQ (gone:Int) (k:Nat):Bool:=!(bits .and .i64 (gone/2^k) 1==1)
def zg4 (a b:State):Bool:=decide (a.t=b.t)&&zg3 a.p b.p&&zg3 a.v b.v&&decide (a.m.lo=b.m.lo)&&decide (a.m.hi=b.m.hi)
theorem zcr {a b:State}:zg4 a b=true↔a=b:=by
 obtain ⟨t,p,v,⟨m,n⟩⟩:=a
 obtain ⟨t',p',v',⟨m',n'⟩⟩:=b
 unfold zg4
 simp[and_assoc,zlf]
theorem zi5 (a b:State) (w:World):(Op.equalIn 10000 28 (.agg a.cells.toArray) (.agg b.cells.toArray)).run Tryz.prog w=.ok (zg4 a b) w:=by
 have h1:=fun w=>zoD a.p b.p w
 have h2:=fun w=>zoD a.v b.v w
 unfold State.cells zg4
 simp[go_sem,h1,h2]
 (repeat' split)<;>simp_all
theorem zdB (s:State) (l:List Radio) (n gone:Int) [hp:Pv64 s] (hT:∀ m∈l,Ra64 m) (hK:∀ m∈l,m.okB=true) (hn:0≤n) (hn2:n≤16) (hl:l.length≤16) (ao:Option Addr) (cap:Nat) (w:World) (hs:SlAt w (.slice ao l.length cap) l.length (l.flatMap Radio.cells)) :
 Calls Tryz.prog 19 #[.agg s.cells.toArray,.slice ao l.length cap,.int .i64 n,.int .i64 gone] w (RetF (zaB (zbQ gone) l n.toNat 0 s) w):=by
 obtain ⟨ao',cap',e1,-,hx⟩:=hs
 cases e1
 have HE:=Lib.hid (SlAt.elem (f:=Radio.cells) (c:=15) (fun _=>rfl) (by omega) hx)
 have HT:=Lib.hid hT
 have HK:=Lib.hid hK
 clear hx hT hK
 generalize hkeep:zbQ gone=keep at *
 have Hkeep:=Lib.hid hkeep
 clear hkeep
 generalize hF:zaB keep l n.toNat 0 s=F at *
 have HF:=Lib.hid hF
 clear hF
 have hEq:=zi5
 have B1:=fun W=>(inferInstance:RowIs (World.alloc W (.cells s.cells.toArray 28)) W.heap.size 28 s.cells)
 go_enter Tryz.func19,Tryz.ntmps19
 go_wp2
 go_loopw [9] (fun t wr=>∃ (u:Nat) (S:State) (z:World),z=wr∧t=.int .i64 u∧(u:Int)≤n∧Pv64 S∧Hid (FuseAt w w.heap.size (w.heap.size+1) S z)∧Hid (zaB keep l (n.toNat-u) u S=F)) (fun t _=>n.toNat-(intOf t).toNat)
 case atStart=>exact ⟨0,s,_,rfl,rfl,hn,hp,Lib.hid ⟨gwr,inferInstance,inferInstance⟩,HF⟩
 case round=>
  obtain ⟨u,S,z,rfl,rfl,hu,hS,HS,HR⟩:=hrel
  clear hp
  have n4:NewFor w w.heap.size:=inferInstance
  have n8:NewFor w (w.heap.size+1):=inferInstance
  have r4:=HS.out.r4
  have r8:=HS.out.r8
  have l8:w.heap.size+1<z.heap.size:=r8.lt
  have l4:w.heap.size<z.heap.size:=by omega
  generalize h4:w.heap.size=q4 at *
  generalize h8:q4+1=q8 at *
  have ib4:BlockIn z q4:=⟨l4⟩
  have ib8:BlockIn z q8:=⟨l8⟩
  by_cases hlt:(u:Int)<n
  ·have HR0:=Lib.hid (show n.toNat-u=(n.toNat-(u+1))+1 by omega)
   go_wp2_with (first|(with_reducible refine wLr ?_)|(with_reducible refine wLi ?_)|(with_reducible refine wSf ?_)|(with_reducible refine wSi ?_))
   go_loopw [9,24] (fun m t wr=>∃ (k:Nat) (S':State) (y:World),y=wr∧m=.int .i64 ((u:Int)+1)∧t=.int .i64 k∧k≤l.length∧Pv64 S'∧Hid (InAt w q4 q8 z.heap.size S S' y)∧Hid (zbq keep l 0 S=zbq keep (l.drop k) k S')) (fun _ t _=>l.length-(intOf t).toNat)
   case atStart=>exact ⟨0,S,_,rfl,rfl,rfl,by omega,hS,Lib.hid ⟨⟨HS.out.grew.trans gwr,inferInstance,inferInstance⟩,inferInstance⟩,Lib.hid rfl⟩
   case round=>
    obtain ⟨k,S',y,rfl,rfl,rfl,hk,hS',HI,HQ⟩:=hrel
    have n11:NewFor w z.heap.size:=⟨Grew.size HS.out.grew⟩
    clear r4 r8 ib4 ib8 HS hS
    generalize z.heap.size=q11 at *
    obtain ⟨y',hy⟩:=zaj HI.out.on.grew
    subst hy
    have r4:=HI.out.on.r4
    have r8:=HI.out.on.r8
    have r11:=HI.out.was
    have ib4:BlockIn y'.world q4:=r4.blockIn
    have ib8:BlockIn y'.world q8:=r8.blockIn
    have ib11:BlockIn y'.world q11:=r11.blockIn
    have:Apart (q4) (q8):=⟨by omega⟩
    have:Apart (q4) (q11):=⟨by omega⟩
    have:Apart (q8) (q4):=⟨by omega⟩
    have:Apart (q8) (q11):=⟨by omega⟩
    have:Apart (q11) (q4):=⟨by omega⟩
    have:Apart (q11) (q8):=⟨by omega⟩
    by_cases hkl:k<l.length
    ·obtain ⟨b1,o1,e1,i1,hd1,hd2⟩:=HE.out k hkl
     cases e1
     have rg:RangeIs w b1 (o1+k*15) 15 l[k].cells:=⟨fun j v hv=>hd2 j v hv,rfl⟩
     have j1:BlockIn w b1:=⟨by omega⟩
     clear hd1 hd2
     have hk16:k≤64:=by omega
     have G1:=Lib.hid (fun h=>zmq (keep:=keep) (s:=S') hkl h)
     have G2:=Lib.hid (fun h h0=>zke (keep:=keep) (s:=S') hkl h h0)
     have G3:=Lib.hid (fun h h7=>ziy (keep:=keep) (s:=S') hkl h h7)
     have G4:=Lib.hid (fun h h0 h7=>ziz (keep:=keep) (s:=S') hkl h h0 h7)
     have hT:=HT.out _ (List.getElem_mem hkl)
     have hK:=HK.out _ (List.getElem_mem hkl)
     generalize l[k]=m at *
     have hbit:(bits .and .i64 (gone/2^k) 1==1)=!keep k:=by rw[←Hkeep.out];unfold zbQ;rw[Bool.not_not]
     cases hb:keep k
     ·rw[hb] at hbit
      have HQ2:=Lib.hid (HQ.out.trans (G1.out hb))
      simp only[Bool.not_false] at hbit
      clear G1 G2 G3 G4 hb hT hK
      go_wp2_with (first|(with_reducible refine wLr ?_)|(with_reducible refine wLi ?_)|(with_reducible refine wSf ?_)|(with_reducible refine wSi ?_))
      go_roundw
      case rel=>exact ⟨k+1,S',_,rfl,rfl,by go_num,by omega,hS',Lib.hid ⟨⟨gwr,inferInstance,inferInstance⟩,inferInstance⟩,HQ2⟩
      case measure=>simp[intOf];omega
     ·rw[hb] at hbit
      simp only[Bool.not_true] at hbit
      by_cases h0:cutE S' m=0
      ·have HQ2:=Lib.hid (HQ.out.trans (G2.out hb h0))
       have hS2:Pv64 (cutS S' m):=zkg S' m
       have HC:=Lib.hid (fun w=>zkR (s:=S') (m:=m) hK h0 w)
       clear h0 G1 G2 G3 G4 hb hT hK
       generalize cutS S' m=S2 at *
       go_wp2_with (first|(go_at_call 37;(with_reducible refine zaa (HC.out _) ?_);intro u)|(with_reducible refine wLr ?_)|(with_reducible refine wLi ?_)|(with_reducible refine wSf ?_)|(with_reducible refine wSi ?_))
       go_roundw
       case rel=>exact ⟨k+1,S2,_,rfl,rfl,by go_num,by omega,hS2,Lib.hid ⟨⟨gwr,inferInstance,inferInstance⟩,inferInstance⟩,HQ2⟩
       case measure=>simp[intOf];omega
      ·have HC:=Lib.hid (fun w=>zkQ (s:=S') (m:=m) hK h0 w)
       by_cases h7:cutE S' m=7
       ·have hq7:=HQ.out.trans (G3.out hb h7)
        have hF7:=HR.out
        rw[HR0.out,zeD hq7] at hF7
        have HF7:=Lib.hid hF7
        rw[h7] at HC
        clear hq7 hF7 h0 h7 G1 G2 G3 G4 hb hT hK HQ
        go_wp2_with (first|(go_at_call 37;(with_reducible refine zaa (HC.out _) ?_);intro u)|(with_reducible refine wLr ?_)|(with_reducible refine wLi ?_)|(with_reducible refine wSf ?_)|(with_reducible refine wSi ?_))
        refine bodyPost_ret (zds Tryz.results19 rfl rfl rfl inferInstance inferInstance inferInstance) rfl ?_
        exact ⟨zpy (s:=State.zero) HF7.out.symm (by decide),gwr⟩
       ·have HQ2:=Lib.hid (HQ.out.trans (G4.out hb h0 h7))
        have t0:(cutE S' m==0)=false:=by simp[h0]
        have t7:(cutE S' m==7)=false:=by simp[h7]
        clear h0 h7 G1 G2 G3 G4 hb hT hK
        generalize cutE S' m=E at *
        go_wp2_with (first|(go_at_call 37;(with_reducible refine zaa (HC.out _) ?_);intro u)|(with_reducible refine wLr ?_)|(with_reducible refine wLi ?_)|(with_reducible refine wSf ?_)|(with_reducible refine wSi ?_))
        go_roundw
        case rel=>exact ⟨k+1,S',_,rfl,rfl,by go_num,by omega,hS',Lib.hid ⟨⟨gwr,inferInstance,inferInstance⟩,inferInstance⟩,HQ2⟩
        case measure=>simp[intOf];omega
    ·obtain rfl:k=l.length:=by omega
     have hQ:=HQ.out.trans zkf
     have hF2:=HR.out
     rw[HR0.out] at hF2
     cases hsame:zg4 S' S
     ·have hne:S'≠S:=fun e=>by rw[zcr.2 e] at hsame;cases hsame
      rw[zeC hQ hne] at hF2
      have HF2:=Lib.hid hF2
      clear hF2 hQ hne
      go_wp2_with (first|(with_reducible refine wLr ?_)|(with_reducible refine wLi ?_)|(with_reducible refine wSf ?_)|(with_reducible refine wSi ?_))
      go_roundw
      case rel=>exact ⟨u+1,S',_,rfl,by go_num,by omega,hS',Lib.hid ⟨gwr,inferInstance,inferInstance⟩,HF2⟩
      case measure=>simp[intOf];omega
     ·rw[zeE (by rw[hQ,zcr.1 hsame])] at hF2
      rw[←zcr.1 hsame] at hF2
      have HF2:=Lib.hid hF2
      clear hF2 hQ
      go_wp2_with (first|(with_reducible refine wLr ?_)|(with_reducible refine wLi ?_)|(with_reducible refine wSf ?_)|(with_reducible refine wSi ?_))
      refine bodyPost_ret (zds Tryz.results19 rfl rfl rfl inferInstance inferInstance inferInstance) rfl ?_
      exact ⟨zpy HF2.out.symm (by decide),gwr⟩
  ·have hu2:n=u:=by omega
   subst hu2
   have hF2:=HR.out
   rw[show (u:Int).toNat-u=0 by simp] at hF2
   have HF2:=Lib.hid hF2
   clear hF2 HR
   have hg:=HS.out.grew
   have:Apart (q4) (q8):=⟨by omega⟩
   have:Apart (q8) (q4):=⟨by omega⟩
   go_wp2_with (first|(with_reducible refine wLr ?_)|(with_reducible refine wLi ?_)|(with_reducible refine wSf ?_)|(with_reducible refine wSi ?_))
   refine bodyPost_ret (zds Tryz.results19 rfl rfl rfl inferInstance inferInstance inferInstance) rfl ?_
   exact ⟨zpy HF2.out.symm (by decide),gwr⟩
end Go.Proofs.YtdkfkalplmgoeaaGreat
namespace Go.Proofs.YtdkfkalplmgoeaaGreat
open Go.RowKit Go.Shelf
set_option maxRecDepth 100000
set_option maxHeartbeats 8000000
theorem zhU (W:World) (b:Nat) (l l0:List Value) [h:OneCells l 15] [k:OneCells l0 15] [r:RowIs W b 28 l0]:(storeCells ⟨b,0,none⟩ l).run Tryz.prog W=.ok () (W.setRow b l.toArray):=by
 have hs:=@zeS Tryz.prog W b 28 15 l ⟨_,r.is,by simp[k.len]⟩ h (by kernel_rfl)
 obtain ⟨i,hi⟩:=Option.isSome_iff_exists.1 (show (Tryz.prog.info? 28).isSome=true by kernel_rfl)
 have hsz:i.size=15:=by
  have:(Tryz.prog.info? 28).map (·.size)=some 15:=by kernel_rfl
  rw[hi] at this
  simpa using this
 have hl:=h.len
 simp only[Instr.storeAt,Instr.sureAddr,storeVar,Sem.run_bind,Sem.run_pure,Result.andThen_ok,sizeOf,typeInfo,Value.cells,List.size_toArray,hl] at hs
 simpa [hi,hsz] using hs
def zlx (r:ResF) (w:World) (e:Ending) (w':World):Prop:=e=.returned (.tuple #[.agg r.s.cells.toArray,.int .i64 r.n,.int .i64 r.e])∧Grew w w'
theorem zmJ {s:State} {n e:Int} {r:ResF} (h:r=⟨s,n,e⟩):Ending.returned (.tuple #[.agg s.cells.toArray,.int .i64 n,.int .i64 e])=.returned (.tuple #[.agg r.s.cells.toArray,.int .i64 r.n,.int .i64 r.e]):=by subst h;rfl
abbrev za2:Nat→Bool:=fun _=>true
end Go.Proofs.YtdkfkalplmgoeaaGreat
namespace Go.Proofs.YtdkfkalplmgoeaaGreat
open Go.RowKit Go.Shelf
set_option maxRecDepth 100000
set_option maxHeartbeats 8000000
theorem zgR:zbQ 0=za2:=by
 funext k
 unfold zbQ
 rw[Int.zero_ediv]
 show (!(bits .and .i64 0 1==1))=true
 decide
theorem zcM {s:State} {l:List Radio} {n:Int} (h:zaQ s l n=0):l.length≤16∧0≤n∧n≤16∧∀ m∈l,m.okB=true:=by
 unfold zaQ at h
 split at h
 ·exact absurd h (by decide)
 ·rename_i h1
  split at h
  ·exact absurd h (by decide)
  ·rename_i h2
   refine ⟨by omega,by omega,by omega,?_⟩
   cases hc:l.all Radio.okB
   ·rw[hc] at h
    exact absurd h (by decide)
   ·exact List.all_eq_true.1 hc
end Go.Proofs.YtdkfkalplmgoeaaGreat
namespace Go.Proofs.YtdkfkalplmgoeaaGreat
open Go.RowKit Go.Shelf
set_option maxRecDepth 100000
set_option maxHeartbeats 8000000
theorem zpj:(Tryz.prog.info? 88).map (fun i=>(i.zero,i.size,i.bytes))=some (some (.agg zcm.toArray),15,120):=by kernel_rfl
theorem zmB (l:List Radio) (y:Radio):l.flatMap Radio.cells++y.cells=(l++[y]).flatMap Radio.cells:=by simp
theorem zmC (y:Radio):∀ u∈y.cells,u.oneCell'=true:=(zgF y).one
theorem zfB {ops:Array Oper} {rest:List Oper} {o:Oper} {a:Act} {Q:Exit→Act→World→Prop} (a0 w:World) (g0:Grew a0 w) {m:Nat} [hm:SizeAt w m] (hgd:o.guard=none) (s x:Operand)
 (ho:o.op=.call { callee:=.builtin .append,args:=#[s,x],argTypes:=#[29, 29] }) (v:Value) (l:List Radio) (hown:w.ownsRow a0.heap.size 88 15 v l.length (l.flatMap Radio.cells)) (hs:a.eval s=v) (y:Radio) (ty:TypeId)
 (hx:a.eval x=.slice (some ⟨m,0,none⟩) 1 1) (hn:l.length≤1099511627)
 (h:∀ v' (u:Later a0),u.world.ownsRow a0.heap.size 88 15 v' (l++[y]).length ((l++[y]).flatMap Radio.cells)→wpList Tryz.prog ops Q rest (a.put o.dst v') u.world) :
 wpList Tryz.prog ops Q (o::rest) a (w.alloc (.cells y.cells.toArray ty)):=by
 obtain rfl:=hm.eq
 obtain ⟨i0,hi,hz0,hzz1,hzz2⟩:=info_parts zpj
 refine wpList_append_own _ hgd s x 29 ho a0.heap.size 88 i0 _ 15 120 Tryz.underlying29 hi hz0 hzz1 hzz2 rfl (by decide) v _ _ hs (hown.alloc _) ⟨w.heap.size,0,none⟩ 1 1 y.cells hx rfl (by simpa using zfR w y.cells ty) (zmC y) (by simp[maxLen];omega) (by omega) (by have:=g0.size;simp;omega) ?_
 intro v' w1 hown' hgrow _
 obtain ⟨u,rfl⟩:=zaj (Grew.append (g0.alloc (.cells y.cells.toArray ty)) (hown.alloc (.cells y.cells.toArray ty)) (Nat.le_refl _) hgrow)
 refine h v' u ?_
 rw[←zmB,List.length_append]
 exact hown'
end Go.Proofs.YtdkfkalplmgoeaaGreat
