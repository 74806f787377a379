/-
  Joined: ForceM, ForceN.
-/
import Derived.Test.YtdkfkalplmgoeaaGreatForceABCH
import Derived.Test.YtdkfkalplmgoeaaGreatRowMidH
import Derived.LoopN
import Derived.Deep.DeepCutAuto
namespace Go.Proofs.YtdkfkalplmgoeaaGreat
open Go.RowKit Go.Shelf
set_option maxRecDepth 100000
set_option maxHeartbeats 32000000
class RoAt (w:World) (b:Nat) (l:outParam (List Value)):Prop where
 is:∀ i x,l[i]?=some x→w.cell? ⟨b,i,none⟩=some x
instance zvc (w:World) (l:List Value) (t:TypeId) (n:Nat) [h:SizeAt w n]:RoAt (w.alloc (.cells l.toArray t)) n l:=by
 obtain rfl:=h.eq
 exact ⟨fun i x hx=>by simpa using hx⟩
instance zti (w:World) (o:Obj) (b:Nat) (l:List Value) [h:RoAt w b l]:RoAt (w.alloc o) b l:=
 ⟨fun i x hx=>by rw[World.cell?_alloc_lt _ _ _ (World.block_lt_of_cell? w _ (h.is i x hx)),h.is i x hx]⟩
instance zuq (w:World) (b:Nat) (l:List Value) [h:RoAt w b l]:RoAt w.drew b l:=⟨h.is⟩
instance ztj (w:World) (u:Later w) (b:Nat) (l:List Value) [h:RoAt w b l]:RoAt u.world b l:=⟨fun i x hx=>u.grew.cell (h.is i x hx)⟩
instance zq7 (w:World) (c j b:Nat) (v:Value) (l:List Value) [h:RoAt w b l] [k:Apart b c]:RoAt (w.setCell ⟨c,j,none⟩ v) b l:=
 ⟨fun i x hx=>by rw[zbL,h.is i x hx]⟩
@[go_sem] theorem zty (w:World) (b i:Nat) (l:List Value) [h:RoAt w b l] [k:LtLen i l]:w.cell? ⟨b,i,none⟩=l[i]?:=by
 have hi:=k.lt
 rw[List.getElem?_eq_getElem hi]
 exact h.is i _ (List.getElem?_eq_getElem hi)
theorem RoAt.lt {w:World} {b:Nat} {v:Value} {l:List Value} (h:RoAt w b (v::l)):b<w.heap.size:=World.block_lt_of_cell? w _ (h.is 0 v rfl)
theorem zgM {c:Nat} {w wx wy:World} {q:Nat} (h:But c w wx) [k:NewFor wx wy.heap.size] (n:NewFor wy q):NewFor w q:=⟨Nat.le_trans h.size (Nat.le_trans k.le n.le)⟩
theorem zhp {w:World} {b:Nat} {x0 x1 x2 x3 x4 x5:Value} (h0:w.cell? ⟨b,0,none⟩=some x0) (h1:w.cell? ⟨b,1,none⟩=some x1) (h2:w.cell? ⟨b,2,none⟩=some x2) (h3:w.cell? ⟨b,3,none⟩=some x3) (h4:w.cell? ⟨b,4,none⟩=some x4) (h5:w.cell? ⟨b,5,none⟩=some x5):RoAt w b [x0,x1,x2,x3,x4,x5]:=⟨fun i v hv=>by
 match i,hv with
 |0,hv=>simp at hv;subst hv;exact h0
 |1,hv=>simp at hv;subst hv;exact h1
 |2,hv=>simp at hv;subst hv;exact h2
 |3,hv=>simp at hv;subst hv;exact h3
 |4,hv=>simp at hv;subst hv;exact h4
 |5,hv=>simp at hv;subst hv;exact h5⟩
theorem zau {w:World} {b:Nat} {t:TypeId} {l l':List Value} (h:RowIs w b t l) (e:l=l'):RowIs w b t l':=e▸h
def zak (pP:Planet) (x:Arc):List Value:=[.int .i64 pP.mu.lo,.int .i64 pP.mu.hi,.int .i64 pP.radius.lo,.int .i64 pP.radius.hi,.int .i64 pP.oblate.lo,.int .i64 pP.oblate.hi,.int .i64 pP.spin.lo,.int .i64 pP.spin.hi,.int .i64 pP.pull.x.lo,.int .i64 pP.pull.x.hi,.int .i64 pP.pull.y.lo,.int .i64 pP.pull.y.hi,.int .i64 pP.pull.z.lo,.int .i64 pP.pull.z.hi,.int .i64 x.time,.int .i64 x.step,.int .i64 x.thrust.lo,.int .i64 x.thrust.hi,.int .i64 x.flow.lo,.int .i64 x.flow.hi,.int .i64 x.dir.x.lo,.int .i64 x.dir.x.hi,.int .i64 x.dir.y.lo,.int .i64 x.dir.y.hi,.int .i64 x.dir.z.lo,.int .i64 x.dir.z.hi,.slice x.drag.ao x.drag.n x.drag.cap,.int .i64 x.drop.lo,.int .i64 x.drop.hi]
instance zu8 (pP:Planet) (x:Arc):CLen (zak pP x) 29:=⟨rfl⟩
instance:StructTy 101 29:=⟨⟨_,Tryz.underlying101,rfl⟩,by kernel_rfl⟩
@[go_sem] theorem ztS (pP:Planet) (x:Arc):(zak pP x)[0]?=some (.int .i64 pP.mu.lo):=rfl
@[go_sem] theorem ztT (pP:Planet) (x:Arc):(zak pP x)[1]?=some (.int .i64 pP.mu.hi):=rfl
@[go_sem] theorem ztU (pP:Planet) (x:Arc):(zak pP x)[2]?=some (.int .i64 pP.radius.lo):=rfl
@[go_sem] theorem ztV (pP:Planet) (x:Arc):(zak pP x)[3]?=some (.int .i64 pP.radius.hi):=rfl
@[go_sem] theorem ztW (pP:Planet) (x:Arc):(zak pP x)[4]?=some (.int .i64 pP.oblate.lo):=rfl
@[go_sem] theorem ztX (pP:Planet) (x:Arc):(zak pP x)[5]?=some (.int .i64 pP.oblate.hi):=rfl
@[go_sem] theorem ztY (pP:Planet) (x:Arc):(zak pP x)[6]?=some (.int .i64 pP.spin.lo):=rfl
@[go_sem] theorem ztZ (pP:Planet) (x:Arc):(zak pP x)[7]?=some (.int .i64 pP.spin.hi):=rfl
@[go_sem] theorem zt0 (pP:Planet) (x:Arc):(zak pP x)[8]?=some (.int .i64 pP.pull.x.lo):=rfl
@[go_sem] theorem zt1 (pP:Planet) (x:Arc):(zak pP x)[9]?=some (.int .i64 pP.pull.x.hi):=rfl
@[go_sem] theorem zsP (pP:Planet) (x:Arc):(zak pP x)[10]?=some (.int .i64 pP.pull.y.lo):=rfl
@[go_sem] theorem zsQ (pP:Planet) (x:Arc):(zak pP x)[11]?=some (.int .i64 pP.pull.y.hi):=rfl
@[go_sem] theorem zsR (pP:Planet) (x:Arc):(zak pP x)[12]?=some (.int .i64 pP.pull.z.lo):=rfl
@[go_sem] theorem zsS (pP:Planet) (x:Arc):(zak pP x)[13]?=some (.int .i64 pP.pull.z.hi):=rfl
@[go_sem] theorem zsT (pP:Planet) (x:Arc):(zak pP x)[14]?=some (.int .i64 x.time):=rfl
@[go_sem] theorem zsU (pP:Planet) (x:Arc):(zak pP x)[15]?=some (.int .i64 x.step):=rfl
@[go_sem] theorem zsV (pP:Planet) (x:Arc):(zak pP x)[16]?=some (.int .i64 x.thrust.lo):=rfl
@[go_sem] theorem zsW (pP:Planet) (x:Arc):(zak pP x)[17]?=some (.int .i64 x.thrust.hi):=rfl
@[go_sem] theorem zsX (pP:Planet) (x:Arc):(zak pP x)[18]?=some (.int .i64 x.flow.lo):=rfl
@[go_sem] theorem zsY (pP:Planet) (x:Arc):(zak pP x)[19]?=some (.int .i64 x.flow.hi):=rfl
@[go_sem] theorem zsZ (pP:Planet) (x:Arc):(zak pP x)[20]?=some (.int .i64 x.dir.x.lo):=rfl
@[go_sem] theorem zs0 (pP:Planet) (x:Arc):(zak pP x)[21]?=some (.int .i64 x.dir.x.hi):=rfl
@[go_sem] theorem zs1 (pP:Planet) (x:Arc):(zak pP x)[22]?=some (.int .i64 x.dir.y.lo):=rfl
@[go_sem] theorem zs2 (pP:Planet) (x:Arc):(zak pP x)[23]?=some (.int .i64 x.dir.y.hi):=rfl
@[go_sem] theorem zs3 (pP:Planet) (x:Arc):(zak pP x)[24]?=some (.int .i64 x.dir.z.lo):=rfl
@[go_sem] theorem zs4 (pP:Planet) (x:Arc):(zak pP x)[25]?=some (.int .i64 x.dir.z.hi):=rfl
@[go_sem] theorem zs5 (pP:Planet) (x:Arc):(zak pP x)[26]?=some (.slice x.drag.ao x.drag.n x.drag.cap):=rfl
@[go_sem] theorem zs6 (pP:Planet) (x:Arc):(zak pP x)[27]?=some (.int .i64 x.drop.lo):=rfl
@[go_sem] theorem zs7 (pP:Planet) (x:Arc):(zak pP x)[28]?=some (.int .i64 x.drop.hi):=rfl
theorem zbN {o:Oper} {a:Act} {w:World} {b n:Nat} {l:List Value} (ty:TypeId) (x:Operand) (ho:o.op=.load ty x) (hx:a.eval x=.pointer (some ⟨b,0,none⟩)) [hs:StructTy ty n] [hr:RowIs w b ty l] [hl:CLen l n]:zai Tryz.prog o a w (.agg l.toArray):=by
 obtain ⟨d,hd1,hd2⟩:=hs.und
 have h:(Instr.loadAt ty (.pointer (some ⟨b,0,none⟩))).run Tryz.prog w=.ok (.agg l.toArray) w:=by
  refine run_loadAt_mid w b 0 _ l d (fun i v hv=>?_) hd1 (by cases d<;>first|rfl|cases hd2) (by rw[hl.len];exact hs.sz)
  rw[Nat.zero_add,zem,hv]
 unfold zai execOp
 rw[ho]
 simp[hx,h]
structure FrAt (c:Nat) (w:World) (M:List Value) (q v:Bx) (m:Sp) (q10 q11 q12:Nat) (e:Int) (r:Sp) (o:Bx) (wx:World):Prop where
 but:But c w wx
 cell:wx.cell? ⟨c,0,none⟩=some (.int .i64 e)
 mark:wx.frozen? ⟨c,0,none⟩=false
 mdl:RowIs wx w.heap.size 101 M
 mass:RoAt wx (w.heap.size+1+1) [.int .i64 m.lo,.int .i64 m.hi]
 res:RowIs wx (w.heap.size+1+1+1) 26 [.int .i64 0,.int .i64 0,.int .i64 0,.int .i64 0,.int .i64 0,.int .i64 0]
 out:RowIs wx (w.heap.size+1+1+1+1) 26 [.int .i64 o.x.lo,.int .i64 o.x.hi,.int .i64 o.y.lo,.int .i64 o.y.hi,.int .i64 o.z.lo,.int .i64 o.z.hi]
 pl:RoAt wx q10 [.int .i64 q.x.lo,.int .i64 q.x.hi,.int .i64 q.y.lo,.int .i64 q.y.hi,.int .i64 q.z.lo,.int .i64 q.z.hi]
 ve:RoAt wx q11 [.int .i64 v.x.lo,.int .i64 v.x.hi,.int .i64 v.y.lo,.int .i64 v.y.hi,.int .i64 v.z.lo,.int .i64 v.z.hi]
 rad:RowIs wx q12 24 [.int .i64 r.lo,.int .i64 r.hi]
theorem zlx (pP:Planet) (l:List Pt) (q:Bx) (e:Int) [hp:Pl64 pP]:B64 (frPF pP l q e).b:=by
 unfold frPF
 split
 ·exact hp.pull
 ·exact zbK _ _ _ _
theorem zhj (w:Sp) (q v:Bx) (o:BRes) [h:B64 o.b]:B64 (zce w q v o).b:=by
 unfold zce
 split
 ·exact h
 ·exact ⟨zam _ _,zam _ _,h.z⟩
theorem zim (x:Arc) (m:Sp) (o:BRes) [h:B64 o.b]:B64 (zeh x m o).b:=by
 unfold zeh
 split
 ·exact h
 ·exact zbK _ _ _ _
end Go.Proofs.YtdkfkalplmgoeaaGreat
namespace Go.Proofs.YtdkfkalplmgoeaaGreat
open Go.RowKit Go.Shelf
set_option maxRecDepth 100000
set_option maxHeartbeats 32000000
instance zug (pP:Planet):CLen pP.cells 14:=⟨rfl⟩
instance arcLen (x:Arc):CLen x.cells 15:=⟨rfl⟩
instance:StructTy 43 14:=⟨⟨_,Tryz.underlying43,rfl⟩,by kernel_rfl⟩
instance:StructTy 48 15:=⟨⟨_,Tryz.underlying48,rfl⟩,by kernel_rfl⟩
@[go_sem] theorem zs8 (pP:Planet):pP.cells[0]?=some (.int .i64 pP.mu.lo):=rfl
@[go_sem] theorem zs9 (pP:Planet):pP.cells[1]?=some (.int .i64 pP.mu.hi):=rfl
@[go_sem] theorem zta (pP:Planet):pP.cells[2]?=some (.int .i64 pP.radius.lo):=rfl
@[go_sem] theorem ztb (pP:Planet):pP.cells[3]?=some (.int .i64 pP.radius.hi):=rfl
@[go_sem] theorem ztc (pP:Planet):pP.cells[4]?=some (.int .i64 pP.oblate.lo):=rfl
@[go_sem] theorem ztd (pP:Planet):pP.cells[5]?=some (.int .i64 pP.oblate.hi):=rfl
@[go_sem] theorem zte (pP:Planet):pP.cells[6]?=some (.int .i64 pP.spin.lo):=rfl
@[go_sem] theorem ztf (pP:Planet):pP.cells[7]?=some (.int .i64 pP.spin.hi):=rfl
@[go_sem] theorem ztg (pP:Planet):pP.cells[8]?=some (.int .i64 pP.pull.x.lo):=rfl
@[go_sem] theorem zth (pP:Planet):pP.cells[9]?=some (.int .i64 pP.pull.x.hi):=rfl
@[go_sem] theorem zr8 (pP:Planet):pP.cells[10]?=some (.int .i64 pP.pull.y.lo):=rfl
@[go_sem] theorem zr9 (pP:Planet):pP.cells[11]?=some (.int .i64 pP.pull.y.hi):=rfl
@[go_sem] theorem zsa (pP:Planet):pP.cells[12]?=some (.int .i64 pP.pull.z.lo):=rfl
@[go_sem] theorem zsb (pP:Planet):pP.cells[13]?=some (.int .i64 pP.pull.z.hi):=rfl
@[go_sem] theorem zvp (x:Arc):x.cells[0]?=some (.int .i64 x.time):=rfl
@[go_sem] theorem zvq (x:Arc):x.cells[1]?=some (.int .i64 x.step):=rfl
@[go_sem] theorem zvr (x:Arc):x.cells[2]?=some (.int .i64 x.thrust.lo):=rfl
@[go_sem] theorem zvs (x:Arc):x.cells[3]?=some (.int .i64 x.thrust.hi):=rfl
@[go_sem] theorem zvt (x:Arc):x.cells[4]?=some (.int .i64 x.flow.lo):=rfl
@[go_sem] theorem zvu (x:Arc):x.cells[5]?=some (.int .i64 x.flow.hi):=rfl
@[go_sem] theorem zvv (x:Arc):x.cells[6]?=some (.int .i64 x.dir.x.lo):=rfl
@[go_sem] theorem zvw (x:Arc):x.cells[7]?=some (.int .i64 x.dir.x.hi):=rfl
@[go_sem] theorem zvx (x:Arc):x.cells[8]?=some (.int .i64 x.dir.y.lo):=rfl
@[go_sem] theorem zvy (x:Arc):x.cells[9]?=some (.int .i64 x.dir.y.hi):=rfl
@[go_sem] theorem zuU (x:Arc):x.cells[10]?=some (.int .i64 x.dir.z.lo):=rfl
@[go_sem] theorem zuV (x:Arc):x.cells[11]?=some (.int .i64 x.dir.z.hi):=rfl
@[go_sem] theorem zuW (x:Arc):x.cells[12]?=some (.slice x.drag.ao x.drag.n x.drag.cap):=rfl
@[go_sem] theorem zuX (x:Arc):x.cells[13]?=some (.int .i64 x.drop.lo):=rfl
@[go_sem] theorem zuY (x:Arc):x.cells[14]?=some (.int .i64 x.drop.hi):=rfl
theorem zcP (a:Res) (g:Sp→Res) (h:∀ y,S64 (g y).s):S64 (zc0 a g).s:=by
 unfold zc0
 split
 ·exact h _
 ·exact zbE _
theorem zpu (pP:Planet) (l:List Pt) (q:Bx) (e:Int) [hp:Pl64 pP]:B64 (frPG pP l q e).b:=by
 unfold frPG
 split
 ·exact hp.pull
 ·exact ⟨zam _ _ (h:=zcP _ _ (fun _=>inferInstance)),zam _ _ (h:=zcP _ _ (fun _=>inferInstance)),zam _ _ (h:=zcP _ _ (fun _=>inferInstance))⟩
theorem zhx (x:Arc) (m:Sp) (o:BRes) [h:B64 o.b]:B64 (zaW x m o).b:=by
 unfold zaW
 split
 ·exact h
 ·exact ⟨zam _ _ (h:=zcP _ _ (fun _=>inferInstance)),zam _ _ (h:=zcP _ _ (fun _=>inferInstance)),zam _ _ (h:=zcP _ _ (fun _=>inferInstance))⟩
structure FrG (c:Nat) (w:World) (pP:Planet) (x:Arc) (q v:Bx) (m:Sp) (e:Int) (r:Sp) (o:Bx) (wx:World):Prop where
 but:But c w wx
 cell:wx.cell? ⟨c,0,none⟩=some (.int .i64 e)
 mark:wx.frozen? ⟨c,0,none⟩=false
 pl:RowIs wx w.heap.size 43 pP.cells
 ar:RowIs wx (w.heap.size+1) 48 x.cells
 pc:RowIs wx (w.heap.size+1+1) 26 [.int .i64 q.x.lo,.int .i64 q.x.hi,.int .i64 q.y.lo,.int .i64 q.y.hi,.int .i64 q.z.lo,.int .i64 q.z.hi]
 ve:RowIs wx (w.heap.size+1+1+1) 26 [.int .i64 v.x.lo,.int .i64 v.x.hi,.int .i64 v.y.lo,.int .i64 v.y.hi,.int .i64 v.z.lo,.int .i64 v.z.hi]
 ms:RowIs wx (w.heap.size+1+1+1+1) 24 [.int .i64 m.lo,.int .i64 m.hi]
 res:RowIs wx (w.heap.size+1+1+1+1+1) 26 [.int .i64 0,.int .i64 0,.int .i64 0,.int .i64 0,.int .i64 0,.int .i64 0]
 out:RowIs wx (w.heap.size+1+1+1+1+1+1) 26 [.int .i64 o.x.lo,.int .i64 o.x.hi,.int .i64 o.y.lo,.int .i64 o.y.hi,.int .i64 o.z.lo,.int .i64 o.z.hi]
 rad:RowIs wx (w.heap.size+1+1+1+1+1+1+1) 24 [.int .i64 r.lo,.int .i64 r.hi]
def tlC:Code→Code
 |.seq _ b=>b
 |c=>c
end Go.Proofs.YtdkfkalplmgoeaaGreat
