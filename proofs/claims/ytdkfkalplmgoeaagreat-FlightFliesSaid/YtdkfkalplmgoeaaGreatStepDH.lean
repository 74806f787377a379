/-
  Joined: StepD.
-/
import Derived.Test.YtdkfkalplmgoeaaGreatSpanHullH
import Derived.Test.YtdkfkalplmgoeaaGreatFolds2H
namespace Go.Proofs.YtdkfkalplmgoeaaGreat
open Go.RowKit Go.Shelf
set_option maxRecDepth 100000
set_option maxHeartbeats 16000000
theorem zav.put2 {w:World} {b:Nat} {cs:List Value} (h:zav w b cs) (j:Nat) (x:Value):zav (w.setCell ⟨b,j,none⟩ x) b (cs.set j x):=by
 intro i v hv
 rw[List.getElem?_set] at hv
 by_cases e:j=i
 ·subst e
  rw[if_pos rfl] at hv
  split at hv
  ·rename_i hl
   obtain ⟨h1,h2⟩:=h j _ (List.getElem?_eq_getElem hl)
   cases hv
   exact ⟨World.cell?_setCell_same _ _ _ h1,by rw[World.frozen?_setCell];exact h2⟩
  ·cases hv
 ·rw[if_neg e] at hv
  obtain ⟨h1,h2⟩:=h i v hv
  exact ⟨by rw[World.cell?_setCell_other _ _ _ _ (by intro e2;injection e2 with _ e3;exact e e3),h1],by rw[World.frozen?_setCell];exact h2⟩
theorem zfx (w:World) {n:Nat} [h:SizeAt w n] (cs:List Value) (t:TypeId):zav (w.alloc (.cells cs.toArray t)) n cs:=by
 obtain rfl:=h.eq
 exact zdm w cs t
theorem zav.far {w:World} {b:Nat} {cs:List Value} (c j:Nat) (v:Value) [k:Apart b c] (h:zav w b cs):zav (w.setCell ⟨c,j,none⟩ v) b cs:=fun i x hx=>by
 obtain ⟨h1,h2⟩:=h i x hx
 exact ⟨by rw[zbL];exact h1,by rw[World.frozen?_setCell];exact h2⟩
theorem zav.lat {w:World} {b:Nat} {cs:List Value} (u:Later w) [k:BlockIn w b] (h:zav w b cs):zav u.world b cs:=h.grew k.lt u.grew
theorem zav.all {w:World} {b:Nat} {cs:List Value} (o:Obj) [k:BlockIn w b] (h:zav w b cs):zav (w.alloc o) b cs:=h.grew k.lt ((Grew.refl w).alloc o)
theorem zav.drw {w:World} {b:Nat} {cs:List Value} (h:zav w b cs):zav w.drew b cs:=fun i x hx=>h i x hx
def six (q v:Bx):Nat→Sp
 |0=>q.x
 |1=>q.y
 |2=>q.z
 |3=>v.x
 |4=>v.y
 |_=>v.z
instance zo0 (q v:Bx) [hq:B64 q] [hv:B64 v] (i:Nat):S64 (six q v i):=by
 unfold six
 split
 ·exact hq.x
 ·exact hq.y
 ·exact hq.z
 ·exact hv.x
 ·exact hv.y
 ·exact hv.z
def wkR (q v mq mv:Bx) (e:Int):Nat→Res
 |0=>wdR q.x mq.x e
 |k+1=>wdR (six q v (k+1)) (six mq mv (k+1)) (wkR q v mq mv e k).e
def wkE (q v mq mv:Bx) (e:Int):Nat→Int
 |0=>e
 |k+1=>(wkR q v mq mv e k).e
theorem zuI (q v mq mv:Bx) (e:Int) (k:Nat):wkR q v mq mv e k=wdR (six q v k) (six mq mv k) (wkE q v mq mv e k):=by cases k<;>rfl
def wkS (q v mq mv:Bx) (e:Int) (k i:Nat):Sp:=if i<k then (wkR q v mq mv e i).s else six q v i
def sixL (f:Nat→Sp):List Value:=[.int .i64 ((f 0)).lo,.int .i64 ((f 0)).hi,.int .i64 ((f 1)).lo,.int .i64 ((f 1)).hi,.int .i64 ((f 2)).lo,.int .i64 ((f 2)).hi,.int .i64 ((f 3)).lo,.int .i64 ((f 3)).hi,.int .i64 ((f 4)).lo,.int .i64 ((f 4)).hi,.int .i64 ((f 5)).lo,.int .i64 ((f 5)).hi]
theorem zo5 (f:Nat→Sp) (k:Nat) (h:k<6):(sixL f)[k*2]?=some (.int .i64 (f k).lo)∧(sixL f)[k*2+1]?=some (.int .i64 (f k).hi):=by
 rcases (show k=0∨k=1∨k=2∨k=3∨k=4∨k=5 by omega) with rfl|rfl|rfl|rfl|rfl|rfl<;>exact ⟨rfl,rfl⟩
theorem zqz (f g:Nat→Sp) (k:Nat) (h:k<6) (s:Sp) (h1:g k=s) (h2:∀ i,i≠k→g i=f i):((sixL f).set (k*2) (.int .i64 s.lo)).set (k*2+1) (.int .i64 s.hi)=sixL g:=by
 subst h1
 rcases (show k=0∨k=1∨k=2∨k=3∨k=4∨k=5 by omega) with rfl|rfl|rfl|rfl|rfl|rfl<;>(unfold sixL;simp[h2])
theorem zrf (q v mq mv:Bx) (e:Int) (k:Nat):wkS q v mq mv e k k=six q v k:=if_neg (by omega)
theorem zju (q v mq mv:Bx) (e:Int) (k:Nat):wkS q v mq mv e (k+1) k=(wkR q v mq mv e k).s∧∀ i,i≠k→wkS q v mq mv e (k+1) i=wkS q v mq mv e k i:=by
 refine ⟨if_pos (by omega),fun i hi=>?_⟩
 unfold wkS
 by_cases h:i<k
 ·rw[if_pos h,if_pos (by omega)]
 ·rw[if_neg h,if_neg (by omega)]
theorem zqJ (q v mq mv:Bx) (e:Int) (k:Nat) (h:(wkR q v mq mv e k).s=six q v k):sixL (wkS q v mq mv e (k+1))=sixL (wkS q v mq mv e k):=by
 have:∀ i,wkS q v mq mv e (k+1) i=wkS q v mq mv e k i:=fun i=>by
  by_cases hi:i=k
  ·subst hi
   rw[(zju q v mq mv e i).1,zrf,h]
  ·exact (zju q v mq mv e k).2 i hi
 unfold sixL
 simp only[this]
theorem zuJ (q v mq mv:Bx) (e:Int):sixL (wkS q v mq mv e 6)=[.int .i64 ((widC wdR q v mq mv e).p).x.lo,.int .i64 ((widC wdR q v mq mv e).p).x.hi,.int .i64 ((widC wdR q v mq mv e).p).y.lo,.int .i64 ((widC wdR q v mq mv e).p).y.hi,.int .i64 ((widC wdR q v mq mv e).p).z.lo,.int .i64 ((widC wdR q v mq mv e).p).z.hi,.int .i64 ((widC wdR q v mq mv e).v).x.lo,.int .i64 ((widC wdR q v mq mv e).v).x.hi,.int .i64 ((widC wdR q v mq mv e).v).y.lo,.int .i64 ((widC wdR q v mq mv e).v).y.hi,.int .i64 ((widC wdR q v mq mv e).v).z.lo,.int .i64 ((widC wdR q v mq mv e).v).z.hi]∧wkE q v mq mv e 6=(widC wdR q v mq mv e).e:=⟨rfl,rfl⟩
theorem zuF (b m:Sp) (e:Int):0≤(zbH (wdH b m e).s).n∧(zbH (wdH b m e).s).n≤9223372036854775807:=by
 by_cases h:(wdH b m e).s.okB=true
 ·exact zpk h
 ·unfold zbH
  rw[if_neg h]
  exact ⟨Int.le_refl _,by decide⟩
theorem znm:zkr 173 zbh:=fun w a b _ _=>zmY a b w
theorem zpx:zkr 32 addR:=fun w a b _ _=>zdV a b w
structure WidAt (q v mq mv:Bx) (e:Int) (c:Nat) (w:World) (k:Nat) (wr:World):Prop where
 but:But c w wr
 cell:wr.cell? ⟨c,0,none⟩=some (.int .i64 (wkE q v mq mv e k))
 mark:wr.frozen? ⟨c,0,none⟩=false
 b:zav wr w.heap.size (sixL (wkS q v mq mv e k))
 m:zav wr (w.heap.size+1) (sixL (six mq mv))
 o:zav wr (w.heap.size+1+1) (sixL (fun _=>z0))
theorem zcT {c:Nat} {w wx wy:World} {q:Nat} (h:But c w wx) [k:NewFor wx wy.heap.size] (n:NewFor wy q):NewFor w q:=⟨Nat.le_trans h.size (Nat.le_trans k.le n.le)⟩
theorem zls (q v mq mv:Bx) [hq:B64 q] [hv:B64 v] [hmq:B64 mq] [hmv:B64 mv] (c:Nat) (e:Int) (w:World) (hc:w.cell? ⟨c,0,none⟩=some (.int .i64 e)) (hf:w.frozen? ⟨c,0,none⟩=false) :
 Calls Tryz.prog 152 #[.pointer (some ⟨c,0,none⟩),.agg #[.int .i64 q.x.lo,.int .i64 q.x.hi,.int .i64 q.y.lo,.int .i64 q.y.hi,.int .i64 q.z.lo,.int .i64 q.z.hi,.int .i64 v.x.lo,.int .i64 v.x.hi,.int .i64 v.y.lo,.int .i64 v.y.hi,.int .i64 v.z.lo,.int .i64 v.z.hi],.agg #[.int .i64 mq.x.lo,.int .i64 mq.x.hi,.int .i64 mq.y.lo,.int .i64 mq.y.hi,.int .i64 mq.z.lo,.int .i64 mq.z.hi,.int .i64 mv.x.lo,.int .i64 mv.x.hi,.int .i64 mv.y.lo,.int .i64 mv.y.hi,.int .i64 mv.z.lo,.int .i64 mv.z.hi]] w (RetC c (.agg #[.int .i64 ((widC wdR q v mq mv e).p).x.lo,.int .i64 ((widC wdR q v mq mv e).p).x.hi,.int .i64 ((widC wdR q v mq mv e).p).y.lo,.int .i64 ((widC wdR q v mq mv e).p).y.hi,.int .i64 ((widC wdR q v mq mv e).p).z.lo,.int .i64 ((widC wdR q v mq mv e).p).z.hi,.int .i64 ((widC wdR q v mq mv e).v).x.lo,.int .i64 ((widC wdR q v mq mv e).v).x.hi,.int .i64 ((widC wdR q v mq mv e).v).y.lo,.int .i64 ((widC wdR q v mq mv e).v).y.hi,.int .i64 ((widC wdR q v mq mv e).v).z.lo,.int .i64 ((widC wdR q v mq mv e).v).z.hi]) (widC wdR q v mq mv e).e w):=by
 have ib:BlockIn w c:=BlockIn.of_cell hc
 have hci:HasCell w c 0:=⟨_,hc⟩
 have Hb:=Lib.hid (But.refl hc)
 have Hc:=Lib.hid hc
 have HE:=Lib.hid (zuJ q v mq mv e)
 have HIS:=Lib.hid (zuI q v mq mv e)
 have HAT:=Lib.hid (zrf q v mq mv e)
 have HNX:=Lib.hid (zju q v mq mv e)
 have HSM:=Lib.hid (zqJ q v mq mv e)
 have HEK:=Lib.hid (fun k=>show wkE q v mq mv e (k+1)=(wkR q v mq mv e k).e from rfl)
 generalize widC wdR q v mq mv e=C at *
 have B0:zav (w.alloc (.cells #[.int .i64 q.x.lo,.int .i64 q.x.hi,.int .i64 q.y.lo,.int .i64 q.y.hi,.int .i64 q.z.lo,.int .i64 q.z.hi,.int .i64 v.x.lo,.int .i64 v.x.hi,.int .i64 v.y.lo,.int .i64 v.y.hi,.int .i64 v.z.lo,.int .i64 v.z.hi] 163)) w.heap.size (sixL (wkS q v mq mv e 0)):=zdm w [.int .i64 q.x.lo,.int .i64 q.x.hi,.int .i64 q.y.lo,.int .i64 q.y.hi,.int .i64 q.z.lo,.int .i64 q.z.hi,.int .i64 v.x.lo,.int .i64 v.x.hi,.int .i64 v.y.lo,.int .i64 v.y.hi,.int .i64 v.z.lo,.int .i64 v.z.hi] 163
 have B1:zav ((w.alloc (.cells #[.int .i64 q.x.lo,.int .i64 q.x.hi,.int .i64 q.y.lo,.int .i64 q.y.hi,.int .i64 q.z.lo,.int .i64 q.z.hi,.int .i64 v.x.lo,.int .i64 v.x.hi,.int .i64 v.y.lo,.int .i64 v.y.hi,.int .i64 v.z.lo,.int .i64 v.z.hi] 163)).alloc (.cells #[.int .i64 mq.x.lo,.int .i64 mq.x.hi,.int .i64 mq.y.lo,.int .i64 mq.y.hi,.int .i64 mq.z.lo,.int .i64 mq.z.hi,.int .i64 mv.x.lo,.int .i64 mv.x.hi,.int .i64 mv.y.lo,.int .i64 mv.y.hi,.int .i64 mv.z.lo,.int .i64 mv.z.hi] 163)) (w.heap.size+1) (sixL (six mq mv)):=zfx _ [.int .i64 mq.x.lo,.int .i64 mq.x.hi,.int .i64 mq.y.lo,.int .i64 mq.y.hi,.int .i64 mq.z.lo,.int .i64 mq.z.hi,.int .i64 mv.x.lo,.int .i64 mv.x.hi,.int .i64 mv.y.lo,.int .i64 mv.y.hi,.int .i64 mv.z.lo,.int .i64 mv.z.hi] 163
 have B2:zav (((w.alloc (.cells #[.int .i64 q.x.lo,.int .i64 q.x.hi,.int .i64 q.y.lo,.int .i64 q.y.hi,.int .i64 q.z.lo,.int .i64 q.z.hi,.int .i64 v.x.lo,.int .i64 v.x.hi,.int .i64 v.y.lo,.int .i64 v.y.hi,.int .i64 v.z.lo,.int .i64 v.z.hi] 163)).alloc (.cells #[.int .i64 mq.x.lo,.int .i64 mq.x.hi,.int .i64 mq.y.lo,.int .i64 mq.y.hi,.int .i64 mq.z.lo,.int .i64 mq.z.hi,.int .i64 mv.x.lo,.int .i64 mv.x.hi,.int .i64 mv.y.lo,.int .i64 mv.y.hi,.int .i64 mv.z.lo,.int .i64 mv.z.hi] 163)).alloc (.cells #[.int .i64 0,.int .i64 0,.int .i64 0,.int .i64 0,.int .i64 0,.int .i64 0,.int .i64 0,.int .i64 0,.int .i64 0,.int .i64 0,.int .i64 0,.int .i64 0] 163)) (w.heap.size+1+1) (sixL (fun _=>z0)):=zfx _ [.int .i64 0,.int .i64 0,.int .i64 0,.int .i64 0,.int .i64 0,.int .i64 0,.int .i64 0,.int .i64 0,.int .i64 0,.int .i64 0,.int .i64 0,.int .i64 0] 163
 have b0:=Lib.hid B0
 have b1:=Lib.hid B1
 have b2:=Lib.hid B2
 clear B0 B1 B2
 go_enter Tryz.func152,Tryz.ntmps152
 go_wp2
 go_loopw [12] (fun t wr=>∃ k:Nat,t=.int .i64 k∧k≤6∧Hid (WidAt q v mq mv e c w k wr)) (fun t _=>6-(intOf t).toNat)
 case atStart=>
  refine ⟨0,rfl,by omega,Lib.hid ⟨btw,by go_simp;rfl,by go_simp,?_,?_,?_⟩⟩
  ·exact b0.out.grew (by simp) gw
  ·exact b1.out.grew (by simp) gw
  ·exact b2.out
 case round=>
  obtain ⟨k,rfl,hk,hE⟩:=hrel
  obtain ⟨h1,h2,h3,h4,h5,h6⟩:=hE.out
  clear hE b0 b1 b2
  have Hb:=Lib.hid h1
  have ibw:BlockIn wr c:=BlockIn.of_cell h2
  have hcw:HasCell wr c 0:=⟨_,h2⟩
  have hlt:=ib.lt
  have:Apart (c) (w.heap.size):=⟨by omega⟩
  have:Apart (c) (w.heap.size+1):=⟨by omega⟩
  have:Apart (c) (w.heap.size+1+1):=⟨by omega⟩
  have:Apart (w.heap.size) (c):=⟨by omega⟩
  have:Apart (w.heap.size+1) (c):=⟨by omega⟩
  have:Apart (w.heap.size+1+1) (c):=⟨by omega⟩
  have i0:BlockIn wr w.heap.size:=⟨Nat.lt_of_lt_of_le (by omega) (show w.heap.size+1≤wr.heap.size from by have:=BlockIn.of_cell (h4 0 _ rfl).1;have:=this.lt;omega)⟩
  have i1:BlockIn wr (w.heap.size+1):=BlockIn.of_cell (h5 0 _ rfl).1
  have i2:BlockIn wr (w.heap.size+1+1):=BlockIn.of_cell (h6 0 _ rfl).1
  clear h1 hc hf hci
  have H4:=Lib.hid h4
  have H5:=Lib.hid h5
  have H6:=Lib.hid h6
  by_cases hlt6:k<6
  ·obtain ⟨a1,a2⟩:=zo5 (wkS q v mq mv e k) k hlt6
   obtain ⟨a3,a4⟩:=zo5 (six mq mv) k hlt6
   rw[HAT.out k] at a1 a2
   obtain ⟨x1,y1⟩:=h4 _ _ a1
   obtain ⟨x2,y2⟩:=h4 _ _ a2
   obtain ⟨x3,y3⟩:=h5 _ _ a3
   obtain ⟨x4,y4⟩:=h5 _ _ a4
   clear a1 a2 a3 a4 h4 h5 h6
   have hIS:=HIS.out k
   have sx:=zo0 q v k
   have sm:=zo0 mq mv k
   have HN:=Lib.hid (fun (C2:Res) (h:wkR q v mq mv e k=C2)=>zqz (wkS q v mq mv e k) (wkS q v mq mv e (k+1)) k hlt6 C2.s (by rw[(HNX.out k).1,h]) (HNX.out k).2)
   have HK:=Lib.hid (HEK.out k)
   have HS:=Lib.hid (HSM.out k)
   have hk6:(k:Int)<6:=by omega
   generalize six q v k=x at *
   generalize six mq mv k=m at *
   generalize hR:wkR q v mq mv e k=R at *
   generalize wkE q v mq mv e k=ek at *
   have x1':=Lib.hid x1
   cases hb:m.inB x
   ·have HR2:=Lib.hid (show R=doR (wdE x m ek) (addR (wdH x m ek).s ⟨-wdBy x m ek,wdBy x m ek⟩) by rw[hIS];unfold wdR;rw[hb];rfl)
    have W1:=Lib.hid (fun w=>zaz hb (zaK m x w))
    have sH:S64 (wdH x m ek).s:=zam _ _
    obtain ⟨n0,n1⟩:=zuF x m ek
    have K1:=Lib.hid (fun w hc hf=>show Calls Tryz.prog 150 #[.pointer (some ⟨c,0,none⟩),.func (.func 173) #[] #[],.agg #[.int .i64 x.lo,.int .i64 x.hi],.agg #[.int .i64 m.lo,.int .i64 m.hi]] w (RetC c (.agg #[.int .i64 ((wdH x m ek).s).lo,.int .i64 ((wdH x m ek).s).hi]) (wdH x m ek).e w) from zgC 173 zbh (enters_of Tryz.func173 (by kernel_rfl) rfl) znm c ek x m w hc hf)
    have K2:=Lib.hid (fun w=>zm1 (wdH x m ek).s w)
    have hby:wdBy x m ek=(zbH (wdH x m ek).s).n/8+65536:=rfl
    have hE2:wdE x m ek=doN (wdH x m ek).e (zbH (wdH x m ek).s):=rfl
    generalize wdBy x m ek=by_ at *
    generalize wdE x m ek=e2 at *
    generalize wdH x m ek=H at *
    generalize zbH H.s=N at *
    have sb:S64 (⟨-by_,by_⟩:Sp):=⟨⟨by simp only;omega,by simp only;omega⟩,⟨by simp only;omega,by simp only;omega⟩⟩
    have J3:=Lib.hid (fun (e3:Int) (h3:e2=e3) (w:World) (hc:w.cell? ⟨c,0,none⟩=some (.int .i64 e3)) (hf:w.frozen? ⟨c,0,none⟩=false)=>show Calls Tryz.prog 150 #[.pointer (some ⟨c,0,none⟩),.func (.func 32) #[] #[],.agg #[.int .i64 H.s.lo,.int .i64 H.s.hi],.agg #[.int .i64 ((⟨-(N.n/8+65536),N.n/8+65536⟩:Sp)).lo,.int .i64 ((⟨-(N.n/8+65536),N.n/8+65536⟩:Sp)).hi]] w (RetC c (.agg #[.int .i64 R.s.lo,.int .i64 R.s.hi]) R.e w) from by
     subst h3
     rw[HR2.out,←hby]
     exact zgC 32 addR (enters_of Tryz.func32 (by kernel_rfl) rfl) zpx c e2 H.s ⟨-by_,by_⟩ w hc hf)
    have hw:IntKind.i64.wrap (-(N.n/8+65536))=-(N.n/8+65536):=by simp[IntKind.wrap,IntKind.bits,IntKind.signed];omega
    have HN2:=Lib.hid (HN.out R rfl)
    clear hIS HR2 hby HN HS hb hR
    by_cases hz:H.e=0
    ·have hz':(H.e==0)=true:=by simp[hz]
     have K3:=Lib.hid (J3.out N.e (show e2=N.e by rw[hE2,hz];rfl))
     clear hz hE2 J3
     go_wp2_with (first|(go_at_call 94;(with_reducible refine zaa (W1.out _) ?_);intro u)|((with_reducible refine zab ?_ ?_ ?_);(· kernel_rfl);(· kernel_rfl);(try simp only[List.append_eq,List.cons_append,List.nil_append]);(repeat (go_big_quiet_step ((first|(go_at_call 94;(with_reducible exact zac (W1.out _)))))));refine wpQuiet_nil ?_;rintro _ ⟨u,rfl⟩))
     refine zaf c [ek,H.e] 9 [8] [7] [] (fun W0=>[(8,BoxR W0 [.int .i64 0,.int .i64 0])]) [.agg #[.int .i64 H.s.lo,.int .i64 H.s.hi]] [9] (by rfl) (by go_simp) (by go_simp) (by intro W0 hW0 x hx;simp only[List.mem_cons,List.not_mem_nil,or_false] at hx;rcases hx with rfl<;>first|exact zbc _ _ hW0 _) (by kernel_rfl) (by kernel_rfl) (by kernel_rfl) ?_
     intro pz hd0
     apply Exists.intro
     apply And.intro
     iterate 7 (apply zae hd0 (by kernel_rfl);(· intro uz xc;unfold zai;go_simp;rfl))
     apply zad hd0 0 (by kernel_rfl) (by rfl) (by decide)
     ·intro uz hfz hF;clear hF;unfold zah;go_simp;exact K1.out _ (by go_simp) hfz
     apply zbd hd0 (by kernel_rfl)
     ·intro uz xc hF;clear hF;unfold za5;go_simp;refine (show Made (BoxR _ [.int .i64 0,.int .i64 0]) _ _ _ from ?_);exact zbe _ _ _ _
     apply zax
     rotate_left
     ·rfl
     intro uz hR hD hfz
     obtain ⟨q8,e8,hB8,kB8,nB8⟩:=(show BoxR _ [.int .i64 0,.int .i64 0] (pz 8) _ from hR 8 (by decide))
     clear hR hD
     rw[e8]
     clear e8
     have oB8:=zaG nB8
     have oC8:=zaH nB8
     have hB8:=zbq hB8 hd0 nB8
     have kB8:=za0 kB8
     have hB8_0:=(hB8 0 _ rfl).1
     have hB8f0:=(hB8 0 _ rfl).2
     have hB8i0:HasCell (uz.world) (q8) 0:=⟨_,hB8_0⟩
     have hB8_1:=(hB8 1 _ rfl).1
     have hB8f1:=(hB8 1 _ rfl).2
     have hB8i1:HasCell (uz.world) (q8) 1:=⟨_,hB8_1⟩
     have hB8b:BlockIn (uz.world) (q8):=BlockIn.of_cell hB8_0
     clear hB8
     refine zag (by rfl) ?_;unfold zap;go_simp
     refine zao ?_
     have nw8:NewFor w q8:=zcT Hb.out nB8
     go_wp2_with (first|(go_at_call 189;(with_reducible refine zaa (K2.out _) ?_);intro u2)|(go_at_call 150;(with_reducible refine zar (K3.out _ ?_ ?_) ?_);(· go_simp);(· go_simp);intro u3))
     go_roundw
     case rel=>exact ⟨k+1,by go_num,by omega,Lib.hid ⟨btw,by rw[HK.out];go_simp,by go_simp,by rw[←HN2.out];exact zav.put2 (zav.put2 ((by repeat (first|exact H4.out|apply zav.far|apply zav.lat|apply zav.all|apply zav.drw))) _ _) _ _,zav.far _ _ _ (zav.far _ _ _ ((by repeat (first|exact H5.out|apply zav.far|apply zav.lat|apply zav.all|apply zav.drw)))),zav.far _ _ _ (zav.far _ _ _ ((by repeat (first|exact H6.out|apply zav.far|apply zav.lat|apply zav.all|apply zav.drw))))⟩⟩
     case measure=>simp[intOf];omega
    ·have hz':(H.e==0)=false:=by simp[hz]
     have K3:=Lib.hid (J3.out H.e (show e2=H.e by rw[hE2];unfold doN;rw[if_neg hz]))
     clear hz hE2 J3
     go_wp2_with (first|(go_at_call 94;(with_reducible refine zaa (W1.out _) ?_);intro u)|((with_reducible refine zab ?_ ?_ ?_);(· kernel_rfl);(· kernel_rfl);(try simp only[List.append_eq,List.cons_append,List.nil_append]);(repeat (go_big_quiet_step ((first|(go_at_call 94;(with_reducible exact zac (W1.out _)))))));refine wpQuiet_nil ?_;rintro _ ⟨u,rfl⟩))
     refine zaf c [ek,H.e] 9 [8] [7] [] (fun W0=>[(8,BoxR W0 [.int .i64 0,.int .i64 0])]) [.agg #[.int .i64 H.s.lo,.int .i64 H.s.hi]] [9] (by rfl) (by go_simp) (by go_simp) (by intro W0 hW0 x hx;simp only[List.mem_cons,List.not_mem_nil,or_false] at hx;rcases hx with rfl<;>first|exact zbc _ _ hW0 _) (by kernel_rfl) (by kernel_rfl) (by kernel_rfl) ?_
     intro pz hd0
     apply Exists.intro
     apply And.intro
     iterate 7 (apply zae hd0 (by kernel_rfl);(· intro uz xc;unfold zai;go_simp;rfl))
     apply zad hd0 0 (by kernel_rfl) (by rfl) (by decide)
     ·intro uz hfz hF;clear hF;unfold zah;go_simp;exact K1.out _ (by go_simp) hfz
     apply zbd hd0 (by kernel_rfl)
     ·intro uz xc hF;clear hF;unfold za5;go_simp;refine (show Made (BoxR _ [.int .i64 0,.int .i64 0]) _ _ _ from ?_);exact zbe _ _ _ _
     apply zax
     rotate_left
     ·rfl
     intro uz hR hD hfz
     obtain ⟨q8,e8,hB8,kB8,nB8⟩:=(show BoxR _ [.int .i64 0,.int .i64 0] (pz 8) _ from hR 8 (by decide))
     clear hR hD
     rw[e8]
     clear e8
     have oB8:=zaG nB8
     have oC8:=zaH nB8
     have hB8:=zbq hB8 hd0 nB8
     have kB8:=za0 kB8
     have hB8_0:=(hB8 0 _ rfl).1
     have hB8f0:=(hB8 0 _ rfl).2
     have hB8i0:HasCell (uz.world) (q8) 0:=⟨_,hB8_0⟩
     have hB8_1:=(hB8 1 _ rfl).1
     have hB8f1:=(hB8 1 _ rfl).2
     have hB8i1:HasCell (uz.world) (q8) 1:=⟨_,hB8_1⟩
     have hB8b:BlockIn (uz.world) (q8):=BlockIn.of_cell hB8_0
     clear hB8
     refine zag (by rfl) ?_;unfold zap;go_simp
     refine zao ?_
     have nw8:NewFor w q8:=zcT Hb.out nB8
     go_wp2_with (first|(go_at_call 189;(with_reducible refine zaa (K2.out _) ?_);intro u2)|(go_at_call 150;(with_reducible refine zar (K3.out _ ?_ ?_) ?_);(· go_simp);(· go_simp);intro u3))
     go_roundw
     case rel=>exact ⟨k+1,by go_num,by omega,Lib.hid ⟨btw,by rw[HK.out];go_simp,by go_simp,by rw[←HN2.out];exact zav.put2 (zav.put2 ((by repeat (first|exact H4.out|apply zav.far|apply zav.lat|apply zav.all|apply zav.drw))) _ _) _ _,zav.far _ _ _ (zav.far _ _ _ ((by repeat (first|exact H5.out|apply zav.far|apply zav.lat|apply zav.all|apply zav.drw)))),zav.far _ _ _ (zav.far _ _ _ ((by repeat (first|exact H6.out|apply zav.far|apply zav.lat|apply zav.all|apply zav.drw))))⟩⟩
     case measure=>simp[intOf];omega
   ·have hR2:R=⟨x,ek⟩:=by rw[hIS];unfold wdR;rw[if_pos hb]
    have HS2:=Lib.hid (HS.out (by rw[hR2]))
    have HK2:=Lib.hid (show wkE q v mq mv e (k+1)=ek by rw[HK.out,hR2])
    have W1:=Lib.hid (fun w=>zaz hb (zaK m x w))
    clear hIS hR2 HN HK HS hb hR
    go_wp2_with (first|(go_at_call 94;(with_reducible refine zaa (W1.out _) ?_);intro u)|((with_reducible refine zab ?_ ?_ ?_);(· kernel_rfl);(· kernel_rfl);(try simp only[List.append_eq,List.cons_append,List.nil_append]);(repeat (go_big_quiet_step ((first|(go_at_call 94;(with_reducible exact zac (W1.out _)))))));refine wpQuiet_nil ?_;rintro _ ⟨u,rfl⟩))
    go_roundw
    case rel=>exact ⟨k+1,by go_num,by omega,Lib.hid ⟨btw,by rw[HK2.out];go_simp,by go_simp,by rw[HS2.out];exact H4.out.grew i0.lt gw,H5.out.grew i1.lt gw,H6.out.grew i2.lt gw⟩⟩
    case measure=>simp[intOf];omega
  ·obtain rfl:k=6:=by omega
   obtain ⟨e1,e2⟩:=HE.out
   rw[e1] at h4
   rw[e2] at h2
   clear h5
   have h4_0:=(h4 0 _ rfl).1
   have h4f0:=(h4 0 _ rfl).2
   have h4i0:HasCell (wr) (w.heap.size) 0:=⟨_,h4_0⟩
   have h4_1:=(h4 1 _ rfl).1
   have h4f1:=(h4 1 _ rfl).2
   have h4i1:HasCell (wr) (w.heap.size) 1:=⟨_,h4_1⟩
   have h4_2:=(h4 2 _ rfl).1
   have h4f2:=(h4 2 _ rfl).2
   have h4i2:HasCell (wr) (w.heap.size) 2:=⟨_,h4_2⟩
   have h4_3:=(h4 3 _ rfl).1
   have h4f3:=(h4 3 _ rfl).2
   have h4i3:HasCell (wr) (w.heap.size) 3:=⟨_,h4_3⟩
   have h4_4:=(h4 4 _ rfl).1
   have h4f4:=(h4 4 _ rfl).2
   have h4i4:HasCell (wr) (w.heap.size) 4:=⟨_,h4_4⟩
   have h4_5:=(h4 5 _ rfl).1
   have h4f5:=(h4 5 _ rfl).2
   have h4i5:HasCell (wr) (w.heap.size) 5:=⟨_,h4_5⟩
   have h4_6:=(h4 6 _ rfl).1
   have h4f6:=(h4 6 _ rfl).2
   have h4i6:HasCell (wr) (w.heap.size) 6:=⟨_,h4_6⟩
   have h4_7:=(h4 7 _ rfl).1
   have h4f7:=(h4 7 _ rfl).2
   have h4i7:HasCell (wr) (w.heap.size) 7:=⟨_,h4_7⟩
   have h4_8:=(h4 8 _ rfl).1
   have h4f8:=(h4 8 _ rfl).2
   have h4i8:HasCell (wr) (w.heap.size) 8:=⟨_,h4_8⟩
   have h4_9:=(h4 9 _ rfl).1
   have h4f9:=(h4 9 _ rfl).2
   have h4i9:HasCell (wr) (w.heap.size) 9:=⟨_,h4_9⟩
   have h4_10:=(h4 10 _ rfl).1
   have h4f10:=(h4 10 _ rfl).2
   have h4i10:HasCell (wr) (w.heap.size) 10:=⟨_,h4_10⟩
   have h4_11:=(h4 11 _ rfl).1
   have h4f11:=(h4 11 _ rfl).2
   have h4i11:HasCell (wr) (w.heap.size) 11:=⟨_,h4_11⟩
   have h4b:BlockIn (wr) (w.heap.size):=BlockIn.of_cell h4_0
   clear h4
   have h6_0:=(h6 0 _ rfl).1
   have h6f0:=(h6 0 _ rfl).2
   have h6i0:HasCell (wr) (w.heap.size+1+1) 0:=⟨_,h6_0⟩
   have h6_1:=(h6 1 _ rfl).1
   have h6f1:=(h6 1 _ rfl).2
   have h6i1:HasCell (wr) (w.heap.size+1+1) 1:=⟨_,h6_1⟩
   have h6_2:=(h6 2 _ rfl).1
   have h6f2:=(h6 2 _ rfl).2
   have h6i2:HasCell (wr) (w.heap.size+1+1) 2:=⟨_,h6_2⟩
   have h6_3:=(h6 3 _ rfl).1
   have h6f3:=(h6 3 _ rfl).2
   have h6i3:HasCell (wr) (w.heap.size+1+1) 3:=⟨_,h6_3⟩
   have h6_4:=(h6 4 _ rfl).1
   have h6f4:=(h6 4 _ rfl).2
   have h6i4:HasCell (wr) (w.heap.size+1+1) 4:=⟨_,h6_4⟩
   have h6_5:=(h6 5 _ rfl).1
   have h6f5:=(h6 5 _ rfl).2
   have h6i5:HasCell (wr) (w.heap.size+1+1) 5:=⟨_,h6_5⟩
   have h6_6:=(h6 6 _ rfl).1
   have h6f6:=(h6 6 _ rfl).2
   have h6i6:HasCell (wr) (w.heap.size+1+1) 6:=⟨_,h6_6⟩
   have h6_7:=(h6 7 _ rfl).1
   have h6f7:=(h6 7 _ rfl).2
   have h6i7:HasCell (wr) (w.heap.size+1+1) 7:=⟨_,h6_7⟩
   have h6_8:=(h6 8 _ rfl).1
   have h6f8:=(h6 8 _ rfl).2
   have h6i8:HasCell (wr) (w.heap.size+1+1) 8:=⟨_,h6_8⟩
   have h6_9:=(h6 9 _ rfl).1
   have h6f9:=(h6 9 _ rfl).2
   have h6i9:HasCell (wr) (w.heap.size+1+1) 9:=⟨_,h6_9⟩
   have h6_10:=(h6 10 _ rfl).1
   have h6f10:=(h6 10 _ rfl).2
   have h6i10:HasCell (wr) (w.heap.size+1+1) 10:=⟨_,h6_10⟩
   have h6_11:=(h6 11 _ rfl).1
   have h6f11:=(h6 11 _ rfl).2
   have h6i11:HasCell (wr) (w.heap.size+1+1) 11:=⟨_,h6_11⟩
   have h6b:BlockIn (wr) (w.heap.size+1+1):=BlockIn.of_cell h6_0
   clear h6
   go_wp2
   refine bodyPost_ret (by (simp[results,Tryz.results152,go_sem]<;>rfl)) rfl ?_
   exact ⟨rfl,But.out btw Hc.out (by go_simp)⟩
end Go.Proofs.YtdkfkalplmgoeaaGreat
