/-
  Joined: StepRs.
-/
import Derived.Test.YtdkfkalplmgoeaaGreatStepDH
import Derived.Test.YtdkfkalplmgoeaaGreatStepFGHH
import Derived.Test.YtdkfkalplmgoeaaGreatStepEH
namespace Go.Proofs.YtdkfkalplmgoeaaGreat
open Go.RowKit Go.Shelf
set_option maxRecDepth 100000
set_option maxHeartbeats 16000000
set_option linter.unusedSimpArgs false
def gkE (q mq:Bx) (e:Int):Nat→Int
 |0=>e
 |k+1=>(gwR (axAt q k) (axAt mq k) (gkE q mq e k)).e
def gkS (q mq:Bx) (e:Int) (k i:Nat):Sp:=if i<k then (gwR (axAt q i) (axAt mq i) (gkE q mq e i)).s else axAt q i
def boxL (f:Nat→Sp):List Value:=[.int .i64 ((f 0)).lo,.int .i64 ((f 0)).hi,.int .i64 ((f 1)).lo,.int .i64 ((f 1)).hi,.int .i64 ((f 2)).lo,.int .i64 ((f 2)).hi]
theorem znq (f:Nat→Sp) (k:Nat) (h:k<3):(boxL f)[k*2]?=some (.int .i64 (f k).lo)∧(boxL f)[k*2+1]?=some (.int .i64 (f k).hi):=by
 rcases (show k=0∨k=1∨k=2 by omega) with rfl|rfl|rfl<;>exact ⟨rfl,rfl⟩
theorem zpB (f g:Nat→Sp) (k:Nat) (h:k<3) (s:Sp) (h1:g k=s) (h2:∀ i,i≠k→g i=f i):((boxL f).set (k*2) (.int .i64 s.lo)).set (k*2+1) (.int .i64 s.hi)=boxL g:=by
 subst h1
 rcases (show k=0∨k=1∨k=2 by omega) with rfl|rfl|rfl<;>(unfold boxL;simp[h2])
theorem zqR (q mq:Bx) (e:Int) (k:Nat):gkS q mq e k k=axAt q k:=if_neg (by omega)
theorem zja (q mq:Bx) (e:Int) (k:Nat):gkS q mq e (k+1) k=(gwR (axAt q k) (axAt mq k) (gkE q mq e k)).s∧∀ i,i≠k→gkS q mq e (k+1) i=gkS q mq e k i:=by
 refine ⟨if_pos (by omega),fun i hi=>?_⟩
 unfold gkS
 by_cases h:i<k
 ·rw[if_pos h,if_pos (by omega)]
 ·rw[if_neg h,if_neg (by omega)]
theorem zpL (q mq:Bx) (e:Int) (k:Nat) (h:(gwR (axAt q k) (axAt mq k) (gkE q mq e k)).s=axAt q k):boxL (gkS q mq e (k+1))=boxL (gkS q mq e k):=by
 have:∀ i,gkS q mq e (k+1) i=gkS q mq e k i:=fun i=>by
  by_cases hi:i=k
  ·subst hi
   rw[(zja q mq e i).1,zqR,h]
  ·exact (zja q mq e k).2 i hi
 unfold boxL
 simp only[this]
theorem ztF (q mq:Bx) (e:Int):boxL (gkS q mq e 3)=[.int .i64 ((widB gwR q mq e).b).x.lo,.int .i64 ((widB gwR q mq e).b).x.hi,.int .i64 ((widB gwR q mq e).b).y.lo,.int .i64 ((widB gwR q mq e).b).y.hi,.int .i64 ((widB gwR q mq e).b).z.lo,.int .i64 ((widB gwR q mq e).b).z.hi]∧gkE q mq e 3=(widB gwR q mq e).e:=⟨rfl,rfl⟩
theorem zv7 (e:Int) (a:Sp):0≤wcN e (zbH a)∧wcN e (zbH a)≤9223372036854775807:=by
 unfold wcN
 split
 ·by_cases h:a.okB=true
  ·exact zpk h
  ·unfold zbH
   rw[if_neg h]
   exact ⟨Int.le_refl _,by decide⟩
 ·exact ⟨Int.le_refl _,by decide⟩
theorem zrM (b m:Sp) (h:m.inB b=false):gwR b m 0=doR (doN (zbh b m).e (zbH (zbh b m).s)) (zfg (zbh b m).s (wcN (zbh b m).e (zbH (zbh b m).s)/8+65536)):=by
 unfold gwR
 rw[h]
 rfl
structure GroAt (q mq:Bx) (e:Int) (c:Nat) (w:World) (k:Nat) (wr:World):Prop where
 but:But c w wr
 cell:wr.cell? ⟨c,0,none⟩=some (.int .i64 (gkE q mq e k))
 mark:wr.frozen? ⟨c,0,none⟩=false
 b:zav wr w.heap.size (boxL (gkS q mq e k))
 m:zav wr (w.heap.size+1) (boxL (axAt mq))
 o:zav wr (w.heap.size+1+1) (boxL (fun _=>z0))
theorem zjR (q mq:Bx) [hq:B64 q] [hmq:B64 mq] (c:Nat) (e:Int) (w:World) (hc:w.cell? ⟨c,0,none⟩=some (.int .i64 e)) (hf:w.frozen? ⟨c,0,none⟩=false) :
 Calls Tryz.prog 58 #[.pointer (some ⟨c,0,none⟩),.agg #[.int .i64 q.x.lo,.int .i64 q.x.hi,.int .i64 q.y.lo,.int .i64 q.y.hi,.int .i64 q.z.lo,.int .i64 q.z.hi],.agg #[.int .i64 mq.x.lo,.int .i64 mq.x.hi,.int .i64 mq.y.lo,.int .i64 mq.y.hi,.int .i64 mq.z.lo,.int .i64 mq.z.hi]] w (RetC c (.agg #[.int .i64 ((widB gwR q mq e).b).x.lo,.int .i64 ((widB gwR q mq e).b).x.hi,.int .i64 ((widB gwR q mq e).b).y.lo,.int .i64 ((widB gwR q mq e).b).y.hi,.int .i64 ((widB gwR q mq e).b).z.lo,.int .i64 ((widB gwR q mq e).b).z.hi]) (widB gwR q mq e).e w):=by
 have ib:BlockIn w c:=BlockIn.of_cell hc
 have hci:HasCell w c 0:=⟨_,hc⟩
 have Hb:=Lib.hid (But.refl hc)
 have Hc:=Lib.hid hc
 have HE:=Lib.hid (ztF q mq e)
 have HAT:=Lib.hid (zqR q mq e)
 have HNX:=Lib.hid (zja q mq e)
 have HSM:=Lib.hid (zpL q mq e)
 have HEK:=Lib.hid (fun k=>show gkE q mq e (k+1)=(gwR (axAt q k) (axAt mq k) (gkE q mq e k)).e from rfl)
 generalize widB gwR q mq e=C at *
 have B0:zav (w.alloc (.cells #[.int .i64 q.x.lo,.int .i64 q.x.hi,.int .i64 q.y.lo,.int .i64 q.y.hi,.int .i64 q.z.lo,.int .i64 q.z.hi] 26)) w.heap.size (boxL (gkS q mq e 0)):=zdm w [.int .i64 q.x.lo,.int .i64 q.x.hi,.int .i64 q.y.lo,.int .i64 q.y.hi,.int .i64 q.z.lo,.int .i64 q.z.hi] 26
 have B1:zav ((w.alloc (.cells #[.int .i64 q.x.lo,.int .i64 q.x.hi,.int .i64 q.y.lo,.int .i64 q.y.hi,.int .i64 q.z.lo,.int .i64 q.z.hi] 26)).alloc (.cells #[.int .i64 mq.x.lo,.int .i64 mq.x.hi,.int .i64 mq.y.lo,.int .i64 mq.y.hi,.int .i64 mq.z.lo,.int .i64 mq.z.hi] 26)) (w.heap.size+1) (boxL (axAt mq)):=zfx _ [.int .i64 mq.x.lo,.int .i64 mq.x.hi,.int .i64 mq.y.lo,.int .i64 mq.y.hi,.int .i64 mq.z.lo,.int .i64 mq.z.hi] 26
 have B2:zav (((w.alloc (.cells #[.int .i64 q.x.lo,.int .i64 q.x.hi,.int .i64 q.y.lo,.int .i64 q.y.hi,.int .i64 q.z.lo,.int .i64 q.z.hi] 26)).alloc (.cells #[.int .i64 mq.x.lo,.int .i64 mq.x.hi,.int .i64 mq.y.lo,.int .i64 mq.y.hi,.int .i64 mq.z.lo,.int .i64 mq.z.hi] 26)).alloc (.cells #[.int .i64 0,.int .i64 0,.int .i64 0,.int .i64 0,.int .i64 0,.int .i64 0] 26)) (w.heap.size+1+1) (boxL (fun _=>z0)):=zfx _ [.int .i64 0,.int .i64 0,.int .i64 0,.int .i64 0,.int .i64 0,.int .i64 0] 26
 have b0:=Lib.hid B0
 have b1:=Lib.hid B1
 have b2:=Lib.hid B2
 clear B0 B1 B2
 go_enter Tryz.func58,Tryz.ntmps58
 go_wp2
 go_loopw [7] (fun t wr=>∃ k:Nat,t=.int .i64 k∧k≤3∧Hid (GroAt q mq e c w k wr)) (fun t _=>3-(intOf t).toNat)
 case atStart=>
  refine ⟨0,rfl,by omega,Lib.hid ⟨btw,by go_simp;rfl,by go_simp,?_,?_,?_⟩⟩
  ·exact b0.out.grew (by simp) gw
  ·exact b1.out.grew (by simp) gw
  ·exact b2.out
 case round=>
  obtain ⟨k,rfl,hk,hE⟩:=hrel
  obtain ⟨h1,h2,h3,h4,h5,h6⟩:=hE.out
  clear hE b0 b1 b2
  have Hb:=Lib.hid h1
  have ibw:BlockIn wr c:=BlockIn.of_cell h2
  have hcw:HasCell wr c 0:=⟨_,h2⟩
  have hlt:=ib.lt
  have:Apart (c) (w.heap.size):=⟨by omega⟩
  have:Apart (c) (w.heap.size+1):=⟨by omega⟩
  have:Apart (c) (w.heap.size+1+1):=⟨by omega⟩
  have:Apart (w.heap.size) (c):=⟨by omega⟩
  have:Apart (w.heap.size+1) (c):=⟨by omega⟩
  have:Apart (w.heap.size+1+1) (c):=⟨by omega⟩
  have i0:BlockIn wr w.heap.size:=⟨Nat.lt_of_lt_of_le (by omega) (show w.heap.size+1≤wr.heap.size from by have:=BlockIn.of_cell (h4 0 _ rfl).1;have:=this.lt;omega)⟩
  have i1:BlockIn wr (w.heap.size+1):=BlockIn.of_cell (h5 0 _ rfl).1
  have i2:BlockIn wr (w.heap.size+1+1):=BlockIn.of_cell (h6 0 _ rfl).1
  clear h1 hc hf hci
  have H4:=Lib.hid h4
  have H5:=Lib.hid h5
  have H6:=Lib.hid h6
  by_cases hlt3:k<3
  ·obtain ⟨a1,a2⟩:=znq (gkS q mq e k) k hlt3
   obtain ⟨a3,a4⟩:=znq (axAt mq) k hlt3
   rw[HAT.out k] at a1 a2
   obtain ⟨x1,y1⟩:=h4 _ _ a1
   obtain ⟨x2,y2⟩:=h4 _ _ a2
   obtain ⟨x3,y3⟩:=h5 _ _ a3
   obtain ⟨x4,y4⟩:=h5 _ _ a4
   clear a1 a2 a3 a4 h4 h5 h6
   have hw1:HasCell wr w.heap.size (k*2):=⟨_,x1⟩
   have hw2:HasCell wr w.heap.size (k*2+1):=⟨_,x2⟩
   have sx:=ze8 q k
   have sm:=ze8 mq k
   have HN:=Lib.hid (fun (C2:Res) (h:gwR (axAt q k) (axAt mq k) (gkE q mq e k)=C2)=>zpB (gkS q mq e k) (gkS q mq e (k+1)) k hlt3 C2.s (by rw[(HNX.out k).1,h]) (HNX.out k).2)
   have HK:=Lib.hid (HEK.out k)
   have HS:=Lib.hid (HSM.out k)
   have hk3:(k:Int)<3:=by omega
   generalize axAt q k=x at *
   generalize axAt mq k=m at *
   generalize gkE q mq e k=ek at *
   cases hb:m.inB x
   ·have W1:=Lib.hid (fun w=>zaz hb (zb5 m x w))
    by_cases hz:ek=0
    ·subst hz
     have sH:S64 (zbh x m).s:=inferInstance
     obtain ⟨n0,n1⟩:=zv7 (zbh x m).e (zbh x m).s
     have HG:=Lib.hid (zrM x m hb)
     have K1:=Lib.hid (fun w hc hf=>show Calls Tryz.prog 118 #[.pointer (some ⟨c,0,none⟩),.agg #[.int .i64 x.lo,.int .i64 x.hi],.agg #[.int .i64 m.lo,.int .i64 m.hi]] w (RetC c (.agg #[.int .i64 ((zbh x m).s).lo,.int .i64 ((zbh x m).s).hi]) (zbh x m).e w) from zmS c 0 x m w hc hf)
     have K2:=Lib.hid (fun w hc hf=>zmU c (zbh x m).e (zbh x m).s w hc hf)
     have K3:=Lib.hid (fun w hc hf=>show Calls Tryz.prog 119 #[.pointer (some ⟨c,0,none⟩),.agg #[.int .i64 ((zbh x m).s).lo,.int .i64 ((zbh x m).s).hi],.int .i64 (wcN (zbh x m).e (zbH (zbh x m).s)/8+65536)] w (RetC c (.agg #[.int .i64 ((gwR x m 0).s).lo,.int .i64 ((gwR x m 0).s).hi]) (gwR x m 0).e w) from by
      rw[HG.out]
      exact zmR c (doN (zbh x m).e (zbH (zbh x m).s)) (zbh x m).s (wcN (zbh x m).e (zbH (zbh x m).s)/8+65536) (by omega) (by omega) w hc hf)
     have HN2:=Lib.hid (HN.out (gwR x m 0) rfl)
     clear HN HS HG hb sH
     generalize gwR x m 0=R at *
     generalize wcN (zbh x m).e (zbH (zbh x m).s)=n at *
     obtain ⟨d,hd⟩:∃ d,d=n/8:=⟨_,rfl⟩
     have q1:IntKind.i64.wrap (n.tdiv 8)=d:=by
      rw[Int.tdiv_eq_ediv_of_nonneg n0,←hd]
      simp[IntKind.wrap,IntKind.bits,IntKind.signed]
      omega
     obtain ⟨y,hy⟩:∃ y,y=d+65536:=⟨_,rfl⟩
     have q2:IntKind.i64.wrap (d+65536)=y:=by
      rw[hy]
      simp[IntKind.wrap,IntKind.bits,IntKind.signed]
      omega
     rw[←hd,←hy] at K3
     clear hd hy n0 n1
     generalize doN (zbh x m).e (zbH (zbh x m).s)=e2 at *
     generalize zbh x m=H at *
     go_wp2_with (first|(go_at_call 92;(with_reducible refine zaa (W1.out _) ?_);intro u)|((with_reducible refine zab ?_ ?_ ?_);(· kernel_rfl);(· kernel_rfl);(try simp only[List.append_eq,List.cons_append,List.nil_append]);(repeat (go_big_quiet_step ((first|(go_at_call 92;(with_reducible exact zac (W1.out _)))))));refine wpQuiet_nil ?_;rintro _ ⟨u,rfl⟩))
     refine zaf c [0,H.e] 9 [8] [7] [] (fun W0=>[(8,BoxR W0 [.int .i64 0,.int .i64 0])]) [.agg #[.int .i64 H.s.lo,.int .i64 H.s.hi]] [9] (by rfl) (by go_simp) (by go_simp) (by intro W0 hW0 x hx;simp only[List.mem_cons,List.not_mem_nil,or_false] at hx;rcases hx with rfl<;>first|exact zbc _ _ hW0 _) (by kernel_rfl) (by kernel_rfl) (by kernel_rfl) ?_
     intro pz hd0
     apply Exists.intro
     apply And.intro
     iterate 7 (apply zae hd0 (by kernel_rfl);(· intro uz xc;unfold zai;go_simp;rfl))
     apply zad hd0 0 (by kernel_rfl) (by rfl) (by decide)
     ·intro uz hfz hF;clear hF;unfold zah;go_simp;exact K1.out _ (by go_simp) hfz
     apply zbd hd0 (by kernel_rfl)
     ·intro uz xc hF;clear hF;unfold za5;go_simp;refine (show Made (BoxR _ [.int .i64 0,.int .i64 0]) _ _ _ from ?_);exact zbe _ _ _ _
     apply zax
     rotate_left
     ·rfl
     intro uz hR hD hfz
     obtain ⟨q8,e8,hB8,kB8,nB8⟩:=(show BoxR _ [.int .i64 0,.int .i64 0] (pz 8) _ from hR 8 (by decide))
     clear hR hD
     rw[e8]
     clear e8
     have oB8:=zaG nB8
     have oC8:=zaH nB8
     have hB8:=zbq hB8 hd0 nB8
     have kB8:=za0 kB8
     have hB8_0:=(hB8 0 _ rfl).1
     have hB8f0:=(hB8 0 _ rfl).2
     have hB8i0:HasCell (uz.world) (q8) 0:=⟨_,hB8_0⟩
     have hB8_1:=(hB8 1 _ rfl).1
     have hB8f1:=(hB8 1 _ rfl).2
     have hB8i1:HasCell (uz.world) (q8) 1:=⟨_,hB8_1⟩
     have hB8b:BlockIn (uz.world) (q8):=BlockIn.of_cell hB8_0
     clear hB8
     refine zag (by rfl) ?_;unfold zap;go_simp
     refine zao ?_
     have nw8:NewFor w q8:=zcT Hb.out nB8
     go_wp2
     refine zaf c [H.e,e2,R.e] 10 [] [5,8] [] (fun W0=>[]) [.int .i64 n,.agg #[.int .i64 R.s.lo,.int .i64 R.s.hi]] [10] (by rfl) (by go_simp) (by go_simp) (fun _ _ x hx=>absurd hx (List.not_mem_nil)) (by kernel_rfl) (by kernel_rfl) (by kernel_rfl) ?_
     intro pz hd0
     apply Exists.intro
     apply And.intro
     iterate 5 (apply zae hd0 (by kernel_rfl);(· intro uz xc;unfold zai;go_simp;rfl))
     apply zad hd0 0 (by kernel_rfl) (by rfl) (by decide)
     ·intro uz hfz hF;clear hF;unfold zah;go_simp;exact K2.out _ (by go_simp) hfz
     iterate 2 (apply zae hd0 (by kernel_rfl);(· intro uz xc;unfold zai;go_simp;rfl))
     apply zad hd0 1 (by kernel_rfl) (by rfl) (by decide)
     ·intro uz hfz hF;clear hF;unfold zah;go_simp;exact K3.out _ (by go_simp) hfz
     apply zae hd0 (by kernel_rfl)
     ·intro uz xc;unfold zai;go_simp;rfl
     apply zax
     rotate_left
     ·rfl
     intro uz hR hD hfz
     clear hR hD
     refine zag (by rfl) ?_;unfold zap;go_simp
     refine zao ?_
     go_wp2
     go_roundw
     case rel=>exact ⟨k+1,by go_num,by omega,Lib.hid ⟨btw,by rw[HK.out];go_simp,by go_simp,by rw[←HN2.out];exact zav.put2 (zav.put2 ((by repeat (first|exact H4.out|apply zav.far|apply zav.lat|apply zav.all|apply zav.drw))) _ _) _ _,zav.far _ _ _ (zav.far _ _ _ ((by repeat (first|exact H5.out|apply zav.far|apply zav.lat|apply zav.all|apply zav.drw)))),zav.far _ _ _ (zav.far _ _ _ ((by repeat (first|exact H6.out|apply zav.far|apply zav.lat|apply zav.all|apply zav.drw))))⟩⟩
     case measure=>simp[intOf];omega
    ·have t1:(ek != 0)=true:=by simp[hz]
     have hR2:gwR x m ek=⟨x,ek⟩:=by unfold gwR;rw[hb,if_neg (by decide),if_neg hz]
     have HS2:=Lib.hid (HS.out (by rw[hR2]))
     have HK2:=Lib.hid (show gkE q mq e (k+1)=ek by rw[HK.out,hR2])
     clear HN HK HS hb hR2 hz
     go_wp2_with (first|(go_at_call 92;(with_reducible refine zaa (W1.out _) ?_);intro u)|((with_reducible refine zab ?_ ?_ ?_);(· kernel_rfl);(· kernel_rfl);(try simp only[List.append_eq,List.cons_append,List.nil_append]);(repeat (go_big_quiet_step ((first|(go_at_call 92;(with_reducible exact zac (W1.out _)))))));refine wpQuiet_nil ?_;rintro _ ⟨u,rfl⟩))
     go_roundw
     case rel=>exact ⟨k+1,by go_num,by omega,Lib.hid ⟨btw,by rw[HK2.out];go_simp,by go_simp,by rw[HS2.out];exact H4.out.grew i0.lt gw,H5.out.grew i1.lt gw,H6.out.grew i2.lt gw⟩⟩
     case measure=>simp[intOf];omega
   ·have hR2:gwR x m ek=⟨x,ek⟩:=by unfold gwR;rw[if_pos hb]
    have HS2:=Lib.hid (HS.out (by rw[hR2]))
    have HK2:=Lib.hid (show gkE q mq e (k+1)=ek by rw[HK.out,hR2])
    have W1:=Lib.hid (fun w=>zaz hb (zb5 m x w))
    clear HN HK HS hb hR2
    go_wp2_with (first|(go_at_call 92;(with_reducible refine zaa (W1.out _) ?_);intro u)|((with_reducible refine zab ?_ ?_ ?_);(· kernel_rfl);(· kernel_rfl);(try simp only[List.append_eq,List.cons_append,List.nil_append]);(repeat (go_big_quiet_step ((first|(go_at_call 92;(with_reducible exact zac (W1.out _)))))));refine wpQuiet_nil ?_;rintro _ ⟨u,rfl⟩))
    go_roundw
    case rel=>exact ⟨k+1,by go_num,by omega,Lib.hid ⟨btw,by rw[HK2.out];go_simp,by go_simp,by rw[HS2.out];exact H4.out.grew i0.lt gw,H5.out.grew i1.lt gw,H6.out.grew i2.lt gw⟩⟩
    case measure=>simp[intOf];omega
  ·obtain rfl:k=3:=by omega
   obtain ⟨e1,e2⟩:=HE.out
   rw[e1] at h4
   rw[e2] at h2
   clear h5
   have h4_0:=(h4 0 _ rfl).1
   have h4f0:=(h4 0 _ rfl).2
   have h4i0:HasCell (wr) (w.heap.size) 0:=⟨_,h4_0⟩
   have h4_1:=(h4 1 _ rfl).1
   have h4f1:=(h4 1 _ rfl).2
   have h4i1:HasCell (wr) (w.heap.size) 1:=⟨_,h4_1⟩
   have h4_2:=(h4 2 _ rfl).1
   have h4f2:=(h4 2 _ rfl).2
   have h4i2:HasCell (wr) (w.heap.size) 2:=⟨_,h4_2⟩
   have h4_3:=(h4 3 _ rfl).1
   have h4f3:=(h4 3 _ rfl).2
   have h4i3:HasCell (wr) (w.heap.size) 3:=⟨_,h4_3⟩
   have h4_4:=(h4 4 _ rfl).1
   have h4f4:=(h4 4 _ rfl).2
   have h4i4:HasCell (wr) (w.heap.size) 4:=⟨_,h4_4⟩
   have h4_5:=(h4 5 _ rfl).1
   have h4f5:=(h4 5 _ rfl).2
   have h4i5:HasCell (wr) (w.heap.size) 5:=⟨_,h4_5⟩
   have h4b:BlockIn (wr) (w.heap.size):=BlockIn.of_cell h4_0
   clear h4
   have h6_0:=(h6 0 _ rfl).1
   have h6f0:=(h6 0 _ rfl).2
   have h6i0:HasCell (wr) (w.heap.size+1+1) 0:=⟨_,h6_0⟩
   have h6_1:=(h6 1 _ rfl).1
   have h6f1:=(h6 1 _ rfl).2
   have h6i1:HasCell (wr) (w.heap.size+1+1) 1:=⟨_,h6_1⟩
   have h6_2:=(h6 2 _ rfl).1
   have h6f2:=(h6 2 _ rfl).2
   have h6i2:HasCell (wr) (w.heap.size+1+1) 2:=⟨_,h6_2⟩
   have h6_3:=(h6 3 _ rfl).1
   have h6f3:=(h6 3 _ rfl).2
   have h6i3:HasCell (wr) (w.heap.size+1+1) 3:=⟨_,h6_3⟩
   have h6_4:=(h6 4 _ rfl).1
   have h6f4:=(h6 4 _ rfl).2
   have h6i4:HasCell (wr) (w.heap.size+1+1) 4:=⟨_,h6_4⟩
   have h6_5:=(h6 5 _ rfl).1
   have h6f5:=(h6 5 _ rfl).2
   have h6i5:HasCell (wr) (w.heap.size+1+1) 5:=⟨_,h6_5⟩
   have h6b:BlockIn (wr) (w.heap.size+1+1):=BlockIn.of_cell h6_0
   clear h6
   go_wp2
   refine bodyPost_ret (by (simp[results,Tryz.results58,go_sem]<;>rfl)) rfl ?_
   exact ⟨rfl,But.out btw Hc.out (by go_simp)⟩
end Go.Proofs.YtdkfkalplmgoeaaGreat
namespace Go.Proofs.YtdkfkalplmgoeaaGreat
open Go.RowKit Go.Shelf
set_option maxRecDepth 100000
set_option maxHeartbeats 16000000
set_option linter.unusedSimpArgs false
theorem zlt {P:Program} {k:Code} {Q:Exit→Act→World→Prop} {a:Act} {w:World} (p:World→Prop) (h:p w) (g:∀ Y,p Y→k.wp P Q a Y):k.wp P Q a w:=g w h
def RetL (R:StRes) (c:Nat) (w:World) (e:Ending) (w':World):Prop:=e=.returned (.tuple #[.agg #[.int .i64 R.s.t,.int .i64 R.s.p.x.lo,.int .i64 R.s.p.x.hi,.int .i64 R.s.p.y.lo,.int .i64 R.s.p.y.hi,.int .i64 R.s.p.z.lo,.int .i64 R.s.p.z.hi,.int .i64 R.s.v.x.lo,.int .i64 R.s.v.x.hi,.int .i64 R.s.v.y.lo,.int .i64 R.s.v.y.hi,.int .i64 R.s.v.z.lo,.int .i64 R.s.v.z.hi,.int .i64 R.s.m.lo,.int .i64 R.s.m.hi],.agg #[.int .i64 R.t.a,.int .i64 R.t.z,.int .i64 R.t.p.x.lo,.int .i64 R.t.p.x.hi,.int .i64 R.t.p.y.lo,.int .i64 R.t.p.y.hi,.int .i64 R.t.p.z.lo,.int .i64 R.t.p.z.hi,.int .i64 R.t.v.x.lo,.int .i64 R.t.v.x.hi,.int .i64 R.t.v.y.lo,.int .i64 R.t.v.y.hi,.int .i64 R.t.v.z.lo,.int .i64 R.t.v.z.hi,.int .i64 R.t.m.lo,.int .i64 R.t.m.hi],.int .i64 R.e])∧But c w w'
structure LaD (w:World) (c bA bS bU bN bT qF qL qK qO:Nat) (x:Arc) (s:State) (h:Int) (T:Tube) (F:BRes) (k:Nat) (N:State) (wr:World):Prop where
 but:But c w wr
 cell:wr.cell? ⟨c,0,none⟩=some (.int .i64 (lgE s h F k))
 mark:wr.frozen? ⟨c,0,none⟩=false
 rA:RowIs wr bA 48 x.cells
 rS:RowIs wr bS 28 [.int .i64 s.t,.int .i64 s.p.x.lo,.int .i64 s.p.x.hi,.int .i64 s.p.y.lo,.int .i64 s.p.y.hi,.int .i64 s.p.z.lo,.int .i64 s.p.z.hi,.int .i64 s.v.x.lo,.int .i64 s.v.x.hi,.int .i64 s.v.y.lo,.int .i64 s.v.y.hi,.int .i64 s.v.z.lo,.int .i64 s.v.z.hi,.int .i64 s.m.lo,.int .i64 s.m.hi]
 rU:RowIs wr bU 81 T.cells
 rN:RowIs wr bN 28 zaL.cells
 rT:RowIs wr bT 81 zbB.cells
 rF:RowIs wr qF 26 [.int .i64 F.b.x.lo,.int .i64 F.b.x.hi,.int .i64 F.b.y.lo,.int .i64 F.b.y.hi,.int .i64 F.b.z.lo,.int .i64 F.b.z.hi]
 rL:RowIs wr qL 24 [.int .i64 h,.int .i64 h]
 rK:RowIs wr qK 24 [.int .i64 ((laK h F).s).lo,.int .i64 ((laK h F).s).hi]
 rO:RowIs wr qO 28 (nxL N)
theorem zuj (pP:Planet) (x:Arc) (s:State) (h t:Int) (F:BRes) (T:Tube) [St64 s] [S64 (⟨h,h⟩:Sp)] [S64 x.flow] (c bP bA bS bU bN bT qF qL qK qO:Nat) (w wc:World)
 (NX:State) (hNX:NX=nxS s h t F 3) (hL:LaD w c bA bS bU bN bT qF qL qK qO x s h T F 3 NX wc) (n0:Less c bA∧Less c bS∧Less c bU∧Less c bN∧Less c bT∧Less c qF∧Less c qL∧Less c qK∧Less c qO) (n1:NewFor w bN) (n2:NewFor w bT) (n3:NewFor w qO) (hd:bA<bN∧bS<bN∧bU<bN∧bN<bT∧bT<qF∧bT<qL∧bT<qK∧bT<qO∧qF<qO∧qL<qO∧qK<qO) (u7 u11 u12 u21 u22 u23 u24 u25 u26 u27 u28 u29 u30 u31 u32 u33 u34 u35 u36 u37 u38 u39 u40 u41 u42 u43 u44 u45 u46 u47 u48 u49 u50 u51 u52 u53 u54 u55 u56 u57 u58 u59 u60 u61 u62 u63 u64 u65 u66 u67 u68 u69 u70 u71 u72 u73 u74 u75 u76 u77 u78 u79 u80 u81 u82 u83 u84 u85 u86 u87 u88 u89 u90 u91 u92 u93 u94 u95 u96 u97 u98 u99 u100 u101 u102 u103 u104 u105 u106 u107 u108:Value) :
 (tlC (tlC (tlC (tlC (tlC (tlC (Tryz.f57.body.getD .skip))))))).wp Tryz.prog (bodyPost Tryz.prog Tryz.f57 (RetL (zeb x s h t T F) c w)) { tmps:=#[.pointer (some ⟨c,0,none⟩),.agg pP.cells.toArray,.agg x.cells.toArray,.agg #[.int .i64 s.t,.int .i64 s.p.x.lo,.int .i64 s.p.x.hi,.int .i64 s.p.y.lo,.int .i64 s.p.y.hi,.int .i64 s.p.z.lo,.int .i64 s.p.z.hi,.int .i64 s.v.x.lo,.int .i64 s.v.x.hi,.int .i64 s.v.y.lo,.int .i64 s.v.y.hi,.int .i64 s.v.z.lo,.int .i64 s.v.z.hi,.int .i64 s.m.lo,.int .i64 s.m.hi],.int .i64 h,.int .i64 t,.agg #[.int .i64 T.a,.int .i64 T.z,.int .i64 T.p.x.lo,.int .i64 T.p.x.hi,.int .i64 T.p.y.lo,.int .i64 T.p.y.hi,.int .i64 T.p.z.lo,.int .i64 T.p.z.hi,.int .i64 T.v.x.lo,.int .i64 T.v.x.hi,.int .i64 T.v.y.lo,.int .i64 T.v.y.hi,.int .i64 T.v.z.lo,.int .i64 T.v.z.hi,.int .i64 T.m.lo,.int .i64 T.m.hi],u7,.pointer (some ⟨bP,0,none⟩),.pointer (some ⟨bA,0,none⟩),.pointer (some ⟨bS,0,none⟩),u11,u12,.pointer (some ⟨bU,0,none⟩),.pointer (some ⟨bN,0,none⟩),.pointer (some ⟨bT,0,none⟩),.int .i64 0,.pointer (some ⟨qF,0,none⟩),.pointer (some ⟨qL,0,none⟩),.pointer (some ⟨qK,0,none⟩),.pointer (some ⟨qO,0,none⟩),u21,u22,u23,u24,u25,u26,u27,u28,u29,u30,u31,u32,u33,u34,u35,u36,u37,u38,u39,u40,u41,u42,u43,u44,u45,u46,u47,u48,u49,u50,u51,u52,u53,u54,u55,u56,u57,u58,u59,u60,u61,u62,u63,u64,u65,u66,u67,u68,u69,u70,u71,u72,u73,u74,u75,u76,u77,u78,u79,u80,u81,u82,u83,u84,u85,u86,u87,u88,u89,u90,u91,u92,u93,u94,u95,u96,u97,u98,u99,u100,u101,u102,u103,u104,u105,u106,u107,u108],defers:=[] } wc:=by
 have hn:c<bA∧c<bS∧c<bU∧c<bN∧c<bT∧c<qF∧c<qL∧c<qK∧c<qO:=⟨n0.1.lt,n0.2.1.lt,n0.2.2.1.lt,n0.2.2.2.1.lt,n0.2.2.2.2.1.lt,n0.2.2.2.2.2.1.lt,n0.2.2.2.2.2.2.1.lt,n0.2.2.2.2.2.2.2.1.lt,n0.2.2.2.2.2.2.2.2.lt⟩
 have:Apart bA c:=⟨by omega⟩
 have:Apart bS c:=⟨by omega⟩
 have:Apart bU c:=⟨by omega⟩
 have:Apart bN c:=⟨by omega⟩
 have:Apart bT c:=⟨by omega⟩
 have:Apart qF c:=⟨by omega⟩
 have:Apart qL c:=⟨by omega⟩
 have:Apart qK c:=⟨by omega⟩
 have:Apart qO c:=⟨by omega⟩
 have:Apart bA bN:=⟨by omega⟩
 have:Apart bS bN:=⟨by omega⟩
 have:Apart bU bN:=⟨by omega⟩
 have:Apart bT bN:=⟨by omega⟩
 have:Apart qF bN:=⟨by omega⟩
 have:Apart qL bN:=⟨by omega⟩
 have:Apart qK bN:=⟨by omega⟩
 have:Apart qO bN:=⟨by omega⟩
 have:Apart c bN:=⟨by omega⟩
 have:Apart bA bT:=⟨by omega⟩
 have:Apart bS bT:=⟨by omega⟩
 have:Apart bU bT:=⟨by omega⟩
 have:Apart bN bT:=⟨by omega⟩
 have:Apart qF bT:=⟨by omega⟩
 have:Apart qL bT:=⟨by omega⟩
 have:Apart qK bT:=⟨by omega⟩
 have:Apart qO bT:=⟨by omega⟩
 have:Apart c bT:=⟨by omega⟩
 have:Apart bA qO:=⟨by omega⟩
 have:Apart bS qO:=⟨by omega⟩
 have:Apart bU qO:=⟨by omega⟩
 have:Apart bN qO:=⟨by omega⟩
 have:Apart bT qO:=⟨by omega⟩
 have:Apart qF qO:=⟨by omega⟩
 have:Apart qL qO:=⟨by omega⟩
 have:Apart qK qO:=⟨by omega⟩
 have:Apart c qO:=⟨by omega⟩
 obtain ⟨hb,hc,hf,rA,rS,rU,rN,rT,rF,rL,rK,rO⟩:=hL
 have Hb:=Lib.hid hb
 clear hb
 have i_rA:=rA.blockIn
 have i_rS:=rS.blockIn
 have i_rU:=rU.blockIn
 have i_rN:=rN.blockIn
 have i_rT:=rT.blockIn
 have i_rF:=rF.blockIn
 have i_rL:=rL.blockIn
 have i_rK:=rK.blockIn
 have i_rO:=rO.blockIn
 have hci:HasCell wc c 0:=⟨_,hc⟩
 have i_c:BlockIn wc c:=BlockIn.of_cell hc
 have HR:=Lib.hid (show zeb x s h t T F=if (laM x s h F).e=0 then ⟨⟨NX.t,NX.p,NX.v,(laM x s h F).s⟩,T,0⟩ else zeB (laM x s h F).e by subst hNX;rfl)
 have:S64 (laN x s h F).s:=zam _ _
 have K1:=Lib.hid (fun w hc hf=>show Calls Tryz.prog 53 #[.pointer (some ⟨c,0,none⟩),.agg #[.int .i64 h,.int .i64 h],.agg #[.int .i64 x.flow.lo,.int .i64 x.flow.hi]] w (RetC c (.agg #[.int .i64 ((laN x s h F).s).lo,.int .i64 ((laN x s h F).s).hi]) (laN x s h F).e w) from zaP c (laG2 s h F).e ⟨h,h⟩ x.flow w hc hf)
 have K2:=Lib.hid (fun w hc hf=>show Calls Tryz.prog 52 #[.pointer (some ⟨c,0,none⟩),.agg #[.int .i64 s.m.lo,.int .i64 s.m.hi],.agg #[.int .i64 ((laN x s h F).s).lo,.int .i64 ((laN x s h F).s).hi]] w (RetC c (.agg #[.int .i64 ((laM x s h F).s).lo,.int .i64 ((laM x s h F).s).hi]) (laM x s h F).e w) from zca c (laN x s h F).e s.m (laN x s h F).s w hc hf)
 replace hc:wc.cell? ⟨c,0,none⟩=some (.int .i64 (laG2 s h F).e):=hc
 replace rO:RowIs wc qO 28 [.int .i64 NX.t,.int .i64 NX.p.x.lo,.int .i64 NX.p.x.hi,.int .i64 NX.p.y.lo,.int .i64 NX.p.y.hi,.int .i64 NX.p.z.lo,.int .i64 NX.p.z.hi,.int .i64 NX.v.x.lo,.int .i64 NX.v.x.hi,.int .i64 NX.v.y.lo,.int .i64 NX.v.y.hi,.int .i64 NX.v.z.lo,.int .i64 NX.v.z.hi,.int .i64 NX.m.lo,.int .i64 NX.m.hi]:=rO
 clear hNX rF rK
 generalize zeb x s h t T F=R at *
 generalize laM x s h F=M at *
 generalize laN x s h F=N at *
 generalize (laG2 s h F).e=g at *
 conv=>arg 2;dsimp only[tlC,Tryz.f57,Option.getD]
 go_wp2
 refine zaf c [g,N.e,M.e] 10 [] [7,8] [] (fun W0=>[]) [.agg #[.int .i64 N.s.lo,.int .i64 N.s.hi],.agg #[.int .i64 M.s.lo,.int .i64 M.s.hi]] [10] (by rfl) (by go_simp) (by go_simp) (fun _ _ x hx=>absurd hx (List.not_mem_nil)) (by kernel_rfl) (by kernel_rfl) (by kernel_rfl) ?_
 intro pz hd0
 apply Exists.intro
 apply And.intro
 iterate 7 (apply zae hd0 (by kernel_rfl);(· intro uz xc;unfold zai;go_simp;rfl))
 apply zad hd0 0 (by kernel_rfl) (by rfl) (by decide)
 ·intro uz hfz hF;clear hF;unfold zah;go_simp;exact K1.out _ (by go_simp) hfz
 apply zad hd0 1 (by kernel_rfl) (by rfl) (by decide)
 ·intro uz hfz hF;clear hF;unfold zah;go_simp;exact K2.out _ (by go_simp) hfz
 apply zae hd0 (by kernel_rfl)
 ·intro uz xc;unfold zai;go_simp;rfl
 apply zax
 rotate_left
 ·rfl
 intro uz hR hD hfz
 clear hR hD
 refine zag (by rfl) ?_;unfold zap;go_simp
 refine zao ?_
 go_upto_region 11 with (fail)
 obtain ⟨N2,hN2⟩:∃ N2:State,N2=⟨NX.t,NX.p,NX.v,M.s⟩:=⟨_,rfl⟩
 refine zlt (fun Y=>But c w Y∧Y.cell? ⟨c,0,none⟩=some (.int .i64 M.e)∧RowIs Y bU 81 T.cells∧RowIs Y bN 28 zaL.cells∧RowIs Y bT 81 zbB.cells∧RowIs Y qO 28 N2.cells) ⟨btwr,by go_simp,inferInstance,inferInstance,inferInstance,by rw[hN2];exact zau inferInstance rfl⟩ ?_
 rintro Y ⟨hb2,hc2,rU2,rN2,rT2,rO2⟩
 rw[←hN2] at HR
 clear hN2 Hb hc hf hci i_c K1 K2 rA rS rU rN rT rL rO i_rA i_rS i_rU i_rN i_rT i_rF i_rL i_rK i_rO
 have Hb:=Lib.hid hb2
 clear hb2
 have i_rU2:=rU2.blockIn
 have i_rN2:=rN2.blockIn
 have i_rT2:=rT2.blockIn
 have i_rO2:=rO2.blockIn
 have i_c:BlockIn Y c:=BlockIn.of_cell hc2
 by_cases he:M.e=0
 ·have he':(M.e != 0)=false:=by simp[he]
  have HRz:=HR.out
  rw[if_pos he] at HRz
  replace HRz:=Lib.hid HRz
  clear HR he
  go_wp2
  refine za8 (fun w'=>RowIs w' qO 28 N2.cells∧RowIs w' bU 81 T.cells) [] rfl ?_
  refine zaj 0 [] (v:=.agg N2.cells.toArray) rfl (by kernel_rfl) (by kernel_rfl) (by kernel_rfl) (by kernel_rfl) (fun _ _ _ h=>h) (by rfl) (⟨inferInstance,inferInstance⟩) (fun w' hw=>?_) ?_
  ·obtain ⟨h1,h2⟩:=hw
   exact zbZ (b:=qO) _ _ rfl (by go_simp)
  try simp only[Act.put,List.setIfInBounds_toArray,List.set_cons_zero,List.set_cons_succ]
  refine zaj 1 [] (v:=.agg T.cells.toArray) rfl (by kernel_rfl) (by kernel_rfl) (by kernel_rfl) (by kernel_rfl) (fun _ _ _ h=>h) (by rfl) (⟨inferInstance,inferInstance⟩) (fun w' hw=>?_) ?_
  ·obtain ⟨h1,h2⟩:=hw
   exact zbZ (b:=bU) _ _ rfl (by go_simp)
  try simp only[Act.put,List.setIfInBounds_toArray,List.set_cons_zero,List.set_cons_succ]
  have hst:∀ (W:World) (b:Nat) [RowIs W b 28 zaL.cells],(storeCells ⟨b,0,none⟩ N2.cells).run Tryz.prog W=.ok () (W.setRow b N2.cells.toArray):=fun W b _=>zcQ W b N2.cells zaL.cells
  have htb:∀ (W:World) (b:Nat) [RowIs W b 81 zbB.cells],(storeCells ⟨b,0,none⟩ T.cells).run Tryz.prog W=.ok () (W.setRow b T.cells.toArray):=fun W b _=>zdD W b T.cells zbB.cells
  refine zaq 2 (by kernel_rfl) rfl fun K hK=>?_
  go_simp
  refine hK.out _ _ (fun _=>⟨inferInstance,inferInstance⟩) ?_
  clear hK K
  try simp only[Act.put,List.setIfInBounds_toArray,List.set_cons_zero,List.set_cons_succ]
  refine zaq 3 (by kernel_rfl) rfl fun K hK=>?_
  go_simp
  refine hK.out _ _ (fun _=>⟨inferInstance,inferInstance⟩) ?_
  clear hK K
  try simp only[Act.put,List.setIfInBounds_toArray,List.set_cons_zero,List.set_cons_succ]
  refine zaq 4 (by kernel_rfl) rfl fun K hK=>?_
  go_simp
  refine hK.out _ _ (fun _=>⟨inferInstance,inferInstance⟩) ?_
  clear hK K
  try simp only[Act.put,List.setIfInBounds_toArray,List.set_cons_zero,List.set_cons_succ]
  refine zbi (by kernel_rfl) ?_
  go_wp2
  refine bodyPost_ret (zcq Tryz.results57 rfl rfl rfl inferInstance inferInstance inferInstance inferInstance inferInstance inferInstance) rfl ?_
  exact ⟨by rw[HRz.out];rfl,btwr⟩
 ·have he':(M.e != 0)=true:=by simp[he]
  have HRz:=HR.out
  rw[if_neg he] at HRz
  replace HRz:=Lib.hid HRz
  clear HR he
  go_wp2
  refine za8 (fun w'=>w'.cell? ⟨c,0,none⟩=some (.int .i64 M.e)) [] rfl ?_
  refine zaj 2 [] (v:=.pointer (some ⟨c,0,none⟩)) rfl (by kernel_rfl) (by kernel_rfl) (by kernel_rfl) (by kernel_rfl) (fun _ _ _ h=>h) (by rfl) (by go_simp) (fun w' hw=>?_) ?_
  ·skip
   go_simp
  try simp only[Act.put,List.setIfInBounds_toArray,List.set_cons_zero,List.set_cons_succ]
  refine zaj 3 [] (v:=.pointer (some ⟨c,0,none⟩)) rfl (by kernel_rfl) (by kernel_rfl) (by kernel_rfl) (by kernel_rfl) (fun _ _ _ h=>h) (by rfl) (by go_simp) (fun w' hw=>?_) ?_
  ·skip
   go_simp
  try simp only[Act.put,List.setIfInBounds_toArray,List.set_cons_zero,List.set_cons_succ]
  refine zaj 4 [] (v:=.pointer (some ⟨c,0,none⟩)) rfl (by kernel_rfl) (by kernel_rfl) (by kernel_rfl) (by kernel_rfl) (fun _ _ _ h=>h) (by rfl) (by go_simp) (fun w' hw=>?_) ?_
  ·skip
   go_simp
  try simp only[Act.put,List.setIfInBounds_toArray,List.set_cons_zero,List.set_cons_succ]
  refine zaj 5 [] (v:=.int .i64 M.e) rfl (by kernel_rfl) (by kernel_rfl) (by kernel_rfl) (by kernel_rfl) (fun _ _ _ h=>h) (by rfl) (by go_simp) (fun w' hw=>?_) ?_
  ·have hw2:w'.cell? ⟨c,0,none⟩=some (.int .i64 M.e):=hw
   go_simp
  try simp only[Act.put,List.setIfInBounds_toArray,List.set_cons_zero,List.set_cons_succ]
  refine zaj 0 [] (v:=.agg zaL.cells.toArray) rfl (by kernel_rfl) (by kernel_rfl) (by kernel_rfl) (by kernel_rfl) (fun _ _ _ h=>h) (by rfl) (by go_simp) (fun w' hw=>?_) ?_
  ·skip
   exact zbm _ _ [] _ rfl (by simp) zbY
  try simp only[Act.put,List.setIfInBounds_toArray,List.set_cons_zero,List.set_cons_succ]
  refine zaj 1 [] (v:=.agg zbB.cells.toArray) rfl (by kernel_rfl) (by kernel_rfl) (by kernel_rfl) (by kernel_rfl) (fun _ _ _ h=>h) (by rfl) (by go_simp) (fun w' hw=>?_) ?_
  ·skip
   exact zbm _ _ [] _ rfl (by simp) zcm
  try simp only[Act.put,List.setIfInBounds_toArray,List.set_cons_zero,List.set_cons_succ]
  have hst:∀ (W:World) (b:Nat) [RowIs W b 28 zaL.cells],(storeCells ⟨b,0,none⟩ zaL.cells).run Tryz.prog W=.ok () (W.setRow b zaL.cells.toArray):=fun W b _=>zcQ W b _ zaL.cells
  have htb:∀ (W:World) (b:Nat) [RowIs W b 81 zbB.cells],(storeCells ⟨b,0,none⟩ zbB.cells).run Tryz.prog W=.ok () (W.setRow b zbB.cells.toArray):=fun W b _=>zdD W b _ zbB.cells
  refine zaq 6 (by kernel_rfl) rfl fun K hK=>?_
  go_simp
  refine hK.out _ _ (fun _=>by go_simp) ?_
  clear hK K
  try simp only[Act.put,List.setIfInBounds_toArray,List.set_cons_zero,List.set_cons_succ]
  refine zaq 7 (by kernel_rfl) rfl fun K hK=>?_
  go_simp
  refine hK.out _ _ (fun _=>by go_simp) ?_
  clear hK K
  try simp only[Act.put,List.setIfInBounds_toArray,List.set_cons_zero,List.set_cons_succ]
  refine zaq 8 (by kernel_rfl) rfl fun K hK=>?_
  go_simp
  refine hK.out _ _ (fun _=>by go_simp) ?_
  clear hK K
  try simp only[Act.put,List.setIfInBounds_toArray,List.set_cons_zero,List.set_cons_succ]
  refine zbi (by kernel_rfl) ?_
  go_wp2
  refine bodyPost_ret (zcq Tryz.results57 rfl rfl rfl inferInstance inferInstance inferInstance inferInstance inferInstance inferInstance) rfl ?_
  exact ⟨by rw[HRz.out];rfl,btwr⟩
end Go.Proofs.YtdkfkalplmgoeaaGreat
namespace Go.Proofs.YtdkfkalplmgoeaaGreat
open Go.RowKit Go.Shelf
set_option maxRecDepth 100000
set_option maxHeartbeats 16000000
set_option linter.unusedSimpArgs false
theorem zui (pP:Planet) (x:Arc) (s:State) (h t:Int) (F:BRes) (T:Tube) [St64 s] [S64 (⟨h,h⟩:Sp)] [S64 x.flow] [B64 F.b] (c bP bA bS bU bN bT qF qL qK qO:Nat) (w wc:World)
 (hL:LaD w c bA bS bU bN bT qF qL qK qO x s h T F 0 (nxS s h t F 0) wc) (n0:Less c bA∧Less c bS∧Less c bU∧Less c bN∧Less c bT∧Less c qF∧Less c qL∧Less c qK∧Less c qO) (n1:NewFor w bN) (n2:NewFor w bT) (n3:NewFor w qO) (hd:bA<bN∧bS<bN∧bU<bN∧bN<bT∧bT<qF∧bT<qL∧bT<qK∧bT<qO∧qF<qO∧qL<qO∧qK<qO) (u7 u11 u12 u21 u22 u23 u24 u25 u26 u27 u28 u29 u30 u31 u32 u33 u34 u35 u36 u37 u38 u39 u40 u41 u42 u43 u44 u45 u46 u47 u48 u49 u50 u51 u52 u53 u54 u55 u56 u57 u58 u59 u60 u61 u62 u63 u64 u65 u66 u67 u68 u69 u70 u71 u72 u73 u74 u75 u76 u77 u78 u79 u80 u81 u82 u83 u84 u85 u86 u87 u88 u89 u90 u91 u92 u93 u94 u95 u96 u97 u98 u99 u100 u101 u102 u103 u104 u105 u106 u107 u108:Value) :
 (tlC (tlC (tlC (tlC (tlC (Tryz.f57.body.getD .skip)))))).wp Tryz.prog (bodyPost Tryz.prog Tryz.f57 (RetL (zeb x s h t T F) c w)) { tmps:=#[.pointer (some ⟨c,0,none⟩),.agg pP.cells.toArray,.agg x.cells.toArray,.agg #[.int .i64 s.t,.int .i64 s.p.x.lo,.int .i64 s.p.x.hi,.int .i64 s.p.y.lo,.int .i64 s.p.y.hi,.int .i64 s.p.z.lo,.int .i64 s.p.z.hi,.int .i64 s.v.x.lo,.int .i64 s.v.x.hi,.int .i64 s.v.y.lo,.int .i64 s.v.y.hi,.int .i64 s.v.z.lo,.int .i64 s.v.z.hi,.int .i64 s.m.lo,.int .i64 s.m.hi],.int .i64 h,.int .i64 t,.agg #[.int .i64 T.a,.int .i64 T.z,.int .i64 T.p.x.lo,.int .i64 T.p.x.hi,.int .i64 T.p.y.lo,.int .i64 T.p.y.hi,.int .i64 T.p.z.lo,.int .i64 T.p.z.hi,.int .i64 T.v.x.lo,.int .i64 T.v.x.hi,.int .i64 T.v.y.lo,.int .i64 T.v.y.hi,.int .i64 T.v.z.lo,.int .i64 T.v.z.hi,.int .i64 T.m.lo,.int .i64 T.m.hi],u7,.pointer (some ⟨bP,0,none⟩),.pointer (some ⟨bA,0,none⟩),.pointer (some ⟨bS,0,none⟩),u11,u12,.pointer (some ⟨bU,0,none⟩),.pointer (some ⟨bN,0,none⟩),.pointer (some ⟨bT,0,none⟩),.int .i64 0,.pointer (some ⟨qF,0,none⟩),.pointer (some ⟨qL,0,none⟩),.pointer (some ⟨qK,0,none⟩),.pointer (some ⟨qO,0,none⟩),u21,u22,u23,u24,u25,u26,u27,u28,u29,u30,u31,u32,u33,u34,u35,u36,u37,u38,u39,u40,u41,u42,u43,u44,u45,u46,u47,u48,u49,u50,u51,u52,u53,u54,u55,u56,u57,u58,u59,u60,u61,u62,u63,u64,u65,u66,u67,u68,u69,u70,u71,u72,u73,u74,u75,u76,u77,u78,u79,u80,u81,u82,u83,u84,u85,u86,u87,u88,u89,u90,u91,u92,u93,u94,u95,u96,u97,u98,u99,u100,u101,u102,u103,u104,u105,u106,u107,u108],defers:=[] } wc:=by
 have hn:c<bA∧c<bS∧c<bU∧c<bN∧c<bT∧c<qF∧c<qL∧c<qK∧c<qO:=⟨n0.1.lt,n0.2.1.lt,n0.2.2.1.lt,n0.2.2.2.1.lt,n0.2.2.2.2.1.lt,n0.2.2.2.2.2.1.lt,n0.2.2.2.2.2.2.1.lt,n0.2.2.2.2.2.2.2.1.lt,n0.2.2.2.2.2.2.2.2.lt⟩
 have:Apart bA c:=⟨by omega⟩
 have:Apart bS c:=⟨by omega⟩
 have:Apart bU c:=⟨by omega⟩
 have:Apart bN c:=⟨by omega⟩
 have:Apart bT c:=⟨by omega⟩
 have:Apart qF c:=⟨by omega⟩
 have:Apart qL c:=⟨by omega⟩
 have:Apart qK c:=⟨by omega⟩
 have:Apart qO c:=⟨by omega⟩
 have:Apart bA bN:=⟨by omega⟩
 have:Apart bS bN:=⟨by omega⟩
 have:Apart bU bN:=⟨by omega⟩
 have:Apart bT bN:=⟨by omega⟩
 have:Apart qF bN:=⟨by omega⟩
 have:Apart qL bN:=⟨by omega⟩
 have:Apart qK bN:=⟨by omega⟩
 have:Apart qO bN:=⟨by omega⟩
 have:Apart c bN:=⟨by omega⟩
 have:Apart bA bT:=⟨by omega⟩
 have:Apart bS bT:=⟨by omega⟩
 have:Apart bU bT:=⟨by omega⟩
 have:Apart bN bT:=⟨by omega⟩
 have:Apart qF bT:=⟨by omega⟩
 have:Apart qL bT:=⟨by omega⟩
 have:Apart qK bT:=⟨by omega⟩
 have:Apart qO bT:=⟨by omega⟩
 have:Apart c bT:=⟨by omega⟩
 have:Apart bA qO:=⟨by omega⟩
 have:Apart bS qO:=⟨by omega⟩
 have:Apart bU qO:=⟨by omega⟩
 have:Apart bN qO:=⟨by omega⟩
 have:Apart bT qO:=⟨by omega⟩
 have:Apart qF qO:=⟨by omega⟩
 have:Apart qL qO:=⟨by omega⟩
 have:Apart qK qO:=⟨by omega⟩
 have:Apart c qO:=⟨by omega⟩
 have HK:=Lib.hid (fun wx st=>zuj pP x s h t F T c bP bA bS bU bN bT qF qL qK qO w wx (nxS s h t F 3) rfl st n0 n1 n2 n3 hd)
 have:S64 (laK h F).s:=zam _ _
 have HLG:=Lib.hid (zn3 s h F)
 have HNX:=Lib.hid (zol s h t F)
 obtain ⟨hb,hc,hf,rA,rS,rU,rN,rT,rF,rL,rK,rO⟩:=hL
 have Hb:=Lib.hid hb
 clear hb
 have i_c:BlockIn wc c:=BlockIn.of_cell hc
 have hci:HasCell wc c 0:=⟨_,hc⟩
 have i_rA:=rA.blockIn
 have i_rS:=rS.blockIn
 have i_rU:=rU.blockIn
 have i_rN:=rN.blockIn
 have i_rT:=rT.blockIn
 have i_rF:=rF.blockIn
 have i_rL:=rL.blockIn
 have i_rK:=rK.blockIn
 have i_rO:=rO.blockIn
 conv=>arg 2;dsimp only[tlC,Tryz.f57,Option.getD]
 go_wp2
 go_loopw [21] (fun tv wr=>∃ k:Nat,tv=.int .i64 k∧k≤3∧Hid (LaD w c bA bS bU bN bT qF qL qK qO x s h T F k (nxS s h t F k) wr)) (fun tv _=>3-(intOf tv).toNat)
 case atStart=>exact ⟨0,rfl,by omega,Lib.hid ⟨btwr,by go_simp,by go_simp,inferInstance,inferInstance,inferInstance,inferInstance,inferInstance,inferInstance,inferInstance,inferInstance,inferInstance⟩⟩
 case round=>
  obtain ⟨k,rfl,hk,hDk⟩:=hrel
  obtain ⟨hb,hc,hf,rA,rS,rU,rN,rT,rF,rL,rK,rO⟩:=hDk.out
  clear i_c hci Hb
  have Hb:=Lib.hid hb
  have i_c:BlockIn wr c:=BlockIn.of_cell hc
  have hci:HasCell wr c 0:=⟨_,hc⟩
  have i_rA:=rA.blockIn
  have i_rS:=rS.blockIn
  have i_rU:=rU.blockIn
  have i_rN:=rN.blockIn
  have i_rT:=rT.blockIn
  have i_rF:=rF.blockIn
  have i_rL:=rL.blockIn
  have i_rK:=rK.blockIn
  have i_rO:=rO.blockIn
  have HrA:=Lib.hid rA
  have HrS:=Lib.hid rS
  have HrU:=Lib.hid rU
  have HrN:=Lib.hid rN
  have HrT:=Lib.hid rT
  have HrF:=Lib.hid rF
  have HrL:=Lib.hid rL
  have HrK:=Lib.hid rK
  have HrO:=Lib.hid rO
  by_cases hlt:k<3
  ·obtain ⟨⟨x1,x2⟩,x3,x4⟩:=zsB rS k hlt
   obtain ⟨x5,x6⟩:=zpD rF k hlt
   obtain ⟨⟨hc1,hc2⟩,hc3,hc4⟩:=zq1 rO k hlt
   obtain ⟨z1,y1⟩:=hc1.is
   obtain ⟨z2,y2⟩:=hc2.is
   obtain ⟨z3,y3⟩:=hc3.is
   obtain ⟨z4,y4⟩:=hc4.is
   have hfN:∀ i,wr.frozen? ⟨qO,i,none⟩=false:=fun i=>zd3 _ _ _ _ _
   have hk3:(k:Int)<3:=by omega
   have HL1:=Lib.hid (HLG.out k hlt)
   have HN1:=Lib.hid (HNX.out k hlt)
   clear hDk HLG HNX HK rA rS rU rN rT rF rO
   have sp:=ze8 s.p k
   have sv:=ze8 s.v k
   have sf:=ze8 F.b k
   generalize axAt s.p k=o at *
   generalize axAt s.v k=vv at *
   generalize axAt F.b k=f at *
   generalize lgE s h F k=e at *
   have sA:S64 (lpA ⟨h,h⟩ vv e).s:=zam _ _
   have sB:S64 (lpB ⟨h,h⟩ o vv e).s:=zam _ _
   have sC:S64 (lpC ⟨h,h⟩ (laK h F).s o vv f e).s:=zam _ _
   have sE:S64 (lpE ⟨h,h⟩ (laK h F).s o vv f e).s:=zam _ _
   have K1:=Lib.hid (fun w hc hf=>show Calls Tryz.prog 53 #[.pointer (some ⟨c,0,none⟩),.agg #[.int .i64 h,.int .i64 h],.agg #[.int .i64 vv.lo,.int .i64 vv.hi]] w (RetC c (.agg #[.int .i64 ((lpA ⟨h,h⟩ vv e).s).lo,.int .i64 ((lpA ⟨h,h⟩ vv e).s).hi]) (lpA ⟨h,h⟩ vv e).e w) from zaP c e ⟨h,h⟩ vv w hc hf)
   have K2:=Lib.hid (fun w hc hf=>show Calls Tryz.prog 55 #[.pointer (some ⟨c,0,none⟩),.agg #[.int .i64 o.lo,.int .i64 o.hi],.agg #[.int .i64 ((lpA ⟨h,h⟩ vv e).s).lo,.int .i64 ((lpA ⟨h,h⟩ vv e).s).hi]] w (RetC c (.agg #[.int .i64 ((lpB ⟨h,h⟩ o vv e).s).lo,.int .i64 ((lpB ⟨h,h⟩ o vv e).s).hi]) (lpB ⟨h,h⟩ o vv e).e w) from zbV c (lpA ⟨h,h⟩ vv e).e o (lpA ⟨h,h⟩ vv e).s w hc hf)
   have K3:=Lib.hid (fun w hc hf=>show Calls Tryz.prog 53 #[.pointer (some ⟨c,0,none⟩),.agg #[.int .i64 ((laK h F).s).lo,.int .i64 ((laK h F).s).hi],.agg #[.int .i64 f.lo,.int .i64 f.hi]] w (RetC c (.agg #[.int .i64 ((lpC ⟨h,h⟩ (laK h F).s o vv f e).s).lo,.int .i64 ((lpC ⟨h,h⟩ (laK h F).s o vv f e).s).hi]) (lpC ⟨h,h⟩ (laK h F).s o vv f e).e w) from zaP c (lpB ⟨h,h⟩ o vv e).e (laK h F).s f w hc hf)
   have K4:=Lib.hid (fun w hc hf=>show Calls Tryz.prog 55 #[.pointer (some ⟨c,0,none⟩),.agg #[.int .i64 ((lpB ⟨h,h⟩ o vv e).s).lo,.int .i64 ((lpB ⟨h,h⟩ o vv e).s).hi],.agg #[.int .i64 ((lpC ⟨h,h⟩ (laK h F).s o vv f e).s).lo,.int .i64 ((lpC ⟨h,h⟩ (laK h F).s o vv f e).s).hi]] w (RetC c (.agg #[.int .i64 ((lpD ⟨h,h⟩ (laK h F).s o vv f e).s).lo,.int .i64 ((lpD ⟨h,h⟩ (laK h F).s o vv f e).s).hi]) (lpD ⟨h,h⟩ (laK h F).s o vv f e).e w) from zbV c (lpC ⟨h,h⟩ (laK h F).s o vv f e).e (lpB ⟨h,h⟩ o vv e).s (lpC ⟨h,h⟩ (laK h F).s o vv f e).s w hc hf)
   have K5:=Lib.hid (fun w hc hf=>show Calls Tryz.prog 53 #[.pointer (some ⟨c,0,none⟩),.agg #[.int .i64 h,.int .i64 h],.agg #[.int .i64 f.lo,.int .i64 f.hi]] w (RetC c (.agg #[.int .i64 ((lpE ⟨h,h⟩ (laK h F).s o vv f e).s).lo,.int .i64 ((lpE ⟨h,h⟩ (laK h F).s o vv f e).s).hi]) (lpE ⟨h,h⟩ (laK h F).s o vv f e).e w) from zaP c (lpD ⟨h,h⟩ (laK h F).s o vv f e).e ⟨h,h⟩ f w hc hf)
   have K6:=Lib.hid (fun w hc hf=>show Calls Tryz.prog 55 #[.pointer (some ⟨c,0,none⟩),.agg #[.int .i64 vv.lo,.int .i64 vv.hi],.agg #[.int .i64 ((lpE ⟨h,h⟩ (laK h F).s o vv f e).s).lo,.int .i64 ((lpE ⟨h,h⟩ (laK h F).s o vv f e).s).hi]] w (RetC c (.agg #[.int .i64 ((lpG ⟨h,h⟩ (laK h F).s o vv f e).s).lo,.int .i64 ((lpG ⟨h,h⟩ (laK h F).s o vv f e).s).hi]) (lpG ⟨h,h⟩ (laK h F).s o vv f e).e w) from zbV c (lpE ⟨h,h⟩ (laK h F).s o vv f e).e vv (lpE ⟨h,h⟩ (laK h F).s o vv f e).s w hc hf)
   have HN2:=Lib.hid (HN1.out (lpD ⟨h,h⟩ (laK h F).s o vv f e).s (lpG ⟨h,h⟩ (laK h F).s o vv f e).s rfl rfl)
   clear HN1 sA sB sC sE
   generalize lpG ⟨h,h⟩ (laK h F).s o vv f e=gG at *
   generalize lpE ⟨h,h⟩ (laK h F).s o vv f e=gE at *
   generalize lpD ⟨h,h⟩ (laK h F).s o vv f e=gD at *
   generalize lpC ⟨h,h⟩ (laK h F).s o vv f e=gC at *
   generalize lpB ⟨h,h⟩ o vv e=gB at *
   generalize lpA ⟨h,h⟩ vv e=gA at *
   go_wp2
   refine zaf c [e,gA.e,gB.e,gC.e,gD.e] 24 [] [13,14,20,21] [] (fun W0=>[]) [.agg #[.int .i64 gA.s.lo,.int .i64 gA.s.hi],.agg #[.int .i64 gB.s.lo,.int .i64 gB.s.hi],.agg #[.int .i64 gC.s.lo,.int .i64 gC.s.hi],.agg #[.int .i64 gD.s.lo,.int .i64 gD.s.hi]] [24] (by rfl) (by go_simp) (by go_simp) (fun _ _ x hx=>absurd hx (List.not_mem_nil)) (by kernel_rfl) (by kernel_rfl) (by kernel_rfl) ?_
   intro pz hd0
   apply Exists.intro
   apply And.intro
   iterate 13 (apply zae hd0 (by kernel_rfl);(· intro uz xc;unfold zai;go_simp;rfl))
   apply zad hd0 0 (by kernel_rfl) (by rfl) (by decide)
   ·intro uz hfz hF;clear hF;unfold zah;go_simp;exact K1.out _ (by go_simp) hfz
   apply zad hd0 1 (by kernel_rfl) (by rfl) (by decide)
   ·intro uz hfz hF;clear hF;unfold zah;go_simp;exact K2.out _ (by go_simp) hfz
   iterate 5 (apply zae hd0 (by kernel_rfl);(· intro uz xc;unfold zai;go_simp;rfl))
   apply zad hd0 2 (by kernel_rfl) (by rfl) (by decide)
   ·intro uz hfz hF;clear hF;unfold zah;go_simp;exact K3.out _ (by go_simp) hfz
   apply zad hd0 3 (by kernel_rfl) (by rfl) (by decide)
   ·intro uz hfz hF;clear hF;unfold zah;go_simp;exact K4.out _ (by go_simp) hfz
   iterate 2 (apply zae hd0 (by kernel_rfl);(· intro uz xc;unfold zai;go_simp;rfl))
   apply zax
   rotate_left
   ·rfl
   intro uz hR hD hfz
   clear hR hD
   refine zag (by rfl) ?_;unfold zap;go_simp
   refine zao ?_
   go_wp2
   refine zaf c [gD.e,gE.e,gG.e] 15 [] [11,12] [] (fun W0=>[]) [.agg #[.int .i64 gE.s.lo,.int .i64 gE.s.hi],.agg #[.int .i64 gG.s.lo,.int .i64 gG.s.hi]] [15] (by rfl) (by go_simp) (by go_simp) (fun _ _ x hx=>absurd hx (List.not_mem_nil)) (by kernel_rfl) (by kernel_rfl) (by kernel_rfl) ?_
   intro pz hd0
   apply Exists.intro
   apply And.intro
   iterate 11 (apply zae hd0 (by kernel_rfl);(· intro uz xc;unfold zai;go_simp;rfl))
   apply zad hd0 0 (by kernel_rfl) (by rfl) (by decide)
   ·intro uz hfz hF;clear hF;unfold zah;go_simp;exact K5.out _ (by go_simp) hfz
   apply zad hd0 1 (by kernel_rfl) (by rfl) (by decide)
   ·intro uz hfz hF;clear hF;unfold zah;go_simp;exact K6.out _ (by go_simp) hfz
   iterate 2 (apply zae hd0 (by kernel_rfl);(· intro uz xc;unfold zai;go_simp;rfl))
   apply zax
   rotate_left
   ·rfl
   intro uz hR hD hfz
   clear hR hD
   refine zag (by rfl) ?_;unfold zap;go_simp
   refine zao ?_
   go_wp2
   go_roundw
   case rel=>
    refine ⟨k+1,by go_num,by omega,Lib.hid ⟨?_,?_,?_,?_,?_,?_,?_,?_,?_,?_,?_,?_⟩⟩
    ·exact btwr
    ·rw[HL1.out];go_simp
    ·go_simp
    ·exact (by repeat (first|exact HrA.out|apply RowIs.far|apply RowIs.lat|apply RowIs.drw))
    ·exact (by repeat (first|exact HrS.out|apply RowIs.far|apply RowIs.lat|apply RowIs.drw))
    ·exact (by repeat (first|exact HrU.out|apply RowIs.far|apply RowIs.lat|apply RowIs.drw))
    ·exact (by repeat (first|exact HrN.out|apply RowIs.far|apply RowIs.lat|apply RowIs.drw))
    ·exact (by repeat (first|exact HrT.out|apply RowIs.far|apply RowIs.lat|apply RowIs.drw))
    ·exact (by repeat (first|exact HrF.out|apply RowIs.far|apply RowIs.lat|apply RowIs.drw))
    ·exact (by repeat (first|exact HrL.out|apply RowIs.far|apply RowIs.lat|apply RowIs.drw))
    ·exact (by repeat (first|exact HrK.out|apply RowIs.far|apply RowIs.lat|apply RowIs.drw))
    ·rw[HN2.out];repeat (first|exact HrO.out|apply RowIs.putAt|apply RowIs.far|apply RowIs.lat|apply RowIs.drw)
   case measure=>simp[intOf];omega
  ·obtain rfl:k=3:=by omega
   have HK2:=Lib.hid (HK.out wr hDk.out)
   clear HK HLG HNX
   iterate 16 go_step
   first|exact HK2.out _ _ _ _ _ _ _ _ _ _ _ _ _ _ _ _ _ _ _ _ _ _ _ _ _ _ _ _ _ _ _ _ _ _ _ _ _ _ _ _ _ _ _ _ _ _ _ _ _ _ _ _ _ _ _ _ _ _ _ _ _ _ _ _ _ _ _ _ _ _ _ _ _ _ _ _ _ _ _ _ _ _ _ _ _ _ _ _ _ _ _|(go_step;first|exact HK2.out _ _ _ _ _ _ _ _ _ _ _ _ _ _ _ _ _ _ _ _ _ _ _ _ _ _ _ _ _ _ _ _ _ _ _ _ _ _ _ _ _ _ _ _ _ _ _ _ _ _ _ _ _ _ _ _ _ _ _ _ _ _ _ _ _ _ _ _ _ _ _ _ _ _ _ _ _ _ _ _ _ _ _ _ _ _ _ _ _ _ _|(go_step;first|exact HK2.out _ _ _ _ _ _ _ _ _ _ _ _ _ _ _ _ _ _ _ _ _ _ _ _ _ _ _ _ _ _ _ _ _ _ _ _ _ _ _ _ _ _ _ _ _ _ _ _ _ _ _ _ _ _ _ _ _ _ _ _ _ _ _ _ _ _ _ _ _ _ _ _ _ _ _ _ _ _ _ _ _ _ _ _ _ _ _ _ _ _ _|(go_step;first|exact HK2.out _ _ _ _ _ _ _ _ _ _ _ _ _ _ _ _ _ _ _ _ _ _ _ _ _ _ _ _ _ _ _ _ _ _ _ _ _ _ _ _ _ _ _ _ _ _ _ _ _ _ _ _ _ _ _ _ _ _ _ _ _ _ _ _ _ _ _ _ _ _ _ _ _ _ _ _ _ _ _ _ _ _ _ _ _ _ _ _ _ _ _|(go_step;first|exact HK2.out _ _ _ _ _ _ _ _ _ _ _ _ _ _ _ _ _ _ _ _ _ _ _ _ _ _ _ _ _ _ _ _ _ _ _ _ _ _ _ _ _ _ _ _ _ _ _ _ _ _ _ _ _ _ _ _ _ _ _ _ _ _ _ _ _ _ _ _ _ _ _ _ _ _ _ _ _ _ _ _ _ _ _ _ _ _ _ _ _ _ _|(go_step;first|exact HK2.out _ _ _ _ _ _ _ _ _ _ _ _ _ _ _ _ _ _ _ _ _ _ _ _ _ _ _ _ _ _ _ _ _ _ _ _ _ _ _ _ _ _ _ _ _ _ _ _ _ _ _ _ _ _ _ _ _ _ _ _ _ _ _ _ _ _ _ _ _ _ _ _ _ _ _ _ _ _ _ _ _ _ _ _ _ _ _ _ _ _ _|(go_step;first|exact HK2.out _ _ _ _ _ _ _ _ _ _ _ _ _ _ _ _ _ _ _ _ _ _ _ _ _ _ _ _ _ _ _ _ _ _ _ _ _ _ _ _ _ _ _ _ _ _ _ _ _ _ _ _ _ _ _ _ _ _ _ _ _ _ _ _ _ _ _ _ _ _ _ _ _ _ _ _ _ _ _ _ _ _ _ _ _ _ _ _ _ _ _|(go_step;first|exact HK2.out _ _ _ _ _ _ _ _ _ _ _ _ _ _ _ _ _ _ _ _ _ _ _ _ _ _ _ _ _ _ _ _ _ _ _ _ _ _ _ _ _ _ _ _ _ _ _ _ _ _ _ _ _ _ _ _ _ _ _ _ _ _ _ _ _ _ _ _ _ _ _ _ _ _ _ _ _ _ _ _ _ _ _ _ _ _ _ _ _ _ _|(go_step;first|exact HK2.out _ _ _ _ _ _ _ _ _ _ _ _ _ _ _ _ _ _ _ _ _ _ _ _ _ _ _ _ _ _ _ _ _ _ _ _ _ _ _ _ _ _ _ _ _ _ _ _ _ _ _ _ _ _ _ _ _ _ _ _ _ _ _ _ _ _ _ _ _ _ _ _ _ _ _ _ _ _ _ _ _ _ _ _ _ _ _ _ _ _ _|(go_step;first|exact HK2.out _ _ _ _ _ _ _ _ _ _ _ _ _ _ _ _ _ _ _ _ _ _ _ _ _ _ _ _ _ _ _ _ _ _ _ _ _ _ _ _ _ _ _ _ _ _ _ _ _ _ _ _ _ _ _ _ _ _ _ _ _ _ _ _ _ _ _ _ _ _ _ _ _ _ _ _ _ _ _ _ _ _ _ _ _ _ _ _ _ _ _|(go_step;exact HK2.out _ _ _ _ _ _ _ _ _ _ _ _ _ _ _ _ _ _ _ _ _ _ _ _ _ _ _ _ _ _ _ _ _ _ _ _ _ _ _ _ _ _ _ _ _ _ _ _ _ _ _ _ _ _ _ _ _ _ _ _ _ _ _ _ _ _ _ _ _ _ _ _ _ _ _ _ _ _ _ _ _ _ _ _ _ _ _ _ _ _ _))))))))))
end Go.Proofs.YtdkfkalplmgoeaaGreat
namespace Go.Proofs.YtdkfkalplmgoeaaGreat
open Go.RowKit Go.Shelf
set_option maxRecDepth 100000
set_option maxHeartbeats 16000000
set_option linter.unusedSimpArgs false
theorem zoJ (pP:Planet) (x:Arc) (s:State) (h t:Int) (F:BRes) (T:Tube) [hs:St64 s] [hh:S64 (⟨h,h⟩:Sp)] [hxf:S64 x.flow] [hF:B64 F.b] (c:Nat) (w:World) (hc:w.cell? ⟨c,0,none⟩=some (.int .i64 0)) (hf:w.frozen? ⟨c,0,none⟩=false)
 (HF0:∀ w',But c w w'→(w'.cell? ⟨c,0,none⟩=some (.int .i64 0))→w'.frozen? ⟨c,0,none⟩=false→Calls Tryz.prog 54 #[.pointer (some ⟨c,0,none⟩),.agg pP.cells.toArray,.agg x.cells.toArray,.agg #[.int .i64 T.p.x.lo,.int .i64 T.p.x.hi,.int .i64 T.p.y.lo,.int .i64 T.p.y.hi,.int .i64 T.p.z.lo,.int .i64 T.p.z.hi],.agg #[.int .i64 T.v.x.lo,.int .i64 T.v.x.hi,.int .i64 T.v.y.lo,.int .i64 T.v.y.hi,.int .i64 T.v.z.lo,.int .i64 T.v.z.hi],.agg #[.int .i64 T.m.lo,.int .i64 T.m.hi]] w' (RetC c (.agg #[.int .i64 F.b.x.lo,.int .i64 F.b.x.hi,.int .i64 F.b.y.lo,.int .i64 F.b.y.hi,.int .i64 F.b.z.lo,.int .i64 F.b.z.hi]) F.e w')) :
 Calls Tryz.prog 57 #[.pointer (some ⟨c,0,none⟩),.agg pP.cells.toArray,.agg x.cells.toArray,.agg #[.int .i64 s.t,.int .i64 s.p.x.lo,.int .i64 s.p.x.hi,.int .i64 s.p.y.lo,.int .i64 s.p.y.hi,.int .i64 s.p.z.lo,.int .i64 s.p.z.hi,.int .i64 s.v.x.lo,.int .i64 s.v.x.hi,.int .i64 s.v.y.lo,.int .i64 s.v.y.hi,.int .i64 s.v.z.lo,.int .i64 s.v.z.hi,.int .i64 s.m.lo,.int .i64 s.m.hi],.int .i64 h,.int .i64 t,.agg #[.int .i64 T.a,.int .i64 T.z,.int .i64 T.p.x.lo,.int .i64 T.p.x.hi,.int .i64 T.p.y.lo,.int .i64 T.p.y.hi,.int .i64 T.p.z.lo,.int .i64 T.p.z.hi,.int .i64 T.v.x.lo,.int .i64 T.v.x.hi,.int .i64 T.v.y.lo,.int .i64 T.v.y.hi,.int .i64 T.v.z.lo,.int .i64 T.v.z.hi,.int .i64 T.m.lo,.int .i64 T.m.hi]] w (RetL (zeb x s h t T F) c w):=by
 have ib:BlockIn w c:=BlockIn.of_cell hc
 have hci:HasCell w c 0:=⟨_,hc⟩
 have Hb:=Lib.hid (But.refl hc)
 have hlt:=ib.lt
 have HF:=Lib.hid HF0
 clear HF0
 have:Apart c (w.heap.size):=⟨by omega⟩
 have:Apart c (w.heap.size+1):=⟨by omega⟩
 have:Apart c (w.heap.size+1+1):=⟨by omega⟩
 have:Apart c (w.heap.size+1+1+1):=⟨by omega⟩
 have:Apart c (w.heap.size+1+1+1+1):=⟨by omega⟩
 have:Apart c (w.heap.size+1+1+1+1+1):=⟨by omega⟩
 have:Apart (w.heap.size) c:=⟨by omega⟩
 have:Apart (w.heap.size+1) c:=⟨by omega⟩
 have:Apart (w.heap.size+1+1) c:=⟨by omega⟩
 have:Apart (w.heap.size+1+1+1) c:=⟨by omega⟩
 have:Apart (w.heap.size+1+1+1+1) c:=⟨by omega⟩
 have:Apart (w.heap.size+1+1+1+1+1) c:=⟨by omega⟩
 have HK:=Lib.hid (fun qF qL qK qO wx st n0 n3 hd=>zui pP x s h t F T c (w.heap.size) (w.heap.size+1) (w.heap.size+1+1) (w.heap.size+1+1+1) (w.heap.size+1+1+1+1) (w.heap.size+1+1+1+1+1) qF qL qK qO w wx st n0 ⟨by omega⟩ ⟨by omega⟩ n3 hd)
 have sL:S64 (laL h F).s:=zam _ _
 have K1:=Lib.hid (fun w hc hf=>show Calls Tryz.prog 53 #[.pointer (some ⟨c,0,none⟩),.agg #[.int .i64 h,.int .i64 h],.agg #[.int .i64 h,.int .i64 h]] w (RetC c (.agg #[.int .i64 ((laL h F).s).lo,.int .i64 ((laL h F).s).hi]) (laL h F).e w) from zaP c F.e ⟨h,h⟩ ⟨h,h⟩ w hc hf)
 have K2:=Lib.hid (fun w hc hf=>show Calls Tryz.prog 112 #[.pointer (some ⟨c,0,none⟩),.agg #[.int .i64 ((laL h F).s).lo,.int .i64 ((laL h F).s).hi],.agg #[.int .i64 ((zaI 2)).lo,.int .i64 ((zaI 2)).hi]] w (RetC c (.agg #[.int .i64 ((laK h F).s).lo,.int .i64 ((laK h F).s).hi]) (laK h F).e w) from zc7 c (laL h F).e (laL h F).s (zaI 2) w hc hf)
 have KD:=Lib.hid (fun w=>show Calls Tryz.prog 51 #[.int .i64 h] w fun e w'=>e=.returned (.agg #[.int .i64 h,.int .i64 h])∧Grew w w' from zj4 h w)
 have KW:=Lib.hid (zgQ 2 (by omega) (by omega))
 clear sL
 generalize hLL:laL h F=LL at *
 generalize hKK:laK h F=KK at *
 have HKE:=Lib.hid hKK
 clear hKK hLL
 go_enter Tryz.func57,Tryz.ntmps57
 go_upto_region 4 with (first|(go_at_call 54;(with_reducible refine zar (HF.out _ ?_ ?_ ?_) ?_);(· exact btwr);(· go_simp);(· go_simp);intro u1)|(go_at_call 51;(with_reducible refine zaa (KD.out _) ?_);intro u2)|(go_at_call 53;(with_reducible refine zar (K1.out _ ?_ ?_) ?_);(· go_simp);(· go_simp);intro u3)|(go_at_call 117;(with_reducible refine zaa (KW.out _) ?_);intro u4)|(go_at_call 112;(with_reducible refine zar (K2.out _ ?_ ?_) ?_);(· go_simp);(· go_simp);intro u5)|(with_reducible refine wLr ?_)|(with_reducible refine wLi ?_)|(with_reducible refine wSf ?_)|(with_reducible refine wSi ?_))
 go_cut [20] (fun v20 wx=>v20=.pointer (some ⟨u5.world.heap.size+1,0,none⟩)∧LaD w c (w.heap.size+1) (w.heap.size+1+1) (w.heap.size+1+1+1) (w.heap.size+1+1+1+1) (w.heap.size+1+1+1+1+1) u1.world.heap.size u2.world.heap.size u5.world.heap.size (u5.world.heap.size+1) x s h T F 0 (nxS s h t F 0) wx)
 case first=>
  go_wp2_with (first|(with_reducible refine wLr ?_)|(with_reducible refine wLi ?_)|(with_reducible refine wSf ?_)|(with_reducible refine wSi ?_))
  go_meet
  case rel=>exact ⟨rfl,btwr,by rw[show lgE s h F 0=KK.e by rw[←HKE.out];rfl];go_simp,by go_simp,inferInstance,inferInstance,zau inferInstance rfl,zau inferInstance rfl,zau inferInstance rfl,inferInstance,inferInstance,zau inferInstance (by rw[HKE.out]),zau inferInstance rfl⟩
 case rest=>
 obtain ⟨rfl,hcut⟩:=hcut
 have e1:Less (w.heap.size+1+1+1+1+1) u1.world.heap.size:=inferInstance
 have e2:Less u1.world.heap.size u5.world.heap.size:=inferInstance
 have e3:Less u2.world.heap.size u5.world.heap.size:=inferInstance
 have e4:Less (w.heap.size+1+1+1+1+1) u2.world.heap.size:=inferInstance
 have e1':=e1.lt
 have e2':=e2.lt
 have e3':=e3.lt
 have e4':=e4.lt
 go_step
 exact HK.out _ _ _ _ _ hcut ⟨⟨by omega⟩,⟨by omega⟩,⟨by omega⟩,⟨by omega⟩,⟨by omega⟩,⟨by omega⟩,⟨by omega⟩,⟨by omega⟩,⟨by omega⟩⟩ ⟨by omega⟩ ⟨by omega,by omega,by omega,by omega,by omega,by omega,by omega,by omega,by omega,by omega,by omega⟩ _ _ _ _ _ _ _ _ _ _ _ _ _ _ _ _ _ _ _ _ _ _ _ _ _ _ _ _ _ _ _ _ _ _ _ _ _ _ _ _ _ _ _ _ _ _ _ _ _ _ _ _ _ _ _ _ _ _ _ _ _ _ _ _ _ _ _ _ _ _ _ _ _ _ _ _ _ _ _ _ _ _ _ _ _ _ _ _ _ _ _
end Go.Proofs.YtdkfkalplmgoeaaGreat
