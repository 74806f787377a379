/-
  Joined: ForceD.
-/
import Derived.Test.YtdkfkalplmgoeaaGreatForceABCH
import Derived.Test.YtdkfkalplmgoeaaGreatForceNH
import Derived.Deep.DeepCutAuto
namespace Go.Proofs.YtdkfkalplmgoeaaGreat
open Go.RowKit Go.Shelf
set_option maxRecDepth 100000
set_option maxHeartbeats 32000000
theorem zhG (HL:zej 191) (pP:Planet) (x:Arc) (l:List Pt) (q v:Bx) (m:Sp) [hp:Pl64 pP] [hq:B64 q] [hv:B64 v] [hm:S64 m] [hxt:S64 x.thrust] [hxd:B64 x.dir] (c:Nat) (e:Int) (w:World) (hc:w.cell? ⟨c,0,none⟩=some (.int .i64 e)) (hf:w.frozen? ⟨c,0,none⟩=false)
 (hdn:x.drag.n=l.length) (HS:∀ wx,But c w wx→SlAt wx (.slice x.drag.ao l.length x.drag.cap) l.length (l.flatMap Pt.cells)) :
 Calls Tryz.prog 103 #[.agg (zak pP x).toArray,.pointer (some ⟨c,0,none⟩),.agg #[.int .i64 q.x.lo,.int .i64 q.x.hi,.int .i64 q.y.lo,.int .i64 q.y.hi,.int .i64 q.z.lo,.int .i64 q.z.hi,.int .i64 v.x.lo,.int .i64 v.x.hi,.int .i64 v.y.lo,.int .i64 v.y.hi,.int .i64 v.z.lo,.int .i64 v.z.hi],.agg #[.int .i64 m.lo,.int .i64 m.hi]] w (RetC c (.agg #[.int .i64 ((zaD pP x l q v m e).b).x.lo,.int .i64 ((zaD pP x l q v m e).b).x.hi,.int .i64 ((zaD pP x l q v m e).b).y.lo,.int .i64 ((zaD pP x l q v m e).b).y.hi,.int .i64 ((zaD pP x l q v m e).b).z.lo,.int .i64 ((zaD pP x l q v m e).b).z.hi]) (zaD pP x l q v m e).e w):=by
 have ib:BlockIn w c:=BlockIn.of_cell hc
 have hci:HasCell w c 0:=⟨_,hc⟩
 have Hb:=Lib.hid (But.refl hc)
 have Hc:=Lib.hid hc
 have hlt:=ib.lt
 have hlen:=(HS w (But.refl hc)).len_le
 unfold maxLen at hlen
 have sN:S64 (frN pP l q e).s:=by
  unfold frN
  split
  ·exact zam _ _
  ·exact ⟨by unfold I64 z0;simp,by unfold I64 z0;simp⟩
 have HZ0:=Lib.hid (fun w'=>zer pP.mu w')
 have HNT:=Lib.hid (fun (h:(!zbv pP.mu||!l.isEmpty)=true) (w:World) hc hf=>show Calls Tryz.prog 154 #[.pointer (some ⟨c,0,none⟩),.agg #[.int .i64 q.x.lo,.int .i64 q.x.hi,.int .i64 q.y.lo,.int .i64 q.y.hi,.int .i64 q.z.lo,.int .i64 q.z.hi]] w (RetC c (.agg #[.int .i64 ((frN pP l q e).s).lo,.int .i64 ((frN pP l q e).s).hi]) (frN pP l q e).e w) from by
  rw[show frN pP l q e=doR e (zbA q.list) by unfold frN;rw[if_pos h]]
  exact zjE c e q w hc hf)
 have HNF:=Lib.hid (fun (h:(!zbv pP.mu||!l.isEmpty)=false)=>show frN pP l q e=⟨z0,e⟩ by unfold frN;rw[h];rfl)
 have HLE:=Lib.hid (show l.isEmpty=decide (l.length=0) by cases l<;>simp)
 have HHS:=Lib.hid HS
 have HOP:=Lib.hid (show frPF pP l q e=if zbv pP.mu then ⟨pP.pull,(frN pP l q e).e⟩ else zbR subR (attR pP q (frN pP l q e).s (frN pP l q e).e).e pP.pull (attR pP q (frN pP l q e).s (frN pP l q e).e).b from rfl)
 have HOS:=Lib.hid (show frSF pP l q v e=zce pP.spin q v (frPF pP l q e) from rfl)
 have HOT:=Lib.hid (show frTF pP x l q v m e=zeh x m (frSF pP l q v e) from rfl)
 have HOD:=Lib.hid (show zaD pP x l q v m e=zi5 pP l v m (frN pP l q e).s (frTF pP x l q v m e) from rfl)
 have bP:B64 (frPF pP l q e).b:=zlx pP l q e
 have bS:B64 (frSF pP l q v e).b:=zhj _ _ _ _
 have bT:B64 (frTF pP x l q v m e).b:=zim _ _ _
 have HAT:=Lib.hid (fun w hc hf=>show Calls Tryz.prog 156 #[.agg (zak pP x).toArray,.pointer (some ⟨c,0,none⟩),.agg #[.int .i64 q.x.lo,.int .i64 q.x.hi,.int .i64 q.y.lo,.int .i64 q.y.hi,.int .i64 q.z.lo,.int .i64 q.z.hi],.agg #[.int .i64 ((frN pP l q e).s).lo,.int .i64 ((frN pP l q e).s).hi]] w (RetC c (.agg #[.int .i64 ((attR pP q (frN pP l q e).s (frN pP l q e).e).b).x.lo,.int .i64 ((attR pP q (frN pP l q e).s (frN pP l q e).e).b).x.hi,.int .i64 ((attR pP q (frN pP l q e).s (frN pP l q e).e).b).y.lo,.int .i64 ((attR pP q (frN pP l q e).s (frN pP l q e).e).b).y.hi,.int .i64 ((attR pP q (frN pP l q e).s (frN pP l q e).e).b).z.lo,.int .i64 ((attR pP q (frN pP l q e).s (frN pP l q e).e).b).z.hi]) (attR pP q (frN pP l q e).s (frN pP l q e).e).e w) from znu pP x q (frN pP l q e).s c (frN pP l q e).e w hc hf)
 generalize zaD pP x l q v m e=OD at *
 generalize frTF pP x l q v m e=OT at *
 generalize frSF pP l q v e=OS at *
 generalize frPF pP l q e=OP at *
 clear HS
 have hdl:=Lib.hid hdn
 clear hdn
 generalize hNR:frN pP l q e=NR at *
 clear hNR
 have HB:=Lib.hid (fun (h:zbv pP.mu=false) (w:World) hc hf=>show Calls Tryz.prog 155 #[.pointer (some ⟨c,0,none⟩),.func (.func 99) #[.pointer (some ⟨c,0,none⟩)] #[],.agg #[.int .i64 pP.pull.x.lo,.int .i64 pP.pull.x.hi,.int .i64 pP.pull.y.lo,.int .i64 pP.pull.y.hi,.int .i64 pP.pull.z.lo,.int .i64 pP.pull.z.hi],.agg #[.int .i64 ((attR pP q NR.s NR.e).b).x.lo,.int .i64 ((attR pP q NR.s NR.e).b).x.hi,.int .i64 ((attR pP q NR.s NR.e).b).y.lo,.int .i64 ((attR pP q NR.s NR.e).b).y.hi,.int .i64 ((attR pP q NR.s NR.e).b).z.lo,.int .i64 ((attR pP q NR.s NR.e).b).z.hi]] w (RetC c (.agg #[.int .i64 OP.b.x.lo,.int .i64 OP.b.x.hi,.int .i64 OP.b.y.lo,.int .i64 OP.b.y.hi,.int .i64 OP.b.z.lo,.int .i64 OP.b.z.hi]) OP.e w) from by
  have h1:=HOP.out
  rw[h] at h1
  rw[show OP=zbR subR (attR pP q NR.s NR.e).e pP.pull (attR pP q NR.s NR.e).b from h1]
  exact zcW 99 subR (enters_of Tryz.func99 (by kernel_rfl) rfl) zou c (attR pP q NR.s NR.e).e pP.pull (attR pP q NR.s NR.e).b (hb:=zbK _ _ _ _) w hc hf)
 have HP1:=Lib.hid (fun (h:zbv pP.mu=true)=>show OP=⟨pP.pull,NR.e⟩ by have h1:=HOP.out;rw[h] at h1;exact h1)
 clear HOP
 generalize attR pP q NR.s NR.e=AT at *
 generalize hzm:zbv pP.mu=zm at *
 go_enter Tryz.func103,Tryz.ntmps103
 go_wp2
 refine zaJ 6 [4,5] [1,3] [] (fun W0=>[(4,BoxR W0 [.int .i64 0,.int .i64 0,.int .i64 0,.int .i64 0,.int .i64 0,.int .i64 0]),(5,BoxR W0 [.int .i64 0,.int .i64 0,.int .i64 0,.int .i64 0,.int .i64 0,.int .i64 0])]) [.agg #[.int .i64 q.x.lo,.int .i64 q.x.hi,.int .i64 q.y.lo,.int .i64 q.y.hi,.int .i64 q.z.lo,.int .i64 q.z.hi],.agg #[.int .i64 v.x.lo,.int .i64 v.x.hi,.int .i64 v.y.lo,.int .i64 v.y.hi,.int .i64 v.z.lo,.int .i64 v.z.hi]] [6,7] (by rfl) (by intro W0 x hx;simp only[List.mem_cons,List.not_mem_nil,or_false] at hx;rcases hx with rfl|rfl<;>first|exact zcw _ _|exact zcw _ _) (by kernel_rfl) (by kernel_rfl) (by kernel_rfl) ?_
 intro p
 apply Exists.intro
 apply And.intro
 apply zaA (by kernel_rfl)
 ·intro u;unfold zai;go_simp;rfl
 apply zaw 0 (by kernel_rfl) (by rfl) (by decide)
 ·intro u hF;clear hF;unfold zah;go_simp;exact zfU _ _ _
 apply zaA (by kernel_rfl)
 ·intro u;unfold zai;go_simp;rfl
 apply zaw 1 (by kernel_rfl) (by rfl) (by decide)
 ·intro u hF;clear hF;unfold zah;go_simp;exact zb2 _ _ _
 apply zbT (by kernel_rfl)
 ·intro u hF;clear hF;unfold za5;go_simp;exact zcy _ _ _ _
 apply zbT (by kernel_rfl)
 ·intro u hF;clear hF;unfold za5;go_simp;exact zcy _ _ _ _
 apply zbG
 rotate_left
 ·rfl
 intro u hR hD
 obtain ⟨q4,e4,hB4,kB4,nB4⟩:=(show BoxR _ [.int .i64 0,.int .i64 0,.int .i64 0,.int .i64 0,.int .i64 0,.int .i64 0] (p 4) u.world from hR 4 (by decide))
 obtain ⟨q5,e5,hB5,kB5,nB5⟩:=(show BoxR _ [.int .i64 0,.int .i64 0,.int .i64 0,.int .i64 0,.int .i64 0,.int .i64 0] (p 5) u.world from hR 5 (by decide))
 have hd5:=hD 4 5 (by decide) (by decide) (by decide)
 rw[e4,e5] at hd5
 obtain ⟨ap4_5,ap5_4⟩:=zc3 hd5
 clear hd5
 clear hR hD
 rw[e4]
 clear e4
 have oB4:=zaG nB4
 have oC4:=zaH nB4
 have nC4:NewFor w q4:=⟨Nat.le_trans (Grew.size gw) nB4.le⟩
 have hB4_0:=(hB4 0 _ rfl).1
 have hB4f0:=(hB4 0 _ rfl).2
 have hB4i0:HasCell (u.world) (q4) 0:=⟨_,hB4_0⟩
 have hB4_1:=(hB4 1 _ rfl).1
 have hB4f1:=(hB4 1 _ rfl).2
 have hB4i1:HasCell (u.world) (q4) 1:=⟨_,hB4_1⟩
 have hB4_2:=(hB4 2 _ rfl).1
 have hB4f2:=(hB4 2 _ rfl).2
 have hB4i2:HasCell (u.world) (q4) 2:=⟨_,hB4_2⟩
 have hB4_3:=(hB4 3 _ rfl).1
 have hB4f3:=(hB4 3 _ rfl).2
 have hB4i3:HasCell (u.world) (q4) 3:=⟨_,hB4_3⟩
 have hB4_4:=(hB4 4 _ rfl).1
 have hB4f4:=(hB4 4 _ rfl).2
 have hB4i4:HasCell (u.world) (q4) 4:=⟨_,hB4_4⟩
 have hB4_5:=(hB4 5 _ rfl).1
 have hB4f5:=(hB4 5 _ rfl).2
 have hB4i5:HasCell (u.world) (q4) 5:=⟨_,hB4_5⟩
 have hB4b:BlockIn (u.world) (q4):=BlockIn.of_cell hB4_0
 clear hB4
 rw[e5]
 clear e5
 have oB5:=zaG nB5
 have oC5:=zaH nB5
 have nC5:NewFor w q5:=⟨Nat.le_trans (Grew.size gw) nB5.le⟩
 have hB5_0:=(hB5 0 _ rfl).1
 have hB5f0:=(hB5 0 _ rfl).2
 have hB5i0:HasCell (u.world) (q5) 0:=⟨_,hB5_0⟩
 have hB5_1:=(hB5 1 _ rfl).1
 have hB5f1:=(hB5 1 _ rfl).2
 have hB5i1:HasCell (u.world) (q5) 1:=⟨_,hB5_1⟩
 have hB5_2:=(hB5 2 _ rfl).1
 have hB5f2:=(hB5 2 _ rfl).2
 have hB5i2:HasCell (u.world) (q5) 2:=⟨_,hB5_2⟩
 have hB5_3:=(hB5 3 _ rfl).1
 have hB5f3:=(hB5 3 _ rfl).2
 have hB5i3:HasCell (u.world) (q5) 3:=⟨_,hB5_3⟩
 have hB5_4:=(hB5 4 _ rfl).1
 have hB5f4:=(hB5 4 _ rfl).2
 have hB5i4:HasCell (u.world) (q5) 4:=⟨_,hB5_4⟩
 have hB5_5:=(hB5 5 _ rfl).1
 have hB5f5:=(hB5 5 _ rfl).2
 have hB5i5:HasCell (u.world) (q5) 5:=⟨_,hB5_5⟩
 have hB5b:BlockIn (u.world) (q5):=BlockIn.of_cell hB5_0
 clear hB5
 refine zag (by rfl) ?_;unfold zap;go_simp
 refine zag (by rfl) ?_;unfold zap;go_simp
 refine zao ?_
 have:Apart (c) (w.heap.size):=(by first|infer_instance|exact ⟨by omega⟩)
 have:Apart (c) (w.heap.size+1+1):=(by first|infer_instance|exact ⟨by omega⟩)
 have:Apart (c) (w.heap.size+1+1+1):=(by first|infer_instance|exact ⟨by omega⟩)
 have:Apart (c) (w.heap.size+1+1+1+1):=(by first|infer_instance|exact ⟨by omega⟩)
 have:Apart (c) (q4):=(by first|infer_instance|exact ⟨by omega⟩)
 have:Apart (c) (q5):=(by first|infer_instance|exact ⟨by omega⟩)
 have:Apart (c) (u.world.heap.size):=(by first|infer_instance|exact ⟨by omega⟩)
 have:Apart (w.heap.size) (c):=(by first|infer_instance|exact ⟨by omega⟩)
 have:Apart (w.heap.size) (w.heap.size+1+1):=(by first|infer_instance|exact ⟨by omega⟩)
 have:Apart (w.heap.size) (w.heap.size+1+1+1):=(by first|infer_instance|exact ⟨by omega⟩)
 have:Apart (w.heap.size) (w.heap.size+1+1+1+1):=(by first|infer_instance|exact ⟨by omega⟩)
 have:Apart (w.heap.size) (q4):=(by first|infer_instance|exact ⟨by omega⟩)
 have:Apart (w.heap.size) (q5):=(by first|infer_instance|exact ⟨by omega⟩)
 have:Apart (w.heap.size) (u.world.heap.size):=(by first|infer_instance|exact ⟨by omega⟩)
 have:Apart (w.heap.size+1+1) (c):=(by first|infer_instance|exact ⟨by omega⟩)
 have:Apart (w.heap.size+1+1) (w.heap.size):=(by first|infer_instance|exact ⟨by omega⟩)
 have:Apart (w.heap.size+1+1) (w.heap.size+1+1+1):=(by first|infer_instance|exact ⟨by omega⟩)
 have:Apart (w.heap.size+1+1) (w.heap.size+1+1+1+1):=(by first|infer_instance|exact ⟨by omega⟩)
 have:Apart (w.heap.size+1+1) (q4):=(by first|infer_instance|exact ⟨by omega⟩)
 have:Apart (w.heap.size+1+1) (q5):=(by first|infer_instance|exact ⟨by omega⟩)
 have:Apart (w.heap.size+1+1) (u.world.heap.size):=(by first|infer_instance|exact ⟨by omega⟩)
 have:Apart (w.heap.size+1+1+1) (c):=(by first|infer_instance|exact ⟨by omega⟩)
 have:Apart (w.heap.size+1+1+1) (w.heap.size):=(by first|infer_instance|exact ⟨by omega⟩)
 have:Apart (w.heap.size+1+1+1) (w.heap.size+1+1):=(by first|infer_instance|exact ⟨by omega⟩)
 have:Apart (w.heap.size+1+1+1) (w.heap.size+1+1+1+1):=(by first|infer_instance|exact ⟨by omega⟩)
 have:Apart (w.heap.size+1+1+1) (q4):=(by first|infer_instance|exact ⟨by omega⟩)
 have:Apart (w.heap.size+1+1+1) (q5):=(by first|infer_instance|exact ⟨by omega⟩)
 have:Apart (w.heap.size+1+1+1) (u.world.heap.size):=(by first|infer_instance|exact ⟨by omega⟩)
 have:Apart (w.heap.size+1+1+1+1) (c):=(by first|infer_instance|exact ⟨by omega⟩)
 have:Apart (w.heap.size+1+1+1+1) (w.heap.size):=(by first|infer_instance|exact ⟨by omega⟩)
 have:Apart (w.heap.size+1+1+1+1) (w.heap.size+1+1):=(by first|infer_instance|exact ⟨by omega⟩)
 have:Apart (w.heap.size+1+1+1+1) (w.heap.size+1+1+1):=(by first|infer_instance|exact ⟨by omega⟩)
 have:Apart (w.heap.size+1+1+1+1) (q4):=(by first|infer_instance|exact ⟨by omega⟩)
 have:Apart (w.heap.size+1+1+1+1) (q5):=(by first|infer_instance|exact ⟨by omega⟩)
 have:Apart (w.heap.size+1+1+1+1) (u.world.heap.size):=(by first|infer_instance|exact ⟨by omega⟩)
 have:Apart (q4) (c):=(by first|infer_instance|exact ⟨by omega⟩)
 have:Apart (q4) (w.heap.size):=(by first|infer_instance|exact ⟨by omega⟩)
 have:Apart (q4) (w.heap.size+1+1):=(by first|infer_instance|exact ⟨by omega⟩)
 have:Apart (q4) (w.heap.size+1+1+1):=(by first|infer_instance|exact ⟨by omega⟩)
 have:Apart (q4) (w.heap.size+1+1+1+1):=(by first|infer_instance|exact ⟨by omega⟩)
 have:Apart (q4) (q5):=(by first|infer_instance|exact ⟨by omega⟩)
 have:Apart (q4) (u.world.heap.size):=(by first|infer_instance|exact ⟨by omega⟩)
 have:Apart (q5) (c):=(by first|infer_instance|exact ⟨by omega⟩)
 have:Apart (q5) (w.heap.size):=(by first|infer_instance|exact ⟨by omega⟩)
 have:Apart (q5) (w.heap.size+1+1):=(by first|infer_instance|exact ⟨by omega⟩)
 have:Apart (q5) (w.heap.size+1+1+1):=(by first|infer_instance|exact ⟨by omega⟩)
 have:Apart (q5) (w.heap.size+1+1+1+1):=(by first|infer_instance|exact ⟨by omega⟩)
 have:Apart (q5) (q4):=(by first|infer_instance|exact ⟨by omega⟩)
 have:Apart (q5) (u.world.heap.size):=(by first|infer_instance|exact ⟨by omega⟩)
 have:Apart (u.world.heap.size) (c):=(by first|infer_instance|exact ⟨by omega⟩)
 have:Apart (u.world.heap.size) (w.heap.size):=(by first|infer_instance|exact ⟨by omega⟩)
 have:Apart (u.world.heap.size) (w.heap.size+1+1):=(by first|infer_instance|exact ⟨by omega⟩)
 have:Apart (u.world.heap.size) (w.heap.size+1+1+1):=(by first|infer_instance|exact ⟨by omega⟩)
 have:Apart (u.world.heap.size) (w.heap.size+1+1+1+1):=(by first|infer_instance|exact ⟨by omega⟩)
 have:Apart (u.world.heap.size) (q4):=(by first|infer_instance|exact ⟨by omega⟩)
 have:Apart (u.world.heap.size) (q5):=(by first|infer_instance|exact ⟨by omega⟩)
 have n12:NewFor w u.world.heap.size:=inferInstance
 go_upto_region 4 with fail
 go_cut [36] (fun s36 wx=>s36=.bool (!zm||!l.isEmpty)∧FrAt c w (zak pP x) q v m q4 q5 u.world.heap.size (e) (z0) (pP.pull) wx)
 case first=>
  cases zm
  ·go_wp2_with (go_at_call 153;(with_reducible refine zaa (HZ0.out _) ?_);intro u1)
   go_meet
   case rel=>exact ⟨rfl,btw,by go_simp,by go_simp,inferInstance,inferInstance,inferInstance,inferInstance,zhp (by go_simp) (by go_simp) (by go_simp) (by go_simp) (by go_simp) (by go_simp),zhp (by go_simp) (by go_simp) (by go_simp) (by go_simp) (by go_simp) (by go_simp),inferInstance⟩
  ·go_wp2_with (go_at_call 153;(with_reducible refine zaa (HZ0.out _) ?_);intro u1)
   go_meet
   case rel=>exact ⟨by rw[hdl.out];cases l<;>simp,btw,by go_simp,by go_simp,inferInstance,inferInstance,inferInstance,inferInstance,zhp (by go_simp) (by go_simp) (by go_simp) (by go_simp) (by go_simp) (by go_simp),zhp (by go_simp) (by go_simp) (by go_simp) (by go_simp) (by go_simp) (by go_simp),inferInstance⟩
 case rest=>
 obtain ⟨rfl,hF⟩:=hcut
 generalize u.world.heap.size=q12 at *
 clear Hb
 obtain ⟨hb,h2,h3,m1,m2,m3,m4,m5,m6,m7⟩:=hF
 have Hb:=Lib.hid hb
 have ibw:BlockIn wc c:=BlockIn.of_cell h2
 have hcw:HasCell wc c 0:=⟨_,h2⟩
 have i1:BlockIn wc w.heap.size:=m1.blockIn
 have i2:BlockIn wc (w.heap.size+1+1):=⟨m2.lt⟩
 have i3:BlockIn wc (w.heap.size+1+1+1):=m3.blockIn
 have i4:BlockIn wc (w.heap.size+1+1+1+1):=m4.blockIn
 have i5:BlockIn wc q4:=⟨m5.lt⟩
 have i6:BlockIn wc q5:=⟨m6.lt⟩
 have i7:BlockIn wc q12:=m7.blockIn
 clear hb
 go_upto_if 36 with fail
 go_cut [] (fun wx=>FrAt c w (zak pP x) q v m q4 q5 q12 (NR.e) (NR.s) (pP.pull) wx)
 case first=>
  cases hb:(!zm||!l.isEmpty)
  ·have hN:=HNF.out hb
   have hNe:NR.e=e:=by rw[hN]
   go_wp2
   go_meet
   case rel=>exact ⟨btw,by rw[hNe];go_simp,by go_simp,inferInstance,inferInstance,inferInstance,inferInstance,inferInstance,inferInstance,zau m7 (by rw[hN])⟩
  ·go_wp2_with (go_at_call 154;(with_reducible refine zar (HNT.out hb _ ?_ ?_) ?_);(· go_simp);(· go_simp);intro u1)
   go_meet
   case rel=>exact ⟨btw,by go_simp,by go_simp,inferInstance,inferInstance,inferInstance,inferInstance,inferInstance,inferInstance,zau inferInstance rfl⟩
 case rest=>
 have hF:=hcut
 clear hcut
 clear Hb ibw hcw i1 i2 i3 i4 i5 i6 i7 h2 h3 m1 m2 m3 m4 m5 m6 m7
 clear HNT HNF
 obtain ⟨hb,h2,h3,m1,m2,m3,m4,m5,m6,m7⟩:=hF
 have Hb:=Lib.hid hb
 have ibw:BlockIn wc c:=BlockIn.of_cell h2
 have hcw:HasCell wc c 0:=⟨_,h2⟩
 have i1:BlockIn wc w.heap.size:=m1.blockIn
 have i2:BlockIn wc (w.heap.size+1+1):=⟨m2.lt⟩
 have i3:BlockIn wc (w.heap.size+1+1+1):=m3.blockIn
 have i4:BlockIn wc (w.heap.size+1+1+1+1):=m4.blockIn
 have i5:BlockIn wc q4:=⟨m5.lt⟩
 have i6:BlockIn wc q5:=⟨m6.lt⟩
 have i7:BlockIn wc q12:=m7.blockIn
 clear hb
 go_upto_if 44 with (go_at_call 153;(with_reducible refine zaa (HZ0.out _) ?_);intro u1)
 go_cut [] (fun wx=>FrAt c w (zak pP x) q v m q4 q5 q12 (OP.e) (NR.s) (OP.b) wx)
 case first=>
  cases zm
  ·go_wp2
   refine zaf c [NR.e,AT.e,OP.e] 10 [] [8,9] [] (fun W0=>[]) [.agg #[.int .i64 AT.b.x.lo,.int .i64 AT.b.x.hi,.int .i64 AT.b.y.lo,.int .i64 AT.b.y.hi,.int .i64 AT.b.z.lo,.int .i64 AT.b.z.hi],.agg #[.int .i64 OP.b.x.lo,.int .i64 OP.b.x.hi,.int .i64 OP.b.y.lo,.int .i64 OP.b.y.hi,.int .i64 OP.b.z.lo,.int .i64 OP.b.z.hi]] [10] (by rfl) (by go_simp) (by go_simp) (fun _ _ x hx=>absurd hx (List.not_mem_nil)) (by kernel_rfl) (by kernel_rfl) (by kernel_rfl) ?_
   intro pz hd0
   apply Exists.intro
   apply And.intro
   iterate 4 (apply zae hd0 (by kernel_rfl);(· intro uz xc;unfold zai;go_simp;rfl))
   apply zae hd0 (by kernel_rfl)
   ·intro uz xc;exact zbN (b:=w.heap.size) _ _ rfl (by go_simp)
   iterate 3 (apply zae hd0 (by kernel_rfl);(· intro uz xc;unfold zai;go_simp;rfl))
   apply zad hd0 0 (by kernel_rfl) (by rfl) (by decide)
   ·intro uz hfz hF;clear hF;unfold zah;go_simp;exact HAT.out _ (by go_simp) hfz
   apply zad hd0 1 (by kernel_rfl) (by rfl) (by decide)
   ·intro uz hfz hF;clear hF;unfold zah;go_simp;exact HB.out (by first|rfl|trivial) _ (by go_simp) hfz
   apply zax
   rotate_left
   ·rfl
   intro uz hR hD hfz
   clear hR hD
   refine zag (by rfl) ?_;unfold zap;go_simp
   refine zao ?_
   go_wp2
   go_meet
   case rel=>exact ⟨btw,by go_simp,by go_simp,inferInstance,inferInstance,inferInstance,zau inferInstance rfl,inferInstance,inferInstance,inferInstance⟩
  ·have hN:=HP1.out (by first|rfl|trivial)
   go_wp2
   go_meet
   case rel=>exact ⟨btw,by rw[hN];go_simp,by go_simp,inferInstance,inferInstance,inferInstance,zau inferInstance (by rw[hN]),inferInstance,inferInstance,inferInstance⟩
 case rest=>
 have hF:=hcut
 clear hcut
 clear Hb ibw hcw i1 i2 i3 i4 i5 i6 i7 h2 h3 m1 m2 m3 m4 m5 m6 m7
 clear HAT HB HP1 HZ0
 obtain ⟨hb,h2,h3,m1,m2,m3,m4,m5,m6,m7⟩:=hF
 have Hb:=Lib.hid hb
 have ibw:BlockIn wc c:=BlockIn.of_cell h2
 have hcw:HasCell wc c 0:=⟨_,h2⟩
 have i1:BlockIn wc w.heap.size:=m1.blockIn
 have i2:BlockIn wc (w.heap.size+1+1):=⟨m2.lt⟩
 have i3:BlockIn wc (w.heap.size+1+1+1):=m3.blockIn
 have i4:BlockIn wc (w.heap.size+1+1+1+1):=m4.blockIn
 have i5:BlockIn wc q4:=⟨m5.lt⟩
 have i6:BlockIn wc q5:=⟨m6.lt⟩
 have i7:BlockIn wc q12:=m7.blockIn
 clear hb
 have HZ:=Lib.hid (fun w'=>zer pP.spin w')
 have:S64 (spE pP.spin OP).s:=zam _ _
 have:S64 (spA1 pP.spin v OP).s:=zam _ _
 have:S64 (spA2 pP.spin v OP).s:=zam _ _
 have:S64 (spA3 pP.spin v OP).s:=zam _ _
 have:S64 (spA4 pP.spin q v OP).s:=zam _ _
 have:S64 (spA5 pP.spin q v OP).s:=zam _ _
 have:S64 (spB1 pP.spin q v OP).s:=zam _ _
 have:S64 (spB2 pP.spin q v OP).s:=zam _ _
 have:S64 (spB3 pP.spin q v OP).s:=zam _ _
 have:S64 (spB4 pP.spin q v OP).s:=zam _ _
 have:S64 (spB5 pP.spin q v OP).s:=zam _ _
 have C0:=Lib.hid (fun w hc hf=>show Calls Tryz.prog 157 #[.pointer (some ⟨c,0,none⟩),.agg #[.int .i64 pP.spin.lo,.int .i64 pP.spin.hi]] w (RetC c (.agg #[.int .i64 ((spE pP.spin OP).s).lo,.int .i64 ((spE pP.spin OP).s).hi]) (spE pP.spin OP).e w) from zfS c OP.e pP.spin w hc hf)
 have C1:=Lib.hid (fun w hc hf=>show Calls Tryz.prog 100 #[.pointer (some ⟨c,0,none⟩),.agg #[.int .i64 pP.spin.lo,.int .i64 pP.spin.hi],.agg #[.int .i64 v.y.lo,.int .i64 v.y.hi]] w (RetC c (.agg #[.int .i64 ((spA1 pP.spin v OP).s).lo,.int .i64 ((spA1 pP.spin v OP).s).hi]) (spA1 pP.spin v OP).e w) from zb1 c (spE pP.spin OP).e pP.spin v.y w hc hf)
 have C2:=Lib.hid (fun w hc hf=>show Calls Tryz.prog 158 #[.pointer (some ⟨c,0,none⟩),.agg #[.int .i64 ((spA1 pP.spin v OP).s).lo,.int .i64 ((spA1 pP.spin v OP).s).hi],.int .i64 2] w (RetC c (.agg #[.int .i64 ((spA2 pP.spin v OP).s).lo,.int .i64 ((spA2 pP.spin v OP).s).hi]) (spA2 pP.spin v OP).e w) from zgD c (spA1 pP.spin v OP).e (spA1 pP.spin v OP).s 2 w hc hf)
 have C3:=Lib.hid (fun w hc hf=>show Calls Tryz.prog 97 #[.pointer (some ⟨c,0,none⟩),.agg #[.int .i64 OP.b.x.lo,.int .i64 OP.b.x.hi],.agg #[.int .i64 ((spA2 pP.spin v OP).s).lo,.int .i64 ((spA2 pP.spin v OP).s).hi]] w (RetC c (.agg #[.int .i64 ((spA3 pP.spin v OP).s).lo,.int .i64 ((spA3 pP.spin v OP).s).hi]) (spA3 pP.spin v OP).e w) from zdi c (spA2 pP.spin v OP).e OP.b.x (spA2 pP.spin v OP).s w hc hf)
 have C4:=Lib.hid (fun w hc hf=>show Calls Tryz.prog 100 #[.pointer (some ⟨c,0,none⟩),.agg #[.int .i64 ((spE pP.spin OP).s).lo,.int .i64 ((spE pP.spin OP).s).hi],.agg #[.int .i64 q.x.lo,.int .i64 q.x.hi]] w (RetC c (.agg #[.int .i64 ((spA4 pP.spin q v OP).s).lo,.int .i64 ((spA4 pP.spin q v OP).s).hi]) (spA4 pP.spin q v OP).e w) from zb1 c (spA3 pP.spin v OP).e (spE pP.spin OP).s q.x w hc hf)
 have C5:=Lib.hid (fun w hc hf=>show Calls Tryz.prog 97 #[.pointer (some ⟨c,0,none⟩),.agg #[.int .i64 ((spA3 pP.spin v OP).s).lo,.int .i64 ((spA3 pP.spin v OP).s).hi],.agg #[.int .i64 ((spA4 pP.spin q v OP).s).lo,.int .i64 ((spA4 pP.spin q v OP).s).hi]] w (RetC c (.agg #[.int .i64 ((spA5 pP.spin q v OP).s).lo,.int .i64 ((spA5 pP.spin q v OP).s).hi]) (spA5 pP.spin q v OP).e w) from zdi c (spA4 pP.spin q v OP).e (spA3 pP.spin v OP).s (spA4 pP.spin q v OP).s w hc hf)
 have D1:=Lib.hid (fun w hc hf=>show Calls Tryz.prog 100 #[.pointer (some ⟨c,0,none⟩),.agg #[.int .i64 pP.spin.lo,.int .i64 pP.spin.hi],.agg #[.int .i64 v.x.lo,.int .i64 v.x.hi]] w (RetC c (.agg #[.int .i64 ((spB1 pP.spin q v OP).s).lo,.int .i64 ((spB1 pP.spin q v OP).s).hi]) (spB1 pP.spin q v OP).e w) from zb1 c (spA5 pP.spin q v OP).e pP.spin v.x w hc hf)
 have D2:=Lib.hid (fun w hc hf=>show Calls Tryz.prog 158 #[.pointer (some ⟨c,0,none⟩),.agg #[.int .i64 ((spB1 pP.spin q v OP).s).lo,.int .i64 ((spB1 pP.spin q v OP).s).hi],.int .i64 2] w (RetC c (.agg #[.int .i64 ((spB2 pP.spin q v OP).s).lo,.int .i64 ((spB2 pP.spin q v OP).s).hi]) (spB2 pP.spin q v OP).e w) from zgD c (spB1 pP.spin q v OP).e (spB1 pP.spin q v OP).s 2 w hc hf)
 have D3:=Lib.hid (fun w hc hf=>show Calls Tryz.prog 99 #[.pointer (some ⟨c,0,none⟩),.agg #[.int .i64 OP.b.y.lo,.int .i64 OP.b.y.hi],.agg #[.int .i64 ((spB2 pP.spin q v OP).s).lo,.int .i64 ((spB2 pP.spin q v OP).s).hi]] w (RetC c (.agg #[.int .i64 ((spB3 pP.spin q v OP).s).lo,.int .i64 ((spB3 pP.spin q v OP).s).hi]) (spB3 pP.spin q v OP).e w) from zeF c (spB2 pP.spin q v OP).e OP.b.y (spB2 pP.spin q v OP).s w hc hf)
 have D4:=Lib.hid (fun w hc hf=>show Calls Tryz.prog 100 #[.pointer (some ⟨c,0,none⟩),.agg #[.int .i64 ((spE pP.spin OP).s).lo,.int .i64 ((spE pP.spin OP).s).hi],.agg #[.int .i64 q.y.lo,.int .i64 q.y.hi]] w (RetC c (.agg #[.int .i64 ((spB4 pP.spin q v OP).s).lo,.int .i64 ((spB4 pP.spin q v OP).s).hi]) (spB4 pP.spin q v OP).e w) from zb1 c (spB3 pP.spin q v OP).e (spE pP.spin OP).s q.y w hc hf)
 have D5:=Lib.hid (fun w hc hf=>show Calls Tryz.prog 97 #[.pointer (some ⟨c,0,none⟩),.agg #[.int .i64 ((spB3 pP.spin q v OP).s).lo,.int .i64 ((spB3 pP.spin q v OP).s).hi],.agg #[.int .i64 ((spB4 pP.spin q v OP).s).lo,.int .i64 ((spB4 pP.spin q v OP).s).hi]] w (RetC c (.agg #[.int .i64 ((spB5 pP.spin q v OP).s).lo,.int .i64 ((spB5 pP.spin q v OP).s).hi]) (spB5 pP.spin q v OP).e w) from zdi c (spB4 pP.spin q v OP).e (spB3 pP.spin q v OP).s (spB4 pP.spin q v OP).s w hc hf)
 have HO1:=Lib.hid (fun (h:zbv pP.spin=true)=>show OS=OP by have h1:=HOS.out;unfold zce at h1;rw[h] at h1;exact h1)
 have HO2:=Lib.hid (fun (h:zbv pP.spin=false)=>show OS=⟨⟨(spA5 pP.spin q v OP).s,(spB5 pP.spin q v OP).s,OP.b.z⟩,(spB5 pP.spin q v OP).e⟩ by have h1:=HOS.out;unfold zce at h1;rw[h] at h1;exact h1)
 clear HOS
 generalize spE pP.spin OP=rE at *
 generalize spA1 pP.spin v OP=rA1 at *
 generalize spB1 pP.spin q v OP=rB1 at *
 generalize spA2 pP.spin v OP=rA2 at *
 generalize spB2 pP.spin q v OP=rB2 at *
 generalize spA3 pP.spin v OP=rA3 at *
 generalize spB3 pP.spin q v OP=rB3 at *
 generalize spA4 pP.spin q v OP=rA4 at *
 generalize spB4 pP.spin q v OP=rB4 at *
 generalize spA5 pP.spin q v OP=rA5 at *
 generalize spB5 pP.spin q v OP=rB5 at *
 generalize zbv pP.spin=zs at *
 go_upto_if 60 with (go_at_call 153;(with_reducible refine zaa (HZ.out _) ?_);intro u1)
 go_cut [] (fun wx=>FrAt c w (zak pP x) q v m q4 q5 q12 (OS.e) (NR.s) (OS.b) wx)
 case first=>
  cases zs
  ·have hN:=HO2.out (by first|rfl|trivial)
   go_wp2_with (go_at_call 157;(with_reducible refine zar (C0.out _ ?_ ?_) ?_);(· go_simp);(· go_simp);intro u2)
   refine zaf c [rE.e,rA1.e,rA2.e,rA3.e,rA4.e,rA5.e] 19 [] [9,10,11,16,17] [] (fun W0=>[]) [.agg #[.int .i64 rA1.s.lo,.int .i64 rA1.s.hi],.agg #[.int .i64 rA2.s.lo,.int .i64 rA2.s.hi],.agg #[.int .i64 rA3.s.lo,.int .i64 rA3.s.hi],.agg #[.int .i64 rA4.s.lo,.int .i64 rA4.s.hi],.agg #[.int .i64 rA5.s.lo,.int .i64 rA5.s.hi]] [19] (by rfl) (by go_simp) (by go_simp) (fun _ _ x hx=>absurd hx (List.not_mem_nil)) (by kernel_rfl) (by kernel_rfl) (by kernel_rfl) ?_
   intro pz hd0
   apply Exists.intro
   apply And.intro
   iterate 9 (apply zae hd0 (by kernel_rfl);(· intro uz xc;unfold zai;go_simp;rfl))
   apply zad hd0 0 (by kernel_rfl) (by rfl) (by decide)
   ·intro uz hfz hF;clear hF;unfold zah;go_simp;exact C1.out _ (by go_simp) hfz
   apply zad hd0 1 (by kernel_rfl) (by rfl) (by decide)
   ·intro uz hfz hF;clear hF;unfold zah;go_simp;exact C2.out _ (by go_simp) hfz
   apply zad hd0 2 (by kernel_rfl) (by rfl) (by decide)
   ·intro uz hfz hF;clear hF;unfold zah;go_simp;exact C3.out _ (by go_simp) hfz
   iterate 4 (apply zae hd0 (by kernel_rfl);(· intro uz xc;unfold zai;go_simp;rfl))
   apply zad hd0 3 (by kernel_rfl) (by rfl) (by decide)
   ·intro uz hfz hF;clear hF;unfold zah;go_simp;exact C4.out _ (by go_simp) hfz
   apply zad hd0 4 (by kernel_rfl) (by rfl) (by decide)
   ·intro uz hfz hF;clear hF;unfold zah;go_simp;exact C5.out _ (by go_simp) hfz
   apply zae hd0 (by kernel_rfl)
   ·intro uz xc;unfold zai;go_simp;rfl
   apply zax
   rotate_left
   ·rfl
   intro uz hR hD hfz
   clear hR hD
   refine zag (by rfl) ?_;unfold zap;go_simp
   refine zao ?_
   go_wp2
   refine zaf c [rA5.e,rB1.e,rB2.e,rB3.e,rB4.e,rB5.e] 19 [] [9,10,11,16,17] [] (fun W0=>[]) [.agg #[.int .i64 rB1.s.lo,.int .i64 rB1.s.hi],.agg #[.int .i64 rB2.s.lo,.int .i64 rB2.s.hi],.agg #[.int .i64 rB3.s.lo,.int .i64 rB3.s.hi],.agg #[.int .i64 rB4.s.lo,.int .i64 rB4.s.hi],.agg #[.int .i64 rB5.s.lo,.int .i64 rB5.s.hi]] [19] (by rfl) (by go_simp) (by go_simp) (fun _ _ x hx=>absurd hx (List.not_mem_nil)) (by kernel_rfl) (by kernel_rfl) (by kernel_rfl) ?_
   intro pz hd0
   apply Exists.intro
   apply And.intro
   iterate 9 (apply zae hd0 (by kernel_rfl);(· intro uz xc;unfold zai;go_simp;rfl))
   apply zad hd0 0 (by kernel_rfl) (by rfl) (by decide)
   ·intro uz hfz hF;clear hF;unfold zah;go_simp;exact D1.out _ (by go_simp) hfz
   apply zad hd0 1 (by kernel_rfl) (by rfl) (by decide)
   ·intro uz hfz hF;clear hF;unfold zah;go_simp;exact D2.out _ (by go_simp) hfz
   apply zad hd0 2 (by kernel_rfl) (by rfl) (by decide)
   ·intro uz hfz hF;clear hF;unfold zah;go_simp;exact D3.out _ (by go_simp) hfz
   iterate 4 (apply zae hd0 (by kernel_rfl);(· intro uz xc;unfold zai;go_simp;rfl))
   apply zad hd0 3 (by kernel_rfl) (by rfl) (by decide)
   ·intro uz hfz hF;clear hF;unfold zah;go_simp;exact D4.out _ (by go_simp) hfz
   apply zad hd0 4 (by kernel_rfl) (by rfl) (by decide)
   ·intro uz hfz hF;clear hF;unfold zah;go_simp;exact D5.out _ (by go_simp) hfz
   apply zae hd0 (by kernel_rfl)
   ·intro uz xc;unfold zai;go_simp;rfl
   apply zax
   rotate_left
   ·rfl
   intro uz hR hD hfz
   clear hR hD
   refine zag (by rfl) ?_;unfold zap;go_simp
   refine zao ?_
   go_wp2
   go_meet
   case rel=>exact ⟨btw,by rw[hN];go_simp,by go_simp,inferInstance,inferInstance,inferInstance,zau inferInstance (by rw[hN];rfl),inferInstance,inferInstance,inferInstance⟩
  ·have hN:=HO1.out (by first|rfl|trivial)
   go_wp2
   go_meet
   case rel=>exact ⟨btw,by rw[hN];go_simp,by go_simp,inferInstance,inferInstance,inferInstance,zau inferInstance (by rw[hN]),inferInstance,inferInstance,inferInstance⟩
 case rest=>
 have hF:=hcut
 clear hcut
 clear Hb ibw hcw i1 i2 i3 i4 i5 i6 i7 h2 h3 m1 m2 m3 m4 m5 m6 m7
 clear HO1 HO2 C0 C1 C2 C3 C4 C5 D1 D2 D3 D4 D5 HZ zs
 obtain ⟨hb,h2,h3,m1,m2,m3,m4,m5,m6,m7⟩:=hF
 have Hb:=Lib.hid hb
 have ibw:BlockIn wc c:=BlockIn.of_cell h2
 have hcw:HasCell wc c 0:=⟨_,h2⟩
 have i1:BlockIn wc w.heap.size:=m1.blockIn
 have i2:BlockIn wc (w.heap.size+1+1):=⟨m2.lt⟩
 have i3:BlockIn wc (w.heap.size+1+1+1):=m3.blockIn
 have i4:BlockIn wc (w.heap.size+1+1+1+1):=m4.blockIn
 have i5:BlockIn wc q4:=⟨m5.lt⟩
 have i6:BlockIn wc q5:=⟨m6.lt⟩
 have i7:BlockIn wc q12:=m7.blockIn
 clear hb
 have HZ:=Lib.hid (fun w'=>zer x.thrust w')
 have sT:S64 (tuT x m OS).s:=zam _ _
 have bM:B64 (tuM x m OS).b:=zbK _ _ _ _
 have G1:=Lib.hid (fun w hc hf=>show Calls Tryz.prog 104 #[.pointer (some ⟨c,0,none⟩),.agg #[.int .i64 x.thrust.lo,.int .i64 x.thrust.hi],.agg #[.int .i64 m.lo,.int .i64 m.hi]] w (RetC c (.agg #[.int .i64 ((tuT x m OS).s).lo,.int .i64 ((tuT x m OS).s).hi]) (tuT x m OS).e w) from zeE c OS.e x.thrust m w hc hf)
 have G2:=Lib.hid (fun w hc hf=>show Calls Tryz.prog 159 #[.pointer (some ⟨c,0,none⟩),.func (.func 100) #[.pointer (some ⟨c,0,none⟩)] #[],.agg #[.int .i64 ((tuT x m OS).s).lo,.int .i64 ((tuT x m OS).s).hi],.agg #[.int .i64 x.dir.x.lo,.int .i64 x.dir.x.hi,.int .i64 x.dir.y.lo,.int .i64 x.dir.y.hi,.int .i64 x.dir.z.lo,.int .i64 x.dir.z.hi]] w (RetC c (.agg #[.int .i64 ((tuM x m OS).b).x.lo,.int .i64 ((tuM x m OS).b).x.hi,.int .i64 ((tuM x m OS).b).y.lo,.int .i64 ((tuM x m OS).b).y.hi,.int .i64 ((tuM x m OS).b).z.lo,.int .i64 ((tuM x m OS).b).z.hi]) (tuM x m OS).e w) from zf3 100 mulR (enters_of Tryz.func100 (by kernel_rfl) rfl) zgO c (tuT x m OS).e (tuT x m OS).s x.dir w hc hf)
 have HO1:=Lib.hid (fun (h:zbv x.thrust=true)=>show OT=OS by have h1:=HOT.out;unfold zeh at h1;rw[h] at h1;exact h1)
 have HO2:=Lib.hid (fun (h:zbv x.thrust=false)=>show OT=zbR addR (tuM x m OS).e OS.b (tuM x m OS).b by have h1:=HOT.out;unfold zeh at h1;rw[h] at h1;exact h1)
 have G3:=Lib.hid (fun (h:zbv x.thrust=false) (w:World) hc hf=>show Calls Tryz.prog 155 #[.pointer (some ⟨c,0,none⟩),.func (.func 97) #[.pointer (some ⟨c,0,none⟩)] #[],.agg #[.int .i64 OS.b.x.lo,.int .i64 OS.b.x.hi,.int .i64 OS.b.y.lo,.int .i64 OS.b.y.hi,.int .i64 OS.b.z.lo,.int .i64 OS.b.z.hi],.agg #[.int .i64 ((tuM x m OS).b).x.lo,.int .i64 ((tuM x m OS).b).x.hi,.int .i64 ((tuM x m OS).b).y.lo,.int .i64 ((tuM x m OS).b).y.hi,.int .i64 ((tuM x m OS).b).z.lo,.int .i64 ((tuM x m OS).b).z.hi]] w (RetC c (.agg #[.int .i64 OT.b.x.lo,.int .i64 OT.b.x.hi,.int .i64 OT.b.y.lo,.int .i64 OT.b.y.hi,.int .i64 OT.b.z.lo,.int .i64 OT.b.z.hi]) OT.e w) from by
  rw[HO2.out h]
  exact zcW 97 addR (enters_of Tryz.func97 (by kernel_rfl) rfl) zkV c (tuM x m OS).e OS.b (tuM x m OS).b w hc hf)
 clear HOT HO2
 generalize tuM x m OS=rM at *
 generalize tuT x m OS=rT at *
 generalize zbv x.thrust=zt at *
 go_upto_if 106 with (go_at_call 153;(with_reducible refine zaa (HZ.out _) ?_);intro u1)
 go_cut [] (fun wx=>FrAt c w (zak pP x) q v m q4 q5 q12 (OT.e) (NR.s) (OT.b) wx)
 case first=>
  cases zt
  ·go_wp2
   refine zaf c [OS.e,rT.e,rM.e,OT.e] 18 [] [12,16,17] [] (fun W0=>[]) [.agg #[.int .i64 rT.s.lo,.int .i64 rT.s.hi],.agg #[.int .i64 rM.b.x.lo,.int .i64 rM.b.x.hi,.int .i64 rM.b.y.lo,.int .i64 rM.b.y.hi,.int .i64 rM.b.z.lo,.int .i64 rM.b.z.hi],.agg #[.int .i64 OT.b.x.lo,.int .i64 OT.b.x.hi,.int .i64 OT.b.y.lo,.int .i64 OT.b.y.hi,.int .i64 OT.b.z.lo,.int .i64 OT.b.z.hi]] [18] (by rfl) (by go_simp) (by go_simp) (fun _ _ x hx=>absurd hx (List.not_mem_nil)) (by kernel_rfl) (by kernel_rfl) (by kernel_rfl) ?_
   intro pz hd0
   apply Exists.intro
   apply And.intro
   iterate 12 (apply zae hd0 (by kernel_rfl);(· intro uz xc;unfold zai;go_simp;rfl))
   apply zad hd0 0 (by kernel_rfl) (by rfl) (by decide)
   ·intro uz hfz hF;clear hF;unfold zah;go_simp;exact G1.out _ (by go_simp) hfz
   iterate 3 (apply zae hd0 (by kernel_rfl);(· intro uz xc;unfold zai;go_simp;rfl))
   apply zad hd0 1 (by kernel_rfl) (by rfl) (by decide)
   ·intro uz hfz hF;clear hF;unfold zah;go_simp;exact G2.out _ (by go_simp) hfz
   apply zad hd0 2 (by kernel_rfl) (by rfl) (by decide)
   ·intro uz hfz hF;clear hF;unfold zah;go_simp;exact G3.out (by first|rfl|trivial) _ (by go_simp) hfz
   apply zax
   rotate_left
   ·rfl
   intro uz hR hD hfz
   clear hR hD
   refine zag (by rfl) ?_;unfold zap;go_simp
   refine zao ?_
   go_wp2
   go_meet
   case rel=>exact ⟨btw,by go_simp,by go_simp,inferInstance,inferInstance,inferInstance,zau inferInstance rfl,inferInstance,inferInstance,inferInstance⟩
  ·have hN:=HO1.out (by first|rfl|trivial)
   go_wp2
   go_meet
   case rel=>exact ⟨btw,by rw[hN];go_simp,by go_simp,inferInstance,inferInstance,inferInstance,zau inferInstance (by rw[hN]),inferInstance,inferInstance,inferInstance⟩
 case rest=>
 have hF:=hcut
 clear hcut
 clear Hb ibw hcw i1 i2 i3 i4 i5 i6 i7 h2 h3 m1 m2 m3 m4 m5 m6 m7
 clear HO1 G1 G2 G3 HZ zt
 obtain ⟨hb,h2,h3,m1,m2,m3,m4,m5,m6,m7⟩:=hF
 have Hb:=Lib.hid hb
 have ibw:BlockIn wc c:=BlockIn.of_cell h2
 have hcw:HasCell wc c 0:=⟨_,h2⟩
 have i1:BlockIn wc w.heap.size:=m1.blockIn
 have i2:BlockIn wc (w.heap.size+1+1):=⟨m2.lt⟩
 have i3:BlockIn wc (w.heap.size+1+1+1):=m3.blockIn
 have i4:BlockIn wc (w.heap.size+1+1+1+1):=m4.blockIn
 have i5:BlockIn wc q4:=⟨m5.lt⟩
 have i6:BlockIn wc q5:=⟨m6.lt⟩
 have i7:BlockIn wc q12:=m7.blockIn
 clear hb
 have:S64 (drH pP NR.s OT).s:=zam _ _
 have:S64 (drL pP l NR.s OT).s:=zam _ _
 have:S64 (drB pP l m NR.s OT).s:=zam _ _
 have:S64 (drS pP l v m NR.s OT).s:=zam _ _
 have:S64 (drX pP l v m NR.s OT).s:=zam _ _
 have:B64 (drM pP l v m NR.s OT).b:=zbK _ _ _ _
 have G1:=Lib.hid (fun w hc hf=>show Calls Tryz.prog 99 #[.pointer (some ⟨c,0,none⟩),.agg #[.int .i64 NR.s.lo,.int .i64 NR.s.hi],.agg #[.int .i64 pP.radius.lo,.int .i64 pP.radius.hi]] w (RetC c (.agg #[.int .i64 ((drH pP NR.s OT).s).lo,.int .i64 ((drH pP NR.s OT).s).hi]) (drH pP NR.s OT).e w) from zeF c OT.e NR.s pP.radius w hc hf)
 have G2:=Lib.hid (fun w' (b:But c w w') hc=>show Calls Tryz.prog 161 #[.pointer (some ⟨c,0,none⟩),.slice x.drag.ao x.drag.n x.drag.cap,.agg #[.int .i64 ((drH pP NR.s OT).s).lo,.int .i64 ((drH pP NR.s OT).s).hi]] w' (fun e w''=>e=.returned (.tuple #[.agg #[.int .i64 ((drL pP l NR.s OT).s).lo,.int .i64 ((drL pP l NR.s OT).s).hi],.int .i64 (drL pP l NR.s OT).e])∧Grew w' w'') from by
  rw[hdl.out]
  exact znv HL c (drH pP NR.s OT).e l (drH pP NR.s OT).s x.drag.ao x.drag.cap w' (HHS.out w' b) hc)
 have G3:=Lib.hid (fun w hc hf=>show Calls Tryz.prog 160 #[.pointer (some ⟨c,0,none⟩),.agg #[.int .i64 ((drL pP l NR.s OT).s).lo,.int .i64 ((drL pP l NR.s OT).s).hi],.int .i64 (drL pP l NR.s OT).e] w (RetC c (.agg #[.int .i64 ((drL pP l NR.s OT).s).lo,.int .i64 ((drL pP l NR.s OT).s).hi]) (drL pP l NR.s OT).e w) from by
  have:=zf4 c (drH pP NR.s OT).e (drL pP l NR.s OT) w hc hf
  rw[show doR (drH pP NR.s OT).e (drL pP l NR.s OT)=(drL pP l NR.s OT) from znz _ _] at this
  exact this)
 have G4:=Lib.hid (fun w hc hf=>show Calls Tryz.prog 104 #[.pointer (some ⟨c,0,none⟩),.agg #[.int .i64 ((drL pP l NR.s OT).s).lo,.int .i64 ((drL pP l NR.s OT).s).hi],.agg #[.int .i64 m.lo,.int .i64 m.hi]] w (RetC c (.agg #[.int .i64 ((drB pP l m NR.s OT).s).lo,.int .i64 ((drB pP l m NR.s OT).s).hi]) (drB pP l m NR.s OT).e w) from zeE c (drL pP l NR.s OT).e (drL pP l NR.s OT).s m w hc hf)
 have G5:=Lib.hid (fun w hc hf=>show Calls Tryz.prog 154 #[.pointer (some ⟨c,0,none⟩),.agg #[.int .i64 v.x.lo,.int .i64 v.x.hi,.int .i64 v.y.lo,.int .i64 v.y.hi,.int .i64 v.z.lo,.int .i64 v.z.hi]] w (RetC c (.agg #[.int .i64 ((drS pP l v m NR.s OT).s).lo,.int .i64 ((drS pP l v m NR.s OT).s).hi]) (drS pP l v m NR.s OT).e w) from zjE c (drB pP l m NR.s OT).e v w hc hf)
 have G6:=Lib.hid (fun w hc hf=>show Calls Tryz.prog 100 #[.pointer (some ⟨c,0,none⟩),.agg #[.int .i64 ((drB pP l m NR.s OT).s).lo,.int .i64 ((drB pP l m NR.s OT).s).hi],.agg #[.int .i64 ((drS pP l v m NR.s OT).s).lo,.int .i64 ((drS pP l v m NR.s OT).s).hi]] w (RetC c (.agg #[.int .i64 ((drX pP l v m NR.s OT).s).lo,.int .i64 ((drX pP l v m NR.s OT).s).hi]) (drX pP l v m NR.s OT).e w) from zb1 c (drS pP l v m NR.s OT).e (drB pP l m NR.s OT).s (drS pP l v m NR.s OT).s w hc hf)
 have G7:=Lib.hid (fun w hc hf=>show Calls Tryz.prog 159 #[.pointer (some ⟨c,0,none⟩),.func (.func 100) #[.pointer (some ⟨c,0,none⟩)] #[],.agg #[.int .i64 ((drX pP l v m NR.s OT).s).lo,.int .i64 ((drX pP l v m NR.s OT).s).hi],.agg #[.int .i64 v.x.lo,.int .i64 v.x.hi,.int .i64 v.y.lo,.int .i64 v.y.hi,.int .i64 v.z.lo,.int .i64 v.z.hi]] w (RetC c (.agg #[.int .i64 ((drM pP l v m NR.s OT).b).x.lo,.int .i64 ((drM pP l v m NR.s OT).b).x.hi,.int .i64 ((drM pP l v m NR.s OT).b).y.lo,.int .i64 ((drM pP l v m NR.s OT).b).y.hi,.int .i64 ((drM pP l v m NR.s OT).b).z.lo,.int .i64 ((drM pP l v m NR.s OT).b).z.hi]) (drM pP l v m NR.s OT).e w) from zf3 100 mulR (enters_of Tryz.func100 (by kernel_rfl) rfl) zgO c (drX pP l v m NR.s OT).e (drX pP l v m NR.s OT).s v w hc hf)
 have HO1:=Lib.hid (fun (h:l.isEmpty=true)=>show OD=OT by have h1:=HOD.out;unfold zi5 at h1;rw[h] at h1;exact h1)
 have HO2:=Lib.hid (fun (h:l.isEmpty=false)=>show OD=zbR subR (drM pP l v m NR.s OT).e OT.b (drM pP l v m NR.s OT).b by have h1:=HOD.out;unfold zi5 at h1;rw[h] at h1;exact h1)
 have G8:=Lib.hid (fun (h:l.isEmpty=false) (w:World) hc hf=>show Calls Tryz.prog 155 #[.pointer (some ⟨c,0,none⟩),.func (.func 99) #[.pointer (some ⟨c,0,none⟩)] #[],.agg #[.int .i64 OT.b.x.lo,.int .i64 OT.b.x.hi,.int .i64 OT.b.y.lo,.int .i64 OT.b.y.hi,.int .i64 OT.b.z.lo,.int .i64 OT.b.z.hi],.agg #[.int .i64 ((drM pP l v m NR.s OT).b).x.lo,.int .i64 ((drM pP l v m NR.s OT).b).x.hi,.int .i64 ((drM pP l v m NR.s OT).b).y.lo,.int .i64 ((drM pP l v m NR.s OT).b).y.hi,.int .i64 ((drM pP l v m NR.s OT).b).z.lo,.int .i64 ((drM pP l v m NR.s OT).b).z.hi]] w (RetC c (.agg #[.int .i64 OD.b.x.lo,.int .i64 OD.b.x.hi,.int .i64 OD.b.y.lo,.int .i64 OD.b.y.hi,.int .i64 OD.b.z.lo,.int .i64 OD.b.z.hi]) OD.e w) from by
  rw[HO2.out h]
  exact zcW 99 subR (enters_of Tryz.func99 (by kernel_rfl) rfl) zou c (drM pP l v m NR.s OT).e OT.b (drM pP l v m NR.s OT).b w hc hf)
 clear HOD HO2
 generalize drM pP l v m NR.s OT=rM at *
 generalize drX pP l v m NR.s OT=rX at *
 generalize drS pP l v m NR.s OT=rS at *
 generalize drB pP l m NR.s OT=rB at *
 generalize drL pP l NR.s OT=rL at *
 generalize drH pP NR.s OT=rH at *
 cases hl:l.isEmpty
 ·have hpos:0<x.drag.n:=by
   have h1:=HLE.out
   rw[hl] at h1
   have h2:=hdl.out
   simp at h1
   rw[h2]
   exact Nat.pos_of_ne_zero fun h=>h1 (List.eq_nil_of_length_eq_zero h)
  go_wp2_with (go_at_call 99;(with_reducible refine zar (G1.out _ ?_ ?_) ?_);(· go_simp);(· go_simp);intro u2)
  refine zaf c [rH.e,rH.e,rL.e,rB.e] 14 [13] [7,10,12] [] (fun W0=>[(13,BoxR W0 [.int .i64 0,.int .i64 0])]) [.tuple #[.agg #[.int .i64 rL.s.lo,.int .i64 rL.s.hi],.int .i64 rL.e],.agg #[.int .i64 rL.s.lo,.int .i64 rL.s.hi],.agg #[.int .i64 rB.s.lo,.int .i64 rB.s.hi]] [14] (by rfl) (by go_simp) (by go_simp) (by intro W0 hW0 x hx;simp only[List.mem_cons,List.not_mem_nil,or_false] at hx;rcases hx with rfl<;>first|exact zbc _ _ hW0 _) (by kernel_rfl) (by kernel_rfl) (by kernel_rfl) ?_
  intro pz hd0
  apply Exists.intro
  apply And.intro
  iterate 7 (apply zae hd0 (by kernel_rfl);(· intro uz xc;unfold zai;go_simp;rfl))
  apply zad hd0 0 (by kernel_rfl) (by rfl) (by decide)
  ·intro uz hfz hF;clear hF;unfold zah;go_simp;exact zef (G2.out _ btw (by go_simp)) (by go_simp)
  iterate 2 (apply zae hd0 (by kernel_rfl);(· intro uz xc;unfold zai;go_simp;rfl))
  apply zad hd0 1 (by kernel_rfl) (by rfl) (by decide)
  ·intro uz hfz hF;clear hF;unfold zah;go_simp;exact G3.out _ (by go_simp) hfz
  apply zae hd0 (by kernel_rfl)
  ·intro uz xc;unfold zai;go_simp;rfl
  apply zad hd0 2 (by kernel_rfl) (by rfl) (by decide)
  ·intro uz hfz hF;clear hF;unfold zah;go_simp;exact G4.out _ (by go_simp) hfz
  apply zbd hd0 (by kernel_rfl)
  ·intro uz xc hF;clear hF;unfold za5;go_simp;refine (show Made (BoxR _ [.int .i64 0,.int .i64 0]) _ _ _ from ?_);exact zbe _ _ _ _
  apply zax
  rotate_left
  ·rfl
  intro uz hR hD hfz
  obtain ⟨q13,e13,hB13,kB13,nB13⟩:=(show BoxR _ [.int .i64 0,.int .i64 0] (pz 13) _ from hR 13 (by decide))
  clear hR hD
  rw[e13]
  clear e13
  have oB13:=zaG nB13
  have oC13:=zaH nB13
  have hB13:=zbq hB13 hd0 nB13
  have kB13:=za0 kB13
  have hB13_0:=(hB13 0 _ rfl).1
  have hB13f0:=(hB13 0 _ rfl).2
  have hB13i0:HasCell (uz.world) (q13) 0:=⟨_,hB13_0⟩
  have hB13_1:=(hB13 1 _ rfl).1
  have hB13f1:=(hB13 1 _ rfl).2
  have hB13i1:HasCell (uz.world) (q13) 1:=⟨_,hB13_1⟩
  have hB13b:BlockIn (uz.world) (q13):=BlockIn.of_cell hB13_0
  clear hB13
  refine zag (by rfl) ?_;unfold zap;go_simp
  refine zao ?_
  have nw13:NewFor w q13:=zgM Hb.out nB13
  go_wp2_with (go_at_call 154;(with_reducible refine zar (G5.out _ ?_ ?_) ?_);(· go_simp);(· go_simp);intro u3)
  refine zaf c [rS.e,rX.e,rM.e,OD.e] 14 [] [10,12,13] [] (fun W0=>[]) [.agg #[.int .i64 rX.s.lo,.int .i64 rX.s.hi],.agg #[.int .i64 rM.b.x.lo,.int .i64 rM.b.x.hi,.int .i64 rM.b.y.lo,.int .i64 rM.b.y.hi,.int .i64 rM.b.z.lo,.int .i64 rM.b.z.hi],.agg #[.int .i64 OD.b.x.lo,.int .i64 OD.b.x.hi,.int .i64 OD.b.y.lo,.int .i64 OD.b.y.hi,.int .i64 OD.b.z.lo,.int .i64 OD.b.z.hi]] [14] (by rfl) (by go_simp) (by go_simp) (fun _ _ x hx=>absurd hx (List.not_mem_nil)) (by kernel_rfl) (by kernel_rfl) (by kernel_rfl) ?_
  intro pz hd0
  apply Exists.intro
  apply And.intro
  iterate 10 (apply zae hd0 (by kernel_rfl);(· intro uz xc;unfold zai;go_simp;rfl))
  apply zad hd0 0 (by kernel_rfl) (by rfl) (by decide)
  ·intro uz hfz hF;clear hF;unfold zah;go_simp;exact G6.out _ (by go_simp) hfz
  apply zae hd0 (by kernel_rfl)
  ·intro uz xc;unfold zai;go_simp;rfl
  apply zad hd0 1 (by kernel_rfl) (by rfl) (by decide)
  ·intro uz hfz hF;clear hF;unfold zah;go_simp;exact G7.out _ (by go_simp) hfz
  apply zad hd0 2 (by kernel_rfl) (by rfl) (by decide)
  ·intro uz hfz hF;clear hF;unfold zah;go_simp;exact G8.out hl _ (by go_simp) hfz
  apply zax
  rotate_left
  ·rfl
  intro uz hR hD hfz
  clear hR hD
  refine zag (by rfl) ?_;unfold zap;go_simp
  refine zao ?_
  go_wp2
  refine bodyPost_ret (by (simp[results,Tryz.results103,go_sem]<;>rfl)) rfl ?_
  exact ⟨rfl,But.out btw Hc.out (by go_simp)⟩
 ·have hN:=HO1.out hl
  have hpos:¬ 0<x.drag.n:=by
   have h1:=HLE.out
   rw[hl] at h1
   have h2:=hdl.out
   simp at h1
   rw[h2,h1]
   simp
  go_wp2
  refine bodyPost_ret (by (simp[results,Tryz.results103,go_sem]<;>rfl)) rfl ?_
  exact ⟨by rw[hN],But.out btw Hc.out (by rw[hN];go_simp)⟩
end Go.Proofs.YtdkfkalplmgoeaaGreat
