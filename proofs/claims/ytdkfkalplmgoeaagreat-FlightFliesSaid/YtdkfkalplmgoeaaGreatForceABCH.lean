/-
  Joined: ForceABC.
-/
import Derived.Test.YtdkfkalplmgoeaaGreatLookCH
import Derived.Test.YtdkfkalplmgoeaaGreatJointH
namespace Go.Proofs.YtdkfkalplmgoeaaGreat
open Go.RowKit Go.Shelf
set_option maxRecDepth 100000
set_option maxHeartbeats 8000000
theorem zrq:zkr 32 addR:=fun w a b _ _=>zdV a b w
theorem zdi (c:Nat) (e:Int) (a b:Sp) [ha:S64 a] [hb:S64 b] (w:World) (hc:w.cell? ⟨c,0,none⟩=some (.int .i64 e)) (hf:w.frozen? ⟨c,0,none⟩=false) :
 Calls Tryz.prog 97 #[.pointer (some ⟨c,0,none⟩),.agg #[.int .i64 a.lo,.int .i64 a.hi],.agg #[.int .i64 b.lo,.int .i64 b.hi]] w (RetC c (.agg #[.int .i64 ((doR e (addR a b)).s).lo,.int .i64 ((doR e (addR a b)).s).hi]) (doR e (addR a b)).e w):=by
 have ib:BlockIn w c:=BlockIn.of_cell hc
 have hci:HasCell w c 0:=⟨_,hc⟩
 have Hb:=Lib.hid (But.refl hc)
 have Hc:=Lib.hid hc
 go_enter Tryz.func97,Tryz.ntmps97
 go_wp2_with (go_at_call 150;refine zar (zgC 32 addR (enters_of Tryz.func32 (by kernel_rfl) rfl) zrq c e a b _ (by go_simp) (by go_simp)) ?_;intro u)
 refine bodyPost_ret (by (simp[results,Tryz.results97,go_sem]<;>rfl)) rfl ?_
 exact ⟨rfl,But.out btw Hc.out (by go_simp)⟩
theorem zgD (c:Nat) (e:Int) (a:Sp) (n:Int) [ha:S64 a] [hn:N64 n] (w:World) (hc:w.cell? ⟨c,0,none⟩=some (.int .i64 e)) (hf:w.frozen? ⟨c,0,none⟩=false) :
 Calls Tryz.prog 158 #[.pointer (some ⟨c,0,none⟩),.agg #[.int .i64 a.lo,.int .i64 a.hi],.int .i64 n] w (RetC c (.agg #[.int .i64 ((doR e (zbP a n)).s).lo,.int .i64 ((doR e (zbP a n)).s).hi]) (doR e (zbP a n)).e w):=by
 have ib:BlockIn w c:=BlockIn.of_cell hc
 have hci:HasCell w c 0:=⟨_,hc⟩
 have Hb:=Lib.hid (But.refl hc)
 have Hc:=Lib.hid hc
 go_enter Tryz.func158,Tryz.ntmps158
 go_wp2_with (first|(go_at_call 190;(with_reducible refine zaa (zlc a n _) ?_);intro u)|(go_at_call 160;refine zar (zf4 c e (zbP a n) _ (by go_simp) (by go_simp)) ?_;intro u))
 refine bodyPost_ret (by (simp[results,Tryz.results158,go_sem]<;>rfl)) rfl ?_
 exact ⟨rfl,But.out btw Hc.out (by go_simp)⟩
theorem zkI (w:World):Calls Tryz.prog 105 #[.int .i64 1] w fun e w'=>e=.returned (.agg #[.int .i64 (zaI 1).lo,.int .i64 (zaI 1).hi])∧Grew w w':=by
 go_enter Tryz.func105,Tryz.ntmps105
 go_wp2_with (first|(go_at_call 98;(with_reducible refine zaa (zdQ _ _) ?_);intro u))
 refine bodyPost_ret (by (simp[results,Tryz.results105,go_sem]<;>rfl)) rfl ?_
 exact ⟨rfl,gw⟩
theorem zi8 (w:World):Calls Tryz.prog 105 #[.int .i64 3] w fun e w'=>e=.returned (.agg #[.int .i64 (zaI 3).lo,.int .i64 (zaI 3).hi])∧Grew w w':=by
 go_enter Tryz.func105,Tryz.ntmps105
 go_wp2_with (first|(go_at_call 98;(with_reducible refine zaa (zdQ _ _) ?_);intro u))
 refine bodyPost_ret (by (simp[results,Tryz.results105,go_sem]<;>rfl)) rfl ?_
 exact ⟨rfl,gw⟩
theorem zer (a:Sp) (w:World):Calls Tryz.prog 153 #[.agg #[.int .i64 a.lo,.int .i64 a.hi]] w fun e w'=>e=.returned (.bool (zbv a))∧Grew w w':=by
 unfold zbv
 go_enter Tryz.func153,Tryz.ntmps153
 go_wp2
 all_goals
  go_ret
  exact ⟨by congr 1;simp[*],gw⟩
theorem zcY (a:Sp) (w:World):Calls Tryz.prog 111 #[.agg #[.int .i64 a.lo,.int .i64 a.hi]] w fun e w'=>e=.returned (.bool (zbv a))∧Grew w w':=by
 unfold zbv
 cases h1:decide (a.lo=0)<;>cases h2:decide (a.hi=0)
 all_goals
  simp only[decide_eq_true_eq,decide_eq_false_iff_not] at h1 h2
  go_enter Tryz.func111,Tryz.ntmps111
  go_wp2
  go_ret
  exact ⟨by simp[h1,h2],gw⟩
@[go_sem] theorem zro (a:Addr) (cap:Nat) (w:World):(Instr.arrayAt 26 (.slice (some a) 3 cap)).run Tryz.prog w=.ok (.pointer (some a)) w:=by
 simp[Instr.arrayAt]
theorem zfU (p v:Bx) (w:World):Calls Tryz.prog 106 #[.agg #[.int .i64 p.x.lo,.int .i64 p.x.hi,.int .i64 p.y.lo,.int .i64 p.y.hi,.int .i64 p.z.lo,.int .i64 p.z.hi,.int .i64 v.x.lo,.int .i64 v.x.hi,.int .i64 v.y.lo,.int .i64 v.y.hi,.int .i64 v.z.lo,.int .i64 v.z.hi]] w fun e w'=>e=.returned (.agg #[.int .i64 p.x.lo,.int .i64 p.x.hi,.int .i64 p.y.lo,.int .i64 p.y.hi,.int .i64 p.z.lo,.int .i64 p.z.hi])∧Grew w w':=by
 go_enter Tryz.func106,Tryz.ntmps106
 go_wp2
 refine bodyPost_ret (by (simp[results,Tryz.results106,go_sem]<;>rfl)) rfl ?_
 exact ⟨rfl,gw⟩
theorem zb2 (p v:Bx) (w:World):Calls Tryz.prog 107 #[.agg #[.int .i64 p.x.lo,.int .i64 p.x.hi,.int .i64 p.y.lo,.int .i64 p.y.hi,.int .i64 p.z.lo,.int .i64 p.z.hi,.int .i64 v.x.lo,.int .i64 v.x.hi,.int .i64 v.y.lo,.int .i64 v.y.hi,.int .i64 v.z.lo,.int .i64 v.z.hi]] w fun e w'=>e=.returned (.agg #[.int .i64 v.x.lo,.int .i64 v.x.hi,.int .i64 v.y.lo,.int .i64 v.y.hi,.int .i64 v.z.lo,.int .i64 v.z.hi])∧Grew w w':=by
 go_enter Tryz.func107,Tryz.ntmps107
 go_wp2
 refine bodyPost_ret (by (simp[results,Tryz.results107,go_sem]<;>rfl)) rfl ?_
 exact ⟨rfl,gw⟩
def OpM (g:Nat) (op:Sp→Sp→Res):Prop:=
 ∀ (c:Nat) (e:Int) (a b:Sp),S64 a→S64 b→∀ (w:World),w.cell? ⟨c,0,none⟩=some (.int .i64 e)→w.frozen? ⟨c,0,none⟩=false→
  Calls Tryz.prog g #[.pointer (some ⟨c,0,none⟩),.agg #[.int .i64 a.lo,.int .i64 a.hi],.agg #[.int .i64 b.lo,.int .i64 b.hi]] w (RetC c (.agg #[.int .i64 ((doR e (op a b)).s).lo,.int .i64 ((doR e (op a b)).s).hi]) (doR e (op a b)).e w)
theorem zkV:OpM 97 addR:=fun c e a b _ _ w hc hf=>zdi c e a b w hc hf
theorem zou:OpM 99 subR:=fun c e a b _ _ w hc hf=>zeF c e a b w hc hf
theorem zgO:OpM 100 mulR:=fun c e a b _ _ w hc hf=>zb1 c e a b w hc hf
theorem zr3:OpM 104 divR:=fun c e a b _ _ w hc hf=>zeE c e a b w hc hf
theorem zcW (g:Nat) (op:Sp→Sp→Res) (eg:∀ args w,(callFunc g args).run Tryz.prog w=.ok (.enter g args) w) (hop:OpM g op) (c:Nat) (e:Int) (a b:Bx) [ha:B64 a] [hb:B64 b] (w:World) (hc:w.cell? ⟨c,0,none⟩=some (.int .i64 e)) (hf:w.frozen? ⟨c,0,none⟩=false) :
 Calls Tryz.prog 155 #[.pointer (some ⟨c,0,none⟩),.func (.func g) #[.pointer (some ⟨c,0,none⟩)] #[],.agg #[.int .i64 a.x.lo,.int .i64 a.x.hi,.int .i64 a.y.lo,.int .i64 a.y.hi,.int .i64 a.z.lo,.int .i64 a.z.hi],.agg #[.int .i64 b.x.lo,.int .i64 b.x.hi,.int .i64 b.y.lo,.int .i64 b.y.hi,.int .i64 b.z.lo,.int .i64 b.z.hi]] w (RetC c (.agg #[.int .i64 ((zbR op e a b).b).x.lo,.int .i64 ((zbR op e a b).b).x.hi,.int .i64 ((zbR op e a b).b).y.lo,.int .i64 ((zbR op e a b).b).y.hi,.int .i64 ((zbR op e a b).b).z.lo,.int .i64 ((zbR op e a b).b).z.hi]) (zbR op e a b).e w):=by
 have ib:BlockIn w c:=BlockIn.of_cell hc
 have hci:HasCell w c 0:=⟨_,hc⟩
 have Hb:=Lib.hid (But.refl hc)
 have Hc:=Lib.hid hc
 have HO:=Lib.hid hop
 clear hop
 go_enter Tryz.func155,Tryz.ntmps155
 go_wp2
 go_loopw [11] (fun t wr=>∃ k:Nat,t=.int .i64 k∧k≤3∧EachAt op e a b c (w.heap.size+1+1+1) w k wr) (fun t _=>3-(intOf t).toNat)
 case atStart=>exact ⟨0,rfl,by omega,btw,by go_simp;rfl,by go_simp,zbw (by go_simp) (by go_simp) (by go_simp) (by go_simp) (by go_simp) (by go_simp) (by go_simp) (by go_simp) (by go_simp) (by go_simp) (by go_simp) (by go_simp),zbw (by go_simp) (by go_simp) (by go_simp) (by go_simp) (by go_simp) (by go_simp) (by go_simp) (by go_simp) (by go_simp) (by go_simp) (by go_simp) (by go_simp),zbw (by go_simp) (by go_simp) (by go_simp) (by go_simp) (by go_simp) (by go_simp) (by go_simp) (by go_simp) (by go_simp) (by go_simp) (by go_simp) (by go_simp),zbw (by go_simp) (by go_simp) (by go_simp) (by go_simp) (by go_simp) (by go_simp) (by go_simp) (by go_simp) (by go_simp) (by go_simp) (by go_simp) (by go_simp)⟩
 case round=>
  obtain ⟨k,rfl,hk,hE⟩:=hrel
  obtain ⟨h1,h2,h3,h4,h5,h6,h7⟩:=hE

  have Hb:=Lib.hid h1
  have ibw:BlockIn wr c:=BlockIn.of_cell h2
  have hcw:HasCell wr c 0:=⟨_,h2⟩
  have hlt:=ib.lt
  have:Apart (c) (w.heap.size):=⟨by omega⟩
  have:Apart (c) (w.heap.size+1):=⟨by omega⟩
  have:Apart (c) (w.heap.size+1+1):=⟨by omega⟩
  have:Apart (c) (w.heap.size+1+1+1):=⟨by omega⟩
  have:Apart (w.heap.size) (c):=⟨by omega⟩
  have:Apart (w.heap.size+1) (c):=⟨by omega⟩
  have:Apart (w.heap.size+1+1) (c):=⟨by omega⟩
  have:Apart (w.heap.size+1+1+1) (c):=⟨by omega⟩
  clear h1 hc hf hci
  have h4_0:=(h4 0 _ rfl).1
  have h4f0:=(h4 0 _ rfl).2
  have h4i0:HasCell (wr) (w.heap.size) 0:=⟨_,h4_0⟩
  have h4_1:=(h4 1 _ rfl).1
  have h4f1:=(h4 1 _ rfl).2
  have h4i1:HasCell (wr) (w.heap.size) 1:=⟨_,h4_1⟩
  have h4_2:=(h4 2 _ rfl).1
  have h4f2:=(h4 2 _ rfl).2
  have h4i2:HasCell (wr) (w.heap.size) 2:=⟨_,h4_2⟩
  have h4_3:=(h4 3 _ rfl).1
  have h4f3:=(h4 3 _ rfl).2
  have h4i3:HasCell (wr) (w.heap.size) 3:=⟨_,h4_3⟩
  have h4_4:=(h4 4 _ rfl).1
  have h4f4:=(h4 4 _ rfl).2
  have h4i4:HasCell (wr) (w.heap.size) 4:=⟨_,h4_4⟩
  have h4_5:=(h4 5 _ rfl).1
  have h4f5:=(h4 5 _ rfl).2
  have h4i5:HasCell (wr) (w.heap.size) 5:=⟨_,h4_5⟩
  have h4b:BlockIn (wr) (w.heap.size):=BlockIn.of_cell h4_0
  clear h4
  have h5_0:=(h5 0 _ rfl).1
  have h5f0:=(h5 0 _ rfl).2
  have h5i0:HasCell (wr) (w.heap.size+1) 0:=⟨_,h5_0⟩
  have h5_1:=(h5 1 _ rfl).1
  have h5f1:=(h5 1 _ rfl).2
  have h5i1:HasCell (wr) (w.heap.size+1) 1:=⟨_,h5_1⟩
  have h5_2:=(h5 2 _ rfl).1
  have h5f2:=(h5 2 _ rfl).2
  have h5i2:HasCell (wr) (w.heap.size+1) 2:=⟨_,h5_2⟩
  have h5_3:=(h5 3 _ rfl).1
  have h5f3:=(h5 3 _ rfl).2
  have h5i3:HasCell (wr) (w.heap.size+1) 3:=⟨_,h5_3⟩
  have h5_4:=(h5 4 _ rfl).1
  have h5f4:=(h5 4 _ rfl).2
  have h5i4:HasCell (wr) (w.heap.size+1) 4:=⟨_,h5_4⟩
  have h5_5:=(h5 5 _ rfl).1
  have h5f5:=(h5 5 _ rfl).2
  have h5i5:HasCell (wr) (w.heap.size+1) 5:=⟨_,h5_5⟩
  have h5b:BlockIn (wr) (w.heap.size+1):=BlockIn.of_cell h5_0
  clear h5
  have h6_0:=(h6 0 _ rfl).1
  have h6f0:=(h6 0 _ rfl).2
  have h6i0:HasCell (wr) (w.heap.size+1+1) 0:=⟨_,h6_0⟩
  have h6_1:=(h6 1 _ rfl).1
  have h6f1:=(h6 1 _ rfl).2
  have h6i1:HasCell (wr) (w.heap.size+1+1) 1:=⟨_,h6_1⟩
  have h6_2:=(h6 2 _ rfl).1
  have h6f2:=(h6 2 _ rfl).2
  have h6i2:HasCell (wr) (w.heap.size+1+1) 2:=⟨_,h6_2⟩
  have h6_3:=(h6 3 _ rfl).1
  have h6f3:=(h6 3 _ rfl).2
  have h6i3:HasCell (wr) (w.heap.size+1+1) 3:=⟨_,h6_3⟩
  have h6_4:=(h6 4 _ rfl).1
  have h6f4:=(h6 4 _ rfl).2
  have h6i4:HasCell (wr) (w.heap.size+1+1) 4:=⟨_,h6_4⟩
  have h6_5:=(h6 5 _ rfl).1
  have h6f5:=(h6 5 _ rfl).2
  have h6i5:HasCell (wr) (w.heap.size+1+1) 5:=⟨_,h6_5⟩
  have h6b:BlockIn (wr) (w.heap.size+1+1):=BlockIn.of_cell h6_0
  clear h6
  rcases (show k=0∨k=1∨k=2∨k=3 by omega) with rfl|rfl|rfl|rfl
  ·unfold zhD at h2
   unfold zff at h7
   have h7_0:=(h7 0 _ rfl).1
   have h7f0:=(h7 0 _ rfl).2
   have h7i0:HasCell (wr) (w.heap.size+1+1+1) 0:=⟨_,h7_0⟩
   have h7_1:=(h7 1 _ rfl).1
   have h7f1:=(h7 1 _ rfl).2
   have h7i1:HasCell (wr) (w.heap.size+1+1+1) 1:=⟨_,h7_1⟩
   have h7_2:=(h7 2 _ rfl).1
   have h7f2:=(h7 2 _ rfl).2
   have h7i2:HasCell (wr) (w.heap.size+1+1+1) 2:=⟨_,h7_2⟩
   have h7_3:=(h7 3 _ rfl).1
   have h7f3:=(h7 3 _ rfl).2
   have h7i3:HasCell (wr) (w.heap.size+1+1+1) 3:=⟨_,h7_3⟩
   have h7_4:=(h7 4 _ rfl).1
   have h7f4:=(h7 4 _ rfl).2
   have h7i4:HasCell (wr) (w.heap.size+1+1+1) 4:=⟨_,h7_4⟩
   have h7_5:=(h7 5 _ rfl).1
   have h7f5:=(h7 5 _ rfl).2
   have h7i5:HasCell (wr) (w.heap.size+1+1+1) 5:=⟨_,h7_5⟩
   have h7b:BlockIn (wr) (w.heap.size+1+1+1):=BlockIn.of_cell h7_0
   clear h7
   go_wp2
   refine zaf c [e,(zdv op e a b).e] 10 [] [8] [] (fun W0=>[]) [.agg #[.int .i64 ((zdv op e a b).s).lo,.int .i64 ((zdv op e a b).s).hi]] [10] (by rfl) (by go_simp) (by go_simp) (fun _ _ x hx=>absurd hx (List.not_mem_nil)) (by kernel_rfl) (by kernel_rfl) (by kernel_rfl) ?_
   intro pz hd0
   apply Exists.intro
   apply And.intro
   iterate 8 (apply zae hd0 (by kernel_rfl);(· intro uz xc;unfold zai;go_simp;rfl))
   apply zad hd0 0 (by kernel_rfl) (by rfl) (by decide)
   ·intro uz hfz hF;clear hF;unfold zah;go_simp;exact HO.out _ _ _ _ ha.x hb.x _ (by go_simp) hfz
   apply zae hd0 (by kernel_rfl)
   ·intro uz xc;unfold zai;go_simp;rfl
   apply zax
   rotate_left
   ·rfl
   intro uz hR hD hfz
   clear hR hD
   refine zag (by rfl) ?_;unfold zap;go_simp
   refine zao ?_
   go_wp2
   refine ⟨⟨1,rfl,by omega,btw,by go_simp;rfl,by go_simp,zbw (by go_simp) (by go_simp) (by go_simp) (by go_simp) (by go_simp) (by go_simp) (by go_simp) (by go_simp) (by go_simp) (by go_simp) (by go_simp) (by go_simp),zbw (by go_simp) (by go_simp) (by go_simp) (by go_simp) (by go_simp) (by go_simp) (by go_simp) (by go_simp) (by go_simp) (by go_simp) (by go_simp) (by go_simp),zbw (by go_simp) (by go_simp) (by go_simp) (by go_simp) (by go_simp) (by go_simp) (by go_simp) (by go_simp) (by go_simp) (by go_simp) (by go_simp) (by go_simp),?_⟩,by simp[intOf]⟩
   exact zbw (by go_simp<;>rfl) (by go_simp) (by go_simp<;>rfl) (by go_simp) (by go_simp<;>rfl) (by go_simp) (by go_simp<;>rfl) (by go_simp) (by go_simp<;>rfl) (by go_simp) (by go_simp<;>rfl) (by go_simp)
  ·unfold zhD at h2
   unfold zff at h7
   have h7_0:=(h7 0 _ rfl).1
   have h7f0:=(h7 0 _ rfl).2
   have h7i0:HasCell (wr) (w.heap.size+1+1+1) 0:=⟨_,h7_0⟩
   have h7_1:=(h7 1 _ rfl).1
   have h7f1:=(h7 1 _ rfl).2
   have h7i1:HasCell (wr) (w.heap.size+1+1+1) 1:=⟨_,h7_1⟩
   have h7_2:=(h7 2 _ rfl).1
   have h7f2:=(h7 2 _ rfl).2
   have h7i2:HasCell (wr) (w.heap.size+1+1+1) 2:=⟨_,h7_2⟩
   have h7_3:=(h7 3 _ rfl).1
   have h7f3:=(h7 3 _ rfl).2
   have h7i3:HasCell (wr) (w.heap.size+1+1+1) 3:=⟨_,h7_3⟩
   have h7_4:=(h7 4 _ rfl).1
   have h7f4:=(h7 4 _ rfl).2
   have h7i4:HasCell (wr) (w.heap.size+1+1+1) 4:=⟨_,h7_4⟩
   have h7_5:=(h7 5 _ rfl).1
   have h7f5:=(h7 5 _ rfl).2
   have h7i5:HasCell (wr) (w.heap.size+1+1+1) 5:=⟨_,h7_5⟩
   have h7b:BlockIn (wr) (w.heap.size+1+1+1):=BlockIn.of_cell h7_0
   clear h7
   go_wp2
   refine zaf c [(zdv op e a b).e,(zdO op e a b).e] 10 [] [8] [] (fun W0=>[]) [.agg #[.int .i64 ((zdO op e a b).s).lo,.int .i64 ((zdO op e a b).s).hi]] [10] (by rfl) (by go_simp) (by go_simp) (fun _ _ x hx=>absurd hx (List.not_mem_nil)) (by kernel_rfl) (by kernel_rfl) (by kernel_rfl) ?_
   intro pz hd0
   apply Exists.intro
   apply And.intro
   iterate 8 (apply zae hd0 (by kernel_rfl);(· intro uz xc;unfold zai;go_simp;rfl))
   apply zad hd0 0 (by kernel_rfl) (by rfl) (by decide)
   ·intro uz hfz hF;clear hF;unfold zah;go_simp;exact HO.out _ _ _ _ ha.y hb.y _ (by go_simp) hfz
   apply zae hd0 (by kernel_rfl)
   ·intro uz xc;unfold zai;go_simp;rfl
   apply zax
   rotate_left
   ·rfl
   intro uz hR hD hfz
   clear hR hD
   refine zag (by rfl) ?_;unfold zap;go_simp
   refine zao ?_
   go_wp2
   refine ⟨⟨2,rfl,by omega,btw,by go_simp;rfl,by go_simp,zbw (by go_simp) (by go_simp) (by go_simp) (by go_simp) (by go_simp) (by go_simp) (by go_simp) (by go_simp) (by go_simp) (by go_simp) (by go_simp) (by go_simp),zbw (by go_simp) (by go_simp) (by go_simp) (by go_simp) (by go_simp) (by go_simp) (by go_simp) (by go_simp) (by go_simp) (by go_simp) (by go_simp) (by go_simp),zbw (by go_simp) (by go_simp) (by go_simp) (by go_simp) (by go_simp) (by go_simp) (by go_simp) (by go_simp) (by go_simp) (by go_simp) (by go_simp) (by go_simp),?_⟩,by simp[intOf]⟩
   exact zbw (by go_simp<;>rfl) (by go_simp) (by go_simp<;>rfl) (by go_simp) (by go_simp<;>rfl) (by go_simp) (by go_simp<;>rfl) (by go_simp) (by go_simp<;>rfl) (by go_simp) (by go_simp<;>rfl) (by go_simp)
  ·unfold zhD at h2
   unfold zff at h7
   have h7_0:=(h7 0 _ rfl).1
   have h7f0:=(h7 0 _ rfl).2
   have h7i0:HasCell (wr) (w.heap.size+1+1+1) 0:=⟨_,h7_0⟩
   have h7_1:=(h7 1 _ rfl).1
   have h7f1:=(h7 1 _ rfl).2
   have h7i1:HasCell (wr) (w.heap.size+1+1+1) 1:=⟨_,h7_1⟩
   have h7_2:=(h7 2 _ rfl).1
   have h7f2:=(h7 2 _ rfl).2
   have h7i2:HasCell (wr) (w.heap.size+1+1+1) 2:=⟨_,h7_2⟩
   have h7_3:=(h7 3 _ rfl).1
   have h7f3:=(h7 3 _ rfl).2
   have h7i3:HasCell (wr) (w.heap.size+1+1+1) 3:=⟨_,h7_3⟩
   have h7_4:=(h7 4 _ rfl).1
   have h7f4:=(h7 4 _ rfl).2
   have h7i4:HasCell (wr) (w.heap.size+1+1+1) 4:=⟨_,h7_4⟩
   have h7_5:=(h7 5 _ rfl).1
   have h7f5:=(h7 5 _ rfl).2
   have h7i5:HasCell (wr) (w.heap.size+1+1+1) 5:=⟨_,h7_5⟩
   have h7b:BlockIn (wr) (w.heap.size+1+1+1):=BlockIn.of_cell h7_0
   clear h7
   go_wp2
   refine zaf c [(zdO op e a b).e,(zdP op e a b).e] 10 [] [8] [] (fun W0=>[]) [.agg #[.int .i64 ((zdP op e a b).s).lo,.int .i64 ((zdP op e a b).s).hi]] [10] (by rfl) (by go_simp) (by go_simp) (fun _ _ x hx=>absurd hx (List.not_mem_nil)) (by kernel_rfl) (by kernel_rfl) (by kernel_rfl) ?_
   intro pz hd0
   apply Exists.intro
   apply And.intro
   iterate 8 (apply zae hd0 (by kernel_rfl);(· intro uz xc;unfold zai;go_simp;rfl))
   apply zad hd0 0 (by kernel_rfl) (by rfl) (by decide)
   ·intro uz hfz hF;clear hF;unfold zah;go_simp;exact HO.out _ _ _ _ ha.z hb.z _ (by go_simp) hfz
   apply zae hd0 (by kernel_rfl)
   ·intro uz xc;unfold zai;go_simp;rfl
   apply zax
   rotate_left
   ·rfl
   intro uz hR hD hfz
   clear hR hD
   refine zag (by rfl) ?_;unfold zap;go_simp
   refine zao ?_
   go_wp2
   refine ⟨⟨3,rfl,by omega,btw,by go_simp;rfl,by go_simp,zbw (by go_simp) (by go_simp) (by go_simp) (by go_simp) (by go_simp) (by go_simp) (by go_simp) (by go_simp) (by go_simp) (by go_simp) (by go_simp) (by go_simp),zbw (by go_simp) (by go_simp) (by go_simp) (by go_simp) (by go_simp) (by go_simp) (by go_simp) (by go_simp) (by go_simp) (by go_simp) (by go_simp) (by go_simp),zbw (by go_simp) (by go_simp) (by go_simp) (by go_simp) (by go_simp) (by go_simp) (by go_simp) (by go_simp) (by go_simp) (by go_simp) (by go_simp) (by go_simp),?_⟩,by simp[intOf]⟩
   exact zbw (by go_simp<;>rfl) (by go_simp) (by go_simp<;>rfl) (by go_simp) (by go_simp<;>rfl) (by go_simp) (by go_simp<;>rfl) (by go_simp) (by go_simp<;>rfl) (by go_simp) (by go_simp<;>rfl) (by go_simp)
  ·unfold zhD at h2
   unfold zff at h7
   have h7_0:=(h7 0 _ rfl).1
   have h7f0:=(h7 0 _ rfl).2
   have h7i0:HasCell (wr) (w.heap.size+1+1+1) 0:=⟨_,h7_0⟩
   have h7_1:=(h7 1 _ rfl).1
   have h7f1:=(h7 1 _ rfl).2
   have h7i1:HasCell (wr) (w.heap.size+1+1+1) 1:=⟨_,h7_1⟩
   have h7_2:=(h7 2 _ rfl).1
   have h7f2:=(h7 2 _ rfl).2
   have h7i2:HasCell (wr) (w.heap.size+1+1+1) 2:=⟨_,h7_2⟩
   have h7_3:=(h7 3 _ rfl).1
   have h7f3:=(h7 3 _ rfl).2
   have h7i3:HasCell (wr) (w.heap.size+1+1+1) 3:=⟨_,h7_3⟩
   have h7_4:=(h7 4 _ rfl).1
   have h7f4:=(h7 4 _ rfl).2
   have h7i4:HasCell (wr) (w.heap.size+1+1+1) 4:=⟨_,h7_4⟩
   have h7_5:=(h7 5 _ rfl).1
   have h7f5:=(h7 5 _ rfl).2
   have h7i5:HasCell (wr) (w.heap.size+1+1+1) 5:=⟨_,h7_5⟩
   have h7b:BlockIn (wr) (w.heap.size+1+1+1):=BlockIn.of_cell h7_0
   clear h7
   go_wp2
   refine bodyPost_ret (by (simp[results,Tryz.results155,go_sem]<;>rfl)) rfl ?_
   exact ⟨rfl,But.out btw Hc.out (by go_simp;rfl)⟩
theorem zf3 (g:Nat) (op:Sp→Sp→Res) (eg:∀ args w,(callFunc g args).run Tryz.prog w=.ok (.enter g args) w) (hop:OpM g op) (c:Nat) (e:Int) (a:Sp) (b:Bx) [ha:S64 a] [hb:B64 b] (w:World) (hc:w.cell? ⟨c,0,none⟩=some (.int .i64 e)) (hf:w.frozen? ⟨c,0,none⟩=false) :
 Calls Tryz.prog 159 #[.pointer (some ⟨c,0,none⟩),.func (.func g) #[.pointer (some ⟨c,0,none⟩)] #[],.agg #[.int .i64 a.lo,.int .i64 a.hi],.agg #[.int .i64 b.x.lo,.int .i64 b.x.hi,.int .i64 b.y.lo,.int .i64 b.y.hi,.int .i64 b.z.lo,.int .i64 b.z.hi]] w (RetC c (.agg #[.int .i64 ((zbR op e (ones a) b).b).x.lo,.int .i64 ((zbR op e (ones a) b).b).x.hi,.int .i64 ((zbR op e (ones a) b).b).y.lo,.int .i64 ((zbR op e (ones a) b).b).y.hi,.int .i64 ((zbR op e (ones a) b).b).z.lo,.int .i64 ((zbR op e (ones a) b).b).z.hi]) (zbR op e (ones a) b).e w):=by
 have ib:BlockIn w c:=BlockIn.of_cell hc
 have hci:HasCell w c 0:=⟨_,hc⟩
 have Hb:=Lib.hid (But.refl hc)
 have Hc:=Lib.hid hc
 have i3:B64 (ones a):=⟨ha,ha,ha⟩
 have HE:=Lib.hid (fun w' hc hf=>show Calls Tryz.prog 155 #[.pointer (some ⟨c,0,none⟩),.func (.func g) #[.pointer (some ⟨c,0,none⟩)] #[],.agg #[.int .i64 a.lo,.int .i64 a.hi,.int .i64 a.lo,.int .i64 a.hi,.int .i64 a.lo,.int .i64 a.hi],.agg #[.int .i64 b.x.lo,.int .i64 b.x.hi,.int .i64 b.y.lo,.int .i64 b.y.hi,.int .i64 b.z.lo,.int .i64 b.z.hi]] w' (RetC c (.agg #[.int .i64 ((zbR op e (ones a) b).b).x.lo,.int .i64 ((zbR op e (ones a) b).b).x.hi,.int .i64 ((zbR op e (ones a) b).b).y.lo,.int .i64 ((zbR op e (ones a) b).b).y.hi,.int .i64 ((zbR op e (ones a) b).b).z.lo,.int .i64 ((zbR op e (ones a) b).b).z.hi]) (zbR op e (ones a) b).e w') from zcW g op eg hop c e (ones a) b w' hc hf)
 clear hop
 generalize zbR op e (ones a) b=R at *
 go_enter Tryz.func159,Tryz.ntmps159
 go_wp2_with (go_at_call 155;(with_reducible refine zar (HE.out _ ?_ ?_) ?_);(· go_simp);(· go_simp);intro u)
 refine bodyPost_ret (by (simp[results,Tryz.results159,go_sem]<;>rfl)) rfl ?_
 exact ⟨rfl,But.out btw Hc.out (by go_simp)⟩
end Go.Proofs.YtdkfkalplmgoeaaGreat
namespace Go.Proofs.YtdkfkalplmgoeaaGreat
open Go.RowKit Go.Shelf
set_option maxRecDepth 100000
set_option maxHeartbeats 16000000
theorem zcG {a w:World} {q:Nat} [h:NewFor a w.heap.size] (n:NewFor w q):NewFor a q:=⟨Nat.le_trans h.le n.le⟩
instance zgS:S64 (zaI 1):=⟨⟨by unfold zaI;simp only[];omega,by unfold zaI;simp only[];omega⟩,⟨by unfold zaI;simp only[];omega,by unfold zaI;simp only[];omega⟩⟩
instance ztq:S64 (zaI 2):=⟨⟨by unfold zaI;simp only[];omega,by unfold zaI;simp only[];omega⟩,⟨by unfold zaI;simp only[];omega,by unfold zaI;simp only[];omega⟩⟩
instance ztr:S64 (zaI 3):=⟨⟨by unfold zaI;simp only[];omega,by unfold zaI;simp only[];omega⟩,⟨by unfold zaI;simp only[];omega,by unfold zaI;simp only[];omega⟩⟩
instance zu9:N64 5:=⟨by unfold I64;omega⟩
instance zvG:N64 2:=⟨by unfold I64;omega⟩
instance zvM (p:Planet) (r:Sp) (e:Int):S64 (sh3 p r e).s:=zam _ _
instance zvN (p:Planet) (r up:Sp) (e:Int):S64 (sh5 p r up e).s:=zam _ _
instance zbK (f:Sp→Sp→Res) (e:Int) (a b:Bx) [hf:∀ x y,S64 (f x y).s]:B64 (zbR f e a b).b:=⟨zam _ _,zam _ _,zam _ _⟩
instance zjB (p:Planet) (r up:Sp) (e:Int):B64 (zcB p r up e).b:=by
 unfold zcB
 split
 ·exact ⟨zgS,zgS,zgS⟩
 ·exact ⟨zam _ _,zam _ _,zam _ _⟩
theorem zk1 (p:Planet) (r up:Sp) [hp:Pl64 p] [hr:S64 r] [hu:S64 up] (c:Nat) (e:Int) (w:World) (hc:w.cell? ⟨c,0,none⟩=some (.int .i64 e)) (hf:w.frozen? ⟨c,0,none⟩=false) :
 Calls Tryz.prog 113 #[.pointer (some ⟨c,0,none⟩),.agg #[.int .i64 p.mu.lo,.int .i64 p.mu.hi,.int .i64 p.radius.lo,.int .i64 p.radius.hi,.int .i64 p.oblate.lo,.int .i64 p.oblate.hi,.int .i64 p.spin.lo,.int .i64 p.spin.hi,.int .i64 p.pull.x.lo,.int .i64 p.pull.x.hi,.int .i64 p.pull.y.lo,.int .i64 p.pull.y.hi,.int .i64 p.pull.z.lo,.int .i64 p.pull.z.hi],.agg #[.int .i64 r.lo,.int .i64 r.hi],.agg #[.int .i64 up.lo,.int .i64 up.hi]] w (RetC c (.agg #[.int .i64 ((zcB p r up e).b).x.lo,.int .i64 ((zcB p r up e).b).x.hi,.int .i64 ((zcB p r up e).b).y.lo,.int .i64 ((zcB p r up e).b).y.hi,.int .i64 ((zcB p r up e).b).z.lo,.int .i64 ((zcB p r up e).b).z.hi]) (zcB p r up e).e w):=by
 have ib:BlockIn w c:=BlockIn.of_cell hc
 have hci:HasCell w c 0:=⟨_,hc⟩
 have Hb:=Lib.hid (But.refl hc)
 have Hc:=Lib.hid hc
 have hlt:=ib.lt
 have KW1:=Lib.hid (fun w=>zgQ 1 (by omega) (by omega) w)
 have KW3:=Lib.hid (fun w=>zgQ 3 (by omega) (by omega) w)
 cases hz:zbv p.oblate
 ·have HZ:=Lib.hid (fun w'=>zaz hz (zcY p.oblate w'))
  have HR:=Lib.hid (show zcB p r up e=⟨⟨(sh8 p r up e).s,(sh8 p r up e).s,(sh11 p r up e).s⟩,(sh11 p r up e).e⟩ by unfold zcB;rw[hz];rfl)
  have s1:S64 (sh1 p r e).s:=zam _ _
  have s2:S64 (sh2 p r e).s:=zam _ _
  have s3:S64 (sh3 p r e).s:=zam _ _
  have s4:S64 (sh4 p r up e).s:=zam _ _
  have s5:S64 (sh5 p r up e).s:=zam _ _
  have s6:S64 (sh6 p r up e).s:=zam _ _
  have s7:S64 (sh7 p r up e).s:=zam _ _
  have s9:S64 (sh9 p r up e).s:=zam _ _
  have s10:S64 (sh10 p r up e).s:=zam _ _
  have K1:=Lib.hid (fun w hc hf=>show Calls Tryz.prog 112 #[.pointer (some ⟨c,0,none⟩),.agg #[.int .i64 p.radius.lo,.int .i64 p.radius.hi],.agg #[.int .i64 r.lo,.int .i64 r.hi]] w (RetC c (.agg #[.int .i64 ((sh1 p r e).s).lo,.int .i64 ((sh1 p r e).s).hi]) (sh1 p r e).e w) from zc7 c e p.radius r w hc hf)
  have K2:=Lib.hid (fun w hc hf=>show Calls Tryz.prog 114 #[.pointer (some ⟨c,0,none⟩),.agg #[.int .i64 ((sh1 p r e).s).lo,.int .i64 ((sh1 p r e).s).hi]] w (RetC c (.agg #[.int .i64 ((sh2 p r e).s).lo,.int .i64 ((sh2 p r e).s).hi]) (sh2 p r e).e w) from zfr c (sh1 p r e).e (sh1 p r e).s w hc hf)
  have K3:=Lib.hid (fun w hc hf=>show Calls Tryz.prog 53 #[.pointer (some ⟨c,0,none⟩),.agg #[.int .i64 p.oblate.lo,.int .i64 p.oblate.hi],.agg #[.int .i64 ((sh2 p r e).s).lo,.int .i64 ((sh2 p r e).s).hi]] w (RetC c (.agg #[.int .i64 ((sh3 p r e).s).lo,.int .i64 ((sh3 p r e).s).hi]) (sh3 p r e).e w) from zaP c (sh2 p r e).e p.oblate (sh2 p r e).s w hc hf)
  have K4:=Lib.hid (fun w hc hf=>show Calls Tryz.prog 114 #[.pointer (some ⟨c,0,none⟩),.agg #[.int .i64 up.lo,.int .i64 up.hi]] w (RetC c (.agg #[.int .i64 ((sh4 p r up e).s).lo,.int .i64 ((sh4 p r up e).s).hi]) (sh4 p r up e).e w) from zfr c (sh3 p r e).e up w hc hf)
  have K5:=Lib.hid (fun w hc hf=>show Calls Tryz.prog 115 #[.pointer (some ⟨c,0,none⟩),.agg #[.int .i64 ((sh4 p r up e).s).lo,.int .i64 ((sh4 p r up e).s).hi],.int .i64 5] w (RetC c (.agg #[.int .i64 ((sh5 p r up e).s).lo,.int .i64 ((sh5 p r up e).s).hi]) (sh5 p r up e).e w) from zfZ c (sh4 p r up e).e (sh4 p r up e).s 5 w hc hf)
  have K6:=Lib.hid (fun w hc hf=>show Calls Tryz.prog 52 #[.pointer (some ⟨c,0,none⟩),.agg #[.int .i64 ((zaI 1)).lo,.int .i64 ((zaI 1)).hi],.agg #[.int .i64 ((sh5 p r up e).s).lo,.int .i64 ((sh5 p r up e).s).hi]] w (RetC c (.agg #[.int .i64 ((sh6 p r up e).s).lo,.int .i64 ((sh6 p r up e).s).hi]) (sh6 p r up e).e w) from zca c (sh5 p r up e).e (zaI 1) (sh5 p r up e).s w hc hf)
  have K7:=Lib.hid (fun w hc hf=>show Calls Tryz.prog 53 #[.pointer (some ⟨c,0,none⟩),.agg #[.int .i64 ((sh3 p r e).s).lo,.int .i64 ((sh3 p r e).s).hi],.agg #[.int .i64 ((sh6 p r up e).s).lo,.int .i64 ((sh6 p r up e).s).hi]] w (RetC c (.agg #[.int .i64 ((sh7 p r up e).s).lo,.int .i64 ((sh7 p r up e).s).hi]) (sh7 p r up e).e w) from zaP c (sh6 p r up e).e (sh3 p r e).s (sh6 p r up e).s w hc hf)
  have K8:=Lib.hid (fun w hc hf=>show Calls Tryz.prog 55 #[.pointer (some ⟨c,0,none⟩),.agg #[.int .i64 ((zaI 1)).lo,.int .i64 ((zaI 1)).hi],.agg #[.int .i64 ((sh7 p r up e).s).lo,.int .i64 ((sh7 p r up e).s).hi]] w (RetC c (.agg #[.int .i64 ((sh8 p r up e).s).lo,.int .i64 ((sh8 p r up e).s).hi]) (sh8 p r up e).e w) from zbV c (sh7 p r up e).e (zaI 1) (sh7 p r up e).s w hc hf)
  have K9:=Lib.hid (fun w hc hf=>show Calls Tryz.prog 52 #[.pointer (some ⟨c,0,none⟩),.agg #[.int .i64 ((zaI 3)).lo,.int .i64 ((zaI 3)).hi],.agg #[.int .i64 ((sh5 p r up e).s).lo,.int .i64 ((sh5 p r up e).s).hi]] w (RetC c (.agg #[.int .i64 ((sh9 p r up e).s).lo,.int .i64 ((sh9 p r up e).s).hi]) (sh9 p r up e).e w) from zca c (sh8 p r up e).e (zaI 3) (sh5 p r up e).s w hc hf)
  have K10:=Lib.hid (fun w hc hf=>show Calls Tryz.prog 53 #[.pointer (some ⟨c,0,none⟩),.agg #[.int .i64 ((sh3 p r e).s).lo,.int .i64 ((sh3 p r e).s).hi],.agg #[.int .i64 ((sh9 p r up e).s).lo,.int .i64 ((sh9 p r up e).s).hi]] w (RetC c (.agg #[.int .i64 ((sh10 p r up e).s).lo,.int .i64 ((sh10 p r up e).s).hi]) (sh10 p r up e).e w) from zaP c (sh9 p r up e).e (sh3 p r e).s (sh9 p r up e).s w hc hf)
  have K11:=Lib.hid (fun w hc hf=>show Calls Tryz.prog 55 #[.pointer (some ⟨c,0,none⟩),.agg #[.int .i64 ((zaI 1)).lo,.int .i64 ((zaI 1)).hi],.agg #[.int .i64 ((sh10 p r up e).s).lo,.int .i64 ((sh10 p r up e).s).hi]] w (RetC c (.agg #[.int .i64 ((sh11 p r up e).s).lo,.int .i64 ((sh11 p r up e).s).hi]) (sh11 p r up e).e w) from zbV c (sh10 p r up e).e (zaI 1) (sh10 p r up e).s w hc hf)
  clear s1 s2 s3 s4 s5 s6 s7 s9 s10
  clear hz
  generalize zcB p r up e=R at *
  generalize zaI 1=W1 at *
  generalize zaI 3=W3 at *
  generalize sh1 p r e=r1 at *
  generalize sh2 p r e=r2 at *
  generalize sh3 p r e=r3 at *
  generalize sh4 p r up e=r4 at *
  generalize sh5 p r up e=r5 at *
  generalize sh6 p r up e=r6 at *
  generalize sh7 p r up e=r7 at *
  generalize sh8 p r up e=r8 at *
  generalize sh9 p r up e=r9 at *
  generalize sh10 p r up e=r10 at *
  generalize sh11 p r up e=r11 at *
  go_enter Tryz.func113,Tryz.ntmps113
  go_wp2_with (first|(go_at_call 117;(with_reducible refine zaa (KW1.out _) ?_);intro u)|(go_at_call 111;(with_reducible refine zaa (HZ.out _) ?_);intro u)|((with_reducible refine zab ?_ ?_ ?_);(· kernel_rfl);(· kernel_rfl);(try simp only[List.append_eq,List.cons_append,List.nil_append]);(repeat (go_big_quiet_step ((first|(go_at_call 117;(with_reducible exact zac (KW1.out _)))|(go_at_call 111;(with_reducible exact zac (HZ.out _)))))));refine wpQuiet_nil ?_;rintro _ ⟨u,rfl⟩))
  refine zaf c [e,r1.e,r2.e,r3.e] 12 [11] [8,9,10] [] (fun W0=>[(11,BoxR W0 [.int .i64 0,.int .i64 0])]) [.agg #[.int .i64 r1.s.lo,.int .i64 r1.s.hi],.agg #[.int .i64 r2.s.lo,.int .i64 r2.s.hi],.agg #[.int .i64 r3.s.lo,.int .i64 r3.s.hi]] [12] (by rfl) (by go_simp) (by go_simp) (by intro W0 hW0 x hx;simp only[List.mem_cons,List.not_mem_nil,or_false] at hx;rcases hx with rfl<;>first|exact zbc _ _ hW0 _) (by kernel_rfl) (by kernel_rfl) (by kernel_rfl) ?_
  intro pz hd0
  apply Exists.intro
  apply And.intro
  iterate 8 (apply zae hd0 (by kernel_rfl);(· intro uz xc;unfold zai;go_simp;rfl))
  apply zad hd0 0 (by kernel_rfl) (by rfl) (by decide)
  ·intro uz hfz hF;clear hF;unfold zah;go_simp;exact K1.out _ (by go_simp) hfz
  apply zad hd0 1 (by kernel_rfl) (by rfl) (by decide)
  ·intro uz hfz hF;clear hF;unfold zah;go_simp;exact K2.out _ (by go_simp) hfz
  apply zad hd0 2 (by kernel_rfl) (by rfl) (by decide)
  ·intro uz hfz hF;clear hF;unfold zah;go_simp;exact K3.out _ (by go_simp) hfz
  apply zbd hd0 (by kernel_rfl)
  ·intro uz xc hF;clear hF;unfold za5;go_simp;refine (show Made (BoxR _ [.int .i64 0,.int .i64 0]) _ _ _ from ?_);exact zbe _ _ _ _
  apply zax
  rotate_left
  ·rfl
  intro uz hR hD hfz
  obtain ⟨q11,e11,hB11,kB11,nB11⟩:=(show BoxR _ [.int .i64 0,.int .i64 0] (pz 11) _ from hR 11 (by decide))
  clear hR hD
  rw[e11]
  clear e11
  have oB11:=zaG nB11
  have oC11:=zaH nB11
  have hB11:=zbq hB11 hd0 nB11
  have kB11:=za0 kB11
  have hB11_0:=(hB11 0 _ rfl).1
  have hB11f0:=(hB11 0 _ rfl).2
  have hB11i0:HasCell (uz.world) (q11) 0:=⟨_,hB11_0⟩
  have hB11_1:=(hB11 1 _ rfl).1
  have hB11f1:=(hB11 1 _ rfl).2
  have hB11i1:HasCell (uz.world) (q11) 1:=⟨_,hB11_1⟩
  have hB11b:BlockIn (uz.world) (q11):=BlockIn.of_cell hB11_0
  clear hB11
  refine zag (by rfl) ?_;unfold zap;go_simp
  refine zao ?_
  have nw11:NewFor w q11:=zcG nB11
  go_wp2_with (first|(go_at_call 114;(with_reducible refine zar (K4.out _ ?_ ?_) ?_);(· go_simp);(· go_simp);intro u4)|(go_at_call 115;(with_reducible refine zar (K5.out _ ?_ ?_) ?_);(· go_simp);(· go_simp);intro u5))
  refine zaf c [r5.e,r6.e,r7.e,r8.e] 11 [10] [7,8,9] [] (fun W0=>[(10,BoxR W0 [.int .i64 0,.int .i64 0])]) [.agg #[.int .i64 r6.s.lo,.int .i64 r6.s.hi],.agg #[.int .i64 r7.s.lo,.int .i64 r7.s.hi],.agg #[.int .i64 r8.s.lo,.int .i64 r8.s.hi]] [11] (by rfl) (by go_simp) (by go_simp) (by intro W0 hW0 x hx;simp only[List.mem_cons,List.not_mem_nil,or_false] at hx;rcases hx with rfl<;>first|exact zbc _ _ hW0 _) (by kernel_rfl) (by kernel_rfl) (by kernel_rfl) ?_
  intro pz hd0
  apply Exists.intro
  apply And.intro
  iterate 7 (apply zae hd0 (by kernel_rfl);(· intro uz xc;unfold zai;go_simp;rfl))
  apply zad hd0 0 (by kernel_rfl) (by rfl) (by decide)
  ·intro uz hfz hF;clear hF;unfold zah;go_simp;exact K6.out _ (by go_simp) hfz
  apply zad hd0 1 (by kernel_rfl) (by rfl) (by decide)
  ·intro uz hfz hF;clear hF;unfold zah;go_simp;exact K7.out _ (by go_simp) hfz
  apply zad hd0 2 (by kernel_rfl) (by rfl) (by decide)
  ·intro uz hfz hF;clear hF;unfold zah;go_simp;exact K8.out _ (by go_simp) hfz
  apply zbd hd0 (by kernel_rfl)
  ·intro uz xc hF;clear hF;unfold za5;go_simp;refine (show Made (BoxR _ [.int .i64 0,.int .i64 0]) _ _ _ from ?_);exact zbe _ _ _ _
  apply zax
  rotate_left
  ·rfl
  intro uz hR hD hfz
  obtain ⟨q10,e10,hB10,kB10,nB10⟩:=(show BoxR _ [.int .i64 0,.int .i64 0] (pz 10) _ from hR 10 (by decide))
  clear hR hD
  rw[e10]
  clear e10
  have oB10:=zaG nB10
  have oC10:=zaH nB10
  have hB10:=zbq hB10 hd0 nB10
  have kB10:=za0 kB10
  have hB10_0:=(hB10 0 _ rfl).1
  have hB10f0:=(hB10 0 _ rfl).2
  have hB10i0:HasCell (uz.world) (q10) 0:=⟨_,hB10_0⟩
  have hB10_1:=(hB10 1 _ rfl).1
  have hB10f1:=(hB10 1 _ rfl).2
  have hB10i1:HasCell (uz.world) (q10) 1:=⟨_,hB10_1⟩
  have hB10b:BlockIn (uz.world) (q10):=BlockIn.of_cell hB10_0
  clear hB10
  refine zag (by rfl) ?_;unfold zap;go_simp
  refine zao ?_
  have nw10:NewFor w q10:=zcG nB10
  go_wp2
  refine zaf c [r8.e,r8.e,r9.e,r10.e,r11.e] 11 [10] [5,7,8,9] [] (fun W0=>[(10,BoxR W0 [.int .i64 0,.int .i64 0])]) [.agg #[.int .i64 W3.lo,.int .i64 W3.hi],.agg #[.int .i64 r9.s.lo,.int .i64 r9.s.hi],.agg #[.int .i64 r10.s.lo,.int .i64 r10.s.hi],.agg #[.int .i64 r11.s.lo,.int .i64 r11.s.hi]] [11] (by rfl) (by go_simp) (by go_simp) (by intro W0 hW0 x hx;simp only[List.mem_cons,List.not_mem_nil,or_false] at hx;rcases hx with rfl<;>first|exact zbc _ _ hW0 _) (by kernel_rfl) (by kernel_rfl) (by kernel_rfl) ?_
  intro pz hd0
  apply Exists.intro
  apply And.intro
  iterate 5 (apply zae hd0 (by kernel_rfl);(· intro uz xc;unfold zai;go_simp;rfl))
  apply zad hd0 0 (by kernel_rfl) (by rfl) (by decide)
  ·intro uz hfz hF;clear hF;unfold zah;go_simp;exact zef (KW3.out _) (by go_simp)
  apply zae hd0 (by kernel_rfl)
  ·intro uz xc;unfold zai;go_simp;rfl
  apply zad hd0 1 (by kernel_rfl) (by rfl) (by decide)
  ·intro uz hfz hF;clear hF;unfold zah;go_simp;exact K9.out _ (by go_simp) hfz
  apply zad hd0 2 (by kernel_rfl) (by rfl) (by decide)
  ·intro uz hfz hF;clear hF;unfold zah;go_simp;exact K10.out _ (by go_simp) hfz
  apply zad hd0 3 (by kernel_rfl) (by rfl) (by decide)
  ·intro uz hfz hF;clear hF;unfold zah;go_simp;exact K11.out _ (by go_simp) hfz
  apply zbd hd0 (by kernel_rfl)
  ·intro uz xc hF;clear hF;unfold za5;go_simp;refine (show Made (BoxR _ [.int .i64 0,.int .i64 0]) _ _ _ from ?_);exact zbe _ _ _ _
  apply zax
  rotate_left
  ·rfl
  intro uz hR hD hfz
  obtain ⟨q10,e10,hB10,kB10,nB10⟩:=(show BoxR _ [.int .i64 0,.int .i64 0] (pz 10) _ from hR 10 (by decide))
  clear hR hD
  rw[e10]
  clear e10
  have oB10:=zaG nB10
  have oC10:=zaH nB10
  have hB10:=zbq hB10 hd0 nB10
  have kB10:=za0 kB10
  have hB10_0:=(hB10 0 _ rfl).1
  have hB10f0:=(hB10 0 _ rfl).2
  have hB10i0:HasCell (uz.world) (q10) 0:=⟨_,hB10_0⟩
  have hB10_1:=(hB10 1 _ rfl).1
  have hB10f1:=(hB10 1 _ rfl).2
  have hB10i1:HasCell (uz.world) (q10) 1:=⟨_,hB10_1⟩
  have hB10b:BlockIn (uz.world) (q10):=BlockIn.of_cell hB10_0
  clear hB10
  refine zag (by rfl) ?_;unfold zap;go_simp
  refine zao ?_
  have nw12:NewFor w q10:=zcG nB10
  go_wp2
  refine bodyPost_ret (by (simp[results,Tryz.results113,go_sem]<;>rfl)) rfl ?_
  exact ⟨by rw[HR.out],But.out btw Hc.out (by rw[HR.out];go_simp)⟩
 ·have HZ:=Lib.hid (fun w'=>zaz hz (zcY p.oblate w'))
  have HR:=Lib.hid (show zcB p r up e=⟨⟨zaI 1,zaI 1,zaI 1⟩,e⟩ by unfold zcB;rw[hz];rfl)
  clear hz
  generalize zcB p r up e=R at *
  generalize zaI 1=W1 at *
  go_enter Tryz.func113,Tryz.ntmps113
  go_wp2_with (first|(go_at_call 117;(with_reducible refine zaa (KW1.out _) ?_);intro u)|(go_at_call 111;(with_reducible refine zaa (HZ.out _) ?_);intro u)|((with_reducible refine zab ?_ ?_ ?_);(· kernel_rfl);(· kernel_rfl);(try simp only[List.append_eq,List.cons_append,List.nil_append]);(repeat (go_big_quiet_step ((first|(go_at_call 117;(with_reducible exact zac (KW1.out _)))|(go_at_call 111;(with_reducible exact zac (HZ.out _)))))));refine wpQuiet_nil ?_;rintro _ ⟨u,rfl⟩))
  refine bodyPost_ret (by (simp[results,Tryz.results113,go_sem]<;>rfl)) rfl ?_
  exact ⟨by rw[HR.out],But.out btw Hc.out (by rw[HR.out];go_simp)⟩
end Go.Proofs.YtdkfkalplmgoeaaGreat
namespace Go.Proofs.YtdkfkalplmgoeaaGreat
open Go.RowKit Go.Shelf
set_option maxRecDepth 100000
set_option maxHeartbeats 16000000
theorem znu (p:Planet) (x:Arc) (place:Bx) (r:Sp) [hp:Pl64 p] [hpl:B64 place] [hr:S64 r] (c:Nat) (e:Int) (w:World) (hc:w.cell? ⟨c,0,none⟩=some (.int .i64 e)) (hf:w.frozen? ⟨c,0,none⟩=false) :
 Calls Tryz.prog 156 #[.agg #[.int .i64 p.mu.lo,.int .i64 p.mu.hi,.int .i64 p.radius.lo,.int .i64 p.radius.hi,.int .i64 p.oblate.lo,.int .i64 p.oblate.hi,.int .i64 p.spin.lo,.int .i64 p.spin.hi,.int .i64 p.pull.x.lo,.int .i64 p.pull.x.hi,.int .i64 p.pull.y.lo,.int .i64 p.pull.y.hi,.int .i64 p.pull.z.lo,.int .i64 p.pull.z.hi,.int .i64 x.time,.int .i64 x.step,.int .i64 x.thrust.lo,.int .i64 x.thrust.hi,.int .i64 x.flow.lo,.int .i64 x.flow.hi,.int .i64 x.dir.x.lo,.int .i64 x.dir.x.hi,.int .i64 x.dir.y.lo,.int .i64 x.dir.y.hi,.int .i64 x.dir.z.lo,.int .i64 x.dir.z.hi,.slice x.drag.ao x.drag.n x.drag.cap,.int .i64 x.drop.lo,.int .i64 x.drop.hi],.pointer (some ⟨c,0,none⟩),.agg #[.int .i64 place.x.lo,.int .i64 place.x.hi,.int .i64 place.y.lo,.int .i64 place.y.hi,.int .i64 place.z.lo,.int .i64 place.z.hi],.agg #[.int .i64 r.lo,.int .i64 r.hi]] w (RetC c (.agg #[.int .i64 ((attR p place r e).b).x.lo,.int .i64 ((attR p place r e).b).x.hi,.int .i64 ((attR p place r e).b).y.lo,.int .i64 ((attR p place r e).b).y.hi,.int .i64 ((attR p place r e).b).z.lo,.int .i64 ((attR p place r e).b).z.hi]) (attR p place r e).e w):=by
 have ib:BlockIn w c:=BlockIn.of_cell hc
 have hci:HasCell w c 0:=⟨_,hc⟩
 have Hb:=Lib.hid (But.refl hc)
 have Hc:=Lib.hid hc
 have KW1:=Lib.hid zkI
 have KW3:=Lib.hid zi8
 have a1:B64 (atU place r e).b:=zbK _ _ _ _
 have a3:S64 (atT p place r e).s:=zam _ _
 have a2:S64 (atS p place r e).s:=zam _ _
 have a4:B64 (atN p place r e).b:=zjB _ _ _ _
 have a5:B64 (atM p place r e).b:=zbK _ _ _ _
 have J1:=Lib.hid (fun w hc hf=>show Calls Tryz.prog 155 #[.pointer (some ⟨c,0,none⟩),.func (.func 104) #[.pointer (some ⟨c,0,none⟩)] #[],.agg #[.int .i64 place.x.lo,.int .i64 place.x.hi,.int .i64 place.y.lo,.int .i64 place.y.hi,.int .i64 place.z.lo,.int .i64 place.z.hi],.agg #[.int .i64 r.lo,.int .i64 r.hi,.int .i64 r.lo,.int .i64 r.hi,.int .i64 r.lo,.int .i64 r.hi]] w (RetC c (.agg #[.int .i64 ((atU place r e).b).x.lo,.int .i64 ((atU place r e).b).x.hi,.int .i64 ((atU place r e).b).y.lo,.int .i64 ((atU place r e).b).y.hi,.int .i64 ((atU place r e).b).z.lo,.int .i64 ((atU place r e).b).z.hi]) (atU place r e).e w) from zcW 104 divR (enters_of Tryz.func104 (by kernel_rfl) rfl) zr3 c e place (ones r) (ha:=inferInstance) (hb:=⟨hr,hr,hr⟩) w hc hf)
 have J2:=Lib.hid (fun w hc hf=>show Calls Tryz.prog 104 #[.pointer (some ⟨c,0,none⟩),.agg #[.int .i64 p.mu.lo,.int .i64 p.mu.hi],.agg #[.int .i64 r.lo,.int .i64 r.hi]] w (RetC c (.agg #[.int .i64 ((atS p place r e).s).lo,.int .i64 ((atS p place r e).s).hi]) (atS p place r e).e w) from zeE c (atU place r e).e p.mu r w hc hf)
 have J3:=Lib.hid (fun w hc hf=>show Calls Tryz.prog 104 #[.pointer (some ⟨c,0,none⟩),.agg #[.int .i64 ((atS p place r e).s).lo,.int .i64 ((atS p place r e).s).hi],.agg #[.int .i64 r.lo,.int .i64 r.hi]] w (RetC c (.agg #[.int .i64 ((atT p place r e).s).lo,.int .i64 ((atT p place r e).s).hi]) (atT p place r e).e w) from zeE c (atS p place r e).e (atS p place r e).s r w hc hf)
 have J4:=Lib.hid (fun w hc hf=>show Calls Tryz.prog 159 #[.pointer (some ⟨c,0,none⟩),.func (.func 100) #[.pointer (some ⟨c,0,none⟩)] #[],.agg #[.int .i64 ((atT p place r e).s).lo,.int .i64 ((atT p place r e).s).hi],.agg #[.int .i64 ((atU place r e).b).x.lo,.int .i64 ((atU place r e).b).x.hi,.int .i64 ((atU place r e).b).y.lo,.int .i64 ((atU place r e).b).y.hi,.int .i64 ((atU place r e).b).z.lo,.int .i64 ((atU place r e).b).z.hi]] w (RetC c (.agg #[.int .i64 ((atM p place r e).b).x.lo,.int .i64 ((atM p place r e).b).x.hi,.int .i64 ((atM p place r e).b).y.lo,.int .i64 ((atM p place r e).b).y.hi,.int .i64 ((atM p place r e).b).z.lo,.int .i64 ((atM p place r e).b).z.hi]) (atM p place r e).e w) from zf3 100 mulR (enters_of Tryz.func100 (by kernel_rfl) rfl) zgO c (atN p place r e).e (atT p place r e).s (atU place r e).b w hc hf)
 have J5:=Lib.hid (fun w hc hf=>show Calls Tryz.prog 155 #[.pointer (some ⟨c,0,none⟩),.func (.func 100) #[.pointer (some ⟨c,0,none⟩)] #[],.agg #[.int .i64 ((atM p place r e).b).x.lo,.int .i64 ((atM p place r e).b).x.hi,.int .i64 ((atM p place r e).b).y.lo,.int .i64 ((atM p place r e).b).y.hi,.int .i64 ((atM p place r e).b).z.lo,.int .i64 ((atM p place r e).b).z.hi],.agg #[.int .i64 ((atN p place r e).b).x.lo,.int .i64 ((atN p place r e).b).x.hi,.int .i64 ((atN p place r e).b).y.lo,.int .i64 ((atN p place r e).b).y.hi,.int .i64 ((atN p place r e).b).z.lo,.int .i64 ((atN p place r e).b).z.hi]] w (RetC c (.agg #[.int .i64 ((attR p place r e).b).x.lo,.int .i64 ((attR p place r e).b).x.hi,.int .i64 ((attR p place r e).b).y.lo,.int .i64 ((attR p place r e).b).y.hi,.int .i64 ((attR p place r e).b).z.lo,.int .i64 ((attR p place r e).b).z.hi]) (attR p place r e).e w) from zcW 100 mulR (enters_of Tryz.func100 (by kernel_rfl) rfl) zgO c (atM p place r e).e (atM p place r e).b (atN p place r e).b w hc hf)
 clear a2 a5
 cases hz:zbv p.oblate
 ·have HZ:=Lib.hid (fun w'=>zaz hz (zer p.oblate w'))
  have su:S64 (atU place r e).b.z:=a1.z
  have HN:=Lib.hid (show atN p place r e=⟨⟨(sh8 p r (atU place r e).b.z (atT p place r e).e).s,(sh8 p r (atU place r e).b.z (atT p place r e).e).s,(sh11 p r (atU place r e).b.z (atT p place r e).e).s⟩,(sh11 p r (atU place r e).b.z (atT p place r e).e).e⟩ by unfold atN zcB;rw[hz];rfl)
  rw[HN.out] at J4 J5
  clear HN
  generalize atM p place r e=M at *
  generalize attR p place r e=R at *
  generalize atS p place r e=S at *
  generalize atT p place r e=T at *
  generalize atU place r e=U at *
  clear hz a4
  generalize U.b.z=up at *
  generalize T.e=e at *
  have s1:S64 (sh1 p r e).s:=zam _ _
  have s2:S64 (sh2 p r e).s:=zam _ _
  have s3:S64 (sh3 p r e).s:=zam _ _
  have s4:S64 (sh4 p r up e).s:=zam _ _
  have s5:S64 (sh5 p r up e).s:=zam _ _
  have s6:S64 (sh6 p r up e).s:=zam _ _
  have s7:S64 (sh7 p r up e).s:=zam _ _
  have s9:S64 (sh9 p r up e).s:=zam _ _
  have s10:S64 (sh10 p r up e).s:=zam _ _
  have K1:=Lib.hid (fun w hc hf=>show Calls Tryz.prog 104 #[.pointer (some ⟨c,0,none⟩),.agg #[.int .i64 p.radius.lo,.int .i64 p.radius.hi],.agg #[.int .i64 r.lo,.int .i64 r.hi]] w (RetC c (.agg #[.int .i64 ((sh1 p r e).s).lo,.int .i64 ((sh1 p r e).s).hi]) (sh1 p r e).e w) from zeE c e p.radius r w hc hf)
  have K2:=Lib.hid (fun w hc hf=>show Calls Tryz.prog 157 #[.pointer (some ⟨c,0,none⟩),.agg #[.int .i64 ((sh1 p r e).s).lo,.int .i64 ((sh1 p r e).s).hi]] w (RetC c (.agg #[.int .i64 ((sh2 p r e).s).lo,.int .i64 ((sh2 p r e).s).hi]) (sh2 p r e).e w) from zfS c (sh1 p r e).e (sh1 p r e).s w hc hf)
  have K3:=Lib.hid (fun w hc hf=>show Calls Tryz.prog 100 #[.pointer (some ⟨c,0,none⟩),.agg #[.int .i64 p.oblate.lo,.int .i64 p.oblate.hi],.agg #[.int .i64 ((sh2 p r e).s).lo,.int .i64 ((sh2 p r e).s).hi]] w (RetC c (.agg #[.int .i64 ((sh3 p r e).s).lo,.int .i64 ((sh3 p r e).s).hi]) (sh3 p r e).e w) from zb1 c (sh2 p r e).e p.oblate (sh2 p r e).s w hc hf)
  have K4:=Lib.hid (fun w hc hf=>show Calls Tryz.prog 157 #[.pointer (some ⟨c,0,none⟩),.agg #[.int .i64 up.lo,.int .i64 up.hi]] w (RetC c (.agg #[.int .i64 ((sh4 p r up e).s).lo,.int .i64 ((sh4 p r up e).s).hi]) (sh4 p r up e).e w) from zfS c (sh3 p r e).e up w hc hf)
  have K5:=Lib.hid (fun w hc hf=>show Calls Tryz.prog 158 #[.pointer (some ⟨c,0,none⟩),.agg #[.int .i64 ((sh4 p r up e).s).lo,.int .i64 ((sh4 p r up e).s).hi],.int .i64 5] w (RetC c (.agg #[.int .i64 ((sh5 p r up e).s).lo,.int .i64 ((sh5 p r up e).s).hi]) (sh5 p r up e).e w) from zgD c (sh4 p r up e).e (sh4 p r up e).s 5 w hc hf)
  have K6:=Lib.hid (fun w hc hf=>show Calls Tryz.prog 99 #[.pointer (some ⟨c,0,none⟩),.agg #[.int .i64 ((zaI 1)).lo,.int .i64 ((zaI 1)).hi],.agg #[.int .i64 ((sh5 p r up e).s).lo,.int .i64 ((sh5 p r up e).s).hi]] w (RetC c (.agg #[.int .i64 ((sh6 p r up e).s).lo,.int .i64 ((sh6 p r up e).s).hi]) (sh6 p r up e).e w) from zeF c (sh5 p r up e).e (zaI 1) (sh5 p r up e).s w hc hf)
  have K7:=Lib.hid (fun w hc hf=>show Calls Tryz.prog 100 #[.pointer (some ⟨c,0,none⟩),.agg #[.int .i64 ((sh3 p r e).s).lo,.int .i64 ((sh3 p r e).s).hi],.agg #[.int .i64 ((sh6 p r up e).s).lo,.int .i64 ((sh6 p r up e).s).hi]] w (RetC c (.agg #[.int .i64 ((sh7 p r up e).s).lo,.int .i64 ((sh7 p r up e).s).hi]) (sh7 p r up e).e w) from zb1 c (sh6 p r up e).e (sh3 p r e).s (sh6 p r up e).s w hc hf)
  have K8:=Lib.hid (fun w hc hf=>show Calls Tryz.prog 97 #[.pointer (some ⟨c,0,none⟩),.agg #[.int .i64 ((zaI 1)).lo,.int .i64 ((zaI 1)).hi],.agg #[.int .i64 ((sh7 p r up e).s).lo,.int .i64 ((sh7 p r up e).s).hi]] w (RetC c (.agg #[.int .i64 ((sh8 p r up e).s).lo,.int .i64 ((sh8 p r up e).s).hi]) (sh8 p r up e).e w) from zdi c (sh7 p r up e).e (zaI 1) (sh7 p r up e).s w hc hf)
  have K9:=Lib.hid (fun w hc hf=>show Calls Tryz.prog 99 #[.pointer (some ⟨c,0,none⟩),.agg #[.int .i64 ((zaI 3)).lo,.int .i64 ((zaI 3)).hi],.agg #[.int .i64 ((sh5 p r up e).s).lo,.int .i64 ((sh5 p r up e).s).hi]] w (RetC c (.agg #[.int .i64 ((sh9 p r up e).s).lo,.int .i64 ((sh9 p r up e).s).hi]) (sh9 p r up e).e w) from zeF c (sh8 p r up e).e (zaI 3) (sh5 p r up e).s w hc hf)
  have K10:=Lib.hid (fun w hc hf=>show Calls Tryz.prog 100 #[.pointer (some ⟨c,0,none⟩),.agg #[.int .i64 ((sh3 p r e).s).lo,.int .i64 ((sh3 p r e).s).hi],.agg #[.int .i64 ((sh9 p r up e).s).lo,.int .i64 ((sh9 p r up e).s).hi]] w (RetC c (.agg #[.int .i64 ((sh10 p r up e).s).lo,.int .i64 ((sh10 p r up e).s).hi]) (sh10 p r up e).e w) from zb1 c (sh9 p r up e).e (sh3 p r e).s (sh9 p r up e).s w hc hf)
  have K11:=Lib.hid (fun w hc hf=>show Calls Tryz.prog 97 #[.pointer (some ⟨c,0,none⟩),.agg #[.int .i64 ((zaI 1)).lo,.int .i64 ((zaI 1)).hi],.agg #[.int .i64 ((sh10 p r up e).s).lo,.int .i64 ((sh10 p r up e).s).hi]] w (RetC c (.agg #[.int .i64 ((sh11 p r up e).s).lo,.int .i64 ((sh11 p r up e).s).hi]) (sh11 p r up e).e w) from zdi c (sh10 p r up e).e (zaI 1) (sh10 p r up e).s w hc hf)
  clear s1 s2 s3 s4 s5 s6 s7 s9 s10
  generalize sh1 p r e=r1 at *
  generalize sh2 p r e=r2 at *
  generalize sh3 p r e=r3 at *
  generalize sh4 p r up e=r4 at *
  generalize sh5 p r up e=r5 at *
  generalize sh6 p r up e=r6 at *
  generalize sh7 p r up e=r7 at *
  generalize sh8 p r up e=r8 at *
  generalize sh9 p r up e=r9 at *
  generalize sh10 p r up e=r10 at *
  generalize sh11 p r up e=r11 at *
  generalize zaI 1=W1 at *
  generalize zaI 3=W3 at *
  go_enter Tryz.func156,Tryz.ntmps156
  go_wp2_with (first|(go_at_call 155;(with_reducible refine zar (J1.out _ ?_ ?_) ?_);(· go_simp);(· go_simp);intro u1)|(go_at_call 105;(with_reducible refine zaa (KW1.out _) ?_);intro u2)|(go_at_call 153;(with_reducible refine zaa (HZ.out _) ?_);intro u3))
  refine zaf c [U.e,S.e,e] 10 [9] [6,8] [] (fun W0=>[(9,BoxR W0 [.int .i64 0,.int .i64 0])]) [.agg #[.int .i64 S.s.lo,.int .i64 S.s.hi],.agg #[.int .i64 T.s.lo,.int .i64 T.s.hi]] [10] (by rfl) (by go_simp) (by go_simp) (by intro W0 hW0 x hx;simp only[List.mem_cons,List.not_mem_nil,or_false] at hx;rcases hx with rfl<;>first|exact zbc _ _ hW0 _) (by kernel_rfl) (by kernel_rfl) (by kernel_rfl) ?_
  intro pz hd0
  apply Exists.intro
  apply And.intro
  iterate 6 (apply zae hd0 (by kernel_rfl);(· intro uz xc;unfold zai;go_simp;rfl))
  apply zad hd0 0 (by kernel_rfl) (by rfl) (by decide)
  ·intro uz hfz hF;clear hF;unfold zah;go_simp;exact J2.out _ (by go_simp) hfz
  apply zae hd0 (by kernel_rfl)
  ·intro uz xc;unfold zai;go_simp;rfl
  apply zad hd0 1 (by kernel_rfl) (by rfl) (by decide)
  ·intro uz hfz hF;clear hF;unfold zah;go_simp;exact J3.out _ (by go_simp) hfz
  apply zbd hd0 (by kernel_rfl)
  ·intro uz xc hF;clear hF;unfold za5;go_simp;refine (show Made (BoxR _ [.int .i64 0,.int .i64 0]) _ _ _ from ?_);exact zbe _ _ _ _
  apply zax
  rotate_left
  ·rfl
  intro uz hR hD hfz
  obtain ⟨q9,e9,hB9,kB9,nB9⟩:=(show BoxR _ [.int .i64 0,.int .i64 0] (pz 9) _ from hR 9 (by decide))
  clear hR hD
  rw[e9]
  clear e9
  have oB9:=zaG nB9
  have oC9:=zaH nB9
  have hB9:=zbq hB9 hd0 nB9
  have kB9:=za0 kB9
  have hB9_0:=(hB9 0 _ rfl).1
  have hB9f0:=(hB9 0 _ rfl).2
  have hB9i0:HasCell (uz.world) (q9) 0:=⟨_,hB9_0⟩
  have hB9_1:=(hB9 1 _ rfl).1
  have hB9f1:=(hB9 1 _ rfl).2
  have hB9i1:HasCell (uz.world) (q9) 1:=⟨_,hB9_1⟩
  have hB9b:BlockIn (uz.world) (q9):=BlockIn.of_cell hB9_0
  clear hB9
  refine zag (by rfl) ?_;unfold zap;go_simp
  refine zao ?_
  have nw9:NewFor w q9:=zcG nB9
  go_wp2_with (first|(go_at_call 105;(with_reducible refine zaa (KW1.out _) ?_);intro u2)|(go_at_call 153;(with_reducible refine zaa (HZ.out _) ?_);intro u3))
  refine zaf c [e,r1.e,r2.e,r3.e] 14 [13] [10,11,12] [] (fun W0=>[(13,BoxR W0 [.int .i64 0,.int .i64 0])]) [.agg #[.int .i64 r1.s.lo,.int .i64 r1.s.hi],.agg #[.int .i64 r2.s.lo,.int .i64 r2.s.hi],.agg #[.int .i64 r3.s.lo,.int .i64 r3.s.hi]] [14] (by rfl) (by go_simp) (by go_simp) (by intro W0 hW0 x hx;simp only[List.mem_cons,List.not_mem_nil,or_false] at hx;rcases hx with rfl<;>first|exact zbc _ _ hW0 _) (by kernel_rfl) (by kernel_rfl) (by kernel_rfl) ?_
  intro pz hd0
  apply Exists.intro
  apply And.intro
  iterate 10 (apply zae hd0 (by kernel_rfl);(· intro uz xc;unfold zai;go_simp;rfl))
  apply zad hd0 0 (by kernel_rfl) (by rfl) (by decide)
  ·intro uz hfz hF;clear hF;unfold zah;go_simp;exact K1.out _ (by go_simp) hfz
  apply zad hd0 1 (by kernel_rfl) (by rfl) (by decide)
  ·intro uz hfz hF;clear hF;unfold zah;go_simp;exact K2.out _ (by go_simp) hfz
  apply zad hd0 2 (by kernel_rfl) (by rfl) (by decide)
  ·intro uz hfz hF;clear hF;unfold zah;go_simp;exact K3.out _ (by go_simp) hfz
  apply zbd hd0 (by kernel_rfl)
  ·intro uz xc hF;clear hF;unfold za5;go_simp;refine (show Made (BoxR _ [.int .i64 0,.int .i64 0]) _ _ _ from ?_);exact zbe _ _ _ _
  apply zax
  rotate_left
  ·rfl
  intro uz hR hD hfz
  obtain ⟨q13,e13,hB13,kB13,nB13⟩:=(show BoxR _ [.int .i64 0,.int .i64 0] (pz 13) _ from hR 13 (by decide))
  clear hR hD
  rw[e13]
  clear e13
  have oB13:=zaG nB13
  have oC13:=zaH nB13
  have hB13:=zbq hB13 hd0 nB13
  have kB13:=za0 kB13
  have hB13_0:=(hB13 0 _ rfl).1
  have hB13f0:=(hB13 0 _ rfl).2
  have hB13i0:HasCell (uz.world) (q13) 0:=⟨_,hB13_0⟩
  have hB13_1:=(hB13 1 _ rfl).1
  have hB13f1:=(hB13 1 _ rfl).2
  have hB13i1:HasCell (uz.world) (q13) 1:=⟨_,hB13_1⟩
  have hB13b:BlockIn (uz.world) (q13):=BlockIn.of_cell hB13_0
  clear hB13
  refine zag (by rfl) ?_;unfold zap;go_simp
  refine zao ?_
  have nw13:NewFor w q13:=zcG nB13
  go_wp2_with (first|(go_at_call 157;(with_reducible refine zar (K4.out _ ?_ ?_) ?_);(· go_simp);(· go_simp);intro u4)|(go_at_call 158;(with_reducible refine zar (K5.out _ ?_ ?_) ?_);(· go_simp);(· go_simp);intro u5))
  refine zaf c [r5.e,r6.e,r7.e,r8.e] 11 [10] [7,8,9] [] (fun W0=>[(10,BoxR W0 [.int .i64 0,.int .i64 0])]) [.agg #[.int .i64 r6.s.lo,.int .i64 r6.s.hi],.agg #[.int .i64 r7.s.lo,.int .i64 r7.s.hi],.agg #[.int .i64 r8.s.lo,.int .i64 r8.s.hi]] [11] (by rfl) (by go_simp) (by go_simp) (by intro W0 hW0 x hx;simp only[List.mem_cons,List.not_mem_nil,or_false] at hx;rcases hx with rfl<;>first|exact zbc _ _ hW0 _) (by kernel_rfl) (by kernel_rfl) (by kernel_rfl) ?_
  intro pz hd0
  apply Exists.intro
  apply And.intro
  iterate 7 (apply zae hd0 (by kernel_rfl);(· intro uz xc;unfold zai;go_simp;rfl))
  apply zad hd0 0 (by kernel_rfl) (by rfl) (by decide)
  ·intro uz hfz hF;clear hF;unfold zah;go_simp;exact K6.out _ (by go_simp) hfz
  apply zad hd0 1 (by kernel_rfl) (by rfl) (by decide)
  ·intro uz hfz hF;clear hF;unfold zah;go_simp;exact K7.out _ (by go_simp) hfz
  apply zad hd0 2 (by kernel_rfl) (by rfl) (by decide)
  ·intro uz hfz hF;clear hF;unfold zah;go_simp;exact K8.out _ (by go_simp) hfz
  apply zbd hd0 (by kernel_rfl)
  ·intro uz xc hF;clear hF;unfold za5;go_simp;refine (show Made (BoxR _ [.int .i64 0,.int .i64 0]) _ _ _ from ?_);exact zbe _ _ _ _
  apply zax
  rotate_left
  ·rfl
  intro uz hR hD hfz
  obtain ⟨q10,e10,hB10,kB10,nB10⟩:=(show BoxR _ [.int .i64 0,.int .i64 0] (pz 10) _ from hR 10 (by decide))
  clear hR hD
  rw[e10]
  clear e10
  have oB10:=zaG nB10
  have oC10:=zaH nB10
  have hB10:=zbq hB10 hd0 nB10
  have kB10:=za0 kB10
  have hB10_0:=(hB10 0 _ rfl).1
  have hB10f0:=(hB10 0 _ rfl).2
  have hB10i0:HasCell (uz.world) (q10) 0:=⟨_,hB10_0⟩
  have hB10_1:=(hB10 1 _ rfl).1
  have hB10f1:=(hB10 1 _ rfl).2
  have hB10i1:HasCell (uz.world) (q10) 1:=⟨_,hB10_1⟩
  have hB10b:BlockIn (uz.world) (q10):=BlockIn.of_cell hB10_0
  clear hB10
  refine zag (by rfl) ?_;unfold zap;go_simp
  refine zao ?_
  have nw10:NewFor w q10:=zcG nB10
  go_wp2
  refine zaf c [r8.e,r8.e,r9.e,r10.e,r11.e] 13 [] [7,9,10,11] [] (fun W0=>[]) [.agg #[.int .i64 W3.lo,.int .i64 W3.hi],.agg #[.int .i64 r9.s.lo,.int .i64 r9.s.hi],.agg #[.int .i64 r10.s.lo,.int .i64 r10.s.hi],.agg #[.int .i64 r11.s.lo,.int .i64 r11.s.hi]] [13] (by rfl) (by go_simp) (by go_simp) (fun _ _ x hx=>absurd hx (List.not_mem_nil)) (by kernel_rfl) (by kernel_rfl) (by kernel_rfl) ?_
  intro pz hd0
  apply Exists.intro
  apply And.intro
  iterate 7 (apply zae hd0 (by kernel_rfl);(· intro uz xc;unfold zai;go_simp;rfl))
  apply zad hd0 0 (by kernel_rfl) (by rfl) (by decide)
  ·intro uz hfz hF;clear hF;unfold zah;go_simp;exact zef (KW3.out _) (by go_simp)
  apply zae hd0 (by kernel_rfl)
  ·intro uz xc;unfold zai;go_simp;rfl
  apply zad hd0 1 (by kernel_rfl) (by rfl) (by decide)
  ·intro uz hfz hF;clear hF;unfold zah;go_simp;exact K9.out _ (by go_simp) hfz
  apply zad hd0 2 (by kernel_rfl) (by rfl) (by decide)
  ·intro uz hfz hF;clear hF;unfold zah;go_simp;exact K10.out _ (by go_simp) hfz
  apply zad hd0 3 (by kernel_rfl) (by rfl) (by decide)
  ·intro uz hfz hF;clear hF;unfold zah;go_simp;exact K11.out _ (by go_simp) hfz
  apply zae hd0 (by kernel_rfl)
  ·intro uz xc;unfold zai;go_simp;rfl
  apply zax
  rotate_left
  ·rfl
  intro uz hR hD hfz
  clear hR hD
  refine zag (by rfl) ?_;unfold zap;go_simp
  refine zao ?_
  go_wp2
  refine zaf c [r11.e,M.e,R.e] 11 [] [8,10] [] (fun W0=>[]) [.agg #[.int .i64 M.b.x.lo,.int .i64 M.b.x.hi,.int .i64 M.b.y.lo,.int .i64 M.b.y.hi,.int .i64 M.b.z.lo,.int .i64 M.b.z.hi],.agg #[.int .i64 R.b.x.lo,.int .i64 R.b.x.hi,.int .i64 R.b.y.lo,.int .i64 R.b.y.hi,.int .i64 R.b.z.lo,.int .i64 R.b.z.hi]] [11] (by rfl) (by go_simp) (by go_simp) (fun _ _ x hx=>absurd hx (List.not_mem_nil)) (by kernel_rfl) (by kernel_rfl) (by kernel_rfl) ?_
  intro pz hd0
  apply Exists.intro
  apply And.intro
  iterate 8 (apply zae hd0 (by kernel_rfl);(· intro uz xc;unfold zai;go_simp;rfl))
  apply zad hd0 0 (by kernel_rfl) (by rfl) (by decide)
  ·intro uz hfz hF;clear hF;unfold zah;go_simp;exact J4.out _ (by go_simp) hfz
  apply zae hd0 (by kernel_rfl)
  ·intro uz xc;unfold zai;go_simp;rfl
  apply zad hd0 1 (by kernel_rfl) (by rfl) (by decide)
  ·intro uz hfz hF;clear hF;unfold zah;go_simp;exact J5.out _ (by go_simp) hfz
  apply zax
  rotate_left
  ·rfl
  intro uz hR hD hfz
  clear hR hD
  refine zag (by rfl) ?_;unfold zap;go_simp
  refine zao ?_
  go_wp2
  refine bodyPost_ret (by (simp[results,Tryz.results156,go_sem]<;>rfl)) rfl ?_
  exact ⟨rfl,But.out btw Hc.out (by go_simp)⟩
 ·have HZ:=Lib.hid (fun w'=>zaz hz (zer p.oblate w'))
  have HN:=Lib.hid (show atN p place r e=⟨⟨zaI 1,zaI 1,zaI 1⟩,(atT p place r e).e⟩ by unfold atN zcB;rw[hz];rfl)
  rw[HN.out] at J4 J5
  clear hz HN a4
  generalize atM p place r e=M at *
  generalize attR p place r e=R at *
  generalize atS p place r e=S at *
  generalize atT p place r e=T at *
  generalize atU place r e=U at *
  generalize zaI 1=W1 at *
  go_enter Tryz.func156,Tryz.ntmps156
  go_wp2_with (first|(go_at_call 155;(with_reducible refine zar (J1.out _ ?_ ?_) ?_);(· go_simp);(· go_simp);intro u1)|(go_at_call 105;(with_reducible refine zaa (KW1.out _) ?_);intro u2)|(go_at_call 153;(with_reducible refine zaa (HZ.out _) ?_);intro u3))
  refine zaf c [U.e,S.e,T.e] 10 [9] [6,8] [] (fun W0=>[(9,BoxR W0 [.int .i64 0,.int .i64 0])]) [.agg #[.int .i64 S.s.lo,.int .i64 S.s.hi],.agg #[.int .i64 T.s.lo,.int .i64 T.s.hi]] [10] (by rfl) (by go_simp) (by go_simp) (by intro W0 hW0 x hx;simp only[List.mem_cons,List.not_mem_nil,or_false] at hx;rcases hx with rfl<;>first|exact zbc _ _ hW0 _) (by kernel_rfl) (by kernel_rfl) (by kernel_rfl) ?_
  intro pz hd0
  apply Exists.intro
  apply And.intro
  iterate 6 (apply zae hd0 (by kernel_rfl);(· intro uz xc;unfold zai;go_simp;rfl))
  apply zad hd0 0 (by kernel_rfl) (by rfl) (by decide)
  ·intro uz hfz hF;clear hF;unfold zah;go_simp;exact J2.out _ (by go_simp) hfz
  apply zae hd0 (by kernel_rfl)
  ·intro uz xc;unfold zai;go_simp;rfl
  apply zad hd0 1 (by kernel_rfl) (by rfl) (by decide)
  ·intro uz hfz hF;clear hF;unfold zah;go_simp;exact J3.out _ (by go_simp) hfz
  apply zbd hd0 (by kernel_rfl)
  ·intro uz xc hF;clear hF;unfold za5;go_simp;refine (show Made (BoxR _ [.int .i64 0,.int .i64 0]) _ _ _ from ?_);exact zbe _ _ _ _
  apply zax
  rotate_left
  ·rfl
  intro uz hR hD hfz
  obtain ⟨q9,e9,hB9,kB9,nB9⟩:=(show BoxR _ [.int .i64 0,.int .i64 0] (pz 9) _ from hR 9 (by decide))
  clear hR hD
  rw[e9]
  clear e9
  have oB9:=zaG nB9
  have oC9:=zaH nB9
  have hB9:=zbq hB9 hd0 nB9
  have kB9:=za0 kB9
  have hB9_0:=(hB9 0 _ rfl).1
  have hB9f0:=(hB9 0 _ rfl).2
  have hB9i0:HasCell (uz.world) (q9) 0:=⟨_,hB9_0⟩
  have hB9_1:=(hB9 1 _ rfl).1
  have hB9f1:=(hB9 1 _ rfl).2
  have hB9i1:HasCell (uz.world) (q9) 1:=⟨_,hB9_1⟩
  have hB9b:BlockIn (uz.world) (q9):=BlockIn.of_cell hB9_0
  clear hB9
  refine zag (by rfl) ?_;unfold zap;go_simp
  refine zao ?_
  have nw9:NewFor w q9:=zcG nB9
  go_wp2_with (first|(go_at_call 105;(with_reducible refine zaa (KW1.out _) ?_);intro u2)|(go_at_call 153;(with_reducible refine zaa (HZ.out _) ?_);intro u3))
  refine zaf c [T.e,M.e,R.e] 11 [] [8,10] [] (fun W0=>[]) [.agg #[.int .i64 M.b.x.lo,.int .i64 M.b.x.hi,.int .i64 M.b.y.lo,.int .i64 M.b.y.hi,.int .i64 M.b.z.lo,.int .i64 M.b.z.hi],.agg #[.int .i64 R.b.x.lo,.int .i64 R.b.x.hi,.int .i64 R.b.y.lo,.int .i64 R.b.y.hi,.int .i64 R.b.z.lo,.int .i64 R.b.z.hi]] [11] (by rfl) (by go_simp) (by go_simp) (fun _ _ x hx=>absurd hx (List.not_mem_nil)) (by kernel_rfl) (by kernel_rfl) (by kernel_rfl) ?_
  intro pz hd0
  apply Exists.intro
  apply And.intro
  iterate 8 (apply zae hd0 (by kernel_rfl);(· intro uz xc;unfold zai;go_simp;rfl))
  apply zad hd0 0 (by kernel_rfl) (by rfl) (by decide)
  ·intro uz hfz hF;clear hF;unfold zah;go_simp;exact J4.out _ (by go_simp) hfz
  apply zae hd0 (by kernel_rfl)
  ·intro uz xc;unfold zai;go_simp;rfl
  apply zad hd0 1 (by kernel_rfl) (by rfl) (by decide)
  ·intro uz hfz hF;clear hF;unfold zah;go_simp;exact J5.out _ (by go_simp) hfz
  apply zax
  rotate_left
  ·rfl
  intro uz hR hD hfz
  clear hR hD
  refine zag (by rfl) ?_;unfold zap;go_simp
  refine zao ?_
  go_wp2
  refine bodyPost_ret (by (simp[results,Tryz.results156,go_sem]<;>rfl)) rfl ?_
  exact ⟨rfl,But.out btw Hc.out (by go_simp)⟩
end Go.Proofs.YtdkfkalplmgoeaaGreat
