/-
  Joined: SpanMul, SpanRoot.
-/
import Derived.Test.YtdkfkalplmgoeaaGreatSpanAddL
import Derived.Test.YtdkfkalplmgoeaaGreatChecksL
namespace Go.Proofs.YtdkfkalplmgoeaaGreat
open Go.RowKit
set_option maxRecDepth 100000
set_option maxHeartbeats 1000000
def Big.cells (a:Big):List Value:=[.bool a.neg,.int .u64 a.hi,.int .u64 a.lo]
def leastB:Big→List Big→Big
 |x,[]=>x
 |x,y::r=>leastB (if y.val<x.val then y else x) r
def zcW:Big→List Big→Big
 |x,[]=>x
 |x,y::r=>zcW (if x.val<y.val then y else x) r
theorem zje (x:Big) (l:List Big) (y:Big):leastB x (l++[y])=if y.val<(leastB x l).val then y else leastB x l:=by
 induction l generalizing x with
 |nil=>rfl
 |cons z l ih=>exact ih _
theorem zkO (x:Big) (l:List Big) (y:Big):zcW x (l++[y])=if (zcW x l).val<y.val then y else zcW x l:=by
 induction l generalizing x with
 |nil=>rfl
 |cons z l ih=>exact ih _
theorem zij (x:Big) (l:List Big) (hx:x.ok) (hl:∀ y∈l,y.ok):(leastB x l).ok:=by
 induction l generalizing x with
 |nil=>exact hx
 |cons z l ih=>
  refine ih _ ?_ (fun y hy=>hl y (by simp[hy]))
  split
  ·exact hl z (by simp)
  ·exact hx
theorem zj8 (x:Big) (l:List Big) (hx:x.ok) (hl:∀ y∈l,y.ok):(zcW x l).ok:=by
 induction l generalizing x with
 |nil=>exact hx
 |cons z l ih=>
  refine ih _ ?_ (fun y hy=>hl y (by simp[hy]))
  split
  ·exact hl z (by simp)
  ·exact hx
theorem zho (x:Big) (l:List Big) (hx:x.ok) (hl:∀ y∈l,y.ok) (ao:Option Addr) (cap:Nat) (hcap:l.length+1≤cap) (w:World) (h:SlAt w (.slice ao (l.length+1) cap) (l.length+1) ((x::l).flatMap Big.cells)) :
 Calls Tryz.prog 176 #[.slice ao (l.length+1:Nat) cap] w fun e w'=>e=.returned (.tuple #[.agg #[.bool (leastB x l).neg,.int .u64 (leastB x l).hi,.int .u64 (leastB x l).lo],.agg #[.bool (zcW x l).neg,.int .u64 (zcW x l).hi,.int .u64 (zcW x l).lo]])∧Grew w w':=by
 obtain ⟨ao',cap',e,hm,hc⟩:=h
 obtain ⟨rfl,-,rfl⟩:=by simpa using e
 clear e
 unfold maxLen at hm
 have Hc:=Lib.hid (SlAt.elem (f:=Big.cells) (c:=3) (l:=x::l) (fun _=>rfl) (by omega) hc)
 clear hc
 obtain ⟨b1,o1,rfl,i1,hd1,hd2⟩:=Hc.out 0 (by simp)
 have hc0:=hd1 _ rfl
 have hc1:=hd2 1 _ rfl
 have hc2:=hd2 2 _ rfl
 clear hd1 hd2
 have i1:BlockIn w b1:=⟨i1⟩
 simp only[List.getElem_cons_zero,Nat.zero_mul,Nat.add_zero] at hc0 hc1 hc2
 by_cases hne:cap=1
 ·subst hne
  have hl0:l.length≤0:=by omega
  go_enter Tryz.func176,Tryz.ntmps176
  go_wp2
  go_region
  go_wp2
  go_loopw [15] (fun t wr=>∃ k:Nat,t=.int .i64 k∧k≤l.length∧Grew w wr∧zan wr w.heap.size (leastB x (l.take k)).cells∧zan wr (w.heap.size+1) (zcW x (l.take k)).cells) (fun t _=>l.length-(intOf t).toNat)
  case atStart=>
   refine ⟨0,rfl,by omega,gw,?_,?_⟩
   ·show zan _ _ x.cells
    exact zbD (by go_simp) (by go_simp) (by go_simp) (by go_simp) (by go_simp) (by go_simp)
   ·show zan _ _ x.cells
    exact zbD (by go_simp) (by go_simp) (by go_simp) (by go_simp) (by go_simp) (by go_simp)
  case round=>
   obtain ⟨k,rfl,hk,hg,hA,hB⟩:=hrel
   obtain ⟨z,rfl⟩:=zaj hg
   clear hg
   have hA_0:=(hA 0 _ rfl).1
   have hAf0:=(hA 0 _ rfl).2
   have hAi0:HasCell (z.world) (w.heap.size) 0:=⟨_,hA_0⟩
   have hA_1:=(hA 1 _ rfl).1
   have hAf1:=(hA 1 _ rfl).2
   have hAi1:HasCell (z.world) (w.heap.size) 1:=⟨_,hA_1⟩
   have hA_2:=(hA 2 _ rfl).1
   have hAf2:=(hA 2 _ rfl).2
   have hAi2:HasCell (z.world) (w.heap.size) 2:=⟨_,hA_2⟩
   have hAb:BlockIn (z.world) (w.heap.size):=BlockIn.of_cell hA_0
   clear hA
   have hB_0:=(hB 0 _ rfl).1
   have hBf0:=(hB 0 _ rfl).2
   have hBi0:HasCell (z.world) (w.heap.size+1) 0:=⟨_,hB_0⟩
   have hB_1:=(hB 1 _ rfl).1
   have hBf1:=(hB 1 _ rfl).2
   have hBi1:HasCell (z.world) (w.heap.size+1) 1:=⟨_,hB_1⟩
   have hB_2:=(hB 2 _ rfl).1
   have hBf2:=(hB 2 _ rfl).2
   have hBi2:HasCell (z.world) (w.heap.size+1) 2:=⟨_,hB_2⟩
   have hBb:BlockIn (z.world) (w.heap.size+1):=BlockIn.of_cell hB_0
   clear hB
   by_cases hlt:k<l.length
   ·exact absurd hlt (by omega)
   ·go_wp2
    go_region
    go_wp2
    refine bodyPost_ret (by (simp[results,Tryz.results176,go_sem]<;>rfl)) rfl ?_
    rw[show l.take k=l from List.take_of_length_le (by omega)]
    exact ⟨zfL rfl rfl,gw⟩
 ·skip
  go_enter Tryz.func176,Tryz.ntmps176
  go_wp2
  go_region
  go_wp2
  go_loopw [15] (fun t wr=>∃ k:Nat,t=.int .i64 k∧k≤l.length∧Grew w wr∧zan wr w.heap.size (leastB x (l.take k)).cells∧zan wr (w.heap.size+1) (zcW x (l.take k)).cells) (fun t _=>l.length-(intOf t).toNat)
  case atStart=>
   refine ⟨0,rfl,by omega,gw,?_,?_⟩
   ·show zan _ _ x.cells
    exact zbD (by go_simp) (by go_simp) (by go_simp) (by go_simp) (by go_simp) (by go_simp)
   ·show zan _ _ x.cells
    exact zbD (by go_simp) (by go_simp) (by go_simp) (by go_simp) (by go_simp) (by go_simp)
  case round=>
   obtain ⟨k,rfl,hk,hg,hA,hB⟩:=hrel
   obtain ⟨z,rfl⟩:=zaj hg
   clear hg
   have HL:=Lib.hid (zij x (l.take k) hx (fun y hy=>hl y (List.mem_of_mem_take hy)))
   have HM:=Lib.hid (zj8 x (l.take k) hx (fun y hy=>hl y (List.mem_of_mem_take hy)))
   have hA_0:=(hA 0 _ rfl).1
   have hAf0:=(hA 0 _ rfl).2
   have hAi0:HasCell (z.world) (w.heap.size) 0:=⟨_,hA_0⟩
   have hA_1:=(hA 1 _ rfl).1
   have hAf1:=(hA 1 _ rfl).2
   have hAi1:HasCell (z.world) (w.heap.size) 1:=⟨_,hA_1⟩
   have hA_2:=(hA 2 _ rfl).1
   have hAf2:=(hA 2 _ rfl).2
   have hAi2:HasCell (z.world) (w.heap.size) 2:=⟨_,hA_2⟩
   have hAb:BlockIn (z.world) (w.heap.size):=BlockIn.of_cell hA_0
   clear hA
   have hB_0:=(hB 0 _ rfl).1
   have hBf0:=(hB 0 _ rfl).2
   have hBi0:HasCell (z.world) (w.heap.size+1) 0:=⟨_,hB_0⟩
   have hB_1:=(hB 1 _ rfl).1
   have hBf1:=(hB 1 _ rfl).2
   have hBi1:HasCell (z.world) (w.heap.size+1) 1:=⟨_,hB_1⟩
   have hB_2:=(hB 2 _ rfl).1
   have hBf2:=(hB 2 _ rfl).2
   have hBi2:HasCell (z.world) (w.heap.size+1) 2:=⟨_,hB_2⟩
   have hBb:BlockIn (z.world) (w.heap.size+1):=BlockIn.of_cell hB_0
   clear hB
   by_cases hlt:k<l.length
   ·obtain ⟨b2,o2,e2,-,hd1,hd2⟩:=Hc.out (k+1) (by simp;omega)
    cases e2
    have he0:=hd1 _ rfl
    have he1:=hd2 1 _ rfl
    have he2:=hd2 2 _ rfl
    clear hd1 hd2
    have hy:=hl l[k] (List.getElem_mem hlt)
    have Hy:=Lib.hid hy
    clear hy
    simp only[List.getElem_cons_succ,show o1+(k+1)*3=o1+3+k*3 by omega] at he0 he1 he2
    have HA2:=Lib.hid (zje x (l.take k) l[k])
    have HB2:=Lib.hid (zkO x (l.take k) l[k])
    rw[←List.take_succ_eq_append_getElem hlt] at HA2 HB2
    generalize leastB x (l.take k)=A at *
    generalize zcW x (l.take k)=B at *
    generalize l[k]=y at *
    clear hne hcap
    go_wp2_with (first|(go_at_call 198;(with_reducible refine zaa (zfj _ _ (by first|exact Hy.out|exact HL.out|exact HM.out) (by first|exact Hy.out|exact HL.out|exact HM.out) _) ?_);intro u)|((with_reducible refine zac ?_ ?_ ?_);(· kernel_rfl);(· kernel_rfl);(try simp only[List.append_eq,List.cons_append,List.nil_append]);(repeat (go_big_quiet_step ((first|(go_at_call 198;(with_reducible exact zad (zfj _ _ (by first|exact Hy.out|exact HL.out|exact HM.out) (by first|exact Hy.out|exact HL.out|exact HM.out) _)))))));refine wpQuiet_nil ?_;rintro _ ⟨u,rfl⟩))
    all_goals
     go_roundw
     case rel=>
      refine ⟨k+1,by go_num,by omega,gw,?_,?_⟩
      ·first|rw[HA2.out,if_pos (by omega)]|rw[HA2.out,if_neg (by omega)]
       exact zbD (by go_simp) (by go_simp) (by go_simp) (by go_simp) (by go_simp) (by go_simp)
      ·first|rw[HB2.out,if_pos (by omega)]|rw[HB2.out,if_neg (by omega)]
       exact zbD (by go_simp) (by go_simp) (by go_simp) (by go_simp) (by go_simp) (by go_simp)
     case measure=>simp[intOf];omega
   ·go_wp2
    go_region
    go_wp2
    refine bodyPost_ret (by (simp[results,Tryz.results176,go_sem]<;>rfl)) rfl ?_
    rw[show l.take k=l from List.take_of_length_le (by omega)]
    exact ⟨zfL rfl rfl,gw⟩
end Go.Proofs.YtdkfkalplmgoeaaGreat
namespace Go.Proofs.YtdkfkalplmgoeaaGreat
open Go.RowKit
set_option maxRecDepth 100000
set_option maxHeartbeats 1000000
theorem zmK (k:Nat) (r x:Int) (h0:0≤r) (hk:k≤49) (h1:r+2^k≤562949953421312):0≤zbG k r x∧zbG k r x<562949953421312:=by
 induction k generalizing r with
 |zero=>unfold zbG;simp at h1;omega
 |succ k ih=>
  unfold zbG
  have hp:(0:Int)<2^k:=Int.pow_pos (by omega)
  have e:(2:Int)^(k+1)=2^k*2:=by rw[Int.pow_succ]
  rw[e] at h1
  split
  ·exact ih _ (by omega) (by omega) (by omega)
  ·exact ih _ h0 (by omega) (by omega)
theorem zda (x:Int):0≤zaW x∧zaW x<562949953421312:=zmK 49 0 x (by omega) (by omega) (by decide +kernel)
def ziH (x:Int):Bool:=decide (zaW x*zaW x=x)
theorem zqt {k:IntKind} {x y:Int} {a b:Bool} (h:x=y) (h':a=b):Ending.returned (.tuple #[.int k x,.bool a])=.returned (.tuple #[.int k y,.bool b]):=by rw[h,h']
theorem zqD (p x:Int):(p/18446744073709551616<x/18446744073709551616∨p/18446744073709551616=x/18446744073709551616∧p % 18446744073709551616≤x % 18446744073709551616)↔p≤x:=by omega
theorem zrA (p x:Int):(x % 18446744073709551616=p % 18446744073709551616∧p/18446744073709551616=x/18446744073709551616)↔p=x:=by omega
set_option maxHeartbeats 2000000 in
theorem zkl (n:Int) (h0:0≤n) (h1:n≤9223372036854775807) (w:World):Calls Tryz.prog 174 #[.int .i64 n] w fun e w'=>e=.returned (.tuple #[.int .u64 (zaW (n*4294967296)),.bool (ziH (n*4294967296))])∧Grew w w':=by
 have hn:I64 n:=⟨by omega,h1⟩
 have Hn:=Lib.hid hn
 clear hn
 have H1:=Lib.hid (zgd n Hn.out)
 have H2:=Lib.hid (show (ofB n).m<79228162514264337593543950336 by rw[zmf];omega)
 have hup:zjG (ofB n)=⟨false,n*4294967296/18446744073709551616,n*4294967296 % 18446744073709551616⟩:=by
  unfold zjG ofB
  rw[zhw,zim,show (n.natAbs:Int)=n by omega,decide_eq_false (show ¬ n<0 by omega)]
  rfl
 have Hup:=Lib.hid (fun w=>hup▸zfl (ofB n) H1.out H2.out w)
 clear hup
 have hX0:0≤n*4294967296:=by omega
 have hX1:n*4294967296<39614081257132168796771975168:=by omega
 go_enter Tryz.func174,Tryz.ntmps174
 go_wp2_with (first|(go_at_call 63;(with_reducible refine zaa (zco _ Hn.out _) ?_);intro u)|(go_at_call 196;(with_reducible refine zaa (Hup.out _) ?_);intro u)|((with_reducible refine zac ?_ ?_ ?_);(· kernel_rfl);(· kernel_rfl);(try simp only[List.append_eq,List.cons_append,List.nil_append]);(repeat (go_big_quiet_step ((first|(go_at_call 63;(with_reducible exact zad (zco _ Hn.out _)))|(go_at_call 196;(with_reducible exact zad (Hup.out _)))))));refine wpQuiet_nil ?_;rintro _ ⟨u,rfl⟩))
 clear Hup H1 H2
 generalize hX:n*4294967296=X at *
 have HX:=Lib.hid hX
 clear hX
 go_loopw [2,5] (fun r t wr=>∃ (k:Nat) (q:Int),t=.int .u64 (2^k/2)∧r=.int .u64 q∧k≤49∧0≤q∧q+2^k≤562949953421312∧Hid (q % 2^k=0)∧Hid (zbG k q X=zaW X)∧
  Grew (u.world.alloc (.cells #[.bool false,.int .u64 (X/18446744073709551616),.int .u64 (X % 18446744073709551616)] 123)) wr) (fun _ t _=>(intOf t).toNat)
 case atStart=>exact ⟨49,0,(by rw[show ((2:Int)^49/2)=281474976710656 from by decide +kernel]),rfl,by omega,by omega,by decide +kernel,Lib.hid (by decide +kernel),Lib.hid rfl,Grew.refl _⟩
 case round=>
  obtain ⟨k,q,rfl,rfl,hk,hq0,hq1,Hm,Hr,hg⟩:=hrel
  obtain ⟨z,rfl⟩:=zaj hg
  clear hg
  cases k with
  |zero=>
   have hr:q=zaW X:=Hr.out
   have hb:=zda X
   rw[←hr] at hb
   obtain ⟨hb1,hb2⟩:=hb
   have Hq:=Lib.hid hr
   clear hr
   have hu:U64 q:=⟨by omega,by omega⟩
   rw[show ((2:Int)^0/2)=0 from by decide +kernel]
   rcases za3 (q*q/18446744073709551616==X/18446744073709551616) with hs|hs
   all_goals
    go_wp2_with (first|(go_at_call 197;(with_reducible refine zaa (zdP _ _ hu hu _) ?_);intro u)|((with_reducible refine zac ?_ ?_ ?_);(· kernel_rfl);(· kernel_rfl);(try simp only[List.append_eq,List.cons_append,List.nil_append]);(repeat (go_big_quiet_step ((first|(go_at_call 197;(with_reducible exact zad (zdP _ _ hu hu _)))))));refine wpQuiet_nil ?_;rintro _ ⟨u,rfl⟩))
    go_ret2
    exact ⟨zqt (by rw[HX.out];exact Hq.out) (by
     rw[HX.out]
     have h:=zrA (q*q) X
     unfold ziH
     rw[←Hq.out,Bool.eq_iff_iff]
     simp at hs ⊢
     omega),gw⟩
  |succ j=>
   have hp:(0:Int)<2^j:=Int.pow_pos (by omega)
   have e:(2:Int)^(j+1)=2^j*2:=by rw[Int.pow_succ]
   have e2:(2:Int)^(j+1)/2=2^j:=by omega
   have Hor:=zhX (j+1) q (2^j) hq0 (by omega) Hm.out (by omega) (by omega) (by omega)
   have hm:q % 2^j=0:=by
    have h1:=Hm.out
    rw[e] at h1
    exact Int.emod_eq_zero_of_dvd (Int.dvd_trans ⟨2,rfl⟩ (Int.dvd_of_emod_eq_zero h1))
   have hm2:(q+2^j) % 2^j=0:=by rw[Int.add_emod_right];exact hm
   have hstep:zbG (j+1) q X=zbG j (if (q+2^j)*(q+2^j)≤X then q+2^j else q) X:=rfl
   have hcmp:=zqD ((q+2^j)*(q+2^j)) X
   rw[e2]
   rw[Hr.out] at hstep
   rw[e] at hq1
   have Hstep:=Lib.hid hstep
   have Hm1:=Lib.hid hm
   have Hm2:=Lib.hid hm2
   have Hcmp:=Lib.hid hcmp
   clear hstep hm hm2 e e2 Hr Hm hcmp
   have He:=Lib.hid (show ∀ a:Int,a=2^j/2→Value.int .u64 a=.int .u64 (2^j/2) from fun a h=>by rw[h])
   have Hj:=Lib.hid (show ∀ t:Int,zbG j t X=zbG j t X from fun _=>rfl)
   have hu:U64 (q+2^j):=⟨by omega,by omega⟩
   go_wp2_with (first|(go_at_call 197;(with_reducible refine zaa (zdP _ _ hu hu _) ?_);intro u)|((with_reducible refine zac ?_ ?_ ?_);(· kernel_rfl);(· kernel_rfl);(try simp only[List.append_eq,List.cons_append,List.nil_append]);(repeat (go_big_quiet_step ((first|(go_at_call 197;(with_reducible exact zad (zdP _ _ hu hu _)))))));refine wpQuiet_nil ?_;rintro _ ⟨u,rfl⟩))
   all_goals
    have hcmp:=Hcmp.out
    clear Hcmp
    go_roundw
    case rel=>
     first
     |exact ⟨j,q+2^j,rfl,rfl,by omega,by omega,by omega,Hm2,Lib.hid (by rw[Hstep.out,if_pos (by omega)]),gw⟩
     |exact ⟨j,q,rfl,rfl,by omega,by omega,by omega,Hm1,Lib.hid (by rw[Hstep.out,if_neg (by omega)]),gw⟩
    case measure=>simp[intOf];omega
theorem ziI (a:Sp) [ha:S64 a] (w:World):Calls Tryz.prog 172 #[.agg #[.int .i64 a.lo,.int .i64 a.hi]] w fun e w'=>e=.returned (.tuple #[.agg #[.int .i64 (absR a).s.lo,.int .i64 (absR a).s.hi],.int .i64 (absR a).e])∧Grew w w':=by
 cases hk:a.okB
 ·have Hf:=Lib.hid (show errR 2=absR a by unfold absR;rw[hk];rfl)
  go_enter Tryz.func172,Tryz.ntmps172
  go_wp2_with (first|(go_at_call 72;(with_reducible refine zaa (zff a hk _) ?_);intro u))
  refine bodyPost_ret (by (simp[results,Tryz.results172,go_sem]<;>rfl)) rfl ?_
  exact ⟨zaJ Hf.out rfl,gw⟩
 ·have hf:absR a=⟨absS a,0⟩:=by unfold absR;rw[hk];rfl
  have h1:=zbZ hk
  have h2:=ha.lo.2
  have h3:=ha.hi.2
  have Hn:=Lib.hid (show negR a=⟨negS a,0⟩ by unfold negR;rw[hk];rfl)
  by_cases c1:0≤a.lo
  ·have Hf:=Lib.hid (show (⟨⟨a.lo,a.hi⟩,0⟩:Res)=absR a by rw[hf];unfold absS;rw[if_pos c1])
   clear hf
   go_enter Tryz.func172,Tryz.ntmps172
   go_wp2_with (first|(go_at_call 72;(with_reducible refine zaa (zcs a hk _) ?_);intro u))
   refine bodyPost_ret (by (simp[results,Tryz.results172,go_sem]<;>rfl)) rfl ?_
   exact ⟨zaS Hf.out,gw⟩
  ·by_cases c2:a.hi≤0
   ·have Hf:=Lib.hid (show (⟨negS a,0⟩:Res)=absR a by rw[hf];unfold absS;rw[if_neg c1,if_pos c2])
    clear hf
    go_enter Tryz.func172,Tryz.ntmps172
    go_wp2_with (first|(go_at_call 72;(with_reducible refine zaa (zcs a hk _) ?_);intro u)|(go_at_call 48;(with_reducible refine zaa (zeh Hn.out (zgt a _)) ?_);intro u))
    refine bodyPost_ret (by (simp[results,Tryz.results172,go_sem]<;>rfl)) rfl ?_
    exact ⟨zaS Hf.out,gw⟩
   ·have Hf:=Lib.hid (show (⟨⟨0,imax (-a.lo) a.hi⟩,0⟩:Res)=absR a by rw[hf];unfold absS;rw[if_neg c1,if_neg c2])
    clear hf
    go_enter Tryz.func172,Tryz.ntmps172
    go_wp2_with (first|(go_at_call 72;(with_reducible refine zaa (zcs a hk _) ?_);intro u))
    all_goals
     refine bodyPost_ret (by (simp[results,Tryz.results172,go_sem]<;>rfl)) rfl ?_
     exact ⟨zaS (by rw[←Hf.out];unfold imax;first|(rw[if_pos (by omega)];done)|(rw[if_neg (by omega)];done)|(congr 2;split<;>omega)),gw⟩
end Go.Proofs.YtdkfkalplmgoeaaGreat
