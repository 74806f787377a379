/-
  Joined: FlightOks.
-/
import Derived.Test.YtdkfkalplmgoeaaGreatChecksH
namespace Go.Proofs.YtdkfkalplmgoeaaGreat
open Go.RowKit
set_option maxRecDepth 100000
set_option maxHeartbeats 1000000

def zdY (n:Int):Bool:=decide (-2305843009213693952≤n)&&decide (n≤2305843009213693952)
def Pt.okB (p:Pt):Bool:=zdY p.place&&p.value.okB&&zdY p.value.lo&&zdY p.value.hi
def ptAt (l:List Pt) (k:Nat):Bool:=match l[k]?,k with
 |some p,0=>p.okB
 |some p,j+1=>p.okB&&(match l[j]? with|some q=>decide (q.place<p.place)|none=>false)
 |none,_=>false
def zaY (l:List Pt):Bool:=decide (1≤l.length)&&decide (l.length≤64)&&(List.range l.length).all (ptAt l)
theorem zhR (l:List Pt) (h:0<l.length):ptAt l 0=l[0].okB:=by
 simp[ptAt,List.getElem?_eq_getElem h]
theorem zgq (l:List Pt) (k:Nat) (h:k+1<l.length):ptAt l (k+1)=(l[k+1].okB&&decide (l[k].place<l[k+1].place)):=by
 simp[ptAt,List.getElem?_eq_getElem h,List.getElem?_eq_getElem (show k<l.length by omega)]
theorem zfq (f:Nat→Bool) (n k:Nat) (h:k<n) (h2:f k=false):(List.range n).all f=false:=by
 rw[List.all_eq_false]
 exact ⟨k,by simpa using h,by simp[h2]⟩
theorem zdk (f:Nat→Bool) (k:Nat) (h1:(List.range k).all f=true) (h2:f k=true):(List.range (k+1)).all f=true:=by
 rw[List.range_succ,List.all_append,h1]
 simp[h2]
theorem zsx (p:Pt):Pt.okB p=(Sp.hasB ⟨-2305843009213693952,2305843009213693952⟩ p.place&&p.value.inB ⟨-2305843009213693952,2305843009213693952⟩):=by
 rw[Bool.eq_iff_iff]
 simp only[Pt.okB,zdY,Sp.hasB,Sp.inB,Sp.okB,numB]
 simp
 omega
theorem zbu (n:Int) (w:World):Calls Tryz.prog 148 #[.int .i64 n] w fun e w'=>e=.returned (.bool (zdY n))∧Grew w w':=by
 go_enter Tryz.func148,Tryz.ntmps148
 go_wp2
 all_goals go_ret
 all_goals exact ⟨za3 (by (first|(simp[zdY, *];done)|(simp[zdY, *]<;>omega)|(simp[zdY, *];omega))),Grew.refl _⟩
theorem zeZ (l:List Pt) (v:Value) (w:World) (h:SlAt w v l.length (l.flatMap Pt.cells)):Calls Tryz.prog 95 #[v] w fun e w'=>e=.returned (.int .i64 (zci (zaY l) 2))∧Grew w w':=by
 obtain ⟨ao,cap,rfl,hm,hc⟩:=h
 unfold maxLen at hm
 have Hc:=Lib.hid (SlAt.elem (f:=Pt.cells) (c:=3) (fun _=>rfl) (by omega) hc)
 clear hc
 by_cases h0:l.length=0
 ·go_enter Tryz.func95,Tryz.ntmps95
  go_wp2_with (first|((with_reducible refine zab ?_ ?_ ?_);(· kernel_rfl);(· kernel_rfl);(try simp only[List.append_eq,List.cons_append,List.nil_append]);(repeat (go_big_quiet_step (fail)));refine wpQuiet_nil ?_;rintro _ ⟨u,rfl⟩))
  go_ret
  exact ⟨zay (by rw[show zaY l=false by simp[zaY,h0]];rfl),gw⟩
 by_cases h64:64<l.length
 ·go_enter Tryz.func95,Tryz.ntmps95
  go_wp2_with (first|((with_reducible refine zab ?_ ?_ ?_);(· kernel_rfl);(· kernel_rfl);(try simp only[List.append_eq,List.cons_append,List.nil_append]);(repeat (go_big_quiet_step (fail)));refine wpQuiet_nil ?_;rintro _ ⟨u,rfl⟩))
  go_ret
  exact ⟨zay (by rw[show zaY l=false by simp[zaY];omega];rfl),gw⟩
 have hpos:0<l.length:=by omega
 have h64':l.length≤64:=by omega
 have hb1:((l.length:Int)==0)=false:=by rw[beq_eq_false_iff_ne];omega
 have hb2:decide ((64:Int)<l.length)=false:=by simp;omega
 clear h0 h64
 go_enter Tryz.func95,Tryz.ntmps95
 go_wp2_with (first|((with_reducible refine zab ?_ ?_ ?_);(· kernel_rfl);(· kernel_rfl);(try simp only[List.append_eq,List.cons_append,List.nil_append]);(repeat (go_big_quiet_step (fail)));refine wpQuiet_nil ?_;rintro _ ⟨u,rfl⟩))
 go_loopw [17] (fun t wr=>∃ k:Nat,t=.int .i64 k∧k≤l.length∧(List.range k).all (ptAt l)=true∧Grew (w.alloc (.cells #[.int .i64 (-2305843009213693952),.int .i64 2305843009213693952] 24)) wr) (fun t _=>l.length-(intOf t).toNat)
 case atStart=>exact ⟨0,rfl,by omega,rfl,gw⟩
 case round=>
  obtain ⟨k,rfl,hk,hall,hg⟩:=hrel
  obtain ⟨x,rfl⟩:=zal hg
  clear hg
  have Hall:=Lib.hid hall
  clear hall
  by_cases hlt:k<l.length
  ·obtain ⟨b1,o1,rfl,i1,hd1,hd2⟩:=Hc.out k hlt
   have hd0:=hd1 _ rfl
   have hd3:=hd2 1 _ rfl
   have hd4:=hd2 2 _ rfl
   clear hd1 hd2
   have i1:BlockIn w b1:=⟨i1⟩
   have hsm:=zsx l[k]
   have Hno:Hid (ptAt l k=false→zaY l=false):=fun h=>by
    simp only[zaY,zfq _ _ k hlt h,Bool.and_false]
   by_cases hk0:k=0
   ·have Hp:=Lib.hid (show ptAt l k=(Sp.hasB ⟨-2305843009213693952,2305843009213693952⟩ l[k].place&&l[k].value.inB ⟨-2305843009213693952,2305843009213693952⟩) by rw[←hsm];subst hk0;exact zhR l hlt)
    clear hsm
    subst hk0
    simp only[Nat.zero_mul,Nat.add_zero] at hd0 hd3 hd4
    rcases znx (Sp.hasB ⟨-2305843009213693952,2305843009213693952⟩ l[0].place) (l[0].value.inB ⟨-2305843009213693952,2305843009213693952⟩) with h1|⟨h1,h2⟩|⟨h1,h2⟩
    ·go_wp2_with (first|(go_at_call 149;(with_reducible refine zaa (zb6 ⟨-2305843009213693952,2305843009213693952⟩ _ _) ?_);intro u)|(go_at_call 94;(with_reducible refine zaa (zaK _ ⟨-2305843009213693952,2305843009213693952⟩ _) ?_);intro u)|((with_reducible refine zab ?_ ?_ ?_);(· kernel_rfl);(· kernel_rfl);(try simp only[List.append_eq,List.cons_append,List.nil_append]);(repeat (go_big_quiet_step ((first|(go_at_call 149;(with_reducible exact zac (zb6 ⟨-2305843009213693952,2305843009213693952⟩ _ _)))|(go_at_call 94;(with_reducible exact zac (zaK _ ⟨-2305843009213693952,2305843009213693952⟩ _)))))));refine wpQuiet_nil ?_;rintro _ ⟨u,rfl⟩))
     go_ret
     exact ⟨zay (by rw[Hno.out (by rw[Hp.out,h1];rfl)];rfl),gw⟩
    ·go_wp2_with (first|(go_at_call 149;(with_reducible refine zaa (zb6 ⟨-2305843009213693952,2305843009213693952⟩ _ _) ?_);intro u)|(go_at_call 94;(with_reducible refine zaa (zaK _ ⟨-2305843009213693952,2305843009213693952⟩ _) ?_);intro u)|((with_reducible refine zab ?_ ?_ ?_);(· kernel_rfl);(· kernel_rfl);(try simp only[List.append_eq,List.cons_append,List.nil_append]);(repeat (go_big_quiet_step ((first|(go_at_call 149;(with_reducible exact zac (zb6 ⟨-2305843009213693952,2305843009213693952⟩ _ _)))|(go_at_call 94;(with_reducible exact zac (zaK _ ⟨-2305843009213693952,2305843009213693952⟩ _)))))));refine wpQuiet_nil ?_;rintro _ ⟨u,rfl⟩))
     go_ret
     exact ⟨zay (by rw[Hno.out (by rw[Hp.out,h1,h2];rfl)];rfl),gw⟩
    ·go_wp2_with (first|(go_at_call 149;(with_reducible refine zaa (zb6 ⟨-2305843009213693952,2305843009213693952⟩ _ _) ?_);intro u)|(go_at_call 94;(with_reducible refine zaa (zaK _ ⟨-2305843009213693952,2305843009213693952⟩ _) ?_);intro u)|((with_reducible refine zab ?_ ?_ ?_);(· kernel_rfl);(· kernel_rfl);(try simp only[List.append_eq,List.cons_append,List.nil_append]);(repeat (go_big_quiet_step ((first|(go_at_call 149;(with_reducible exact zac (zb6 ⟨-2305843009213693952,2305843009213693952⟩ _ _)))|(go_at_call 94;(with_reducible exact zac (zaK _ ⟨-2305843009213693952,2305843009213693952⟩ _)))))));refine wpQuiet_nil ?_;rintro _ ⟨u,rfl⟩))
     go_roundw
     case rel=>exact ⟨0+1,by go_num,by omega,zdk _ _ Hall.out (by rw[Hp.out,h1,h2];rfl),gw⟩
     case measure=>simp[intOf];omega
   ·have hkk:∃ j,k=j+1:=⟨k-1,by omega⟩
    obtain ⟨j,rfl⟩:=hkk
    obtain ⟨_,_,e1,_,hd5,_⟩:=Hc.out j (by omega)
    cases e1
    have hd5:=hd5 _ rfl
    have Hp:=Lib.hid (show ptAt l (j+1)=(Sp.hasB ⟨-2305843009213693952,2305843009213693952⟩ l[j+1].place&&l[j+1].value.inB ⟨-2305843009213693952,2305843009213693952⟩&&decide (l[j].place<l[j+1].place)) by rw[←hsm];exact zgq l j hlt)
    clear hsm
    rcases znx (Sp.hasB ⟨-2305843009213693952,2305843009213693952⟩ l[j+1].place) (l[j+1].value.inB ⟨-2305843009213693952,2305843009213693952⟩) with h1|⟨h1,h2⟩|⟨h1,h2⟩
    ·go_wp2_with (first|(go_at_call 149;(with_reducible refine zaa (zb6 ⟨-2305843009213693952,2305843009213693952⟩ _ _) ?_);intro u)|(go_at_call 94;(with_reducible refine zaa (zaK _ ⟨-2305843009213693952,2305843009213693952⟩ _) ?_);intro u)|((with_reducible refine zab ?_ ?_ ?_);(· kernel_rfl);(· kernel_rfl);(try simp only[List.append_eq,List.cons_append,List.nil_append]);(repeat (go_big_quiet_step ((first|(go_at_call 149;(with_reducible exact zac (zb6 ⟨-2305843009213693952,2305843009213693952⟩ _ _)))|(go_at_call 94;(with_reducible exact zac (zaK _ ⟨-2305843009213693952,2305843009213693952⟩ _)))))));refine wpQuiet_nil ?_;rintro _ ⟨u,rfl⟩))
     go_ret
     exact ⟨zay (by rw[Hno.out (by rw[Hp.out,h1];rfl)];rfl),gw⟩
    ·go_wp2_with (first|(go_at_call 149;(with_reducible refine zaa (zb6 ⟨-2305843009213693952,2305843009213693952⟩ _ _) ?_);intro u)|(go_at_call 94;(with_reducible refine zaa (zaK _ ⟨-2305843009213693952,2305843009213693952⟩ _) ?_);intro u)|((with_reducible refine zab ?_ ?_ ?_);(· kernel_rfl);(· kernel_rfl);(try simp only[List.append_eq,List.cons_append,List.nil_append]);(repeat (go_big_quiet_step ((first|(go_at_call 149;(with_reducible exact zac (zb6 ⟨-2305843009213693952,2305843009213693952⟩ _ _)))|(go_at_call 94;(with_reducible exact zac (zaK _ ⟨-2305843009213693952,2305843009213693952⟩ _)))))));refine wpQuiet_nil ?_;rintro _ ⟨u,rfl⟩))
     go_ret
     exact ⟨zay (by rw[Hno.out (by rw[Hp.out,h1,h2];rfl)];rfl),gw⟩
    ·rcases zcd (l[j].place<l[j+1].place) with h3|h3
     ·go_wp2_with (first|(go_at_call 149;(with_reducible refine zaa (zb6 ⟨-2305843009213693952,2305843009213693952⟩ _ _) ?_);intro u)|(go_at_call 94;(with_reducible refine zaa (zaK _ ⟨-2305843009213693952,2305843009213693952⟩ _) ?_);intro u)|((with_reducible refine zab ?_ ?_ ?_);(· kernel_rfl);(· kernel_rfl);(try simp only[List.append_eq,List.cons_append,List.nil_append]);(repeat (go_big_quiet_step ((first|(go_at_call 149;(with_reducible exact zac (zb6 ⟨-2305843009213693952,2305843009213693952⟩ _ _)))|(go_at_call 94;(with_reducible exact zac (zaK _ ⟨-2305843009213693952,2305843009213693952⟩ _)))))));refine wpQuiet_nil ?_;rintro _ ⟨u,rfl⟩))
      go_ret
      exact ⟨zay (by rw[Hno.out (by rw[Hp.out,h1,h2];simp;omega)];rfl),gw⟩
     ·go_wp2_with (first|(go_at_call 149;(with_reducible refine zaa (zb6 ⟨-2305843009213693952,2305843009213693952⟩ _ _) ?_);intro u)|(go_at_call 94;(with_reducible refine zaa (zaK _ ⟨-2305843009213693952,2305843009213693952⟩ _) ?_);intro u)|((with_reducible refine zab ?_ ?_ ?_);(· kernel_rfl);(· kernel_rfl);(try simp only[List.append_eq,List.cons_append,List.nil_append]);(repeat (go_big_quiet_step ((first|(go_at_call 149;(with_reducible exact zac (zb6 ⟨-2305843009213693952,2305843009213693952⟩ _ _)))|(go_at_call 94;(with_reducible exact zac (zaK _ ⟨-2305843009213693952,2305843009213693952⟩ _)))))));refine wpQuiet_nil ?_;rintro _ ⟨u,rfl⟩))
      go_roundw
      case rel=>exact ⟨j+1+1,by go_num,by omega,zdk _ _ Hall.out (by rw[Hp.out,h1,h2];simp;omega),gw⟩
      case measure=>simp[intOf];omega
  ·go_wp2
   go_ret
   exact ⟨zay (by rw[show zaY l=true by simp only[zaY,Bool.and_eq_true,decide_eq_true_eq];exact ⟨⟨by omega,by omega⟩,by rw[show l.length=k by omega];exact Hall.out⟩];rfl),gw⟩
theorem zfJ (l:List Pt) (v:Value) (w:World) (h:SlAt w v l.length (l.flatMap Pt.cells)):Calls Tryz.prog 93 #[v] w fun e w'=>e=.returned (.int .i64 (zci (zaY l) 2))∧Grew w w':=by
 obtain ⟨ao,cap,rfl,hm,hc⟩:=h
 unfold maxLen at hm
 have Hc:=Lib.hid (SlAt.elem (f:=Pt.cells) (c:=3) (fun _=>rfl) (by omega) hc)
 clear hc
 by_cases h0:l.length=0
 ·go_enter Tryz.func93,Tryz.ntmps93
  go_wp2_with (first|((with_reducible refine zab ?_ ?_ ?_);(· kernel_rfl);(· kernel_rfl);(try simp only[List.append_eq,List.cons_append,List.nil_append]);(repeat (go_big_quiet_step (fail)));refine wpQuiet_nil ?_;rintro _ ⟨u,rfl⟩))
  go_ret
  exact ⟨zay (by rw[show zaY l=false by simp[zaY,h0]];rfl),gw⟩
 by_cases h64:64<l.length
 ·go_enter Tryz.func93,Tryz.ntmps93
  go_wp2_with (first|((with_reducible refine zab ?_ ?_ ?_);(· kernel_rfl);(· kernel_rfl);(try simp only[List.append_eq,List.cons_append,List.nil_append]);(repeat (go_big_quiet_step (fail)));refine wpQuiet_nil ?_;rintro _ ⟨u,rfl⟩))
  go_ret
  exact ⟨zay (by rw[show zaY l=false by simp[zaY];omega];rfl),gw⟩
 have hpos:0<l.length:=by omega
 have h64':l.length≤64:=by omega
 have hb1:((l.length:Int)==0)=false:=by rw[beq_eq_false_iff_ne];omega
 have hb2:decide ((64:Int)<l.length)=false:=by simp;omega
 clear h0 h64
 go_enter Tryz.func93,Tryz.ntmps93
 go_wp2_with (first|((with_reducible refine zab ?_ ?_ ?_);(· kernel_rfl);(· kernel_rfl);(try simp only[List.append_eq,List.cons_append,List.nil_append]);(repeat (go_big_quiet_step (fail)));refine wpQuiet_nil ?_;rintro _ ⟨u,rfl⟩))
 go_loopw [3] (fun t wr=>∃ k:Nat,t=.int .i64 k∧k≤l.length∧(List.range k).all (ptAt l)=true∧Grew w wr) (fun t _=>l.length-(intOf t).toNat)
 case atStart=>exact ⟨0,rfl,by omega,rfl,gw⟩
 case round=>
  obtain ⟨k,rfl,hk,hall,hg⟩:=hrel
  obtain ⟨x,rfl⟩:=zal hg
  clear hg
  have Hall:=Lib.hid hall
  clear hall
  by_cases hlt:k<l.length
  ·obtain ⟨b1,o1,rfl,i1,hd1,hd2⟩:=Hc.out k hlt
   have hd0:=hd1 _ rfl
   have hd3:=hd2 1 _ rfl
   have hd4:=hd2 2 _ rfl
   clear hd1 hd2
   have i1:BlockIn w b1:=⟨i1⟩
   have Hno:Hid (ptAt l k=false→zaY l=false):=fun h=>by
    simp only[zaY,zfq _ _ k hlt h,Bool.and_false]
   by_cases hk0:k=0
   ·subst hk0
    have Hp:=Lib.hid (show ptAt l 0=(zdY l[0].place&&l[0].value.okB&&zdY l[0].value.lo&&zdY l[0].value.hi) by exact zhR l hlt)
    simp only[Nat.zero_mul,Nat.add_zero] at hd0 hd3 hd4
    rcases zqM (zdY l[0].place) (zdY l[0].value.lo) (zdY l[0].value.hi) l[0].value.okB with h1|⟨h1,h2⟩|⟨h1,h2,h3⟩|⟨h1,h2,h3,h4⟩|⟨h1,h2,h3,h4⟩
    all_goals skip
    all_goals
     go_wp2_with (first|(go_at_call 148;(with_reducible refine zaa (zbu _ _) ?_);intro u)|(go_at_call 87;(with_reducible refine zaa (zaM _ _) ?_);intro u)|((with_reducible refine zab ?_ ?_ ?_);(· kernel_rfl);(· kernel_rfl);(try simp only[List.append_eq,List.cons_append,List.nil_append]);(repeat (go_big_quiet_step ((first|(go_at_call 148;(with_reducible exact zac (zbu _ _)))|(go_at_call 87;(with_reducible exact zac (zaM _ _)))))));refine wpQuiet_nil ?_;rintro _ ⟨u,rfl⟩))
    ·go_ret
     exact ⟨zay (by rw[Hno.out (by rw[Hp.out,h1];rfl)];rfl),gw⟩
    ·go_ret
     exact ⟨zay (by rw[Hno.out (by rw[Hp.out,h2];simp)];rfl),gw⟩
    ·go_ret
     exact ⟨zay (by rw[Hno.out (by rw[Hp.out,h3];simp)];rfl),gw⟩
    ·go_ret
     exact ⟨zay (by rw[Hno.out (by rw[Hp.out,h4];simp)];rfl),gw⟩
    ·go_roundw
     case rel=>exact ⟨0+1,by go_num,by omega,zdk _ _ Hall.out (by rw[Hp.out,h1,h2,h3,h4];rfl),gw⟩
     case measure=>simp[intOf];omega
   ·have hkk:∃ j,k=j+1:=⟨k-1,by omega⟩
    obtain ⟨j,rfl⟩:=hkk
    obtain ⟨_,_,e1,_,hd5,_⟩:=Hc.out j (by omega)
    cases e1
    have hd5:=hd5 _ rfl
    have Hp:=Lib.hid (show ptAt l (j+1)=(zdY l[j+1].place&&l[j+1].value.okB&&zdY l[j+1].value.lo&&zdY l[j+1].value.hi&&decide (l[j].place<l[j+1].place)) by exact zgq l j hlt)
    rcases zqM (zdY l[j+1].place) (zdY l[j+1].value.lo) (zdY l[j+1].value.hi) l[j+1].value.okB with h1|⟨h1,h2⟩|⟨h1,h2,h3⟩|⟨h1,h2,h3,h4⟩|⟨h1,h2,h3,h4⟩
    ·skip
     go_wp2_with (first|(go_at_call 148;(with_reducible refine zaa (zbu _ _) ?_);intro u)|(go_at_call 87;(with_reducible refine zaa (zaM _ _) ?_);intro u)|((with_reducible refine zab ?_ ?_ ?_);(· kernel_rfl);(· kernel_rfl);(try simp only[List.append_eq,List.cons_append,List.nil_append]);(repeat (go_big_quiet_step ((first|(go_at_call 148;(with_reducible exact zac (zbu _ _)))|(go_at_call 87;(with_reducible exact zac (zaM _ _)))))));refine wpQuiet_nil ?_;rintro _ ⟨u,rfl⟩))
     go_ret
     exact ⟨zay (by rw[Hno.out (by rw[Hp.out,h1];rfl)];rfl),gw⟩
    ·skip
     go_wp2_with (first|(go_at_call 148;(with_reducible refine zaa (zbu _ _) ?_);intro u)|(go_at_call 87;(with_reducible refine zaa (zaM _ _) ?_);intro u)|((with_reducible refine zab ?_ ?_ ?_);(· kernel_rfl);(· kernel_rfl);(try simp only[List.append_eq,List.cons_append,List.nil_append]);(repeat (go_big_quiet_step ((first|(go_at_call 148;(with_reducible exact zac (zbu _ _)))|(go_at_call 87;(with_reducible exact zac (zaM _ _)))))));refine wpQuiet_nil ?_;rintro _ ⟨u,rfl⟩))
     go_ret
     exact ⟨zay (by rw[Hno.out (by rw[Hp.out,h2];simp)];rfl),gw⟩
    ·skip
     go_wp2_with (first|(go_at_call 148;(with_reducible refine zaa (zbu _ _) ?_);intro u)|(go_at_call 87;(with_reducible refine zaa (zaM _ _) ?_);intro u)|((with_reducible refine zab ?_ ?_ ?_);(· kernel_rfl);(· kernel_rfl);(try simp only[List.append_eq,List.cons_append,List.nil_append]);(repeat (go_big_quiet_step ((first|(go_at_call 148;(with_reducible exact zac (zbu _ _)))|(go_at_call 87;(with_reducible exact zac (zaM _ _)))))));refine wpQuiet_nil ?_;rintro _ ⟨u,rfl⟩))
     go_ret
     exact ⟨zay (by rw[Hno.out (by rw[Hp.out,h3];simp)];rfl),gw⟩
    ·skip
     go_wp2_with (first|(go_at_call 148;(with_reducible refine zaa (zbu _ _) ?_);intro u)|(go_at_call 87;(with_reducible refine zaa (zaM _ _) ?_);intro u)|((with_reducible refine zab ?_ ?_ ?_);(· kernel_rfl);(· kernel_rfl);(try simp only[List.append_eq,List.cons_append,List.nil_append]);(repeat (go_big_quiet_step ((first|(go_at_call 148;(with_reducible exact zac (zbu _ _)))|(go_at_call 87;(with_reducible exact zac (zaM _ _)))))));refine wpQuiet_nil ?_;rintro _ ⟨u,rfl⟩))
     go_ret
     exact ⟨zay (by rw[Hno.out (by rw[Hp.out,h4];simp)];rfl),gw⟩
    ·rcases zcd (l[j].place<l[j+1].place) with h5|h5
     ·skip
      go_wp2_with (first|(go_at_call 148;(with_reducible refine zaa (zbu _ _) ?_);intro u)|(go_at_call 87;(with_reducible refine zaa (zaM _ _) ?_);intro u)|((with_reducible refine zab ?_ ?_ ?_);(· kernel_rfl);(· kernel_rfl);(try simp only[List.append_eq,List.cons_append,List.nil_append]);(repeat (go_big_quiet_step ((first|(go_at_call 148;(with_reducible exact zac (zbu _ _)))|(go_at_call 87;(with_reducible exact zac (zaM _ _)))))));refine wpQuiet_nil ?_;rintro _ ⟨u,rfl⟩))
      go_ret
      exact ⟨zay (by rw[Hno.out (by rw[Hp.out,h1,h2,h3,h4];simp;omega)];rfl),gw⟩
     ·skip
      go_wp2_with (first|(go_at_call 148;(with_reducible refine zaa (zbu _ _) ?_);intro u)|(go_at_call 87;(with_reducible refine zaa (zaM _ _) ?_);intro u)|((with_reducible refine zab ?_ ?_ ?_);(· kernel_rfl);(· kernel_rfl);(try simp only[List.append_eq,List.cons_append,List.nil_append]);(repeat (go_big_quiet_step ((first|(go_at_call 148;(with_reducible exact zac (zbu _ _)))|(go_at_call 87;(with_reducible exact zac (zaM _ _)))))));refine wpQuiet_nil ?_;rintro _ ⟨u,rfl⟩))
      go_roundw
      case rel=>exact ⟨j+1+1,by go_num,by omega,zdk _ _ Hall.out (by rw[Hp.out,h1,h2,h3,h4];simp;omega),gw⟩
      case measure=>simp[intOf];omega
  ·go_wp2
   go_ret
   exact ⟨zay (by rw[show zaY l=true by simp only[zaY,Bool.and_eq_true,decide_eq_true_eq];exact ⟨⟨by omega,by omega⟩,by rw[show l.length=k by omega];exact Hall.out⟩];rfl),gw⟩
end Go.Proofs.YtdkfkalplmgoeaaGreat
namespace Go.Proofs.YtdkfkalplmgoeaaGreat
open Go.RowKit
set_option maxRecDepth 100000
set_option maxHeartbeats 1000000

theorem zkH (n:Int) (w:World):Calls Tryz.prog 69 #[.int .i64 n] w fun e w'=>e=.returned (.bool (numB n))∧Grew w w':=by
 go_enter Tryz.func69,Tryz.ntmps69
 go_wp2
 go_ret
 exact ⟨za3 (by unfold numB;simp),Grew.refl _⟩
theorem zfV (l:List Sp) (v:Value) (w:World) (h:SlAt w v l.length (l.flatMap Sp.cells)):Calls Tryz.prog 71 #[v] w fun e w'=>e=.returned (.bool (l.all Sp.okB))∧Grew w w':=by
 obtain ⟨ao,cap,rfl,hm,hc⟩:=h
 unfold maxLen at hm
 have Hc:=Lib.hid (SlAt.elem (f:=Sp.cells) (c:=2) (fun _=>rfl) (by omega) hc)
 clear hc
 go_enter Tryz.func71,Tryz.ntmps71
 go_wp2
 go_loopw [7] (fun t wr=>∃ k:Nat,t=.int .i64 k∧k≤l.length∧(l.take k).all Sp.okB=true∧Grew w wr) (fun t _=>l.length-(intOf t).toNat)
 case atStart=>exact ⟨0,rfl,by omega,rfl,Grew.refl _⟩
 case round=>
  obtain ⟨k,rfl,hk,hall,hg⟩:=hrel
  obtain ⟨x,rfl⟩:=zal hg
  clear hg
  have Hall:=Lib.hid hall
  clear hall
  by_cases hlt:k<l.length
  ·obtain ⟨b1,o1,rfl,i1,hd1,hd2⟩:=Hc.out k hlt
   have hd1:=hd1 _ rfl
   have hd2:=hd2 1 _ rfl
   have i1:BlockIn w b1:=⟨i1⟩
   cases h:l[k].okB
   ·go_wp2_with (first|(go_at_call 72;(with_reducible refine zaa (zbF _ _) ?_);intro u))
    go_ret
    exact ⟨za3 (by rw[zfd _ _ _ hlt h]),gw⟩
   ·go_wp2_with (first|(go_at_call 72;(with_reducible refine zaa (zbF _ _) ?_);intro u))
    go_roundw
    case rel=>exact ⟨k+1,by go_num,by omega,zc2 _ _ _ hlt Hall.out h,gw⟩
    case measure=>simp[intOf];omega
  ·go_wp2
   go_ret
   exact ⟨za3 (by rw[zhi _ _ _ (by omega) Hall.out]),x.grew⟩
theorem zeJ (a:Sp) (v:Value) (w:World) (h:SlAt w v 1 [.int .i64 a.lo,.int .i64 a.hi]):Calls Tryz.prog 71 #[v] w fun e w'=>e=.returned (.bool a.okB)∧Grew w w':=by
 have:=zfV [a] v w h
 simpa using this
theorem zhH (b:Bx) (v:Value) (w:World) (h:SlAt w v 3 [.int .i64 b.x.lo,.int .i64 b.x.hi,.int .i64 b.y.lo,.int .i64 b.y.hi,.int .i64 b.z.lo,.int .i64 b.z.hi]):Calls Tryz.prog 71 #[v] w fun e w'=>e=.returned (.bool b.okB)∧Grew w w':=by
 have:=zfV [b.x,b.y,b.z] v w h
 simpa [Bx.okB,Bool.and_assoc] using this
theorem zjO (a b c d:Sp) (v:Value) (w:World) (h:SlAt w v 4 [.int .i64 a.lo,.int .i64 a.hi,.int .i64 b.lo,.int .i64 b.hi,.int .i64 c.lo,.int .i64 c.hi,.int .i64 d.lo,.int .i64 d.hi]):Calls Tryz.prog 71 #[v] w fun e w'=>e=.returned (.bool (a.okB&&b.okB&&c.okB&&d.okB))∧Grew w w':=by
 have:=zfV [a,b,c,d] v w h
 simpa [Bool.and_assoc] using this
theorem zhF (l:List Bx) (v:Value) (w:World) (h:SlAt w v l.length (l.flatMap Bx.cells)):Calls Tryz.prog 70 #[v] w fun e w'=>e=.returned (.bool (l.all Bx.okB))∧Grew w w':=by
 obtain ⟨ao,cap,rfl,hm,hc⟩:=h
 unfold maxLen at hm
 have Hc:=Lib.hid (SlAt.elem (f:=Bx.cells) (c:=6) (fun _=>rfl) (by omega) hc)
 clear hc
 go_enter Tryz.func70,Tryz.ntmps70
 go_wp2
 go_loopw [7] (fun t wr=>∃ k:Nat,t=.int .i64 k∧k≤l.length∧(l.take k).all Bx.okB=true∧Grew w wr) (fun t _=>l.length-(intOf t).toNat)
 case atStart=>exact ⟨0,rfl,by omega,rfl,Grew.refl _⟩
 case round=>
  obtain ⟨k,rfl,hk,hall,hg⟩:=hrel
  obtain ⟨x,rfl⟩:=zal hg
  clear hg
  have Hall:=Lib.hid hall
  clear hall
  by_cases hlt:k<l.length
  ·obtain ⟨b1,o1,rfl,i1,hd1,hd2⟩:=Hc.out k hlt
   have hc0:=hd1 _ rfl
   have hc1:=hd2 1 _ rfl
   have hc2:=hd2 2 _ rfl
   have hc3:=hd2 3 _ rfl
   have hc4:=hd2 4 _ rfl
   have hc5:=hd2 5 _ rfl
   clear hd1 hd2
   have i1:BlockIn w b1:=⟨i1⟩
   cases h:l[k].okB
   ·go_wp2_with (first|(go_at_call 71;(with_reducible refine zaa (zhH _ _ _ (SlAt.fresh _ _ _ _ (by simp[maxLen]))) ?_);intro u))
    go_ret
    exact ⟨za3 (by rw[zfd _ _ _ hlt h]),gw⟩
   ·go_wp2_with (first|(go_at_call 71;(with_reducible refine zaa (zhH _ _ _ (SlAt.fresh _ _ _ _ (by simp[maxLen]))) ?_);intro u))
    go_roundw
    case rel=>exact ⟨k+1,by go_num,by omega,zc2 _ _ _ hlt Hall.out h,gw⟩
    case measure=>simp[intOf];omega
  ·go_wp2
   go_ret
   exact ⟨za3 (by rw[zhi _ _ _ (by omega) Hall.out]),x.grew⟩
theorem zkC (a:Bx) (v:Value) (w:World) (h:SlAt w v 1 [.int .i64 a.x.lo,.int .i64 a.x.hi,.int .i64 a.y.lo,.int .i64 a.y.hi,.int .i64 a.z.lo,.int .i64 a.z.hi]):Calls Tryz.prog 70 #[v] w fun e w'=>e=.returned (.bool a.okB)∧Grew w w':=by
 have:=zhF [a] v w h
 simpa using this
theorem zkD (a b:Bx) (v:Value) (w:World) (h:SlAt w v 2 [.int .i64 a.x.lo,.int .i64 a.x.hi,.int .i64 a.y.lo,.int .i64 a.y.hi,.int .i64 a.z.lo,.int .i64 a.z.hi,.int .i64 b.x.lo,.int .i64 b.x.hi,.int .i64 b.y.lo,.int .i64 b.y.hi,.int .i64 b.z.lo,.int .i64 b.z.hi]):Calls Tryz.prog 70 #[v] w fun e w'=>e=.returned (.bool (a.okB&&b.okB))∧Grew w w':=by
 have:=zhF [a,b] v w h
 simpa using this
theorem zjN (p:Planet) (w:World):Calls Tryz.prog 43 #[.agg #[.int .i64 p.mu.lo,.int .i64 p.mu.hi,.int .i64 p.radius.lo,.int .i64 p.radius.hi,.int .i64 p.oblate.lo,.int .i64 p.oblate.hi,.int .i64 p.spin.lo,.int .i64 p.spin.hi,.int .i64 p.pull.x.lo,.int .i64 p.pull.x.hi,.int .i64 p.pull.y.lo,.int .i64 p.pull.y.hi,.int .i64 p.pull.z.lo,.int .i64 p.pull.z.hi]] w fun e w'=>e=.returned (.int .i64 (zci p.okB 2))∧Grew w w':=by
 rcases zaS (p.pull.okB) with h1|h1
 rotate_left
 rcases zaS ((p.mu.okB&&p.radius.okB&&p.oblate.okB&&p.spin.okB)) with h2|h2
 rotate_left
 rcases zcd (0≤p.mu.lo) with h3|h3
 rotate_left
 rcases zcd (0≤p.radius.lo) with h4|h4
 rotate_left
 all_goals
  go_enter Tryz.func43,Tryz.ntmps43
  go_wp2_with (first|(go_at_call 70;(with_reducible refine zaa (zkC p.pull _ _ (SlAt.fresh _ _ _ _ (by simp[maxLen]))) ?_);intro u)|(go_at_call 71;(with_reducible refine zaa (zjO p.mu p.radius p.oblate p.spin _ _ (SlAt.fresh _ _ _ _ (by simp[maxLen]))) ?_);intro u))
  go_ret
  exact ⟨zay (by (first|(rw[show p.okB=true from by simp[Planet.okB, *]];rfl)|(rw[show p.okB=false from by simp[Planet.okB, *]<;>omega];rfl)|(rw[show p.okB=true from by simp[Planet.okB, *]<;>omega];rfl))),gw⟩
theorem zkE (s:State) (w:World):Calls Tryz.prog 34 #[.agg #[.int .i64 s.t,.int .i64 s.p.x.lo,.int .i64 s.p.x.hi,.int .i64 s.p.y.lo,.int .i64 s.p.y.hi,.int .i64 s.p.z.lo,.int .i64 s.p.z.hi,.int .i64 s.v.x.lo,.int .i64 s.v.x.hi,.int .i64 s.v.y.lo,.int .i64 s.v.y.hi,.int .i64 s.v.z.lo,.int .i64 s.v.z.hi,.int .i64 s.m.lo,.int .i64 s.m.hi]] w fun e w'=>e=.returned (.int .i64 (zci s.okB 2))∧Grew w w':=by
 rcases zaS (numB s.t) with h1|h1
 rotate_left
 rcases zaS ((s.p.okB&&s.v.okB)) with h2|h2
 rotate_left
 rcases zaS (s.m.okB) with h3|h3
 rotate_left
 rcases zcd (1≤s.m.lo) with h4|h4
 rotate_left
 all_goals
  go_enter Tryz.func34,Tryz.ntmps34
  go_wp2_with (first|(go_at_call 69;(with_reducible refine zaa (zkH _ _) ?_);intro u)|(go_at_call 70;(with_reducible refine zaa (zkD s.p s.v _ _ (SlAt.fresh _ _ _ _ (by simp[maxLen]))) ?_);intro u)|(go_at_call 71;(with_reducible refine zaa (zeJ s.m _ _ (SlAt.fresh _ _ _ _ (by simp[maxLen]))) ?_);intro u))
  go_ret
  exact ⟨zay (by (first|(rw[show s.okB=true from by simp[State.okB, *]];rfl)|(rw[show s.okB=false from by simp[State.okB, *]<;>omega];rfl)|(rw[show s.okB=true from by simp[State.okB, *]<;>omega];rfl))),gw⟩
end Go.Proofs.YtdkfkalplmgoeaaGreat
namespace Go.Proofs.YtdkfkalplmgoeaaGreat
open Go.RowKit
set_option maxRecDepth 100000
set_option maxHeartbeats 1000000

def dirB (d:Bx):Bool:=d.x.inB unit&&d.y.inB unit&&d.z.inB unit
def zgG (a:Arc):Bool:=[a.thrust,a.flow,a.drop].all (fun s=>s.leastB 0)
def zjK (l:List Pt):Bool:=l.isEmpty||zaY l
def Arc.okB (a:Arc) (l:List Pt):Bool:=dirB a.dir&&zgG a&&decide (1≤a.time)&&decide (1≤a.step)&&zjK l
theorem zlA {w:World} {a:Arc} {l:List Pt} (h:zcF w a l):a.drag.n=l.length:=by
 obtain ⟨ao,cap,e,-⟩:=h
 simp at e
 exact e.2.1
theorem zcF.grew {w w':World} {a:Arc} {l:List Pt} (h:zcF w a l) (g:Grew w w'):zcF w' a l:=SlAt.grew h g
theorem zds (a:Arc) (l:List Pt) (w:World) (h:zcF w a l):Calls Tryz.prog 95 #[.slice a.drag.ao a.drag.n a.drag.cap] w fun e w'=>e=.returned (.int .i64 (zci (zaY l) 2))∧Grew w w':=zeZ l _ w h
theorem zk3 (a:Arc) (l:List Pt) (w:World) (h:zcF w a l):Calls Tryz.prog 93 #[.slice a.drag.ao a.drag.n a.drag.cap] w fun e w'=>e=.returned (.int .i64 (zci (zaY l) 2))∧Grew w w':=zfJ l _ w h
theorem zf9 (a:Arc) (l:List Pt) (w:World) (hd:zcF w a l):Calls Tryz.prog 44 #[.agg #[.int .i64 a.time,.int .i64 a.step,.int .i64 a.thrust.lo,.int .i64 a.thrust.hi,.int .i64 a.flow.lo,.int .i64 a.flow.hi,.int .i64 a.dir.x.lo,.int .i64 a.dir.x.hi,.int .i64 a.dir.y.lo,.int .i64 a.dir.y.hi,.int .i64 a.dir.z.lo,.int .i64 a.dir.z.hi,.slice a.drag.ao a.drag.n a.drag.cap,.int .i64 a.drop.lo,.int .i64 a.drop.hi]] w fun e w'=>e=.returned (.int .i64 (zci (a.okB l) 2))∧Grew w w':=by
 have Hn:=Lib.hid (zlA hd)
 have Hd:=Lib.hid hd
 clear hd
 have i0:∀ w,(Instr.index 26 (.agg #[.int .i64 a.dir.x.lo,.int .i64 a.dir.x.hi,.int .i64 a.dir.y.lo,.int .i64 a.dir.y.hi,.int .i64 a.dir.z.lo,.int .i64 a.dir.z.hi]) (.int .i64 0)).run Tryz.prog w=.ok (.agg #[.int .i64 a.dir.x.lo,.int .i64 a.dir.x.hi]) w:=fun _=>by kernel_rfl
 have i1:∀ w,(Instr.index 26 (.agg #[.int .i64 a.dir.x.lo,.int .i64 a.dir.x.hi,.int .i64 a.dir.y.lo,.int .i64 a.dir.y.hi,.int .i64 a.dir.z.lo,.int .i64 a.dir.z.hi]) (.int .i64 1)).run Tryz.prog w=.ok (.agg #[.int .i64 a.dir.y.lo,.int .i64 a.dir.y.hi]) w:=fun _=>by kernel_rfl
 have i2:∀ w,(Instr.index 26 (.agg #[.int .i64 a.dir.x.lo,.int .i64 a.dir.x.hi,.int .i64 a.dir.y.lo,.int .i64 a.dir.y.hi,.int .i64 a.dir.z.lo,.int .i64 a.dir.z.hi]) (.int .i64 2)).run Tryz.prog w=.ok (.agg #[.int .i64 a.dir.z.lo,.int .i64 a.dir.z.hi]) w:=fun _=>by kernel_rfl
 go_enter Tryz.func44,Tryz.ntmps44
 go_wp2
 go_loopw [11] (fun t wr=>∃ k:Nat,t=.int .i64 k∧k≤3∧(∀ j,j<k→(a.dir.at j).inB unit=true)∧Grew ((w.alloc (.cells #[.int .i64 a.time,.int .i64 a.step,.int .i64 a.thrust.lo,.int .i64 a.thrust.hi,.int .i64 a.flow.lo,.int .i64 a.flow.hi,.int .i64 a.dir.x.lo,.int .i64 a.dir.x.hi,.int .i64 a.dir.y.lo,.int .i64 a.dir.y.hi,.int .i64 a.dir.z.lo,.int .i64 a.dir.z.hi,.slice a.drag.ao a.drag.n a.drag.cap,.int .i64 a.drop.lo,.int .i64 a.drop.hi] 48)).alloc (.cells #[.int .i64 (-4294967296),.int .i64 4294967296] 24)) wr) (fun t _=>3-(intOf t).toNat)
 case atStart=>exact ⟨0,rfl,by omega,fun j hj=>by omega,gw⟩
 case round=>
  obtain ⟨k,rfl,hk,hall,hg⟩:=hrel
  obtain ⟨x,rfl⟩:=zal hg
  clear hg
  have Hall:=Lib.hid hall
  clear hall
  by_cases hlt:k<3
  ·have hkk:k=0∨k=1∨k=2:=by omega
   rcases hkk with rfl|rfl|rfl
   ·cases h:(a.dir.x).inB unit
    ·go_wp2_with (first|(go_at_call 94;(with_reducible refine zaa (zaK _ unit _) ?_);intro u))
     go_ret
     exact ⟨zay (by rw[show a.okB l=false by simp[Arc.okB,dirB,h]];rfl),gw⟩
    ·go_wp2_with (first|(go_at_call 94;(with_reducible refine zaa (zaK _ unit _) ?_);intro u))
     go_roundw
     case rel=>exact ⟨0+1,rfl,by omega,fun j hj=>by rcases Nat.lt_succ_iff_lt_or_eq.1 hj with hj|rfl;exact Hall.out j hj;exact h,gw⟩
     case measure=>simp[intOf]
   ·cases h:(a.dir.y).inB unit
    ·go_wp2_with (first|(go_at_call 94;(with_reducible refine zaa (zaK _ unit _) ?_);intro u))
     go_ret
     exact ⟨zay (by rw[show a.okB l=false by simp[Arc.okB,dirB,h]];rfl),gw⟩
    ·go_wp2_with (first|(go_at_call 94;(with_reducible refine zaa (zaK _ unit _) ?_);intro u))
     go_roundw
     case rel=>exact ⟨1+1,rfl,by omega,fun j hj=>by rcases Nat.lt_succ_iff_lt_or_eq.1 hj with hj|rfl;exact Hall.out j hj;exact h,gw⟩
     case measure=>simp[intOf]
   ·cases h:(a.dir.z).inB unit
    ·go_wp2_with (first|(go_at_call 94;(with_reducible refine zaa (zaK _ unit _) ?_);intro u))
     go_ret
     exact ⟨zay (by rw[show a.okB l=false by simp[Arc.okB,dirB,h]];rfl),gw⟩
    ·go_wp2_with (first|(go_at_call 94;(with_reducible refine zaa (zaK _ unit _) ?_);intro u))
     go_roundw
     case rel=>exact ⟨2+1,rfl,by omega,fun j hj=>by rcases Nat.lt_succ_iff_lt_or_eq.1 hj with hj|rfl;exact Hall.out j hj;exact h,gw⟩
     case measure=>simp[intOf]
  ·obtain rfl:k=3:=by omega
   have Hdir:=Lib.hid (show dirB a.dir=true by
    have h0:=Hall.out 0 (by omega)
    have h1:=Hall.out 1 (by omega)
    have h2:=Hall.out 2 (by omega)
    simp only[Bx.at] at h0 h1 h2
    simp[dirB,h0,h1,h2])
   clear Hall
   have hW:=SlAt.fresh (w:=x.world) [.int .i64 a.thrust.lo,.int .i64 a.thrust.hi,.int .i64 a.flow.lo,.int .i64 a.flow.hi,.int .i64 a.drop.lo,.int .i64 a.drop.hi] 24 3 3 (by simp[maxLen])
   obtain ⟨ao,cap,e,-,hc⟩:=hW
   cases e
   have Hc:=Lib.hid (SlAt.elem (f:=Sp.cells) (c:=2) (l:=[a.thrust,a.flow,a.drop]) (fun _=>rfl) (by omega) hc)
   clear hc
   rw[show ((3:Nat):Int)=3 from rfl]
   go_wp2_with fail
   go_loopw [27] (fun t wr=>∃ k:Nat,t=.int .i64 k∧k≤3∧([a.thrust,a.flow,a.drop].take k).all (fun s=>s.leastB 0)=true∧Grew (x.world.alloc (.cells #[.int .i64 a.thrust.lo,.int .i64 a.thrust.hi,.int .i64 a.flow.lo,.int .i64 a.flow.hi,.int .i64 a.drop.lo,.int .i64 a.drop.hi] 24)) wr) (fun t _=>3-(intOf t).toNat)
   case atStart=>exact ⟨0,rfl,by omega,rfl,gw⟩
   case round=>
    obtain ⟨k,rfl,hk,hall,hg⟩:=hrel
    obtain ⟨y,rfl⟩:=zal hg
    clear hg
    have Hall:=Lib.hid hall
    clear hall
    by_cases hlt:k<3
    ·obtain ⟨b1,o1,e1,i1,hd1,hd2⟩:=Hc.out k hlt
     cases e1
     have hd1:=hd1 _ rfl
     have hd2:=hd2 1 _ rfl
     obtain ⟨s,hs⟩:∃ s,s=[a.thrust,a.flow,a.drop][k]:=⟨_,rfl⟩
     rw[←hs] at hd1 hd2
     have Hno:=Lib.hid (fun h:s.leastB 0=false=>show a.okB l=false by simp only[Arc.okB,zgG,zfd (fun s:Sp=>s.leastB 0) [a.thrust,a.flow,a.drop] k hlt (by rw[←hs];exact h),Bool.and_false,Bool.false_and])
     have Hs:=Lib.hid hs
     clear hs
     simp only[Nat.zero_add] at hd1 hd2
     rcases znx s.okB (decide (0≤s.lo)) with h1|⟨h1,h2⟩|⟨h1,h2⟩
     ·go_wp2_with (first|(go_at_call 71;(with_reducible refine zaa (zeJ s _ _ (SlAt.fresh _ _ _ _ (by simp[maxLen]))) ?_);intro u))
      go_ret
      exact ⟨zay (by rw[Hno.out (by simp[Sp.leastB,h1])];rfl),gw⟩
     ·have h3:s.lo<0:=by simpa using h2
      go_wp2_with (first|(go_at_call 71;(with_reducible refine zaa (zeJ s _ _ (SlAt.fresh _ _ _ _ (by simp[maxLen]))) ?_);intro u))
      go_ret
      exact ⟨zay (by rw[Hno.out (by simp[Sp.leastB];omega)];rfl),gw⟩
     ·have h3:0≤s.lo:=by simpa using h2
      go_wp2_with (first|(go_at_call 71;(with_reducible refine zaa (zeJ s _ _ (SlAt.fresh _ _ _ _ (by simp[maxLen]))) ?_);intro u))
      go_roundw
      case rel=>exact ⟨k+1,by go_num,by omega,zc2 (fun s:Sp=>s.leastB 0) [a.thrust,a.flow,a.drop] k hlt Hall.out (by rw[←Hs.out];simp[Sp.leastB,h1,h3]),gw⟩
      case measure=>simp[intOf];omega
    ·obtain rfl:k=3:=by omega
     rw[show ((3:Nat):Int)=3 from rfl]
     have Hf:=Lib.hid (show zgG a=true from Hall.out)
     clear Hall Hc
     have hfin:a.okB l=(decide (1≤a.time)&&decide (1≤a.step)&&zjK l):=by simp only[Arc.okB,Hdir.out,Hf.out,Bool.true_and]
     have Hfin:=Lib.hid hfin
     clear hfin Hf Hdir
     rcases zcd (1≤a.time) with h1|h1
     ·go_wp2_with (first|(go_at_call 95;(with_reducible refine zaa (zds a l _ (Hd.out.grew gw)) ?_);intro u))
      go_ret
      exact ⟨zay (by rw[Hfin.out,decide_eq_false (by omega)];rfl),gw⟩
     rcases zcd (1≤a.step) with h2|h2
     ·go_wp2_with (first|(go_at_call 95;(with_reducible refine zaa (zds a l _ (Hd.out.grew gw)) ?_);intro u))
      go_ret
      exact ⟨zay (by rw[Hfin.out,decide_eq_false (show ¬ 1≤a.step by omega),Bool.and_false];rfl),gw⟩
     rcases zcd (a.drag.n=0) with h3|h3
     ·have h3':0<a.drag.n:=by omega
      have Hl:=Lib.hid (show l.isEmpty=false by have:=Hn.out;cases l with|nil=>exact absurd this h3|cons _ _=>rfl)
      clear h3
      cases h4:zaY l
      ·go_wp2_with (first|(go_at_call 95;(with_reducible refine zaa (zds a l _ (Hd.out.grew gw)) ?_);intro u))
       go_ret
       exact ⟨zay (by rw[Hfin.out,zjK,Hl.out,h4,Bool.or_false,Bool.and_false];rfl),gw⟩
      ·go_wp2_with (first|(go_at_call 95;(with_reducible refine zaa (zds a l _ (Hd.out.grew gw)) ?_);intro u))
       go_ret
       exact ⟨zay (by rw[Hfin.out,zjK,h4,Bool.or_true,decide_eq_true h1,decide_eq_true h2];rfl),gw⟩
     ·have h3':¬ 0<a.drag.n:=by omega
      have Hl:=Lib.hid (show l.isEmpty=true by have:=Hn.out;cases l with|nil=>rfl|cons _ _=>simp at this;omega)
      clear h3
      go_wp2_with (first|(go_at_call 95;(with_reducible refine zaa (zds a l _ (Hd.out.grew gw)) ?_);intro u))
      go_ret
      exact ⟨zay (by rw[Hfin.out,zjK,Hl.out,Bool.true_or,decide_eq_true h1,decide_eq_true h2];rfl),gw⟩
end Go.Proofs.YtdkfkalplmgoeaaGreat
namespace Go.Proofs.YtdkfkalplmgoeaaGreat
open Go.RowKit
set_option maxRecDepth 100000
set_option maxHeartbeats 1000000

theorem Planet.okB' (p:Planet):p.okB=(p.pull.okB&&p.mu.leastB 0&&p.radius.leastB 0&&p.oblate.okB&&p.spin.okB):=by
 simp only[Planet.okB,Sp.leastB]
 cases p.pull.okB<;>cases p.mu.okB<;>cases p.radius.okB<;>cases p.oblate.okB<;>cases p.spin.okB<;>simp
theorem State.okB' (s:State):s.okB=(numB s.t&&s.p.okB&&s.v.okB&&s.m.leastB 1):=by
 simp only[State.okB,Sp.leastB]
 cases numB s.t<;>cases s.p.okB<;>cases s.v.okB<;>cases s.m.okB<;>simp
theorem Tube.okB' (t:Tube):t.okB=(numB t.a&&numB t.z&&decide (t.a≤t.z)&&t.p.okB&&t.v.okB&&t.m.leastB 1):=by
 simp only[Tube.okB,Sp.leastB]
 cases numB t.a<;>cases numB t.z<;>cases t.p.okB<;>cases t.v.okB<;>cases t.m.okB<;>simp
theorem zk2 (a:Sp) (w:World):Calls Tryz.prog 108 #[.agg #[.int .i64 a.lo,.int .i64 a.hi]] w fun e w'=>e=.returned (.bool a.okB)∧Grew w w':=by
 cases h:a.okB
 all_goals
  go_enter Tryz.func108,Tryz.ntmps108
  go_wp2_with (first|(go_at_call 87;(with_reducible refine zaa (zaM _ _) ?_);intro u))
  go_ret
  exact ⟨za3 (by simp),gw⟩
theorem zeQ (a:Sp) (n:Int) (w:World):Calls Tryz.prog 86 #[.agg #[.int .i64 a.lo,.int .i64 a.hi],.int .i64 n] w fun e w'=>e=.returned (.bool (a.leastB n))∧Grew w w':=by
 rcases zaS (a.okB) with h1|h1
 rotate_left
 rcases zcd (n≤a.lo) with h2|h2
 rotate_left
 all_goals
  go_enter Tryz.func86,Tryz.ntmps86
  go_wp2_with (first|(go_at_call 87;(with_reducible refine zaa (zaM _ _) ?_);intro u))
  go_ret
  exact ⟨za3 (by (first|(simp[Sp.leastB, *];done)|(simp[Sp.leastB, *]<;>omega)|(simp[Sp.leastB, *];omega))),gw⟩
theorem zkx (d:Bx) (k:Nat) (hk:k<3) (h:(d.at k).okB=false):d.okB=false:=by
 match k,hk with
 |0,_=>simp only[Bx.at] at h;simp[Bx.okB,h]
 |1,_=>simp only[Bx.at] at h;simp[Bx.okB,h]
 |2,_=>simp only[Bx.at] at h;simp[Bx.okB,h]
theorem zj2 (b:Bx) (w:World):Calls Tryz.prog 85 #[.agg #[.int .i64 b.x.lo,.int .i64 b.x.hi,.int .i64 b.y.lo,.int .i64 b.y.hi,.int .i64 b.z.lo,.int .i64 b.z.hi]] w fun e w'=>e=.returned (.bool b.okB)∧Grew w w':=by
 go_enter Tryz.func85,Tryz.ntmps85
 go_wp2
 go_loopw [3] (fun t wr=>∃ k:Nat,t=.int .i64 k∧k≤3∧(∀ j,j<k→(b.at j).okB=true)∧Grew (w.alloc (.cells #[.int .i64 b.x.lo,.int .i64 b.x.hi,.int .i64 b.y.lo,.int .i64 b.y.hi,.int .i64 b.z.lo,.int .i64 b.z.hi] 26)) wr) (fun t _=>3-(intOf t).toNat)
 case atStart=>exact ⟨0,rfl,by omega,fun j hj=>by omega,gw⟩
 case round=>
  obtain ⟨k,rfl,hk,hall,hg⟩:=hrel
  obtain ⟨x,rfl⟩:=zal hg
  clear hg
  have Hall:=Lib.hid hall
  clear hall
  by_cases hlt:k<3
  ·have hkk:k=0∨k=1∨k=2:=by omega
   rcases hkk with rfl|rfl|rfl
   ·cases h:b.x.okB
    ·go_wp2_with (first|(go_at_call 87;(with_reducible refine zaa (zaM _ _) ?_);intro u))
     go_ret
     exact ⟨za3 (by rw[zkx b 0 (by omega) h]),gw⟩
    ·go_wp2_with (first|(go_at_call 87;(with_reducible refine zaa (zaM _ _) ?_);intro u))
     go_roundw
     case rel=>exact ⟨0+1,rfl,by omega,fun j hj=>by rcases Nat.lt_succ_iff_lt_or_eq.1 hj with hj|rfl;exact Hall.out j hj;exact h,gw⟩
     case measure=>simp[intOf]
   ·cases h:b.y.okB
    ·go_wp2_with (first|(go_at_call 87;(with_reducible refine zaa (zaM _ _) ?_);intro u))
     go_ret
     exact ⟨za3 (by rw[zkx b 1 (by omega) h]),gw⟩
    ·go_wp2_with (first|(go_at_call 87;(with_reducible refine zaa (zaM _ _) ?_);intro u))
     go_roundw
     case rel=>exact ⟨1+1,rfl,by omega,fun j hj=>by rcases Nat.lt_succ_iff_lt_or_eq.1 hj with hj|rfl;exact Hall.out j hj;exact h,gw⟩
     case measure=>simp[intOf]
   ·cases h:b.z.okB
    ·go_wp2_with (first|(go_at_call 87;(with_reducible refine zaa (zaM _ _) ?_);intro u))
     go_ret
     exact ⟨za3 (by rw[zkx b 2 (by omega) h]),gw⟩
    ·go_wp2_with (first|(go_at_call 87;(with_reducible refine zaa (zaM _ _) ?_);intro u))
     go_roundw
     case rel=>exact ⟨2+1,rfl,by omega,fun j hj=>by rcases Nat.lt_succ_iff_lt_or_eq.1 hj with hj|rfl;exact Hall.out j hj;exact h,gw⟩
     case measure=>simp[intOf]
  ·obtain rfl:k=3:=by omega
   rw[show ((3:Nat):Int)=3 from rfl]
   go_wp2
   go_ret
   exact ⟨za3 (by
    have h0:=Hall.out 0 (by omega)
    have h1:=Hall.out 1 (by omega)
    have h2:=Hall.out 2 (by omega)
    simp only[Bx.at] at h0 h1 h2
    simp[Bx.okB,h0,h1,h2]),gw⟩
theorem zfp (p:Planet) (w:World):Calls Tryz.prog 49 #[.agg #[.int .i64 p.mu.lo,.int .i64 p.mu.hi,.int .i64 p.radius.lo,.int .i64 p.radius.hi,.int .i64 p.oblate.lo,.int .i64 p.oblate.hi,.int .i64 p.spin.lo,.int .i64 p.spin.hi,.int .i64 p.pull.x.lo,.int .i64 p.pull.x.hi,.int .i64 p.pull.y.lo,.int .i64 p.pull.y.hi,.int .i64 p.pull.z.lo,.int .i64 p.pull.z.hi]] w fun e w'=>e=.returned (.int .i64 (zci p.okB 2))∧Grew w w':=by
 rcases zaS (p.pull.okB) with h1|h1
 rotate_left
 rcases zaS (p.mu.leastB 0) with h2|h2
 rotate_left
 rcases zaS (p.radius.leastB 0) with h3|h3
 rotate_left
 rcases zaS (p.oblate.okB) with h4|h4
 rotate_left
 rcases zaS (p.spin.okB) with h5|h5
 rotate_left
 all_goals
  go_enter Tryz.func49,Tryz.ntmps49
  go_wp2_with (first|(go_at_call 85;(with_reducible refine zaa (zj2 _ _) ?_);intro u)|(go_at_call 86;(with_reducible refine zaa (zeQ _ _ _) ?_);intro u)|(go_at_call 108;(with_reducible refine zaa (zk2 _ _) ?_);intro u))
  all_goals go_ret
  all_goals exact ⟨zay (by (first|(rw[show p.okB=true from by simp[Planet.okB', *]];rfl)|(rw[show p.okB=false from by simp[Planet.okB', *]<;>omega];rfl)|(rw[show p.okB=true from by simp[Planet.okB', *]<;>omega];rfl))),gw⟩
theorem zfY (s:State) (w:World):Calls Tryz.prog 38 #[.agg #[.int .i64 s.t,.int .i64 s.p.x.lo,.int .i64 s.p.x.hi,.int .i64 s.p.y.lo,.int .i64 s.p.y.hi,.int .i64 s.p.z.lo,.int .i64 s.p.z.hi,.int .i64 s.v.x.lo,.int .i64 s.v.x.hi,.int .i64 s.v.y.lo,.int .i64 s.v.y.hi,.int .i64 s.v.z.lo,.int .i64 s.v.z.hi,.int .i64 s.m.lo,.int .i64 s.m.hi]] w fun e w'=>e=.returned (.int .i64 (zci s.okB 2))∧Grew w w':=by
 rcases zaS (numB s.t) with h1|h1
 rotate_left
 rcases zaS (s.p.okB) with h2|h2
 rotate_left
 rcases zaS (s.v.okB) with h3|h3
 rotate_left
 rcases zaS (s.m.leastB 1) with h4|h4
 rotate_left
 all_goals
  go_enter Tryz.func38,Tryz.ntmps38
  go_wp2_with (first|(go_at_call 50;(with_reducible refine zaa (zeS _ _) ?_);intro u)|(go_at_call 85;(with_reducible refine zaa (zj2 _ _) ?_);intro u)|(go_at_call 86;(with_reducible refine zaa (zeQ _ _ _) ?_);intro u))
  all_goals go_ret
  all_goals exact ⟨zay (by (first|(rw[show s.okB=true from by simp[State.okB', *]];rfl)|(rw[show s.okB=false from by simp[State.okB', *]<;>omega];rfl)|(rw[show s.okB=true from by simp[State.okB', *]<;>omega];rfl))),gw⟩
theorem zdq (a:Arc) (l:List Pt) (w:World) (hd:zcF w a l):Calls Tryz.prog 42 #[.agg #[.int .i64 a.time,.int .i64 a.step,.int .i64 a.thrust.lo,.int .i64 a.thrust.hi,.int .i64 a.flow.lo,.int .i64 a.flow.hi,.int .i64 a.dir.x.lo,.int .i64 a.dir.x.hi,.int .i64 a.dir.y.lo,.int .i64 a.dir.y.hi,.int .i64 a.dir.z.lo,.int .i64 a.dir.z.hi,.slice a.drag.ao a.drag.n a.drag.cap,.int .i64 a.drop.lo,.int .i64 a.drop.hi]] w fun e w'=>e=.returned (.int .i64 (zci (a.okB l) 2))∧Grew w w':=by
 have Hn:=Lib.hid (zlA hd)
 have Hd:=Lib.hid hd
 clear hd
 go_enter Tryz.func42,Tryz.ntmps42
 go_wp2
 go_loopw [3] (fun t wr=>∃ k:Nat,t=.int .i64 k∧k≤3∧(∀ j,j<k→(a.dir.at j).inB unit=true)∧Grew (w.alloc (.cells #[.int .i64 a.time,.int .i64 a.step,.int .i64 a.thrust.lo,.int .i64 a.thrust.hi,.int .i64 a.flow.lo,.int .i64 a.flow.hi,.int .i64 a.dir.x.lo,.int .i64 a.dir.x.hi,.int .i64 a.dir.y.lo,.int .i64 a.dir.y.hi,.int .i64 a.dir.z.lo,.int .i64 a.dir.z.hi,.slice a.drag.ao a.drag.n a.drag.cap,.int .i64 a.drop.lo,.int .i64 a.drop.hi] 48)) wr) (fun t _=>3-(intOf t).toNat)
 case atStart=>exact ⟨0,rfl,by omega,fun j hj=>by omega,gw⟩
 case round=>
  obtain ⟨k,rfl,hk,hall,hg⟩:=hrel
  obtain ⟨x,rfl⟩:=zal hg
  clear hg
  have Hall:=Lib.hid hall
  clear hall
  by_cases hlt:k<3
  ·have hkk:k=0∨k=1∨k=2:=by omega
   rcases hkk with rfl|rfl|rfl
   ·cases h:(a.dir.x).inB unit
    ·go_wp2_with (first|(go_at_call 92;(with_reducible refine zaa (zb5 _ unit _) ?_);intro u))
     go_ret
     exact ⟨zay (by rw[show a.okB l=false by simp[Arc.okB,dirB,h]];rfl),gw⟩
    ·go_wp2_with (first|(go_at_call 92;(with_reducible refine zaa (zb5 _ unit _) ?_);intro u))
     go_roundw
     case rel=>exact ⟨0+1,rfl,by omega,fun j hj=>by rcases Nat.lt_succ_iff_lt_or_eq.1 hj with hj|rfl;exact Hall.out j hj;exact h,gw⟩
     case measure=>simp[intOf]
   ·cases h:(a.dir.y).inB unit
    ·go_wp2_with (first|(go_at_call 92;(with_reducible refine zaa (zb5 _ unit _) ?_);intro u))
     go_ret
     exact ⟨zay (by rw[show a.okB l=false by simp[Arc.okB,dirB,h]];rfl),gw⟩
    ·go_wp2_with (first|(go_at_call 92;(with_reducible refine zaa (zb5 _ unit _) ?_);intro u))
     go_roundw
     case rel=>exact ⟨1+1,rfl,by omega,fun j hj=>by rcases Nat.lt_succ_iff_lt_or_eq.1 hj with hj|rfl;exact Hall.out j hj;exact h,gw⟩
     case measure=>simp[intOf]
   ·cases h:(a.dir.z).inB unit
    ·go_wp2_with (first|(go_at_call 92;(with_reducible refine zaa (zb5 _ unit _) ?_);intro u))
     go_ret
     exact ⟨zay (by rw[show a.okB l=false by simp[Arc.okB,dirB,h]];rfl),gw⟩
    ·go_wp2_with (first|(go_at_call 92;(with_reducible refine zaa (zb5 _ unit _) ?_);intro u))
     go_roundw
     case rel=>exact ⟨2+1,rfl,by omega,fun j hj=>by rcases Nat.lt_succ_iff_lt_or_eq.1 hj with hj|rfl;exact Hall.out j hj;exact h,gw⟩
     case measure=>simp[intOf]
  ·obtain rfl:k=3:=by omega
   rw[show ((3:Nat):Int)=3 from rfl]
   have Hdir:=Lib.hid (show dirB a.dir=true by
    have h0:=Hall.out 0 (by omega)
    have h1:=Hall.out 1 (by omega)
    have h2:=Hall.out 2 (by omega)
    simp only[Bx.at] at h0 h1 h2
    simp[dirB,h0,h1,h2])
   clear Hall
   have hfin:a.okB l=((a.thrust.leastB 0&&a.flow.leastB 0&&a.drop.leastB 0)&&decide (1≤a.time)&&decide (1≤a.step)&&zjK l):=by
    simp[Arc.okB,Hdir.out,zgG,Bool.and_assoc]
   have Hfin:=Lib.hid hfin
   clear hfin Hdir
   have hdrag:(a.drag.n=0∧zjK l=true)∨(0<a.drag.n∧zjK l=zaY l):=by
    have:=Hn.out
    cases l with
    |nil=>left;simp at this;exact ⟨this,rfl⟩
    |cons _ _=>right;simp at this;exact ⟨by omega,rfl⟩
   rcases hdrag with ⟨hz,hdr⟩|⟨hz,hdr⟩
   ·have hz':((a.drag.n:Int)==0)=true:=by simp[hz]
    have Hdr:=Lib.hid hdr
    clear hdr hz
    rcases zaS (a.thrust.leastB 0) with h1|h1
    rotate_left
    rcases zaS (a.flow.leastB 0) with h2|h2
    rotate_left
    rcases zaS (a.drop.leastB 0) with h3|h3
    rotate_left
    all_goals
     go_wp2_with (first|(go_at_call 86;(with_reducible refine zaa (zeQ _ _ _) ?_);intro u))
     all_goals go_ret
     all_goals exact ⟨zay (by rw[Hfin.out,Hdr.out];clear Hfin Hdr Hd Hn;(first|exact Eq.symm (zjG (by first|(simp[*];done)|(simp[*];omega)))|exact Eq.symm (zjF (by first|(simp[*];done)|(simp[*];omega))))),gw⟩
   ·have hz':((a.drag.n:Int)==0)=false:=by rw[beq_eq_false_iff_ne];omega
    have Hdr:=Lib.hid hdr
    clear hdr hz
    rcases zaS (a.thrust.leastB 0) with h1|h1
    rotate_left
    rcases zaS (a.flow.leastB 0) with h2|h2
    rotate_left
    rcases zaS (a.drop.leastB 0) with h3|h3
    rotate_left
    rcases zaS (zaY l) with h4|h4
    rotate_left
    all_goals
     go_wp2_with (first|(go_at_call 86;(with_reducible refine zaa (zeQ _ _ _) ?_);intro u)|(go_at_call 93;(with_reducible refine zaa (zk3 a l _ (Hd.out.grew gw)) ?_);intro u))
     all_goals go_ret
     all_goals exact ⟨zay (by rw[Hfin.out,Hdr.out];clear Hfin Hdr Hd Hn;(first|exact Eq.symm (zjG (by first|(simp[*];done)|(simp[*];omega)))|exact Eq.symm (zjF (by first|(simp[*];done)|(simp[*];omega))))),gw⟩

def zdW (a:Arc):Int:=(a.time-1)/a.step+1
def zaE (a:Arc) (l:List Pt):Int:=if a.okB l=true then (if zdW a≤4096 then 0 else 3) else 2
def zaF (a:Arc) (l:List Pt):Int:=if zaE a l=0 then zdW a else 0
theorem zjq (a:Arc) (h1:1≤a.time) (h2:1≤a.step):1≤zdW a∧zdW a≤a.time:=by
 unfold zdW
 have h3:0≤(a.time-1)/a.step:=Int.ediv_nonneg (by omega) (by omega)
 have h4:(a.time-1)/a.step≤a.time-1:=Int.ediv_le_self _ (by omega)
 omega
theorem ziL (t s:Int) (h2:1≤s):(t-1)/s+1=if t % s=0 then t/s else t/s+1:=by
 have e:=Int.mul_ediv_add_emod t s
 have n1:=Int.emod_nonneg t (show s≠0 by omega)
 have n2:=Int.emod_lt_of_pos t (show 0<s by omega)
 split
 ·rename_i h
  have:t-1=(s-1)+s*(t/s-1):=by rw[Int.mul_sub];omega
  rw[this,Int.add_mul_ediv_left _ _ (by omega),Int.ediv_eq_zero_of_lt (by omega) (by omega)]
  omega
 ·rename_i h
  have:t-1=(t % s-1)+s*(t/s):=by omega
  rw[this,Int.add_mul_ediv_left _ _ (by omega),Int.ediv_eq_zero_of_lt (by omega) (by omega)]
  omega
theorem zfe {a:Arc} {l:List Pt} (h:a.okB l=true):1≤a.time∧1≤a.step:=by
 simp only[Arc.okB,Bool.and_eq_true,decide_eq_true_eq] at h
 exact ⟨h.1.1.2,h.1.2⟩
theorem zkF (a:Arc) (l:List Pt) (w:World) (hd:zcF w a l) (ht:a.time≤9223372036854775807) (hs:a.step≤9223372036854775807):Calls Tryz.prog 45 #[.agg #[.int .i64 a.time,.int .i64 a.step,.int .i64 a.thrust.lo,.int .i64 a.thrust.hi,.int .i64 a.flow.lo,.int .i64 a.flow.hi,.int .i64 a.dir.x.lo,.int .i64 a.dir.x.hi,.int .i64 a.dir.y.lo,.int .i64 a.dir.y.hi,.int .i64 a.dir.z.lo,.int .i64 a.dir.z.hi,.slice a.drag.ao a.drag.n a.drag.cap,.int .i64 a.drop.lo,.int .i64 a.drop.hi]] w fun e w'=>e=.returned (.tuple #[.int .i64 (zaF a l),.int .i64 (zaE a l)])∧Grew w w':=by
 have Hd:=Lib.hid hd
 clear hd
 cases h:a.okB l
 ·go_enter Tryz.func45,Tryz.ntmps45
  go_wp2_with (first|(go_at_call 44;(with_reducible refine zaa (zf9 a l _ (Hd.out.grew gw)) ?_);intro u))
  go_ret2
  have hc:zaE a l=2:=by simp[zaE,h]
  exact ⟨zdf (by rw[show zaF a l=0 by simp[zaF,hc]]) (by rw[hc]),gw⟩
 ·have hp:=zfe h
  obtain ⟨hp1,hp2⟩:=hp
  have hb:=zjq a hp1 hp2
  obtain ⟨hb1,hb2⟩:=hb
  unfold zdW at hb1 hb2
  by_cases hl:(a.time-1)/a.step+1≤4096
  ·go_enter Tryz.func45,Tryz.ntmps45
   go_wp2_with (first|(go_at_call 44;(with_reducible refine zaa (zf9 a l _ (Hd.out.grew gw)) ?_);intro u))
   go_ret2
   have hc:zaE a l=0:=by rw[zaE,if_pos h,if_pos (by unfold zdW;omega)]
   exact ⟨zdf (by rw[show zaF a l=zdW a by simp[zaF,hc]];rfl) (by rw[hc]),gw⟩
  ·go_enter Tryz.func45,Tryz.ntmps45
   go_wp2_with (first|(go_at_call 44;(with_reducible refine zaa (zf9 a l _ (Hd.out.grew gw)) ?_);intro u))
   go_ret2
   have hc:zaE a l=3:=by rw[zaE,if_pos h,if_neg (by unfold zdW;omega)]
   exact ⟨zdf (by rw[show zaF a l=0 by simp[zaF,hc]]) (by rw[hc]),gw⟩
theorem zhT (a:Arc) (l:List Pt) (w:World) (hd:zcF w a l) (ht:a.time≤9223372036854775807) (hs:a.step≤9223372036854775807):Calls Tryz.prog 25 #[.agg #[.int .i64 a.time,.int .i64 a.step,.int .i64 a.thrust.lo,.int .i64 a.thrust.hi,.int .i64 a.flow.lo,.int .i64 a.flow.hi,.int .i64 a.dir.x.lo,.int .i64 a.dir.x.hi,.int .i64 a.dir.y.lo,.int .i64 a.dir.y.hi,.int .i64 a.dir.z.lo,.int .i64 a.dir.z.hi,.slice a.drag.ao a.drag.n a.drag.cap,.int .i64 a.drop.lo,.int .i64 a.drop.hi]] w fun e w'=>e=.returned (.tuple #[.int .i64 (zaF a l),.int .i64 (zaE a l)])∧Grew w w':=by
 have Hd:=Lib.hid hd
 clear hd
 cases h:a.okB l
 ·go_enter Tryz.func25,Tryz.ntmps25
  go_wp2_with (first|(go_at_call 42;(with_reducible refine zaa (zdq a l _ (Hd.out.grew gw)) ?_);intro u))
  go_ret2
  have hc:zaE a l=2:=by simp[zaE,h]
  exact ⟨zdf (by rw[show zaF a l=0 by simp[zaF,hc]]) (by rw[hc]),gw⟩
 ·have hp:=zfe h
  obtain ⟨hp1,hp2⟩:=hp
  have hb:=zjq a hp1 hp2
  obtain ⟨hb1,hb2⟩:=hb
  have he:=ziL a.time a.step hp2
  have hq0:0≤a.time/a.step:=Int.ediv_nonneg (by omega) (by omega)
  have hq1:a.time/a.step≤a.time:=Int.ediv_le_self _ (by omega)
  rcases zcd (a.time % a.step=0) with hr|hr
  ·rw[if_neg hr] at he
   have He:=Lib.hid (show zdW a=a.time/a.step+1 from he)
   have hq2:a.time/a.step+1≤a.time:=by rw[←He.out];exact hb2
   clear he hb1 hb2
   by_cases hl:a.time/a.step+1≤4096
   ·go_enter Tryz.func25,Tryz.ntmps25
    go_wp2_with (first|(go_at_call 42;(with_reducible refine zaa (zdq a l _ (Hd.out.grew gw)) ?_);intro u))
    go_ret2
    have hc:zaE a l=0:=by rw[zaE,if_pos h,if_pos (by rw[He.out];omega)]
    exact ⟨zdf (by rw[show zaF a l=zdW a by simp[zaF,hc],He.out]) (by rw[hc]),gw⟩
   ·go_enter Tryz.func25,Tryz.ntmps25
    go_wp2_with (first|(go_at_call 42;(with_reducible refine zaa (zdq a l _ (Hd.out.grew gw)) ?_);intro u))
    go_ret2
    have hc:zaE a l=3:=by rw[zaE,if_pos h,if_neg (by rw[He.out];omega)]
    exact ⟨zdf (by rw[show zaF a l=0 by simp[zaF,hc]]) (by rw[hc]),gw⟩
  ·rw[if_pos hr] at he
   have He:=Lib.hid (show zdW a=a.time/a.step from he)
   clear he hb1 hb2
   have hr':(a.time % a.step != 0)=false:=by simp[hr]
   clear hr
   by_cases hl:a.time/a.step≤4096
   ·go_enter Tryz.func25,Tryz.ntmps25
    go_wp2_with (first|(go_at_call 42;(with_reducible refine zaa (zdq a l _ (Hd.out.grew gw)) ?_);intro u))
    go_ret2
    have hc:zaE a l=0:=by rw[zaE,if_pos h,if_pos (by rw[He.out];omega)]
    exact ⟨zdf (by rw[show zaF a l=zdW a by simp[zaF,hc],He.out]) (by rw[hc]),gw⟩
   ·go_enter Tryz.func25,Tryz.ntmps25
    go_wp2_with (first|(go_at_call 42;(with_reducible refine zaa (zdq a l _ (Hd.out.grew gw)) ?_);intro u))
    go_ret2
    have hc:zaE a l=3:=by rw[zaE,if_pos h,if_neg (by rw[He.out];omega)]
    exact ⟨zdf (by rw[show zaF a l=0 by simp[zaF,hc]]) (by rw[hc]),gw⟩
end Go.Proofs.YtdkfkalplmgoeaaGreat
