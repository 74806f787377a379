/-
  Joined: RefIn.
-/
import Derived.Test.YtdkfkalplmgoeaaGreatCalcsH
namespace Go.Proofs.YtdkfkalplmgoeaaGreat
open Go.RowKit
set_option maxRecDepth 100000
set_option maxHeartbeats 8000000
def ziU (f:Nat→Bool):Nat→Bool
 |0=>true
 |k+1=>ziU f k&&f k
def zfR (b:Bx) (i:Nat):Sp:=b.list.getD i z0
theorem zl6 {w:World} {q:Nat} {b:Bx} (h:zav w q [.int .i64 b.x.lo,.int .i64 b.x.hi,.int .i64 b.y.lo,.int .i64 b.y.hi,.int .i64 b.z.lo,.int .i64 b.z.hi]) (i:Nat) (hi:i<3):w.cell? ⟨q,i*2,none⟩=some (.int .i64 (zfR b i).lo)∧w.cell? ⟨q,i*2+1,none⟩=some (.int .i64 (zfR b i).hi):=by
 match i,hi with
 |0,_=>exact ⟨(h 0 _ rfl).1,(h 1 _ rfl).1⟩
 |1,_=>exact ⟨(h 2 _ rfl).1,(h 3 _ rfl).1⟩
 |2,_=>exact ⟨(h 4 _ rfl).1,(h 5 _ rfl).1⟩
def insB (a b:Bx) (i:Nat):Bool:=(zfR a i).inB (zfR b i)
theorem zkt {f:Nat→Bool} {k n:Nat} (h:f k=false) (hk:k<n):ziU f n=false:=by
 induction n with
 |zero=>omega
 |succ n ih=>
  show (ziU f n&&f n)=false
  by_cases e:k=n
  ·rw[←e,h,Bool.and_false]
  ·rw[ih (by omega),Bool.false_and]
theorem zgs (aA bB:Bx) (w:World):Calls Tryz.prog 56 #[.agg #[.int .i64 aA.x.lo,.int .i64 aA.x.hi,.int .i64 aA.y.lo,.int .i64 aA.y.hi,.int .i64 aA.z.lo,.int .i64 aA.z.hi],.agg #[.int .i64 bB.x.lo,.int .i64 bB.x.hi,.int .i64 bB.y.lo,.int .i64 bB.y.hi,.int .i64 bB.z.lo,.int .i64 bB.z.hi]] w fun e w'=>e=.returned (.bool (ziU (insB aA bB) 3))∧Grew w w':=by
 have B1:=(zav.grew (zdm w [.int .i64 aA.x.lo,.int .i64 aA.x.hi,.int .i64 aA.y.lo,.int .i64 aA.y.hi,.int .i64 aA.z.lo,.int .i64 aA.z.hi] 26) (by simp) ((Grew.refl _).alloc (.cells #[.int .i64 bB.x.lo,.int .i64 bB.x.hi,.int .i64 bB.y.lo,.int .i64 bB.y.hi,.int .i64 bB.z.lo,.int .i64 bB.z.hi] 26)))
 have B2:=zdm (w.alloc (.cells #[.int .i64 aA.x.lo,.int .i64 aA.x.hi,.int .i64 aA.y.lo,.int .i64 aA.y.hi,.int .i64 aA.z.lo,.int .i64 aA.z.hi] 26)) [.int .i64 bB.x.lo,.int .i64 bB.x.hi,.int .i64 bB.y.lo,.int .i64 bB.y.hi,.int .i64 bB.z.lo,.int .i64 bB.z.hi] 26
 rw[show (w.alloc (.cells ([.int .i64 aA.x.lo,.int .i64 aA.x.hi,.int .i64 aA.y.lo,.int .i64 aA.y.hi,.int .i64 aA.z.lo,.int .i64 aA.z.hi]:List Value).toArray 26)).heap.size=w.heap.size+1 by simp] at B2
 have H1:=Lib.hid (zl6 B1)
 have H2:=Lib.hid (zl6 B2)
 have HW:=Lib.hid (fun i w=>show Calls Tryz.prog 92 #[.agg #[.int .i64 (zfR aA i).lo,.int .i64 (zfR aA i).hi],.agg #[.int .i64 (zfR bB i).lo,.int .i64 (zfR bB i).hi]] w fun e w'=>e=.returned (.bool (insB aA bB i))∧Grew w w' from zb5 _ _ w)
 clear B1 B2
 generalize hf:insB aA bB=f at *
 go_enter Tryz.func56,Tryz.ntmps56
 go_wp2
 go_loopw [5] (fun t wr=>∃ i:Nat,t=.int .i64 i∧i≤3∧ziU f i=true∧Grew ((w.alloc (.cells #[.int .i64 aA.x.lo,.int .i64 aA.x.hi,.int .i64 aA.y.lo,.int .i64 aA.y.hi,.int .i64 aA.z.lo,.int .i64 aA.z.hi] 26)).alloc (.cells #[.int .i64 bB.x.lo,.int .i64 bB.x.hi,.int .i64 bB.y.lo,.int .i64 bB.y.hi,.int .i64 bB.z.lo,.int .i64 bB.z.hi] 26)) wr) (fun t _=>3-(intOf t).toNat)
 case atStart=>exact ⟨0,rfl,by omega,rfl,gw⟩
 case round=>
  obtain ⟨i,rfl,hi,hall,hg⟩:=hrel
  obtain ⟨z,rfl⟩:=zal hg
  clear hg
  have Hall:=Lib.hid hall
  clear hall
  by_cases hlt:i<3
  ·obtain ⟨c0,c1⟩:=H1.out i hlt
   obtain ⟨d0,d1⟩:=H2.out i hlt
   have t1:((i:Nat):Int)<3:=by omega
   have W1:=Lib.hid (HW.out i)
   have hno:=Lib.hid (fun h:f i=false=>zkt h hlt)
   have hyes:=Lib.hid (fun h:f i=true=>show ziU f (i+1)=true by show (ziU f i&&f i)=true;rw[Hall.out,h];rfl)
   generalize zfR aA i=a1 at *
   generalize zfR bB i=a2 at *
   cases hx:f i
   ·rw[hx] at W1
    have hn:=Lib.hid (hno.out hx)
    clear hx hno hyes
    go_wp2_with (first|(go_at_call 92;(with_reducible refine zaa (W1.out _) ?_);intro u)|((with_reducible refine zab ?_ ?_ ?_);(· kernel_rfl);(· kernel_rfl);(try simp only[List.append_eq,List.cons_append,List.nil_append]);(repeat (go_big_quiet_step ((first|(go_at_call 92;(with_reducible exact zac (W1.out _)))))));refine wpQuiet_nil ?_;rintro _ ⟨u,rfl⟩))
    go_ret
    exact ⟨by rw[hn.out];rfl,gw⟩
   ·rw[hx] at W1
    have hn:=Lib.hid (hyes.out hx)
    clear hx hno hyes
    go_wp2_with (first|(go_at_call 92;(with_reducible refine zaa (W1.out _) ?_);intro u)|((with_reducible refine zab ?_ ?_ ?_);(· kernel_rfl);(· kernel_rfl);(try simp only[List.append_eq,List.cons_append,List.nil_append]);(repeat (go_big_quiet_step ((first|(go_at_call 92;(with_reducible exact zac (W1.out _)))))));refine wpQuiet_nil ?_;rintro _ ⟨u,rfl⟩))
    go_roundw
    case rel=>exact ⟨i+1,by go_num,by omega,hn.out,gw⟩
    case measure=>simp[intOf];omega
  ·have hi3:i=3:=by omega
   have t1:decide ((i:Int)<3)=false:=by simp;omega
   have HQ:=Lib.hid (show ziU f 3=true by rw[←hi3];exact Hall.out)
   clear hi3 hi hlt
   go_wp2
   go_ret
   exact ⟨by rw[HQ.out];rfl,gw⟩
end Go.Proofs.YtdkfkalplmgoeaaGreat
