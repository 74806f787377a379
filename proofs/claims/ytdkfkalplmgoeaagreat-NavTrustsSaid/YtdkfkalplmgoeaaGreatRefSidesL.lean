/-
  Joined: RefSides.
-/
import Derived.Test.YtdkfkalplmgoeaaGreatLexStopL
import Derived.Test.YtdkfkalplmgoeaaGreatDistLawL
namespace Go.Proofs.YtdkfkalplmgoeaaGreat
open Go.RowKit Go.Shelf
set_option maxRecDepth 100000
set_option maxHeartbeats 8000000
theorem zkF (a b:Sp):zcp a b=zcp b a:=by
 have h:zbb a b=zbb b a:=by
  unfold zbb imin imax
  congr 1
  ·(repeat' split)<;>omega
  ·(repeat' split)<;>omega
 unfold zcp
 rw[Bool.and_comm,h]
theorem zkN {a b:Sp} (ha:a.okB=true) (hb:b.okB=true) (h:(zaG a b).e≠0):zaG a b=errR 7:=by
 unfold zaG at *
 rw[ha,hb] at *
 simp only[Bool.and_self,if_true] at *
 split at h
 ·rename_i h1
  rw[if_pos h1]
 ·exact absurd rfl h
theorem zqj {a:Sp} [hs:S64 a] (h:a.okB=true):(negS a).okB=true:=by
 have h1:=hs.lo.2
 have h2:=hs.hi.2
 unfold negS Sp.okB numB at *
 simp at *
 omega
theorem zfa (c:Nat) (e:Int) (d g:Sp) [hgs:S64 g] (hok:e=0→d.okB=true∧g.okB=true) (w:World) (hc:w.cell? ⟨c,0,none⟩=some (.int .i64 e)) (hf:w.frozen? ⟨c,0,none⟩=false) :
 Calls Tryz.prog 143 #[.pointer (some ⟨c,0,none⟩),.agg #[.int .i64 d.lo,.int .i64 d.hi],.agg #[.int .i64 g.lo,.int .i64 g.hi]] w (RetC c (.agg #[.int .i64 ((doR e (zbU d g)).s).lo,.int .i64 ((doR e (zbU d g)).s).hi]) (doR e (zbU d g)).e w):=by
 have ib:BlockIn w c:=BlockIn.of_cell hc
 have hci:HasCell w c 0:=⟨_,hc⟩
 have Hb:=Lib.hid (But.refl hc)
 have Hc:=Lib.hid hc
 by_cases he:e=0
 ·obtain ⟨h1,h2⟩:=hok he
  subst he
  clear hok
  have HN:=Lib.hid (fun w'=>zfI g w')
  rw[show negR g=⟨negS g,0⟩ by unfold negR;rw[h2];rfl] at HN
  have HM1:=Lib.hid (fun w'=>zgm d g w')
  have HM2:=Lib.hid (fun w'=>zgm d (negS g) w')
  have H7b:=Lib.hid (fun h=>zkN h1 (zqj h2) h)
  have HS:doR 0 (zbU d g)=if (zaG d g).e=0 then (if (zaG d (negS g)).e=0 then zcp (zaG d (negS g)).s (zaG d g).s else zaG d g) else zaG d (negS g):=rfl
  clear h1 h2
  generalize negS g=n at *
  generalize doR 0 (zbU d g)=sr at *
  by_cases e1:(zaG d g).e=0
  ·rw[if_pos e1] at HS
   by_cases e2:(zaG d n).e=0
   ·rw[if_pos e2,zkF] at HS
    replace HS:=Lib.hid HS
    have e1':((zaG d g).e != 0)=false:=by simp[e1]
    have e2':((zaG d n).e != 0)=false:=by simp[e2]
    clear e1 e2 H7b
    generalize zaG d g=r1 at *
    generalize zaG d n=r2 at *
    go_enter Tryz.func143,Tryz.ntmps143
    go_wp2_with (first|(go_at_call 59;(with_reducible refine zaa (HN.out _) ?_);intro u0)|(go_at_call 184;(with_reducible refine zaa (HM1.out _) ?_);intro u1)|(go_at_call 184;(with_reducible refine zaa (HM2.out _) ?_);intro u2)|(go_at_call 118;(with_reducible refine zar (zla c 0 r1.s r2.s _ (by go_simp) (by go_simp)) ?_);intro u3))
    refine bodyPost_ret (by (simp[results,Tryz.results143,go_sem]<;>rfl)) rfl ?_
    refine ⟨zep (by rw[HS.out];rfl) (by rw[HS.out];rfl),But.out btw Hc.out ?_⟩
    rw[HS.out]
    go_simp
    rfl
   ·rw[if_neg e2] at HS
    replace HS:=Lib.hid HS
    have e1':((zaG d g).e != 0)=false:=by simp[e1]
    have e2':((zaG d n).e != 0)=true:=by simp[e2]
    have He1:=Lib.hid e1
    clear e1 e2 H7b
    generalize zaG d g=r1 at *
    generalize zaG d n=r2 at *
    go_enter Tryz.func143,Tryz.ntmps143
    go_wp2_with (first|(go_at_call 59;(with_reducible refine zaa (HN.out _) ?_);intro u0)|(go_at_call 184;(with_reducible refine zaa (HM1.out _) ?_);intro u1)|(go_at_call 184;(with_reducible refine zaa (HM2.out _) ?_);intro u2))
    refine bodyPost_ret (by (simp[results,Tryz.results143,go_sem]<;>rfl)) rfl ?_
    refine ⟨zep (by rw[HS.out]) (by rw[HS.out]),But.out btw Hc.out ?_⟩
    rw[HS.out,He1.out]
    go_simp
  ·rw[if_neg e1] at HS
   by_cases e2:(zaG d n).e=0
   ·replace HS:=Lib.hid HS
    have e1':((zaG d g).e != 0)=true:=by simp[e1]
    have e2':((zaG d n).e != 0)=false:=by simp[e2]
    have He2:=Lib.hid e2
    clear e1 e2 H7b
    generalize zaG d g=r1 at *
    generalize zaG d n=r2 at *
    go_enter Tryz.func143,Tryz.ntmps143
    go_wp2_with (first|(go_at_call 59;(with_reducible refine zaa (HN.out _) ?_);intro u0)|(go_at_call 184;(with_reducible refine zaa (HM1.out _) ?_);intro u1)|(go_at_call 184;(with_reducible refine zaa (HM2.out _) ?_);intro u2))
    refine bodyPost_ret (by (simp[results,Tryz.results143,go_sem]<;>rfl)) rfl ?_
    refine ⟨zep (by rw[HS.out]) (by rw[HS.out]),But.out btw Hc.out ?_⟩
    rw[HS.out,He2.out]
    go_simp
   ·rw[H7b.out e2] at HS
    replace HS:=Lib.hid HS
    have e1':((zaG d g).e != 0)=true:=by simp[e1]
    have e2':((zaG d n).e != 0)=true:=by simp[e2]
    clear e1 e2 H7b
    generalize zaG d g=r1 at *
    generalize zaG d n=r2 at *
    go_enter Tryz.func143,Tryz.ntmps143
    go_wp2_with (first|(go_at_call 59;(with_reducible refine zaa (HN.out _) ?_);intro u0)|(go_at_call 184;(with_reducible refine zaa (HM1.out _) ?_);intro u1)|(go_at_call 184;(with_reducible refine zaa (HM2.out _) ?_);intro u2))
    refine bodyPost_ret (by (simp[results,Tryz.results143,go_sem]<;>rfl)) rfl ?_
    refine ⟨zep (by rw[HS.out];rfl) (by rw[HS.out];rfl),But.out btw Hc.out ?_⟩
    rw[HS.out]
    show _=some (Value.int .i64 7)
    go_simp
 ·have HD:=Lib.hid (ze0 (zbU d g) he)
  have he':(e != 0)=true:=by simp[he]
  clear he hok
  go_enter Tryz.func143,Tryz.ntmps143
  go_wp2
  refine bodyPost_ret (by (simp[results,Tryz.results143,go_sem]<;>rfl)) rfl ?_
  refine ⟨zep (by rw[HD.out];rfl) (by rw[HD.out];rfl),But.out btw Hc.out ?_⟩
  rw[HD.out]
  show _=some (Value.int .i64 e)
  go_simp
end Go.Proofs.YtdkfkalplmgoeaaGreat
