/-
  Joined: RefTB.
-/
import Derived.Test.YtdkfkalplmgoeaaGreatRefTAL
import Derived.Test.YtdkfkalplmgoeaaGreatFuseRefL
import Derived.Test.YtdkfkalplmgoeaaGreatTrustGL
import Derived.Test.YtdkfkalplmgoeaaGreatTrustOutL
import Derived.Deep.DeepCutAuto
import Derived.Deep.CutBlock
namespace Go.Proofs.YtdkfkalplmgoeaaGreat
open Go.RowKit Go.Shelf
set_option maxRecDepth 100000
set_option maxHeartbeats 16000000
set_option linter.unusedSimpArgs false
section
variable (s:State) (l:List Radio) (n:Int) (ao:Option Addr) (cap:Nat) (w:World) (hs:SlAt w (.slice ao l.length cap) l.length (l.flatMap Radio.cells))
include hs
theorem zjs (wrong:Int) (hE:zaQ s l n≠0):Calls Tryz.prog 6 #[.agg s.cells.toArray,.slice ao l.length cap,.int .i64 wrong,.int .i64 n] w (zh2 (zcF s l wrong n) w):=by
 have HR:=Lib.hid (show zcF s l wrong n=errT (zaQ s l n) by unfold zcF;rw[if_neg hE])
 have HC:=Lib.hid (fun w' (g:Grew w w')=>show Calls Tryz.prog 21 #[.agg s.cells.toArray,.slice ao l.length cap,.int .i64 n] w' (fun e w''=>e=.returned (.int .i64 (zaQ s l n))∧Grew w' w'') from zcq s l n ao cap w' (hs.grew g))
 have t0:(zaQ s l n != 0)=true:=by simp[hE]
 clear hE hs
 generalize zcF s l wrong n=R at *
 generalize zaQ s l n=E at *
 go_enter Tryz.func6,Tryz.ntmps6
 go_wp2_with (first|(go_at_call 21;(with_reducible refine zaa (HC.out _ gw) ?_);intro u)|(with_reducible refine wLi ?_)|(with_reducible refine wSf ?_)|(with_reducible refine wSi ?_)|((with_reducible refine zac ?_ ?_ ?_);(· kernel_rfl);(· kernel_rfl);(try simp only[List.append_eq,List.cons_append,List.nil_append]);(repeat (go_big_quiet_step ((first|(go_at_call 21;(with_reducible exact zad (HC.out _ gw)))))));refine wpQuiet_nil ?_;rintro _ ⟨u,rfl⟩))
 refine bodyPost_ret (zdV Tryz.results6 rfl rfl inferInstance inferInstance inferInstance) rfl ?_
 exact ⟨zfs HR.out,gwr⟩
theorem zhJ (wrong:Int) (hE:zaQ s l n=0) (hw:wrong<0∨2<wrong∨(l.length:Int)<wrong):Calls Tryz.prog 6 #[.agg s.cells.toArray,.slice ao l.length cap,.int .i64 wrong,.int .i64 n] w (zh2 (zcF s l wrong n) w):=by
 have HR:=Lib.hid (show zcF s l wrong n=errT 2 by unfold zcF;rw[if_pos hE,if_pos hw])
 have HC:=Lib.hid (fun w' (g:Grew w w')=>show Calls Tryz.prog 21 #[.agg s.cells.toArray,.slice ao l.length cap,.int .i64 n] w' (fun e w''=>e=.returned (.int .i64 0)∧Grew w' w'') from zaH hE (zcq s l n ao cap w' (hs.grew g)))
 clear hE hs
 generalize zcF s l wrong n=R at *
 rcases (show wrong<0∨(¬ wrong<0∧2<wrong)∨(¬ wrong<0∧¬ 2<wrong∧(l.length:Int)<wrong) by omega) with c|⟨c,c2⟩|⟨c,c2,c3⟩
 all_goals
  clear hw
  go_enter Tryz.func6,Tryz.ntmps6
  go_wp2_with (first|(go_at_call 21;(with_reducible refine zaa (HC.out _ gw) ?_);intro u)|(with_reducible refine wLi ?_)|(with_reducible refine wSf ?_)|(with_reducible refine wSi ?_)|((with_reducible refine zac ?_ ?_ ?_);(· kernel_rfl);(· kernel_rfl);(try simp only[List.append_eq,List.cons_append,List.nil_append]);(repeat (go_big_quiet_step ((first|(go_at_call 21;(with_reducible exact zad (HC.out _ gw)))))));refine wpQuiet_nil ?_;rintro _ ⟨u,rfl⟩))
  refine bodyPost_ret (zdV Tryz.results6 rfl rfl inferInstance inferInstance inferInstance) rfl ?_
  exact ⟨zfs HR.out,gwr⟩
end
structure RtAt (w:World) (m:Nat) (s:State) (o:Option State) (z:World):Prop where
 grew:Grew w z
 rs:RowIs z w.heap.size 28 s.cells
 rz:RowIs z (w.heap.size+1) 28 State.zero.cells
 ro:RowIs z m 28 (outT o).cells
 lt:w.heap.size+2≤m
theorem zeA {o:Oper} {a:Act} {w:World} {b n:Nat} {t:TypeId} {l:List Value} (ty:TypeId) (x:Operand) (ho:o.op=.load ty x) (hx:a.eval x=.pointer (some ⟨b,0,none⟩)) [hs:StructTy ty n] [hr:RowIs w b t l] [hl:CLen l n]:(execOp a.eval o).run Tryz.prog w=.ok (.value (.agg l.toArray)) w:=by
 obtain ⟨⟨d,hd1,hd2⟩,hz⟩:=hs
 have h:(Instr.loadAt ty (.pointer (some ⟨b,0,none⟩))).run Tryz.prog w=.ok (.agg l.toArray) w:=by
  refine run_loadAt_mid w b 0 _ l d (fun i v hv=>?_) hd1 (by cases d<;>first|rfl|cases hd2) (by rw[hl.len];exact hz)
  rw[Nat.zero_add,zd2,hv]
 unfold execOp
 rw[ho]
 simp[hx,h]
theorem zdu (W:World) (b:Nat) (l l0:List Value) [h:OneCells l 15] [k:OneCells l0 15] [r:RowIs W b 28 l0]:(Instr.storeAt 28 (.pointer (some ⟨b,0,none⟩)) (.agg l.toArray)).run Tryz.prog W=.ok () (W.setRow b l.toArray):=
 @zeS Tryz.prog W b 28 15 l ⟨_,r.is,by simp[k.len]⟩ h (by kernel_rfl)
section
variable {ops:Array Oper} {o:Oper} {a:Act} {w:World} {K:Act→World→Prop} {Q:Exit→Act→World→Prop} {E:Prop}
theorem zeb (hgd:o.guard=none) (hd:o.dst=none) (ty:TypeId) (x y:Operand) (ho:o.op=.store ty x y) {p v:Value} (hx:a.eval x=p) (hy:a.eval y=v) {w':World} (h:(Instr.storeAt ty p v).run Tryz.prog w=.ok () w') (k:K a w'):if Region.wanted o (yielded ops a.tmps)=true then Oper.wp Tryz.prog o a w K Q else E:=by
 have hw:Region.wanted o (yielded ops a.tmps)=true:=by simp[Region.wanted,hgd]
 rw[if_pos hw]
 unfold Oper.wp execOp
 simp only[ho,hx,hy,Sem.run_bind,h,Result.andThen_ok,Sem.run_pure]
 have k2:K (a.put o.dst undef) w':=by rw[hd];exact k
 exact k2
end
theorem ziD (s:State) (l:List Radio) (wrong n:Int) [hp:Pv64 s] (hT:∀ m∈l,Ra64 m) (ao:Option Addr) (cap:Nat) (w:World) (hs:SlAt w (.slice ao l.length cap) l.length (l.flatMap Radio.cells)) (hE:zaQ s l n=0) (w0:0≤wrong) (w2:wrong≤2) (w3:wrong≤l.length) (hok:OkS s) :
 Calls Tryz.prog 6 #[.agg s.cells.toArray,.slice ao l.length cap,.int .i64 wrong,.int .i64 n] w (zh2 (zcF s l wrong n) w):=by
 obtain ⟨v1,v2,v3,v4⟩:=zcM hE
 have HR:=Lib.hid (show zcF s l wrong n=zkH (zhC s l wrong n (zb0 (l.length+1) (l.length+1) 0)) by unfold zcF;rw[if_pos hE,if_neg (by omega)])
 have HC:=Lib.hid (fun w' (g:Grew w w')=>show Calls Tryz.prog 21 #[.agg s.cells.toArray,.slice ao l.length cap,.int .i64 n] w' (fun e w''=>e=.returned (.int .i64 0)∧Grew w' w'') from zaH hE (zcq s l n ao cap w' (hs.grew g)))
 have HW:=Lib.hid (fun (i j:Int) w' (g:Grew w w')=>zeK l i j (by omega) ao cap w' (hs.grew g))
 have HF:=Lib.hid (fun (i j:Int) ao2 cap2 w' (hw:SlAt w' (.slice ao2 (zbA (zbo i j) l 0).length cap2) (zbA (zbo i j) l 0).length ((zbA (zbo i j) l 0).flatMap Radio.cells))=>show Calls Tryz.prog 22 #[.agg s.cells.toArray,.slice ao2 (zbA (zbo i j) l 0).length cap2,.int .i64 n] w' (zlx (zaB (zbo i j) l n.toNat 0 s) w') from by
  have:=zd7 s (zbA (zbo i j) l 0) n (zdL l 0 hT) (zdL l 0 v4) v2 v3 ao2 cap2 w' hw
  rw[zf1] at this
  exact this)
 have HO:=Lib.hid (fun (i j:Int) (h:(zaB (zbo i j) l n.toNat 0 s).e=0)=>show OkS (zaB (zbo i j) l n.toNat 0 s).s from by
  rcases zlR (zbo i j) l n.toNat 0 s with k|k
  ·exact (zj6 _ s _ hok k.2).1.ok
  ·omega)
 have c1:¬ (wrong<0):=by omega
 have c2:¬ (2<wrong):=by omega
 have c3:¬ ((l.length:Int)<wrong):=by omega
 have hl16:l.length≤16:=v1
 obtain ⟨O,hO⟩:∃ O:Nat→Nat→Option State,O=fun a c=>zhC s l wrong n (zb0 (l.length+1) a c):=⟨_,rfl⟩
 have HR2:=Lib.hid (show zcF s l wrong n=zkH (O (l.length+1) 0) by rw[hO];exact HR.out)
 have HO0:=Lib.hid (show O 0 0=none by rw[hO];rfl)
 have HOs:=Lib.hid (fun a c=>show O a (c+1)=zjA s l wrong n (O a c) (a,c) by rw[hO];exact zkY s l wrong n a c)
 have HOr:=Lib.hid (fun a=>show O a (l.length+1)=O (a+1) 0 by rw[hO];exact zmo s l wrong n a)
 clear hO HR hE hs v1 v2 v3 v4 hT hok w0 w2 w3
 generalize zcF s l wrong n=R at *
 go_enter Tryz.func6,Tryz.ntmps6
 go_wp2_with (first|(go_at_call 21;(with_reducible refine zaa (HC.out _ gw) ?_);intro u1)|(with_reducible refine wLi ?_)|(with_reducible refine wSf ?_)|(with_reducible refine wSi ?_))
 have hqm:w.heap.size+2≤u1.world.heap.size:=by
  have:=u1.grew.size
  simp at this
  omega
 go_loopw [12,13] (fun sv iv wr=>∃ (a:Nat) (i:Int),iv=.int .i64 i∧i=(a:Int)-1∧a≤l.length+1∧sv=.bool (O a 0).isSome∧Hid (RtAt w u1.world.heap.size s (O a 0) wr)∧Hid (∀ x,O a 0=some x→OkS x)) (fun _ iv _=>l.length+1-(intOf iv+1).toNat)
 case atStart=>exact ⟨0,-1,rfl,rfl,by omega,by rw[HO0.out];rfl,Lib.hid (by rw[HO0.out];exact ⟨gwr,inferInstance,inferInstance,inferInstance,hqm⟩),Lib.hid (fun x h=>by rw[HO0.out] at h;cases h)⟩
 case round=>
  obtain ⟨a,i,rfl,hi,ha,rfl,hJ,hOk⟩:=hrel
  generalize u1.world.heap.size=m at *
  have Hi:=Lib.hid hi
  have hi1:-1≤i:=by omega
  have hi2:i≤l.length:=by omega
  clear hi
  obtain ⟨z,rfl⟩:=zaj hJ.out.grew
  have rs:=hJ.out.rs
  have rz:=hJ.out.rz
  have ro:=hJ.out.ro
  have is:=rs.blockIn
  have iz:=rz.blockIn
  have io:=ro.blockIn
  by_cases hlt:a<l.length+1
  ·have hlt':i<(l.length:Int):=by have:=Hi.out;omega
   go_wp2
   go_loopw [12,14] (fun sv jv wr=>∃ (c:Nat) (j:Int),jv=.int .i64 j∧j=(c:Int)-1∧c≤l.length+1∧sv=.bool (O a c).isSome∧Hid (RtAt w m s (O a c) wr)∧Hid (∀ x,O a c=some x→OkS x)) (fun _ jv _=>l.length+1-(intOf jv+1).toNat)
   case atStart=>exact ⟨0,-1,rfl,rfl,by omega,rfl,hJ,hOk⟩
   case round=>
    obtain ⟨c,j,rfl,hj,hc,rfl,hJ2,hOk2⟩:=hrel
    have Hj:=Lib.hid hj
    have hj1:-1≤j:=by omega
    have hj2:j≤l.length:=by omega
    clear hj rs rz ro is iz io hJ hOk
    obtain ⟨y,rfl⟩:=zaj hJ2.out.grew
    have rs:=hJ2.out.rs
    have rz:=hJ2.out.rz
    have ro:=hJ2.out.ro
    have is:=rs.blockIn
    have iz:=rz.blockIn
    have io:=ro.blockIn
    have hlt2:=hJ2.out.lt
    have nm:NewFor w m:=⟨by omega⟩
    have am1:Apart m w.heap.size:=⟨by omega⟩
    have am2:Apart m (w.heap.size+1):=⟨by omega⟩
    have am3:Apart w.heap.size m:=⟨by omega⟩
    have am4:Apart (w.heap.size+1) m:=⟨by omega⟩
    by_cases hlc:c<l.length+1
    ·have hlc':j<(l.length:Int):=by have:=Hj.out;omega
     have hST:O a (c+1)=if zkX wrong i j=true then zeF (O a c) (zaB (zbo i j) l n.toNat 0 s) else O a c:=by
      rw[HOs.out]
      unfold zjA
      rw[Hi.out,Hj.out]
     obtain ⟨b0,hb0⟩:∃ b,b=((wrong==0)&&decide (i<0)&&decide (j<0)):=⟨_,rfl⟩
     obtain ⟨b1,hb1⟩:∃ b,b=((wrong==1)&&decide (0≤i)&&decide (j<0)):=⟨_,rfl⟩
     obtain ⟨b2,hb2⟩:∃ b,b=((wrong==2)&&decide (0≤i)&&decide (i<j)):=⟨_,rfl⟩
     have hP:zkX wrong i j=(b0||b1||b2):=by
      rw[hb0,hb1,hb2]
      rfl
     rw[hP] at hST
     have HST:=Lib.hid hST
     have HB0:=Lib.hid hb0
     have HB1:=Lib.hid hb1
     have HB2:=Lib.hid hb2
     clear hST hP hb0 hb1 hb2
     go_upto_region 14 with (fail)
     go_cut [15] (fun v wx=>v=.bool b0∧wx=y.world)
     case first=>
      cases h1:(wrong==0)<;>cases h2:decide (i<0)<;>cases h3:decide (j<0)
      all_goals go_wp2
      all_goals go_meet
      all_goals (case rel=>exact ⟨by rw[HB0.out,h1,h2,h3];rfl,rfl⟩)
     case rest=>
     obtain ⟨rfl,rfl⟩:=hcut
     go_upto_region 15 with (fail)
     go_cut [16] (fun v wx=>v=.bool b1∧wx=y.world)
     case first=>
      cases h1:(wrong==1)<;>cases h2:decide (0≤i)<;>cases h3:decide (j<0)
      all_goals go_wp2
      all_goals go_meet
      all_goals (case rel=>exact ⟨by rw[HB1.out,h1,h2,h3];rfl,rfl⟩)
     case rest=>
     obtain ⟨rfl,rfl⟩:=hcut
     go_upto_region 16 with (fail)
     go_cut [17] (fun v wx=>v=.bool b2∧wx=y.world)
     case first=>
      cases h1:(wrong==2)<;>cases h2:decide (0≤i)<;>cases h3:decide (i<j)
      all_goals go_wp2
      all_goals go_meet
      all_goals (case rel=>exact ⟨by rw[HB2.out,h1,h2,h3];rfl,rfl⟩)
     case rest=>
     obtain ⟨rfl,rfl⟩:=hcut
     clear HB0 HB1 HB2
     cases hb:(b0||b1||b2)
     ·rw[hb] at HST
      obtain ⟨rfl,rfl,rfl⟩:b0=false∧b1=false∧b2=false:=by cases b0<;>cases b1<;>cases b2<;>first|(cases hb;done)|exact ⟨rfl,rfl,rfl⟩
      have HS0:=Lib.hid (HST.out.trans (if_neg (by simp)))
      clear HST hb
      go_wp2
      go_roundw
      case rel=>exact ⟨c+1,j+1,by go_num,by have:=Hj.out;omega,by omega,by rw[HS0.out],Lib.hid (by rw[HS0.out];exact hJ2.out),Lib.hid (by rw[HS0.out];exact hOk2.out)⟩
      case measure=>simp[intOf];have:=Hj.out;omega
     ·rw[hb] at HST
      have HS1:=Lib.hid (HST.out.trans (if_pos rfl))
      clear HST
      go_upto_region 17 with (fail)
      go_cut [94] (fun v wx=>v=.bool false∧wx=y.world)
      case first=>
       cases b0<;>cases b1<;>cases b2
       all_goals (try (cases hb;done))
       all_goals go_wp2
       all_goals go_meet
       all_goals (case rel=>exact ⟨rfl,rfl⟩)
      case rest=>
      obtain ⟨rfl,rfl⟩:=hcut
      clear hb
      have HWo:=Lib.hid (HW.out i j)
      have HFu:=Lib.hid (HF.out i j)
      have HOn:=Lib.hid (HO.out i j)
      clear HW HF HO HC HR2 HO0 HOs HOr
      generalize zbA (zbo i j) l 0=LL at *
      generalize zaB (zbo i j) l n.toNat 0 s=N at *
      go_upto_region 18 with (fail)
      go_cut [18,20] (fun p e wx=>∃ b,p=.pointer (some ⟨b,0,none⟩)∧e=.int .i64 N.e∧RowIs wx b 28 N.s.cells∧Grew y.world wx)
      case first=>
       obtain ⟨w1,hw1⟩:=zaj (Grew.drew (Grew.refl y.world))
       refine zdj (Grew y.world.drew) [] rfl ?_
       rw[hw1]
       have k4:RowIs w1.world w.heap.size 28 s.cells:=inferInstance
       have g1:=w1.grew
       clear hw1
       generalize w1.world=Y at *
       have gz:Grew w Y:=y.grew.trans g1
       refine zaf 0 [] (v:=.agg s.cells.toArray) rfl (by kernel_rfl) (by kernel_rfl) (by kernel_rfl) (by kernel_rfl) (fun _ _ _ h=>h) (by rfl) gwr (fun w' hw=>?_) ?_
       ·exact zeA (hr:=k4.grew hw) 28 _ rfl rfl
       try simp only[List.getElem_toArray,List.getElem_cons_succ,List.getElem_cons_zero,Act.put,List.setIfInBounds_toArray,List.set_cons_zero,List.set_cons_succ]
       refine zaf 1 [] (v:=.slice ao l.length cap) rfl (by kernel_rfl) (by kernel_rfl) (by kernel_rfl) (by kernel_rfl) (fun _ _ _ h=>h) (by rfl) gwr (fun w' hw=>?_) ?_
       ·go_simp
       try simp only[List.getElem_toArray,List.getElem_cons_succ,List.getElem_cons_zero,Act.put,List.setIfInBounds_toArray,List.set_cons_zero,List.set_cons_succ]
       refine zaf 2 [] (v:=.int .i64 i) rfl (by kernel_rfl) (by kernel_rfl) (by kernel_rfl) (by kernel_rfl) (fun _ _ _ h=>h) (by rfl) gwr (fun w' hw=>?_) ?_
       ·go_simp
       try simp only[List.getElem_toArray,List.getElem_cons_succ,List.getElem_cons_zero,Act.put,List.setIfInBounds_toArray,List.set_cons_zero,List.set_cons_succ]
       refine zaf 3 [] (v:=.int .i64 j) rfl (by kernel_rfl) (by kernel_rfl) (by kernel_rfl) (by kernel_rfl) (fun _ _ _ h=>h) (by rfl) gwr (fun w' hw=>?_) ?_
       ·go_simp
       try simp only[List.getElem_toArray,List.getElem_cons_succ,List.getElem_cons_zero,Act.put,List.setIfInBounds_toArray,List.set_cons_zero,List.set_cons_succ]
       refine zaf 5 [] (v:=.int .i64 n) rfl (by kernel_rfl) (by kernel_rfl) (by kernel_rfl) (by kernel_rfl) (fun _ _ _ h=>h) (by rfl) gwr (fun w' hw=>?_) ?_
       ·go_simp
       try simp only[List.getElem_toArray,List.getElem_cons_succ,List.getElem_cons_zero,Act.put,List.setIfInBounds_toArray,List.set_cons_zero,List.set_cons_succ]
       refine zdv 4 11 (by kernel_rfl) rfl rfl (fun K hK=>?_) (fun K hK=>?_)
       ·skip
        go_simp
        refine (HWo.out _ (gz.trans gwr)).mono ?_
        rintro ew w2 ⟨ao2,cap2,rfl,hsl2,hg2⟩
        obtain ⟨uw,rfl⟩:=zaj hg2
        have hslw:=Lib.hid hsl2
        clear hg2 hsl2
        refine hK.out _ _ (fun _=>gwr) ?_
        clear hK K
        try simp only[List.getElem_toArray,List.getElem_cons_succ,List.getElem_cons_zero,Act.put,List.setIfInBounds_toArray,List.set_cons_zero,List.set_cons_succ]
        refine zdv 6 11 (by kernel_rfl) rfl rfl (fun K hK=>?_) (fun K hK=>?_)
        ·skip
         go_simp
         refine (HFu.out ao2 cap2 _ (hslw.out.grew gwr)).mono ?_
         rintro ef w2 ⟨rfl,hg2⟩
         obtain ⟨uf,rfl⟩:=zaj hg2
         clear hg2
         refine hK.out _ _ (fun _=>gwr) ?_
         clear hK K
         try simp only[List.getElem_toArray,List.getElem_cons_succ,List.getElem_cons_zero,Act.put,List.setIfInBounds_toArray,List.set_cons_zero,List.set_cons_succ]
         refine zaf 7 [] (v:=.tuple #[.agg N.s.cells.toArray,.int .i64 N.n,.int .i64 N.e]) rfl (by kernel_rfl) (by kernel_rfl) (by kernel_rfl) (by kernel_rfl) (fun _ _ _ h=>h) (by rfl) gwr (fun w' hw=>?_) ?_
         ·go_simp
         try simp only[List.getElem_toArray,List.getElem_cons_succ,List.getElem_cons_zero,Act.put,List.setIfInBounds_toArray,List.set_cons_zero,List.set_cons_succ]
         refine zaf 8 [] (v:=.agg N.s.cells.toArray) rfl (by kernel_rfl) (by kernel_rfl) (by kernel_rfl) (by kernel_rfl) (fun _ _ _ h=>h) (by rfl) gwr (fun w' hw=>?_) ?_
         ·go_simp
         try simp only[List.getElem_toArray,List.getElem_cons_succ,List.getElem_cons_zero,Act.put,List.setIfInBounds_toArray,List.set_cons_zero,List.set_cons_succ]
         refine zaf 9 [] (v:=.int .i64 N.n) rfl (by kernel_rfl) (by kernel_rfl) (by kernel_rfl) (by kernel_rfl) (fun _ _ _ h=>h) (by rfl) gwr (fun w' hw=>?_) ?_
         ·go_simp
         try simp only[List.getElem_toArray,List.getElem_cons_succ,List.getElem_cons_zero,Act.put,List.setIfInBounds_toArray,List.set_cons_zero,List.set_cons_succ]
         refine zaf 10 [] (v:=.int .i64 N.e) rfl (by kernel_rfl) (by kernel_rfl) (by kernel_rfl) (by kernel_rfl) (fun _ _ _ h=>h) (by rfl) gwr (fun w' hw=>?_) ?_
         ·go_simp
         try simp only[List.getElem_toArray,List.getElem_cons_succ,List.getElem_cons_zero,Act.put,List.setIfInBounds_toArray,List.set_cons_zero,List.set_cons_succ]
         refine zal 11 (by kernel_rfl) rfl fun K hK=>?_
         go_simp
         refine hK.out _ _ (fun _=>gwr) ?_
         clear hK K
         try simp only[List.getElem_toArray,List.getElem_cons_succ,List.getElem_cons_zero,Act.put,List.setIfInBounds_toArray,List.set_cons_zero,List.set_cons_succ]
         refine zal 12 (by kernel_rfl) rfl fun K hK=>?_
         refine zeb (p:=.pointer (some ⟨uf.world.heap.size,0,none⟩)) (v:=.agg N.s.cells.toArray) rfl rfl 28 _ _ rfl rfl rfl (zdu _ uf.world.heap.size N.s.cells zcm) ?_
         refine hK.out _ _ (fun _=>gwr) ?_
         clear hK K
         try simp only[List.getElem_toArray,List.getElem_cons_succ,List.getElem_cons_zero,Act.put,List.setIfInBounds_toArray,List.set_cons_zero,List.set_cons_succ]
         refine zal 13 (by kernel_rfl) rfl fun K hK=>?_
         go_simp
         refine hK.out _ _ (fun _=>gwr) ?_
         clear hK K
         try simp only[List.getElem_toArray,List.getElem_cons_succ,List.getElem_cons_zero,Act.put,List.setIfInBounds_toArray,List.set_cons_zero,List.set_cons_succ]
         refine zal 14 (by kernel_rfl) rfl fun K hK=>?_
         go_simp
         refine hK.out _ _ (fun _=>gwr) ?_
         clear hK K
         try simp only[List.getElem_toArray,List.getElem_cons_succ,List.getElem_cons_zero,Act.put,List.setIfInBounds_toArray,List.set_cons_zero,List.set_cons_succ]
         refine zbs (by kernel_rfl) ?_
         go_wp2
         go_meet
         case rel=>exact ⟨uf.world.heap.size,rfl,rfl,inferInstance,g1.trans gwr⟩
        ·go_simp
         refine hK.out _ _ (fun _=>gwr) ?_
         clear hK K
         try simp only[List.getElem_toArray,List.getElem_cons_succ,List.getElem_cons_zero,Act.put,List.setIfInBounds_toArray,List.set_cons_zero,List.set_cons_succ]
         refine zal 6 (by kernel_rfl) rfl fun K hK=>?_
         go_simp
         refine (HFu.out ao2 cap2 _ (hslw.out.grew gwr)).mono ?_
         rintro ef w2 ⟨rfl,hg2⟩
         obtain ⟨uf,rfl⟩:=zaj hg2
         clear hg2
         refine hK.out _ _ (fun _=>gwr) ?_
         clear hK K
         try simp only[List.getElem_toArray,List.getElem_cons_succ,List.getElem_cons_zero,Act.put,List.setIfInBounds_toArray,List.set_cons_zero,List.set_cons_succ]
         refine zaf 7 [] (v:=.tuple #[.agg N.s.cells.toArray,.int .i64 N.n,.int .i64 N.e]) rfl (by kernel_rfl) (by kernel_rfl) (by kernel_rfl) (by kernel_rfl) (fun _ _ _ h=>h) (by rfl) gwr (fun w' hw=>?_) ?_
         ·go_simp
         try simp only[List.getElem_toArray,List.getElem_cons_succ,List.getElem_cons_zero,Act.put,List.setIfInBounds_toArray,List.set_cons_zero,List.set_cons_succ]
         refine zaf 8 [] (v:=.agg N.s.cells.toArray) rfl (by kernel_rfl) (by kernel_rfl) (by kernel_rfl) (by kernel_rfl) (fun _ _ _ h=>h) (by rfl) gwr (fun w' hw=>?_) ?_
         ·go_simp
         try simp only[List.getElem_toArray,List.getElem_cons_succ,List.getElem_cons_zero,Act.put,List.setIfInBounds_toArray,List.set_cons_zero,List.set_cons_succ]
         refine zaf 9 [] (v:=.int .i64 N.n) rfl (by kernel_rfl) (by kernel_rfl) (by kernel_rfl) (by kernel_rfl) (fun _ _ _ h=>h) (by rfl) gwr (fun w' hw=>?_) ?_
         ·go_simp
         try simp only[List.getElem_toArray,List.getElem_cons_succ,List.getElem_cons_zero,Act.put,List.setIfInBounds_toArray,List.set_cons_zero,List.set_cons_succ]
         refine zaf 10 [] (v:=.int .i64 N.e) rfl (by kernel_rfl) (by kernel_rfl) (by kernel_rfl) (by kernel_rfl) (fun _ _ _ h=>h) (by rfl) gwr (fun w' hw=>?_) ?_
         ·go_simp
         try simp only[List.getElem_toArray,List.getElem_cons_succ,List.getElem_cons_zero,Act.put,List.setIfInBounds_toArray,List.set_cons_zero,List.set_cons_succ]
         refine zal 12 (by kernel_rfl) rfl fun K hK=>?_
         refine zeb (p:=.pointer (some ⟨uw.world.heap.size,0,none⟩)) (v:=.agg N.s.cells.toArray) rfl rfl 28 _ _ rfl rfl rfl (zdu _ uw.world.heap.size N.s.cells zcm) ?_
         refine hK.out _ _ (fun _=>gwr) ?_
         clear hK K
         try simp only[List.getElem_toArray,List.getElem_cons_succ,List.getElem_cons_zero,Act.put,List.setIfInBounds_toArray,List.set_cons_zero,List.set_cons_succ]
         refine zal 13 (by kernel_rfl) rfl fun K hK=>?_
         go_simp
         refine hK.out _ _ (fun _=>gwr) ?_
         clear hK K
         try simp only[List.getElem_toArray,List.getElem_cons_succ,List.getElem_cons_zero,Act.put,List.setIfInBounds_toArray,List.set_cons_zero,List.set_cons_succ]
         refine zal 14 (by kernel_rfl) rfl fun K hK=>?_
         go_simp
         refine hK.out _ _ (fun _=>gwr) ?_
         clear hK K
         try simp only[List.getElem_toArray,List.getElem_cons_succ,List.getElem_cons_zero,Act.put,List.setIfInBounds_toArray,List.set_cons_zero,List.set_cons_succ]
         refine zbs (by kernel_rfl) ?_
         go_wp2
         go_meet
         case rel=>exact ⟨uw.world.heap.size,rfl,rfl,inferInstance,g1.trans gwr⟩
       ·go_simp
        refine hK.out _ _ (fun _=>gwr) ?_
        clear hK K
        try simp only[List.getElem_toArray,List.getElem_cons_succ,List.getElem_cons_zero,Act.put,List.setIfInBounds_toArray,List.set_cons_zero,List.set_cons_succ]
        refine zal 4 (by kernel_rfl) rfl fun K hK=>?_
        go_simp
        refine (HWo.out _ (gz.trans gwr)).mono ?_
        rintro ew w2 ⟨ao2,cap2,rfl,hsl2,hg2⟩
        obtain ⟨uw,rfl⟩:=zaj hg2
        have hslw:=Lib.hid hsl2
        clear hg2 hsl2
        refine hK.out _ _ (fun _=>gwr) ?_
        clear hK K
        try simp only[List.getElem_toArray,List.getElem_cons_succ,List.getElem_cons_zero,Act.put,List.setIfInBounds_toArray,List.set_cons_zero,List.set_cons_succ]
        refine zal 6 (by kernel_rfl) rfl fun K hK=>?_
        go_simp
        refine (HFu.out ao2 cap2 _ (hslw.out.grew gwr)).mono ?_
        rintro ef w2 ⟨rfl,hg2⟩
        obtain ⟨uf,rfl⟩:=zaj hg2
        clear hg2
        refine hK.out _ _ (fun _=>gwr) ?_
        clear hK K
        try simp only[List.getElem_toArray,List.getElem_cons_succ,List.getElem_cons_zero,Act.put,List.setIfInBounds_toArray,List.set_cons_zero,List.set_cons_succ]
        refine zaf 7 [] (v:=.tuple #[.agg N.s.cells.toArray,.int .i64 N.n,.int .i64 N.e]) rfl (by kernel_rfl) (by kernel_rfl) (by kernel_rfl) (by kernel_rfl) (fun _ _ _ h=>h) (by rfl) gwr (fun w' hw=>?_) ?_
        ·go_simp
        try simp only[List.getElem_toArray,List.getElem_cons_succ,List.getElem_cons_zero,Act.put,List.setIfInBounds_toArray,List.set_cons_zero,List.set_cons_succ]
        refine zaf 8 [] (v:=.agg N.s.cells.toArray) rfl (by kernel_rfl) (by kernel_rfl) (by kernel_rfl) (by kernel_rfl) (fun _ _ _ h=>h) (by rfl) gwr (fun w' hw=>?_) ?_
        ·go_simp
        try simp only[List.getElem_toArray,List.getElem_cons_succ,List.getElem_cons_zero,Act.put,List.setIfInBounds_toArray,List.set_cons_zero,List.set_cons_succ]
        refine zaf 9 [] (v:=.int .i64 N.n) rfl (by kernel_rfl) (by kernel_rfl) (by kernel_rfl) (by kernel_rfl) (fun _ _ _ h=>h) (by rfl) gwr (fun w' hw=>?_) ?_
        ·go_simp
        try simp only[List.getElem_toArray,List.getElem_cons_succ,List.getElem_cons_zero,Act.put,List.setIfInBounds_toArray,List.set_cons_zero,List.set_cons_succ]
        refine zaf 10 [] (v:=.int .i64 N.e) rfl (by kernel_rfl) (by kernel_rfl) (by kernel_rfl) (by kernel_rfl) (fun _ _ _ h=>h) (by rfl) gwr (fun w' hw=>?_) ?_
        ·go_simp
        try simp only[List.getElem_toArray,List.getElem_cons_succ,List.getElem_cons_zero,Act.put,List.setIfInBounds_toArray,List.set_cons_zero,List.set_cons_succ]
        refine zal 12 (by kernel_rfl) rfl fun K hK=>?_
        refine zeb (p:=.pointer (some ⟨Y.heap.size,0,none⟩)) (v:=.agg N.s.cells.toArray) rfl rfl 28 _ _ rfl rfl rfl (zdu _ Y.heap.size N.s.cells zcm) ?_
        refine hK.out _ _ (fun _=>gwr) ?_
        clear hK K
        try simp only[List.getElem_toArray,List.getElem_cons_succ,List.getElem_cons_zero,Act.put,List.setIfInBounds_toArray,List.set_cons_zero,List.set_cons_succ]
        refine zal 13 (by kernel_rfl) rfl fun K hK=>?_
        go_simp
        refine hK.out _ _ (fun _=>gwr) ?_
        clear hK K
        try simp only[List.getElem_toArray,List.getElem_cons_succ,List.getElem_cons_zero,Act.put,List.setIfInBounds_toArray,List.set_cons_zero,List.set_cons_succ]
        refine zal 14 (by kernel_rfl) rfl fun K hK=>?_
        go_simp
        refine hK.out _ _ (fun _=>gwr) ?_
        clear hK K
        try simp only[List.getElem_toArray,List.getElem_cons_succ,List.getElem_cons_zero,Act.put,List.setIfInBounds_toArray,List.set_cons_zero,List.set_cons_succ]
        refine zbs (by kernel_rfl) ?_
        go_wp2
        go_meet
        case rel=>exact ⟨Y.heap.size,rfl,rfl,inferInstance,g1.trans gwr⟩
      case rest=>
      obtain ⟨b,rfl,rfl,rN,hg⟩:=hcut
      have rs2:=rs.grew hg
      have rz2:=rz.grew hg
      have ro2:=ro.grew hg
      clear rs rz ro is iz io
      obtain ⟨y2,rfl⟩:=zaj hg
      clear hg
      have is:=rs2.blockIn
      have iz:=rz2.blockIn
      have io:=ro2.blockIn
      have ib:=rN.blockIn
      have hlt3:=hJ2.out.lt
      by_cases e0:N.e=0
      ·have t0:(N.e != 0)=false:=by simp[e0]
       have HOK:=Lib.hid (HOn.out e0)
       have hOk3:=Lib.hid hOk2.out
       have HJn:=Lib.hid (fun (hh:O a c=none)=>HS1.out.trans (by rw[hh,zfG e0]))
       have HJs:=Lib.hid (fun (A:State) (hh:O a c=some A)=>HS1.out.trans (by rw[hh,zcx e0]))
       clear HS1 hJ2 hOk2 HOn e0
       generalize O a c=oo at *
       cases oo with
       |none=>
        have HS:=Lib.hid (HJn.out rfl)
        clear HJn HJs hOk3
        change RowIs y2.world m 28 State.zero.cells at ro2
        go_wp2_with (first|(with_reducible refine wLi ?_)|(with_reducible refine wSi ?_))
        go_roundw
        case rel=>exact ⟨c+1,j+1,by go_num,by have:=Hj.out;omega,by omega,by rw[HS.out];rfl,Lib.hid (by rw[HS.out];exact ⟨gwr,inferInstance,inferInstance,inferInstance,hlt3⟩),Lib.hid (fun x hx=>by rw[HS.out] at hx;cases hx;exact HOK.out)⟩
        case measure=>simp[intOf];have:=Hj.out;omega
       |some A=>
        have HS:=Lib.hid (HJs.out A rfl)
        have HOA:=Lib.hid (hOk3.out A rfl)
        clear HJn HJs hOk3
        change RowIs y2.world m 28 A.cells at ro2
        have HH:=Lib.hid (fun w=>show Calls Tryz.prog 24 #[.agg A.cells.toArray,.agg N.s.cells.toArray] w fun e w'=>e=.returned (.agg (zbh A N.s).cells.toArray)∧Grew w w' from zk7 A N.s HOA.out HOK.out w)
        go_wp2_with (first|(go_at_call 24;(with_reducible refine zaa (HH.out _) ?_);intro uh)|(with_reducible refine wLi ?_)|(with_reducible refine wSi ?_))
        go_roundw
        case rel=>exact ⟨c+1,j+1,by go_num,by have:=Hj.out;omega,by omega,by rw[HS.out];rfl,Lib.hid (by rw[HS.out];exact ⟨gwr,inferInstance,inferInstance,inferInstance,hlt3⟩),Lib.hid (fun x hx=>by rw[HS.out] at hx;cases hx;exact znC HOA.out HOK.out)⟩
        case measure=>simp[intOf];have:=Hj.out;omega
      ·have t0:(N.e != 0)=true:=by simp[e0]
       have HS:=Lib.hid (HS1.out.trans (zd5 e0))
       clear HS1 HOn e0
       go_wp2
       go_roundw
       case rel=>exact ⟨c+1,j+1,by go_num,by have:=Hj.out;omega,by omega,by rw[HS.out],Lib.hid (by rw[HS.out];exact ⟨gwr,rs2,rz2,ro2,hlt3⟩),Lib.hid (by rw[HS.out];exact hOk2.out)⟩
       case measure=>simp[intOf];have:=Hj.out;omega
    ·obtain rfl:c=l.length+1:=by omega
     have hlc':¬ (j<(l.length:Int)):=by have:=Hj.out;omega
     have HS:=Lib.hid (HOr.out a)
     go_wp2
     go_roundw
     case rel=>exact ⟨a+1,i+1,by go_num,by have:=Hi.out;omega,by omega,by rw[←HS.out],Lib.hid (by rw[←HS.out];exact hJ2.out),Lib.hid (by rw[←HS.out];exact hOk2.out)⟩
     case measure=>simp[intOf];have:=Hi.out;omega
  ·obtain rfl:a=l.length+1:=by omega
   have hlt':¬ (i<(l.length:Int)):=by have:=Hi.out;omega
   have hlt2:=hJ.out.lt
   clear hJ hOk HO0 HOs HOr
   generalize O (l.length+1) 0=oo at *
   cases oo with
   |none=>
    change RowIs z.world m 28 State.zero.cells at ro
    go_wp2_with (first|(with_reducible refine wLi ?_)|(with_reducible refine wSi ?_))
    refine bodyPost_ret (zdV Tryz.results6 rfl rfl inferInstance inferInstance inferInstance) rfl ?_
    exact ⟨zfs HR2.out,gwr⟩
   |some A=>
    change RowIs z.world m 28 A.cells at ro
    go_wp2_with (first|(with_reducible refine wLi ?_)|(with_reducible refine wSi ?_))
    refine bodyPost_ret (zdV Tryz.results6 rfl rfl inferInstance inferInstance inferInstance) rfl ?_
    exact ⟨zfs HR2.out,gwr⟩
theorem zjr (s:State) (l:List Radio) (wrong n:Int) [hp:Pv64 s] (hT:∀ m∈l,Ra64 m) (ao:Option Addr) (cap:Nat) (w:World) (hs:SlAt w (.slice ao l.length cap) l.length (l.flatMap Radio.cells)) :
 Calls Tryz.prog 6 #[.agg s.cells.toArray,.slice ao l.length cap,.int .i64 wrong,.int .i64 n] w (zh2 (zcF s l wrong n) w):=by
 by_cases hE:zaQ s l n=0
 ·by_cases hw:wrong<0∨2<wrong∨(l.length:Int)<wrong
  ·exact zhJ s l n ao cap w hs wrong hE hw
  ·have hok:OkS s:=by
    unfold zaQ at hE
    split at hE
    ·exact absurd hE (by decide)
    ·split at hE
     ·exact absurd hE (by decide)
     ·rename_i h1 h2
      have h3:s.okB=true:=by
       cases h:s.okB
       ·exact absurd (.inl h) h2
       ·rfl
      unfold State.okB at h3
      simp only[Bool.and_eq_true] at h3
      exact ⟨h3.1.1.2.1,h3.1.1.2.2⟩
   exact ziD s l wrong n hT ao cap w hs hE (by omega) (by omega) (by omega) hok
 ·exact zjs s l n ao cap w hs wrong hE
end Go.Proofs.YtdkfkalplmgoeaaGreat
