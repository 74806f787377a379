/-
  Joined: RefTC.
-/
import Derived.Test.YtdkfkalplmgoeaaGreatRefTBL
import Derived.Test.YtdkfkalplmgoeaaGreatNavSusp2L
import Derived.Test.YtdkfkalplmgoeaaGreatEversL
namespace Go.Proofs.YtdkfkalplmgoeaaGreat
open Go.RowKit Go.Shelf
set_option maxRecDepth 100000
set_option maxHeartbeats 16000000
set_option linter.unusedSimpArgs false
theorem zgI (l:List Int) (v1 v2:Value) (w:World) (h1:SlAt w v1 l.length (l.flatMap intC)) (h2:SlAt w v2 l.length (l.flatMap intC)):Calls Tryz.prog 9 #[v1,v2] w fun e w'=>e=.returned (.bool true)∧Grew w w':=by
 have Hc1:=Lib.hid (fun k hk=>zj4 h1 k hk)
 have Hc2:=Lib.hid (fun k hk=>zj4 h2 k hk)
 obtain ⟨ao1,cap1,rfl,hm⟩:=zmO h1
 obtain ⟨ao2,cap2,rfl,-⟩:=zmO h2
 clear h1 h2
 go_enter Tryz.func9,Tryz.ntmps9
 go_wp2
 go_loopw [5] (fun t wr=>∃ k:Nat,t=.int .i64 k∧k≤l.length∧Grew w wr) (fun t _=>l.length-(intOf t).toNat)
 case atStart=>exact ⟨0,rfl,by omega,Grew.refl _⟩
 case round=>
  obtain ⟨k,rfl,hk,hg⟩:=hrel
  obtain ⟨x,rfl⟩:=zaj hg
  clear hg
  by_cases hlt:k<l.length
  ·obtain ⟨b1,o1,c1,e1,i1,hd⟩:=Hc1.out k hlt
   obtain ⟨b2,o2,c2,e2,i2,he⟩:=Hc2.out k hlt
   cases e1
   cases e2
   generalize l[k]=p at *
   go_wp2_with (first|((with_reducible refine zac ?_ ?_ ?_);(· kernel_rfl);(· kernel_rfl);(try simp only[List.append_eq,List.cons_append,List.nil_append]);(repeat (go_big_quiet_step (fail)));refine wpQuiet_nil ?_;rintro _ ⟨u,rfl⟩))
   go_roundw
   case rel=>exact ⟨k+1,by go_num,by omega,x.grew.later _⟩
   case measure=>simp[intOf];omega
  ·go_wp2
   go_ret
   exact ⟨rfl,x.grew⟩
theorem zk9 (s:State) (l:List Radio) (n:Int) (ao:Option Addr) (cap:Nat) (w:World) (hs:SlAt w (.slice ao l.length cap) l.length (l.flatMap Radio.cells)) (hE:zaQ s l n≠0) :
 Calls Tryz.prog 8 #[.agg s.cells.toArray,.slice ao l.length cap,.int .i64 n] w fun e w'=>e=.returned (.tuple #[.slice none 0 0,.int .i64 (zaQ s l n)])∧Grew w w':=by
 have HC:=Lib.hid (fun w' (g:Grew w w')=>show Calls Tryz.prog 21 #[.agg s.cells.toArray,.slice ao l.length cap,.int .i64 n] w' (fun e w''=>e=.returned (.int .i64 (zaQ s l n))∧Grew w' w'') from zcq s l n ao cap w' (hs.grew g))
 have t0:(zaQ s l n != 0)=true:=by simp[hE]
 clear hE hs
 generalize zaQ s l n=E at *
 go_enter Tryz.func8,Tryz.ntmps8
 go_wp2_with (first|(go_at_call 21;(with_reducible refine zaa (HC.out _ gw) ?_);intro u)|(with_reducible refine wLr ?_)|(with_reducible refine wLi ?_)|(with_reducible refine wSf ?_)|(with_reducible refine wSi ?_)|((with_reducible refine zac ?_ ?_ ?_);(· kernel_rfl);(· kernel_rfl);(try simp only[List.append_eq,List.cons_append,List.nil_append]);(repeat (go_big_quiet_step ((first|(go_at_call 21;(with_reducible exact zad (HC.out _ gw)))))));refine wpQuiet_nil ?_;rintro _ ⟨u,rfl⟩))
 go_ret2
 exact ⟨rfl,gw⟩
theorem zjp (s:State) (l:List Radio) (n:Int) [hp:Pv64 s] (hT:∀ m∈l,Ra64 m) (ao:Option Addr) (cap:Nat) (w:World) (hs:SlAt w (.slice ao l.length cap) l.length (l.flatMap Radio.cells)) (hE:zaQ s l n=0) (h0:(zaB za2 l n.toNat 0 s).e=0) :
 Calls Tryz.prog 8 #[.agg s.cells.toArray,.slice ao l.length cap,.int .i64 n] w fun e w'=>e=.returned (.tuple #[.slice none 0 0,.int .i64 0])∧Grew w w':=by
 obtain ⟨v1,v2,v3,v4⟩:=zcM hE
 have HC:=Lib.hid (fun w' (g:Grew w w')=>show Calls Tryz.prog 21 #[.agg s.cells.toArray,.slice ao l.length cap,.int .i64 n] w' (fun e w''=>e=.returned (.int .i64 0)∧Grew w' w'') from zaH hE (zcq s l n ao cap w' (hs.grew g)))
 have HF:=Lib.hid (fun w' (g:Grew w w')=>show Calls Tryz.prog 22 #[.agg s.cells.toArray,.slice ao l.length cap,.int .i64 n] w' (fun e w''=>e=.returned (.tuple #[.agg (zaB za2 l n.toNat 0 s).s.cells.toArray,.int .i64 (zaB za2 l n.toNat 0 s).n,.int .i64 0])∧Grew w' w'') from by
  have:=zd7 s l n hT v4 v2 v3 ao cap w' (hs.grew g)
  unfold zlx at this
  rw[h0] at this
  exact this)
 clear hE h0 hs v1 v2 v3 v4
 generalize zaB za2 l n.toNat 0 s=r at *
 go_enter Tryz.func8,Tryz.ntmps8
 go_wp2_with (first|(go_at_call 21;(with_reducible refine zaa (HC.out _ gw) ?_);intro u)|(go_at_call 22;(with_reducible refine zaa (HF.out _ gw) ?_);intro u)|(with_reducible refine wLr ?_)|(with_reducible refine wLi ?_)|(with_reducible refine wSf ?_)|(with_reducible refine wSi ?_)|((with_reducible refine zac ?_ ?_ ?_);(· kernel_rfl);(· kernel_rfl);(try simp only[List.append_eq,List.cons_append,List.nil_append]);(repeat (go_big_quiet_step ((first|(go_at_call 21;(with_reducible exact zad (HC.out _ gw)))|(go_at_call 22;(with_reducible exact zad (HF.out _ gw)))))));refine wpQuiet_nil ?_;rintro _ ⟨u,rfl⟩))
 go_ret2
 exact ⟨rfl,gw⟩
theorem znJ (k j:Nat):zbo (k:Int) (-1) j=butK k j:=by
 unfold zbo butK
 by_cases h:j=k
 ·subst h
  simp
 ·have h1:((j:Int) != (k:Int))=true:=by simp;omega
  have h2:((j:Int) != -1)=true:=by first|(simp;done)|(simp;omega)
  rw[h1,h2]
  simp[h]
theorem zjq (s:State) (l:List Radio) (n:Int) [hp:Pv64 s] (hT:∀ m∈l,Ra64 m) (ao:Option Addr) (cap:Nat) (w:World) (hs:SlAt w (.slice ao l.length cap) l.length (l.flatMap Radio.cells)) (hE:zaQ s l n=0) (h7:(zaB za2 l n.toNat 0 s).e=7) :
 Calls Tryz.prog 8 #[.agg s.cells.toArray,.slice ao l.length cap,.int .i64 n] w (fun e w'=>∃ v,e=.returned (.tuple #[v,.int .i64 0])∧SlAt w' v (zc2 s l n l.length).length ((zc2 s l n l.length).flatMap intC)∧Grew w w'):=by
 obtain ⟨v1,v2,v3,v4⟩:=zcM hE
 have hl16:l.length≤16:=v1
 have HC:=Lib.hid (fun w' (g:Grew w w')=>show Calls Tryz.prog 21 #[.agg s.cells.toArray,.slice ao l.length cap,.int .i64 n] w' (fun e w''=>e=.returned (.int .i64 0)∧Grew w' w'') from zaH hE (zcq s l n ao cap w' (hs.grew g)))
 have HF0:=Lib.hid (fun w' (g:Grew w w')=>show Calls Tryz.prog 22 #[.agg s.cells.toArray,.slice ao l.length cap,.int .i64 n] w' (fun e w''=>e=.returned (.tuple #[.agg (zaB za2 l n.toNat 0 s).s.cells.toArray,.int .i64 (zaB za2 l n.toNat 0 s).n,.int .i64 7])∧Grew w' w'') from by
  have:=zd7 s l n hT v4 v2 v3 ao cap w' (hs.grew g)
  unfold zlx at this
  rw[h7] at this
  exact this)
 have HW:=Lib.hid (fun (i j:Int) w' (g:Grew w w')=>zeK l i j (by omega) ao cap w' (hs.grew g))
 have HF:=Lib.hid (fun (k:Nat) ao2 cap2 w' (hw:SlAt w' (.slice ao2 (zbA (zbo (k:Int) (-1)) l 0).length cap2) (zbA (zbo (k:Int) (-1)) l 0).length ((zbA (zbo (k:Int) (-1)) l 0).flatMap Radio.cells))=>show Calls Tryz.prog 22 #[.agg s.cells.toArray,.slice ao2 (zbA (zbo (k:Int) (-1)) l 0).length cap2,.int .i64 n] w' (zlx (zaB (butK k) l n.toNat 0 s) w') from by
  have:=zd7 s (zbA (zbo (k:Int) (-1)) l 0) n (zdL l 0 hT) (zdL l 0 v4) v2 v3 ao2 cap2 w' hw
  rw[zf1,ze1 (k:=zbo (k:Int) (-1)) (k':=butK k) (fun j _=>znJ k j)] at this
  exact this)
 have HE7:=Lib.hid (fun k=>zlR (butK k) l n.toNat 0 s)
 clear hE h7 hs v1 v2 v3 v4 hT
 generalize zaB za2 l n.toNat 0 s=r at *
 go_enter Tryz.func8,Tryz.ntmps8
 go_upto_block 0 with (first|(go_at_call 21;(with_reducible refine zaa (HC.out _ gw) ?_);intro u1)|(go_at_call 22;(with_reducible refine zaa (HF0.out _ gw) ?_);intro u2)|(with_reducible refine wLr ?_)|(with_reducible refine wLi ?_)|(with_reducible refine wSf ?_)|(with_reducible refine wSi ?_))
 refine zdF (z:=w) gwr ?_
 intro W hW
 have r3:RowIs W.world w.heap.size 28 s.cells:=by rw[hW];infer_instance
 clear hW
 have i3:=r3.blockIn
 go_wp2
 go_loopw [9,10] (fun v t wr=>∃ k:Nat,t=.int .i64 k∧k≤l.length∧wr.ownsRow W.world.heap.size 3 1 v (zc2 s l n k).length ((zc2 s l n k).flatMap intC)∧Grew W.world wr) (fun _ t _=>l.length-(intOf t).toNat)
 case atStart=>exact ⟨0,rfl,by omega,⟨rfl,.inl ⟨rfl,rfl⟩⟩,gw⟩
 case round=>
  obtain ⟨k,rfl,hk,ho,hg⟩:=hrel
  obtain ⟨z,rfl⟩:=zaj hg
  clear hg
  by_cases hlt:k<l.length
  ·have HWo:=Lib.hid (HW.out k (-1))
   have HFu:=Lib.hid (HF.out k)
   have HSU:=Lib.hid (show zc2 s l n (k+1)=if (zaB (butK k) l n.toNat 0 s).e=0 then zc2 s l n k++[(k:Int)] else zc2 s l n k from rfl)
   have hlen:=zgw s l n k
   have HE2:=Lib.hid (HE7.out k)
   generalize zaB (butK k) l n.toNat 0 s=N at *
   generalize zc2 s l n k=xs at *
   generalize zbA (zbo (k:Int) (-1)) l 0=LL at *
   go_upto_region 11 with (fail)
   have hk2:(k:Int)<64:=by omega
   go_cut [13] (fun e wx=>e=.int .i64 N.e∧Grew z.world wx)
   case first=>
    obtain ⟨w1,hw1⟩:=zaj (Grew.drew (Grew.refl z.world))
    refine zdj (Grew z.world.drew) [] rfl ?_
    rw[hw1]
    have k4:RowIs w1.world w.heap.size 28 s.cells:=inferInstance
    have g1:=w1.grew
    clear hw1
    generalize w1.world=Y at *
    have gz:Grew w Y:=W.grew.trans (z.grew.trans g1)
    refine zaf 0 [] (v:=.agg s.cells.toArray) rfl (by kernel_rfl) (by kernel_rfl) (by kernel_rfl) (by kernel_rfl) (fun _ _ _ h=>h) (by rfl) gwr (fun w' hw=>?_) ?_
    ·exact zeA (hr:=k4.grew hw) 28 _ rfl rfl
    try simp only[List.getElem_toArray,List.getElem_cons_succ,List.getElem_cons_zero,Act.put,List.setIfInBounds_toArray,List.set_cons_zero,List.set_cons_succ]
    refine zaf 1 [] (v:=.slice ao l.length cap) rfl (by kernel_rfl) (by kernel_rfl) (by kernel_rfl) (by kernel_rfl) (fun _ _ _ h=>h) (by rfl) gwr (fun w' hw=>?_) ?_
    ·go_simp
    try simp only[List.getElem_toArray,List.getElem_cons_succ,List.getElem_cons_zero,Act.put,List.setIfInBounds_toArray,List.set_cons_zero,List.set_cons_succ]
    refine zaf 2 [] (v:=.int .i64 k) rfl (by kernel_rfl) (by kernel_rfl) (by kernel_rfl) (by kernel_rfl) (fun _ _ _ h=>h) (by rfl) gwr (fun w' hw=>?_) ?_
    ·go_simp
    try simp only[List.getElem_toArray,List.getElem_cons_succ,List.getElem_cons_zero,Act.put,List.setIfInBounds_toArray,List.set_cons_zero,List.set_cons_succ]
    refine zaf 4 [] (v:=.int .i64 n) rfl (by kernel_rfl) (by kernel_rfl) (by kernel_rfl) (by kernel_rfl) (fun _ _ _ h=>h) (by rfl) gwr (fun w' hw=>?_) ?_
    ·go_simp
    try simp only[List.getElem_toArray,List.getElem_cons_succ,List.getElem_cons_zero,Act.put,List.setIfInBounds_toArray,List.set_cons_zero,List.set_cons_succ]
    refine zdv 3 10 (by kernel_rfl) rfl rfl (fun K hK=>?_) (fun K hK=>?_)
    ·skip
     go_simp
     refine (HWo.out _ (gz.trans gwr)).mono ?_
     rintro ew w2 ⟨ao2,cap2,rfl,hsl2,hg2⟩
     obtain ⟨uw,rfl⟩:=zaj hg2
     have hslw:=Lib.hid hsl2
     clear hg2 hsl2
     refine hK.out _ _ (fun _=>gwr) ?_
     clear hK K
     try simp only[List.getElem_toArray,List.getElem_cons_succ,List.getElem_cons_zero,Act.put,List.setIfInBounds_toArray,List.set_cons_zero,List.set_cons_succ]
     refine zdv 5 10 (by kernel_rfl) rfl rfl (fun K hK=>?_) (fun K hK=>?_)
     ·skip
      go_simp
      refine (HFu.out ao2 cap2 _ (hslw.out.grew gwr)).mono ?_
      rintro ef w2 ⟨rfl,hg2⟩
      obtain ⟨uf,rfl⟩:=zaj hg2
      clear hg2
      refine hK.out _ _ (fun _=>gwr) ?_
      clear hK K
      try simp only[List.getElem_toArray,List.getElem_cons_succ,List.getElem_cons_zero,Act.put,List.setIfInBounds_toArray,List.set_cons_zero,List.set_cons_succ]
      refine zaf 6 [] (v:=.tuple #[.agg N.s.cells.toArray,.int .i64 N.n,.int .i64 N.e]) rfl (by kernel_rfl) (by kernel_rfl) (by kernel_rfl) (by kernel_rfl) (fun _ _ _ h=>h) (by rfl) gwr (fun w' hw=>?_) ?_
      ·go_simp
      try simp only[List.getElem_toArray,List.getElem_cons_succ,List.getElem_cons_zero,Act.put,List.setIfInBounds_toArray,List.set_cons_zero,List.set_cons_succ]
      refine zaf 7 [] (v:=.agg N.s.cells.toArray) rfl (by kernel_rfl) (by kernel_rfl) (by kernel_rfl) (by kernel_rfl) (fun _ _ _ h=>h) (by rfl) gwr (fun w' hw=>?_) ?_
      ·go_simp
      try simp only[List.getElem_toArray,List.getElem_cons_succ,List.getElem_cons_zero,Act.put,List.setIfInBounds_toArray,List.set_cons_zero,List.set_cons_succ]
      refine zaf 8 [] (v:=.int .i64 N.n) rfl (by kernel_rfl) (by kernel_rfl) (by kernel_rfl) (by kernel_rfl) (fun _ _ _ h=>h) (by rfl) gwr (fun w' hw=>?_) ?_
      ·go_simp
      try simp only[List.getElem_toArray,List.getElem_cons_succ,List.getElem_cons_zero,Act.put,List.setIfInBounds_toArray,List.set_cons_zero,List.set_cons_succ]
      refine zaf 9 [] (v:=.int .i64 N.e) rfl (by kernel_rfl) (by kernel_rfl) (by kernel_rfl) (by kernel_rfl) (fun _ _ _ h=>h) (by rfl) gwr (fun w' hw=>?_) ?_
      ·go_simp
      try simp only[List.getElem_toArray,List.getElem_cons_succ,List.getElem_cons_zero,Act.put,List.setIfInBounds_toArray,List.set_cons_zero,List.set_cons_succ]
      refine zal 10 (by kernel_rfl) rfl fun K hK=>?_
      go_simp
      refine hK.out _ _ (fun _=>gwr) ?_
      clear hK K
      try simp only[List.getElem_toArray,List.getElem_cons_succ,List.getElem_cons_zero,Act.put,List.setIfInBounds_toArray,List.set_cons_zero,List.set_cons_succ]
      refine zal 11 (by kernel_rfl) rfl fun K hK=>?_
      refine zeb (p:=.pointer (some ⟨uf.world.heap.size,0,none⟩)) (v:=.agg N.s.cells.toArray) rfl rfl 28 _ _ rfl rfl rfl (zdu _ uf.world.heap.size N.s.cells zcm) ?_
      refine hK.out _ _ (fun _=>gwr) ?_
      clear hK K
      try simp only[List.getElem_toArray,List.getElem_cons_succ,List.getElem_cons_zero,Act.put,List.setIfInBounds_toArray,List.set_cons_zero,List.set_cons_succ]
      refine zal 12 (by kernel_rfl) rfl fun K hK=>?_
      go_simp
      refine hK.out _ _ (fun _=>gwr) ?_
      clear hK K
      try simp only[List.getElem_toArray,List.getElem_cons_succ,List.getElem_cons_zero,Act.put,List.setIfInBounds_toArray,List.set_cons_zero,List.set_cons_succ]
      refine zal 13 (by kernel_rfl) rfl fun K hK=>?_
      go_simp
      refine hK.out _ _ (fun _=>gwr) ?_
      clear hK K
      try simp only[List.getElem_toArray,List.getElem_cons_succ,List.getElem_cons_zero,Act.put,List.setIfInBounds_toArray,List.set_cons_zero,List.set_cons_succ]
      refine zbs (by kernel_rfl) ?_
      go_wp2
      go_meet
      case rel=>exact ⟨rfl,g1.trans gwr⟩
     ·go_simp
      refine hK.out _ _ (fun _=>gwr) ?_
      clear hK K
      try simp only[List.getElem_toArray,List.getElem_cons_succ,List.getElem_cons_zero,Act.put,List.setIfInBounds_toArray,List.set_cons_zero,List.set_cons_succ]
      refine zal 5 (by kernel_rfl) rfl fun K hK=>?_
      go_simp
      refine (HFu.out ao2 cap2 _ (hslw.out.grew gwr)).mono ?_
      rintro ef w2 ⟨rfl,hg2⟩
      obtain ⟨uf,rfl⟩:=zaj hg2
      clear hg2
      refine hK.out _ _ (fun _=>gwr) ?_
      clear hK K
      try simp only[List.getElem_toArray,List.getElem_cons_succ,List.getElem_cons_zero,Act.put,List.setIfInBounds_toArray,List.set_cons_zero,List.set_cons_succ]
      refine zaf 6 [] (v:=.tuple #[.agg N.s.cells.toArray,.int .i64 N.n,.int .i64 N.e]) rfl (by kernel_rfl) (by kernel_rfl) (by kernel_rfl) (by kernel_rfl) (fun _ _ _ h=>h) (by rfl) gwr (fun w' hw=>?_) ?_
      ·go_simp
      try simp only[List.getElem_toArray,List.getElem_cons_succ,List.getElem_cons_zero,Act.put,List.setIfInBounds_toArray,List.set_cons_zero,List.set_cons_succ]
      refine zaf 7 [] (v:=.agg N.s.cells.toArray) rfl (by kernel_rfl) (by kernel_rfl) (by kernel_rfl) (by kernel_rfl) (fun _ _ _ h=>h) (by rfl) gwr (fun w' hw=>?_) ?_
      ·go_simp
      try simp only[List.getElem_toArray,List.getElem_cons_succ,List.getElem_cons_zero,Act.put,List.setIfInBounds_toArray,List.set_cons_zero,List.set_cons_succ]
      refine zaf 8 [] (v:=.int .i64 N.n) rfl (by kernel_rfl) (by kernel_rfl) (by kernel_rfl) (by kernel_rfl) (fun _ _ _ h=>h) (by rfl) gwr (fun w' hw=>?_) ?_
      ·go_simp
      try simp only[List.getElem_toArray,List.getElem_cons_succ,List.getElem_cons_zero,Act.put,List.setIfInBounds_toArray,List.set_cons_zero,List.set_cons_succ]
      refine zaf 9 [] (v:=.int .i64 N.e) rfl (by kernel_rfl) (by kernel_rfl) (by kernel_rfl) (by kernel_rfl) (fun _ _ _ h=>h) (by rfl) gwr (fun w' hw=>?_) ?_
      ·go_simp
      try simp only[List.getElem_toArray,List.getElem_cons_succ,List.getElem_cons_zero,Act.put,List.setIfInBounds_toArray,List.set_cons_zero,List.set_cons_succ]
      refine zal 11 (by kernel_rfl) rfl fun K hK=>?_
      refine zeb (p:=.pointer (some ⟨uw.world.heap.size,0,none⟩)) (v:=.agg N.s.cells.toArray) rfl rfl 28 _ _ rfl rfl rfl (zdu _ uw.world.heap.size N.s.cells zcm) ?_
      refine hK.out _ _ (fun _=>gwr) ?_
      clear hK K
      try simp only[List.getElem_toArray,List.getElem_cons_succ,List.getElem_cons_zero,Act.put,List.setIfInBounds_toArray,List.set_cons_zero,List.set_cons_succ]
      refine zal 12 (by kernel_rfl) rfl fun K hK=>?_
      go_simp
      refine hK.out _ _ (fun _=>gwr) ?_
      clear hK K
      try simp only[List.getElem_toArray,List.getElem_cons_succ,List.getElem_cons_zero,Act.put,List.setIfInBounds_toArray,List.set_cons_zero,List.set_cons_succ]
      refine zal 13 (by kernel_rfl) rfl fun K hK=>?_
      go_simp
      refine hK.out _ _ (fun _=>gwr) ?_
      clear hK K
      try simp only[List.getElem_toArray,List.getElem_cons_succ,List.getElem_cons_zero,Act.put,List.setIfInBounds_toArray,List.set_cons_zero,List.set_cons_succ]
      refine zbs (by kernel_rfl) ?_
      go_wp2
      go_meet
      case rel=>exact ⟨rfl,g1.trans gwr⟩
    ·go_simp
     refine hK.out _ _ (fun _=>gwr) ?_
     clear hK K
     try simp only[List.getElem_toArray,List.getElem_cons_succ,List.getElem_cons_zero,Act.put,List.setIfInBounds_toArray,List.set_cons_zero,List.set_cons_succ]
     refine zal 3 (by kernel_rfl) rfl fun K hK=>?_
     go_simp
     refine (HWo.out _ (gz.trans gwr)).mono ?_
     rintro ew w2 ⟨ao2,cap2,rfl,hsl2,hg2⟩
     obtain ⟨uw,rfl⟩:=zaj hg2
     have hslw:=Lib.hid hsl2
     clear hg2 hsl2
     refine hK.out _ _ (fun _=>gwr) ?_
     clear hK K
     try simp only[List.getElem_toArray,List.getElem_cons_succ,List.getElem_cons_zero,Act.put,List.setIfInBounds_toArray,List.set_cons_zero,List.set_cons_succ]
     refine zal 5 (by kernel_rfl) rfl fun K hK=>?_
     go_simp
     refine (HFu.out ao2 cap2 _ (hslw.out.grew gwr)).mono ?_
     rintro ef w2 ⟨rfl,hg2⟩
     obtain ⟨uf,rfl⟩:=zaj hg2
     clear hg2
     refine hK.out _ _ (fun _=>gwr) ?_
     clear hK K
     try simp only[List.getElem_toArray,List.getElem_cons_succ,List.getElem_cons_zero,Act.put,List.setIfInBounds_toArray,List.set_cons_zero,List.set_cons_succ]
     refine zaf 6 [] (v:=.tuple #[.agg N.s.cells.toArray,.int .i64 N.n,.int .i64 N.e]) rfl (by kernel_rfl) (by kernel_rfl) (by kernel_rfl) (by kernel_rfl) (fun _ _ _ h=>h) (by rfl) gwr (fun w' hw=>?_) ?_
     ·go_simp
     try simp only[List.getElem_toArray,List.getElem_cons_succ,List.getElem_cons_zero,Act.put,List.setIfInBounds_toArray,List.set_cons_zero,List.set_cons_succ]
     refine zaf 7 [] (v:=.agg N.s.cells.toArray) rfl (by kernel_rfl) (by kernel_rfl) (by kernel_rfl) (by kernel_rfl) (fun _ _ _ h=>h) (by rfl) gwr (fun w' hw=>?_) ?_
     ·go_simp
     try simp only[List.getElem_toArray,List.getElem_cons_succ,List.getElem_cons_zero,Act.put,List.setIfInBounds_toArray,List.set_cons_zero,List.set_cons_succ]
     refine zaf 8 [] (v:=.int .i64 N.n) rfl (by kernel_rfl) (by kernel_rfl) (by kernel_rfl) (by kernel_rfl) (fun _ _ _ h=>h) (by rfl) gwr (fun w' hw=>?_) ?_
     ·go_simp
     try simp only[List.getElem_toArray,List.getElem_cons_succ,List.getElem_cons_zero,Act.put,List.setIfInBounds_toArray,List.set_cons_zero,List.set_cons_succ]
     refine zaf 9 [] (v:=.int .i64 N.e) rfl (by kernel_rfl) (by kernel_rfl) (by kernel_rfl) (by kernel_rfl) (fun _ _ _ h=>h) (by rfl) gwr (fun w' hw=>?_) ?_
     ·go_simp
     try simp only[List.getElem_toArray,List.getElem_cons_succ,List.getElem_cons_zero,Act.put,List.setIfInBounds_toArray,List.set_cons_zero,List.set_cons_succ]
     refine zal 11 (by kernel_rfl) rfl fun K hK=>?_
     refine zeb (p:=.pointer (some ⟨Y.heap.size,0,none⟩)) (v:=.agg N.s.cells.toArray) rfl rfl 28 _ _ rfl rfl rfl (zdu _ Y.heap.size N.s.cells zcm) ?_
     refine hK.out _ _ (fun _=>gwr) ?_
     clear hK K
     try simp only[List.getElem_toArray,List.getElem_cons_succ,List.getElem_cons_zero,Act.put,List.setIfInBounds_toArray,List.set_cons_zero,List.set_cons_succ]
     refine zal 12 (by kernel_rfl) rfl fun K hK=>?_
     go_simp
     refine hK.out _ _ (fun _=>gwr) ?_
     clear hK K
     try simp only[List.getElem_toArray,List.getElem_cons_succ,List.getElem_cons_zero,Act.put,List.setIfInBounds_toArray,List.set_cons_zero,List.set_cons_succ]
     refine zal 13 (by kernel_rfl) rfl fun K hK=>?_
     go_simp
     refine hK.out _ _ (fun _=>gwr) ?_
     clear hK K
     try simp only[List.getElem_toArray,List.getElem_cons_succ,List.getElem_cons_zero,Act.put,List.setIfInBounds_toArray,List.set_cons_zero,List.set_cons_succ]
     refine zbs (by kernel_rfl) ?_
     go_wp2
     go_meet
     case rel=>exact ⟨rfl,g1.trans gwr⟩
   case rest=>
   obtain ⟨rfl,hcut⟩:=hcut
   obtain ⟨z4,rfl⟩:=zaj hcut
   clear hcut
   by_cases he:N.e=0
   ·have t0:(N.e != 7)=true:=by rw[he];rfl
    have hS:=HSU.out
    rw[if_pos he] at hS
    have HS2:=Lib.hid hS
    clear hS HSU he
    go_wp2_with (first|(with_reducible refine wLi ?_)|(at_builtin;go_loud (refine zek W.world _ gw rfl _ _ rfl _ xs (zdr ho gw) rfl k _ rfl (by omega) ?_;intro v' y1 hown')))
    go_roundw
    case rel=>exact ⟨k+1,by go_num,by omega,by rw[HS2.out];exact hown',gw⟩
    case measure=>simp[intOf];omega
   ·have h7:N.e=7:=by
     rcases HE2.out with h|h
     ·exact absurd h.1 he
     ·exact h.1
    have t0:(N.e != 7)=false:=by rw[h7];rfl
    have hS:=HSU.out
    rw[if_neg he] at hS
    have HS2:=Lib.hid hS
    clear hS HSU he h7
    go_wp2
    go_roundw
    case rel=>exact ⟨k+1,by go_num,by omega,by rw[HS2.out];exact zdr ho gw,gw⟩
    case measure=>simp[intOf];omega
  ·obtain rfl:k=l.length:=by omega
   go_wp2
   go_ret2
   exact ⟨_,rfl,SlAt.of_owns ho,gw⟩
end Go.Proofs.YtdkfkalplmgoeaaGreat
