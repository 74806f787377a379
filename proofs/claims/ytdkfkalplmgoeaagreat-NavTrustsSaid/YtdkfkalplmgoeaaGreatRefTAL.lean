/-
  Joined: RefTA.
-/
import Derived.Test.YtdkfkalplmgoeaaGreatAppRadL
import Derived.Test.YtdkfkalplmgoeaaGreatRangeTwoL
import Derived.Test.YtdkfkalplmgoeaaGreatTrustNL
import Derived.Test.YtdkfkalplmgoeaaGreatRefDivsL
namespace Go.Proofs.YtdkfkalplmgoeaaGreat
open Go.RowKit Go.Shelf
set_option maxRecDepth 100000
set_option maxHeartbeats 8000000
set_option linter.unusedSimpArgs false
theorem zd8 {a b:Sp} (ha:a.okB=true) (hb:b.okB=true) (w:World):Calls Tryz.prog 41 #[.agg #[.int .i64 a.lo,.int .i64 a.hi],.agg #[.int .i64 b.lo,.int .i64 b.hi]] w fun e w'=>e=.returned (.tuple #[.agg #[.int .i64 ((zbb a b)).lo,.int .i64 ((zbb a b)).hi],.int .i64 0])∧Grew w w':=by
 have:=ziF a b w
 rw[show zcp a b=⟨zbb a b,0⟩ by unfold zcp;rw[ha,hb];rfl] at this
 exact this
theorem zjR {b:Bx} (h:b.okB=true):b.x.okB=true∧b.y.okB=true∧b.z.okB=true:=by
 unfold Bx.okB at h
 simp only[Bool.and_eq_true] at h
 exact ⟨h.1.1,h.1.2,h.2⟩
theorem zk7 (a b:State) (ha:a.p.okB=true∧a.v.okB=true) (hb:b.p.okB=true∧b.v.okB=true) (w:World):Calls Tryz.prog 24 #[.agg #[.int .i64 a.t,.int .i64 a.p.x.lo,.int .i64 a.p.x.hi,.int .i64 a.p.y.lo,.int .i64 a.p.y.hi,.int .i64 a.p.z.lo,.int .i64 a.p.z.hi,.int .i64 a.v.x.lo,.int .i64 a.v.x.hi,.int .i64 a.v.y.lo,.int .i64 a.v.y.hi,.int .i64 a.v.z.lo,.int .i64 a.v.z.hi,.int .i64 a.m.lo,.int .i64 a.m.hi],.agg #[.int .i64 b.t,.int .i64 b.p.x.lo,.int .i64 b.p.x.hi,.int .i64 b.p.y.lo,.int .i64 b.p.y.hi,.int .i64 b.p.z.lo,.int .i64 b.p.z.hi,.int .i64 b.v.x.lo,.int .i64 b.v.x.hi,.int .i64 b.v.y.lo,.int .i64 b.v.y.hi,.int .i64 b.v.z.lo,.int .i64 b.v.z.hi,.int .i64 b.m.lo,.int .i64 b.m.hi]] w fun e w'=>e=.returned (.agg #[.int .i64 ((zbh a b)).t,.int .i64 ((zbh a b)).p.x.lo,.int .i64 ((zbh a b)).p.x.hi,.int .i64 ((zbh a b)).p.y.lo,.int .i64 ((zbh a b)).p.y.hi,.int .i64 ((zbh a b)).p.z.lo,.int .i64 ((zbh a b)).p.z.hi,.int .i64 ((zbh a b)).v.x.lo,.int .i64 ((zbh a b)).v.x.hi,.int .i64 ((zbh a b)).v.y.lo,.int .i64 ((zbh a b)).v.y.hi,.int .i64 ((zbh a b)).v.z.lo,.int .i64 ((zbh a b)).v.z.hi,.int .i64 ((zbh a b)).m.lo,.int .i64 ((zbh a b)).m.hi])∧Grew w w':=by
 obtain ⟨⟨a1,a2,a3⟩,a4,a5,a6⟩:=(⟨zjR ha.1,zjR ha.2⟩:(a.p.x.okB=true∧a.p.y.okB=true∧a.p.z.okB=true)∧a.v.x.okB=true∧a.v.y.okB=true∧a.v.z.okB=true)
 obtain ⟨⟨b1,b2,b3⟩,b4,b5,b6⟩:=(⟨zjR hb.1,zjR hb.2⟩:(b.p.x.okB=true∧b.p.y.okB=true∧b.p.z.okB=true)∧b.v.x.okB=true∧b.v.y.okB=true∧b.v.z.okB=true)
 have G1:=Lib.hid (fun w=>zd8 a1 b1 w)
 have G2:=Lib.hid (fun w=>zd8 a4 b4 w)
 have G3:=Lib.hid (fun w=>zd8 a2 b2 w)
 have G4:=Lib.hid (fun w=>zd8 a5 b5 w)
 have G5:=Lib.hid (fun w=>zd8 a3 b3 w)
 have G6:=Lib.hid (fun w=>zd8 a6 b6 w)
 have hR:(.agg #[.int .i64 ((zbh a b)).t,.int .i64 ((zbh a b)).p.x.lo,.int .i64 ((zbh a b)).p.x.hi,.int .i64 ((zbh a b)).p.y.lo,.int .i64 ((zbh a b)).p.y.hi,.int .i64 ((zbh a b)).p.z.lo,.int .i64 ((zbh a b)).p.z.hi,.int .i64 ((zbh a b)).v.x.lo,.int .i64 ((zbh a b)).v.x.hi,.int .i64 ((zbh a b)).v.y.lo,.int .i64 ((zbh a b)).v.y.hi,.int .i64 ((zbh a b)).v.z.lo,.int .i64 ((zbh a b)).v.z.hi,.int .i64 ((zbh a b)).m.lo,.int .i64 ((zbh a b)).m.hi]:Value)=.agg #[.int .i64 a.t,.int .i64 (zbb a.p.x b.p.x).lo,.int .i64 (zbb a.p.x b.p.x).hi,.int .i64 (zbb a.p.y b.p.y).lo,.int .i64 (zbb a.p.y b.p.y).hi,.int .i64 (zbb a.p.z b.p.z).lo,.int .i64 (zbb a.p.z b.p.z).hi,.int .i64 (zbb a.v.x b.v.x).lo,.int .i64 (zbb a.v.x b.v.x).hi,.int .i64 (zbb a.v.y b.v.y).lo,.int .i64 (zbb a.v.y b.v.y).hi,.int .i64 (zbb a.v.z b.v.z).lo,.int .i64 (zbb a.v.z b.v.z).hi,.int .i64 a.m.lo,.int .i64 a.m.hi]:=rfl
 rw[hR]
 clear hR ha hb a1 a2 a3 a4 a5 a6 b1 b2 b3 b4 b5 b6
 generalize zbb a.p.x b.p.x=X1 at *
 generalize zbb a.v.x b.v.x=X2 at *
 generalize zbb a.p.y b.p.y=X3 at *
 generalize zbb a.v.y b.v.y=X4 at *
 generalize zbb a.p.z b.p.z=X5 at *
 generalize zbb a.v.z b.v.z=X6 at *
 go_enter Tryz.func24,Tryz.ntmps24
 go_wp2
 refine wp_loop_rounds 4 ?_
 rw[rounds_succ]
 go_wp2
 refine zay 15 [] [9] [12] (fun W0=>[]) [.tuple #[.agg #[.int .i64 X1.lo,.int .i64 X1.hi],.int .i64 0]] [15] (by rfl) (fun _ x hx=>absurd hx (List.not_mem_nil)) (by kernel_rfl) (by kernel_rfl) (by kernel_rfl) ?_
 intro p
 apply Exists.intro
 apply And.intro
 iterate 9 (apply zap (by kernel_rfl);(· intro u;unfold zae;go_simp;rfl))
 apply zaA 0 (by kernel_rfl) (by rfl) (by decide)
 ·intro u hF;clear hF;unfold zaw;go_simp;exact G1.out _
 iterate 2 (apply zap (by kernel_rfl);(· intro u;unfold zae;go_simp;rfl))
 apply zcd (by kernel_rfl)
 ·intro u;unfold zae;go_simp;rfl
 iterate 2 (apply zap (by kernel_rfl);(· intro u;unfold zae;go_simp;rfl))
 apply zbi
 rotate_left
 ·rfl
 intro u hR hD
 clear hR hD
 refine zak (by rfl) ?_;unfold zav;go_simp
 refine zau ?_
 go_wp2
 refine zay 15 [] [9] [12] (fun W0=>[]) [.tuple #[.agg #[.int .i64 X2.lo,.int .i64 X2.hi],.int .i64 0]] [15] (by rfl) (fun _ x hx=>absurd hx (List.not_mem_nil)) (by kernel_rfl) (by kernel_rfl) (by kernel_rfl) ?_
 intro p
 apply Exists.intro
 apply And.intro
 iterate 9 (apply zap (by kernel_rfl);(· intro u;unfold zae;go_simp;rfl))
 apply zaA 0 (by kernel_rfl) (by rfl) (by decide)
 ·intro u hF;clear hF;unfold zaw;go_simp;exact G2.out _
 iterate 2 (apply zap (by kernel_rfl);(· intro u;unfold zae;go_simp;rfl))
 apply zcd (by kernel_rfl)
 ·intro u;unfold zae;go_simp;rfl
 iterate 2 (apply zap (by kernel_rfl);(· intro u;unfold zae;go_simp;rfl))
 apply zbi
 rotate_left
 ·rfl
 intro u hR hD
 clear hR hD
 refine zak (by rfl) ?_;unfold zav;go_simp
 refine zau ?_
 go_wp2
 rw[rounds_succ]
 go_wp2
 refine zay 15 [] [9] [12] (fun W0=>[]) [.tuple #[.agg #[.int .i64 X3.lo,.int .i64 X3.hi],.int .i64 0]] [15] (by rfl) (fun _ x hx=>absurd hx (List.not_mem_nil)) (by kernel_rfl) (by kernel_rfl) (by kernel_rfl) ?_
 intro p
 apply Exists.intro
 apply And.intro
 iterate 9 (apply zap (by kernel_rfl);(· intro u;unfold zae;go_simp;rfl))
 apply zaA 0 (by kernel_rfl) (by rfl) (by decide)
 ·intro u hF;clear hF;unfold zaw;go_simp;exact G3.out _
 iterate 2 (apply zap (by kernel_rfl);(· intro u;unfold zae;go_simp;rfl))
 apply zcd (by kernel_rfl)
 ·intro u;unfold zae;go_simp;rfl
 iterate 2 (apply zap (by kernel_rfl);(· intro u;unfold zae;go_simp;rfl))
 apply zbi
 rotate_left
 ·rfl
 intro u hR hD
 clear hR hD
 refine zak (by rfl) ?_;unfold zav;go_simp
 refine zau ?_
 go_wp2
 refine zay 15 [] [9] [12] (fun W0=>[]) [.tuple #[.agg #[.int .i64 X4.lo,.int .i64 X4.hi],.int .i64 0]] [15] (by rfl) (fun _ x hx=>absurd hx (List.not_mem_nil)) (by kernel_rfl) (by kernel_rfl) (by kernel_rfl) ?_
 intro p
 apply Exists.intro
 apply And.intro
 iterate 9 (apply zap (by kernel_rfl);(· intro u;unfold zae;go_simp;rfl))
 apply zaA 0 (by kernel_rfl) (by rfl) (by decide)
 ·intro u hF;clear hF;unfold zaw;go_simp;exact G4.out _
 iterate 2 (apply zap (by kernel_rfl);(· intro u;unfold zae;go_simp;rfl))
 apply zcd (by kernel_rfl)
 ·intro u;unfold zae;go_simp;rfl
 iterate 2 (apply zap (by kernel_rfl);(· intro u;unfold zae;go_simp;rfl))
 apply zbi
 rotate_left
 ·rfl
 intro u hR hD
 clear hR hD
 refine zak (by rfl) ?_;unfold zav;go_simp
 refine zau ?_
 go_wp2
 rw[rounds_succ]
 go_wp2
 refine zay 15 [] [9] [12] (fun W0=>[]) [.tuple #[.agg #[.int .i64 X5.lo,.int .i64 X5.hi],.int .i64 0]] [15] (by rfl) (fun _ x hx=>absurd hx (List.not_mem_nil)) (by kernel_rfl) (by kernel_rfl) (by kernel_rfl) ?_
 intro p
 apply Exists.intro
 apply And.intro
 iterate 9 (apply zap (by kernel_rfl);(· intro u;unfold zae;go_simp;rfl))
 apply zaA 0 (by kernel_rfl) (by rfl) (by decide)
 ·intro u hF;clear hF;unfold zaw;go_simp;exact G5.out _
 iterate 2 (apply zap (by kernel_rfl);(· intro u;unfold zae;go_simp;rfl))
 apply zcd (by kernel_rfl)
 ·intro u;unfold zae;go_simp;rfl
 iterate 2 (apply zap (by kernel_rfl);(· intro u;unfold zae;go_simp;rfl))
 apply zbi
 rotate_left
 ·rfl
 intro u hR hD
 clear hR hD
 refine zak (by rfl) ?_;unfold zav;go_simp
 refine zau ?_
 go_wp2
 refine zay 15 [] [9] [12] (fun W0=>[]) [.tuple #[.agg #[.int .i64 X6.lo,.int .i64 X6.hi],.int .i64 0]] [15] (by rfl) (fun _ x hx=>absurd hx (List.not_mem_nil)) (by kernel_rfl) (by kernel_rfl) (by kernel_rfl) ?_
 intro p
 apply Exists.intro
 apply And.intro
 iterate 9 (apply zap (by kernel_rfl);(· intro u;unfold zae;go_simp;rfl))
 apply zaA 0 (by kernel_rfl) (by rfl) (by decide)
 ·intro u hF;clear hF;unfold zaw;go_simp;exact G6.out _
 iterate 2 (apply zap (by kernel_rfl);(· intro u;unfold zae;go_simp;rfl))
 apply zcd (by kernel_rfl)
 ·intro u;unfold zae;go_simp;rfl
 iterate 2 (apply zap (by kernel_rfl);(· intro u;unfold zae;go_simp;rfl))
 apply zbi
 rotate_left
 ·rfl
 intro u hR hD
 clear hR hD
 refine zak (by rfl) ?_;unfold zav;go_simp
 refine zau ?_
 go_wp2
 rw[rounds_succ]
 go_wp2
 refine bodyPost_ret (zmI (l:=[.int .i64 a.t,.int .i64 X1.lo,.int .i64 X1.hi,.int .i64 X3.lo,.int .i64 X3.hi,.int .i64 X5.lo,.int .i64 X5.hi,.int .i64 X2.lo,.int .i64 X2.hi,.int .i64 X4.lo,.int .i64 X4.hi,.int .i64 X6.lo,.int .i64 X6.hi,.int .i64 a.m.lo,.int .i64 a.m.hi]) Tryz.results24 rfl inferInstance (zoR inferInstance rfl) inferInstance) rfl ?_
 exact ⟨rfl,gw⟩
def zrb (L:List Radio) (w:World) (e:Ending) (w':World):Prop:=∃ ao cap,e=.returned (.slice ao L.length cap)∧SlAt w' (.slice ao L.length cap) L.length (L.flatMap Radio.cells)∧Grew w w'
theorem zeK (l:List Radio) (i k:Int) (hl:l.length≤20) (ao:Option Addr) (cap:Nat) (w:World) (hs:SlAt w (.slice ao l.length cap) l.length (l.flatMap Radio.cells)) :
 Calls Tryz.prog 23 #[.slice ao l.length cap,.int .i64 i,.int .i64 k] w (zrb (zbA (zbo i k) l 0) w):=by
 obtain ⟨ao',cap',e1,-,hx⟩:=hs
 cases e1
 have HE:=Lib.hid (SlAt.elem (f:=Radio.cells) (c:=15) (fun _=>rfl) (by omega) hx)
 have HS:=Lib.hid (zkC (zbo i k) l)
 have H0:=Lib.hid (show zbA (zbo i k) (l.take 0) 0=[] by rw[List.take_zero];rfl)
 have HF:=Lib.hid (show zbA (zbo i k) (l.take l.length) 0=zbA (zbo i k) l 0 by rw[List.take_length])
 have HL:=Lib.hid (fun j=>Nat.le_trans (zia (zbo i k) (l.take j) 0) (show (l.take j).length≤20 by rw[List.length_take];omega))
 clear hx
 generalize zbA (zbo i k) l 0=LL at *
 obtain ⟨D,hD⟩:∃ D:Nat→List Radio,D=fun j=>zbA (zbo i k) (l.take j) 0:=⟨_,rfl⟩
 have HS2:=Lib.hid (fun j (h:j<l.length)=>show D (j+1)=if zbo i k j=true then D j++[l[j]] else D j by rw[hD];exact HS.out j h)
 have HL2:=Lib.hid (fun j=>show (D j).length≤20 by rw[hD];exact HL.out j)
 have H02:=Lib.hid (show D 0=[] by rw[hD];exact H0.out)
 have HF2:=Lib.hid (show D l.length=LL by rw[hD];exact HF.out)
 clear HS HL H0 HF hD
 go_enter Tryz.func23,Tryz.ntmps23
 go_wp2
 go_loopw [7,8] (fun v t wr=>∃ j:Nat,t=.int .i64 j∧j≤l.length∧wr.ownsRow w.heap.size 88 15 v (D j).length ((D j).flatMap Radio.cells)∧Grew w wr) (fun _ t _=>l.length-(intOf t).toNat)
 case atStart=>exact ⟨0,rfl,by omega,by rw[H02.out];exact World.ownsRow_nil _ _ _ _,gw⟩
 case round=>
  obtain ⟨j,rfl,hj,hown,hg⟩:=hrel
  obtain ⟨z,rfl⟩:=zaj hg
  clear hg
  by_cases hlt:j<l.length
  ·obtain ⟨b1,o1,e1,i1,hd1,hd2⟩:=HE.out j hlt
   cases e1
   have rg0:RangeIs w b1 (o1+j*15) 15 l[j].cells:=⟨fun j v hv=>hd2 j v hv,rfl⟩
   have j1:BlockIn w b1:=⟨i1⟩
   clear hd1 hd2
   have hS:=HS2.out j hlt
   have hlen:=HL2.out j
   generalize l[j]=b at *
   have rg:RangeIs w b1 (o1+j*15) 15 [.int .i64 b.kind,.int .i64 b.place.x.lo,.int .i64 b.place.x.hi,.int .i64 b.place.y.lo,.int .i64 b.place.y.hi,.int .i64 b.place.z.lo,.int .i64 b.place.z.hi,.int .i64 b.dir.x.lo,.int .i64 b.dir.x.hi,.int .i64 b.dir.y.lo,.int .i64 b.dir.y.hi,.int .i64 b.dir.z.lo,.int .i64 b.dir.z.hi,.int .i64 b.value.lo,.int .i64 b.value.hi]:=rg0
   clear rg0
   by_cases c1:(j:Int)=i
   ·have hk:zbo i k j=false:=by unfold zbo;simp[c1]
    rw[hk] at hS
    have HS3:=Lib.hid (hS.trans (if_neg (by simp)))
    have t1:((j:Int) != i)=false:=by simp[c1]
    clear hS hk c1
    go_wp2
    go_roundw
    case rel=>exact ⟨j+1,by go_num,by omega,by rw[HS3.out];exact hown,gw⟩
    case measure=>simp[intOf];omega
   have t1:((j:Int) != i)=true:=by simp[c1]
   by_cases c2:(j:Int)=k
   ·have hk:zbo i k j=false:=by unfold zbo;simp[c2]
    rw[hk] at hS
    have HS3:=Lib.hid (hS.trans (if_neg (by simp)))
    have t2:((j:Int) != k)=false:=by simp[c2]
    clear hS hk c1 c2
    go_wp2
    go_roundw
    case rel=>exact ⟨j+1,by go_num,by omega,by rw[HS3.out];exact hown,gw⟩
    case measure=>simp[intOf];omega
   have t2:((j:Int) != k)=true:=by simp[c2]
   have hk:zbo i k j=true:=by unfold zbo;simp[c1,c2]
   rw[hk] at hS
   have HS3:=Lib.hid (hS.trans (if_pos rfl))
   clear hS hk c1 c2
   go_wp2_with (first|(with_reducible refine wLr ?_)|(at_builtin;go_loud (refine zfB w _ gw rfl _ _ rfl _ (D j) (zdr hown gw) rfl b _ rfl (by omega) ?_;intro v' y1 hown')))
   go_roundw
   case rel=>exact ⟨j+1,by go_num,by omega,by rw[HS3.out];exact hown',gw⟩
   case measure=>simp[intOf];omega
  ·obtain rfl:j=l.length:=by omega
   rw[HF2.out] at hown
   obtain ⟨ao2,cap2,rfl⟩:=zmn hown
   have Hown:=Lib.hid hown
   clear hown
   go_wp2
   go_ret
   exact ⟨ao2,cap2,rfl,SlAt.of_owns Hown.out,gw⟩
end Go.Proofs.YtdkfkalplmgoeaaGreat
