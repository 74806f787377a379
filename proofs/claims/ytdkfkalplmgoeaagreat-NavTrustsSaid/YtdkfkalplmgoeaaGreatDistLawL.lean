/-
  Joined: RefNavAll, DistLaw.
-/
import Derived.Test.YtdkfkalplmgoeaaGreatRowL
import Derived.Test.YtdkfkalplmgoeaaGreatRefDotL
import Derived.Test.YtdkfkalplmgoeaaGreatRefDivsL
import Derived.Test.YtdkfkalplmgoeaaGreatCalcsL
import Derived.Test.YtdkfkalplmgoeaaGreatLexStopL
import Derived.Test.YtdkfkalplmgoeaaGreatMonoLawL
namespace Go.Proofs.YtdkfkalplmgoeaaGreat
open Go.RowKit Go.Shelf
set_option maxRecDepth 100000
set_option maxHeartbeats 16000000
def aw0 (e:Int) (p f:Bx):Res:=doR e (subR p.x f.x)
def aw1 (e:Int) (p f:Bx):Res:=doR (aw0 e p f).e (subR p.y f.y)
def aw2 (e:Int) (p f:Bx):Res:=doR (aw1 e p f).e (subR p.z f.z)
def awC (e:Int) (p f:Bx):Bx:=⟨(aw0 e p f).s,(aw1 e p f).s,(aw2 e p f).s⟩
instance zrd (e:Int) (p f:Bx):B64 (awC e p f):=by
 unfold awC aw0 aw1 aw2
 exact ⟨inferInstance,inferInstance,inferInstance⟩
theorem zg1 (c:Nat) (e:Int) (p f:Bx) [hp:B64 p] [hf:B64 f] (w:World) (hc:w.cell? ⟨c,0,none⟩=some (.int .i64 e)) (hfz0:w.frozen? ⟨c,0,none⟩=false) :
 Calls Tryz.prog 89 #[.pointer (some ⟨c,0,none⟩),.agg #[.int .i64 p.x.lo,.int .i64 p.x.hi,.int .i64 p.y.lo,.int .i64 p.y.hi,.int .i64 p.z.lo,.int .i64 p.z.hi],.agg #[.int .i64 f.x.lo,.int .i64 f.x.hi,.int .i64 f.y.lo,.int .i64 f.y.hi,.int .i64 f.z.lo,.int .i64 f.z.hi]] w (RetC c (.agg #[.int .i64 ((awC e p f)).x.lo,.int .i64 ((awC e p f)).x.hi,.int .i64 ((awC e p f)).y.lo,.int .i64 ((awC e p f)).y.hi,.int .i64 ((awC e p f)).z.lo,.int .i64 ((awC e p f)).z.hi]) (aw2 e p f).e w):=by
 have ib:BlockIn w c:=BlockIn.of_cell hc
 have hci:HasCell w c 0:=⟨_,hc⟩
 have Hb:=Lib.hid (But.refl hc)
 have Hc:=Lib.hid hc
 have HV:=Lib.hid (show awC e p f=⟨(aw0 e p f).s,(aw1 e p f).s,(aw2 e p f).s⟩ from rfl)
 go_enter Tryz.func89,Tryz.ntmps89
 go_wp2
 refine wp_loop_rounds 4 ?_
 rw[rounds_succ]
 go_wp2
 refine zaq c [e,(aw0 e p f).e] 10 [] [8] [] (fun W0=>[]) [.agg #[.int .i64 ((aw0 e p f).s).lo,.int .i64 ((aw0 e p f).s).hi]] [10] (by rfl) (by go_simp) (by go_simp) (fun _ _ x hx=>absurd hx (List.not_mem_nil)) (by kernel_rfl) (by kernel_rfl) (by kernel_rfl) ?_
 intro pz hd0
 apply Exists.intro
 apply And.intro
 iterate 8 (apply zas hd0 (by kernel_rfl);(· intro uz xc;unfold zae;go_simp;rfl))
 apply zat hd0 0 (by kernel_rfl) (by rfl) (by decide)
 ·intro uz hfz hF;clear hF;unfold zaw;go_simp;exact zci _ e p.x f.x _ (by go_simp) hfz
 apply zas hd0 (by kernel_rfl)
 ·intro uz xc;unfold zae;go_simp;rfl
 apply zaY
 rotate_left
 ·rfl
 intro uz hR hD hfz
 clear hR hD
 refine zak (by rfl) ?_;unfold zav;go_simp
 refine zau ?_
 go_wp2
 rw[rounds_succ]
 go_wp2
 refine zaq c [(aw0 e p f).e,(aw1 e p f).e] 10 [] [8] [] (fun W0=>[]) [.agg #[.int .i64 ((aw1 e p f).s).lo,.int .i64 ((aw1 e p f).s).hi]] [10] (by rfl) (by go_simp) (by go_simp) (fun _ _ x hx=>absurd hx (List.not_mem_nil)) (by kernel_rfl) (by kernel_rfl) (by kernel_rfl) ?_
 intro pz hd0
 apply Exists.intro
 apply And.intro
 iterate 8 (apply zas hd0 (by kernel_rfl);(· intro uz xc;unfold zae;go_simp;rfl))
 apply zat hd0 0 (by kernel_rfl) (by rfl) (by decide)
 ·intro uz hfz hF;clear hF;unfold zaw;go_simp;exact zci _ (aw0 e p f).e p.y f.y _ (by go_simp) hfz
 apply zas hd0 (by kernel_rfl)
 ·intro uz xc;unfold zae;go_simp;rfl
 apply zaY
 rotate_left
 ·rfl
 intro uz hR hD hfz
 clear hR hD
 refine zak (by rfl) ?_;unfold zav;go_simp
 refine zau ?_
 go_wp2
 rw[rounds_succ]
 go_wp2
 refine zaq c [(aw1 e p f).e,(aw2 e p f).e] 10 [] [8] [] (fun W0=>[]) [.agg #[.int .i64 ((aw2 e p f).s).lo,.int .i64 ((aw2 e p f).s).hi]] [10] (by rfl) (by go_simp) (by go_simp) (fun _ _ x hx=>absurd hx (List.not_mem_nil)) (by kernel_rfl) (by kernel_rfl) (by kernel_rfl) ?_
 intro pz hd0
 apply Exists.intro
 apply And.intro
 iterate 8 (apply zas hd0 (by kernel_rfl);(· intro uz xc;unfold zae;go_simp;rfl))
 apply zat hd0 0 (by kernel_rfl) (by rfl) (by decide)
 ·intro uz hfz hF;clear hF;unfold zaw;go_simp;exact zci _ (aw1 e p f).e p.z f.z _ (by go_simp) hfz
 apply zas hd0 (by kernel_rfl)
 ·intro uz xc;unfold zae;go_simp;rfl
 apply zaY
 rotate_left
 ·rfl
 intro uz hR hD hfz
 clear hR hD
 refine zak (by rfl) ?_;unfold zav;go_simp
 refine zau ?_
 go_wp2
 rw[rounds_succ]
 go_wp2
 refine bodyPost_ret (by (simp[results,Tryz.results89,go_sem]<;>rfl)) rfl ?_
 exact ⟨rfl,But.out btw Hc.out (by go_simp)⟩
end Go.Proofs.YtdkfkalplmgoeaaGreat
namespace Go.Proofs.YtdkfkalplmgoeaaGreat
open Go.RowKit Go.Shelf
set_option maxRecDepth 100000
set_option maxHeartbeats 16000000
theorem zlC {p f:Bx} (h:zbt p f=0):(aw2 0 p f).e=0∧awC 0 p f=zba p f:=by
 unfold zbt zfV at h
 have h0:(subR p.x f.x).e=0:=by
  by_cases a:(subR p.x f.x).e=0
  ·exact a
  ·rw[if_neg a,if_neg a] at h;exact absurd h a
 rw[if_pos h0] at h
 have h1:(subR p.y f.y).e=0:=by
  by_cases a:(subR p.y f.y).e=0
  ·exact a
  ·rw[if_neg a] at h;exact absurd h a
 rw[if_pos h1] at h
 have e0:aw0 0 p f=subR p.x f.x:=rfl
 have e1:aw1 0 p f=subR p.y f.y:=by unfold aw1;rw[e0,h0];rfl
 have e2:aw2 0 p f=subR p.z f.z:=by unfold aw2;rw[e1,h1];rfl
 refine ⟨by rw[e2];exact h,?_⟩
 unfold awC zba
 rw[e0,e1,e2]
theorem aw_e (p f:Bx):(aw2 0 p f).e=zbt p f:=by
 unfold zbt zfV
 have e0:aw0 0 p f=subR p.x f.x:=rfl
 by_cases h0:(subR p.x f.x).e=0
 ·rw[if_pos h0]
  have e1:aw1 0 p f=subR p.y f.y:=by unfold aw1;rw[e0,h0];rfl
  by_cases h1:(subR p.y f.y).e=0
  ·rw[if_pos h1]
   unfold aw2
   rw[e1,h1]
   rfl
  ·rw[if_neg h1]
   unfold aw2
   rw[e1,ze0 _ h1]
   rfl
 ·rw[if_neg h0,if_neg h0]
  have e1:aw1 0 p f=errR (subR p.x f.x).e:=by unfold aw1;rw[e0,ze0 _ h0]
  unfold aw2
  rw[e1,ze0 _ (show (errR (subR p.x f.x).e).e≠0 from h0)]
  rfl
def rd0 (p f:Bx):Res:=doR (aw2 0 p f).e (zbp (awC 0 p f).list)
def rd1a (p v f:Bx):Res:=doR (aw2 0 p f).e (zbn (awC 0 p f) v)
def rd1b (p v f:Bx):Res:=doR (rd1a p v f).e (zbp (awC 0 p f).list)
def rd1 (p v f:Bx):Res:=doR (rd1b p v f).e (divR (rd1a p v f).s (rd1b p v f).s)
instance zq5 (p v f:Bx):S64 (rd1a p v f).s:=by unfold rd1a;infer_instance
instance zq6 (p v f:Bx):S64 (rd1b p v f).s:=by unfold rd1b;infer_instance
end Go.Proofs.YtdkfkalplmgoeaaGreat
namespace Go.Proofs.YtdkfkalplmgoeaaGreat
open Go.RowKit Go.Shelf
set_option maxRecDepth 100000
set_option maxHeartbeats 16000000
end Go.Proofs.YtdkfkalplmgoeaaGreat
namespace Go.Proofs.YtdkfkalplmgoeaaGreat
open Go.RowKit
structure Ds where
 d:Bx
 q:Bx
 pl:Bx
 e:Int
def dsA (x:Ds) (i:Nat):Res:=doR x.e (addR (x.q.at (oj i)) (x.q.at (ok i)))
def dsF (x:Ds) (s:Sp) (i:Nat):Res:=doR (dsA x i).e (subR s (dsA x i).s)
def dsE (x:Ds) (s:Sp) (i:Nat):Int:=if (dsF x s i).e=0 then (if (dsF x s i).s.hi<0 then 7 else 0) else (dsF x s i).e
def dsG (x:Ds) (s:Sp) (i:Nat):Res:=doR (dsE x s i) (za5 (dsF x s i).s)
def dsD (x:Ds) (s:Sp) (i:Nat):Res:=doR (dsG x s i).e (zbU (x.d.at i) (dsG x s i).s)
def dsP (x:Ds) (f:Bx) (s:Sp) (i:Nat):Res:=doR (dsD x s i).e (addR (dsD x s i).s (f.at i))
def dsM (x:Ds) (f:Bx) (s:Sp) (i:Nat):Res:=doR (dsP x f s i).e (zaG (x.pl.at i) (dsP x f s i).s)
def dsQ (x:Ds) (f:Bx) (s:Sp) (i:Nat):Res:=doR (dsM x f s i).e (zai (dsD x s i).s)
def zbl (x:Ds) (f:Bx) (s:Sp) (i:Nat):Ds:=⟨x.d.put i (dsD x s i).s,x.q.put i (dsQ x f s i).s,x.pl.put i (dsM x f s i).s,(dsQ x f s i).e⟩
def diR (r:Sp):Res:=zaG r ⟨0,9223372036854775807⟩
def diD (p f:Bx) (r:Sp):Bx:=awC (diR r).e p f
def diE (p f:Bx) (r:Sp):Int:=(aw2 (diR r).e p f).e
def di0 (p f:Bx) (r:Sp):Res:=doR (diE p f r) (zai (diD p f r).x)
def di1 (p f:Bx) (r:Sp):Res:=doR (di0 p f r).e (zai (diD p f r).y)
def di2 (p f:Bx) (r:Sp):Res:=doR (di1 p f r).e (zai (diD p f r).z)
def diS (p f:Bx) (r:Sp):Res:=doR (di2 p f r).e (zai (diR r).s)
def zhg (p f:Bx) (r:Sp):Ds:=⟨diD p f r,⟨(di0 p f r).s,(di1 p f r).s,(di2 p f r).s⟩,p,(diS p f r).e⟩
def diTo (p f:Bx) (r:Sp):Nat→Ds
 |0=>zhg p f r
 |i+1=>zbl (diTo p f r i) f (diS p f r).s i
section
variable {x:Ds} {f:Bx} {s:Sp} {i:Nat}
theorem zjU (h:x.e≠0):(dsA x i).e=x.e:=zaF _ h
theorem zjW (h:(dsA x i).e≠0):(dsF x s i).e=(dsA x i).e:=zaF _ h
theorem zjV (h:(dsF x s i).e≠0):dsE x s i=(dsF x s i).e:=by unfold dsE;rw[if_neg h]
theorem zno (h:dsE x s i≠0):(dsG x s i).e=dsE x s i:=zaF _ h
theorem znn (h:(dsG x s i).e≠0):(dsD x s i).e=(dsG x s i).e:=zaF _ h
theorem znq (h:(dsD x s i).e≠0):(dsP x f s i).e=(dsD x s i).e:=zaF _ h
theorem znp (h:(dsP x f s i).e≠0):(dsM x f s i).e=(dsP x f s i).e:=zaF _ h
theorem znr (h:(dsM x f s i).e≠0):(dsQ x f s i).e=(dsM x f s i).e:=zaF _ h
theorem zoB (h:(dsM x f s i).e≠0):(zbl x f s i).e=(dsM x f s i).e:=znr h
theorem zoC (h:(dsP x f s i).e≠0):(zbl x f s i).e=(dsP x f s i).e:=by
 have e:=znp h
 rw[zoB (by rw[e];exact h),e]
theorem zox (h:(dsD x s i).e≠0):(zbl x f s i).e=(dsD x s i).e:=by
 have e:=znq (f:=f) h
 rw[zoC (by rw[e];exact h),e]
theorem zoA (h:(dsG x s i).e≠0):(zbl x f s i).e=(dsG x s i).e:=by
 have e:=znn h
 rw[zox (by rw[e];exact h),e]
theorem zoy (h:dsE x s i≠0):(zbl x f s i).e=dsE x s i:=by
 have e:=zno h
 rw[zoA (by rw[e];exact h),e]
theorem zoz (h:(dsF x s i).e≠0):(zbl x f s i).e=(dsF x s i).e:=by
 have e:=zjV h
 rw[zoy (by rw[e];exact h),e]
theorem zow (h:(dsA x i).e≠0):(zbl x f s i).e=(dsA x i).e:=by
 have e:=zjW (s:=s) h
 rw[zoz (by rw[e];exact h),e]
theorem zi3 (h:x.e≠0):(zbl x f s i).e=x.e:=by
 have e:=zjU (i:=i) h
 rw[zow (by rw[e];exact h),e]
end
section
variable {x:Ds} {f:Bx} {s:Sp} {i:Nat} {A F G D P M:Res}
theorem ds_A (h0:x.e=0):dsA x i=addR (x.q.at (oj i)) (x.q.at (ok i)):=by unfold dsA;rw[h0,zb1]
theorem ds_F (hA:dsA x i=A) (h:A.e=0):dsF x s i=subR s A.s:=by unfold dsF;rw[hA,h,zb1]
theorem ds_E (hF:dsF x s i=F) (h:F.e=0) (h1:¬ F.s.hi<0):dsE x s i=0:=by unfold dsE;rw[hF,if_pos h,if_neg h1]
theorem zns (hF:dsF x s i=F) (h:F.e=0) (h1:F.s.hi<0):dsE x s i=7:=by unfold dsE;rw[hF,if_pos h,if_pos h1]
theorem ds_G (hF:dsF x s i=F) (h:dsE x s i=0):dsG x s i=za5 F.s:=by unfold dsG;rw[h,zb1,hF]
theorem ds_D (hG:dsG x s i=G) (h:G.e=0):dsD x s i=zbU (x.d.at i) G.s:=by unfold dsD;rw[hG,h,zb1]
theorem ds_P (hD:dsD x s i=D) (h:D.e=0):dsP x f s i=addR D.s (f.at i):=by unfold dsP;rw[hD,h,zb1]
theorem ds_M (hP:dsP x f s i=P) (h:P.e=0):dsM x f s i=zaG (x.pl.at i) P.s:=by unfold dsM;rw[hP,h,zb1]
theorem ds_Q (hM:dsM x f s i=M) (h:M.e=0) (hD:dsD x s i=D):dsQ x f s i=zai D.s:=by unfold dsQ;rw[hM,h,zb1,hD]
end
theorem zh7 (p f:Bx) (r:Sp) (i:Nat) (h:(diTo p f r i).e≠0):∀ k,(diTo p f r (i+k)).e=(diTo p f r i).e
 |0=>rfl
 |k+1=>by
  have ih:=zh7 p f r i h k
  show (zbl (diTo p f r (i+k)) f (diS p f r).s (i+k)).e=_
  rw[zi3 (by rw[ih];exact h),ih]
theorem zjS {p f:Bx} {r:Sp} (i:Nat) (hi:i≤3) (h:(diTo p f r i).e≠0):(diTo p f r 3).e=(diTo p f r i).e:=by
 have:=zh7 p f r i h (3-i)
 rwa [show i+(3-i)=3 by omega] at this
theorem zjw (a:Sp):(0≤(za5 a).s.lo∧(za5 a).s.lo≤562949953421312)∧0≤(za5 a).s.hi∧(za5 a).s.hi≤562949953421312:=by
 unfold za5
 split
 ·split
  ·simp[errR]
  ·have h1:=zda (imax a.lo 0*4294967296)
   have h2:=zda (a.hi*4294967296)
   simp only[]
   unfold zc0
   refine ⟨⟨h1.1,by omega⟩,?_⟩
   split<;>omega
 ·simp[errR]
theorem zqb (x:Ds) (s:Sp) (i:Nat):(0≤(dsG x s i).s.lo∧(dsG x s i).s.lo≤562949953421312)∧0≤(dsG x s i).s.hi∧(dsG x s i).s.hi≤562949953421312:=by
 unfold dsG doR
 split
 ·exact zjw _
 ·simp[errR]
instance zrt (x:Ds) (s:Sp) (i:Nat):S64 (dsG x s i).s:=zbL _ _
instance zq2 (x:Ds) (s:Sp) (i:Nat):S64 (negS (dsG x s i).s):=by
 obtain ⟨⟨h1,h2⟩,h3,h4⟩:=zqb x s i
 exact ⟨⟨by unfold negS;simp only[];omega,by unfold negS;simp only[];omega⟩,⟨by unfold negS;simp only[];omega,by unfold negS;simp only[];omega⟩⟩
theorem zdW (d g:Sp) [hd:S64 d] [hg:S64 g] [hn:S64 (negS g)]:S64 (zbU d g).s:=by
 unfold zbU
 (repeat' split)<;>infer_instance
instance zqV (b:Bx) [h:B64 b] (i:Nat) (v:Sp) [hv:S64 v]:B64 (b.put i v):=zg9 b i v
theorem zdZ (p f:Bx) (r:Sp) [hp:B64 p]:∀ i,B64 (diTo p f r i).d∧B64 (diTo p f r i).q∧B64 (diTo p f r i).pl
 |0=>by
  refine ⟨?_,?_,hp⟩
  ·show B64 (diD p f r)
   unfold diD
   infer_instance
  ·show B64 ⟨(di0 p f r).s,(di1 p f r).s,(di2 p f r).s⟩
   unfold di0 di1 di2
   exact ⟨inferInstance,inferInstance,inferInstance⟩
 |i+1=>by
  obtain ⟨h1,h2,h3⟩:=zdZ p f r i
  have hs:S64 (zbU ((diTo p f r i).d.at i) (dsG (diTo p f r i) (diS p f r).s i).s).s:=zdW _ _
  have hD:S64 (dsD (diTo p f r i) (diS p f r).s i).s:=zbL _ _
  have hP:S64 (dsP (diTo p f r i) f (diS p f r).s i).s:=zbL _ _
  have hQ:S64 (dsQ (diTo p f r i) f (diS p f r).s i).s:=zbL _ _
  have hM:S64 (dsM (diTo p f r i) f (diS p f r).s i).s:=zbL _ _
  exact ⟨zg9 _ _ _,zg9 _ _ _,zg9 _ _ _⟩
end Go.Proofs.YtdkfkalplmgoeaaGreat
