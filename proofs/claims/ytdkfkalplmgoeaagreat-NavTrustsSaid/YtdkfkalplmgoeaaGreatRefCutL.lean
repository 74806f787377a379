/-
  Joined: RefCut.
-/
import Derived.Test.YtdkfkalplmgoeaaGreatRefDistL
import Derived.Test.YtdkfkalplmgoeaaGreatNavCutAllL
namespace Go.Proofs.YtdkfkalplmgoeaaGreat
open Go.RowKit Go.Shelf
set_option maxRecDepth 100000
set_option maxHeartbeats 16000000
def rfN (s:State) (m:Radio):Res:=doR (aw2 0 s.p m.place).e (zbp (awC 0 s.p m.place).list)
def rfM (s:State) (m:Radio):Res:=doR (rfN s m).e (mulR m.value (rfN s m).s)
theorem zgv {e:Int} (a x:Bx) (r:Sp) (h:e≠0):(sumM e a x r).e=e:=zfh (e:=e) (a:=a) (x:=x) (r:=r) 0 (by omega) h
theorem zmG (s:State) (m:Radio):(sumM (rfM s m).e (awC 0 s.p m.place) s.v (rfM s m).s).e=zcX s m∧
 (zcX s m=0→(zam (rfM s m).e (awC 0 s.p m.place) s.v (rfM s m).s 3).1=(zam 0 (zcA s m) s.v (zcY s m).s 3).1):=by
 by_cases h0:zbt s.p m.place=0
 ·obtain ⟨g1,g2⟩:=zlC h0
  have eN:rfN s m=zdh s m:=by unfold rfN zdh zcA;rw[g1,g2];rfl
  by_cases h1:(zdh s m).e=0
  ·have eM:rfM s m=zcY s m:=by unfold rfM zcY;rw[eN,h1];rfl
   by_cases h2:(zcY s m).e=0
   ·have eE:zcX s m=(sumM 0 (zcA s m) s.v (zcY s m).s).e:=by unfold zcX;rw[if_neg (fun k=>k h0),if_neg (fun k=>k h1),if_neg (fun k=>k h2)]
    rw[eM,g2,h2,eE]
    exact ⟨rfl,fun _=>rfl⟩
   ·have eE:zcX s m=(zcY s m).e:=by unfold zcX;rw[if_neg (fun k=>k h0),if_neg (fun k=>k h1),if_pos h2]
    rw[eM,eE]
    exact ⟨zgv _ _ _ h2,fun h=>absurd h h2⟩
  ·have eE:zcX s m=(zdh s m).e:=by unfold zcX;rw[if_neg (fun k=>k h0),if_pos h1]
   have eM:(rfM s m).e=(zdh s m).e:=by unfold rfM;rw[eN];exact zaF _ h1
   rw[eM,eE]
   exact ⟨zgv _ _ _ h1,fun h=>absurd h h1⟩
 ·have eE:zcX s m=zbt s.p m.place:=by unfold zcX;rw[if_pos h0]
  have eA:(aw2 0 s.p m.place).e=zbt s.p m.place:=aw_e _ _
  have eN:(rfN s m).e=zbt s.p m.place:=by unfold rfN;rw[eA];exact zaF _ h0
  have eM:(rfM s m).e=zbt s.p m.place:=by unfold rfM;rw[zaF _ (by rw[eN];exact h0),eN]
  rw[eM,eE]
  exact ⟨zgv _ _ _ h0,fun h=>absurd h h0⟩
theorem zk3 (s:State) (m:Radio) [hp:B64 s.p] [hf:B64 m.place] [hv:S64 m.value] (hk:m.kind=0) (w:World):Calls Tryz.prog 40 #[.agg #[.int .i64 s.t,.int .i64 s.p.x.lo,.int .i64 s.p.x.hi,.int .i64 s.p.y.lo,.int .i64 s.p.y.hi,.int .i64 s.p.z.lo,.int .i64 s.p.z.hi,.int .i64 s.v.x.lo,.int .i64 s.v.x.hi,.int .i64 s.v.y.lo,.int .i64 s.v.y.hi,.int .i64 s.v.z.lo,.int .i64 s.v.z.hi,.int .i64 s.m.lo,.int .i64 s.m.hi],.agg #[.int .i64 m.kind,.int .i64 m.place.x.lo,.int .i64 m.place.x.hi,.int .i64 m.place.y.lo,.int .i64 m.place.y.hi,.int .i64 m.place.z.lo,.int .i64 m.place.z.hi,.int .i64 m.dir.x.lo,.int .i64 m.dir.x.hi,.int .i64 m.dir.y.lo,.int .i64 m.dir.y.hi,.int .i64 m.dir.z.lo,.int .i64 m.dir.z.hi,.int .i64 m.value.lo,.int .i64 m.value.hi]] w (RetT (cutR s m) w):=by
 have hE:cutE s m=(diTo s.p m.place m.value 3).e:=by unfold cutE;rw[if_pos hk]
 have hS:(diTo s.p m.place m.value 3).e=0→cutS s m={ s with p:=(diTo s.p m.place m.value 3).pl }:=fun _=>by unfold cutS;rw[if_pos hk]
 have H1:=Lib.hid (fun w' hc hf=>zgG (w.heap.size+1+1+1) s.p m.place m.value w' hc hf)
 by_cases hz:(diTo s.p m.place m.value 3).e=0
 ·have HQ:=Lib.hid (show (⟨{ s with p:=(diTo s.p m.place m.value 3).pl },0⟩:ResT)=cutR s m by rw[←zen (by rw[hE];exact hz),hS hz])
  have hz':((diTo s.p m.place m.value 3).e != 0)=false:=by simp[hz]
  clear hz hE hS
  go_enter Tryz.func40,Tryz.ntmps40
  go_wp2_with (go_at_call 88;(with_reducible refine zar (H1.out _ ?_ ?_) ?_);(· go_simp);(· go_simp);intro u1)
  refine bodyPost_ret (by (simp[results,Tryz.results40,go_sem]<;>rfl)) rfl ?_
  exact ⟨zgH HQ.out,gw⟩
 ·have HQ:=Lib.hid (show errT (diTo s.p m.place m.value 3).e=cutR s m by rw[←hE];exact zem (by rw[hE];exact hz))
  have hz':((diTo s.p m.place m.value 3).e != 0)=true:=by simp[hz]
  clear hz hE hS
  go_enter Tryz.func40,Tryz.ntmps40
  go_wp2_with (go_at_call 88;(with_reducible refine zar (H1.out _ ?_ ?_) ?_);(· go_simp);(· go_simp);intro u1)
  go_region
  all_goals go_wp2
  all_goals
   refine bodyPost_ret (by (simp[results,Tryz.results40,go_sem]<;>rfl)) rfl ?_
   exact ⟨zgH HQ.out,gw⟩
theorem zk5 (s:State) (m:Radio) [hp:B64 s.p] [hf:B64 m.dir] [hv:S64 m.value] (hk:m.kind=2) (w:World):Calls Tryz.prog 40 #[.agg #[.int .i64 s.t,.int .i64 s.p.x.lo,.int .i64 s.p.x.hi,.int .i64 s.p.y.lo,.int .i64 s.p.y.hi,.int .i64 s.p.z.lo,.int .i64 s.p.z.hi,.int .i64 s.v.x.lo,.int .i64 s.v.x.hi,.int .i64 s.v.y.lo,.int .i64 s.v.y.hi,.int .i64 s.v.z.lo,.int .i64 s.v.z.hi,.int .i64 s.m.lo,.int .i64 s.m.hi],.agg #[.int .i64 m.kind,.int .i64 m.place.x.lo,.int .i64 m.place.x.hi,.int .i64 m.place.y.lo,.int .i64 m.place.y.hi,.int .i64 m.place.z.lo,.int .i64 m.place.z.hi,.int .i64 m.dir.x.lo,.int .i64 m.dir.x.hi,.int .i64 m.dir.y.lo,.int .i64 m.dir.y.hi,.int .i64 m.dir.z.lo,.int .i64 m.dir.z.hi,.int .i64 m.value.lo,.int .i64 m.value.hi]] w (RetT (cutR s m) w):=by
 have hE:cutE s m=(sumM 0 m.dir s.p m.value).e:=by unfold cutE;rw[if_neg (by omega),if_neg (by omega),if_pos hk]
 have hS:(sumM 0 m.dir s.p m.value).e=0→cutS s m={ s with p:=(zam 0 m.dir s.p m.value 3).1 }:=fun _=>by unfold cutS;rw[if_neg (by omega),if_neg (by omega),if_pos hk]
 have H1:=Lib.hid (fun w' hc hf=>zgk (w.heap.size+1+1+1) 0 m.dir s.p m.value w' hc hf)
 by_cases hz:(sumM 0 m.dir s.p m.value).e=0
 ·have HQ:=Lib.hid (show (⟨{ s with p:=(zam 0 m.dir s.p m.value 3).1 },0⟩:ResT)=cutR s m by rw[←zen (by rw[hE];exact hz),hS hz])
  have hz':((sumM 0 m.dir s.p m.value).e != 0)=false:=by simp[hz]
  clear hz hE hS
  go_enter Tryz.func40,Tryz.ntmps40
  go_wp2_with (go_at_call 90;(with_reducible refine zar (H1.out _ ?_ ?_) ?_);(· go_simp);(· go_simp);intro u1)
  refine bodyPost_ret (by (simp[results,Tryz.results40,go_sem]<;>rfl)) rfl ?_
  exact ⟨zgH HQ.out,gw⟩
 ·have HQ:=Lib.hid (show errT (sumM 0 m.dir s.p m.value).e=cutR s m by rw[←hE];exact zem (by rw[hE];exact hz))
  have hz':((sumM 0 m.dir s.p m.value).e != 0)=true:=by simp[hz]
  clear hz hE hS
  go_enter Tryz.func40,Tryz.ntmps40
  go_wp2_with (go_at_call 90;(with_reducible refine zar (H1.out _ ?_ ?_) ?_);(· go_simp);(· go_simp);intro u1)
  go_region
  all_goals go_wp2
  all_goals
   refine bodyPost_ret (by (simp[results,Tryz.results40,go_sem]<;>rfl)) rfl ?_
   exact ⟨zgH HQ.out,gw⟩
theorem zk6 (s:State) (m:Radio) [hp:B64 s.v] [hf:B64 m.dir] [hv:S64 m.value] (hk:m.kind=3) (w:World):Calls Tryz.prog 40 #[.agg #[.int .i64 s.t,.int .i64 s.p.x.lo,.int .i64 s.p.x.hi,.int .i64 s.p.y.lo,.int .i64 s.p.y.hi,.int .i64 s.p.z.lo,.int .i64 s.p.z.hi,.int .i64 s.v.x.lo,.int .i64 s.v.x.hi,.int .i64 s.v.y.lo,.int .i64 s.v.y.hi,.int .i64 s.v.z.lo,.int .i64 s.v.z.hi,.int .i64 s.m.lo,.int .i64 s.m.hi],.agg #[.int .i64 m.kind,.int .i64 m.place.x.lo,.int .i64 m.place.x.hi,.int .i64 m.place.y.lo,.int .i64 m.place.y.hi,.int .i64 m.place.z.lo,.int .i64 m.place.z.hi,.int .i64 m.dir.x.lo,.int .i64 m.dir.x.hi,.int .i64 m.dir.y.lo,.int .i64 m.dir.y.hi,.int .i64 m.dir.z.lo,.int .i64 m.dir.z.hi,.int .i64 m.value.lo,.int .i64 m.value.hi]] w (RetT (cutR s m) w):=by
 have hE:cutE s m=(sumM 0 m.dir s.v m.value).e:=by unfold cutE;rw[if_neg (by omega),if_neg (by omega),if_neg (by omega)]
 have hS:(sumM 0 m.dir s.v m.value).e=0→cutS s m={ s with v:=(zam 0 m.dir s.v m.value 3).1 }:=fun _=>by unfold cutS;rw[if_neg (by omega),if_neg (by omega),if_neg (by omega)]
 have H1:=Lib.hid (fun w' hc hf=>zgk (w.heap.size+1+1+1) 0 m.dir s.v m.value w' hc hf)
 by_cases hz:(sumM 0 m.dir s.v m.value).e=0
 ·have HQ:=Lib.hid (show (⟨{ s with v:=(zam 0 m.dir s.v m.value 3).1 },0⟩:ResT)=cutR s m by rw[←zen (by rw[hE];exact hz),hS hz])
  have hz':((sumM 0 m.dir s.v m.value).e != 0)=false:=by simp[hz]
  clear hz hE hS
  go_enter Tryz.func40,Tryz.ntmps40
  go_wp2_with (go_at_call 90;(with_reducible refine zar (H1.out _ ?_ ?_) ?_);(· go_simp);(· go_simp);intro u1)
  refine bodyPost_ret (by (simp[results,Tryz.results40,go_sem]<;>rfl)) rfl ?_
  exact ⟨zgH HQ.out,gw⟩
 ·have HQ:=Lib.hid (show errT (sumM 0 m.dir s.v m.value).e=cutR s m by rw[←hE];exact zem (by rw[hE];exact hz))
  have hz':((sumM 0 m.dir s.v m.value).e != 0)=true:=by simp[hz]
  clear hz hE hS
  go_enter Tryz.func40,Tryz.ntmps40
  go_wp2_with (go_at_call 90;(with_reducible refine zar (H1.out _ ?_ ?_) ?_);(· go_simp);(· go_simp);intro u1)
  go_region
  all_goals go_wp2
  all_goals
   refine bodyPost_ret (by (simp[results,Tryz.results40,go_sem]<;>rfl)) rfl ?_
   exact ⟨zgH HQ.out,gw⟩
theorem zk4 (s:State) (m:Radio) [hp:B64 s.p] [hq:B64 s.v] [hf:B64 m.place] [hv:S64 m.value] (hk:m.kind=1) (w:World):Calls Tryz.prog 40 #[.agg #[.int .i64 s.t,.int .i64 s.p.x.lo,.int .i64 s.p.x.hi,.int .i64 s.p.y.lo,.int .i64 s.p.y.hi,.int .i64 s.p.z.lo,.int .i64 s.p.z.hi,.int .i64 s.v.x.lo,.int .i64 s.v.x.hi,.int .i64 s.v.y.lo,.int .i64 s.v.y.hi,.int .i64 s.v.z.lo,.int .i64 s.v.z.hi,.int .i64 s.m.lo,.int .i64 s.m.hi],.agg #[.int .i64 m.kind,.int .i64 m.place.x.lo,.int .i64 m.place.x.hi,.int .i64 m.place.y.lo,.int .i64 m.place.y.hi,.int .i64 m.place.z.lo,.int .i64 m.place.z.hi,.int .i64 m.dir.x.lo,.int .i64 m.dir.x.hi,.int .i64 m.dir.y.lo,.int .i64 m.dir.y.hi,.int .i64 m.dir.z.lo,.int .i64 m.dir.z.hi,.int .i64 m.value.lo,.int .i64 m.value.hi]] w (RetT (cutR s m) w):=by
 have hr:=zmG s m
 have hE:cutE s m=(sumM (rfM s m).e (awC 0 s.p m.place) s.v (rfM s m).s).e:=by rw[hr.1];unfold cutE;rw[if_neg (by omega),if_pos hk]
 have hS:(sumM (rfM s m).e (awC 0 s.p m.place) s.v (rfM s m).s).e=0→cutS s m={ s with v:=(zam (rfM s m).e (awC 0 s.p m.place) s.v (rfM s m).s 3).1 }:=fun h=>by rw[hr.2 (by rw[←hr.1];exact h)];unfold cutS;rw[if_neg (by omega),if_pos hk]
 have sN:S64 (rfN s m).s:=by unfold rfN;infer_instance
 have sM:S64 (rfM s m).s:=by unfold rfM;infer_instance
 have H0:=Lib.hid (fun w' hc hf=>zg1 (w.heap.size+1+1+1) 0 s.p m.place w' hc hf)
 have H2:=Lib.hid (fun w' hc hf=>show Calls Tryz.prog 91 #[.pointer (some ⟨w.heap.size+1+1+1,0,none⟩),.agg #[.int .i64 ((awC 0 s.p m.place)).x.lo,.int .i64 ((awC 0 s.p m.place)).x.hi,.int .i64 ((awC 0 s.p m.place)).y.lo,.int .i64 ((awC 0 s.p m.place)).y.hi,.int .i64 ((awC 0 s.p m.place)).z.lo,.int .i64 ((awC 0 s.p m.place)).z.hi]] w' (RetC (w.heap.size+1+1+1) (.agg #[.int .i64 ((rfN s m).s).lo,.int .i64 ((rfN s m).s).hi]) (rfN s m).e w') from zlb _ (aw2 0 s.p m.place).e (awC 0 s.p m.place) w' hc hf)
 have H3:=Lib.hid (fun w' hc hf=>show Calls Tryz.prog 53 #[.pointer (some ⟨w.heap.size+1+1+1,0,none⟩),.agg #[.int .i64 m.value.lo,.int .i64 m.value.hi],.agg #[.int .i64 ((rfN s m).s).lo,.int .i64 ((rfN s m).s).hi]] w' (RetC (w.heap.size+1+1+1) (.agg #[.int .i64 ((rfM s m).s).lo,.int .i64 ((rfM s m).s).hi]) (rfM s m).e w') from zcZ _ (rfN s m).e m.value (rfN s m).s w' hc hf)
 have H4:=Lib.hid (fun w' hc hf=>zgk (w.heap.size+1+1+1) (rfM s m).e (awC 0 s.p m.place) s.v (rfM s m).s w' hc hf)
 clear hr
 by_cases hz:(sumM (rfM s m).e (awC 0 s.p m.place) s.v (rfM s m).s).e=0
 ·have HQ:=Lib.hid (show (⟨{ s with v:=(zam (rfM s m).e (awC 0 s.p m.place) s.v (rfM s m).s 3).1 },0⟩:ResT)=cutR s m by rw[←zen (by rw[hE];exact hz),hS hz])
  have hz':((sumM (rfM s m).e (awC 0 s.p m.place) s.v (rfM s m).s).e != 0)=false:=by simp[hz]
  clear hz hE hS
  go_enter Tryz.func40,Tryz.ntmps40
  go_wp2_with (go_at_call 89;(with_reducible refine zar (H0.out _ ?_ ?_) ?_);(· go_simp);(· go_simp);intro u0)
  refine zaq (w.heap.size+1+1+1) [(aw2 0 s.p m.place).e,(rfN s m).e,(rfM s m).e,(sumM (rfM s m).e (awC 0 s.p m.place) s.v (rfM s m).s).e] 13 [] [9,10,11] [] (fun W0=>[]) [.agg #[.int .i64 ((rfN s m).s).lo,.int .i64 ((rfN s m).s).hi],.agg #[.int .i64 ((rfM s m).s).lo,.int .i64 ((rfM s m).s).hi],.agg #[.int .i64 ((zam (rfM s m).e (awC 0 s.p m.place) s.v (rfM s m).s 3).1).x.lo,.int .i64 ((zam (rfM s m).e (awC 0 s.p m.place) s.v (rfM s m).s 3).1).x.hi,.int .i64 ((zam (rfM s m).e (awC 0 s.p m.place) s.v (rfM s m).s 3).1).y.lo,.int .i64 ((zam (rfM s m).e (awC 0 s.p m.place) s.v (rfM s m).s 3).1).y.hi,.int .i64 ((zam (rfM s m).e (awC 0 s.p m.place) s.v (rfM s m).s 3).1).z.lo,.int .i64 ((zam (rfM s m).e (awC 0 s.p m.place) s.v (rfM s m).s 3).1).z.hi]] [13] (by rfl) (by go_simp) (by go_simp) (fun _ _ x hx=>absurd hx (List.not_mem_nil)) (by kernel_rfl) (by kernel_rfl) (by kernel_rfl) ?_
  intro pz hd0
  apply Exists.intro
  apply And.intro
  iterate 9 (apply zas hd0 (by kernel_rfl);(· intro uz xc;unfold zae;go_simp;rfl))
  apply zat hd0 0 (by kernel_rfl) (by rfl) (by decide)
  ·intro uz hfz hF;clear hF;unfold zaw;go_simp;exact H2.out _ (by go_simp) hfz
  apply zat hd0 1 (by kernel_rfl) (by rfl) (by decide)
  ·intro uz hfz hF;clear hF;unfold zaw;go_simp;exact H3.out _ (by go_simp) hfz
  apply zat hd0 2 (by kernel_rfl) (by rfl) (by decide)
  ·intro uz hfz hF;clear hF;unfold zaw;go_simp;exact H4.out _ (by go_simp) hfz
  apply zas hd0 (by kernel_rfl)
  ·intro uz xc;unfold zae;go_simp;rfl
  apply zaY
  rotate_left
  ·rfl
  intro uz hR hD hfz
  clear hR hD
  refine zak (by rfl) ?_;unfold zav;go_simp
  refine zau ?_
  go_wp2
  refine bodyPost_ret (by (simp[results,Tryz.results40,go_sem]<;>rfl)) rfl ?_
  exact ⟨zgH HQ.out,gw⟩
 ·have HQ:=Lib.hid (show errT (sumM (rfM s m).e (awC 0 s.p m.place) s.v (rfM s m).s).e=cutR s m by rw[←hE];exact zem (by rw[hE];exact hz))
  have hz':((sumM (rfM s m).e (awC 0 s.p m.place) s.v (rfM s m).s).e != 0)=true:=by simp[hz]
  clear hz hE hS
  go_enter Tryz.func40,Tryz.ntmps40
  go_wp2_with (go_at_call 89;(with_reducible refine zar (H0.out _ ?_ ?_) ?_);(· go_simp);(· go_simp);intro u0)
  refine zaq (w.heap.size+1+1+1) [(aw2 0 s.p m.place).e,(rfN s m).e,(rfM s m).e,(sumM (rfM s m).e (awC 0 s.p m.place) s.v (rfM s m).s).e] 13 [] [9,10,11] [] (fun W0=>[]) [.agg #[.int .i64 ((rfN s m).s).lo,.int .i64 ((rfN s m).s).hi],.agg #[.int .i64 ((rfM s m).s).lo,.int .i64 ((rfM s m).s).hi],.agg #[.int .i64 ((zam (rfM s m).e (awC 0 s.p m.place) s.v (rfM s m).s 3).1).x.lo,.int .i64 ((zam (rfM s m).e (awC 0 s.p m.place) s.v (rfM s m).s 3).1).x.hi,.int .i64 ((zam (rfM s m).e (awC 0 s.p m.place) s.v (rfM s m).s 3).1).y.lo,.int .i64 ((zam (rfM s m).e (awC 0 s.p m.place) s.v (rfM s m).s 3).1).y.hi,.int .i64 ((zam (rfM s m).e (awC 0 s.p m.place) s.v (rfM s m).s 3).1).z.lo,.int .i64 ((zam (rfM s m).e (awC 0 s.p m.place) s.v (rfM s m).s 3).1).z.hi]] [13] (by rfl) (by go_simp) (by go_simp) (fun _ _ x hx=>absurd hx (List.not_mem_nil)) (by kernel_rfl) (by kernel_rfl) (by kernel_rfl) ?_
  intro pz hd0
  apply Exists.intro
  apply And.intro
  iterate 9 (apply zas hd0 (by kernel_rfl);(· intro uz xc;unfold zae;go_simp;rfl))
  apply zat hd0 0 (by kernel_rfl) (by rfl) (by decide)
  ·intro uz hfz hF;clear hF;unfold zaw;go_simp;exact H2.out _ (by go_simp) hfz
  apply zat hd0 1 (by kernel_rfl) (by rfl) (by decide)
  ·intro uz hfz hF;clear hF;unfold zaw;go_simp;exact H3.out _ (by go_simp) hfz
  apply zat hd0 2 (by kernel_rfl) (by rfl) (by decide)
  ·intro uz hfz hF;clear hF;unfold zaw;go_simp;exact H4.out _ (by go_simp) hfz
  apply zas hd0 (by kernel_rfl)
  ·intro uz xc;unfold zae;go_simp;rfl
  apply zaY
  rotate_left
  ·rfl
  intro uz hR hD hfz
  clear hR hD
  refine zak (by rfl) ?_;unfold zav;go_simp
  refine zau ?_
  go_wp2
  go_region
  all_goals go_wp2
  all_goals
   refine bodyPost_ret (by (simp[results,Tryz.results40,go_sem]<;>rfl)) rfl ?_
   exact ⟨zgH HQ.out,gw⟩
theorem ziC (s:State) (m:Radio) [hp:B64 s.p] [hq:B64 s.v] [hf:B64 m.place] [hd:B64 m.dir] [hv:S64 m.value] (h0:0≤m.kind) (h1:m.kind≤3) (w:World):Calls Tryz.prog 40 #[.agg #[.int .i64 s.t,.int .i64 s.p.x.lo,.int .i64 s.p.x.hi,.int .i64 s.p.y.lo,.int .i64 s.p.y.hi,.int .i64 s.p.z.lo,.int .i64 s.p.z.hi,.int .i64 s.v.x.lo,.int .i64 s.v.x.hi,.int .i64 s.v.y.lo,.int .i64 s.v.y.hi,.int .i64 s.v.z.lo,.int .i64 s.v.z.hi,.int .i64 s.m.lo,.int .i64 s.m.hi],.agg #[.int .i64 m.kind,.int .i64 m.place.x.lo,.int .i64 m.place.x.hi,.int .i64 m.place.y.lo,.int .i64 m.place.y.hi,.int .i64 m.place.z.lo,.int .i64 m.place.z.hi,.int .i64 m.dir.x.lo,.int .i64 m.dir.x.hi,.int .i64 m.dir.y.lo,.int .i64 m.dir.y.hi,.int .i64 m.dir.z.lo,.int .i64 m.dir.z.hi,.int .i64 m.value.lo,.int .i64 m.value.hi]] w (RetT (cutR s m) w):=by
 rcases zf5 h0 h1 with hk|hk|hk|hk
 ·exact zk3 s m hk w
 ·exact zk4 s m hk w
 ·exact zk5 s m hk w
 ·exact zk6 s m hk w
end Go.Proofs.YtdkfkalplmgoeaaGreat
