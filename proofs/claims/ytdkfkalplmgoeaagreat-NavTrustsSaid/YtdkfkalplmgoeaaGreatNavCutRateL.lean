/-
  Joined: NavCutTwo, NavCutThr, NavCutRate.
-/
import Derived.Test.YtdkfkalplmgoeaaGreatNavCutOneL
namespace Go.Proofs.YtdkfkalplmgoeaaGreat
open Go.RowKit Go.Shelf
set_option maxRecDepth 100000
set_option maxHeartbeats 8000000
theorem znh (s:State) (m:Radio) [hp:B64 s.v] [hd:B64 m.dir] [hv:S64 m.value] (hk:m.kind=3) (W:World) (b1 b2:Nat) (hm:zan W b1 [.int .i64 m.kind,.int .i64 m.place.x.lo,.int .i64 m.place.x.hi,.int .i64 m.place.y.lo,.int .i64 m.place.y.hi,.int .i64 m.place.z.lo,.int .i64 m.place.z.hi,.int .i64 m.dir.x.lo,.int .i64 m.dir.x.hi,.int .i64 m.dir.y.lo,.int .i64 m.dir.y.hi,.int .i64 m.dir.z.lo,.int .i64 m.dir.z.hi,.int .i64 m.value.lo,.int .i64 m.value.hi]) (hs:zan W b2 [.int .i64 s.t,.int .i64 s.p.x.lo,.int .i64 s.p.x.hi,.int .i64 s.p.y.lo,.int .i64 s.p.y.hi,.int .i64 s.p.z.lo,.int .i64 s.p.z.hi,.int .i64 s.v.x.lo,.int .i64 s.v.x.hi,.int .i64 s.v.y.lo,.int .i64 s.v.y.hi,.int .i64 s.v.z.lo,.int .i64 s.v.z.hi,.int .i64 s.m.lo,.int .i64 s.m.hi]) :
 Calls Tryz.prog 74 #[.pointer (some ⟨b1,0,none⟩),.pointer (some ⟨b2,0,none⟩)] W (zes b2 7 (zam 0 m.dir s.v m.value 3).1 (sumM 0 m.dir s.v m.value).e W):=by
 have e1:zgC m=.iface 150 (.agg #[.int .i64 m.kind,.int .i64 m.place.x.lo,.int .i64 m.place.x.hi,.int .i64 m.place.y.lo,.int .i64 m.place.y.hi,.int .i64 m.place.z.lo,.int .i64 m.place.z.hi,.int .i64 m.dir.x.lo,.int .i64 m.dir.x.hi,.int .i64 m.dir.y.lo,.int .i64 m.dir.y.hi,.int .i64 m.dir.z.lo,.int .i64 m.dir.z.hi,.int .i64 m.value.lo,.int .i64 m.value.hi]):=by unfold zgC zkG;rw[if_neg (by omega),if_neg (by omega),if_neg (by omega)]
 have HM:=Lib.hid (fun w'=>by have:=zfH m (by omega) (by omega) w';rw[e1] at this;exact this)
 have t1:=fun v x w=>(ze8 v x w).2.2.2.1
 have t2:=fun v x w=>(ze8 v x w).2.2.2.2.1
 have t3:=fun v x w=>(ze8 v x w).2.2.2.2.2
 have t4:=fun v x w=>(zhp v x w).2.2.2
 have HB:=Lib.hid (fun w' (hx:XAt w' b2 7 s.v)=>zfQ m.dir s.v m.value b2 7 w' hx)
 have HX:=Lib.hid (zqI hs)
 have hb:b2<W.heap.size:=World.block_lt_of_cell? W _ (hs 0 _ rfl).1
 have HV:=Lib.hid (fun w'=>zol m w')
 have hm_0:=(hm 0 _ rfl).1
 have hmf0:=(hm 0 _ rfl).2
 have hmi0:HasCell (W) (b1) 0:=⟨_,hm_0⟩
 have hm_1:=(hm 1 _ rfl).1
 have hmf1:=(hm 1 _ rfl).2
 have hmi1:HasCell (W) (b1) 1:=⟨_,hm_1⟩
 have hm_2:=(hm 2 _ rfl).1
 have hmf2:=(hm 2 _ rfl).2
 have hmi2:HasCell (W) (b1) 2:=⟨_,hm_2⟩
 have hm_3:=(hm 3 _ rfl).1
 have hmf3:=(hm 3 _ rfl).2
 have hmi3:HasCell (W) (b1) 3:=⟨_,hm_3⟩
 have hm_4:=(hm 4 _ rfl).1
 have hmf4:=(hm 4 _ rfl).2
 have hmi4:HasCell (W) (b1) 4:=⟨_,hm_4⟩
 have hm_5:=(hm 5 _ rfl).1
 have hmf5:=(hm 5 _ rfl).2
 have hmi5:HasCell (W) (b1) 5:=⟨_,hm_5⟩
 have hm_6:=(hm 6 _ rfl).1
 have hmf6:=(hm 6 _ rfl).2
 have hmi6:HasCell (W) (b1) 6:=⟨_,hm_6⟩
 have hm_7:=(hm 7 _ rfl).1
 have hmf7:=(hm 7 _ rfl).2
 have hmi7:HasCell (W) (b1) 7:=⟨_,hm_7⟩
 have hm_8:=(hm 8 _ rfl).1
 have hmf8:=(hm 8 _ rfl).2
 have hmi8:HasCell (W) (b1) 8:=⟨_,hm_8⟩
 have hm_9:=(hm 9 _ rfl).1
 have hmf9:=(hm 9 _ rfl).2
 have hmi9:HasCell (W) (b1) 9:=⟨_,hm_9⟩
 have hm_10:=(hm 10 _ rfl).1
 have hmf10:=(hm 10 _ rfl).2
 have hmi10:HasCell (W) (b1) 10:=⟨_,hm_10⟩
 have hm_11:=(hm 11 _ rfl).1
 have hmf11:=(hm 11 _ rfl).2
 have hmi11:HasCell (W) (b1) 11:=⟨_,hm_11⟩
 have hm_12:=(hm 12 _ rfl).1
 have hmf12:=(hm 12 _ rfl).2
 have hmi12:HasCell (W) (b1) 12:=⟨_,hm_12⟩
 have hm_13:=(hm 13 _ rfl).1
 have hmf13:=(hm 13 _ rfl).2
 have hmi13:HasCell (W) (b1) 13:=⟨_,hm_13⟩
 have hm_14:=(hm 14 _ rfl).1
 have hmf14:=(hm 14 _ rfl).2
 have hmi14:HasCell (W) (b1) 14:=⟨_,hm_14⟩
 have hmb:BlockIn (W) (b1):=BlockIn.of_cell hm_0
 clear hm
 have hs_0:=(hs 0 _ rfl).1
 have hsf0:=(hs 0 _ rfl).2
 have hsi0:HasCell (W) (b2) 0:=⟨_,hs_0⟩
 have hs_1:=(hs 1 _ rfl).1
 have hsf1:=(hs 1 _ rfl).2
 have hsi1:HasCell (W) (b2) 1:=⟨_,hs_1⟩
 have hs_2:=(hs 2 _ rfl).1
 have hsf2:=(hs 2 _ rfl).2
 have hsi2:HasCell (W) (b2) 2:=⟨_,hs_2⟩
 have hs_3:=(hs 3 _ rfl).1
 have hsf3:=(hs 3 _ rfl).2
 have hsi3:HasCell (W) (b2) 3:=⟨_,hs_3⟩
 have hs_4:=(hs 4 _ rfl).1
 have hsf4:=(hs 4 _ rfl).2
 have hsi4:HasCell (W) (b2) 4:=⟨_,hs_4⟩
 have hs_5:=(hs 5 _ rfl).1
 have hsf5:=(hs 5 _ rfl).2
 have hsi5:HasCell (W) (b2) 5:=⟨_,hs_5⟩
 have hs_6:=(hs 6 _ rfl).1
 have hsf6:=(hs 6 _ rfl).2
 have hsi6:HasCell (W) (b2) 6:=⟨_,hs_6⟩
 have hs_7:=(hs 7 _ rfl).1
 have hsf7:=(hs 7 _ rfl).2
 have hsi7:HasCell (W) (b2) 7:=⟨_,hs_7⟩
 have hs_8:=(hs 8 _ rfl).1
 have hsf8:=(hs 8 _ rfl).2
 have hsi8:HasCell (W) (b2) 8:=⟨_,hs_8⟩
 have hs_9:=(hs 9 _ rfl).1
 have hsf9:=(hs 9 _ rfl).2
 have hsi9:HasCell (W) (b2) 9:=⟨_,hs_9⟩
 have hs_10:=(hs 10 _ rfl).1
 have hsf10:=(hs 10 _ rfl).2
 have hsi10:HasCell (W) (b2) 10:=⟨_,hs_10⟩
 have hs_11:=(hs 11 _ rfl).1
 have hsf11:=(hs 11 _ rfl).2
 have hsi11:HasCell (W) (b2) 11:=⟨_,hs_11⟩
 have hs_12:=(hs 12 _ rfl).1
 have hsf12:=(hs 12 _ rfl).2
 have hsi12:HasCell (W) (b2) 12:=⟨_,hs_12⟩
 have hs_13:=(hs 13 _ rfl).1
 have hsf13:=(hs 13 _ rfl).2
 have hsi13:HasCell (W) (b2) 13:=⟨_,hs_13⟩
 have hs_14:=(hs 14 _ rfl).1
 have hsf14:=(hs 14 _ rfl).2
 have hsi14:HasCell (W) (b2) 14:=⟨_,hs_14⟩
 have hsb:BlockIn (W) (b2):=BlockIn.of_cell hs_0
 clear hs
 clear hk e1
 generalize (zam 0 m.dir s.v m.value 3).1=Y at *
 generalize (sumM 0 m.dir s.v m.value).e=c at *
 go_enter Tryz.func74,Tryz.ntmps74
 go_wp2_with (first|(go_at_call 75;(with_reducible refine zaa (HM.out _) ?_);intro u1))
 go_region_with (first|(go_at_call 84;(with_reducible refine zaa (HV.out _) ?_);intro u2)|(go_at_call 79;(with_reducible refine zd1 (HB.out _ (HX.out.grew gw)) ?_ ?_);(· intro hz w9 hB;exact ⟨rfl,za1 rfl hz.out ((ButX.of_grew hb gw).trans hB.out)⟩);intro hz w9 hB hY))
 all_goals go_wp2
 all_goals
  go_end0
  exact ⟨by simp[hz.out],(ButX.of_grew hb gw).trans hB.out,fun _=>hY.out⟩
end Go.Proofs.YtdkfkalplmgoeaaGreat
namespace Go.Proofs.YtdkfkalplmgoeaaGreat
open Go.RowKit Go.Shelf
set_option maxRecDepth 100000
set_option maxHeartbeats 8000000
theorem zne (s:State) (m:Radio) [hp:B64 s.p] [hd:B64 m.place] [hv:S64 m.value] (hk:m.kind=0) (W:World) (b1 b2:Nat) (hm:zan W b1 [.int .i64 m.kind,.int .i64 m.place.x.lo,.int .i64 m.place.x.hi,.int .i64 m.place.y.lo,.int .i64 m.place.y.hi,.int .i64 m.place.z.lo,.int .i64 m.place.z.hi,.int .i64 m.dir.x.lo,.int .i64 m.dir.x.hi,.int .i64 m.dir.y.lo,.int .i64 m.dir.y.hi,.int .i64 m.dir.z.lo,.int .i64 m.dir.z.hi,.int .i64 m.value.lo,.int .i64 m.value.hi]) (hs:zan W b2 [.int .i64 s.t,.int .i64 s.p.x.lo,.int .i64 s.p.x.hi,.int .i64 s.p.y.lo,.int .i64 s.p.y.hi,.int .i64 s.p.z.lo,.int .i64 s.p.z.hi,.int .i64 s.v.x.lo,.int .i64 s.v.x.hi,.int .i64 s.v.y.lo,.int .i64 s.v.y.hi,.int .i64 s.v.z.lo,.int .i64 s.v.z.hi,.int .i64 s.m.lo,.int .i64 s.m.hi]) :
 Calls Tryz.prog 74 #[.pointer (some ⟨b1,0,none⟩),.pointer (some ⟨b2,0,none⟩)] W (zes b2 1 (diTo s.p m.place m.value 3).pl (diTo s.p m.place m.value 3).e W):=by
 have e1:zgC m=.iface 142 (.agg #[.int .i64 m.kind,.int .i64 m.place.x.lo,.int .i64 m.place.x.hi,.int .i64 m.place.y.lo,.int .i64 m.place.y.hi,.int .i64 m.place.z.lo,.int .i64 m.place.z.hi,.int .i64 m.dir.x.lo,.int .i64 m.dir.x.hi,.int .i64 m.dir.y.lo,.int .i64 m.dir.y.hi,.int .i64 m.dir.z.lo,.int .i64 m.dir.z.hi,.int .i64 m.value.lo,.int .i64 m.value.hi]):=by unfold zgC zkG;rw[if_pos hk]
 have HM:=Lib.hid (fun w'=>by have:=zfH m (by omega) (by omega) w';rw[e1] at this;exact this)
 have t1:=fun v x w=>(zhp v x w).1
 have HB:=Lib.hid (fun w' (hx:XAt w' b2 1 s.p)=>zgB s.p m.place m.value b2 1 w' hx)
 have HX:=Lib.hid (zqH hs)
 have hb:b2<W.heap.size:=World.block_lt_of_cell? W _ (hs 0 _ rfl).1
 have HV:=Lib.hid (fun w'=>zoi m w')
 have hm_0:=(hm 0 _ rfl).1
 have hmf0:=(hm 0 _ rfl).2
 have hmi0:HasCell (W) (b1) 0:=⟨_,hm_0⟩
 have hm_1:=(hm 1 _ rfl).1
 have hmf1:=(hm 1 _ rfl).2
 have hmi1:HasCell (W) (b1) 1:=⟨_,hm_1⟩
 have hm_2:=(hm 2 _ rfl).1
 have hmf2:=(hm 2 _ rfl).2
 have hmi2:HasCell (W) (b1) 2:=⟨_,hm_2⟩
 have hm_3:=(hm 3 _ rfl).1
 have hmf3:=(hm 3 _ rfl).2
 have hmi3:HasCell (W) (b1) 3:=⟨_,hm_3⟩
 have hm_4:=(hm 4 _ rfl).1
 have hmf4:=(hm 4 _ rfl).2
 have hmi4:HasCell (W) (b1) 4:=⟨_,hm_4⟩
 have hm_5:=(hm 5 _ rfl).1
 have hmf5:=(hm 5 _ rfl).2
 have hmi5:HasCell (W) (b1) 5:=⟨_,hm_5⟩
 have hm_6:=(hm 6 _ rfl).1
 have hmf6:=(hm 6 _ rfl).2
 have hmi6:HasCell (W) (b1) 6:=⟨_,hm_6⟩
 have hm_7:=(hm 7 _ rfl).1
 have hmf7:=(hm 7 _ rfl).2
 have hmi7:HasCell (W) (b1) 7:=⟨_,hm_7⟩
 have hm_8:=(hm 8 _ rfl).1
 have hmf8:=(hm 8 _ rfl).2
 have hmi8:HasCell (W) (b1) 8:=⟨_,hm_8⟩
 have hm_9:=(hm 9 _ rfl).1
 have hmf9:=(hm 9 _ rfl).2
 have hmi9:HasCell (W) (b1) 9:=⟨_,hm_9⟩
 have hm_10:=(hm 10 _ rfl).1
 have hmf10:=(hm 10 _ rfl).2
 have hmi10:HasCell (W) (b1) 10:=⟨_,hm_10⟩
 have hm_11:=(hm 11 _ rfl).1
 have hmf11:=(hm 11 _ rfl).2
 have hmi11:HasCell (W) (b1) 11:=⟨_,hm_11⟩
 have hm_12:=(hm 12 _ rfl).1
 have hmf12:=(hm 12 _ rfl).2
 have hmi12:HasCell (W) (b1) 12:=⟨_,hm_12⟩
 have hm_13:=(hm 13 _ rfl).1
 have hmf13:=(hm 13 _ rfl).2
 have hmi13:HasCell (W) (b1) 13:=⟨_,hm_13⟩
 have hm_14:=(hm 14 _ rfl).1
 have hmf14:=(hm 14 _ rfl).2
 have hmi14:HasCell (W) (b1) 14:=⟨_,hm_14⟩
 have hmb:BlockIn (W) (b1):=BlockIn.of_cell hm_0
 clear hm
 have hs_0:=(hs 0 _ rfl).1
 have hsf0:=(hs 0 _ rfl).2
 have hsi0:HasCell (W) (b2) 0:=⟨_,hs_0⟩
 have hs_1:=(hs 1 _ rfl).1
 have hsf1:=(hs 1 _ rfl).2
 have hsi1:HasCell (W) (b2) 1:=⟨_,hs_1⟩
 have hs_2:=(hs 2 _ rfl).1
 have hsf2:=(hs 2 _ rfl).2
 have hsi2:HasCell (W) (b2) 2:=⟨_,hs_2⟩
 have hs_3:=(hs 3 _ rfl).1
 have hsf3:=(hs 3 _ rfl).2
 have hsi3:HasCell (W) (b2) 3:=⟨_,hs_3⟩
 have hs_4:=(hs 4 _ rfl).1
 have hsf4:=(hs 4 _ rfl).2
 have hsi4:HasCell (W) (b2) 4:=⟨_,hs_4⟩
 have hs_5:=(hs 5 _ rfl).1
 have hsf5:=(hs 5 _ rfl).2
 have hsi5:HasCell (W) (b2) 5:=⟨_,hs_5⟩
 have hs_6:=(hs 6 _ rfl).1
 have hsf6:=(hs 6 _ rfl).2
 have hsi6:HasCell (W) (b2) 6:=⟨_,hs_6⟩
 have hs_7:=(hs 7 _ rfl).1
 have hsf7:=(hs 7 _ rfl).2
 have hsi7:HasCell (W) (b2) 7:=⟨_,hs_7⟩
 have hs_8:=(hs 8 _ rfl).1
 have hsf8:=(hs 8 _ rfl).2
 have hsi8:HasCell (W) (b2) 8:=⟨_,hs_8⟩
 have hs_9:=(hs 9 _ rfl).1
 have hsf9:=(hs 9 _ rfl).2
 have hsi9:HasCell (W) (b2) 9:=⟨_,hs_9⟩
 have hs_10:=(hs 10 _ rfl).1
 have hsf10:=(hs 10 _ rfl).2
 have hsi10:HasCell (W) (b2) 10:=⟨_,hs_10⟩
 have hs_11:=(hs 11 _ rfl).1
 have hsf11:=(hs 11 _ rfl).2
 have hsi11:HasCell (W) (b2) 11:=⟨_,hs_11⟩
 have hs_12:=(hs 12 _ rfl).1
 have hsf12:=(hs 12 _ rfl).2
 have hsi12:HasCell (W) (b2) 12:=⟨_,hs_12⟩
 have hs_13:=(hs 13 _ rfl).1
 have hsf13:=(hs 13 _ rfl).2
 have hsi13:HasCell (W) (b2) 13:=⟨_,hs_13⟩
 have hs_14:=(hs 14 _ rfl).1
 have hsf14:=(hs 14 _ rfl).2
 have hsi14:HasCell (W) (b2) 14:=⟨_,hs_14⟩
 have hsb:BlockIn (W) (b2):=BlockIn.of_cell hs_0
 clear hs
 clear hk e1
 generalize (diTo s.p m.place m.value 3).pl=Y at *
 generalize (diTo s.p m.place m.value 3).e=c at *
 go_enter Tryz.func74,Tryz.ntmps74
 go_wp2_with (first|(go_at_call 75;(with_reducible refine zaa (HM.out _) ?_);intro u1))
 go_region_with (first|(go_at_call 77;(with_reducible refine zaa (HV.out _) ?_);intro u2)|(go_at_call 76;(with_reducible refine zd1 (HB.out _ (HX.out.grew gw)) ?_ ?_);(· intro hz w9 hB;exact ⟨rfl,za1 rfl hz.out ((ButX.of_grew hb gw).trans hB.out)⟩);intro hz w9 hB hY))
 all_goals go_wp2
 all_goals
  go_end0
  exact ⟨by simp[hz.out],(ButX.of_grew hb gw).trans hB.out,fun _=>hY.out⟩
end Go.Proofs.YtdkfkalplmgoeaaGreat
namespace Go.Proofs.YtdkfkalplmgoeaaGreat
open Go.RowKit Go.Shelf
set_option maxRecDepth 100000
set_option maxHeartbeats 8000000
theorem zoj (m:Radio) (w:World):Calls Tryz.prog 81 #[.agg #[.int .i64 m.kind,.int .i64 m.place.x.lo,.int .i64 m.place.x.hi,.int .i64 m.place.y.lo,.int .i64 m.place.y.hi,.int .i64 m.place.z.lo,.int .i64 m.place.z.hi,.int .i64 m.dir.x.lo,.int .i64 m.dir.x.hi,.int .i64 m.dir.y.lo,.int .i64 m.dir.y.hi,.int .i64 m.dir.z.lo,.int .i64 m.dir.z.hi,.int .i64 m.value.lo,.int .i64 m.value.hi]] w fun e w'=>e=.returned (.agg #[.int .i64 m.value.lo,.int .i64 m.value.hi])∧Grew w w':=by
 go_enter Tryz.func81,Tryz.ntmps81
 go_wp2
 refine bodyPost_ret (by (simp[results,Tryz.results81,go_sem]<;>rfl)) rfl ?_
 exact ⟨rfl,gw⟩
def zcA (s:State) (m:Radio):Bx:=zba s.p m.place
def zdh (s:State) (m:Radio):Res:=zbp (zcA s m).list
def zcY (s:State) (m:Radio):Res:=mulR m.value (zdh s m).s
def zcX (s:State) (m:Radio):Int:=
 if zbt s.p m.place≠0 then zbt s.p m.place else if (zdh s m).e≠0 then (zdh s m).e else if (zcY s m).e≠0 then (zcY s m).e else (sumM 0 (zcA s m) s.v (zcY s m).s).e
theorem znf (s:State) (m:Radio) [hp:B64 s.p] [hq:B64 s.v] [hd:B64 m.place] [hv:S64 m.value] (hk:m.kind=1) (W:World) (b1 b2:Nat) (hm:zan W b1 [.int .i64 m.kind,.int .i64 m.place.x.lo,.int .i64 m.place.x.hi,.int .i64 m.place.y.lo,.int .i64 m.place.y.hi,.int .i64 m.place.z.lo,.int .i64 m.place.z.hi,.int .i64 m.dir.x.lo,.int .i64 m.dir.x.hi,.int .i64 m.dir.y.lo,.int .i64 m.dir.y.hi,.int .i64 m.dir.z.lo,.int .i64 m.dir.z.hi,.int .i64 m.value.lo,.int .i64 m.value.hi]) (hs:zan W b2 [.int .i64 s.t,.int .i64 s.p.x.lo,.int .i64 s.p.x.hi,.int .i64 s.p.y.lo,.int .i64 s.p.y.hi,.int .i64 s.p.z.lo,.int .i64 s.p.z.hi,.int .i64 s.v.x.lo,.int .i64 s.v.x.hi,.int .i64 s.v.y.lo,.int .i64 s.v.y.hi,.int .i64 s.v.z.lo,.int .i64 s.v.z.hi,.int .i64 s.m.lo,.int .i64 s.m.hi]) :
 Calls Tryz.prog 74 #[.pointer (some ⟨b1,0,none⟩),.pointer (some ⟨b2,0,none⟩)] W (zes b2 7 (zam 0 (zcA s m) s.v (zcY s m).s 3).1 (zcX s m) W):=by
 have e1:zgC m=.iface 146 (.agg #[.int .i64 m.kind,.int .i64 m.place.x.lo,.int .i64 m.place.x.hi,.int .i64 m.place.y.lo,.int .i64 m.place.y.hi,.int .i64 m.place.z.lo,.int .i64 m.place.z.hi,.int .i64 m.dir.x.lo,.int .i64 m.dir.x.hi,.int .i64 m.dir.y.lo,.int .i64 m.dir.y.hi,.int .i64 m.dir.z.lo,.int .i64 m.dir.z.hi,.int .i64 m.value.lo,.int .i64 m.value.hi]):=by unfold zgC zkG;rw[if_neg (by omega),if_pos hk]
 have HM:=Lib.hid (fun w'=>by have:=zfH m (by omega) (by omega) w';rw[e1] at this;exact this)
 have t1:=fun v x w=>(ze8 v x w).1
 have t2:=fun v x w=>(zhp v x w).2.1
 have E1:=Lib.hid (fun h:zbt s.p m.place≠0=>show zcX s m=zbt s.p m.place by unfold zcX;rw[if_pos h])
 have E2:=Lib.hid (fun (h0:zbt s.p m.place=0) (h:(zdh s m).e≠0)=>show zcX s m=(zdh s m).e by unfold zcX;rw[if_neg (fun k=>k h0),if_pos h])
 have E3:=Lib.hid (fun (h0:zbt s.p m.place=0) (h1:(zdh s m).e=0) (h:(zcY s m).e≠0)=>show zcX s m=(zcY s m).e by unfold zcX;rw[if_neg (fun k=>k h0),if_neg (fun k=>k h1),if_pos h])
 have E4:=Lib.hid (fun (h0:zbt s.p m.place=0) (h1:(zdh s m).e=0) (h2:(zcY s m).e=0)=>show zcX s m=(sumM 0 (zcA s m) s.v (zcY s m).s).e by unfold zcX;rw[if_neg (fun k=>k h0),if_neg (fun k=>k h1),if_neg (fun k=>k h2)])
 have HA:=Lib.hid (fun w'=>(show Calls Tryz.prog 78 #[.agg #[.int .i64 s.p.x.lo,.int .i64 s.p.x.hi,.int .i64 s.p.y.lo,.int .i64 s.p.y.hi,.int .i64 s.p.z.lo,.int .i64 s.p.z.hi],.agg #[.int .i64 m.place.x.lo,.int .i64 m.place.x.hi,.int .i64 m.place.y.lo,.int .i64 m.place.y.hi,.int .i64 m.place.z.lo,.int .i64 m.place.z.hi]] w' (zdH (.agg #[.int .i64 ((zcA s m)).x.lo,.int .i64 ((zcA s m)).x.hi,.int .i64 ((zcA s m)).y.lo,.int .i64 ((zcA s m)).y.hi,.int .i64 ((zcA s m)).z.lo,.int .i64 ((zcA s m)).z.hi]) (zbt s.p m.place) w') from zgb s.p m.place w'))
 have sD:B64 (zcA s m):=by unfold zcA;infer_instance
 have HN:=Lib.hid (fun w'=>(show Calls Tryz.prog 82 #[.agg #[.int .i64 (zcA s m).x.lo,.int .i64 (zcA s m).x.hi,.int .i64 (zcA s m).y.lo,.int .i64 (zcA s m).y.hi,.int .i64 (zcA s m).z.lo,.int .i64 (zcA s m).z.hi]] w' (zdH (.agg #[.int .i64 ((zdh s m).s).lo,.int .i64 ((zdh s m).s).hi]) (zdh s m).e w') from zji (zcA s m) w'))
 have sN:S64 (zdh s m).s:=by unfold zdh;infer_instance
 have HU:=Lib.hid (fun w'=>(show Calls Tryz.prog 80 #[.agg #[.int .i64 m.value.lo,.int .i64 m.value.hi],.agg #[.int .i64 ((zdh s m).s).lo,.int .i64 ((zdh s m).s).hi]] w' (zdH (.agg #[.int .i64 ((zcY s m).s).lo,.int .i64 ((zcY s m).s).hi]) (zcY s m).e w') from ze7 m.value (zdh s m).s w'))
 have sM:S64 (zcY s m).s:=by unfold zcY;infer_instance
 have HB:=Lib.hid (fun w' (hx:XAt w' b2 7 s.v)=>zfQ (zcA s m) s.v (zcY s m).s b2 7 w' hx)
 have HX:=Lib.hid (zqI hs)
 have hb:b2<W.heap.size:=World.block_lt_of_cell? W _ (hs 0 _ rfl).1
 have HV:=Lib.hid (fun w'=>zoj m w')
 have hm_0:=(hm 0 _ rfl).1
 have hmf0:=(hm 0 _ rfl).2
 have hmi0:HasCell (W) (b1) 0:=⟨_,hm_0⟩
 have hm_1:=(hm 1 _ rfl).1
 have hmf1:=(hm 1 _ rfl).2
 have hmi1:HasCell (W) (b1) 1:=⟨_,hm_1⟩
 have hm_2:=(hm 2 _ rfl).1
 have hmf2:=(hm 2 _ rfl).2
 have hmi2:HasCell (W) (b1) 2:=⟨_,hm_2⟩
 have hm_3:=(hm 3 _ rfl).1
 have hmf3:=(hm 3 _ rfl).2
 have hmi3:HasCell (W) (b1) 3:=⟨_,hm_3⟩
 have hm_4:=(hm 4 _ rfl).1
 have hmf4:=(hm 4 _ rfl).2
 have hmi4:HasCell (W) (b1) 4:=⟨_,hm_4⟩
 have hm_5:=(hm 5 _ rfl).1
 have hmf5:=(hm 5 _ rfl).2
 have hmi5:HasCell (W) (b1) 5:=⟨_,hm_5⟩
 have hm_6:=(hm 6 _ rfl).1
 have hmf6:=(hm 6 _ rfl).2
 have hmi6:HasCell (W) (b1) 6:=⟨_,hm_6⟩
 have hm_7:=(hm 7 _ rfl).1
 have hmf7:=(hm 7 _ rfl).2
 have hmi7:HasCell (W) (b1) 7:=⟨_,hm_7⟩
 have hm_8:=(hm 8 _ rfl).1
 have hmf8:=(hm 8 _ rfl).2
 have hmi8:HasCell (W) (b1) 8:=⟨_,hm_8⟩
 have hm_9:=(hm 9 _ rfl).1
 have hmf9:=(hm 9 _ rfl).2
 have hmi9:HasCell (W) (b1) 9:=⟨_,hm_9⟩
 have hm_10:=(hm 10 _ rfl).1
 have hmf10:=(hm 10 _ rfl).2
 have hmi10:HasCell (W) (b1) 10:=⟨_,hm_10⟩
 have hm_11:=(hm 11 _ rfl).1
 have hmf11:=(hm 11 _ rfl).2
 have hmi11:HasCell (W) (b1) 11:=⟨_,hm_11⟩
 have hm_12:=(hm 12 _ rfl).1
 have hmf12:=(hm 12 _ rfl).2
 have hmi12:HasCell (W) (b1) 12:=⟨_,hm_12⟩
 have hm_13:=(hm 13 _ rfl).1
 have hmf13:=(hm 13 _ rfl).2
 have hmi13:HasCell (W) (b1) 13:=⟨_,hm_13⟩
 have hm_14:=(hm 14 _ rfl).1
 have hmf14:=(hm 14 _ rfl).2
 have hmi14:HasCell (W) (b1) 14:=⟨_,hm_14⟩
 have hmb:BlockIn (W) (b1):=BlockIn.of_cell hm_0
 clear hm
 have hs_0:=(hs 0 _ rfl).1
 have hsf0:=(hs 0 _ rfl).2
 have hsi0:HasCell (W) (b2) 0:=⟨_,hs_0⟩
 have hs_1:=(hs 1 _ rfl).1
 have hsf1:=(hs 1 _ rfl).2
 have hsi1:HasCell (W) (b2) 1:=⟨_,hs_1⟩
 have hs_2:=(hs 2 _ rfl).1
 have hsf2:=(hs 2 _ rfl).2
 have hsi2:HasCell (W) (b2) 2:=⟨_,hs_2⟩
 have hs_3:=(hs 3 _ rfl).1
 have hsf3:=(hs 3 _ rfl).2
 have hsi3:HasCell (W) (b2) 3:=⟨_,hs_3⟩
 have hs_4:=(hs 4 _ rfl).1
 have hsf4:=(hs 4 _ rfl).2
 have hsi4:HasCell (W) (b2) 4:=⟨_,hs_4⟩
 have hs_5:=(hs 5 _ rfl).1
 have hsf5:=(hs 5 _ rfl).2
 have hsi5:HasCell (W) (b2) 5:=⟨_,hs_5⟩
 have hs_6:=(hs 6 _ rfl).1
 have hsf6:=(hs 6 _ rfl).2
 have hsi6:HasCell (W) (b2) 6:=⟨_,hs_6⟩
 have hs_7:=(hs 7 _ rfl).1
 have hsf7:=(hs 7 _ rfl).2
 have hsi7:HasCell (W) (b2) 7:=⟨_,hs_7⟩
 have hs_8:=(hs 8 _ rfl).1
 have hsf8:=(hs 8 _ rfl).2
 have hsi8:HasCell (W) (b2) 8:=⟨_,hs_8⟩
 have hs_9:=(hs 9 _ rfl).1
 have hsf9:=(hs 9 _ rfl).2
 have hsi9:HasCell (W) (b2) 9:=⟨_,hs_9⟩
 have hs_10:=(hs 10 _ rfl).1
 have hsf10:=(hs 10 _ rfl).2
 have hsi10:HasCell (W) (b2) 10:=⟨_,hs_10⟩
 have hs_11:=(hs 11 _ rfl).1
 have hsf11:=(hs 11 _ rfl).2
 have hsi11:HasCell (W) (b2) 11:=⟨_,hs_11⟩
 have hs_12:=(hs 12 _ rfl).1
 have hsf12:=(hs 12 _ rfl).2
 have hsi12:HasCell (W) (b2) 12:=⟨_,hs_12⟩
 have hs_13:=(hs 13 _ rfl).1
 have hsf13:=(hs 13 _ rfl).2
 have hsi13:HasCell (W) (b2) 13:=⟨_,hs_13⟩
 have hs_14:=(hs 14 _ rfl).1
 have hsf14:=(hs 14 _ rfl).2
 have hsi14:HasCell (W) (b2) 14:=⟨_,hs_14⟩
 have hsb:BlockIn (W) (b2):=BlockIn.of_cell hs_0
 clear hs
 clear hk e1
 generalize zcX s m=E at *
 generalize zcA s m=D at *
 generalize zdh s m=N at *
 generalize zcY s m=M at *
 generalize zbt s.p m.place=A at *
 generalize (zam 0 D s.v M.s 3).1=Y at *
 generalize (sumM 0 D s.v M.s).e=c at *
 go_enter Tryz.func74,Tryz.ntmps74
 go_wp2_with (first|(go_at_call 75;(with_reducible refine zaa (HM.out _) ?_);intro u1)|(go_at_call 78;(with_reducible refine za7 (HA.out _) ?_ ?_);(· intro hz u;exact ⟨rfl,za1 (E1.out hz.out) hz.out (ButX.of_grew hb gw)⟩);intro hz1 u2))
 go_region_with (first|(go_at_call 81;(with_reducible refine zaa (HV.out _) ?_);intro u3)|(go_at_call 82;(with_reducible refine za7 (HN.out _) ?_ ?_);(· intro hz u;exact ⟨rfl,za1 (E2.out hz1.out hz.out) hz.out (ButX.of_grew hb gw)⟩);intro hz2 u4)|(go_at_call 80;(with_reducible refine za7 (HU.out _) ?_ ?_);(· intro hz u;exact ⟨rfl,za1 (E3.out hz1.out hz2.out hz.out) hz.out (ButX.of_grew hb gw)⟩);intro hz3 u5)|(go_at_call 79;(with_reducible refine zd1 (HB.out _ (HX.out.grew gw)) ?_ ?_);(· intro hz w9 hB;exact ⟨rfl,za1 (E4.out hz1.out hz2.out hz3.out) hz.out ((ButX.of_grew hb gw).trans hB.out)⟩);intro hz w9 hB hY))
 all_goals go_wp2
 all_goals
  go_end0
  exact ⟨by rw[E4.out hz1.out hz2.out hz3.out];simp[hz.out],(ButX.of_grew hb gw).trans hB.out,fun _=>hY.out⟩
end Go.Proofs.YtdkfkalplmgoeaaGreat
