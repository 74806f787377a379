/-
  nav.cut$1 of a slider, of a ranger.
-/
import Derived.Test.YtdkfkalplmgoeaaNavCutOne
namespace Go.Proofs.Ytdkfkalplmgoeaa
open Go.RowKit Go.Shelf
set_option maxRecDepth 100000
set_option maxHeartbeats 8000000
theorem cut3_any (s : State) (m : Radio) [hp : B64 s.v] [hd : B64 m.dir] [hv : S64 m.value] (hk : m.kind = 3) (W : World) (b1 b2 : Nat) (hm : BoxAt W b1 [.int .i64 m.kind, .int .i64 m.place.x.lo, .int .i64 m.place.x.hi, .int .i64 m.place.y.lo, .int .i64 m.place.y.hi, .int .i64 m.place.z.lo, .int .i64 m.place.z.hi, .int .i64 m.dir.x.lo, .int .i64 m.dir.x.hi, .int .i64 m.dir.y.lo, .int .i64 m.dir.y.hi, .int .i64 m.dir.z.lo, .int .i64 m.dir.z.hi, .int .i64 m.value.lo, .int .i64 m.value.hi]) (hs : BoxAt W b2 [.int .i64 s.t, .int .i64 s.p.x.lo, .int .i64 s.p.x.hi, .int .i64 s.p.y.lo, .int .i64 s.p.y.hi, .int .i64 s.p.z.lo, .int .i64 s.p.z.hi, .int .i64 s.v.x.lo, .int .i64 s.v.x.hi, .int .i64 s.v.y.lo, .int .i64 s.v.y.hi, .int .i64 s.v.z.lo, .int .i64 s.v.z.hi, .int .i64 s.m.lo, .int .i64 s.m.hi]) :
    Calls Try.prog 69 #[.pointer (some ⟨b1, 0, none⟩), .pointer (some ⟨b2, 0, none⟩)] W (StopsX b2 7 (sumTo 0 m.dir s.v m.value 3).1 (sumM 0 m.dir s.v m.value).e W) := by
  have e1 : madeV m = .iface 126 (.agg #[.int .i64 m.kind, .int .i64 m.place.x.lo, .int .i64 m.place.x.hi, .int .i64 m.place.y.lo, .int .i64 m.place.y.hi, .int .i64 m.place.z.lo, .int .i64 m.place.z.hi, .int .i64 m.dir.x.lo, .int .i64 m.dir.x.hi, .int .i64 m.dir.y.lo, .int .i64 m.dir.y.hi, .int .i64 m.dir.z.lo, .int .i64 m.dir.z.hi, .int .i64 m.value.lo, .int .i64 m.value.hi]) := by unfold madeV instT; rw [if_neg (by omega), if_neg (by omega), if_neg (by omega)]
  have HM := Lib.hid (fun w' => by have := made_any m (by omega) (by omega) w'; rw [e1] at this; exact this)
  have t1 := fun v x w => (no_inst v x w).2.2.2.1
  have t2 := fun v x w => (no_inst v x w).2.2.2.2.1
  have t3 := fun v x w => (no_inst v x w).2.2.2.2.2
  have t4 := fun v x w => (is_inst v x w).2.2.2
  have HB := Lib.hid (fun w' (hx : XAt w' b2 7 s.v) => bySum_any m.dir s.v m.value b2 7 w' hx)
  have HX := Lib.hid (xat_v hs)
  have hb : b2 < W.heap.size := World.block_lt_of_cell? W _ (hs 0 _ rfl).1
  have HV := Lib.hid (fun w' => val3_any m w')
  have hm_0 := (hm 0 _ rfl).1
  have hmf0 := (hm 0 _ rfl).2
  have hmi0 : HasCell (W) (b1) 0 := ⟨_, hm_0⟩
  have hm_1 := (hm 1 _ rfl).1
  have hmf1 := (hm 1 _ rfl).2
  have hmi1 : HasCell (W) (b1) 1 := ⟨_, hm_1⟩
  have hm_2 := (hm 2 _ rfl).1
  have hmf2 := (hm 2 _ rfl).2
  have hmi2 : HasCell (W) (b1) 2 := ⟨_, hm_2⟩
  have hm_3 := (hm 3 _ rfl).1
  have hmf3 := (hm 3 _ rfl).2
  have hmi3 : HasCell (W) (b1) 3 := ⟨_, hm_3⟩
  have hm_4 := (hm 4 _ rfl).1
  have hmf4 := (hm 4 _ rfl).2
  have hmi4 : HasCell (W) (b1) 4 := ⟨_, hm_4⟩
  have hm_5 := (hm 5 _ rfl).1
  have hmf5 := (hm 5 _ rfl).2
  have hmi5 : HasCell (W) (b1) 5 := ⟨_, hm_5⟩
  have hm_6 := (hm 6 _ rfl).1
  have hmf6 := (hm 6 _ rfl).2
  have hmi6 : HasCell (W) (b1) 6 := ⟨_, hm_6⟩
  have hm_7 := (hm 7 _ rfl).1
  have hmf7 := (hm 7 _ rfl).2
  have hmi7 : HasCell (W) (b1) 7 := ⟨_, hm_7⟩
  have hm_8 := (hm 8 _ rfl).1
  have hmf8 := (hm 8 _ rfl).2
  have hmi8 : HasCell (W) (b1) 8 := ⟨_, hm_8⟩
  have hm_9 := (hm 9 _ rfl).1
  have hmf9 := (hm 9 _ rfl).2
  have hmi9 : HasCell (W) (b1) 9 := ⟨_, hm_9⟩
  have hm_10 := (hm 10 _ rfl).1
  have hmf10 := (hm 10 _ rfl).2
  have hmi10 : HasCell (W) (b1) 10 := ⟨_, hm_10⟩
  have hm_11 := (hm 11 _ rfl).1
  have hmf11 := (hm 11 _ rfl).2
  have hmi11 : HasCell (W) (b1) 11 := ⟨_, hm_11⟩
  have hm_12 := (hm 12 _ rfl).1
  have hmf12 := (hm 12 _ rfl).2
  have hmi12 : HasCell (W) (b1) 12 := ⟨_, hm_12⟩
  have hm_13 := (hm 13 _ rfl).1
  have hmf13 := (hm 13 _ rfl).2
  have hmi13 : HasCell (W) (b1) 13 := ⟨_, hm_13⟩
  have hm_14 := (hm 14 _ rfl).1
  have hmf14 := (hm 14 _ rfl).2
  have hmi14 : HasCell (W) (b1) 14 := ⟨_, hm_14⟩
  have hmb : BlockIn (W) (b1) := BlockIn.of_cell hm_0
  clear hm
  have hs_0 := (hs 0 _ rfl).1
  have hsf0 := (hs 0 _ rfl).2
  have hsi0 : HasCell (W) (b2) 0 := ⟨_, hs_0⟩
  have hs_1 := (hs 1 _ rfl).1
  have hsf1 := (hs 1 _ rfl).2
  have hsi1 : HasCell (W) (b2) 1 := ⟨_, hs_1⟩
  have hs_2 := (hs 2 _ rfl).1
  have hsf2 := (hs 2 _ rfl).2
  have hsi2 : HasCell (W) (b2) 2 := ⟨_, hs_2⟩
  have hs_3 := (hs 3 _ rfl).1
  have hsf3 := (hs 3 _ rfl).2
  have hsi3 : HasCell (W) (b2) 3 := ⟨_, hs_3⟩
  have hs_4 := (hs 4 _ rfl).1
  have hsf4 := (hs 4 _ rfl).2
  have hsi4 : HasCell (W) (b2) 4 := ⟨_, hs_4⟩
  have hs_5 := (hs 5 _ rfl).1
  have hsf5 := (hs 5 _ rfl).2
  have hsi5 : HasCell (W) (b2) 5 := ⟨_, hs_5⟩
  have hs_6 := (hs 6 _ rfl).1
  have hsf6 := (hs 6 _ rfl).2
  have hsi6 : HasCell (W) (b2) 6 := ⟨_, hs_6⟩
  have hs_7 := (hs 7 _ rfl).1
  have hsf7 := (hs 7 _ rfl).2
  have hsi7 : HasCell (W) (b2) 7 := ⟨_, hs_7⟩
  have hs_8 := (hs 8 _ rfl).1
  have hsf8 := (hs 8 _ rfl).2
  have hsi8 : HasCell (W) (b2) 8 := ⟨_, hs_8⟩
  have hs_9 := (hs 9 _ rfl).1
  have hsf9 := (hs 9 _ rfl).2
  have hsi9 : HasCell (W) (b2) 9 := ⟨_, hs_9⟩
  have hs_10 := (hs 10 _ rfl).1
  have hsf10 := (hs 10 _ rfl).2
  have hsi10 : HasCell (W) (b2) 10 := ⟨_, hs_10⟩
  have hs_11 := (hs 11 _ rfl).1
  have hsf11 := (hs 11 _ rfl).2
  have hsi11 : HasCell (W) (b2) 11 := ⟨_, hs_11⟩
  have hs_12 := (hs 12 _ rfl).1
  have hsf12 := (hs 12 _ rfl).2
  have hsi12 : HasCell (W) (b2) 12 := ⟨_, hs_12⟩
  have hs_13 := (hs 13 _ rfl).1
  have hsf13 := (hs 13 _ rfl).2
  have hsi13 : HasCell (W) (b2) 13 := ⟨_, hs_13⟩
  have hs_14 := (hs 14 _ rfl).1
  have hsf14 := (hs 14 _ rfl).2
  have hsi14 : HasCell (W) (b2) 14 := ⟨_, hs_14⟩
  have hsb : BlockIn (W) (b2) := BlockIn.of_cell hs_0
  clear hs
  clear hk e1
  generalize (sumTo 0 m.dir s.v m.value 3).1 = Y at *
  generalize (sumM 0 m.dir s.v m.value).e = c at *
  go_enter Try.func69, Try.ntmps69
  go_wp2_with (first | (go_at_call 47; (with_reducible refine call_later (HM.out _) ?_); intro u1))
  go_region_with (first | (go_at_call 76; (with_reducible refine call_later (HV.out _) ?_); intro u2) | (go_at_call 72; (with_reducible refine call_stopx (HB.out _ (HX.out.grew gw)) ?_ ?_); (· intro hz w9 hB; exact ⟨rfl, stopX_at rfl hz.out ((ButX.of_grew hb gw).trans hB.out)⟩); intro hz w9 hB hY))
  all_goals go_wp2
  all_goals
    go_end0
    exact ⟨by simp [hz.out], (ButX.of_grew hb gw).trans hB.out, fun _ => hY.out⟩
end Go.Proofs.Ytdkfkalplmgoeaa
