/-
  Contract of nav.read of a rate.
  Contract of nav.tried.
  Contracts of nav.Reading and of its closure.
  Contracts of nav.Reading, nav.Agrees.
-/
import Derived.Test.YtdkfkalplmgoeaaNavRead
import Derived.Test.YtdkfkalplmgoeaaNavCalls
import Derived.Shelf.Abstract
import Derived.Test.YtdkfkalplmgoeaaRadioNav
namespace Go.Proofs.Ytdkfkalplmgoeaa
open Go.RowKit Go.Shelf
set_option maxRecDepth 100000
set_option maxHeartbeats 8000000
theorem read1_any (s : State) (m : Radio) [hp : B64 s.p] [hv : B64 s.v] [hf : B64 m.place] (w : World) : Calls Try.prog 46 #[.agg #[.int .i64 s.t, .int .i64 s.p.x.lo, .int .i64 s.p.x.hi, .int .i64 s.p.y.lo, .int .i64 s.p.y.hi, .int .i64 s.p.z.lo, .int .i64 s.p.z.hi, .int .i64 s.v.x.lo, .int .i64 s.v.x.hi, .int .i64 s.v.y.lo, .int .i64 s.v.y.hi, .int .i64 s.v.z.lo, .int .i64 s.v.z.hi, .int .i64 s.m.lo, .int .i64 s.m.hi], .iface 122 (.agg #[.int .i64 m.kind, .int .i64 m.place.x.lo, .int .i64 m.place.x.hi, .int .i64 m.place.y.lo, .int .i64 m.place.y.hi, .int .i64 m.place.z.lo, .int .i64 m.place.z.hi, .int .i64 m.dir.x.lo, .int .i64 m.dir.x.hi, .int .i64 m.dir.y.lo, .int .i64 m.dir.y.hi, .int .i64 m.dir.z.lo, .int .i64 m.dir.z.hi, .int .i64 m.value.lo, .int .i64 m.value.hi])] w (Stops (.agg #[.int .i64 ((rateR s.p s.v m.place).s).lo, .int .i64 ((rateR s.p s.v m.place).s).hi]) (rateR s.p s.v m.place).e w) := by
  have t1 := fun v x w => (no_inst v x w).1
  have t2 := fun v x w => (is_inst v x w).2.1
  go_enter Try.func46, Try.ntmps46
  go_wp2_with (first | (go_at_call 66; (with_reducible refine call_both (navAway_any s.p m.place _) ?_ ?_); (· intro hz u; exact ⟨rfl, stops_at (rt_bad hz.out) hz.out gw⟩); intro hz1 u1))
  go_region_with (first | (go_at_call 68; (with_reducible refine call_both (navDot_any (awayS s.p m.place) s.v _) ?_ ?_); (· intro hz u; exact ⟨rfl, stops_at (rt_dot hz1.out hz.out) hz.out gw⟩); intro hz2 u2) | (go_at_call 65; (with_reducible refine call_both (navNorm_any (awayS s.p m.place) _) ?_ ?_); (· intro hz u; exact ⟨rfl, stops_at (rt_norm hz1.out hz2.out hz.out) hz.out gw⟩); intro hz3 u3) | (go_at_call 67; (with_reducible refine call_both (navDiv_any (dotBR (awayS s.p m.place) s.v).s (normR (awayS s.p m.place).list).s _) ?_ ?_); (· intro hz u; exact ⟨rfl, stops_at (by rw [rt_ok hz1.out hz2.out hz3.out]) hz.out gw⟩); intro hz4 u4))
  all_goals go_wp2
  all_goals
    refine bodyPost_ret (by (simp [results, Try.results46, go_sem] <;> rfl)) rfl ?_
    rw [rt_ok hz1.out hz2.out hz3.out]
    exact stops_ret hz4.out rfl gw
end Go.Proofs.Ytdkfkalplmgoeaa
namespace Go.Proofs.Ytdkfkalplmgoeaa
open Go.RowKit
set_option maxRecDepth 100000
set_option maxHeartbeats 2000000
theorem tried_any (G : Nat) (cap : Array Value) (eg : ∀ args w, (callFunc G args).run Try.prog w = .ok (.enter G args) w) (w : World) (Q : Option Int → World → Prop)
    (h : Calls Try.prog G cap (w.alloc (.cells #[.int .i64 0] 25)) (Ends w Q)) :
    Calls Try.prog 44 #[.func (.func G) #[] cap] w fun e w'' => ∃ o w', Q o w' ∧ e = .returned (.int .i64 (o.getD 0)) ∧ w'' = triedW w.heap.size o w' := by
  have hmf : ∀ (fn : Fn) (first cap : Array Value) (w : World), (Instr.makeFunc fn first cap).run Try.prog w = .ok (.func fn first cap) w := fun _ _ _ _ => rfl
  have H := Lib.hid h
  clear h
  go_enter_defers Try.func44, Try.ntmps44
  go_wp2_with (first | (go_at_fn G; refine (H.out).mono ?_; rintro e w1 ⟨⟨rfl, hq⟩ | ⟨c, rfl, hq⟩, hc1, hf1⟩))
  · have ihc : HasCell w1 w.heap.size 0 := ⟨_, hc1⟩
    refine leaves_cons (f := 64) (args := #[.pointer (some ⟨w.heap.size, 0, none⟩)]) (by simp) (by simp [go_sem]) ?_
    refine (catch_idle ⟨w.heap.size, 0, none⟩ _).mono ?_
    rintro e u' w'' ⟨rfl, rfl, rfl⟩
    refine ⟨.int .i64 0, ?_, none, w1, hq, rfl, rfl⟩
    simp [results, Try.results44, go_sem]
  · have ihc : HasCell w1 w.heap.size 0 := ⟨_, hc1⟩
    refine leaves_cons (f := 64) (args := #[.pointer (some ⟨w.heap.size, 0, none⟩)]) (by simp) (by simp [go_sem]) ?_
    refine (catch_stop w.heap.size c 0 _ hc1 hf1).mono ?_
    rintro e u' w'' ⟨rfl, rfl, rfl⟩
    refine ⟨.int .i64 c, ?_, some c, w1, hq, rfl, rfl⟩
    simp [results, Try.results44, go_sem]
end Go.Proofs.Ytdkfkalplmgoeaa
namespace Go.Proofs.Ytdkfkalplmgoeaa
open Go.RowKit Go.Shelf
set_option maxRecDepth 100000
set_option maxHeartbeats 8000000
theorem BoxAt.fresh {w : World} {m : Nat} [h : SizeAt w m] (l : List Value) (t : TypeId) : BoxAt (w.alloc (.cells l.toArray t)) m l := by
  obtain rfl := h.eq
  intro i v hv
  have := cells_new w l t i v hv
  rw [Addr.add_lit, Nat.zero_add] at this
  exact ⟨this, by go_simp⟩
theorem read_any (s : State) (m : Radio) [hp : B64 s.p] [hv : B64 s.v] [hf : B64 m.place] [hd : B64 m.dir] (h0 : 0 ≤ m.kind) (h1 : m.kind ≤ 3) (w : World) : Calls Try.prog 46 #[.agg #[.int .i64 s.t, .int .i64 s.p.x.lo, .int .i64 s.p.x.hi, .int .i64 s.p.y.lo, .int .i64 s.p.y.hi, .int .i64 s.p.z.lo, .int .i64 s.p.z.hi, .int .i64 s.v.x.lo, .int .i64 s.v.x.hi, .int .i64 s.v.y.lo, .int .i64 s.v.y.hi, .int .i64 s.v.z.lo, .int .i64 s.v.z.hi, .int .i64 s.m.lo, .int .i64 s.m.hi], madeV m] w (Stops (.agg #[.int .i64 ((readR s m).s).lo, .int .i64 ((readR s m).s).hi]) (readR s m).e w) := by
  rcases kind_four h0 h1 with hk | hk | hk | hk
  · have e1 : madeV m = .iface 120 (.agg #[.int .i64 m.kind, .int .i64 m.place.x.lo, .int .i64 m.place.x.hi, .int .i64 m.place.y.lo, .int .i64 m.place.y.hi, .int .i64 m.place.z.lo, .int .i64 m.place.z.hi, .int .i64 m.dir.x.lo, .int .i64 m.dir.x.hi, .int .i64 m.dir.y.lo, .int .i64 m.dir.y.hi, .int .i64 m.dir.z.lo, .int .i64 m.dir.z.hi, .int .i64 m.value.lo, .int .i64 m.value.hi]) := by unfold madeV instT; rw [if_pos hk]
    have e2 : readR s m = normAway s.p m.place := by unfold readR; rw [if_pos hk]
    rw [e1, e2]
    exact read0_any s m w
  · have e1 : madeV m = .iface 122 (.agg #[.int .i64 m.kind, .int .i64 m.place.x.lo, .int .i64 m.place.x.hi, .int .i64 m.place.y.lo, .int .i64 m.place.y.hi, .int .i64 m.place.z.lo, .int .i64 m.place.z.hi, .int .i64 m.dir.x.lo, .int .i64 m.dir.x.hi, .int .i64 m.dir.y.lo, .int .i64 m.dir.y.hi, .int .i64 m.dir.z.lo, .int .i64 m.dir.z.hi, .int .i64 m.value.lo, .int .i64 m.value.hi]) := by unfold madeV instT; rw [if_neg (by omega), if_pos hk]
    have e2 : readR s m = rateR s.p s.v m.place := by unfold readR; rw [if_neg (by omega), if_pos hk]
    rw [e1, e2]
    exact read1_any s m w
  · have e1 : madeV m = .iface 125 (.agg #[.int .i64 m.kind, .int .i64 m.place.x.lo, .int .i64 m.place.x.hi, .int .i64 m.place.y.lo, .int .i64 m.place.y.hi, .int .i64 m.place.z.lo, .int .i64 m.place.z.hi, .int .i64 m.dir.x.lo, .int .i64 m.dir.x.hi, .int .i64 m.dir.y.lo, .int .i64 m.dir.y.hi, .int .i64 m.dir.z.lo, .int .i64 m.dir.z.hi, .int .i64 m.value.lo, .int .i64 m.value.hi]) := by unfold madeV instT; rw [if_neg (by omega), if_neg (by omega), if_pos hk]
    have e2 : readR s m = dotBR m.dir s.p := by unfold readR; rw [if_neg (by omega), if_neg (by omega), if_pos hk]
    rw [e1, e2]
    exact read2_any s m w
  · have e1 : madeV m = .iface 126 (.agg #[.int .i64 m.kind, .int .i64 m.place.x.lo, .int .i64 m.place.x.hi, .int .i64 m.place.y.lo, .int .i64 m.place.y.hi, .int .i64 m.place.z.lo, .int .i64 m.place.z.hi, .int .i64 m.dir.x.lo, .int .i64 m.dir.x.hi, .int .i64 m.dir.y.lo, .int .i64 m.dir.y.hi, .int .i64 m.dir.z.lo, .int .i64 m.dir.z.hi, .int .i64 m.value.lo, .int .i64 m.value.hi]) := by unfold madeV instT; rw [if_neg (by omega), if_neg (by omega), if_neg (by omega)]
    have e2 : readR s m = dotBR m.dir s.v := by unfold readR; rw [if_neg (by omega), if_neg (by omega), if_neg (by omega)]
    rw [e1, e2]
    exact read3_any s m w
/-- The world behind what Reading tries. -/
def readQ (r : Res) (W : World) (b3 : Nat) : Option Int → World → Prop
  | none, w' => r.e = 0 ∧ ∃ u : Later (W.alloc (.cells #[.int .i64 0] 25)), w' = (u.world.setCell ⟨b3, 0, none⟩ (.int .i64 r.s.lo)).setCell ⟨b3, 1, none⟩ (.int .i64 r.s.hi)
  | some c, w' => r.e ≠ 0 ∧ c = r.e ∧ ∃ u : Later (W.alloc (.cells #[.int .i64 0] 25)), w' = u.world
theorem readClo_any (s : State) (m : Radio) [hp : B64 s.p] [hv : B64 s.v] [hf : B64 m.place] [hd : B64 m.dir] (h0 : 0 ≤ m.kind) (h1 : m.kind ≤ 3) (W : World) (b1 b2 b3 : Nat) (hs : BoxAt W b1 [.int .i64 s.t, .int .i64 s.p.x.lo, .int .i64 s.p.x.hi, .int .i64 s.p.y.lo, .int .i64 s.p.y.hi, .int .i64 s.p.z.lo, .int .i64 s.p.z.hi, .int .i64 s.v.x.lo, .int .i64 s.v.x.hi, .int .i64 s.v.y.lo, .int .i64 s.v.y.hi, .int .i64 s.v.z.lo, .int .i64 s.v.z.hi, .int .i64 s.m.lo, .int .i64 s.m.hi]) (hm : BoxAt W b2 [.int .i64 m.kind, .int .i64 m.place.x.lo, .int .i64 m.place.x.hi, .int .i64 m.place.y.lo, .int .i64 m.place.y.hi, .int .i64 m.place.z.lo, .int .i64 m.place.z.hi, .int .i64 m.dir.x.lo, .int .i64 m.dir.x.hi, .int .i64 m.dir.y.lo, .int .i64 m.dir.y.hi, .int .i64 m.dir.z.lo, .int .i64 m.dir.z.hi, .int .i64 m.value.lo, .int .i64 m.value.hi]) (ho : BoxAt W b3 [.int .i64 0, .int .i64 0]) :
    Calls Try.prog 45 #[.pointer (some ⟨b1, 0, none⟩), .pointer (some ⟨b2, 0, none⟩), .pointer (some ⟨b3, 0, none⟩)] (W.alloc (.cells #[.int .i64 0] 25)) (Ends W (readQ (readR s m) W b3)) := by
  have HM := Lib.hid (fun w' => made_any m h0 h1 w')
  have HR := Lib.hid (fun w' => read_any s m h0 h1 w')
  clear h0 h1
  have hs_0 := (hs 0 _ rfl).1
  have hsf0 := (hs 0 _ rfl).2
  have hsi0 : HasCell (W) (b1) 0 := ⟨_, hs_0⟩
  have hs_1 := (hs 1 _ rfl).1
  have hsf1 := (hs 1 _ rfl).2
  have hsi1 : HasCell (W) (b1) 1 := ⟨_, hs_1⟩
  have hs_2 := (hs 2 _ rfl).1
  have hsf2 := (hs 2 _ rfl).2
  have hsi2 : HasCell (W) (b1) 2 := ⟨_, hs_2⟩
  have hs_3 := (hs 3 _ rfl).1
  have hsf3 := (hs 3 _ rfl).2
  have hsi3 : HasCell (W) (b1) 3 := ⟨_, hs_3⟩
  have hs_4 := (hs 4 _ rfl).1
  have hsf4 := (hs 4 _ rfl).2
  have hsi4 : HasCell (W) (b1) 4 := ⟨_, hs_4⟩
  have hs_5 := (hs 5 _ rfl).1
  have hsf5 := (hs 5 _ rfl).2
  have hsi5 : HasCell (W) (b1) 5 := ⟨_, hs_5⟩
  have hs_6 := (hs 6 _ rfl).1
  have hsf6 := (hs 6 _ rfl).2
  have hsi6 : HasCell (W) (b1) 6 := ⟨_, hs_6⟩
  have hs_7 := (hs 7 _ rfl).1
  have hsf7 := (hs 7 _ rfl).2
  have hsi7 : HasCell (W) (b1) 7 := ⟨_, hs_7⟩
  have hs_8 := (hs 8 _ rfl).1
  have hsf8 := (hs 8 _ rfl).2
  have hsi8 : HasCell (W) (b1) 8 := ⟨_, hs_8⟩
  have hs_9 := (hs 9 _ rfl).1
  have hsf9 := (hs 9 _ rfl).2
  have hsi9 : HasCell (W) (b1) 9 := ⟨_, hs_9⟩
  have hs_10 := (hs 10 _ rfl).1
  have hsf10 := (hs 10 _ rfl).2
  have hsi10 : HasCell (W) (b1) 10 := ⟨_, hs_10⟩
  have hs_11 := (hs 11 _ rfl).1
  have hsf11 := (hs 11 _ rfl).2
  have hsi11 : HasCell (W) (b1) 11 := ⟨_, hs_11⟩
  have hs_12 := (hs 12 _ rfl).1
  have hsf12 := (hs 12 _ rfl).2
  have hsi12 : HasCell (W) (b1) 12 := ⟨_, hs_12⟩
  have hs_13 := (hs 13 _ rfl).1
  have hsf13 := (hs 13 _ rfl).2
  have hsi13 : HasCell (W) (b1) 13 := ⟨_, hs_13⟩
  have hs_14 := (hs 14 _ rfl).1
  have hsf14 := (hs 14 _ rfl).2
  have hsi14 : HasCell (W) (b1) 14 := ⟨_, hs_14⟩
  have hsb : BlockIn (W) (b1) := BlockIn.of_cell hs_0
  clear hs
  have hm_0 := (hm 0 _ rfl).1
  have hmf0 := (hm 0 _ rfl).2
  have hmi0 : HasCell (W) (b2) 0 := ⟨_, hm_0⟩
  have hm_1 := (hm 1 _ rfl).1
  have hmf1 := (hm 1 _ rfl).2
  have hmi1 : HasCell (W) (b2) 1 := ⟨_, hm_1⟩
  have hm_2 := (hm 2 _ rfl).1
  have hmf2 := (hm 2 _ rfl).2
  have hmi2 : HasCell (W) (b2) 2 := ⟨_, hm_2⟩
  have hm_3 := (hm 3 _ rfl).1
  have hmf3 := (hm 3 _ rfl).2
  have hmi3 : HasCell (W) (b2) 3 := ⟨_, hm_3⟩
  have hm_4 := (hm 4 _ rfl).1
  have hmf4 := (hm 4 _ rfl).2
  have hmi4 : HasCell (W) (b2) 4 := ⟨_, hm_4⟩
  have hm_5 := (hm 5 _ rfl).1
  have hmf5 := (hm 5 _ rfl).2
  have hmi5 : HasCell (W) (b2) 5 := ⟨_, hm_5⟩
  have hm_6 := (hm 6 _ rfl).1
  have hmf6 := (hm 6 _ rfl).2
  have hmi6 : HasCell (W) (b2) 6 := ⟨_, hm_6⟩
  have hm_7 := (hm 7 _ rfl).1
  have hmf7 := (hm 7 _ rfl).2
  have hmi7 : HasCell (W) (b2) 7 := ⟨_, hm_7⟩
  have hm_8 := (hm 8 _ rfl).1
  have hmf8 := (hm 8 _ rfl).2
  have hmi8 : HasCell (W) (b2) 8 := ⟨_, hm_8⟩
  have hm_9 := (hm 9 _ rfl).1
  have hmf9 := (hm 9 _ rfl).2
  have hmi9 : HasCell (W) (b2) 9 := ⟨_, hm_9⟩
  have hm_10 := (hm 10 _ rfl).1
  have hmf10 := (hm 10 _ rfl).2
  have hmi10 : HasCell (W) (b2) 10 := ⟨_, hm_10⟩
  have hm_11 := (hm 11 _ rfl).1
  have hmf11 := (hm 11 _ rfl).2
  have hmi11 : HasCell (W) (b2) 11 := ⟨_, hm_11⟩
  have hm_12 := (hm 12 _ rfl).1
  have hmf12 := (hm 12 _ rfl).2
  have hmi12 : HasCell (W) (b2) 12 := ⟨_, hm_12⟩
  have hm_13 := (hm 13 _ rfl).1
  have hmf13 := (hm 13 _ rfl).2
  have hmi13 : HasCell (W) (b2) 13 := ⟨_, hm_13⟩
  have hm_14 := (hm 14 _ rfl).1
  have hmf14 := (hm 14 _ rfl).2
  have hmi14 : HasCell (W) (b2) 14 := ⟨_, hm_14⟩
  have hmb : BlockIn (W) (b2) := BlockIn.of_cell hm_0
  clear hm
  have ho_0 := (ho 0 _ rfl).1
  have hof0 := (ho 0 _ rfl).2
  have hoi0 : HasCell (W) (b3) 0 := ⟨_, ho_0⟩
  have ho_1 := (ho 1 _ rfl).1
  have hof1 := (ho 1 _ rfl).2
  have hoi1 : HasCell (W) (b3) 1 := ⟨_, ho_1⟩
  have hob : BlockIn (W) (b3) := BlockIn.of_cell ho_0
  clear ho
  have iap : Apart W.heap.size b3 := inferInstance
  have iap2 : Apart b3 W.heap.size := inferInstance
  generalize readR s m = r at *
  generalize madeV m = mv at *
  go_enter Try.func45, Try.ntmps45
  go_wp2
  go_region_with (first | (go_at_call 47; (with_reducible refine call_later (HM.out _) ?_); intro u1) | (go_at_call 46; (with_reducible refine call_both (HR.out _) ?_ ?_); (· intro hz u; exact ⟨rfl, .inr ⟨r.e, rfl, hz.out, rfl, ⟨u.world, gw⟩, rfl⟩, by go_simp, by go_simp⟩); intro hz u2))
  all_goals go_wp2
  all_goals
    go_end0
    exact ⟨.inl ⟨rfl, hz.out, ⟨u2.world, gw⟩, rfl⟩, by go_simp, by go_simp⟩
end Go.Proofs.Ytdkfkalplmgoeaa
namespace Go.Proofs.Ytdkfkalplmgoeaa
open Go.RowKit Go.Shelf
set_option maxRecDepth 100000
set_option maxHeartbeats 8000000
theorem res_eta {r : Res} (h : r.e = 0) : (⟨⟨r.s.lo, r.s.hi⟩, 0⟩ : Res) = r := by
  cases r
  simp only at h
  subst h
  rfl
theorem radio_kind {m : Radio} (h : m.okB = true) : 0 ≤ m.kind ∧ m.kind ≤ 3 := by
  unfold Radio.okB at h
  simp only [Bool.and_eq_true, decide_eq_true_eq] at h
  exact ⟨h.1.1.1.1, h.1.1.1.2⟩
theorem reading_no {s : State} {m : Radio} (h : (s.okB && m.okB) = false) : readingR s m = errR 2 := by unfold readingR; rw [h]; rfl
theorem reading_yes {s : State} {m : Radio} (h : s.okB = true) (h2 : m.okB = true) : readingR s m = clean (readR s m) := by unfold readingR; rw [h, h2]; rfl
theorem navReading_any (s : State) (m : Radio) [hp : B64 s.p] [hv : B64 s.v] [hf : B64 m.place] [hd : B64 m.dir] (w : World) : Calls Try.prog 29 #[.agg #[.int .i64 s.t, .int .i64 s.p.x.lo, .int .i64 s.p.x.hi, .int .i64 s.p.y.lo, .int .i64 s.p.y.hi, .int .i64 s.p.z.lo, .int .i64 s.p.z.hi, .int .i64 s.v.x.lo, .int .i64 s.v.x.hi, .int .i64 s.v.y.lo, .int .i64 s.v.y.hi, .int .i64 s.v.z.lo, .int .i64 s.v.z.hi, .int .i64 s.m.lo, .int .i64 s.m.hi], .agg #[.int .i64 m.kind, .int .i64 m.place.x.lo, .int .i64 m.place.x.hi, .int .i64 m.place.y.lo, .int .i64 m.place.y.hi, .int .i64 m.place.z.lo, .int .i64 m.place.z.hi, .int .i64 m.dir.x.lo, .int .i64 m.dir.x.hi, .int .i64 m.dir.y.lo, .int .i64 m.dir.y.hi, .int .i64 m.dir.z.lo, .int .i64 m.dir.z.hi, .int .i64 m.value.lo, .int .i64 m.value.hi]] w fun e w' => e = .returned (.tuple #[.agg #[.int .i64 (readingR s m).s.lo, .int .i64 (readingR s m).s.hi], .int .i64 (readingR s m).e]) ∧ Grew w w' := by
  have HS := Lib.hid (fun w' => flState_any s w')
  have HR := Lib.hid (fun w' => navRadio_any m w')
  cases h1 : s.okB
  · have HF := Lib.hid (reading_no (s := s) (m := m) (by rw [h1]; rfl))
    have HS2 := Lib.hid (fun w' => is_int (show codeB s.okB 2 = 2 by rw [h1]; rfl) (HS.out w'))
    clear HS HR h1
    go_enter Try.func29, Try.ntmps29
    go_wp2_with (first | (go_at_call 43; (with_reducible refine call_later (HS2.out _) ?_); intro u))
    refine bodyPost_ret (by (simp [results, Try.results29, go_sem] <;> rfl)) rfl ?_
    exact ⟨ret_err HF.out.symm rfl, gw⟩
  have HS2 := Lib.hid (fun w' => is_int (show codeB s.okB 2 = 0 by rw [h1]; rfl) (HS.out w'))
  cases h2 : m.okB
  · have HF := Lib.hid (reading_no (s := s) (m := m) (by rw [h2, Bool.and_false]))
    have HR2 := Lib.hid (fun w' => is_int (show codeB m.okB 2 = 2 by rw [h2]; rfl) (HR.out w'))
    clear HS HR h1 h2
    go_enter Try.func29, Try.ntmps29
    go_wp2_with (first | (go_at_call 43; (with_reducible refine call_later (HS2.out _) ?_); intro u) | (go_at_call 12; (with_reducible refine call_later (HR2.out _) ?_); intro u))
    refine bodyPost_ret (by (simp [results, Try.results29, go_sem] <;> rfl)) rfl ?_
    exact ⟨ret_err HF.out.symm rfl, gw⟩
  have HR2 := Lib.hid (fun w' => is_int (show codeB m.okB 2 = 0 by rw [h2]; rfl) (HR.out w'))
  have HF := Lib.hid (reading_yes h1 h2)
  have hk := radio_kind h2
  have HC := Lib.hid (fun W b1 b2 b3 h1 h2 h3 => readClo_any s m hk.1 hk.2 W b1 b2 b3 h1 h2 h3)
  have hmf : ∀ (fn : Fn) (first cap : Array Value) (w : World), (Instr.makeFunc fn first cap).run Try.prog w = .ok (.func fn first cap) w := fun _ _ _ _ => rfl
  have B1 := Lib.hid (fun W' (g : Grew (w.alloc (.cells #[.int .i64 s.t, .int .i64 s.p.x.lo, .int .i64 s.p.x.hi, .int .i64 s.p.y.lo, .int .i64 s.p.y.hi, .int .i64 s.p.z.lo, .int .i64 s.p.z.hi, .int .i64 s.v.x.lo, .int .i64 s.v.x.hi, .int .i64 s.v.y.lo, .int .i64 s.v.y.hi, .int .i64 s.v.z.lo, .int .i64 s.v.z.hi, .int .i64 s.m.lo, .int .i64 s.m.hi] 43)) W') => (BoxAt.fresh (w := w) (m := w.heap.size) [.int .i64 s.t, .int .i64 s.p.x.lo, .int .i64 s.p.x.hi, .int .i64 s.p.y.lo, .int .i64 s.p.y.hi, .int .i64 s.p.z.lo, .int .i64 s.p.z.hi, .int .i64 s.v.x.lo, .int .i64 s.v.x.hi, .int .i64 s.v.y.lo, .int .i64 s.v.y.hi, .int .i64 s.v.z.lo, .int .i64 s.v.z.hi, .int .i64 s.m.lo, .int .i64 s.m.hi] 43).grew (by simp) g)
  have B2 := Lib.hid (fun W' (g : Grew ((w.alloc (.cells #[.int .i64 s.t, .int .i64 s.p.x.lo, .int .i64 s.p.x.hi, .int .i64 s.p.y.lo, .int .i64 s.p.y.hi, .int .i64 s.p.z.lo, .int .i64 s.p.z.hi, .int .i64 s.v.x.lo, .int .i64 s.v.x.hi, .int .i64 s.v.y.lo, .int .i64 s.v.y.hi, .int .i64 s.v.z.lo, .int .i64 s.v.z.hi, .int .i64 s.m.lo, .int .i64 s.m.hi] 43)).alloc (.cells #[.int .i64 m.kind, .int .i64 m.place.x.lo, .int .i64 m.place.x.hi, .int .i64 m.place.y.lo, .int .i64 m.place.y.hi, .int .i64 m.place.z.lo, .int .i64 m.place.z.hi, .int .i64 m.dir.x.lo, .int .i64 m.dir.x.hi, .int .i64 m.dir.y.lo, .int .i64 m.dir.y.hi, .int .i64 m.dir.z.lo, .int .i64 m.dir.z.hi, .int .i64 m.value.lo, .int .i64 m.value.hi] 49)) W') => (BoxAt.fresh (w := w.alloc (.cells #[.int .i64 s.t, .int .i64 s.p.x.lo, .int .i64 s.p.x.hi, .int .i64 s.p.y.lo, .int .i64 s.p.y.hi, .int .i64 s.p.z.lo, .int .i64 s.p.z.hi, .int .i64 s.v.x.lo, .int .i64 s.v.x.hi, .int .i64 s.v.y.lo, .int .i64 s.v.y.hi, .int .i64 s.v.z.lo, .int .i64 s.v.z.hi, .int .i64 s.m.lo, .int .i64 s.m.hi] 43)) (m := w.heap.size + 1) [.int .i64 m.kind, .int .i64 m.place.x.lo, .int .i64 m.place.x.hi, .int .i64 m.place.y.lo, .int .i64 m.place.y.hi, .int .i64 m.place.z.lo, .int .i64 m.place.z.hi, .int .i64 m.dir.x.lo, .int .i64 m.dir.x.hi, .int .i64 m.dir.y.lo, .int .i64 m.dir.y.hi, .int .i64 m.dir.z.lo, .int .i64 m.dir.z.hi, .int .i64 m.value.lo, .int .i64 m.value.hi] 49).grew (by simp) g)
  have B3 := Lib.hid (fun W' (g : Grew (((w.alloc (.cells #[.int .i64 s.t, .int .i64 s.p.x.lo, .int .i64 s.p.x.hi, .int .i64 s.p.y.lo, .int .i64 s.p.y.hi, .int .i64 s.p.z.lo, .int .i64 s.p.z.hi, .int .i64 s.v.x.lo, .int .i64 s.v.x.hi, .int .i64 s.v.y.lo, .int .i64 s.v.y.hi, .int .i64 s.v.z.lo, .int .i64 s.v.z.hi, .int .i64 s.m.lo, .int .i64 s.m.hi] 43)).alloc (.cells #[.int .i64 m.kind, .int .i64 m.place.x.lo, .int .i64 m.place.x.hi, .int .i64 m.place.y.lo, .int .i64 m.place.y.hi, .int .i64 m.place.z.lo, .int .i64 m.place.z.hi, .int .i64 m.dir.x.lo, .int .i64 m.dir.x.hi, .int .i64 m.dir.y.lo, .int .i64 m.dir.y.hi, .int .i64 m.dir.z.lo, .int .i64 m.dir.z.hi, .int .i64 m.value.lo, .int .i64 m.value.hi] 49)).alloc (.cells #[.int .i64 0, .int .i64 0] 39)) W') => (BoxAt.fresh (w := (w.alloc (.cells #[.int .i64 s.t, .int .i64 s.p.x.lo, .int .i64 s.p.x.hi, .int .i64 s.p.y.lo, .int .i64 s.p.y.hi, .int .i64 s.p.z.lo, .int .i64 s.p.z.hi, .int .i64 s.v.x.lo, .int .i64 s.v.x.hi, .int .i64 s.v.y.lo, .int .i64 s.v.y.hi, .int .i64 s.v.z.lo, .int .i64 s.v.z.hi, .int .i64 s.m.lo, .int .i64 s.m.hi] 43)).alloc (.cells #[.int .i64 m.kind, .int .i64 m.place.x.lo, .int .i64 m.place.x.hi, .int .i64 m.place.y.lo, .int .i64 m.place.y.hi, .int .i64 m.place.z.lo, .int .i64 m.place.z.hi, .int .i64 m.dir.x.lo, .int .i64 m.dir.x.hi, .int .i64 m.dir.y.lo, .int .i64 m.dir.y.hi, .int .i64 m.dir.z.lo, .int .i64 m.dir.z.hi, .int .i64 m.value.lo, .int .i64 m.value.hi] 49)) (m := w.heap.size + 1 + 1) [.int .i64 0, .int .i64 0] 39).grew (by simp) g)
  have HX := Lib.hid (enters_of Try.func45 (by kernel_rfl) rfl)
  clear HS HR h1 h2 hk
  generalize readR s m = r at *
  go_enter Try.func29, Try.ntmps29
  go_wp2_with (first | (go_at_call 43; (with_reducible refine call_later (HS2.out _) ?_); intro u) | (go_at_call 12; (with_reducible refine call_later (HR2.out _) ?_); intro u) | (go_at_call 44; go_loud (refine (tried_any 45 _ HX.out _ _ (HC.out _ _ _ _ (B1.out _ gw) (B2.out _ gw) (B3.out _ gw))).mono ?_; rintro e w9 ⟨o, w8, hq, rfl, rfl⟩; rcases o with _ | c; all_goals (first | (obtain ⟨hz, u9, rfl⟩ := hq; have Hz := Lib.hid hz; clear hz; dsimp only [triedW, Option.getD]) | (obtain ⟨hz, rfl, u9, rfl⟩ := hq; have Hz := Lib.hid hz; clear hz; dsimp only [triedW, Option.getD])))))
  · refine bodyPost_ret (by (simp [results, Try.results29, go_sem] <;> rfl)) rfl ?_
    exact ⟨ret_res (by rw [HF.out, clean_ok Hz.out]; exact res_eta Hz.out), gw⟩
  · refine bodyPost_ret (by (simp [results, Try.results29, go_sem] <;> rfl)) rfl ?_
    exact ⟨ret_err (by rw [HF.out, clean_bad Hz.out]) rfl, gw⟩
end Go.Proofs.Ytdkfkalplmgoeaa
