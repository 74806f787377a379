/-
  NavKeeps: of any true place and velocity, any list of measurements and any number of rounds: the walk of ullagelaw06.NavKeeps.
-/
import Derived.Test.YtehllellaecfbaaNavOuts
import Derived.Test.YtehllellaecfbaaNavKept
import Derived.Test.YtehllellaecfbaaNavTruly
import Derived.Deep.DeepCutAuto
import Derived.Deep.CutBlock
namespace Go.Proofs.Ytehllellaecfbaa
open Go.RowKit Go.Shelf
set_option maxRecDepth 100000
set_option maxHeartbeats 16000000
theorem ra64_list {t : State} {l : List Radio} (hT : ∀ m ∈ l, Ra64 m) {L : List Radio} (h1 : ∀ m ∈ L, ∃ (j : Nat) (hj : j < l.length), m = heardM t l[j] j) (h2 : ∀ m ∈ L, Heard t m) : ∀ m ∈ L, Ra64 m := fun m hm => by
  obtain ⟨j, hj, e⟩ := h1 m hm
  have hx := (h2 m hm).ok
  have hr := hT _ (List.getElem_mem hj)
  have hv := okB_num (okB_list hx.1).2.2
  have hh := hx.2
  subst e
  exact ra64_heard t l[j] j ⟨⟨by omega, by omega⟩, ⟨by omega, by omega⟩⟩
theorem keeps_walk (x : Tr) (hx : x.Ok) (l : List Radio) (r : Int) (hr0 : 0 ≤ r) (hr1 : r ≤ 255) (hT : ∀ m ∈ l, Ra64 m) (ao : Option Addr) (cap : Nat) (w : World) (hs : SlAt w (.slice ao l.length cap) l.length (l.flatMap Radio.cells)) :
    Calls Try.prog 6 #[.agg x.cells.toArray, .slice ao l.length cap, .int .u8 r] w fun e w' => e = .returned (.bool true) ∧ Grew w w' := by
  have hm := hs.len_le
  unfold maxLen at hm
  have Hs := Lib.hid hs
  have HA := Lib.hid (fun w => l6About_any x hx w)
  clear hs hx
  by_cases hl : 6 < l.length
  · have hl' : (6 : Int) < l.length := by omega
    clear hl
    go_enter Try.func6, Try.ntmps6
    go_wp2_with (first | (go_at_call 12; (with_reducible refine call_later (l6Alive_any _) ?_); intro u) | ((with_reducible refine wpList_load_rng ?_ ?_ ?_ ?_ ?_ ?_ ?_ ?_ ?_ ?_ ?_ ?_); rotate_left 6; (· rfl); (· rfl); (· rfl); (· infer_instance); (· infer_instance)) | ((with_reducible refine wpList_load_is ?_ ?_ ?_ ?_ ?_ ?_ ?_ ?_ ?_ ?_ ?_ ?_ ?_); rotate_left 6; (· rfl); (· rfl); (· rfl); (· infer_instance); (· infer_instance); (· rfl)) | ((with_reducible refine wpList_store_fresh ?_ ?_ ?_ ?_ ?_ ?_ ?_ ?_ ?_ ?_ ?_ ?_ ?_ ?_ ?_ ?_ ?_); rotate_left 5; (· rfl); (· rfl); (· rfl); (· rfl); (· rfl); (· infer_instance); (· infer_instance); (· infer_instance); (· infer_instance)) | ((with_reducible refine wpList_store_is ?_ ?_ ?_ ?_ ?_ ?_ ?_ ?_ ?_ ?_ ?_ ?_ ?_ ?_ ?_ ?_ ?_); rotate_left 7; (· rfl); (· rfl); (· rfl); (· rfl); (· rfl); (· infer_instance); (· infer_instance); (· infer_instance); (· infer_instance)) | ((with_reducible refine wp_region_later ?_ ?_ ?_); (· kernel_rfl); (· kernel_rfl); (try simp only [List.append_eq, List.cons_append, List.nil_append]); (repeat (go_big_quiet_step ((first | (go_at_call 12; (with_reducible exact call_quiet (l6Alive_any _))))))); refine wpQuiet_nil ?_; rintro _ ⟨u, rfl⟩))
    go_ret
    exact ⟨rfl, gw⟩
  have hl' : ¬ ((6 : Int) < l.length) := by omega
  have hH := Lib.hid (fun (t : State) (ht : Pv64 t) w' (g : Grew w w') => l6Heard_any t l (ht := ht) hT (by omega) ao cap w' (Hs.out.grew g))
  have HT := Lib.hid hT
  have HF := Lib.hid (heard_from)
  have HAll := Lib.hid (fun (s t : State) (u v : V3) (h : About s t u v) => heard_all h l l.length)
  have HLen := Lib.hid (fun t => heard_len t l l.length)
  clear hl hT
  go_enter Try.func6, Try.ntmps6
  go_upto_block 0 with (first | (go_at_call 12; (with_reducible refine call_later (l6Alive_any _) ?_); intro ua) | (go_at_call 13; refine (HA.out _).mono ?_; rintro e w' ⟨s, t, u, v, hA, hs64, ht64, rfl, hg1⟩; obtain ⟨z1, rfl⟩ := later_of hg1; have hA' := Lib.hid hA; have ap1 : Apart z1.world.heap.size (z1.world.heap.size + 1) := ⟨by omega⟩; have ap2 : Apart (z1.world.heap.size + 1) z1.world.heap.size := ⟨by omega⟩; clear hg1 hA) | (go_at_call 17; go_loud (refine (hH.out t ht64 _ (by repeat (first | with_reducible exact Grew.refl _ | with_reducible apply Grew.alloc | with_reducible apply Grew.later | with_reducible apply Grew.drew | with_reducible apply Grew.setRow | with_reducible apply Grew.store | with_reducible assumption))).mono ?_; rintro e w' ⟨ao2, cap2, rfl, hs2, hg2⟩; obtain ⟨z2, rfl⟩ := later_of hg2; have Hs2 := Lib.hid hs2; clear hg2 hs2)) | ((with_reducible refine wpList_load_rng ?_ ?_ ?_ ?_ ?_ ?_ ?_ ?_ ?_ ?_ ?_ ?_); rotate_left 6; (· rfl); (· rfl); (· rfl); (· infer_instance); (· infer_instance)) | ((with_reducible refine wpList_load_is ?_ ?_ ?_ ?_ ?_ ?_ ?_ ?_ ?_ ?_ ?_ ?_ ?_); rotate_left 6; (· rfl); (· rfl); (· rfl); (· infer_instance); (· infer_instance); (· rfl)) | ((with_reducible refine wpList_store_fresh ?_ ?_ ?_ ?_ ?_ ?_ ?_ ?_ ?_ ?_ ?_ ?_ ?_ ?_ ?_ ?_ ?_); rotate_left 5; (· rfl); (· rfl); (· rfl); (· rfl); (· rfl); (· infer_instance); (· infer_instance); (· infer_instance); (· infer_instance)) | ((with_reducible refine wpList_store_is ?_ ?_ ?_ ?_ ?_ ?_ ?_ ?_ ?_ ?_ ?_ ?_ ?_ ?_ ?_ ?_ ?_); rotate_left 7; (· rfl); (· rfl); (· rfl); (· rfl); (· rfl); (· infer_instance); (· infer_instance); (· infer_instance); (· infer_instance)))
  refine wp_to_later (z := w) (by repeat (first | with_reducible exact Grew.refl _ | with_reducible apply Grew.alloc | with_reducible apply Grew.later | with_reducible apply Grew.drew | with_reducible apply Grew.setRow | with_reducible apply Grew.store | with_reducible assumption)) ?_
  intro W hW
  have r8 : RowIs W.world z1.world.heap.size 45 s.cells := by rw [hW]; infer_instance
  have r9 : RowIs W.world (z1.world.heap.size + 1) 45 t.cells := by rw [hW]; infer_instance
  have hsl : SlAt W.world (.slice ao2 (heardL t l).length cap2) (heardL t l).length ((heardL t l).flatMap Radio.cells) := by rw [hW]; exact Hs2.out
  have hh := HAll.out s t u v hA'.out
  have hra := ra64_list HT.out (HF.out t l l.length) hh
  have hln := HLen.out t
  have hln2 : (heardL t l).length ≤ 6 := Nat.le_trans hln (by omega)
  clear hW Hs2 ap1 ap2 hln HAll HF HLen HT hH HA
  have i8 := r8.blockIn
  have i9 := r9.blockIn
  generalize z1.world.heap.size = q8 at *
  change ∀ m ∈ heardL t l, Heard t m at hh
  change ∀ m ∈ heardL t l, Ra64 m at hra
  generalize heardL t l = L at *
  have Hh := Lib.hid hh
  have Hra := Lib.hid hra
  have Hsl := Lib.hid hsl
  obtain ⟨ao3, cap3, e3, -, hx⟩ := hsl
  cases e3
  have HE := Lib.hid (SlAt.elem (f := Radio.cells) (c := 15) (fun _ => rfl) (by omega) hx)
  clear hx hh hra
  go_cut [] (fun wx => Grew W.world wx)
  case first =>
    go_wp2
    go_loopw [37] (fun j wr => ∃ k : Nat, j = .int .i64 k ∧ k ≤ L.length ∧ Grew W.world wr) (fun j _ => L.length - (intOf j).toNat)
    case atStart => exact ⟨0, rfl, by omega, gw⟩
    case round =>
      obtain ⟨k, rfl, hk, hg⟩ := hrel
      obtain ⟨z, rfl⟩ := later_of hg
      clear hg
      by_cases hlt : k < L.length
      · obtain ⟨b1, o1, e1, i1, hd1, hd2⟩ := HE.out k hlt
        cases e1
        have j1 : BlockIn W.world b1 := ⟨i1⟩
        have hc0 := hd1 _ rfl
        have hc1 := hd2 1 _ rfl
        have hcA : ∀ (i : Nat) (v : Value), (Radio.cells L[k])[i]? = some v → W.world.cell? ⟨b1, o1 + k * 15 + i, none⟩ = some v := fun i v h => hd2 i v h
        have hc2 := hd2 2 _ rfl
        have hc3 := hd2 3 _ rfl
        have hc4 := hd2 4 _ rfl
        have hc5 := hd2 5 _ rfl
        have hc6 := hd2 6 _ rfl
        have hc7 := hd2 7 _ rfl
        have hc8 := hd2 8 _ rfl
        have hc9 := hd2 9 _ rfl
        have hc10 := hd2 10 _ rfl
        have hc11 := hd2 11 _ rfl
        have hc12 := hd2 12 _ rfl
        have hc13 := hd2 13 _ rfl
        have hc14 := hd2 14 _ rfl
        clear hd1 hd2
        have hH := Hh.out _ (List.getElem_mem hlt)
        have hR := Hra.out _ (List.getElem_mem hlt)
        generalize L[k] = m at *
        obtain ⟨k7, k0⟩ := keeps_cut hA'.out hH
        obtain ⟨g1, g2⟩ := agrees_ge hA'.out hH
        have HC := Lib.hid (fun w => show Calls Try.prog 19 #[.agg #[.int .i64 s.t, .int .i64 s.p.x.lo, .int .i64 s.p.x.hi, .int .i64 s.p.y.lo, .int .i64 s.p.y.hi, .int .i64 s.p.z.lo, .int .i64 s.p.z.hi, .int .i64 s.v.x.lo, .int .i64 s.v.x.hi, .int .i64 s.v.y.lo, .int .i64 s.v.y.hi, .int .i64 s.v.z.lo, .int .i64 s.v.z.hi, .int .i64 s.m.lo, .int .i64 s.m.hi], .agg #[.int .i64 m.kind, .int .i64 m.place.x.lo, .int .i64 m.place.x.hi, .int .i64 m.place.y.lo, .int .i64 m.place.y.hi, .int .i64 m.place.z.lo, .int .i64 m.place.z.hi, .int .i64 m.dir.x.lo, .int .i64 m.dir.x.hi, .int .i64 m.dir.y.lo, .int .i64 m.dir.y.hi, .int .i64 m.dir.z.lo, .int .i64 m.dir.z.hi, .int .i64 m.value.lo, .int .i64 m.value.hi]] w fun e w' => e = .returned (.tuple #[.agg #[.int .i64 ((cutRR s m).s).t, .int .i64 ((cutRR s m).s).p.x.lo, .int .i64 ((cutRR s m).s).p.x.hi, .int .i64 ((cutRR s m).s).p.y.lo, .int .i64 ((cutRR s m).s).p.y.hi, .int .i64 ((cutRR s m).s).p.z.lo, .int .i64 ((cutRR s m).s).p.z.hi, .int .i64 ((cutRR s m).s).v.x.lo, .int .i64 ((cutRR s m).s).v.x.hi, .int .i64 ((cutRR s m).s).v.y.lo, .int .i64 ((cutRR s m).s).v.y.hi, .int .i64 ((cutRR s m).s).v.z.lo, .int .i64 ((cutRR s m).s).v.z.hi, .int .i64 ((cutRR s m).s).m.lo, .int .i64 ((cutRR s m).s).m.hi], .int .i64 (cutRR s m).e]) ∧ Grew w w' from navCutT_any s m w)
        have G1 := Lib.hid (fun w => show Calls Try.prog 21 #[.agg #[.int .i64 t.t, .int .i64 t.p.x.lo, .int .i64 t.p.x.hi, .int .i64 t.p.y.lo, .int .i64 t.p.y.hi, .int .i64 t.p.z.lo, .int .i64 t.p.z.hi, .int .i64 t.v.x.lo, .int .i64 t.v.x.hi, .int .i64 t.v.y.lo, .int .i64 t.v.y.hi, .int .i64 t.v.z.lo, .int .i64 t.v.z.hi, .int .i64 t.m.lo, .int .i64 t.m.hi], .agg #[.int .i64 m.kind, .int .i64 m.place.x.lo, .int .i64 m.place.x.hi, .int .i64 m.place.y.lo, .int .i64 m.place.y.hi, .int .i64 m.place.z.lo, .int .i64 m.place.z.hi, .int .i64 m.dir.x.lo, .int .i64 m.dir.x.hi, .int .i64 m.dir.y.lo, .int .i64 m.dir.y.hi, .int .i64 m.dir.z.lo, .int .i64 m.dir.z.hi, .int .i64 m.value.lo, .int .i64 m.value.hi]] w fun e w' => e = .returned (.int .i64 (agreesN t m)) ∧ Grew w w' from navAgrees_any t m w)
        have G2 := Lib.hid (fun w => show Calls Try.prog 21 #[.agg #[.int .i64 s.t, .int .i64 s.p.x.lo, .int .i64 s.p.x.hi, .int .i64 s.p.y.lo, .int .i64 s.p.y.hi, .int .i64 s.p.z.lo, .int .i64 s.p.z.hi, .int .i64 s.v.x.lo, .int .i64 s.v.x.hi, .int .i64 s.v.y.lo, .int .i64 s.v.y.hi, .int .i64 s.v.z.lo, .int .i64 s.v.z.hi, .int .i64 s.m.lo, .int .i64 s.m.hi], .agg #[.int .i64 m.kind, .int .i64 m.place.x.lo, .int .i64 m.place.x.hi, .int .i64 m.place.y.lo, .int .i64 m.place.y.hi, .int .i64 m.place.z.lo, .int .i64 m.place.z.hi, .int .i64 m.dir.x.lo, .int .i64 m.dir.x.hi, .int .i64 m.dir.y.lo, .int .i64 m.dir.y.hi, .int .i64 m.dir.z.lo, .int .i64 m.dir.z.hi, .int .i64 m.value.lo, .int .i64 m.value.hi]] w fun e w' => e = .returned (.int .i64 (agreesN s m)) ∧ Grew w w' from navAgrees_any s m w)
        generalize agreesN t m = a1 at *
        generalize agreesN s m = a2 at *
        generalize hcr : (cutRR s m).s = cs at *
        generalize hce : (cutRR s m).e = ce at *
        clear hcr hce hH Hh Hra
        have g1' : decide (a1 < 0) = false := by simp; omega
        have g2' : decide (a2 < 0) = false := by simp; omega
        have t7 : (ce == 7) = false := by simp [k7]
        clear g1 g2 k7
        go_upto_region 9 with (fail)
        refine keeps_r9 s cs m ce q8 b1 o1 L.length cap2 k _ hlt (fun i v h => z.grew.cell (hcA i v h)) HC.out _ _ _ _ _ _ _ _ _ _ _ _ _ _ _ _ _ _ _ _ _ _ _ _ _ _ _ _ _ _ _ _ _ _ _ _ _ _ _ _ _ _ _ _ _ _ _ _ _ _ _ _ _ _ _ _ _ _ _ _ _ _ _ _ _ _ _ _ _ _ _ _ _ _ _ _ _ _ _ _ _ _ _ _ _ _ _ _ _ _ _ _ _ _ _ _ _ _ _ _ _ _ _ _ _ _ _ _ _ _ _ ?_
        intro wx q12 x40 x41 x42 x43 x44 x45 x46 x47 x48 gz r12
        dsimp only
        have i12 := r12.blockIn
        obtain ⟨z3, rfl⟩ := later_of gz
        clear gz HC
        go_upto_region 10 with (fail)
        go_cut [66] (fun cd wx => cd = .bool false ∧ Grew z3.world wx)
        case first =>
          by_cases hz : ce = 0
          · obtain ⟨h1, h2⟩ := k0 hz
            have H1 := Lib.hid (fun w => show Calls Try.prog 20 #[.agg #[.int .i64 cs.t, .int .i64 cs.p.x.lo, .int .i64 cs.p.x.hi, .int .i64 cs.p.y.lo, .int .i64 cs.p.y.hi, .int .i64 cs.p.z.lo, .int .i64 cs.p.z.hi, .int .i64 cs.v.x.lo, .int .i64 cs.v.x.hi, .int .i64 cs.v.y.lo, .int .i64 cs.v.y.hi, .int .i64 cs.v.z.lo, .int .i64 cs.v.z.hi, .int .i64 cs.m.lo, .int .i64 cs.m.hi], .agg #[.int .i64 t.t, .int .i64 t.p.x.lo, .int .i64 t.p.x.hi, .int .i64 t.p.y.lo, .int .i64 t.p.y.hi, .int .i64 t.p.z.lo, .int .i64 t.p.z.hi, .int .i64 t.v.x.lo, .int .i64 t.v.x.hi, .int .i64 t.v.y.lo, .int .i64 t.v.y.hi, .int .i64 t.v.z.lo, .int .i64 t.v.z.hi, .int .i64 t.m.lo, .int .i64 t.m.hi]] w fun e w' => e = .returned (.bool true) ∧ Grew w w' from is_bool h1 (l6Has_any cs t w))
            have H2 := Lib.hid (fun w => show Calls Try.prog 15 #[.agg #[.int .i64 cs.t, .int .i64 cs.p.x.lo, .int .i64 cs.p.x.hi, .int .i64 cs.p.y.lo, .int .i64 cs.p.y.hi, .int .i64 cs.p.z.lo, .int .i64 cs.p.z.hi, .int .i64 cs.v.x.lo, .int .i64 cs.v.x.hi, .int .i64 cs.v.y.lo, .int .i64 cs.v.y.hi, .int .i64 cs.v.z.lo, .int .i64 cs.v.z.hi, .int .i64 cs.m.lo, .int .i64 cs.m.hi], .agg #[.int .i64 s.t, .int .i64 s.p.x.lo, .int .i64 s.p.x.hi, .int .i64 s.p.y.lo, .int .i64 s.p.y.hi, .int .i64 s.p.z.lo, .int .i64 s.p.z.hi, .int .i64 s.v.x.lo, .int .i64 s.v.x.hi, .int .i64 s.v.y.lo, .int .i64 s.v.y.hi, .int .i64 s.v.z.lo, .int .i64 s.v.z.hi, .int .i64 s.m.lo, .int .i64 s.m.hi]] w fun e w' => e = .returned (.bool true) ∧ Grew w w' from is_bool h2 (l6Within_any cs s w))
            have t0 : (ce == 0) = true := by simp [hz]
            clear h1 h2 k0 hz
            go_wp2_with (first | (go_at_call 20; (with_reducible refine call_later (H1.out _) ?_); intro u1) | (go_at_call 15; (with_reducible refine call_later (H2.out _) ?_); intro u2) | ((with_reducible refine wpList_load_rng ?_ ?_ ?_ ?_ ?_ ?_ ?_ ?_ ?_ ?_ ?_ ?_); rotate_left 6; (· rfl); (· rfl); (· rfl); (· infer_instance); (· infer_instance)) | ((with_reducible refine wpList_load_is ?_ ?_ ?_ ?_ ?_ ?_ ?_ ?_ ?_ ?_ ?_ ?_ ?_); rotate_left 6; (· rfl); (· rfl); (· rfl); (· infer_instance); (· infer_instance); (· rfl)) | ((with_reducible refine wpList_store_fresh ?_ ?_ ?_ ?_ ?_ ?_ ?_ ?_ ?_ ?_ ?_ ?_ ?_ ?_ ?_ ?_ ?_); rotate_left 5; (· rfl); (· rfl); (· rfl); (· rfl); (· rfl); (· infer_instance); (· infer_instance); (· infer_instance); (· infer_instance)) | ((with_reducible refine wpList_store_is ?_ ?_ ?_ ?_ ?_ ?_ ?_ ?_ ?_ ?_ ?_ ?_ ?_ ?_ ?_ ?_ ?_); rotate_left 7; (· rfl); (· rfl); (· rfl); (· rfl); (· rfl); (· infer_instance); (· infer_instance); (· infer_instance); (· infer_instance)))
            go_meet
            case rel => exact ⟨rfl, gw⟩
          · have t0 : (ce == 0) = false := by simp [hz]
            clear k0 hz
            go_wp2
            go_meet
            case rel => exact ⟨rfl, gw⟩
        case rest =>
        obtain ⟨rfl, hcut⟩ := hcut
        obtain ⟨z4, rfl⟩ := later_of hcut
        clear hcut k0 t7
        go_wp2_with (first | (go_at_call 21; (with_reducible refine call_later (G1.out _) ?_); intro u) | (go_at_call 21; (with_reducible refine call_later (G2.out _) ?_); intro u) | ((with_reducible refine wp_region_later ?_ ?_ ?_); (· kernel_rfl); (· kernel_rfl); (try simp only [List.append_eq, List.cons_append, List.nil_append]); (repeat (go_big_quiet_step ((first | (go_at_call 21; (with_reducible exact call_quiet (G1.out _))) | (go_at_call 21; (with_reducible exact call_quiet (G2.out _))))))); refine wpQuiet_nil ?_; rintro _ ⟨u, rfl⟩))
        go_roundw
        case rel => exact ⟨k + 1, by go_num, by omega, gw⟩
        case measure => simp [intOf]; omega
      · obtain rfl : k = L.length := by omega
        go_wp2
        go_meet
        case rel => exact gw
  case rest =>
  obtain ⟨z, rfl⟩ := later_of hcut
  clear hcut HE
  obtain ⟨f1, f2, f3, f4⟩ := keeps_fuse hA'.out (L := L) (by omega) Hh.out (n := r % 17) (by omega) (by omega)
  have HF := Lib.hid (fun w' (g : Grew W.world w') => show Calls Try.prog 14 #[.agg s.cells.toArray, .slice ao2 L.length cap2, .int .i64 (r % 17)] w' (fun e w'' => e = .returned (.tuple #[.agg (fuseRR s L (r % 17)).s.cells.toArray, .int .i64 (fuseRR s L (r % 17)).n, .int .i64 (fuseRR s L (r % 17)).e]) ∧ Grew w' w'') from navFuseT_any s L (r % 17) Hra.out ao2 cap2 w' (Hsl.out.grew g))
  have H1 := Lib.hid (fun w => show Calls Try.prog 20 #[.agg #[.int .i64 ((fuseRR s L (r % 17)).s).t, .int .i64 ((fuseRR s L (r % 17)).s).p.x.lo, .int .i64 ((fuseRR s L (r % 17)).s).p.x.hi, .int .i64 ((fuseRR s L (r % 17)).s).p.y.lo, .int .i64 ((fuseRR s L (r % 17)).s).p.y.hi, .int .i64 ((fuseRR s L (r % 17)).s).p.z.lo, .int .i64 ((fuseRR s L (r % 17)).s).p.z.hi, .int .i64 ((fuseRR s L (r % 17)).s).v.x.lo, .int .i64 ((fuseRR s L (r % 17)).s).v.x.hi, .int .i64 ((fuseRR s L (r % 17)).s).v.y.lo, .int .i64 ((fuseRR s L (r % 17)).s).v.y.hi, .int .i64 ((fuseRR s L (r % 17)).s).v.z.lo, .int .i64 ((fuseRR s L (r % 17)).s).v.z.hi, .int .i64 ((fuseRR s L (r % 17)).s).m.lo, .int .i64 ((fuseRR s L (r % 17)).s).m.hi], .agg #[.int .i64 t.t, .int .i64 t.p.x.lo, .int .i64 t.p.x.hi, .int .i64 t.p.y.lo, .int .i64 t.p.y.hi, .int .i64 t.p.z.lo, .int .i64 t.p.z.hi, .int .i64 t.v.x.lo, .int .i64 t.v.x.hi, .int .i64 t.v.y.lo, .int .i64 t.v.y.hi, .int .i64 t.v.z.lo, .int .i64 t.v.z.hi, .int .i64 t.m.lo, .int .i64 t.m.hi]] w fun e w' => e = .returned (.bool true) ∧ Grew w w' from is_bool f2 (l6Has_any (fuseRR s L (r % 17)).s t w))
  have H2 := Lib.hid (fun w => show Calls Try.prog 15 #[.agg #[.int .i64 ((fuseRR s L (r % 17)).s).t, .int .i64 ((fuseRR s L (r % 17)).s).p.x.lo, .int .i64 ((fuseRR s L (r % 17)).s).p.x.hi, .int .i64 ((fuseRR s L (r % 17)).s).p.y.lo, .int .i64 ((fuseRR s L (r % 17)).s).p.y.hi, .int .i64 ((fuseRR s L (r % 17)).s).p.z.lo, .int .i64 ((fuseRR s L (r % 17)).s).p.z.hi, .int .i64 ((fuseRR s L (r % 17)).s).v.x.lo, .int .i64 ((fuseRR s L (r % 17)).s).v.x.hi, .int .i64 ((fuseRR s L (r % 17)).s).v.y.lo, .int .i64 ((fuseRR s L (r % 17)).s).v.y.hi, .int .i64 ((fuseRR s L (r % 17)).s).v.z.lo, .int .i64 ((fuseRR s L (r % 17)).s).v.z.hi, .int .i64 ((fuseRR s L (r % 17)).s).m.lo, .int .i64 ((fuseRR s L (r % 17)).s).m.hi], .agg #[.int .i64 s.t, .int .i64 s.p.x.lo, .int .i64 s.p.x.hi, .int .i64 s.p.y.lo, .int .i64 s.p.y.hi, .int .i64 s.p.z.lo, .int .i64 s.p.z.hi, .int .i64 s.v.x.lo, .int .i64 s.v.x.hi, .int .i64 s.v.y.lo, .int .i64 s.v.y.hi, .int .i64 s.v.z.lo, .int .i64 s.v.z.hi, .int .i64 s.m.lo, .int .i64 s.m.hi]] w fun e w' => e = .returned (.bool true) ∧ Grew w w' from is_bool f3 (l6Within_any (fuseRR s L (r % 17)).s s w))
  rw [f1] at HF
  clear f1 f2 f3
  generalize (fuseRR s L (r % 17)).s = fs at *
  generalize (fuseRR s L (r % 17)).n = fn at *
  go_step
  exact keeps_end s t fs fn r hr0 hr1 L q8 cap2 ao2 w _ gw inferInstance inferInstance (fun w' g => HF.out w' (Grew.trans z.grew g)) H1.out f4 H2.out _ _ _ _ _ _ _ _ _ _ _ _ _ _ _ _ _ _ _ _ _ _ _ _ _ _ _ _ _ _ _ _ _ _ _ _ _ _ _ _ _ _ _ _ _ _ _ _ _ _ _ _ _ _ _ _ _ _ _ _ _ _ _ _ _ _ _ _ _ _ _ _ _ _ _ _ _ _ _ _ _ _ _ _ _ _ _ _ _ _ _ _ _ _ _ _ _ _ _ _ _ _ _ _ _ _ _ _ _ _
end Go.Proofs.Ytehllellaecfbaa
