/-
  FlightExact: for every place, velocity and pull of small integers, every length and number of steps (up to 16): the exact place and velocity are in the state behind the flight, forwards and backwards, and in each tube at its ends. No condition.
  FlightExact: for every place, velocity and pull of small integers, every length and number of steps (up to 16): the exact place and velocity are in the state behind the flight, forwards and backwards, and in each tube at its ends. No condition.
-/
import Derived.Test.YtkeifgcncmilmaaGreatExactRestMS
import Derived.Deep.DeepCutAuto
import Derived.LoopN
import Derived.Deep.QuietTactic
import Derived.BigQuiet
import Derived.Test.YtkeifgcncmilmaaGreatRows
namespace Go.Proofs.YtkeifgcncmilmaaGreat
open Go.RowKit Go.Shelf
set_option maxRecDepth 100000
set_option maxHeartbeats 16000000
set_option linter.unusedSimpArgs false
theorem pure_buildE {o : Oper} {a : Act} {w : World} (t : TypeId) (parts : Array (Nat × Operand)) (l : List (Nat × Value)) (cs : Array Value) (ho : o.op = .build t parts) (hl : (parts.map fun p => (p.1, a.eval p.2)).toList = l) (hb : Tryz.prog.built t l = some cs) : opPure Tryz.prog o a w (.agg cs) := by
  have h := run_build (P := Tryz.prog) w t (parts.map fun p => (p.1, a.eval p.2)) cs (by rw [hl]; exact hb)
  unfold opPure execOp
  rw [ho]
  simp
  rw [h]
  simp
theorem exact_walk (P0 P1 P2 V0 V1 V2 G0 G1 G2 hN nN : Int) (iP0 : -32768 ≤ P0 ∧ P0 ≤ 32767) (iP1 : -32768 ≤ P1 ∧ P1 ≤ 32767) (iP2 : -32768 ≤ P2 ∧ P2 ≤ 32767) (iV0 : -32768 ≤ V0 ∧ V0 ≤ 32767) (iV1 : -32768 ≤ V1 ∧ V1 ≤ 32767) (iV2 : -32768 ≤ V2 ∧ V2 ≤ 32767) (iG0 : -32768 ≤ G0 ∧ G0 ≤ 32767) (iG1 : -32768 ≤ G1 ∧ G1 ≤ 32767) (iG2 : -32768 ≤ G2 ∧ G2 ≤ 32767) (ih : 0 ≤ hN ∧ hN ≤ 255) (in_ : 0 ≤ nN ∧ nN ≤ 255) (w : World) :
    Calls Tryz.prog 6 #[.agg #[.int .i16 P0, .int .i16 P1, .int .i16 P2, .int .i16 V0, .int .i16 V1, .int .i16 V2, .int .i16 G0, .int .i16 G1, .int .i16 G2, .int .u8 hN, .int .u8 nN]] w fun e w' => e = .returned (.bool true) ∧ Grew w w' := by
  obtain ⟨gv0, hg0⟩ : ∃ x, x = G0 * 1048576 := ⟨_, rfl⟩
  obtain ⟨vv0, hv0⟩ : ∃ x, x = V0 * 1048576 := ⟨_, rfl⟩
  obtain ⟨pv0, hp0⟩ : ∃ x, x = P0 * 67108864 := ⟨_, rfl⟩
  have aG0 : IntKind.i64.wrap G0 = G0 := wrap_in _ (by omega) (by omega)
  have bG0 : IntKind.i64.wrap (G0 * 67108864) = gv0 * 64 := by rw [wrap_in _ (by omega) (by omega)]; omega
  have cG0 : (gv0 * 64).tdiv 64 = gv0 := Int.mul_tdiv_cancel _ (by decide)
  have dG0 : IntKind.i64.wrap gv0 = gv0 := wrap_in _ (by omega) (by omega)
  have aV0 : IntKind.i64.wrap V0 = V0 := wrap_in _ (by omega) (by omega)
  have bV0 : IntKind.i64.wrap (V0 * 67108864) = vv0 * 64 := by rw [wrap_in _ (by omega) (by omega)]; omega
  have cV0 : (vv0 * 64).tdiv 64 = vv0 := Int.mul_tdiv_cancel _ (by decide)
  have dV0 : IntKind.i64.wrap vv0 = vv0 := wrap_in _ (by omega) (by omega)
  have aP0 : IntKind.i64.wrap P0 = P0 := wrap_in _ (by omega) (by omega)
  have bP0 : IntKind.i64.wrap (P0 * 67108864) = pv0 := by rw [wrap_in _ (by omega) (by omega)]; omega
  obtain ⟨gv1, hg1⟩ : ∃ x, x = G1 * 1048576 := ⟨_, rfl⟩
  obtain ⟨vv1, hv1⟩ : ∃ x, x = V1 * 1048576 := ⟨_, rfl⟩
  obtain ⟨pv1, hp1⟩ : ∃ x, x = P1 * 67108864 := ⟨_, rfl⟩
  have aG1 : IntKind.i64.wrap G1 = G1 := wrap_in _ (by omega) (by omega)
  have bG1 : IntKind.i64.wrap (G1 * 67108864) = gv1 * 64 := by rw [wrap_in _ (by omega) (by omega)]; omega
  have cG1 : (gv1 * 64).tdiv 64 = gv1 := Int.mul_tdiv_cancel _ (by decide)
  have dG1 : IntKind.i64.wrap gv1 = gv1 := wrap_in _ (by omega) (by omega)
  have aV1 : IntKind.i64.wrap V1 = V1 := wrap_in _ (by omega) (by omega)
  have bV1 : IntKind.i64.wrap (V1 * 67108864) = vv1 * 64 := by rw [wrap_in _ (by omega) (by omega)]; omega
  have cV1 : (vv1 * 64).tdiv 64 = vv1 := Int.mul_tdiv_cancel _ (by decide)
  have dV1 : IntKind.i64.wrap vv1 = vv1 := wrap_in _ (by omega) (by omega)
  have aP1 : IntKind.i64.wrap P1 = P1 := wrap_in _ (by omega) (by omega)
  have bP1 : IntKind.i64.wrap (P1 * 67108864) = pv1 := by rw [wrap_in _ (by omega) (by omega)]; omega
  obtain ⟨gv2, hg2⟩ : ∃ x, x = G2 * 1048576 := ⟨_, rfl⟩
  obtain ⟨vv2, hv2⟩ : ∃ x, x = V2 * 1048576 := ⟨_, rfl⟩
  obtain ⟨pv2, hp2⟩ : ∃ x, x = P2 * 67108864 := ⟨_, rfl⟩
  have aG2 : IntKind.i64.wrap G2 = G2 := wrap_in _ (by omega) (by omega)
  have bG2 : IntKind.i64.wrap (G2 * 67108864) = gv2 * 64 := by rw [wrap_in _ (by omega) (by omega)]; omega
  have cG2 : (gv2 * 64).tdiv 64 = gv2 := Int.mul_tdiv_cancel _ (by decide)
  have dG2 : IntKind.i64.wrap gv2 = gv2 := wrap_in _ (by omega) (by omega)
  have aV2 : IntKind.i64.wrap V2 = V2 := wrap_in _ (by omega) (by omega)
  have bV2 : IntKind.i64.wrap (V2 * 67108864) = vv2 * 64 := by rw [wrap_in _ (by omega) (by omega)]; omega
  have cV2 : (vv2 * 64).tdiv 64 = vv2 := Int.mul_tdiv_cancel _ (by decide)
  have dV2 : IntKind.i64.wrap vv2 = vv2 := wrap_in _ (by omega) (by omega)
  have aP2 : IntKind.i64.wrap P2 = P2 := wrap_in _ (by omega) (by omega)
  have bP2 : IntKind.i64.wrap (P2 * 67108864) = pv2 := by rw [wrap_in _ (by omega) (by omega)]; omega
  obtain ⟨k, hk⟩ : ∃ x, x = 1 + hN := ⟨_, rfl⟩
  obtain ⟨d, hd⟩ : ∃ x, x = k * 268435456 := ⟨_, rfl⟩
  obtain ⟨n, hn⟩ : ∃ n : Nat, (n : Int) = 1 + nN % 16 := ⟨(1 + nN % 16).toNat, by omega⟩
  have n1 : 1 ≤ n := by omega
  have n2 : n ≤ 16 := by omega
  have k1 : 1 ≤ k := by omega
  have k2 : k ≤ 256 := by omega
  have m1 : IntKind.i64.wrap hN = hN := wrap_in _ (by omega) (by omega)
  have m2 : IntKind.i64.wrap (1 + hN) = k := by rw [wrap_in _ (by omega) (by omega)]; omega
  have m3 : IntKind.i64.wrap (k * 4294967296) = d * 16 := by rw [wrap_in _ (by omega) (by omega)]; omega
  have m4 : (d * 16).tdiv 16 = d := Int.mul_tdiv_cancel _ (by decide)
  have m5 : IntKind.i64.wrap d = d := wrap_in _ (by omega) (by omega)
  have m6 : IntKind.i64.wrap nN = nN := wrap_in _ (by omega) (by omega)
  have m7 : nN.tmod 16 = nN % 16 := Int.tmod_eq_emod_of_nonneg in_.1
  have m8 : IntKind.i64.wrap (nN % 16) = nN % 16 := wrap_in _ (by omega) (by omega)
  have m9 : IntKind.i64.wrap (1 + nN % 16) = n := by rw [wrap_in _ (by omega) (by omega), hn]
  have hnd : 0 ≤ (n : Int) * d ∧ (n : Int) * d ≤ 1099511627776 := by
    have h1 : 0 ≤ (n : Int) * d := Int.mul_nonneg (by omega) (by omega)
    have h2 : (n : Int) * d ≤ 16 * 68719476736 := Int.mul_le_mul (by omega) (by omega) (by omega) (by omega)
    omega
  obtain ⟨tt, htt⟩ : ∃ x, x = (n : Int) * d := ⟨_, rfl⟩
  have m10 : IntKind.i64.wrap ((n : Int) * d) = tt := by rw [wrap_in _ (by omega) (by omega), htt]
  have m11 : IntKind.i64.wrap (-tt) = -tt := wrap_in _ (by omega) (by omega)
  have gB : VdB (ptB gv0 gv1 gv2) := ⟨vd_pt (by omega), vd_pt (by omega), vd_pt (by omega)⟩
  have pB : VdB (ptB pv0 pv1 pv2) := ⟨vd_pt (by omega), vd_pt (by omega), vd_pt (by omega)⟩
  have vB : VdB (ptB vv0 vv1 vv2) := ⟨vd_pt (by omega), vd_pt (by omega), vd_pt (by omega)⟩
  have gOk : (freeP (ptB gv0 gv1 gv2)).okB = true := by
    unfold Planet.okB
    rw [show (freeP (ptB gv0 gv1 gv2)).pull = ptB gv0 gv1 gv2 from rfl, vdB_ok gB]
    rfl
  have sOk : (exS (ptB pv0 pv1 pv2) (ptB vv0 vv1 vv2)).okB = true := by
    unfold State.okB
    rw [show (exS (ptB pv0 pv1 pv2) (ptB vv0 vv1 vv2)).p = ptB pv0 pv1 pv2 from rfl, show (exS (ptB pv0 pv1 pv2) (ptB vv0 vv1 vv2)).v = ptB vv0 vv1 vv2 from rfl, vdB_ok pB, vdB_ok vB]
    rfl
  have s64 : St64 (exS (ptB pv0 pv1 pv2) (ptB vv0 vv1 vv2)) := ⟨i64c rfl, b64_vd pB, b64_vd vB, ⟨i64c rfl, i64c rfl⟩⟩
  have hon : OnPar (ptN pv0 pv1 pv2) (ptN vv0 vv1 vv2) (ptN gv0 gv1 gv2) 0 (exS (ptB pv0 pv1 pv2) (ptB vv0 vv1 vv2)).p (exS (ptB pv0 pv1 pv2) (ptB vv0 vv1 vv2)).v := by
   refine ⟨fun i => ?_, fun i => ⟨s64_at (b64_vd pB) i, s64_at (b64_vd vB) i⟩⟩
   · rw [show (exS (ptB pv0 pv1 pv2) (ptB vv0 vv1 vv2)).p = ptB pv0 pv1 pv2 from rfl, show (exS (ptB pv0 pv1 pv2) (ptB vv0 vv1 vv2)).v = ptB vv0 vv1 vv2 from rfl, ptB_at, ptB_at]
     unfold exP exV Hs
     simp
  have hgs : ∀ i, Hs 1 ((ptB gv0 gv1 gv2).at i) (ptN gv0 gv1 gv2 i) := fun i => by
    rw [ptB_at]
    exact hs_pt _
  obtain ⟨hF, hF2⟩ := exact_fly gB gOk _ hgs _ _ k1 k2 n1 n2 sOk hon
  obtain ⟨hB, hB2⟩ := exact_back gB gOk _ hgs _ _ k1 k2 n1 n2 sOk hon
  rw [← hd, ← htt] at hF hF2 hB hB2
  have hp64 : Pl64 (freeP (ptB gv0 gv1 gv2)) := pl64_free _ (h := b64_vd gB)
  have hLI : ArcsI [(exA tt d, [])] := fun y hy => by
    obtain rfl : y = _ := by simpa using hy
    exact ⟨⟨i64c rfl, i64c rfl⟩, ⟨i64c rfl, i64c rfl⟩, ⟨⟨i64c rfl, i64c rfl⟩, ⟨i64c rfl, i64c rfl⟩, ⟨i64c rfl, i64c rfl⟩⟩, ⟨i64c rfl, i64c rfl⟩⟩
  have hLA : ∀ (v : Value) (w' : World), SlAt w' v 1 (exA tt d).cells → ArcsAt w' v [(exA tt d, [])] := fun v w' h => ⟨by simpa [arcCells] using h, fun y hy => by
    obtain rfl : y = _ := by simpa using hy
    exact ⟨SlAt.nil _, by show tt ≤ _; omega, by show d ≤ _; omega⟩⟩
  have HF := Lib.hid (fun (v : Value) (w' : World) (h : SlAt w' v 1 (exA tt d).cells) => show Calls Tryz.prog 13 #[.agg (freeP (ptB gv0 gv1 gv2)).cells.toArray, v, .agg #[.int .i64 0, .int .i64 pv0, .int .i64 pv0, .int .i64 pv1, .int .i64 pv1, .int .i64 pv2, .int .i64 pv2, .int .i64 vv0, .int .i64 vv0, .int .i64 vv1, .int .i64 vv1, .int .i64 vv2, .int .i64 vv2, .int .i64 4294967296, .int .i64 4294967296]] w' (RetFl (flyR (freeP (ptB gv0 gv1 gv2)) [(exA tt d, [])] (exS (ptB pv0 pv1 pv2) (ptB vv0 vv1 vv2))) w') from flFly_any _ _ _ hLI v w' (hLA v w' h))
  have HB := Lib.hid (fun (v : Value) (w' : World) (h : SlAt w' v 1 (exA tt d).cells) => show Calls Tryz.prog 15 #[.agg (freeP (ptB gv0 gv1 gv2)).cells.toArray, v, .agg #[.int .i64 0, .int .i64 pv0, .int .i64 pv0, .int .i64 pv1, .int .i64 pv1, .int .i64 pv2, .int .i64 pv2, .int .i64 vv0, .int .i64 vv0, .int .i64 vv1, .int .i64 vv1, .int .i64 vv2, .int .i64 vv2, .int .i64 4294967296, .int .i64 4294967296]] w' (RetFl (backR (freeP (ptB gv0 gv1 gv2)) [(exA tt d, [])] (exS (ptB pv0 pv1 pv2) (ptB vv0 vv1 vv2))) w') from flBack_any _ _ _ hLI v w' (hLA v w' h))
  generalize flyR (freeP (ptB gv0 gv1 gv2)) [(exA tt d, [])] (exS (ptB pv0 pv1 pv2) (ptB vv0 vv1 vv2)) = F at *
  generalize backR (freeP (ptB gv0 gv1 gv2)) [(exA tt d, [])] (exS (ptB pv0 pv1 pv2) (ptB vv0 vv1 vv2)) = B at *
  have qp : ∀ i, -2199023255552 ≤ ptN pv0 pv1 pv2 i ∧ ptN pv0 pv1 pv2 i ≤ 2199023255552 := ptN_in (by omega) (by omega) (by omega)
  have qv : ∀ i, -34359738368 ≤ ptN vv0 vv1 vv2 i ∧ ptN vv0 vv1 vv2 i ≤ 34359738368 := ptN_in (by omega) (by omega) (by omega)
  have qg : ∀ i, -34359738368 ≤ ptN gv0 gv1 gv2 i ∧ ptN gv0 gv1 gv2 i ≤ 34359738368 := ptN_in (by omega) (by omega) (by omega)
  have HPar := Lib.hid (fun (st : State) (i : Nat) (hi : i < 3) (m t : Int) (hm : -4096 ≤ m ∧ m ≤ 4096) (ht : t = m * 268435456) (hP : OnPar (ptN pv0 pv1 pv2) (ptN vv0 vv1 vv2) (ptN gv0 gv1 gv2) m st.p st.v) (w : World) => show Calls Tryz.prog 25 #[.agg #[.int .i64 st.t, .int .i64 st.p.x.lo, .int .i64 st.p.x.hi, .int .i64 st.p.y.lo, .int .i64 st.p.y.hi, .int .i64 st.p.z.lo, .int .i64 st.p.z.hi, .int .i64 st.v.x.lo, .int .i64 st.v.x.hi, .int .i64 st.v.y.lo, .int .i64 st.v.y.hi, .int .i64 st.v.z.lo, .int .i64 st.v.z.hi, .int .i64 st.m.lo, .int .i64 st.m.hi], .int .i64 i, .int .i64 (ptN pv0 pv1 pv2 i), .int .i64 (ptN vv0 vv1 vv2 i), .int .i64 (ptN gv0 gv1 gv2 i), .int .i64 t] w fun e w' => e = .returned (.bool true) ∧ Grew w w' from l3Parab_any st i hi _ _ _ m t (hP.2 i).1 (hP.2 i).2 (qp i) (qv i) (qg i) hm ht (hP.1 i).1 (hP.1 i).2 w)
  have Htt := Lib.hid htt
  have Hd := Lib.hid hd
  have HF1 := Lib.hid hF
  have HB1 := Lib.hid hB
  have HF2 := Lib.hid hF2
  have HB2 := Lib.hid hB2
  clear hF hB hF2 hB2 hLI hLA hgs hon sOk gOk qp qv qg
  have HFree := Lib.hid (fun w => show Calls Tryz.prog 24 #[.agg #[.int .i64 gv0, .int .i64 gv0, .int .i64 gv1, .int .i64 gv1, .int .i64 gv2, .int .i64 gv2]] w fun e w' => e = .returned (.tuple #[.agg (freeP (ptB gv0 gv1 gv2)).cells.toArray, .agg freeA.cells.toArray]) ∧ Grew w w' from l3Free_any (ptB gv0 gv1 gv2) w)
  clear hg0 hg1 hg2 hv0 hv1 hv2 hp0 hp1 hp2 hk hd hn htt hnd gB pB vB s64 hp64
  go_enter Tryz.func6, Tryz.ntmps6
  go_wp2_with (first | (go_at_call 19; (with_reducible refine call_later (l3Alive_any _) ?_); intro ua) | (go_at_call 23; (with_reducible refine call_later (l3Point_any _ _) ?_); intro up) | ((with_reducible refine wpList_built ?_ ?_ ?_ ?_ ?_ ?_ ?_ ?_ ?_); rotate_left 4; (· rfl); (· rfl); (· rfl); (· infer_instance)) | ((with_reducible refine wpList_load_rng ?_ ?_ ?_ ?_ ?_ ?_ ?_ ?_ ?_ ?_ ?_ ?_); rotate_left 6; (· rfl); (· rfl); (· rfl); (· infer_instance); (· infer_instance)) | ((with_reducible refine wpList_load_is ?_ ?_ ?_ ?_ ?_ ?_ ?_ ?_ ?_ ?_ ?_ ?_ ?_); rotate_left 6; (· rfl); (· rfl); (· rfl); (· infer_instance); (· infer_instance); (· rfl)) | ((with_reducible refine wpList_store_fresh ?_ ?_ ?_ ?_ ?_ ?_ ?_ ?_ ?_ ?_ ?_ ?_ ?_ ?_ ?_ ?_ ?_); rotate_left 5; (· rfl); (· rfl); (· rfl); (· rfl); (· rfl); (· infer_instance); (· infer_instance); (· infer_instance); (· infer_instance)) | ((with_reducible refine wpList_store_is ?_ ?_ ?_ ?_ ?_ ?_ ?_ ?_ ?_ ?_ ?_ ?_ ?_ ?_ ?_ ?_ ?_); rotate_left 7; (· rfl); (· rfl); (· rfl); (· rfl); (· rfl); (· infer_instance); (· infer_instance); (· infer_instance); (· infer_instance)))
  refine wp_loop_rounds 4 ?_
  rw [rounds_succ]
  go_wp2_with (first | (go_at_call 19; (with_reducible refine call_later (l3Alive_any _) ?_); intro ua) | (go_at_call 23; (with_reducible refine call_later (l3Point_any _ _) ?_); intro up) | ((with_reducible refine wpList_built ?_ ?_ ?_ ?_ ?_ ?_ ?_ ?_ ?_); rotate_left 4; (· rfl); (· rfl); (· rfl); (· infer_instance)) | ((with_reducible refine wpList_load_rng ?_ ?_ ?_ ?_ ?_ ?_ ?_ ?_ ?_ ?_ ?_ ?_); rotate_left 6; (· rfl); (· rfl); (· rfl); (· infer_instance); (· infer_instance)) | ((with_reducible refine wpList_load_is ?_ ?_ ?_ ?_ ?_ ?_ ?_ ?_ ?_ ?_ ?_ ?_ ?_); rotate_left 6; (· rfl); (· rfl); (· rfl); (· infer_instance); (· infer_instance); (· rfl)) | ((with_reducible refine wpList_store_fresh ?_ ?_ ?_ ?_ ?_ ?_ ?_ ?_ ?_ ?_ ?_ ?_ ?_ ?_ ?_ ?_ ?_); rotate_left 5; (· rfl); (· rfl); (· rfl); (· rfl); (· rfl); (· infer_instance); (· infer_instance); (· infer_instance); (· infer_instance)) | ((with_reducible refine wpList_store_is ?_ ?_ ?_ ?_ ?_ ?_ ?_ ?_ ?_ ?_ ?_ ?_ ?_ ?_ ?_ ?_ ?_); rotate_left 7; (· rfl); (· rfl); (· rfl); (· rfl); (· rfl); (· infer_instance); (· infer_instance); (· infer_instance); (· infer_instance)))
  rw [rounds_succ]
  go_wp2_with (first | (go_at_call 19; (with_reducible refine call_later (l3Alive_any _) ?_); intro ua) | (go_at_call 23; (with_reducible refine call_later (l3Point_any _ _) ?_); intro up) | ((with_reducible refine wpList_built ?_ ?_ ?_ ?_ ?_ ?_ ?_ ?_ ?_); rotate_left 4; (· rfl); (· rfl); (· rfl); (· infer_instance)) | ((with_reducible refine wpList_load_rng ?_ ?_ ?_ ?_ ?_ ?_ ?_ ?_ ?_ ?_ ?_ ?_); rotate_left 6; (· rfl); (· rfl); (· rfl); (· infer_instance); (· infer_instance)) | ((with_reducible refine wpList_load_is ?_ ?_ ?_ ?_ ?_ ?_ ?_ ?_ ?_ ?_ ?_ ?_ ?_); rotate_left 6; (· rfl); (· rfl); (· rfl); (· infer_instance); (· infer_instance); (· rfl)) | ((with_reducible refine wpList_store_fresh ?_ ?_ ?_ ?_ ?_ ?_ ?_ ?_ ?_ ?_ ?_ ?_ ?_ ?_ ?_ ?_ ?_); rotate_left 5; (· rfl); (· rfl); (· rfl); (· rfl); (· rfl); (· infer_instance); (· infer_instance); (· infer_instance); (· infer_instance)) | ((with_reducible refine wpList_store_is ?_ ?_ ?_ ?_ ?_ ?_ ?_ ?_ ?_ ?_ ?_ ?_ ?_ ?_ ?_ ?_ ?_); rotate_left 7; (· rfl); (· rfl); (· rfl); (· rfl); (· rfl); (· infer_instance); (· infer_instance); (· infer_instance); (· infer_instance)))
  rw [rounds_succ]
  go_wp2_with (first | (go_at_call 19; (with_reducible refine call_later (l3Alive_any _) ?_); intro ua) | (go_at_call 23; (with_reducible refine call_later (l3Point_any _ _) ?_); intro up) | ((with_reducible refine wpList_built ?_ ?_ ?_ ?_ ?_ ?_ ?_ ?_ ?_); rotate_left 4; (· rfl); (· rfl); (· rfl); (· infer_instance)) | ((with_reducible refine wpList_load_rng ?_ ?_ ?_ ?_ ?_ ?_ ?_ ?_ ?_ ?_ ?_ ?_); rotate_left 6; (· rfl); (· rfl); (· rfl); (· infer_instance); (· infer_instance)) | ((with_reducible refine wpList_load_is ?_ ?_ ?_ ?_ ?_ ?_ ?_ ?_ ?_ ?_ ?_ ?_ ?_); rotate_left 6; (· rfl); (· rfl); (· rfl); (· infer_instance); (· infer_instance); (· rfl)) | ((with_reducible refine wpList_store_fresh ?_ ?_ ?_ ?_ ?_ ?_ ?_ ?_ ?_ ?_ ?_ ?_ ?_ ?_ ?_ ?_ ?_); rotate_left 5; (· rfl); (· rfl); (· rfl); (· rfl); (· rfl); (· infer_instance); (· infer_instance); (· infer_instance); (· infer_instance)) | ((with_reducible refine wpList_store_is ?_ ?_ ?_ ?_ ?_ ?_ ?_ ?_ ?_ ?_ ?_ ?_ ?_ ?_ ?_ ?_ ?_); rotate_left 7; (· rfl); (· rfl); (· rfl); (· rfl); (· rfl); (· infer_instance); (· infer_instance); (· infer_instance); (· infer_instance)))
  rw [rounds_succ]
  go_upto_region 11 with (first | (go_at_call 19; (with_reducible refine call_later (l3Alive_any _) ?_); intro ua) | (go_at_call 23; (with_reducible refine call_later (l3Point_any _ _) ?_); intro up) | ((with_reducible refine wpList_built ?_ ?_ ?_ ?_ ?_ ?_ ?_ ?_ ?_); rotate_left 4; (· rfl); (· rfl); (· rfl); (· infer_instance)) | ((with_reducible refine wpList_load_rng ?_ ?_ ?_ ?_ ?_ ?_ ?_ ?_ ?_ ?_ ?_ ?_); rotate_left 6; (· rfl); (· rfl); (· rfl); (· infer_instance); (· infer_instance)) | ((with_reducible refine wpList_load_is ?_ ?_ ?_ ?_ ?_ ?_ ?_ ?_ ?_ ?_ ?_ ?_ ?_); rotate_left 6; (· rfl); (· rfl); (· rfl); (· infer_instance); (· infer_instance); (· rfl)) | ((with_reducible refine wpList_store_fresh ?_ ?_ ?_ ?_ ?_ ?_ ?_ ?_ ?_ ?_ ?_ ?_ ?_ ?_ ?_ ?_ ?_); rotate_left 5; (· rfl); (· rfl); (· rfl); (· rfl); (· rfl); (· infer_instance); (· infer_instance); (· infer_instance); (· infer_instance)) | ((with_reducible refine wpList_store_is ?_ ?_ ?_ ?_ ?_ ?_ ?_ ?_ ?_ ?_ ?_ ?_ ?_ ?_ ?_ ?_ ?_); rotate_left 7; (· rfl); (· rfl); (· rfl); (· rfl); (· rfl); (· infer_instance); (· infer_instance); (· infer_instance); (· infer_instance)))
  refine wp_named (fun Y => RowIs Y w.heap.size 70 [.int .i16 P0, .int .i16 P1, .int .i16 P2, .int .i16 V0, .int .i16 V1, .int .i16 V2, .int .i16 G0, .int .i16 G1, .int .i16 G2, .int .u8 hN, .int .u8 nN] ∧ RowIs Y ua.world.heap.size 26 [.int .i64 gv0, .int .i64 gv0, .int .i64 gv1, .int .i64 gv1, .int .i64 gv2, .int .i64 gv2] ∧ RowIs Y (ua.world.heap.size + 1) 26 [.int .i64 pv0, .int .i64 pv0, .int .i64 pv1, .int .i64 pv1, .int .i64 pv2, .int .i64 pv2] ∧ RowIs Y (ua.world.heap.size + 1 + 1) 26 [.int .i64 vv0, .int .i64 vv0, .int .i64 vv1, .int .i64 vv1, .int .i64 vv2, .int .i64 vv2] ∧ Grew w Y) ⟨inferInstance, row_as inferInstance rfl, row_as inferInstance rfl, row_as inferInstance rfl, gwr⟩ ?_
  rintro Yw ⟨rX, rG, rP, rV, gY⟩
  obtain ⟨Y, rfl⟩ := later_of gY
  clear gY
  generalize ua.world.heap.size = bG at *
  have iX := rX.blockIn
  have iG := rG.blockIn
  have iP := rP.blockIn
  have iV := rV.blockIn
  go_upto_region 16 with (first | (go_at_call 24; (with_reducible refine call_later (HFree.out _) ?_); intro uf) | ((with_reducible refine wpList_built ?_ ?_ ?_ ?_ ?_ ?_ ?_ ?_ ?_); rotate_left 4; (· rfl); (· rfl); (· rfl); (· infer_instance)) | ((with_reducible refine wpList_load_rng ?_ ?_ ?_ ?_ ?_ ?_ ?_ ?_ ?_ ?_ ?_ ?_); rotate_left 6; (· rfl); (· rfl); (· rfl); (· infer_instance); (· infer_instance)) | ((with_reducible refine wpList_load_is ?_ ?_ ?_ ?_ ?_ ?_ ?_ ?_ ?_ ?_ ?_ ?_ ?_); rotate_left 6; (· rfl); (· rfl); (· rfl); (· infer_instance); (· infer_instance); (· rfl)) | ((with_reducible refine wpList_store_fresh ?_ ?_ ?_ ?_ ?_ ?_ ?_ ?_ ?_ ?_ ?_ ?_ ?_ ?_ ?_ ?_ ?_); rotate_left 5; (· rfl); (· rfl); (· rfl); (· rfl); (· rfl); (· infer_instance); (· infer_instance); (· infer_instance); (· infer_instance)) | ((with_reducible refine wpList_store_is ?_ ?_ ?_ ?_ ?_ ?_ ?_ ?_ ?_ ?_ ?_ ?_ ?_ ?_ ?_ ?_ ?_); rotate_left 7; (· rfl); (· rfl); (· rfl); (· rfl); (· rfl); (· infer_instance); (· infer_instance); (· infer_instance); (· infer_instance)))
  refine wp_named (fun Z => RowIs Z bG 26 [.int .i64 gv0, .int .i64 gv0, .int .i64 gv1, .int .i64 gv1, .int .i64 gv2, .int .i64 gv2] ∧ RowIs Z (bG + 1) 26 [.int .i64 pv0, .int .i64 pv0, .int .i64 pv1, .int .i64 pv1, .int .i64 pv2, .int .i64 pv2] ∧ RowIs Z (bG + 1 + 1) 26 [.int .i64 vv0, .int .i64 vv0, .int .i64 vv1, .int .i64 vv1, .int .i64 vv2, .int .i64 vv2] ∧ RowIs Z uf.world.heap.size 43 (freeP (ptB gv0 gv1 gv2)).cells ∧ RowIs Z (uf.world.heap.size + 1) 48 (exA tt d).cells ∧ Grew w Z) ⟨inferInstance, inferInstance, inferInstance, inferInstance, row_as inferInstance rfl, gwr⟩ ?_
  clear iX iG iP iV rX rG rP rV
  rintro Zw ⟨rG, rP, rV, rL, rA, gZ⟩
  obtain ⟨Z, rfl⟩ := later_of gZ
  clear gZ
  generalize uf.world.heap.size = bL at *
  have iG := rG.blockIn
  have iP := rP.blockIn
  have iV := rV.blockIn
  have iL := rL.blockIn
  have iA := rA.blockIn
  refine wp_region_grown 5 [4] [2] [] (fun W0 => [(4, BoxR W0 [.int .i64 0, .int .i64 0, .int .i64 0, .int .i64 0, .int .i64 0, .int .i64 0, .int .i64 0, .int .i64 0, .int .i64 0, .int .i64 0, .int .i64 0, .int .i64 0, .int .i64 0, .int .i64 0, .int .i64 0])]) [.agg #[.int .i64 4294967296, .int .i64 4294967296]] [5] (by rfl) (by intro W0 x hx; simp only [List.mem_cons, List.not_mem_nil, or_false] at hx; rcases hx with rfl; exact good_box _ _) (by kernel_rfl) (by kernel_rfl) (by kernel_rfl) ?_
  intro p
  apply Exists.intro
  apply And.intro
  iterate 2 (apply lexg_pure (by kernel_rfl); (· intro u; unfold opPure; go_simp; rfl))
  apply lexg_call 0 (by kernel_rfl) (by rfl) (by decide)
  · intro u hF; clear hF; unfold opCall; go_simp; exact l3Point_any _ _
  apply lexg_pure (by kernel_rfl)
  · intro u; exact pure_buildE _ _ _ _ rfl (by go_simp) (built_exS pv0 pv0 pv1 pv1 pv2 pv2 vv0 vv0 vv1 vv1 vv2 vv2 4294967296 4294967296)
  apply lexg_make (by kernel_rfl)
  · intro u hF; clear hF; unfold opMake; go_simp; exact made_box _ _ _ _
  apply lexg_end
  rotate_left
  · rfl
  intro u hR hD
  obtain ⟨q4, e4, hB4, kB4, nB4⟩ := (show BoxR _ [.int .i64 0, .int .i64 0, .int .i64 0, .int .i64 0, .int .i64 0, .int .i64 0, .int .i64 0, .int .i64 0, .int .i64 0, .int .i64 0, .int .i64 0, .int .i64 0, .int .i64 0, .int .i64 0, .int .i64 0] (p 4) u.world from hR 4 (by decide))
  clear hR hD
  rw [e4]
  clear e4
  have oB4 := apart_oldL nB4
  have oC4 := apart_oldR nB4
  have nC4 : NewFor Z.world q4 := ⟨Nat.le_trans (Grew.size gw) nB4.le⟩
  have hB4_0 := (hB4 0 _ rfl).1
  have hB4f0 := (hB4 0 _ rfl).2
  have hB4i0 : HasCell (u.world) (q4) 0 := ⟨_, hB4_0⟩
  have hB4_1 := (hB4 1 _ rfl).1
  have hB4f1 := (hB4 1 _ rfl).2
  have hB4i1 : HasCell (u.world) (q4) 1 := ⟨_, hB4_1⟩
  have hB4_2 := (hB4 2 _ rfl).1
  have hB4f2 := (hB4 2 _ rfl).2
  have hB4i2 : HasCell (u.world) (q4) 2 := ⟨_, hB4_2⟩
  have hB4_3 := (hB4 3 _ rfl).1
  have hB4f3 := (hB4 3 _ rfl).2
  have hB4i3 : HasCell (u.world) (q4) 3 := ⟨_, hB4_3⟩
  have hB4_4 := (hB4 4 _ rfl).1
  have hB4f4 := (hB4 4 _ rfl).2
  have hB4i4 : HasCell (u.world) (q4) 4 := ⟨_, hB4_4⟩
  have hB4_5 := (hB4 5 _ rfl).1
  have hB4f5 := (hB4 5 _ rfl).2
  have hB4i5 : HasCell (u.world) (q4) 5 := ⟨_, hB4_5⟩
  have hB4_6 := (hB4 6 _ rfl).1
  have hB4f6 := (hB4 6 _ rfl).2
  have hB4i6 : HasCell (u.world) (q4) 6 := ⟨_, hB4_6⟩
  have hB4_7 := (hB4 7 _ rfl).1
  have hB4f7 := (hB4 7 _ rfl).2
  have hB4i7 : HasCell (u.world) (q4) 7 := ⟨_, hB4_7⟩
  have hB4_8 := (hB4 8 _ rfl).1
  have hB4f8 := (hB4 8 _ rfl).2
  have hB4i8 : HasCell (u.world) (q4) 8 := ⟨_, hB4_8⟩
  have hB4_9 := (hB4 9 _ rfl).1
  have hB4f9 := (hB4 9 _ rfl).2
  have hB4i9 : HasCell (u.world) (q4) 9 := ⟨_, hB4_9⟩
  have hB4_10 := (hB4 10 _ rfl).1
  have hB4f10 := (hB4 10 _ rfl).2
  have hB4i10 : HasCell (u.world) (q4) 10 := ⟨_, hB4_10⟩
  have hB4_11 := (hB4 11 _ rfl).1
  have hB4f11 := (hB4 11 _ rfl).2
  have hB4i11 : HasCell (u.world) (q4) 11 := ⟨_, hB4_11⟩
  have hB4_12 := (hB4 12 _ rfl).1
  have hB4f12 := (hB4 12 _ rfl).2
  have hB4i12 : HasCell (u.world) (q4) 12 := ⟨_, hB4_12⟩
  have hB4_13 := (hB4 13 _ rfl).1
  have hB4f13 := (hB4 13 _ rfl).2
  have hB4i13 : HasCell (u.world) (q4) 13 := ⟨_, hB4_13⟩
  have hB4_14 := (hB4 14 _ rfl).1
  have hB4f14 := (hB4 14 _ rfl).2
  have hB4i14 : HasCell (u.world) (q4) 14 := ⟨_, hB4_14⟩
  have hB4b : BlockIn (u.world) (q4) := BlockIn.of_cell hB4_0
  clear hB4
  refine tail_store (by rfl) ?_; unfold opStore; go_simp
  refine tail_end ?_
  have nQ : NewFor w q4 := ⟨Nat.le_trans Z.grew.size nC4.le⟩
  go_upto_region 17 with (fail)
  refine wp_named (fun X => RowIs X bG 26 [.int .i64 gv0, .int .i64 gv0, .int .i64 gv1, .int .i64 gv1, .int .i64 gv2, .int .i64 gv2] ∧ RowIs X (bG + 1) 26 [.int .i64 pv0, .int .i64 pv0, .int .i64 pv1, .int .i64 pv1, .int .i64 pv2, .int .i64 pv2] ∧ RowIs X (bG + 1 + 1) 26 [.int .i64 vv0, .int .i64 vv0, .int .i64 vv1, .int .i64 vv1, .int .i64 vv2, .int .i64 vv2] ∧ RowIs X bL 43 (freeP (ptB gv0 gv1 gv2)).cells ∧ RowIs X (bL + 1) 48 [.int .i64 tt, .int .i64 d, .int .i64 0, .int .i64 0, .int .i64 0, .int .i64 0, .int .i64 0, .int .i64 0, .int .i64 0, .int .i64 0, .int .i64 0, .int .i64 0, .slice none 0 0, .int .i64 0, .int .i64 0] ∧ BlockIn X q4 ∧ X.cell? ⟨q4, 0, none⟩ = some (.int .i64 0) ∧ X.cell? ⟨q4, 1, none⟩ = some (.int .i64 pv0) ∧ X.cell? ⟨q4, 2, none⟩ = some (.int .i64 pv0) ∧ X.cell? ⟨q4, 3, none⟩ = some (.int .i64 pv1) ∧ X.cell? ⟨q4, 4, none⟩ = some (.int .i64 pv1) ∧ X.cell? ⟨q4, 5, none⟩ = some (.int .i64 pv2) ∧ X.cell? ⟨q4, 6, none⟩ = some (.int .i64 pv2) ∧ X.cell? ⟨q4, 7, none⟩ = some (.int .i64 vv0) ∧ X.cell? ⟨q4, 8, none⟩ = some (.int .i64 vv0) ∧ X.cell? ⟨q4, 9, none⟩ = some (.int .i64 vv1) ∧ X.cell? ⟨q4, 10, none⟩ = some (.int .i64 vv1) ∧ X.cell? ⟨q4, 11, none⟩ = some (.int .i64 vv2) ∧ X.cell? ⟨q4, 12, none⟩ = some (.int .i64 vv2) ∧ X.cell? ⟨q4, 13, none⟩ = some (.int .i64 4294967296) ∧ X.cell? ⟨q4, 14, none⟩ = some (.int .i64 4294967296) ∧ Grew w X) ⟨inferInstance, inferInstance, inferInstance, inferInstance, row_as (l := (exA tt d).cells) inferInstance rfl, inferInstance, by go_simp, by go_simp, by go_simp, by go_simp, by go_simp, by go_simp, by go_simp, by go_simp, by go_simp, by go_simp, by go_simp, by go_simp, by go_simp, by go_simp, by go_simp, gwr⟩ ?_
  clear iG iP iV iL iA rG rP rV rL rA
  rintro Xw ⟨rG, rP, rV, rL, rA, iS, k0, k1, k2, k3, k4, k5, k6, k7, k8, k9, k10, k11, k12, k13, k14, gX⟩
  obtain ⟨X, rfl⟩ := later_of gX
  clear gX
  have iG := rG.blockIn
  have iP := rP.blockIn
  have iV := rV.blockIn
  have iL := rL.blockIn
  have iA := rA.blockIn
  go_upto_region 19 with (first | (go_at_call 13; refine (HF.out _ _ (SlAt.fresh _ _ _ _ (by simp [maxLen]))).mono ?_; rintro en w2 ⟨v1, v2, rfl, hs1, hs2, hg⟩; obtain ⟨uy, rfl⟩ := later_of hg; clear hg) | (go_at_call 15; refine (HB.out _ _ (SlAt.fresh _ _ _ _ (by simp [maxLen]))).mono ?_; rintro en w3 ⟨v3, v4, rfl, hs3, hs4, hg⟩; obtain ⟨ub, rfl⟩ := later_of hg; clear hg) | ((with_reducible refine wpList_built ?_ ?_ ?_ ?_ ?_ ?_ ?_ ?_ ?_); rotate_left 4; (· rfl); (· rfl); (· rfl); (· infer_instance)) | ((with_reducible refine wpList_load_rng ?_ ?_ ?_ ?_ ?_ ?_ ?_ ?_ ?_ ?_ ?_ ?_); rotate_left 6; (· rfl); (· rfl); (· rfl); (· infer_instance); (· infer_instance)) | ((with_reducible refine wpList_load_is ?_ ?_ ?_ ?_ ?_ ?_ ?_ ?_ ?_ ?_ ?_ ?_ ?_); rotate_left 6; (· rfl); (· rfl); (· rfl); (· infer_instance); (· infer_instance); (· rfl)) | ((with_reducible refine wpList_store_fresh ?_ ?_ ?_ ?_ ?_ ?_ ?_ ?_ ?_ ?_ ?_ ?_ ?_ ?_ ?_ ?_ ?_); rotate_left 5; (· rfl); (· rfl); (· rfl); (· rfl); (· rfl); (· infer_instance); (· infer_instance); (· infer_instance); (· infer_instance)) | ((with_reducible refine wpList_store_is ?_ ?_ ?_ ?_ ?_ ?_ ?_ ?_ ?_ ?_ ?_ ?_ ?_ ?_ ?_ ?_ ?_); rotate_left 7; (· rfl); (· rfl); (· rfl); (· rfl); (· rfl); (· infer_instance); (· infer_instance); (· infer_instance); (· infer_instance)))
  refine wp_named (fun U => RowIs U bG 26 [.int .i64 gv0, .int .i64 gv0, .int .i64 gv1, .int .i64 gv1, .int .i64 gv2, .int .i64 gv2] ∧ RowIs U (bG + 1) 26 [.int .i64 pv0, .int .i64 pv0, .int .i64 pv1, .int .i64 pv1, .int .i64 pv2, .int .i64 pv2] ∧ RowIs U (bG + 1 + 1) 26 [.int .i64 vv0, .int .i64 vv0, .int .i64 vv1, .int .i64 vv1, .int .i64 vv2, .int .i64 vv2] ∧ RowIs U (bL + 1) 48 [.int .i64 tt, .int .i64 d, .int .i64 0, .int .i64 0, .int .i64 0, .int .i64 0, .int .i64 0, .int .i64 0, .int .i64 0, .int .i64 0, .int .i64 0, .int .i64 0, .slice none 0 0, .int .i64 0, .int .i64 0] ∧ Hid (SlAt U v1 F.stops.length (F.stops.flatMap State.cells)) ∧ Hid (SlAt U v2 F.tubes.length (F.tubes.flatMap Tube.cells)) ∧ Hid (SlAt U v3 B.stops.length (B.stops.flatMap State.cells)) ∧ Grew w U) ⟨inferInstance, inferInstance, inferInstance, inferInstance, Lib.hid (hs1.grew gwr), Lib.hid (hs2.grew gwr), Lib.hid (hs3.grew gwr), gwr⟩ ?_
  clear iG iP iV iL iA iS rG rP rV rL rA k0 k1 k2 k3 k4 k5 k6 k7 k8 k9 k10 k11 k12 k13 k14 hs1 hs2 hs3 hs4
  rintro Uw ⟨rG, rP, rV, rA, H1, H2, H3, gU⟩
  obtain ⟨U, rfl⟩ := later_of gU
  clear gU
  have iG := rG.blockIn
  have iP := rP.blockIn
  have iV := rV.blockIn
  have iA := rA.blockIn
  rcases HF1.out with e | e | e <;> rcases HB1.out with f | f | f <;> rw [e, f]
  rotate_left
  iterate 8 (go_wp2; go_ret; exact ⟨rfl, gwr⟩)
  obtain ⟨st, hst, hon, htl, htub⟩ := HF2.out e
  obtain ⟨bk, hbk, honb⟩ := HB2.out f
  have h1 := H1.out
  have h2 := H2.out
  have h3 := H3.out
  rw [hst] at h1
  rw [hbk] at h3
  obtain ⟨ao1, cap1, rfl, -, hel1⟩ := state_elem (S := [st]) h1
  obtain ⟨ao3, cap3, rfl, -, hel3⟩ := state_elem (S := [bk]) h3
  obtain ⟨ao2, cap2, rfl, -, hel2⟩ := tube_elem h2
  obtain ⟨b1, o1, rfl, hb1, hr1⟩ := hel1 0 (by simp)
  obtain ⟨b3, o3, rfl, hb3, hr3⟩ := hel3 0 (by simp)
  have ib1 : BlockIn U.world b1 := ⟨hb1⟩
  have ib3 : BlockIn U.world b3 := ⟨hb3⟩
  have hr1' : RangeIs U.world b1 o1 15 st.cells := by simpa using hr1
  have hr3' : RangeIs U.world b3 o3 15 bk.cells := by simpa using hr3
  have Hel2 := Lib.hid hel2
  rw [htl]
  obtain ⟨l1, hl1⟩ : ∃ q : Nat, q = [st].length := ⟨_, rfl⟩
  obtain ⟨l3, hl3⟩ : ∃ q : Nat, q = [bk].length := ⟨_, rfl⟩
  rw [← hl1, ← hl3]
  have hl1n : ((l1 : Int) != 1) = false := by rw [hl1]; rfl
  have hl3n : ((l3 : Int) != 1) = false := by rw [hl3]; rfl
  have hl1p : 0 < l1 := by rw [hl1]; exact Nat.zero_lt_one
  have hl3p : 0 < l3 := by rw [hl3]; exact Nat.zero_lt_one
  clear hl1 hl3
  have hnk : -4096 ≤ (n : Int) * k ∧ (n : Int) * k ≤ 4096 := by
    have h1 : 0 ≤ (n : Int) * k := Int.mul_nonneg (by omega) (by omega)
    have h2 : (n : Int) * k ≤ 16 * 256 := Int.mul_le_mul (by omega) (by omega) (by omega) (by omega)
    omega
  have htk : tt = (n : Int) * k * 268435456 := by rw [Htt.out, Hd.out, Int.mul_assoc]
  have htk2 : -tt = -((n : Int) * k) * 268435456 := by rw [htk]; omega
  have HT := Lib.hid (fun (j : Nat) (hj : j < n) => show ∃ (tb : Tube) (t1 t2 : Int), IntKind.i64.wrap (d * (j : Int)) = t1 ∧ IntKind.i64.wrap (d * ((j : Int) + 1)) = t2 ∧ (∃ b o, ao2 = some ⟨b, o, none⟩ ∧ b < U.world.heap.size ∧ RangeIs U.world b (o + j * 16) 16 tb.cells) ∧
      (∀ i : Nat, i < 3 → ∀ w, Calls Tryz.prog 25 #[.agg #[.int .i64 0, .int .i64 tb.p.x.lo, .int .i64 tb.p.x.hi, .int .i64 tb.p.y.lo, .int .i64 tb.p.y.hi, .int .i64 tb.p.z.lo, .int .i64 tb.p.z.hi, .int .i64 tb.v.x.lo, .int .i64 tb.v.x.hi, .int .i64 tb.v.y.lo, .int .i64 tb.v.y.hi, .int .i64 tb.v.z.lo, .int .i64 tb.v.z.hi, .int .i64 tb.m.lo, .int .i64 tb.m.hi], .int .i64 i, .int .i64 (ptN pv0 pv1 pv2 i), .int .i64 (ptN vv0 vv1 vv2 i), .int .i64 (ptN gv0 gv1 gv2 i), .int .i64 t1] w (fun e w' => e = .returned (.bool true) ∧ Grew w w') ∧
        Calls Tryz.prog 25 #[.agg #[.int .i64 0, .int .i64 tb.p.x.lo, .int .i64 tb.p.x.hi, .int .i64 tb.p.y.lo, .int .i64 tb.p.y.hi, .int .i64 tb.p.z.lo, .int .i64 tb.p.z.hi, .int .i64 tb.v.x.lo, .int .i64 tb.v.x.hi, .int .i64 tb.v.y.lo, .int .i64 tb.v.y.hi, .int .i64 tb.v.z.lo, .int .i64 tb.v.z.hi, .int .i64 tb.m.lo, .int .i64 tb.m.hi], .int .i64 i, .int .i64 (ptN pv0 pv1 pv2 i), .int .i64 (ptN vv0 vv1 vv2 i), .int .i64 (ptN gv0 gv1 gv2 i), .int .i64 t2] w (fun e w' => e = .returned (.bool true) ∧ Grew w w')) from by
    have hj' : j < F.tubes.length := by omega
    have hjk : 0 ≤ (j : Int) * k ∧ (j : Int) * k ≤ 15 * 256 := by
      have h1 : 0 ≤ (j : Int) * k := Int.mul_nonneg (by omega) (by omega)
      have h2 : (j : Int) * k ≤ 15 * 256 := Int.mul_le_mul (by omega) (by omega) (by omega) (by omega)
      omega
    have e1 : d * (j : Int) = (j : Int) * k * 268435456 := by rw [Hd.out, Int.mul_comm, Int.mul_assoc]
    have e2 : d * ((j : Int) + 1) = ((j : Int) * k + k) * 268435456 := by
      have := Hd.out
      rw [Int.mul_add, e1]
      omega
    have ht := htub j hj
    have hg : F.tubes.getD j zTube = F.tubes[j] := by
      simp [List.getD_eq_getElem?_getD, List.getElem?_eq_getElem hj']
    rw [hg] at ht
    refine ⟨F.tubes[j], d * (j : Int), d * ((j : Int) + 1), wrap_in _ (by omega) (by omega), wrap_in _ (by omega) (by omega), Hel2.out j hj', fun i hi w => ⟨?_, ?_⟩⟩
    · exact HPar.out ⟨0, F.tubes[j].p, F.tubes[j].v, F.tubes[j].m⟩ i hi _ _ (by omega) e1 ht.1 w
    · exact HPar.out ⟨0, F.tubes[j].p, F.tubes[j].v, F.tubes[j].m⟩ i hi _ _ (by omega) e2 ht.2 w)
  have HC3 : ∀ i : Nat, i < 3 → U.world.cell? ⟨bG, i * 2, none⟩ = some (.int .i64 (ptN gv0 gv1 gv2 i)) ∧ U.world.cell? ⟨bG + 1, i * 2, none⟩ = some (.int .i64 (ptN pv0 pv1 pv2 i)) ∧ U.world.cell? ⟨bG + 1 + 1, i * 2, none⟩ = some (.int .i64 (ptN vv0 vv1 vv2 i)) := fun i hi => by
    match i, hi with
    | 0, _ => exact ⟨cell_is rG 0 rfl, cell_is rP 0 rfl, cell_is rV 0 rfl⟩
    | 1, _ => exact ⟨cell_is rG 2 rfl, cell_is rP 2 rfl, cell_is rV 2 rfl⟩
    | 2, _ => exact ⟨cell_is rG 4 rfl, cell_is rP 4 rfl, cell_is rV 4 rfl⟩
  have HK := Lib.hid (exact_rest bG (bG + 1) (bG + 1 + 1) (bL + 1) b1 o1 b3 o3 l1 l3 cap1 cap2 cap3 n ao2 d tt (ptN pv0 pv1 pv2) (ptN vv0 vv1 vv2) (ptN gv0 gv1 gv2) st bk w U.world U.grew iG iP iV iA ib1 ib3 hl1p hl3p n2 HC3 (cell_is rA 0 rfl) m11 hr1' hr3' (fun i hi w' => HPar.out st i hi _ tt hnk htk hon w') (fun i hi w' => HPar.out bk i hi _ (-tt) (by omega) htk2 honb w') HT.out)
  clear h1 h2 h3 H1 H2 H3 hel1 hel2 hel3 hr1 hr3 hr1' hr3' hst hbk htl htub hon honb HF HB HF1 HB1 HF2 HB2 Hel2 e f hnk htk htk2 HPar Htt Hd HT HC3 rG rP rV rA iG iP iV iA ib1 ib3
  go_upto_if 110 with (fail)
  go_simp
  go_upto_if 153 with (fail)
  go_cut [] (fun wx => wx = U.world)
  case first =>
    go_wp2
    go_meet
    case rel => rfl
  case rest =>
    obtain rfl := hcut
    go_step
    exact HK.out _ _ _ _ _ _ _ _ _ _ _ _ _ _ _ _ _ _ _ _ _ _ _ _ _ _ _ _ _ _ _ _ _ _ _ _ _ _ _ _ _ _ _ _ _ _ _ _ _ _ _ _ _ _ _ _ _ _ _ _ _ _ _ _ _ _ _ _ _ _ _ _ _ _ _ _ _ _ _ _ _ _ _ _ _ _ _ _ _ _ _ _ _ _ _ _ _ _ _ _ _ _ _ _ _ _ _ _ _ _ _ _ _ _ _ _ _ _ _ _ _ _ _ _ _ _ _ _ _ _ _ _ _ _ _ _ _ _ _ _ _ _ _ _ _ _ _ _ _ _ _ _ _ _ _ _ _ _ _ _ _ _ _ _ _ _ _ _ _ _ _ _ _ _ _ _ _ _ _ _ _ _ _ _ _ _ _ _ _ _ _ _ _ _ _ _ _ _ _ _ _ _ _ _ _ _ _ _ _ _ _ _ _ _ _ _ _ _ _ _ _ _ _ _ _ _ _ _ _ _ _ _ _ _ _ _ _ _ _ _ _ _ _ _ _ _ _ _

end Go.Proofs.YtkeifgcncmilmaaGreat
namespace Go.Proofs.YtkeifgcncmilmaaGreat
open Go.RowKit Go.ChangeShapes Go.WideShapes Go.ChangeAt Go.Deep
set_option maxRecDepth 100000
set_option maxHeartbeats 8000000
section
variable {H : Type} {enc : TypeId × Value → H} {P : Program} {w : World} {base : Nat} {spare : Nat → Bool} {held : Bool}
theorem ints_trod {fuel : Nat} {cs : List Value} {x : DataW H × List MemPlace} {t e : TypeId} {n : Nat} {k : IntKind} (ht : P.underlying t = some (.array n e)) (he : P.underlying e = some (.int k)) (hc : P.cellsOf t = n) (h1 : P.cellsOf e = 1)
    (h0 : (Lit.int k 0).wf = true) (h : DataW.trod enc P w base spare held fuel t cs = some x) : ∃ f : Nat → Int, cs = (List.range n).map (fun j => .int k (f j)) ∧ ∀ j, (Lit.int k (f j)).wf = true := by
  obtain ⟨xs, m, rfl, -, hl, hxl, hf⟩ := DataW.trod_array ht h
  rw [hc] at hl
  have H : ∀ j, ∃ y : Int, (j < n → cs[j]? = some (.int k y)) ∧ (Lit.int k y).wf = true := by
    intro j
    by_cases hj : j < n
    · have hj' := hf j hj
      rw [h1, Nat.mul_one, List.getElem?_eq_getElem (by omega)] at hj'
      obtain ⟨y, e1, -, hw⟩ := DataW.trod_int he hj'
      refine ⟨y, fun _ => ?_, hw⟩
      have : ((cs.drop j).take 1)[0]? = some (.int k y) := by rw [e1]; rfl
      simpa [List.getElem?_take, List.getElem?_drop] using this
    · exact ⟨0, fun h => absurd h hj, h0⟩
  refine ⟨fun j => Classical.choose (H j), ?_, fun j => (Classical.choose_spec (H j)).2⟩
  apply List.ext_getElem?
  intro i
  by_cases hi : i < n
  · rw [(Classical.choose_spec (H i)).1 hi]
    simp [hi]
  · rw [List.getElem?_eq_none (by omega), List.getElem?_eq_none (by simp; omega)]
end
section
variable {H : Type} {enc : TypeId × Value → H} {w : World} {base : Nat} {spare : Nat → Bool} {held : Bool}
theorem vals11 {cs : List Value} (h : cs.length = 11) : ∃ c0 c1 c2 c3 c4 c5 c6 c7 c8 c9 c10, cs = [c0, c1, c2, c3, c4, c5, c6, c7, c8, c9, c10] := by
  match cs, h with | [c0, c1, c2, c3, c4, c5, c6, c7, c8, c9, c10], _ => exact ⟨c0, c1, c2, c3, c4, c5, c6, c7, c8, c9, c10, rfl⟩
theorem throw_trod {fuel : Nat} {cs : List Value} {x : DataW H × List MemPlace} (h : DataW.trod enc Tryz.prog w base spare held fuel 70 cs = some x) :
    ∃ (p v g : Nat → Int) (a n : Int), cs = [.int .i16 (p 0), .int .i16 (p 1), .int .i16 (p 2), .int .i16 (v 0), .int .i16 (v 1), .int .i16 (v 2), .int .i16 (g 0), .int .i16 (g 1), .int .i16 (g 2), .int .u8 a, .int .u8 n] ∧ (∀ i, -32768 ≤ p i ∧ p i ≤ 32767) ∧ (∀ i, -32768 ≤ v i ∧ v i ≤ 32767) ∧ (∀ i, -32768 ≤ g i ∧ g i ≤ 32767) ∧ (0 ≤ a ∧ a ≤ 255) ∧ (0 ≤ n ∧ n ≤ 255) := by
  obtain ⟨xs, n, rfl, -, hl, hxl, hf⟩ := DataW.trod_struct Tryz.underlying70 h
  have hxl : xs.length = 5 := hxl
  have hC : Tryz.prog.cellsOf 70 = 11 := by kernel_rfl
  have hA : Tryz.prog.cellsOf 68 = 3 := by kernel_rfl
  have hB : Tryz.prog.cellsOf 5 = 1 := by kernel_rfl
  obtain ⟨c0, c1, c2, c3, c4, c5, c6, c7, c8, c9, c10, rfl⟩ := vals11 (hl.trans hC)
  have f0 : DataW.trod enc Tryz.prog w base spare held n 68 (([c0, c1, c2, c3, c4, c5, c6, c7, c8, c9, c10].drop 0).take (Tryz.prog.cellsOf 68)) = xs[0]? := hf 0 _ rfl
  have f1 : DataW.trod enc Tryz.prog w base spare held n 68 (([c0, c1, c2, c3, c4, c5, c6, c7, c8, c9, c10].drop 3).take (Tryz.prog.cellsOf 68)) = xs[1]? := hf 1 _ rfl
  have f2 : DataW.trod enc Tryz.prog w base spare held n 68 (([c0, c1, c2, c3, c4, c5, c6, c7, c8, c9, c10].drop 6).take (Tryz.prog.cellsOf 68)) = xs[2]? := hf 2 _ rfl
  have f3 : DataW.trod enc Tryz.prog w base spare held n 5 (([c0, c1, c2, c3, c4, c5, c6, c7, c8, c9, c10].drop 9).take (Tryz.prog.cellsOf 5)) = xs[3]? := hf 3 _ rfl
  have f4 : DataW.trod enc Tryz.prog w base spare held n 5 (([c0, c1, c2, c3, c4, c5, c6, c7, c8, c9, c10].drop 10).take (Tryz.prog.cellsOf 5)) = xs[4]? := hf 4 _ rfl
  rw [List.getElem?_eq_getElem (by omega), hA] at f0 f1 f2
  rw [List.getElem?_eq_getElem (by omega), hB] at f3 f4
  obtain ⟨p, e0, b0⟩ := ints_trod Tryz.underlying68 Tryz.underlying67 hA (by kernel_rfl) (by decide) f0
  obtain ⟨v, e1, b1⟩ := ints_trod Tryz.underlying68 Tryz.underlying67 hA (by kernel_rfl) (by decide) f1
  obtain ⟨g, e2, b2⟩ := ints_trod Tryz.underlying68 Tryz.underlying67 hA (by kernel_rfl) (by decide) f2
  obtain ⟨a, e3, -, b3⟩ := DataW.trod_int Tryz.underlying5 f3
  obtain ⟨k, e4, -, b4⟩ := DataW.trod_int Tryz.underlying5 f4
  simp [List.range, List.range.loop] at e0 e1 e2 e3 e4
  refine ⟨p, v, g, a, k, ?_, fun i => ?_, fun i => ?_, fun i => ?_, ?_, ?_⟩
  · simp [e0, e1, e2, e3, e4]
  · simpa [Lit.wf, IntKind.min, IntKind.max, IntKind.signed, IntKind.bits] using b0 i
  · simpa [Lit.wf, IntKind.min, IntKind.max, IntKind.signed, IntKind.bits] using b1 i
  · simpa [Lit.wf, IntKind.min, IntKind.max, IntKind.signed, IntKind.bits] using b2 i
  · simpa [Lit.wf, IntKind.min, IntKind.max, IntKind.signed, IntKind.bits] using b3
  · simpa [Lit.wf, IntKind.min, IntKind.max, IntKind.signed, IntKind.bits] using b4
end
namespace flightExactRow
open Go.ChangeShapes Go.WideShapes Go.ChangeAt Go.RowKit
theorem own : ownKnob Tryz.prog.godebug = none := by kernel_rfl
theorem lifted (os : Os) (started : os.Started) (H : Type) (enc : TypeId × Value → H) :
    ReturnsInHanded {} Tryz.checked os 6 .any (Rows.flightExactSpec.pre6 enc Tryz.prog Tryz.f6 Rows.flightExactRow.domain false) (Rows.flightExactSpec.post enc Tryz.prog Tryz.f6 false true false false) := by
  refine returnsInHanded_of_change (C := Tryz.checked) own started (by kernel_rfl) Tryz.func6
    (ChangeSpec.witness6 (enc := enc) (C := Tryz.checked) false ⟨#[], #[.agg #[.int .i16 0, .int .i16 0, .int .i16 0, .int .i16 0, .int .i16 0, .int .i16 0, .int .i16 0, .int .i16 0, .int .i16 0, .int .u8 0, .int .u8 0]], []⟩ 8 (by as_aux_lemma => kernel_rfl) (by as_aux_lemma => kernel_rfl) (by as_aux_lemma => kernel_rfl) (by as_aux_lemma => kernel_rfl)) ?_
  intro W base args ds gs before hval0 hW _ _
  have hval : ∀ (j : Nat) t v, Tryz.f6.params[j]? = some t → args[j]? = some v → Value.okWide Tryz.prog W .any base t v := hval0
  have hW' := hW
  obtain ⟨p, q, hA0, hV, rfl, hfz, hnd⟩ := hW
  have hA : DataW.TrodAll enc Tryz.prog W 0 (fun _ => true) true Tryz.f6.params.toList args.toList ds p := hA0
  rw [Tryz.params6] at hA hval
  obtain ⟨v0, vs0, d0, ds0, p0, q0, hargs, rfl, rfl, h0, r0⟩ := trodAll_cons hA
  obtain ⟨rfl, rfl, rfl⟩ := trodAll_nil r0
  obtain rfl : args = #[v0] := by cases args; simp_all
  obtain ⟨rfl, rfl⟩ := trodVars_none hV
  obtain ⟨cs0, rfl, -⟩ := okWide_struct Tryz.underlying70 (hval 0 70 v0 rfl rfl)
  obtain ⟨_, h0⟩ := h0
  obtain ⟨p, v, g, a, k, e0, q1, q2, q3, q4, q5⟩ := throw_trod h0
  obtain rfl : cs0 = #[.int .i16 (p 0), .int .i16 (p 1), .int .i16 (p 2), .int .i16 (v 0), .int .i16 (v 1), .int .i16 (v 2), .int .i16 (g 0), .int .i16 (g 1), .int .i16 (g 2), .int .u8 a, .int .u8 k] := Array.ext' (by simpa [Value.cells] using e0)
  refine (exact_walk (p 0) (p 1) (p 2) (v 0) (v 1) (v 2) (g 0) (g 1) (g 2) a k (q1 0) (q1 1) (q1 2) (q2 0) (q2 1) (q2 2) (q3 0) (q3 1) (q3 2) q4 q5 W).mono fun e W' ⟨he, hg⟩ => ?_
  subst he
  exact ⟨_, rfl, law_post (by kernel_rfl) (by kernel_rfl) rfl rfl Tryz.underlying4 hW' rfl hg⟩
theorem proved : Rows.FlightExactSaid :=
  OpenClaim.holds_of_wide 6 Tryz.f6 rfl rfl rfl rfl rfl rfl rfl ⟨rfl, rfl, rfl, rfl, rfl⟩ rfl rfl rfl rfl rfl (by as_aux_lemma => kernel_rfl) Tryz.func6 (by as_aux_lemma => kernel_rfl)
    (of_decide_eq_true (by as_aux_lemma => kernel_rfl)) (by unfold Func.isWrapper; first | (rw [if_pos (by decide +kernel)]; kernel_rfl) | (rw [if_neg (by decide +kernel)]; exact ⟨rfl, rfl⟩))
    (fun os started H enc _ => lifted os started H enc)
end flightExactRow
end Go.Proofs.YtkeifgcncmilmaaGreat
