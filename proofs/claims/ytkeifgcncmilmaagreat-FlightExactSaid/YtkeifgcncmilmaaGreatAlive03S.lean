/-
  The cells of a state, a tube, an arc, one by one.
  Contracts of layer 3's outright statements: point, of, free, alive.
-/
import Derived.Test.YtkeifgcncmilmaaGreatCoreS
import Derived.Test.YtkeifgcncmilmaaGreatFlyLawS
import Derived.Test.YtkeifgcncmilmaaGreatJointWS
import Derived.Test.YtkeifgcncmilmaaGreatHeightS
import Derived.Test.YtkeifgcncmilmaaGreatLookAllS
import Derived.Test.YtkeifgcncmilmaaGreatEqBoxS
namespace Go.Proofs.YtkeifgcncmilmaaGreat
open Go.RowKit
@[go_sem] theorem stGet0 (s : State) : s.cells[0]? = some (.int .i64 s.t) := rfl
@[go_sem] theorem stGet1 (s : State) : s.cells[1]? = some (.int .i64 s.p.x.lo) := rfl
@[go_sem] theorem stGet2 (s : State) : s.cells[2]? = some (.int .i64 s.p.x.hi) := rfl
@[go_sem] theorem stGet3 (s : State) : s.cells[3]? = some (.int .i64 s.p.y.lo) := rfl
@[go_sem] theorem stGet4 (s : State) : s.cells[4]? = some (.int .i64 s.p.y.hi) := rfl
@[go_sem] theorem stGet5 (s : State) : s.cells[5]? = some (.int .i64 s.p.z.lo) := rfl
@[go_sem] theorem stGet6 (s : State) : s.cells[6]? = some (.int .i64 s.p.z.hi) := rfl
@[go_sem] theorem stGet7 (s : State) : s.cells[7]? = some (.int .i64 s.v.x.lo) := rfl
@[go_sem] theorem stGet8 (s : State) : s.cells[8]? = some (.int .i64 s.v.x.hi) := rfl
@[go_sem] theorem stGet9 (s : State) : s.cells[9]? = some (.int .i64 s.v.y.lo) := rfl
@[go_sem] theorem stGet10 (s : State) : s.cells[10]? = some (.int .i64 s.v.y.hi) := rfl
@[go_sem] theorem stGet11 (s : State) : s.cells[11]? = some (.int .i64 s.v.z.lo) := rfl
@[go_sem] theorem stGet12 (s : State) : s.cells[12]? = some (.int .i64 s.v.z.hi) := rfl
@[go_sem] theorem stGet13 (s : State) : s.cells[13]? = some (.int .i64 s.m.lo) := rfl
@[go_sem] theorem stGet14 (s : State) : s.cells[14]? = some (.int .i64 s.m.hi) := rfl
@[go_sem] theorem tbGet0 (s : Tube) : s.cells[0]? = some (.int .i64 s.a) := rfl
@[go_sem] theorem tbGet1 (s : Tube) : s.cells[1]? = some (.int .i64 s.z) := rfl
@[go_sem] theorem tbGet2 (s : Tube) : s.cells[2]? = some (.int .i64 s.p.x.lo) := rfl
@[go_sem] theorem tbGet3 (s : Tube) : s.cells[3]? = some (.int .i64 s.p.x.hi) := rfl
@[go_sem] theorem tbGet4 (s : Tube) : s.cells[4]? = some (.int .i64 s.p.y.lo) := rfl
@[go_sem] theorem tbGet5 (s : Tube) : s.cells[5]? = some (.int .i64 s.p.y.hi) := rfl
@[go_sem] theorem tbGet6 (s : Tube) : s.cells[6]? = some (.int .i64 s.p.z.lo) := rfl
@[go_sem] theorem tbGet7 (s : Tube) : s.cells[7]? = some (.int .i64 s.p.z.hi) := rfl
@[go_sem] theorem tbGet8 (s : Tube) : s.cells[8]? = some (.int .i64 s.v.x.lo) := rfl
@[go_sem] theorem tbGet9 (s : Tube) : s.cells[9]? = some (.int .i64 s.v.x.hi) := rfl
@[go_sem] theorem tbGet10 (s : Tube) : s.cells[10]? = some (.int .i64 s.v.y.lo) := rfl
@[go_sem] theorem tbGet11 (s : Tube) : s.cells[11]? = some (.int .i64 s.v.y.hi) := rfl
@[go_sem] theorem tbGet12 (s : Tube) : s.cells[12]? = some (.int .i64 s.v.z.lo) := rfl
@[go_sem] theorem tbGet13 (s : Tube) : s.cells[13]? = some (.int .i64 s.v.z.hi) := rfl
@[go_sem] theorem tbGet14 (s : Tube) : s.cells[14]? = some (.int .i64 s.m.lo) := rfl
@[go_sem] theorem tbGet15 (s : Tube) : s.cells[15]? = some (.int .i64 s.m.hi) := rfl
@[go_sem] theorem arGet0 (s : Arc) : s.cells[0]? = some (.int .i64 s.time) := rfl
@[go_sem] theorem arGet1 (s : Arc) : s.cells[1]? = some (.int .i64 s.step) := rfl
@[go_sem] theorem arGet2 (s : Arc) : s.cells[2]? = some (.int .i64 s.thrust.lo) := rfl
@[go_sem] theorem arGet3 (s : Arc) : s.cells[3]? = some (.int .i64 s.thrust.hi) := rfl
@[go_sem] theorem arGet4 (s : Arc) : s.cells[4]? = some (.int .i64 s.flow.lo) := rfl
@[go_sem] theorem arGet5 (s : Arc) : s.cells[5]? = some (.int .i64 s.flow.hi) := rfl
@[go_sem] theorem arGet6 (s : Arc) : s.cells[6]? = some (.int .i64 s.dir.x.lo) := rfl
@[go_sem] theorem arGet7 (s : Arc) : s.cells[7]? = some (.int .i64 s.dir.x.hi) := rfl
@[go_sem] theorem arGet8 (s : Arc) : s.cells[8]? = some (.int .i64 s.dir.y.lo) := rfl
@[go_sem] theorem arGet9 (s : Arc) : s.cells[9]? = some (.int .i64 s.dir.y.hi) := rfl
@[go_sem] theorem arGet10 (s : Arc) : s.cells[10]? = some (.int .i64 s.dir.z.lo) := rfl
@[go_sem] theorem arGet11 (s : Arc) : s.cells[11]? = some (.int .i64 s.dir.z.hi) := rfl
@[go_sem] theorem arGet12 (s : Arc) : s.cells[12]? = some (.slice s.drag.ao s.drag.n s.drag.cap) := rfl
@[go_sem] theorem arGet13 (s : Arc) : s.cells[13]? = some (.int .i64 s.drop.lo) := rfl
@[go_sem] theorem arGet14 (s : Arc) : s.cells[14]? = some (.int .i64 s.drop.hi) := rfl
end Go.Proofs.YtkeifgcncmilmaaGreat
namespace Go.Proofs.YtkeifgcncmilmaaGreat
open Go.RowKit Go.Shelf
set_option maxRecDepth 100000
set_option maxHeartbeats 16000000
theorem l3Point_any (n : Int) (w : World) : Calls Tryz.prog 23 #[.int .i64 n] w fun e w' => e = .returned (.agg #[.int .i64 n, .int .i64 n]) ∧ Grew w w' := by
  go_enter Tryz.func23, Tryz.ntmps23
  go_wp2
  refine bodyPost_ret (by (simp [results, Tryz.results23, go_sem] <;> rfl)) rfl ?_
  exact ⟨rfl, gw⟩
theorem l3Of_any (x y z : Int) (w : World) : Calls Tryz.prog 43 #[.int .i64 x, .int .i64 y, .int .i64 z] w fun e w' => e = .returned (.agg #[.int .i64 x, .int .i64 x, .int .i64 y, .int .i64 y, .int .i64 z, .int .i64 z]) ∧ Grew w w' := by
  go_enter Tryz.func43, Tryz.ntmps43
  go_wp2_with (first | (go_at_call 23; (with_reducible refine call_later (l3Point_any _ _) ?_); intro u) | ((with_reducible refine wp_region_later ?_ ?_ ?_); (· kernel_rfl); (· kernel_rfl); (try simp only [List.append_eq, List.cons_append, List.nil_append]); (repeat (go_big_quiet_step ((first | (go_at_call 23; (with_reducible exact call_quiet (l3Point_any _ _))))))); refine wpQuiet_nil ?_; rintro _ ⟨u, rfl⟩))
  refine bodyPost_ret (by (simp [results, Tryz.results43, go_sem] <;> rfl)) rfl ?_
  exact ⟨rfl, gw⟩

/-- A planet that only pulls, and an arc without forces. -/
def freeP (b : Bx) : Planet := ⟨⟨0, 0⟩, ⟨0, 0⟩, ⟨0, 0⟩, ⟨0, 0⟩, b⟩
def freeA : Arc := ⟨68719476736, 68719476736, ⟨0, 0⟩, ⟨0, 0⟩, zBx, ⟨none, 0, 0⟩, ⟨0, 0⟩⟩
theorem built_free (a b c d e f : Int) : Tryz.prog.built 43 [(4, .agg #[.int .i64 a, .int .i64 b, .int .i64 c, .int .i64 d, .int .i64 e, .int .i64 f])] = some (freeP ⟨⟨a, b⟩, ⟨c, d⟩, ⟨e, f⟩⟩).cells.toArray := by kernel_rfl
theorem built_freeA : Tryz.prog.built 48 [(0, .int .i64 68719476736), (1, .int .i64 68719476736)] = some freeA.cells.toArray := by kernel_rfl
instance built_fp (a b c d e f : Int) : Built 43 [(4, .agg #[.int .i64 a, .int .i64 b, .int .i64 c, .int .i64 d, .int .i64 e, .int .i64 f])] (freeP ⟨⟨a, b⟩, ⟨c, d⟩, ⟨e, f⟩⟩).cells := ⟨built_free a b c d e f⟩
instance built_fa : Built 48 [(0, .int .i64 68719476736), (1, .int .i64 68719476736)] freeA.cells := ⟨built_freeA⟩
instance plCells_one (p : Planet) : OneCells p.cells 14 := by unfold Planet.cells; infer_instance
instance arCells_one (x : Arc) : OneCells x.cells 15 := by unfold Arc.cells; infer_instance
theorem res_cc {fn : Func} {tmps : Array Value} {W : World} {p q : Tmp} {ty t ty2 t2 : TypeId} {b n b2 n2 : Nat} {l l2 : List Value} (h : fn.results = #[.cell p ty, .cell q ty2]) (hp : tmps.getD p undef = .pointer (some ⟨b, 0, none⟩)) (hq : tmps.getD q undef = .pointer (some ⟨b2, 0, none⟩)) (hs : StructTy ty n) (hr : RowIs W b t l) (hl : CLen l n) (hs2 : StructTy ty2 n2) (hr3 : RowIs W b2 t2 l2) (hl2 : CLen l2 n2) :
    (results fn tmps).run Tryz.prog W = .ok (.tuple #[.agg l.toArray, .agg l2.toArray]) W := by
  have h3 := loadVar_is (ty := ty) hs hr hl.len
  have h4 := loadVar_is (ty := ty2) hs2 hr3 hl2.len
  simp only [Array.getD_eq_getD_getElem?] at hp hq
  simp [results, h, asAddr, hp, hq, h3, h4]
theorem l3Free_any (b : Bx) (w : World) : Calls Tryz.prog 24 #[.agg #[.int .i64 b.x.lo, .int .i64 b.x.hi, .int .i64 b.y.lo, .int .i64 b.y.hi, .int .i64 b.z.lo, .int .i64 b.z.hi]] w fun e w' => e = .returned (.tuple #[.agg (freeP b).cells.toArray, .agg freeA.cells.toArray]) ∧ Grew w w' := by
  go_enter Tryz.func24, Tryz.ntmps24
  go_wp2_with (first | ((with_reducible refine wpList_built ?_ ?_ ?_ ?_ ?_ ?_ ?_ ?_ ?_); rotate_left 4; (· rfl); (· rfl); (· rfl); (· infer_instance)) | ((with_reducible refine wpList_load_is ?_ ?_ ?_ ?_ ?_ ?_ ?_ ?_ ?_ ?_ ?_ ?_ ?_); rotate_left 6; (· rfl); (· rfl); (· rfl); (· infer_instance); (· infer_instance); (· rfl)) | ((with_reducible refine wpList_store_is ?_ ?_ ?_ ?_ ?_ ?_ ?_ ?_ ?_ ?_ ?_ ?_ ?_ ?_ ?_ ?_ ?_); rotate_left 7; (· rfl); (· rfl); (· rfl); (· rfl); (· rfl); (· infer_instance); (· infer_instance); (· infer_instance); (· infer_instance)))
  refine bodyPost_ret (res_cc Tryz.results24 rfl rfl inferInstance inferInstance inferInstance inferInstance inferInstance inferInstance) rfl ?_
  exact ⟨rfl, gwr⟩
/-! The chapter's first examples. -/
def exPull : Bx := ⟨⟨0, 0⟩, ⟨0, 0⟩, ⟨-33554432, -33554432⟩⟩
def exPl : Planet := freeP exPull
def exSt : State := ⟨0, zBx, ⟨⟨4294967296, 4294967296⟩, ⟨0, 0⟩, ⟨4294967296, 4294967296⟩⟩, ⟨4294967296, 4294967296⟩⟩
def exTube : Tube := (stepRR exPl freeA [] exSt 68719476736).t
theorem ex_step : stepRR exPl freeA [] exSt 68719476736 = ⟨(⟨68719476736, ⟨⟨68719476736, 68719476736⟩, ⟨0, 0⟩, ⟨64424509440, 64424509440⟩⟩, ⟨⟨4294967296, 4294967296⟩, ⟨0, 0⟩, ⟨3758096384, 3758096384⟩⟩, ⟨4294967296, 4294967296⟩⟩ : State), exTube, 0⟩ := by kernel_rfl
theorem ex_to : exTube.z = 68719476736 := by kernel_rfl
theorem built_exSt : Tryz.prog.built 28 [(2, .agg #[.int .i64 4294967296, .int .i64 4294967296, .int .i64 0, .int .i64 0, .int .i64 4294967296, .int .i64 4294967296]), (3, .agg #[.int .i64 4294967296, .int .i64 4294967296])] = some exSt.cells.toArray := by kernel_rfl
instance built_exs : Built 28 [(2, .agg #[.int .i64 4294967296, .int .i64 4294967296, .int .i64 0, .int .i64 0, .int .i64 4294967296, .int .i64 4294967296]), (3, .agg #[.int .i64 4294967296, .int .i64 4294967296])] exSt.cells := ⟨built_exSt⟩
theorem pl64_free (b : Bx) [h : B64 b] : Pl64 (freeP b) := ⟨⟨i64c rfl, i64c rfl⟩, ⟨i64c rfl, i64c rfl⟩, ⟨i64c rfl, i64c rfl⟩, ⟨i64c rfl, i64c rfl⟩, h⟩
attribute [local go_sem] ex_to
theorem exSt64 : St64 exSt := ⟨i64c rfl, ⟨⟨i64c rfl, i64c rfl⟩, ⟨i64c rfl, i64c rfl⟩, ⟨i64c rfl, i64c rfl⟩⟩, ⟨⟨i64c rfl, i64c rfl⟩, ⟨i64c rfl, i64c rfl⟩, ⟨i64c rfl, i64c rfl⟩⟩, ⟨i64c rfl, i64c rfl⟩⟩
theorem exPl64 : Pl64 exPl := ⟨⟨i64c rfl, i64c rfl⟩, ⟨i64c rfl, i64c rfl⟩, ⟨i64c rfl, i64c rfl⟩, ⟨i64c rfl, i64c rfl⟩, ⟨⟨i64c rfl, i64c rfl⟩, ⟨i64c rfl, i64c rfl⟩, ⟨i64c rfl, i64c rfl⟩⟩⟩
theorem freeA64 : S64 freeA.thrust ∧ S64 freeA.flow ∧ B64 freeA.dir := ⟨⟨i64c rfl, i64c rfl⟩, ⟨i64c rfl, i64c rfl⟩, ⟨⟨i64c rfl, i64c rfl⟩, ⟨i64c rfl, i64c rfl⟩, ⟨i64c rfl, i64c rfl⟩⟩⟩
theorem exStep_any (w : World) : Calls Tryz.prog 44 #[.agg exPl.cells.toArray, .agg freeA.cells.toArray, .agg exSt.cells.toArray, .int .i64 68719476736] w (RetS3 ⟨(⟨68719476736, ⟨⟨68719476736, 68719476736⟩, ⟨0, 0⟩, ⟨64424509440, 64424509440⟩⟩, ⟨⟨4294967296, 4294967296⟩, ⟨0, 0⟩, ⟨3758096384, 3758096384⟩⟩, ⟨4294967296, 4294967296⟩⟩ : State), exTube, 0⟩ w) := by
  have hp := exPl64
  have hs := exSt64
  obtain ⟨h1, h2, h3⟩ := freeA64
  have hh : S64 (⟨68719476736, 68719476736⟩ : Sp) := ⟨i64c rfl, i64c rfl⟩
  have h := flStepE_any look_any exPl freeA [] exSt 68719476736 w (SlAt.nil w)
  rw [ex_step] at h
  exact h
theorem built_exR (a b : Int) : Tryz.prog.built 43 [(1, .agg #[.int .i64 a, .int .i64 b])] = some #[.int .i64 0, .int .i64 0, .int .i64 a, .int .i64 b, .int .i64 0, .int .i64 0, .int .i64 0, .int .i64 0, .int .i64 0, .int .i64 0, .int .i64 0, .int .i64 0, .int .i64 0, .int .i64 0] := by kernel_rfl
instance built_exr (a b : Int) : Built 43 [(1, .agg #[.int .i64 a, .int .i64 b])] [.int .i64 0, .int .i64 0, .int .i64 a, .int .i64 b, .int .i64 0, .int .i64 0, .int .i64 0, .int .i64 0, .int .i64 0, .int .i64 0, .int .i64 0, .int .i64 0, .int .i64 0, .int .i64 0] := ⟨built_exR a b⟩
def exBall : Planet := ⟨⟨0, 0⟩, ⟨25769803776, 25769803776⟩, ⟨0, 0⟩, ⟨0, 0⟩, zBx⟩
def exPlace : Bx := ⟨⟨12884901888, 12884901888⟩, ⟨17179869184, 17179869184⟩, ⟨51539607552, 51539607552⟩⟩
theorem ex_height : heightR exBall exPlace = ⟨⟨30064771072, 30064771072⟩, 0⟩ := by kernel_rfl
theorem exHeight_any (w : World) : Calls Tryz.prog 45 #[.agg #[.int .i64 0, .int .i64 0, .int .i64 25769803776, .int .i64 25769803776, .int .i64 0, .int .i64 0, .int .i64 0, .int .i64 0, .int .i64 0, .int .i64 0, .int .i64 0, .int .i64 0, .int .i64 0, .int .i64 0], .agg #[.int .i64 12884901888, .int .i64 12884901888, .int .i64 17179869184, .int .i64 17179869184, .int .i64 51539607552, .int .i64 51539607552]] w fun e w' => e = .returned (.tuple #[.agg #[.int .i64 30064771072, .int .i64 30064771072], .int .i64 0]) ∧ Grew w w' := by
  have hp : Pl64 exBall := ⟨⟨i64c rfl, i64c rfl⟩, ⟨i64c rfl, i64c rfl⟩, ⟨i64c rfl, i64c rfl⟩, ⟨i64c rfl, i64c rfl⟩, ⟨⟨i64c rfl, i64c rfl⟩, ⟨i64c rfl, i64c rfl⟩, ⟨i64c rfl, i64c rfl⟩⟩⟩
  have hb : B64 exPlace := ⟨⟨i64c rfl, i64c rfl⟩, ⟨i64c rfl, i64c rfl⟩, ⟨i64c rfl, i64c rfl⟩⟩
  have h := flHeight_any exBall exPlace w
  rw [ex_height] at h
  exact h
theorem exFree_any (w : World) : Calls Tryz.prog 24 #[.agg #[.int .i64 0, .int .i64 0, .int .i64 0, .int .i64 0, .int .i64 (-33554432), .int .i64 (-33554432)]] w fun e w' => e = .returned (.tuple #[.agg exPl.cells.toArray, .agg freeA.cells.toArray]) ∧ Grew w w' := l3Free_any exPull w
theorem eqBoxT (x0 x1 x2 x3 x4 x5 : Int) (w : World) :
    (Op.equalIn 10000 26 (.agg #[.int .i64 x0, .int .i64 x1, .int .i64 x2, .int .i64 x3, .int .i64 x4, .int .i64 x5]) (.agg #[.int .i64 x0, .int .i64 x1, .int .i64 x2, .int .i64 x3, .int .i64 x4, .int .i64 x5])).run Tryz.prog w = .ok true w := by
  obtain ⟨i, hi⟩ := Option.isSome_iff_exists.1 spanInfo
  rw [run_equalIn_array w 9999 _ _ Tryz.underlying26 hi]
  have hC : Tryz.prog.cellsOf 24 = 2 := by kernel_rfl
  rw [hC]
  have hr : List.range 3 = [0, 1, 2] := rfl
  rw [hr]
  simp [go_sem, Op.eqItems]
instance newFor_setRowA (a w : World) (b : Nat) (cs : Array Value) [h : NewFor a w.heap.size] : NewFor a (w.setRow b cs).heap.size := ⟨by have := h.le; simpa [World.setRow] using this⟩
theorem l3Alive_any (w : World) : Calls Tryz.prog 19 #[] w fun e w' => e = .returned (.bool true) ∧ Grew w w' := by
  have hEq := eqBoxT
  go_enter Tryz.func19, Tryz.ntmps19
  go_wp2_with (first | (go_at_call 43; (with_reducible refine call_later (l3Of_any _ _ _ _) ?_); intro u) | (go_at_call 23; (with_reducible refine call_later (l3Point_any _ _) ?_); intro u) | (go_at_call 24; (with_reducible refine call_later (exFree_any _) ?_); intro u) | (go_at_call 45; (with_reducible refine call_later (exHeight_any _) ?_); intro u) | (go_at_call 44; refine (exStep_any _).mono ?_; rintro en w2 ⟨rfl, hg⟩; obtain ⟨u9, rfl⟩ := later_of hg; clear hg) | ((with_reducible refine wpList_built ?_ ?_ ?_ ?_ ?_ ?_ ?_ ?_ ?_); rotate_left 4; (· rfl); (· rfl); (· rfl); (· infer_instance)) | ((with_reducible refine wpList_load_rng ?_ ?_ ?_ ?_ ?_ ?_ ?_ ?_ ?_ ?_ ?_ ?_); rotate_left 6; (· rfl); (· rfl); (· rfl); (· infer_instance); (· infer_instance)) | ((with_reducible refine wpList_load_is ?_ ?_ ?_ ?_ ?_ ?_ ?_ ?_ ?_ ?_ ?_ ?_ ?_); rotate_left 6; (· rfl); (· rfl); (· rfl); (· infer_instance); (· infer_instance); (· rfl)) | ((with_reducible refine wpList_store_fresh ?_ ?_ ?_ ?_ ?_ ?_ ?_ ?_ ?_ ?_ ?_ ?_ ?_ ?_ ?_ ?_ ?_); rotate_left 5; (· rfl); (· rfl); (· rfl); (· rfl); (· rfl); (· infer_instance); (· infer_instance); (· infer_instance); (· infer_instance)) | ((with_reducible refine wpList_store_is ?_ ?_ ?_ ?_ ?_ ?_ ?_ ?_ ?_ ?_ ?_ ?_ ?_ ?_ ?_ ?_ ?_); rotate_left 7; (· rfl); (· rfl); (· rfl); (· rfl); (· rfl); (· infer_instance); (· infer_instance); (· infer_instance); (· infer_instance)) | ((with_reducible refine wp_region_later ?_ ?_ ?_); (· kernel_rfl); (· kernel_rfl); (try simp only [List.append_eq, List.cons_append, List.nil_append]); (repeat (go_big_quiet_step ((first | (go_at_call 43; (with_reducible exact call_quiet (l3Of_any _ _ _ _))) | (go_at_call 23; (with_reducible exact call_quiet (l3Point_any _ _))) | (go_at_call 24; (with_reducible exact call_quiet (exFree_any _))) | (go_at_call 45; (with_reducible exact call_quiet (exHeight_any _))))))); refine wpQuiet_nil ?_; rintro _ ⟨u, rfl⟩))
  all_goals go_ret
  all_goals exact ⟨rfl, gwr⟩
end Go.Proofs.YtkeifgcncmilmaaGreat
