/-
  Contracts of layer 4's outright statements: simple, alive.
-/
import Derived.Test.YtffbipcdlnfihaaAscG
import Derived.Test.YtffbipcdlnfihaaOften
namespace Go.Proofs.Ytffbipcdlnfihaa
open Go.RowKit Go.Shelf
set_option maxRecDepth 100000
set_option maxHeartbeats 8000000
set_option linter.unusedSimpArgs false
def simS : State := ⟨0, zeroB, zeroB, ⟨34359738368, 34359738368⟩⟩
def simS2 : State := ⟨0, ⟨⟨0, 0⟩, ⟨0, 0⟩, ⟨4294967296, 4294967296⟩⟩, zeroB, ⟨34359738368, 34359738368⟩⟩
def simA : Arc := ⟨34359738368, 8589934592, ⟨268435456, 268435456⟩, ⟨1073741824, 1073741824⟩, zeroB, ⟨none, 0, 0⟩, ⟨0, 0⟩⟩
def simPart : PartV := ⟨simA, [], ⟨4294967296, 4294967296⟩, ⟨2147483648, 4294967296⟩⟩
def simP : Planet := ⟨⟨0, 0⟩, ⟨0, 0⟩, ⟨0, 0⟩, ⟨0, 0⟩, zeroB⟩
def sim0 : TaskV := ⟨simP, simS, zeroB, zeroB, ⟨none, 0, 0⟩, ⟨none, 0, 0⟩, 4294967296, 4294967296, ⟨0, 0⟩, ⟨0, 0⟩, ⟨0, 0⟩, 0⟩
def wideS : Sp := ⟨-17179869184, 17179869184⟩
def simT (b : Nat) : TaskV := ⟨simP, simS2, ⟨⟨4294967296, 4294967296⟩, ⟨0, 0⟩, ⟨0, 0⟩⟩, ⟨⟨0, 0⟩, ⟨0, 0⟩, ⟨4294967296, 4294967296⟩⟩, ⟨some ⟨b, 0, none⟩, 1, 1⟩, ⟨none, 0, 0⟩, 4294967296, 4294967296, wideS, wideS, wideS, 0⟩
theorem built_simS : Try.prog.built 46 [(3, .agg #[.int .i64 34359738368, .int .i64 34359738368])] = some simS.cells.toArray := by kernel_rfl
instance built_sims : Built 46 [(3, .agg #[.int .i64 34359738368, .int .i64 34359738368])] simS.cells := ⟨built_simS⟩
theorem built_sim0 : Try.prog.built 50 [(1, .agg simS.cells.toArray), (6, .int .i64 4294967296), (7, .int .i64 4294967296)] = some sim0.cells.toArray := by kernel_rfl
instance built_sim0s : Built 50 [(1, .agg simS.cells.toArray), (6, .int .i64 4294967296), (7, .int .i64 4294967296)] sim0.cells := ⟨built_sim0⟩
theorem built_simA : Try.prog.built 72 [(0, .int .i64 34359738368), (1, .int .i64 8589934592), (2, .agg #[.int .i64 268435456, .int .i64 268435456]), (3, .agg #[.int .i64 1073741824, .int .i64 1073741824])] = some simA.cells.toArray := by kernel_rfl
instance built_simAs : Built 72 [(0, .int .i64 34359738368), (1, .int .i64 8589934592), (2, .agg #[.int .i64 268435456, .int .i64 268435456]), (3, .agg #[.int .i64 1073741824, .int .i64 1073741824])] simA.cells := ⟨built_simA⟩
def RetSim (w : World) (e : Ending) (w' : World) : Prop := ∃ b, e = .returned (.agg (simT b).cells.toArray) ∧ PartsAt w' (.slice (some ⟨b, 0, none⟩) 1 1) [simPart] ∧ Grew w w'
def sim1 : TaskV := ⟨simP, simS2, ⟨⟨4294967296, 4294967296⟩, ⟨0, 0⟩, ⟨0, 0⟩⟩, ⟨⟨0, 0⟩, ⟨0, 0⟩, ⟨4294967296, 4294967296⟩⟩, ⟨none, 0, 0⟩, ⟨none, 0, 0⟩, 4294967296, 4294967296, ⟨0, 0⟩, ⟨0, 0⟩, ⟨0, 0⟩, 0⟩
def zeroT : TaskV := ⟨simP, ⟨0, zeroB, zeroB, ⟨0, 0⟩⟩, zeroB, zeroB, ⟨none, 0, 0⟩, ⟨none, 0, 0⟩, 0, 0, ⟨0, 0⟩, ⟨0, 0⟩, ⟨0, 0⟩, 0⟩
instance cLen_task (t : TaskV) : CLen t.cells 52 := ⟨rfl⟩
instance rowOf_isT (w : World) (b : Nat) (t : TypeId) (l : List Value) (n : Nat) [h : RowIs w b t l] [k : CLen l n] : RowOf w b t n := ⟨_, h.is, by simp [k.len]⟩
instance tkCells_one (t : TaskV) : OneCells t.cells 52 := by unfold TaskV.cells; infer_instance
def sim2 (b : Nat) : TaskV := { sim1 with parts := ⟨some ⟨b, 0, none⟩, 1, 1⟩ }
theorem slAt_row {w : World} {b : Nat} {t : TypeId} {l : List Value} (h : RowIs w b t l) : SlAt w (.slice (some ⟨b, 0, none⟩) 1 1) 1 l := ⟨_, _, rfl, by simp [maxLen], fun i x hx => ⟨b, 0, rfl, by rw [Nat.zero_add, cell_rowIs, hx]⟩⟩
theorem parts_row {w : World} {b : Nat} {t : TypeId} {x : PartV} (h : RowIs w b t x.cells) (hd : DragAt w x.a x.l) : PartsAt w (.slice (some ⟨b, 0, none⟩) 1 1) [x] := ⟨by simpa using slAt_row h, fun y hy => by obtain rfl := List.mem_singleton.1 hy; exact hd⟩
theorem l4Simple_any (w : World) : Calls Try.prog 15 #[] w (RetSim w) := by
  go_enter Try.func15, Try.ntmps15
  go_upto_region 2 with (first | (go_at_call 31; (with_reducible refine call_later (l4Point_any _ _) ?_); intro u1) | ((with_reducible refine wpList_built ?_ ?_ ?_ ?_ ?_ ?_ ?_ ?_ ?_); rotate_left 4; (· rfl); (· rfl); (· rfl); (· infer_instance)) | (with_reducible refine wLr ?_) | (with_reducible refine wLi ?_) | (with_reducible refine wSf ?_) | (with_reducible refine wSi ?_))
  go_upto_region 6 with (first | (go_at_call 31; (with_reducible refine call_later (l4Point_any _ _) ?_); intro u2) | ((with_reducible refine wpList_built ?_ ?_ ?_ ?_ ?_ ?_ ?_ ?_ ?_); rotate_left 4; (· rfl); (· rfl); (· rfl); (· infer_instance)) | (with_reducible refine wLr ?_) | (with_reducible refine wLi ?_) | (with_reducible refine wSf ?_) | (with_reducible refine wSi ?_))
  refine wp_rawG fun Y hY => ?_
  have rT : RowIs Y u1.world.heap.size 50 sim1.cells := by rw [hY]; exact row_asA inferInstance rfl
  have rA : RowIs Y u2.world.heap.size 72 [.int .i64 34359738368, .int .i64 8589934592, .int .i64 268435456, .int .i64 268435456, .int .i64 1073741824, .int .i64 1073741824, .int .i64 0, .int .i64 0, .int .i64 0, .int .i64 0, .int .i64 0, .int .i64 0, .slice none 0 0, .int .i64 0, .int .i64 0] := by rw [hY]; infer_instance
  have rR : RowIs Y w.heap.size 50 zeroT.cells := by rw [hY]; exact row_asA inferInstance rfl
  have gY : Grew w Y := by rw [hY]; exact gw
  have n1 : NewFor w u1.world.heap.size := inferInstance
  clear hY
  obtain ⟨y, rfl⟩ := later_of gY
  clear gY
  have iT := rT.blockIn
  have iA := rA.blockIn
  have iR := rR.blockIn
  go_cut [] (fun wx => ∃ b, RowIs wx u1.world.heap.size 50 (sim2 b).cells ∧ RowIs wx w.heap.size 50 zeroT.cells ∧ RowIs wx b 74 simPart.cells ∧ Apart b u1.world.heap.size ∧ Apart b w.heap.size ∧ Grew w wx)
  case first =>
    go_region_with (first | (go_at_call 31; (with_reducible refine call_later (l4Point_any _ _) ?_); intro u3) | ((with_reducible refine wpList_built ?_ ?_ ?_ ?_ ?_ ?_ ?_ ?_ ?_); rotate_left 4; (· rfl); (· rfl); (· rfl); (· infer_instance)) | (with_reducible refine wLr ?_) | (with_reducible refine wLi ?_))
    all_goals (go_wp2; go_meet; (case rel => exact ⟨u3.world.heap.size, row_asA inferInstance rfl, inferInstance, row_asA inferInstance rfl, inferInstance, inferInstance, gw⟩))
  case rest =>
    clear rT rR rA iT iA iR
    obtain ⟨b, rT, rR, rB, ap, ap2, hg⟩ := hcut
    obtain ⟨z, rfl⟩ := later_of hg
    clear hg
    have iT := rT.blockIn
    have iR := rR.blockIn
    have iB := rB.blockIn
    have c45 : (sim2 b).cells[45]? = some (.int .i64 0) := rfl
    have c46 : (sim2 b).cells[46]? = some (.int .i64 0) := rfl
    have c47 : (sim2 b).cells[47]? = some (.int .i64 0) := rfl
    have c48 : (sim2 b).cells[48]? = some (.int .i64 0) := rfl
    have c49 : (sim2 b).cells[49]? = some (.int .i64 0) := rfl
    have c50 : (sim2 b).cells[50]? = some (.int .i64 0) := rfl
    go_upto_region 8 with (first | ((with_reducible refine wpList_built ?_ ?_ ?_ ?_ ?_ ?_ ?_ ?_ ?_); rotate_left 4; (· rfl); (· rfl); (· rfl); (· infer_instance)) | (with_reducible refine wLr ?_) | (with_reducible refine wLi ?_) | (with_reducible refine wSf ?_))
    go_cut [] (fun wx => RowIs wx u1.world.heap.size 50 (simT b).cells ∧ RowIs wx w.heap.size 50 zeroT.cells ∧ RowIs wx b 74 simPart.cells ∧ Grew w wx)
    case first =>
      go_region
      all_goals (go_wp2; go_meet; (case rel => exact ⟨row_asA inferInstance rfl, inferInstance, inferInstance, gw⟩))
    case rest =>
      clear rT rR iT iR rB iB c45 c46 c47 c48 c49 c50
      obtain ⟨rT, rR, rB, hg⟩ := hcut
      have iT := rT.blockIn
      have iR := rR.blockIn
      go_wp2_with (first | (with_reducible refine wLi ?_) | (with_reducible refine wSi ?_))
      refine bodyPost_ret (res_one Try.results15 rfl inferInstance inferInstance inferInstance) rfl ?_
      exact ⟨b, rfl, parts_row inferInstance (SlAt.nil _), gwr⟩
/-- The ranges of the part. -/
def simKnob : KnobV := ⟨⟨4294967296, 4294967296⟩, ⟨2147483648, 4294967296⟩⟩
theorem sim_task (b : Nat) : taskB (simT b) [simPart] [] = true := by kernel_rfl
theorem sim_cell : cellB [simPart] [simKnob] = true := by kernel_rfl
theorem sim_cost : costR [simPart] [simKnob] = ⟨⟨4294967296, 8589934592⟩, 0⟩ := by kernel_rfl
theorem sim_often : oftenV 4 0 1 6 2 1 = 1 ∧ pairE 4 0 1 6 2 1 = 0 := by decide +kernel
theorem simPa (x : PartV) (h : x ∈ [simPart]) : Pa64 x := by
  obtain rfl := List.mem_singleton.1 h
  exact ⟨⟨by unfold I64; decide, by unfold I64; decide⟩, ⟨by unfold I64; decide, by unfold I64; decide⟩, ⟨by unfold I64; decide, by unfold I64; decide⟩⟩
theorem simKa (x : KnobV) (h : x ∈ [simKnob]) : Ka64 x := by
  obtain rfl := List.mem_singleton.1 h
  exact ⟨⟨by unfold I64; decide, by unfold I64; decide⟩, ⟨by unfold I64; decide, by unfold I64; decide⟩⟩
theorem simWhole_any (b : Nat) (w : World) (hp : PartsAt w (.slice (some ⟨b, 0, none⟩) 1 1) [simPart]) : Calls Try.prog 16 #[.agg (simT b).cells.toArray] w (RetKnE [simKnob] 0 w) := by
  have h := ascWhole_any (simT b) [simPart] [] w hp (SlAt.nil w)
  unfold wholeL at h
  rw [sim_task b] at h
  exact h
theorem simCost_any (b : Nat) (w : World) (hp : PartsAt w (.slice (some ⟨b, 0, none⟩) 1 1) [simPart]) (ao : Option Addr) (cap : Nat) (hk : SlAt w (.slice ao 1 cap) 1 simKnob.cells) : Calls Try.prog 17 #[.agg (simT b).cells.toArray, .slice ao 1 cap] w fun e w' => e = .returned (.tuple #[.agg #[.int .i64 4294967296, .int .i64 8589934592], .int .i64 0]) ∧ Grew w w' := by
  have h := ascCost_any (simT b) [simPart] [] [simKnob] w hp (SlAt.nil w) ao cap (by simpa using hk) simPa simKa
  unfold costRR at h
  rw [sim_task b, sim_cell, if_pos (by rfl), sim_cost] at h
  exact h
theorem simOften_any (w : World) : Calls Try.prog 7 #[.agg #[.int .i64 4, .int .i64 0, .int .i64 1], .agg #[.int .i64 6, .int .i64 2, .int .i64 1]] w fun e w' => e = .returned (.tuple #[.int .i64 1, .int .i64 0]) ∧ Grew w w' := by
  have h := often_any 4 0 1 6 2 1 w
  rw [sim_often.1, sim_often.2] at h
  exact h
theorem l4Alive_any (w : World) : Calls Try.prog 5 #[] w fun e w' => e = .returned (.bool true) ∧ Grew w w' := by
  go_enter Try.func5, Try.ntmps5
  go_wp2_with (first | (go_at_call 15; go_loud (refine (l4Simple_any _).mono ?_; rintro e w1 ⟨b, rfl, hp, hg⟩; obtain ⟨u1, rfl⟩ := later_of hg; clear hg; have HP := Lib.hid (fun w' (g : Grew u1.world w') => hp.grew g); clear hp)) | (go_at_call 16; go_loud (refine (simWhole_any b _ (HP.out _ gw)).mono ?_; rintro e w1 ⟨ao, cap, rfl, hk, hg⟩; obtain ⟨u2, rfl⟩ := later_of hg; clear hg; have HK := Lib.hid (fun w' (g : Grew u2.world w') => hk.grew g); clear hk)) | (go_at_call 17; (with_reducible refine call_later (simCost_any b _ (HP.out _ gw) ao cap (by simpa using HK.out _ gw)) ?_); intro u3) | (go_at_call 7; (with_reducible refine call_later (simOften_any _) ?_); intro u4) | (with_reducible refine wLi ?_) | (with_reducible refine wSf ?_))
  go_ret
  exact ⟨rfl, gw⟩
end Go.Proofs.Ytffbipcdlnfihaa
