/-
  Words of the statements about single steps: a table that is long, the argument Move opened.
-/
import Derived.Test.YtfcdpilkcinnjaaAlive03
import Derived.Test.YtfcdpilkcinnjaaOpenAll
namespace Go.Proofs.Ytfcdpilkcinnjaa
open Go.RowKit Go.ChangeShapes Go.WideShapes Go.ChangeAt Go.Deep
set_option maxRecDepth 100000
set_option maxHeartbeats 16000000
theorem b64_of {b : Bx} (h1 : I64 b.x.lo) (h2 : I64 b.x.hi) (h3 : I64 b.y.lo) (h4 : I64 b.y.hi) (h5 : I64 b.z.lo) (h6 : I64 b.z.hi) : B64 b := ⟨⟨h1, h2⟩, ⟨h3, h4⟩, ⟨h5, h6⟩⟩
def Arc.longB (a : Arc) : Bool := decide (70 < a.drag.n)
theorem l3Long_one (a : Arc) (v : Value) (w : World) (h : SlAt w v 1 [.int .i64 a.time, .int .i64 a.step, .int .i64 a.thrust.lo, .int .i64 a.thrust.hi, .int .i64 a.flow.lo, .int .i64 a.flow.hi, .int .i64 a.dir.x.lo, .int .i64 a.dir.x.hi, .int .i64 a.dir.y.lo, .int .i64 a.dir.y.hi, .int .i64 a.dir.z.lo, .int .i64 a.dir.z.hi, .slice a.drag.ao a.drag.n a.drag.cap, .int .i64 a.drop.lo, .int .i64 a.drop.hi]) : Calls Try.prog 8 #[v] w fun e w' => e = .returned (.bool a.longB) ∧ Grew w w' := by
  obtain ⟨ao, cap, rfl, hm, hc⟩ := h
  have Hc := Lib.hid (SlAt.elem (f := Arc.cells) (c := 15) (fun _ => rfl) (by omega) (l := [a]) hc)
  clear hc
  go_enter Try.func8, Try.ntmps8
  go_wp2
  go_loopw [6] (fun t wr => ∃ k : Nat, t = .int .i64 k ∧ k ≤ 1 ∧ (k = 1 → a.longB = false) ∧ Grew w wr) (fun t _ => 1 - (intOf t).toNat)
  case atStart => exact ⟨0, rfl, by omega, by omega, Grew.refl _⟩
  case round =>
    obtain ⟨k, rfl, hk, hall, hg⟩ := hrel
    obtain ⟨x, rfl⟩ := later_of hg
    clear hg
    by_cases hlt : k < 1
    · obtain rfl : k = 0 := by omega
      obtain ⟨b1, o1, rfl, i1, hd1, hd2⟩ := Hc.out 0 (by simp)
      have hd3 : w.cell? ⟨b1, o1 + 0 * 15 + 12, none⟩ = some (.slice a.drag.ao a.drag.n a.drag.cap) := hd2 12 _ rfl
      clear hd1 hd2 hall
      have i1 : BlockIn w b1 := ⟨i1⟩
      by_cases h : 70 < a.drag.n
      · go_wp2
        go_ret
        exact ⟨ret_bool (by simp [Arc.longB, h]), gw⟩
      · go_wp2
        go_roundw
        case rel => exact ⟨1, by go_num, by omega, fun _ => by simp [Arc.longB]; omega, gw⟩
        case measure => simp [intOf]
    · obtain rfl : k = 1 := by omega
      have hA := Lib.hid (hall rfl)
      clear hall
      go_wp2
      go_ret
      exact ⟨ret_bool hA.out.symm, x.grew⟩
section
variable {H : Type} {enc : TypeId × Value → H} {w : World} {base : Nat} {spare : Nat → Bool} {held : Bool}
theorem move_trod {fuel : Nat} {cs : List Value} {x : DataW H × List MemPlace} (h : DataW.trod enc Try.prog w base spare held fuel 33 cs = some x) :
    ∃ (a : Arc) (l0 : List Pt) (k : Int), cs = [.int .i64 a.time, .int .i64 a.step, .int .i64 a.thrust.lo, .int .i64 a.thrust.hi, .int .i64 a.flow.lo, .int .i64 a.flow.hi, .int .i64 a.dir.x.lo, .int .i64 a.dir.x.hi, .int .i64 a.dir.y.lo, .int .i64 a.dir.y.hi, .int .i64 a.dir.z.lo, .int .i64 a.dir.z.hi, .slice a.drag.ao a.drag.n a.drag.cap, .int .i64 a.drop.lo, .int .i64 a.drop.hi, .int .i64 k] ∧ DragAt w a l0 ∧ I64 a.thrust.lo ∧ I64 a.thrust.hi ∧ I64 a.flow.lo ∧ I64 a.flow.hi ∧ I64 a.dir.x.lo ∧ I64 a.dir.x.hi ∧ I64 a.dir.y.lo ∧ I64 a.dir.y.hi ∧ I64 a.dir.z.lo ∧ I64 a.dir.z.hi ∧ I64 k := by
  obtain ⟨xs, n, rfl, -, hl, hxl, hf⟩ := DataW.trod_struct Try.underlying33 h
  have hxl : xs.length = 2 := hxl
  have hC : Try.prog.cellsOf 33 = 16 := by kernel_rfl
  obtain ⟨c0, c1, c2, c3, c4, c5, c6, c7, c8, c9, c10, c11, c12, c13, c14, c15, rfl⟩ := vals16 (hl.trans hC)
  have f0 : DataW.trod enc Try.prog w base spare held n 31 (([c0, c1, c2, c3, c4, c5, c6, c7, c8, c9, c10, c11, c12, c13, c14, c15].drop 0).take (Try.prog.cellsOf 31)) = xs[0]? := hf 0 _ rfl
  rw [List.getElem?_eq_getElem (by omega)] at f0
  simp only [show Try.prog.cellsOf 31 = 15 by kernel_rfl] at f0
  have f1 : DataW.trod enc Try.prog w base spare held n 22 (([c0, c1, c2, c3, c4, c5, c6, c7, c8, c9, c10, c11, c12, c13, c14, c15].drop 15).take (Try.prog.cellsOf 22)) = xs[1]? := hf 1 _ rfl
  rw [List.getElem?_eq_getElem (by omega)] at f1
  simp only [show Try.prog.cellsOf 22 = 1 by kernel_rfl] at f1
  have s1 := (flat_trod Try.prog 12 22 1 _ _ _ (by kernel_rfl) f1).2
  obtain ⟨k, rfl, b⟩ := s1 0 c15 rfl
  obtain ⟨a1, l1, e1, hd, i1, i2, i3, i4, i5, i6, i7, i8, i9, i10, i11, i12, i13, i14⟩ := arc_trod f0
  have e2 : [c0, c1, c2, c3, c4, c5, c6, c7, c8, c9, c10, c11, c12, c13, c14] = a1.cells := e1
  refine ⟨a1, l1, k, ?_, hd, i3, i4, i5, i6, i7, i8, i9, i10, i11, i12, i64_of b⟩
  show [c0, c1, c2, c3, c4, c5, c6, c7, c8, c9, c10, c11, c12, c13, c14] ++ [Value.int .i64 k] = a1.cells ++ [.int .i64 k]
  rw [e2]
end
end Go.Proofs.Ytfcdpilkcinnjaa
