/-
  Rises: plain words.
-/
import Derived.Test.YtdanaclplmacgaaHeight
namespace Go.Proofs.Ytdanaclplmacgaa
open Go.RowKit Go.Shelf
set_option maxRecDepth 100000
set_option maxHeartbeats 8000000
structure Rz where
  may : Int
  sure : Int
  e : Int
def riseScan (p : Planet) (h : Int) : Int → Int → Int → List Tube → Rz
  | _, may, sure, [] => if may < 0 then ⟨0, 0, 7⟩ else ⟨may, sure, 0⟩
  | i, may, sure, t :: r => if (heightR p t.p).e = 0 then
      riseScan p h (i + 1) (if (decide (may < 0) && decide (h ≤ (heightR p t.p).s.hi)) = true then i else may) (if (decide (sure < 0) && decide (h ≤ (heightR p t.p).s.lo)) = true then i else sure) r
    else ⟨0, 0, (heightR p t.p).e⟩
def risesR (p : Planet) (l : List Tube) (h : Int) : Rz := if (p.okB && numB h && l.all Tube.okB) = true then riseScan p h 0 (-1) (-1) l else ⟨0, 0, 2⟩
class Tb64 (t : Tube) : Prop where
  a : I64 t.a
  z : I64 t.z
  p : B64 t.p
  v : B64 t.v
  m : S64 t.m
instance tb64_p (t : Tube) [h : Tb64 t] : B64 t.p := h.p
instance tb64_v (t : Tube) [h : Tb64 t] : B64 t.v := h.v
instance tb64_m (t : Tube) [h : Tb64 t] : S64 t.m := h.m
theorem ret_rz {a b c : Int} {r : Rz} (h : (⟨a, b, c⟩ : Rz) = r) : Ending.returned (.tuple #[.int .i64 a, .int .i64 b, .int .i64 c]) = .returned (.tuple #[.int .i64 r.may, .int .i64 r.sure, .int .i64 r.e]) := by rw [← h]
def RetRz (r : Rz) (w : World) (e : Ending) (w' : World) : Prop := e = .returned (.tuple #[.int .i64 r.may, .int .i64 r.sure, .int .i64 r.e]) ∧ Grew w w'
theorem flTube_yes (t : Tube) (h : t.okB = true) (w : World) : Calls Try.prog 127 #[.agg #[.int .i64 t.a, .int .i64 t.z, .int .i64 t.p.x.lo, .int .i64 t.p.x.hi, .int .i64 t.p.y.lo, .int .i64 t.p.y.hi, .int .i64 t.p.z.lo, .int .i64 t.p.z.hi, .int .i64 t.v.x.lo, .int .i64 t.v.x.hi, .int .i64 t.v.y.lo, .int .i64 t.v.y.hi, .int .i64 t.v.z.lo, .int .i64 t.v.z.hi, .int .i64 t.m.lo, .int .i64 t.m.hi]] w fun e w' => e = .returned (.int .i64 0) ∧ Grew w w' := is_int (by rw [h]; rfl) (flTube_any t w)
theorem flTube_no (t : Tube) (h : t.okB = false) (w : World) : Calls Try.prog 127 #[.agg #[.int .i64 t.a, .int .i64 t.z, .int .i64 t.p.x.lo, .int .i64 t.p.x.hi, .int .i64 t.p.y.lo, .int .i64 t.p.y.hi, .int .i64 t.p.z.lo, .int .i64 t.p.z.hi, .int .i64 t.v.x.lo, .int .i64 t.v.x.hi, .int .i64 t.v.y.lo, .int .i64 t.v.y.hi, .int .i64 t.v.z.lo, .int .i64 t.v.z.hi, .int .i64 t.m.lo, .int .i64 t.m.hi]] w fun e w' => e = .returned (.int .i64 2) ∧ Grew w w' := is_int (by rw [h]; rfl) (flTube_any t w)
theorem r3Tube_yes (t : Tube) (h : t.okB = true) (w : World) : Calls Try.prog 129 #[.agg #[.int .i64 t.a, .int .i64 t.z, .int .i64 t.p.x.lo, .int .i64 t.p.x.hi, .int .i64 t.p.y.lo, .int .i64 t.p.y.hi, .int .i64 t.p.z.lo, .int .i64 t.p.z.hi, .int .i64 t.v.x.lo, .int .i64 t.v.x.hi, .int .i64 t.v.y.lo, .int .i64 t.v.y.hi, .int .i64 t.v.z.lo, .int .i64 t.v.z.hi, .int .i64 t.m.lo, .int .i64 t.m.hi]] w fun e w' => e = .returned (.int .i64 0) ∧ Grew w w' := is_int (by rw [h]; rfl) (r3Tube_any t w)
theorem r3Tube_no (t : Tube) (h : t.okB = false) (w : World) : Calls Try.prog 129 #[.agg #[.int .i64 t.a, .int .i64 t.z, .int .i64 t.p.x.lo, .int .i64 t.p.x.hi, .int .i64 t.p.y.lo, .int .i64 t.p.y.hi, .int .i64 t.p.z.lo, .int .i64 t.p.z.hi, .int .i64 t.v.x.lo, .int .i64 t.v.x.hi, .int .i64 t.v.y.lo, .int .i64 t.v.y.hi, .int .i64 t.v.z.lo, .int .i64 t.v.z.hi, .int .i64 t.m.lo, .int .i64 t.m.hi]] w fun e w' => e = .returned (.int .i64 2) ∧ Grew w w' := is_int (by rw [h]; rfl) (r3Tube_any t w)
/-- The cells of element k of a list of tubes. -/
theorem tube_cells {w : World} {ao : Option Addr} {l : List Tube} (h : ∀ i x, (l.flatMap Tube.cells)[i]? = some x → ∃ b off, ao = some ⟨b, off, none⟩ ∧ w.cell? ⟨b, off + i, none⟩ = some x) (k : Nat) (hk : k < l.length) :
    ∃ b off, ao = some ⟨b, off, none⟩ ∧ BlockIn w b ∧ w.cell? ⟨b, off + k * 16, none⟩ = some (.int .i64 l[k].a) ∧ ∀ j x, l[k].cells[j]? = some x → w.cell? ⟨b, off + k * 16 + j, none⟩ = some x := by
  obtain ⟨b, off, e, hb, h1, h2⟩ := SlAt.elem (f := Tube.cells) (c := 16) (fun _ => rfl) (by omega) h k hk
  exact ⟨b, off, e, ⟨hb⟩, h1 _ rfl, h2⟩
end Go.Proofs.Ytdanaclplmacgaa
