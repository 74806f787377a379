/-
  ullageref04.SameSlots of two slices that hold the same slots.
-/
import Derived.Test.YtdanaclplmacgaaSlotsRef
namespace Go.Proofs.Ytdanaclplmacgaa
open Go.RowKit
set_option maxRecDepth 100000

theorem sameSlots_same (l : List (Int × Int)) (v1 v2 : Value) (w : World) (h1 : SlAt w v1 l.length (slotCells l)) (h2 : SlAt w v2 l.length (slotCells l)) :
    Calls Try.prog 18 #[v1, v2] w fun e w' => e = .returned (.bool true) ∧ Grew w w' := by
  obtain ⟨ao1, cap1, rfl, hm, hc1⟩ := h1
  obtain ⟨ao2, cap2, rfl, -, hc2⟩ := h2
  unfold maxLen at hm
  have Hc1 := Lib.hid (SlAt.elem (f := fun s : Int × Int => [Value.int .i64 s.1, .int .i64 s.2]) (c := 2) (fun _ => rfl) (by omega) hc1)
  have Hc2 := Lib.hid (SlAt.elem (f := fun s : Int × Int => [Value.int .i64 s.1, .int .i64 s.2]) (c := 2) (fun _ => rfl) (by omega) hc2)
  clear hc1 hc2
  go_enter Try.func18, Try.ntmps18
  go_wp2
  go_loopw [5] (fun t wr => ∃ k : Nat, t = .int .i64 k ∧ k ≤ l.length ∧ Grew w wr) (fun t _ => l.length - (intOf t).toNat)
  case atStart => exact ⟨0, rfl, by omega, Grew.refl _⟩
  case round =>
    obtain ⟨k, rfl, hk, hg⟩ := hrel
    obtain ⟨x, rfl⟩ := later_of hg
    clear hg
    by_cases hlt : k < l.length
    · obtain ⟨b1, o1, rfl, i1, hd1, hd2⟩ := Hc1.out k hlt
      obtain ⟨b2, o2, rfl, i2, hd3, hd4⟩ := Hc2.out k hlt
      have hd1 := hd1 _ rfl
      have hd2 := hd2 1 _ rfl
      have hd3 := hd3 _ rfl
      have hd4 := hd4 1 _ rfl
      have i1 : BlockIn w b1 := ⟨i1⟩
      have i2 : BlockIn w b2 := ⟨i2⟩
      go_wp2_with (first | (refine wp_region_later (by kernel_rfl) (by kernel_rfl) ?_; (repeat (go_big_quiet_step (fail))); refine wpQuiet_nil ?_; rintro _ ⟨u, rfl⟩))
      go_roundw
      case rel => exact ⟨k + 1, by go_num, by omega, x.grew.later _⟩
      case measure => simp [intOf]; omega
    · go_wp2
      go_ret
      exact ⟨rfl, x.grew⟩
end Go.Proofs.Ytdanaclplmacgaa
