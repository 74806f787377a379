/-
  Contract of nav.read of a rate.
  Contract of nav.tried.
  Contracts of nav.Reading and of its closure.
  Contracts of nav.Reading, nav.Agrees.
-/
import Derived.Test.YtohinapfpfjlkaaGreatNavRead
import Derived.Test.YtohinapfpfjlkaaGreatNavCalls
import Derived.Shelf.Abstract
import Derived.Test.YtohinapfpfjlkaaGreatRadioNav
namespace Go.Proofs.YtohinapfpfjlkaaGreat
open Go.RowKit Go.Shelf
set_option maxRecDepth 100000
set_option maxHeartbeats 8000000
end Go.Proofs.YtohinapfpfjlkaaGreat
namespace Go.Proofs.YtohinapfpfjlkaaGreat
open Go.RowKit
set_option maxRecDepth 100000
set_option maxHeartbeats 2000000
theorem tried_any (G : Nat) (cap : Array Value) (eg : ∀ args w, (callFunc G args).run Tryz.prog w = .ok (.enter G args) w) (w : World) (Q : Option Int → World → Prop)
    (h : Calls Tryz.prog G cap (w.alloc (.cells #[.int .i64 0] 31)) (Ends w Q)) :
    Calls Tryz.prog 76 #[.func (.func G) #[] cap] w fun e w'' => ∃ o w', Q o w' ∧ e = .returned (.int .i64 (o.getD 0)) ∧ w'' = triedW w.heap.size o w' := by
  have hmf : ∀ (fn : Fn) (first cap : Array Value) (w : World), (Instr.makeFunc fn first cap).run Tryz.prog w = .ok (.func fn first cap) w := fun _ _ _ _ => rfl
  have H := Lib.hid h
  clear h
  go_enter_defers Tryz.func76, Tryz.ntmps76
  go_wp2_with (first | (go_at_fn G; refine (H.out).mono ?_; rintro e w1 ⟨⟨rfl, hq⟩ | ⟨c, rfl, hq⟩, hc1, hf1⟩))
  · have ihc : HasCell w1 w.heap.size 0 := ⟨_, hc1⟩
    refine leaves_cons (f := 128) (args := #[.pointer (some ⟨w.heap.size, 0, none⟩)]) (by simp) (by simp [go_sem]) ?_
    refine (catch_idle ⟨w.heap.size, 0, none⟩ _).mono ?_
    rintro e u' w'' ⟨rfl, rfl, rfl⟩
    refine ⟨.int .i64 0, ?_, none, w1, hq, rfl, rfl⟩
    simp [results, Tryz.results76, go_sem]
  · have ihc : HasCell w1 w.heap.size 0 := ⟨_, hc1⟩
    refine leaves_cons (f := 128) (args := #[.pointer (some ⟨w.heap.size, 0, none⟩)]) (by simp) (by simp [go_sem]) ?_
    refine (catch_stop w.heap.size c 0 _ hc1 hf1).mono ?_
    rintro e u' w'' ⟨rfl, rfl, rfl⟩
    refine ⟨.int .i64 c, ?_, some c, w1, hq, rfl, rfl⟩
    simp [results, Tryz.results76, go_sem]
end Go.Proofs.YtohinapfpfjlkaaGreat
namespace Go.Proofs.YtohinapfpfjlkaaGreat
open Go.RowKit Go.Shelf
set_option maxRecDepth 100000
set_option maxHeartbeats 8000000
theorem BoxAt.fresh {w : World} {m : Nat} [h : SizeAt w m] (l : List Value) (t : TypeId) : BoxAt (w.alloc (.cells l.toArray t)) m l := by
  obtain rfl := h.eq
  intro i v hv
  have := cells_new w l t i v hv
  rw [Addr.add_lit, Nat.zero_add] at this
  exact ⟨this, by go_simp⟩
/-- The world behind what Reading tries. -/
def readQ (r : Res) (W : World) (b3 : Nat) : Option Int → World → Prop
  | none, w' => r.e = 0 ∧ ∃ u : Later (W.alloc (.cells #[.int .i64 0] 31)), w' = (u.world.setCell ⟨b3, 0, none⟩ (.int .i64 r.s.lo)).setCell ⟨b3, 1, none⟩ (.int .i64 r.s.hi)
  | some c, w' => r.e ≠ 0 ∧ c = r.e ∧ ∃ u : Later (W.alloc (.cells #[.int .i64 0] 31)), w' = u.world
end Go.Proofs.YtohinapfpfjlkaaGreat
namespace Go.Proofs.YtohinapfpfjlkaaGreat
open Go.RowKit Go.Shelf
set_option maxRecDepth 100000
set_option maxHeartbeats 8000000
theorem res_eta {r : Res} (h : r.e = 0) : (⟨⟨r.s.lo, r.s.hi⟩, 0⟩ : Res) = r := by
  cases r
  simp only at h
  subst h
  rfl
theorem radio_kind {m : Radio} (h : m.okB = true) : 0 ≤ m.kind ∧ m.kind ≤ 3 := by
  unfold Radio.okB at h
  simp only [Bool.and_eq_true, decide_eq_true_eq] at h
  exact ⟨h.1.1.1.1, h.1.1.1.2⟩
theorem reading_no {s : State} {m : Radio} (h : (s.okB && m.okB) = false) : readingR s m = errR 2 := by unfold readingR; rw [h]; rfl
theorem reading_yes {s : State} {m : Radio} (h : s.okB = true) (h2 : m.okB = true) : readingR s m = clean (readR s m) := by unfold readingR; rw [h, h2]; rfl
end Go.Proofs.YtohinapfpfjlkaaGreat
