/-
  Contracts: the comparison of edges; the sort of edges (ascent.sweep).
-/
import Derived.Test.YtffbipcdlnfihaaSetsMix
import Derived.Test.YtffbipcdlnfihaaSortGen
namespace Go.Proofs.Ytffbipcdlnfihaa
open Go.RowKit Go.Sort
set_option maxRecDepth 100000
set_option maxHeartbeats 4000000
theorem isNaNI_any (x : Int) (w : World) : Calls Try.prog 71 #[.int .i64 x] w fun e w' => e = .returned (.bool false) ∧ w' = w := by
  go_enter Try.func71, Try.ntmps71
  go_wp2
  go_ret
  exact ⟨by simp, rfl⟩
def cmpI (x y : Int) : Int := if x < y then -1 else if y < x then 1 else 0
theorem cmpCompare_any (x y : Int) (w : World) : Calls Try.prog 51 #[.int .i64 x, .int .i64 y] w fun e w' => e = .returned (.int .i64 (cmpI x y)) ∧ w' = w := by
  rcases Int.lt_trichotomy x y with h | h | h
  all_goals
    have Hc := Lib.hid (Eq.refl (cmpI x y))
    go_enter Try.func51, Try.ntmps51
    go_wp2_with (go_at_call 71; refine (isNaNI_any _ _).mono ?_; rintro e w' ⟨rfl, rfl⟩)
    all_goals go_ret
    all_goals exact ⟨ret_int (by unfold cmpI; first | (rw [if_pos h]; done) | (rw [if_neg (by omega), if_neg (by omega)]; done) | (rw [if_neg (by omega), if_pos h]; done)), rfl⟩
def encE (e : Edge) : List Value := [.int .i64 e.1, .int .i64 e.2.1, .bool e.2.2]
def cmpE (x y : Edge) : Int := cmpI x.1 y.1
theorem ltE (x y : Edge) : ltOf cmpE x y = decide (x.1 < y.1) := by
  unfold ltOf cmpE cmpI
  by_cases h1 : x.1 < y.1
  · simp [h1]
  · by_cases h2 : y.1 < x.1 <;> simp [h1, h2]
theorem swoE : Go.Sort.SWO (ltOf cmpE) where
  irrefl x := by rw [ltE]; simp
  trans x y z h1 h2 := by rw [ltE] at *; simp at *; omega
  ntrans x y z h1 h2 := by rw [ltE] at *; simp at *; omega
theorem sweep1_any (x y : Edge) (W : World) : Calls Try.prog 50 #[.agg (encE x).toArray, .agg (encE y).toArray] W fun e w' => e = .returned (.int .i64 (cmpE x y)) ∧ ∃ q os', w' = grow (W.drewN q) os' := by
  have hcon := fun W' => cmpCompare_any x.1 y.1 W'
  have Hr := Lib.hid (show cmpE x y = cmpI x.1 y.1 from rfl)
  unfold encE
  generalize cmpI x.1 y.1 = r at *
  go_enter Try.func50, Try.ntmps50
  go_wp2_with (go_at_call 51; refine (hcon _).mono ?_; rintro e w' ⟨rfl, rfl⟩)
  go_ret
  exact ⟨ret_int Hr.out.symm, 0, _, by rw [alloc_eq_grow, alloc_eq_grow, grow_grow]; rfl⟩
theorem edge_one (x : Edge) : ∀ v ∈ encE x, v.oneCell' = true := by
  intro v hv
  simp [encE] at hv
  rcases hv with rfl | rfl | rfl <;> rfl
theorem sortEdges_any (a0 w : World) (E : List Edge) (v : Value) (hown : w.ownsRow a0.heap.size 95 3 v E.length (E.flatMap encE)) (hsz : E.length < 1152921504606846976) (g0 : Grew a0 w) :
    Calls Try.prog 49 #[v, .func (.func 50) #[] #[]] w fun e w' => e = .returned (.tuple #[]) ∧ Grew a0 w' ∧ ∃ d : List Edge, d.Perm E ∧ SortedE d ∧ SlAt w' v d.length (d.flatMap encE) := by
  have h := sortRow_any Try.sortEdge 3 Try.isAgg95 Try.sizeOf95 encE (fun _ => rfl) edge_one cmpE swoE 50 (enters_of Try.func50 (by kernel_rfl) rfl) sweep1_any a0 w E v 95 hown hsz g0
  refine Calls.mono (show Calls Try.prog 49 #[v, .func (.func 50) #[] #[]] w _ from h) ?_
  rintro e w' ⟨he, hg, d, hp, hs, hsl⟩
  refine ⟨he, hg, d, hp, fun i j hj hi => ?_, hsl⟩
  have := hs i j hj hi
  rw [ltE] at this
  simp at this
  exact this
end Go.Proofs.Ytffbipcdlnfihaa
