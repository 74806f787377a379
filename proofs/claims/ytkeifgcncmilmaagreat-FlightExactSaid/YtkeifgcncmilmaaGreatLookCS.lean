/-
  Contracts: look, whole (flight), Calc.Look (ullageref01), from the contracts of both Looks.
-/
import Derived.Test.YtkeifgcncmilmaaGreatCalcFS
import Derived.Test.YtkeifgcncmilmaaGreatLookLawS
import Derived.Test.YtkeifgcncmilmaaGreatRefDivsS
import Derived.Test.YtkeifgcncmilmaaGreatFlightOksS
namespace Go.Proofs.YtkeifgcncmilmaaGreat
open Go.RowKit Go.Shelf
set_option maxRecDepth 100000
set_option maxHeartbeats 8000000
/-- A Look is the plain law's. -/
def LookOk (f : FuncId) : Prop := ∀ (l : List Pt) (x : Sp), S64 x → ∀ (ao : Option Addr) (cap : Nat) (w : World), SlAt w (.slice ao l.length cap) l.length (l.flatMap Pt.cells) → Calls Tryz.prog f #[.slice ao l.length cap, .agg #[.int .i64 x.lo, .int .i64 x.hi]] w fun e w' => e = .returned (.tuple #[.agg #[.int .i64 (lookR l x).s.lo, .int .i64 (lookR l x).s.hi], .int .i64 (lookR l x).e]) ∧ Grew w w'
instance s64_look (l : List Pt) (x : Sp) : S64 (lookR l x).s := by
  unfold lookR lookS
  split
  · infer_instance
  · exact s64_err _
theorem doR_twice (e : Int) (r : Res) : doR e (doR e r) = doR e r := by
  by_cases h : e = 0
  · subst h; rfl
  · rw [doR_bad r h, doR_bad _ h]
theorem cLook_any (HL : LookOk 204) (c : Nat) (k : Int) (l : List Pt) (x : Sp) [hx : S64 x] (ao : Option Addr) (cap : Nat) (w : World) (hs : SlAt w (.slice ao l.length cap) l.length (l.flatMap Pt.cells)) (hc : w.cell? ⟨c, 0, none⟩ = some (.int .i64 k)) :
    Calls Tryz.prog 176 #[.pointer (some ⟨c, 0, none⟩), .slice ao l.length cap, .agg #[.int .i64 x.lo, .int .i64 x.hi]] w fun e w' => e = .returned (.tuple #[.agg #[.int .i64 (doR k (lookR l x)).s.lo, .int .i64 (doR k (lookR l x)).s.hi], .int .i64 (doR k (lookR l x)).e]) ∧ Grew w w' := by
  have ib : BlockIn w c := BlockIn.of_cell hc
  have hci : HasCell w c 0 := ⟨_, hc⟩
  have Hs := Lib.hid (fun w' (g : Grew w w') => HL l x hx ao cap w' (hs.grew g))
  clear hs HL
  by_cases he : k = 0
  · subst he
    have HD := Lib.hid (doR_ok (lookR l x))
    generalize lookR l x = r at *
    go_enter Tryz.func176, Tryz.ntmps176
    go_wp2_with (first | (go_at_call 204; (with_reducible refine call_later (Hs.out _ gw) ?_); intro u) | ((with_reducible refine wp_region_later ?_ ?_ ?_); (· kernel_rfl); (· kernel_rfl); (try simp only [List.append_eq, List.cons_append, List.nil_append]); (repeat (go_big_quiet_step ((first | (go_at_call 204; (with_reducible exact call_quiet (Hs.out _ gw))))))); refine wpQuiet_nil ?_; rintro _ ⟨u, rfl⟩))
    refine bodyPost_ret (by (simp [results, Tryz.results176, go_sem] <;> rfl)) rfl ?_
    exact ⟨ret_res (by rw [HD.out]), gw⟩
  · have he' : (k != 0) = true := by simp [he]
    have HD := Lib.hid (doR_bad (lookR l x) he)
    clear he Hs
    generalize lookR l x = r at *
    go_enter Tryz.func176, Tryz.ntmps176
    go_wp2
    go_region
    all_goals go_wp2
    all_goals
      refine bodyPost_ret (by (simp [results, Tryz.results176, go_sem] <;> rfl)) rfl ?_
      exact ⟨ret_res (by rw [HD.out]; rfl), gw⟩
theorem flPoint_any (n : Int) (w : World) : Calls Tryz.prog 117 #[.int .i64 n] w fun e w' => e = .returned (.agg #[.int .i64 n, .int .i64 n]) ∧ Grew w w' := by
  go_enter Tryz.func117, Tryz.ntmps117
  go_wp2
  refine bodyPost_ret (by (simp [results, Tryz.results117, go_sem] <;> rfl)) rfl ?_
  exact ⟨rfl, gw⟩
theorem flWhole_two (w : World) : Calls Tryz.prog 123 #[.int .i64 2] w fun e w' => e = .returned (.agg #[.int .i64 (wholeS 2).lo, .int .i64 (wholeS 2).hi]) ∧ Grew w w' := by
  go_enter Tryz.func123, Tryz.ntmps123
  go_wp2_with (first | (go_at_call 117; (with_reducible refine call_later (flPoint_any _ _) ?_); intro u))
  refine bodyPost_ret (by (simp [results, Tryz.results123, go_sem] <;> rfl)) rfl ?_
  exact ⟨rfl, gw⟩
end Go.Proofs.YtkeifgcncmilmaaGreat
