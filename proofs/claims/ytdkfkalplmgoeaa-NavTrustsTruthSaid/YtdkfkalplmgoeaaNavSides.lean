/-
  Contracts of nav.others, nav.sides, ullageref06.zero; the plain law of what a span has in common with another one on both sides.
-/
import Derived.Test.YtdkfkalplmgoeaaNavOps
import Derived.Test.YtdkfkalplmgoeaaSpanHull
namespace Go.Proofs.Ytdkfkalplmgoeaa
open Go.RowKit Go.Shelf
set_option maxRecDepth 100000
set_option maxHeartbeats 8000000
theorem others_any (i : Int) (h0 : 0 ≤ i) (h1 : i ≤ 2) (w : World) : Calls Try.prog 96 #[.int .i64 i] w fun e w' => e = .returned (.tuple #[.int .i64 (if i = 0 then 1 else 0), .int .i64 (if i = 0 then 2 else 3 - i)]) ∧ Grew w w' := by
  by_cases h : i = 0
  · subst h
    go_enter Try.func96, Try.ntmps96
    go_wp2
    go_ret2
    exact ⟨rfl, gw⟩
  · have h' : (i == 0) = false := by simp [h]
    have hw : IntKind.i64.wrap (3 - i) = 3 - i := by simp [IntKind.wrap, IntKind.bits, IntKind.signed]; omega
    rw [if_neg h, if_neg h]
    clear h
    go_enter Try.func96, Try.ntmps96
    go_wp2
    go_ret2
    exact ⟨ret_two rfl rfl, gw⟩
/-- What a span has in common with another one, or its negative one. -/
def sidesR (d g : Sp) : Res :=
  if (meetR d g).e = 0 then (if (meetR d (negS g)).e = 0 then hullR (meetR d (negS g)).s (meetR d g).s else meetR d g) else meetR d (negS g)
theorem navSides_any (d g : Sp) [hgs : S64 g] (hg : g.okB = true) (w : World) : Calls Try.prog 98 #[.agg #[.int .i64 d.lo, .int .i64 d.hi], .agg #[.int .i64 g.lo, .int .i64 g.hi]] w (Stops (.agg #[.int .i64 ((sidesR d g).s).lo, .int .i64 ((sidesR d g).s).hi]) (sidesR d g).e w) := by
  obtain ⟨g1, g2, g3⟩ := okB_num hg
  have g4 := hgs.lo.2
  have g5 := hgs.hi.2
  have hw1 : IntKind.i64.wrap (-g.hi) = -g.hi := by rw [IntKind.wrap_i64]; omega
  have hw2 : IntKind.i64.wrap (-g.lo) = -g.lo := by rw [IntKind.wrap_i64]; omega
  have HM1 := Lib.hid (fun w' => spMeet_any d g w')
  have HM2 := Lib.hid (fun w' => spMeet_any d (negS g) w')
  have HU := Lib.hid (fun (x y : Sp) w' => spHull_any x y w')
  have HS := Lib.hid (show sidesR d g = if (meetR d g).e = 0 then (if (meetR d (negS g)).e = 0 then hullR (meetR d (negS g)).s (meetR d g).s else meetR d g) else meetR d (negS g) from rfl)
  have hn : negS g = ⟨-g.hi, -g.lo⟩ := rfl
  rw [hn] at HM2 HS
  generalize sidesR d g = sr at *
  generalize meetR d g = r1 at *
  generalize meetR d ⟨-g.hi, -g.lo⟩ = r2 at *
  clear g1 g2 g3 g4 g5 hn hg
  by_cases h1 : r1.e = 0
  · rw [if_pos h1] at HS
    have h1' : (r1.e != 0) = false := by simp [h1]
    by_cases h2 : r2.e = 0
    · rw [if_pos h2] at HS
      have h2' : (r2.e != 0) = false := by simp [h2]
      clear h1 h2
      go_enter Try.func98, Try.ntmps98
      go_wp2_with (first | (go_at_call 94; (with_reducible refine call_later (HM1.out _) ?_); intro u1) | (go_at_call 94; (with_reducible refine call_later (HM2.out _) ?_); intro u2) | (go_at_call 118; (with_reducible refine call_later (HU.out r2.s r1.s _) ?_); intro u3) | (go_at_call 89; (with_reducible refine call_both (must_any _ _ _) ?_ ?_); (· intro hz u; exact ⟨rfl, stops_at (by rw [HS.out]) hz.out gw⟩); intro hz4 u4))
      refine bodyPost_ret (by (simp [results, Try.results98, go_sem] <;> rfl)) rfl ?_
      rw [HS.out]
      exact stops_ret hz4.out rfl gw
    · rw [if_neg h2] at HS
      have h2' : (r2.e != 0) = true := by simp [h2]
      have H1 := Lib.hid h1
      clear h1 h2
      go_enter Try.func98, Try.ntmps98
      go_wp2_with (first | (go_at_call 94; (with_reducible refine call_later (HM1.out _) ?_); intro u1) | (go_at_call 94; (with_reducible refine call_later (HM2.out _) ?_); intro u2))
      refine bodyPost_ret (by (simp [results, Try.results98, go_sem] <;> rfl)) rfl ?_
      rw [HS.out]
      exact stops_ret H1.out rfl gw
  · rw [if_neg h1] at HS
    have h1' : (r1.e != 0) = true := by simp [h1]
    clear h1
    go_enter Try.func98, Try.ntmps98
    go_wp2_with (first | (go_at_call 94; (with_reducible refine call_later (HM1.out _) ?_); intro u1) | (go_at_call 94; (with_reducible refine call_later (HM2.out _) ?_); intro u2) | (go_at_call 89; (with_reducible refine call_both (must_any _ _ _) ?_ ?_); (· intro hz u; exact ⟨rfl, stops_at (by rw [HS.out]) hz.out gw⟩); intro hz4 u4))
    refine bodyPost_ret (by (simp [results, Try.results98, go_sem] <;> rfl)) rfl ?_
    rw [HS.out]
    exact stops_ret hz4.out rfl gw
end Go.Proofs.Ytdkfkalplmgoeaa
