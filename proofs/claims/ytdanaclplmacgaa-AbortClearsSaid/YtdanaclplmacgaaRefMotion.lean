/-
  Contracts: ullageref11's moment, length, moves.
-/
import Derived.Test.YtdanaclplmacgaaMotion
import Derived.Test.YtdanaclplmacgaaLexC
import Derived.Test.YtdanaclplmacgaaFlightRefOk
import Derived.LoopN
namespace Go.Proofs.Ytdanaclplmacgaa
open Go.RowKit Go.Shelf
set_option maxRecDepth 100000
set_option maxHeartbeats 8000000
/-- A call that leaves the error alone. -/
theorem retc_of {f : FuncId} {args : Array Value} {w : World} {c : Nat} {v : Value} {e : Int} (h : Calls Try.prog f args w fun en w' => en = .returned v ∧ Grew w w') (hc : w.cell? ⟨c, 0, none⟩ = some (.int .i64 e)) : Calls Try.prog f args w (RetC c v e w) :=
  h.mono fun _ w' ⟨he, hg⟩ => ⟨he, ⟨w', hg⟩, (setCell_same (hg.cell hc)).symm⟩
theorem rMoment_any (c : Nat) (e : Int) (m : Mo) (k : Int) [hk : N64 k] (hm : m.fair) (w : World) (hc : w.cell? ⟨c, 0, none⟩ = some (.int .i64 e)) (hf : w.frozen? ⟨c, 0, none⟩ = false) :
    Calls Try.prog 140 #[.pointer (some ⟨c, 0, none⟩), .int .i64 m.t, .int .i64 k, .int .i64 m.n] w (RetC c (.agg #[.int .i64 ((doR e (momentR m k)).s).lo, .int .i64 ((doR e (momentR m k)).s).hi]) (doR e (momentR m k)).e w) := by
  have ib : BlockIn w c := BlockIn.of_cell hc
  have hci : HasCell w c 0 := ⟨_, hc⟩
  have Hb := Lib.hid (But.refl hc)
  have Hc := Lib.hid hc
  have ht : N64 m.t := ⟨by have := hm.1; have := hm.2.1; unfold I64; omega⟩
  have hw := wholeS_64 m.n (by have := hm.2.2.1; omega) (by have := hm.2.2.2; omega)
  have HW := Lib.hid (fun w => rWhole_any m.n (by have := hm.2.2.1; omega) (by have := hm.2.2.2; omega) w)
  have h1 : doR (doR e (mo1 m k)).e (divR (doR e (mo1 m k)).s (wholeS m.n)) = doR e (momentR m k) := doR_doR e (mo1 m k) (fun s => divR s (wholeS m.n))
  have HD := Lib.hid (fun w hc hf => (show Calls Try.prog 176 #[.pointer (some ⟨c, 0, none⟩), .agg #[.int .i64 ((doR e (mo1 m k)).s).lo, .int .i64 ((doR e (mo1 m k)).s).hi], .agg #[.int .i64 ((wholeS m.n)).lo, .int .i64 ((wholeS m.n)).hi]] w (RetC c (.agg #[.int .i64 ((doR e (momentR m k)).s).lo, .int .i64 ((doR e (momentR m k)).s).hi]) (doR e (momentR m k)).e w) from by
    rw [← h1]
    exact rcDiv_any c (doR e (mo1 m k)).e (doR e (mo1 m k)).s (wholeS m.n) w hc hf))
  have HSc := Lib.hid (fun w hc hf => (show Calls Try.prog 177 #[.pointer (some ⟨c, 0, none⟩), .agg #[.int .i64 ((⟨m.t, m.t⟩ : Sp)).lo, .int .i64 ((⟨m.t, m.t⟩ : Sp)).hi], .int .i64 k] w (RetC c (.agg #[.int .i64 ((doR e (mo1 m k)).s).lo, .int .i64 ((doR e (mo1 m k)).s).hi]) (doR e (mo1 m k)).e w) from rcScale_any c e ⟨m.t, m.t⟩ k w hc hf))
  clear hm h1 hw
  go_enter Try.func140, Try.ntmps140
  go_wp2_with (first | (go_at_call 178; (with_reducible refine call_later (rDot1_any m.t _) ?_); intro u1) | (go_at_call 179; (with_reducible refine call_later (HW.out _) ?_); intro u2) | (go_at_call 177; refine call_calc (HSc.out _ (by go_simp) (by go_simp)) ?_; intro u3) | (go_at_call 176; refine call_calc (HD.out _ (by go_simp) (by go_simp)) ?_; intro u4))
  refine bodyPost_ret (by (simp [results, Try.results140, go_sem] <;> rfl)) rfl ?_
  exact ⟨rfl, But.out (by repeat (first | with_reducible exact Hb.out | with_reducible apply But.alloc | with_reducible apply But.later | with_reducible apply But.drew | with_reducible apply But.put | with_reducible apply But.store)) Hc.out (by go_simp)⟩
def ch1 (e : Int) (v u : Sp) : Res := doR e (mulR v u)
def ch2 (e : Int) (d v u : Sp) : Res := doR (ch1 e v u).e (addR d (ch1 e v u).s)
def ch3 (e : Int) (d v u : Sp) : Res := doR (ch2 e d v u).e (squareR u)
def ch4 (e : Int) (d v a u : Sp) : Res := doR (ch3 e d v u).e (mulR a (ch3 e d v u).s)
def ch5 (e : Int) (d v a u : Sp) : Res := doR (ch4 e d v a u).e (divR (ch4 e d v a u).s (wholeS 2))
def ch6 (e : Int) (d v a u : Sp) : Res := doR (ch5 e d v a u).e (addR (ch2 e d v u).s (ch5 e d v a u).s)
instance s64_ch1 (e : Int) (v u : Sp) : S64 (ch1 e v u).s := s64_do _ _
instance s64_ch2 (e : Int) (d v u : Sp) : S64 (ch2 e d v u).s := s64_do _ _
instance s64_ch3 (e : Int) (d v u : Sp) : S64 (ch3 e d v u).s := s64_do _ _
instance s64_ch4 (e : Int) (d v a u : Sp) : S64 (ch4 e d v a u).s := s64_do _ _
instance s64_ch5 (e : Int) (d v a u : Sp) : S64 (ch5 e d v a u).s := s64_do _ _
instance s64_ch6 (e : Int) (d v a u : Sp) : S64 (ch6 e d v a u).s := s64_do _ _
theorem ch6_law (e : Int) (d v a u : Sp) : ch6 e d v a u = doR e (alongR d v a u) := by
  by_cases h : e = 0
  · subst h
    rw [doR_ok]
    have e1 : ch1 0 v u = al1 v u := rfl
    have e2 : ch2 0 d v u = al2 d v u := by unfold ch2 al2; rw [e1]
    have e3 : ch3 0 d v u = al3 d v u := by unfold ch3 al3; rw [e2]
    have e4 : ch4 0 d v a u = al4 d v a u := by unfold ch4 al4; rw [e3]
    have e5 : ch5 0 d v a u = al5 d v a u := by unfold ch5 al5; rw [e4]
    unfold ch6 alongR
    rw [e5, e2]
  · have e1 : (ch1 e v u).e = e := doR_e_ne _ h
    have e2 : (ch2 e d v u).e = e := by unfold ch2; rw [e1]; exact doR_e_ne _ h
    have e3 : (ch3 e d v u).e = e := by unfold ch3; rw [e2]; exact doR_e_ne _ h
    have e4 : (ch4 e d v a u).e = e := by unfold ch4; rw [e3]; exact doR_e_ne _ h
    have e5 : (ch5 e d v a u).e = e := by unfold ch5; rw [e4]; exact doR_e_ne _ h
    unfold ch6
    rw [e5, doR_bad _ h, doR_bad _ h]
end Go.Proofs.Ytdanaclplmacgaa
