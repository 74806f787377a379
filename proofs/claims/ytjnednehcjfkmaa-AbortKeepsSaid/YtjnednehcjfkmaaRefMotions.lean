/-
  Contracts: ullageref11's moment, length, moves.
  Contracts: ullageref11's length.
  Contracts: ullageref11's moves, Clear.
-/
import Derived.Test.YtjnednehcjfkmaaMotion
import Derived.Test.YtjnednehcjfkmaaCalcs
import Derived.Test.YtjnednehcjfkmaaFlightOks
import Derived.LoopN
namespace Go.Proofs.Ytjnednehcjfkmaa
open Go.RowKit Go.Shelf
set_option maxRecDepth 100000
set_option maxHeartbeats 8000000
/-- A call that leaves the error alone. -/
theorem retc_of {f : FuncId} {args : Array Value} {w : World} {c : Nat} {v : Value} {e : Int} (h : Calls Try.prog f args w fun en w' => en = .returned v ∧ Grew w w') (hc : w.cell? ⟨c, 0, none⟩ = some (.int .i64 e)) : Calls Try.prog f args w (RetC c v e w) :=
  h.mono fun _ w' ⟨he, hg⟩ => ⟨he, ⟨w', hg⟩, (setCell_same (hg.cell hc)).symm⟩
def ch1 (e : Int) (v u : Sp) : Res := doR e (mulR v u)
def ch2 (e : Int) (d v u : Sp) : Res := doR (ch1 e v u).e (addR d (ch1 e v u).s)
def ch3 (e : Int) (d v u : Sp) : Res := doR (ch2 e d v u).e (squareR u)
def ch4 (e : Int) (d v a u : Sp) : Res := doR (ch3 e d v u).e (mulR a (ch3 e d v u).s)
def ch5 (e : Int) (d v a u : Sp) : Res := doR (ch4 e d v a u).e (divR (ch4 e d v a u).s (wholeS 2))
def ch6 (e : Int) (d v a u : Sp) : Res := doR (ch5 e d v a u).e (addR (ch2 e d v u).s (ch5 e d v a u).s)
instance s64_ch1 (e : Int) (v u : Sp) : S64 (ch1 e v u).s := s64_do _ _
instance s64_ch2 (e : Int) (d v u : Sp) : S64 (ch2 e d v u).s := s64_do _ _
instance s64_ch3 (e : Int) (d v u : Sp) : S64 (ch3 e d v u).s := s64_do _ _
instance s64_ch4 (e : Int) (d v a u : Sp) : S64 (ch4 e d v a u).s := s64_do _ _
instance s64_ch5 (e : Int) (d v a u : Sp) : S64 (ch5 e d v a u).s := s64_do _ _
instance s64_ch6 (e : Int) (d v a u : Sp) : S64 (ch6 e d v a u).s := s64_do _ _
theorem ch6_law (e : Int) (d v a u : Sp) : ch6 e d v a u = doR e (alongR d v a u) := by
  by_cases h : e = 0
  · subst h
    rw [doR_ok]
    have e1 : ch1 0 v u = al1 v u := rfl
    have e2 : ch2 0 d v u = al2 d v u := by unfold ch2 al2; rw [e1]
    have e3 : ch3 0 d v u = al3 d v u := by unfold ch3 al3; rw [e2]
    have e4 : ch4 0 d v a u = al4 d v a u := by unfold ch4 al4; rw [e3]
    have e5 : ch5 0 d v a u = al5 d v a u := by unfold ch5 al5; rw [e4]
    unfold ch6 alongR
    rw [e5, e2]
  · have e1 : (ch1 e v u).e = e := doR_e_ne _ h
    have e2 : (ch2 e d v u).e = e := by unfold ch2; rw [e1]; exact doR_e_ne _ h
    have e3 : (ch3 e d v u).e = e := by unfold ch3; rw [e2]; exact doR_e_ne _ h
    have e4 : (ch4 e d v a u).e = e := by unfold ch4; rw [e3]; exact doR_e_ne _ h
    have e5 : (ch5 e d v a u).e = e := by unfold ch5; rw [e4]; exact doR_e_ne _ h
    unfold ch6
    rw [e5, doR_bad _ h, doR_bad _ h]
end Go.Proofs.Ytjnednehcjfkmaa
namespace Go.Proofs.Ytjnednehcjfkmaa
open Go.RowKit Go.Shelf
set_option maxRecDepth 100000
set_option maxHeartbeats 16000000
def lq1 (e : Int) (m : Mo) (u : Sp) : Res := ch6 e m.d.x m.w.x m.a.x u
def lq2 (e : Int) (m : Mo) (u : Sp) : Res := ch6 (lq1 e m u).e m.d.y m.w.y m.a.y u
def lq3 (e : Int) (m : Mo) (u : Sp) : Res := ch6 (lq2 e m u).e m.d.z m.w.z m.a.z u
instance s64_lq1 (e : Int) (m : Mo) (u : Sp) : S64 (lq1 e m u).s := s64_ch6 _ _ _ _ _
instance s64_lq2 (e : Int) (m : Mo) (u : Sp) : S64 (lq2 e m u).s := s64_ch6 _ _ _ _ _
instance s64_lq3 (e : Int) (m : Mo) (u : Sp) : S64 (lq3 e m u).s := s64_ch6 _ _ _ _ _
def lqB (e : Int) (m : Mo) (u : Sp) : Bx := ⟨(lq1 e m u).s, (lq2 e m u).s, (lq3 e m u).s⟩
instance b64_lq (e : Int) (m : Mo) (u : Sp) : B64 (lqB e m u) := ⟨s64_lq1 e m u, s64_lq2 e m u, s64_lq3 e m u⟩
theorem lq_law (e : Int) (m : Mo) (u : Sp) : doR (lq3 e m u).e (normR (lqB e m u).list) = doR e (lengthR m u) := by
  have e1 : lq1 e m u = doR e (ln1 m u) := ch6_law _ _ _ _ _
  have e2 : lq2 e m u = doR e (ln2 m u) := by
    unfold lq2 ln2
    rw [ch6_law, e1]
    exact doR_doR e (ln1 m u) (fun _ => alongR m.d.y m.w.y m.a.y u)
  have e3 : lq3 e m u = doR e (ln3 m u) := by
    unfold lq3 ln3
    rw [ch6_law, e2]
    exact doR_doR e (ln2 m u) (fun _ => alongR m.d.z m.w.z m.a.z u)
  unfold lqB
  rw [e1, e2, e3]
  by_cases h : e = 0
  · subst h
    rw [doR_ok, doR_ok, doR_ok, doR_ok]
    rfl
  · rw [doR_e_ne _ h, doR_bad _ h, doR_bad _ h]
end Go.Proofs.Ytjnednehcjfkmaa
namespace Go.Proofs.Ytjnednehcjfkmaa
open Go.RowKit Go.Shelf
set_option maxRecDepth 100000
set_option maxHeartbeats 16000000
def rp1 (m : Mo) (k : Int) : Res := doR 0 (momentR m k)
def rp2 (m : Mo) (k : Int) : Res := doR (rp1 m k).e (momentR m (k + 1))
def rp3 (m : Mo) (k : Int) : Res := doR (rp2 m k).e (hullR (rp1 m k).s (rp2 m k).s)
def rp4 (m : Mo) (k : Int) : Res := doR (rp3 m k).e (lengthR m (rp3 m k).s)
instance s64_rp1 (m : Mo) (k : Int) : S64 (rp1 m k).s := s64_do _ _
instance s64_rp2 (m : Mo) (k : Int) : S64 (rp2 m k).s := s64_do _ _
instance s64_rp3 (m : Mo) (k : Int) : S64 (rp3 m k).s := s64_do _ _
theorem rp_law (m : Mo) (k : Int) (hm : m.fair) (h0 : 0 ≤ k) : rp4 m k = pieceR m k := by
  have e1 : rp1 m k = momentR m k := doR_ok _
  have e2 : (rp2 m k).e = pieceE m k := by unfold rp2 pieceE; rw [e1]
  by_cases h : pieceE m k = 0
  · obtain ⟨a1, a2, a3, a4⟩ := piece_span m k hm h0 h
    have e3 : rp2 m k = momentR m (k + 1) := by unfold rp2; rw [e1, a1, doR_ok]
    have e4 : rp3 m k = ⟨pieceU m k, 0⟩ := by unfold rp3; rw [e3, a2, doR_ok, e1, a3]
    unfold rp4 pieceR
    rw [e4, h]
  · have e4 : (rp3 m k).e = pieceE m k := by unfold rp3; rw [e2]; exact doR_e_ne _ h
    unfold rp4 pieceR
    rw [e4, doR_bad _ h, doR_bad _ h]
theorem piece_z (m : Mo) (k : Int) : I64 (pieceR m k).s.lo := (s64_do (pieceE m k) (lengthR m (pieceU m k))).lo
def outAt (k : Nat) (o : Int) : Int := if k = 0 then 0 else o
structure CRes where
  v : Int
  e : Int
def RetCl (r : Int × Int) (w : World) (e : Ending) (w' : World) : Prop := e = .returned (.tuple #[.int .i64 r.1, .int .i64 r.2]) ∧ Grew w w'
theorem ret_cl {a b : Int} {r : Int × Int} (h : (a, b) = r) : Ending.returned (.tuple #[.int .i64 a, .int .i64 b]) = .returned (.tuple #[.int .i64 r.1, .int .i64 r.2]) := by rw [← h]
end Go.Proofs.Ytjnednehcjfkmaa
