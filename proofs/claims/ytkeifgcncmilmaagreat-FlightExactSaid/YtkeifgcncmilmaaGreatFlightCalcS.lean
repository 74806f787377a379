/-
  Contracts: flight's calc: keep, do, sub, norm, each; Joint's closure.
-/
import Derived.Test.YtkeifgcncmilmaaGreatCalcsS
import Derived.Test.YtkeifgcncmilmaaGreatFoldsS
namespace Go.Proofs.YtkeifgcncmilmaaGreat
open Go.RowKit Go.Shelf
set_option maxRecDepth 100000
set_option maxHeartbeats 2000000
theorem cKeep_any (c : Nat) (e : Int) (r : Res) (w : World) (hc : w.cell? ⟨c, 0, none⟩ = some (.int .i64 e)) (hf : w.frozen? ⟨c, 0, none⟩ = false) :
    Calls Tryz.prog 144 #[.pointer (some ⟨c, 0, none⟩), .agg #[.int .i64 r.s.lo, .int .i64 r.s.hi], .int .i64 r.e] w (RetC c (.agg #[.int .i64 ((doR e r).s).lo, .int .i64 ((doR e r).s).hi]) (doR e r).e w) := by
  have ib : BlockIn w c := BlockIn.of_cell hc
  have hci : HasCell w c 0 := ⟨_, hc⟩
  have Hb := Lib.hid (But.refl hc)
  have Hc := Lib.hid hc
  by_cases he : e = 0
  · subst he
    have HD := Lib.hid (doR_ok r)
    go_enter Tryz.func144, Tryz.ntmps144
    go_wp2
    refine bodyPost_ret (by (simp [results, Tryz.results144, go_sem] <;> rfl)) rfl ?_
    refine ⟨ret_spS (by rw [HD.out]) (by rw [HD.out]), But.out (by repeat (first | with_reducible exact Hb.out | with_reducible apply But.alloc | with_reducible apply But.later | with_reducible apply But.drew | with_reducible apply But.put | with_reducible apply But.store)) Hc.out ?_⟩
    rw [HD.out]
    go_simp
  · have he' : (e != 0) = true := by simp [he]
    have HD := Lib.hid (doR_bad r he)
    clear he
    go_enter Tryz.func144, Tryz.ntmps144
    go_wp2
    refine bodyPost_ret (by (simp [results, Tryz.results144, go_sem] <;> rfl)) rfl ?_
    refine ⟨ret_spS (by rw [HD.out]; rfl) (by rw [HD.out]; rfl), But.out (by repeat (first | with_reducible exact Hb.out | with_reducible apply But.alloc | with_reducible apply But.later | with_reducible apply But.drew | with_reducible apply But.put | with_reducible apply But.store)) Hc.out ?_⟩
    rw [HD.out]
    show _ = some (Value.int .i64 e)
    go_simp
/-- A function of two spans that only computes. -/
def BinOk (g : Nat) (op : Sp → Sp → Res) : Prop := ∀ (w : World) (a b : Sp), S64 a → S64 b → Calls Tryz.prog g #[.agg #[.int .i64 a.lo, .int .i64 a.hi], .agg #[.int .i64 b.lo, .int .i64 b.hi]] w fun e w' => e = .returned (.tuple #[.agg #[.int .i64 (op a b).s.lo, .int .i64 (op a b).s.hi], .int .i64 (op a b).e]) ∧ Grew w w'
theorem cDo_any (g : Nat) (op : Sp → Sp → Res) (eg : ∀ args w, (callFunc g args).run Tryz.prog w = .ok (.enter g args) w) (hop : BinOk g op) (c : Nat) (e : Int) (a b : Sp) [ha : S64 a] [hb : S64 b] (w : World) (hc : w.cell? ⟨c, 0, none⟩ = some (.int .i64 e)) (hf : w.frozen? ⟨c, 0, none⟩ = false) :
    Calls Tryz.prog 143 #[.pointer (some ⟨c, 0, none⟩), .func (.func g) #[] #[], .agg #[.int .i64 a.lo, .int .i64 a.hi], .agg #[.int .i64 b.lo, .int .i64 b.hi]] w (RetC c (.agg #[.int .i64 ((doR e (op a b)).s).lo, .int .i64 ((doR e (op a b)).s).hi]) (doR e (op a b)).e w) := by
  have ib : BlockIn w c := BlockIn.of_cell hc
  have hci : HasCell w c 0 := ⟨_, hc⟩
  have Hb := Lib.hid (But.refl hc)
  have Hc := Lib.hid hc
  have Hop := Lib.hid hop
  clear hop
  by_cases he : e = 0
  · subst he
    have HD := Lib.hid (doR_ok (op a b))
    go_enter Tryz.func143, Tryz.ntmps143
    go_wp2_with (first | (go_at_fn g; refine call_later (Hop.out _ a b ha hb) ?_; intro u))
    refine bodyPost_ret (by (simp [results, Tryz.results143, go_sem] <;> rfl)) rfl ?_
    refine ⟨ret_spS (by rw [HD.out]) (by rw [HD.out]), But.out (by repeat (first | with_reducible exact Hb.out | with_reducible apply But.alloc | with_reducible apply But.later | with_reducible apply But.drew | with_reducible apply But.put | with_reducible apply But.store)) Hc.out ?_⟩
    rw [HD.out]
    go_simp
  · have he' : (e != 0) = true := by simp [he]
    have HD := Lib.hid (doR_bad (op a b) he)
    clear he
    go_enter Tryz.func143, Tryz.ntmps143
    go_wp2
    refine bodyPost_ret (by (simp [results, Tryz.results143, go_sem] <;> rfl)) rfl ?_
    refine ⟨ret_spS (by rw [HD.out]; rfl) (by rw [HD.out]; rfl), But.out (by repeat (first | with_reducible exact Hb.out | with_reducible apply But.alloc | with_reducible apply But.later | with_reducible apply But.drew | with_reducible apply But.put | with_reducible apply But.store)) Hc.out ?_⟩
    rw [HD.out]
    show _ = some (Value.int .i64 e)
    go_simp
theorem bin_sub : BinOk 37 subR := fun w a b _ _ => spSub_any a b w
theorem cSub_any (c : Nat) (e : Int) (a b : Sp) [ha : S64 a] [hb : S64 b] (w : World) (hc : w.cell? ⟨c, 0, none⟩ = some (.int .i64 e)) (hf : w.frozen? ⟨c, 0, none⟩ = false) :
    Calls Tryz.prog 86 #[.pointer (some ⟨c, 0, none⟩), .agg #[.int .i64 a.lo, .int .i64 a.hi], .agg #[.int .i64 b.lo, .int .i64 b.hi]] w (RetC c (.agg #[.int .i64 ((doR e (subR a b)).s).lo, .int .i64 ((doR e (subR a b)).s).hi]) (doR e (subR a b)).e w) := by
  have ib : BlockIn w c := BlockIn.of_cell hc
  have hci : HasCell w c 0 := ⟨_, hc⟩
  have Hb := Lib.hid (But.refl hc)
  have Hc := Lib.hid hc
  go_enter Tryz.func86, Tryz.ntmps86
  go_wp2_with (go_at_call 143; refine call_calc (cDo_any 37 subR (enters_of Tryz.func37 (by kernel_rfl) rfl) bin_sub c e a b _ (by go_simp) (by go_simp)) ?_; intro u)
  refine bodyPost_ret (by (simp [results, Tryz.results86, go_sem] <;> rfl)) rfl ?_
  exact ⟨rfl, But.out (by repeat (first | with_reducible exact Hb.out | with_reducible apply But.alloc | with_reducible apply But.later | with_reducible apply But.drew | with_reducible apply But.put | with_reducible apply But.store)) Hc.out (by go_simp)⟩
theorem spNorm_box (b : Bx) [h : B64 b] (ao : Option Addr) (w : World) (hs : SlAt w (.slice ao 3 3) 3 [.int .i64 b.x.lo, .int .i64 b.x.hi, .int .i64 b.y.lo, .int .i64 b.y.hi, .int .i64 b.z.lo, .int .i64 b.z.hi]) : Calls Tryz.prog 145 #[.slice ao 3 3] w fun e w' => e = .returned (.tuple #[.agg #[.int .i64 (normR b.list).s.lo, .int .i64 (normR b.list).s.hi], .int .i64 (normR b.list).e]) ∧ Grew w w' := spNorm_any (boxS b) ao 3 w hs
theorem cNorm_any (c : Nat) (e : Int) (b : Bx) [hb : B64 b] (w : World) (hc : w.cell? ⟨c, 0, none⟩ = some (.int .i64 e)) (hf : w.frozen? ⟨c, 0, none⟩ = false) :
    Calls Tryz.prog 87 #[.pointer (some ⟨c, 0, none⟩), .agg #[.int .i64 b.x.lo, .int .i64 b.x.hi, .int .i64 b.y.lo, .int .i64 b.y.hi, .int .i64 b.z.lo, .int .i64 b.z.hi]] w (RetC c (.agg #[.int .i64 ((doR e (normR b.list)).s).lo, .int .i64 ((doR e (normR b.list)).s).hi]) (doR e (normR b.list)).e w) := by
  have ib : BlockIn w c := BlockIn.of_cell hc
  have hci : HasCell w c 0 := ⟨_, hc⟩
  have Hb := Lib.hid (But.refl hc)
  have Hc := Lib.hid hc
  go_enter Tryz.func87, Tryz.ntmps87
  go_wp2_with (first | (go_at_call 145; (with_reducible refine call_later (spNorm_box b _ _ (SlAt.row _ _ (by decide))) ?_); intro u) | (go_at_call 144; refine call_calc (cKeep_any c e (normR b.list) _ (by go_simp) (by go_simp)) ?_; intro u))
  refine bodyPost_ret (by (simp [results, Tryz.results87, go_sem] <;> rfl)) rfl ?_
  exact ⟨rfl, But.out (by repeat (first | with_reducible exact Hb.out | with_reducible apply But.alloc | with_reducible apply But.later | with_reducible apply But.drew | with_reducible apply But.put | with_reducible apply But.store)) Hc.out (by go_simp)⟩
def each1 (f : Sp → Sp → Res) (e : Int) (a b : Bx) : Res := doR e (f a.x b.x)
def each2 (f : Sp → Sp → Res) (e : Int) (a b : Bx) : Res := doR (each1 f e a b).e (f a.y b.y)
def each3 (f : Sp → Sp → Res) (e : Int) (a b : Bx) : Res := doR (each2 f e a b).e (f a.z b.z)
def eachB (f : Sp → Sp → Res) (e : Int) (a b : Bx) : Bx := ⟨(each1 f e a b).s, (each2 f e a b).s, (each3 f e a b).s⟩
/-- What is asked of an operation that keeps errors. -/
def OpC (g : Nat) (lb : Array Value) (op : Sp → Sp → Res) (c : Nat) (w0 : World) : Prop :=
  ∀ (w : World) (e : Int) (a b : Sp), S64 a → S64 b → ButT c w0 w → w.cell? ⟨c, 0, none⟩ = some (.int .i64 e) → w.frozen? ⟨c, 0, none⟩ = false →
    Calls Tryz.prog g (#[.agg #[.int .i64 a.lo, .int .i64 a.hi], .agg #[.int .i64 b.lo, .int .i64 b.hi]] ++ lb) w (RetC c (.agg #[.int .i64 ((doR e (op a b)).s).lo, .int .i64 ((doR e (op a b)).s).hi]) (doR e (op a b)).e w)
/-- The state of 'each' behind so many components. -/
def eachCells (f : Sp → Sp → Res) (e : Int) (a b : Bx) : Nat → List Value
  | 0 => [.int .i64 0, .int .i64 0, .int .i64 0, .int .i64 0, .int .i64 0, .int .i64 0]
  | 1 => [.int .i64 ((each1 f e a b).s).lo, .int .i64 ((each1 f e a b).s).hi, .int .i64 0, .int .i64 0, .int .i64 0, .int .i64 0]
  | 2 => [.int .i64 ((each1 f e a b).s).lo, .int .i64 ((each1 f e a b).s).hi, .int .i64 ((each2 f e a b).s).lo, .int .i64 ((each2 f e a b).s).hi, .int .i64 0, .int .i64 0]
  | _ => [.int .i64 ((each1 f e a b).s).lo, .int .i64 ((each1 f e a b).s).hi, .int .i64 ((each2 f e a b).s).lo, .int .i64 ((each2 f e a b).s).hi, .int .i64 ((each3 f e a b).s).lo, .int .i64 ((each3 f e a b).s).hi]
def eachErr (f : Sp → Sp → Res) (e : Int) (a b : Bx) : Nat → Int
  | 0 => e
  | 1 => (each1 f e a b).e
  | 2 => (each2 f e a b).e
  | _ => (each3 f e a b).e
structure EachAt (f : Sp → Sp → Res) (e : Int) (a b : Bx) (c B : Nat) (w : World) (k : Nat) (wr : World) : Prop where
  but : But c w wr
  cell : wr.cell? ⟨c, 0, none⟩ = some (.int .i64 (eachErr f e a b k))
  mark : wr.frozen? ⟨c, 0, none⟩ = false
  fst : BoxAt wr w.heap.size [.int .i64 a.x.lo, .int .i64 a.x.hi, .int .i64 a.y.lo, .int .i64 a.y.hi, .int .i64 a.z.lo, .int .i64 a.z.hi]
  snd : BoxAt wr (w.heap.size + 1) [.int .i64 b.x.lo, .int .i64 b.x.hi, .int .i64 b.y.lo, .int .i64 b.y.hi, .int .i64 b.z.lo, .int .i64 b.z.hi]
  res : BoxAt wr (w.heap.size + 1 + 1) [.int .i64 0, .int .i64 0, .int .i64 0, .int .i64 0, .int .i64 0, .int .i64 0]
  out : BoxAt wr B (eachCells f e a b k)
theorem boxAt_six {w : World} {b : Nat} {x0 x1 x2 x3 x4 x5 : Value} (h0 : w.cell? ⟨b, 0, none⟩ = some x0) (f0 : w.frozen? ⟨b, 0, none⟩ = false) (h1 : w.cell? ⟨b, 1, none⟩ = some x1) (f1 : w.frozen? ⟨b, 1, none⟩ = false) (h2 : w.cell? ⟨b, 2, none⟩ = some x2) (f2 : w.frozen? ⟨b, 2, none⟩ = false)
    (h3 : w.cell? ⟨b, 3, none⟩ = some x3) (f3 : w.frozen? ⟨b, 3, none⟩ = false) (h4 : w.cell? ⟨b, 4, none⟩ = some x4) (f4 : w.frozen? ⟨b, 4, none⟩ = false) (h5 : w.cell? ⟨b, 5, none⟩ = some x5) (f5 : w.frozen? ⟨b, 5, none⟩ = false) : BoxAt w b [x0, x1, x2, x3, x4, x5] := by
  intro i v hv
  match i, hv with
  | 0, hv => simp at hv; subst hv; exact ⟨h0, f0⟩
  | 1, hv => simp at hv; subst hv; exact ⟨h1, f1⟩
  | 2, hv => simp at hv; subst hv; exact ⟨h2, f2⟩
  | 3, hv => simp at hv; subst hv; exact ⟨h3, f3⟩
  | 4, hv => simp at hv; subst hv; exact ⟨h4, f4⟩
  | 5, hv => simp at hv; subst hv; exact ⟨h5, f5⟩
end Go.Proofs.YtkeifgcncmilmaaGreat
