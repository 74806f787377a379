/-
  Contracts: flight's calc: keep, do, sub, norm, each; Joint's closure.
-/
import Derived.Test.YtkeifgcncmilmaaCalcs
import Derived.Test.YtkeifgcncmilmaaFolds
namespace Go.Proofs.Ytkeifgcncmilmaa
open Go.RowKit Go.Shelf
set_option maxRecDepth 100000
set_option maxHeartbeats 2000000
theorem cKeep_any (c : Nat) (e : Int) (r : Res) (w : World) (hc : w.cell? ⟨c, 0, none⟩ = some (.int .i64 e)) (hf : w.frozen? ⟨c, 0, none⟩ = false) :
    Calls Try.prog 55 #[.pointer (some ⟨c, 0, none⟩), .agg #[.int .i64 r.s.lo, .int .i64 r.s.hi], .int .i64 r.e] w (RetC c (.agg #[.int .i64 ((doR e r).s).lo, .int .i64 ((doR e r).s).hi]) (doR e r).e w) := by
  have ib : BlockIn w c := BlockIn.of_cell hc
  have hci : HasCell w c 0 := ⟨_, hc⟩
  have Hb := Lib.hid (But.refl hc)
  have Hc := Lib.hid hc
  by_cases he : e = 0
  · subst he
    have HD := Lib.hid (doR_ok r)
    go_enter Try.func55, Try.ntmps55
    go_wp2
    refine bodyPost_ret (by (simp [results, Try.results55, go_sem] <;> rfl)) rfl ?_
    refine ⟨ret_spS (by rw [HD.out]) (by rw [HD.out]), But.out (by repeat (first | with_reducible exact Hb.out | with_reducible apply But.alloc | with_reducible apply But.later | with_reducible apply But.drew | with_reducible apply But.put | with_reducible apply But.store)) Hc.out ?_⟩
    rw [HD.out]
    go_simp
  · have he' : (e != 0) = true := by simp [he]
    have HD := Lib.hid (doR_bad r he)
    clear he
    go_enter Try.func55, Try.ntmps55
    go_wp2
    refine bodyPost_ret (by (simp [results, Try.results55, go_sem] <;> rfl)) rfl ?_
    refine ⟨ret_spS (by rw [HD.out]; rfl) (by rw [HD.out]; rfl), But.out (by repeat (first | with_reducible exact Hb.out | with_reducible apply But.alloc | with_reducible apply But.later | with_reducible apply But.drew | with_reducible apply But.put | with_reducible apply But.store)) Hc.out ?_⟩
    rw [HD.out]
    show _ = some (Value.int .i64 e)
    go_simp
/-- A function of two spans that only computes. -/
def BinOk (g : Nat) (op : Sp → Sp → Res) : Prop := ∀ (w : World) (a b : Sp), S64 a → S64 b → Calls Try.prog g #[.agg #[.int .i64 a.lo, .int .i64 a.hi], .agg #[.int .i64 b.lo, .int .i64 b.hi]] w fun e w' => e = .returned (.tuple #[.agg #[.int .i64 (op a b).s.lo, .int .i64 (op a b).s.hi], .int .i64 (op a b).e]) ∧ Grew w w'
theorem cDo_any (g : Nat) (op : Sp → Sp → Res) (eg : ∀ args w, (callFunc g args).run Try.prog w = .ok (.enter g args) w) (hop : BinOk g op) (c : Nat) (e : Int) (a b : Sp) [ha : S64 a] [hb : S64 b] (w : World) (hc : w.cell? ⟨c, 0, none⟩ = some (.int .i64 e)) (hf : w.frozen? ⟨c, 0, none⟩ = false) :
    Calls Try.prog 91 #[.pointer (some ⟨c, 0, none⟩), .func (.func g) #[] #[], .agg #[.int .i64 a.lo, .int .i64 a.hi], .agg #[.int .i64 b.lo, .int .i64 b.hi]] w (RetC c (.agg #[.int .i64 ((doR e (op a b)).s).lo, .int .i64 ((doR e (op a b)).s).hi]) (doR e (op a b)).e w) := by
  have ib : BlockIn w c := BlockIn.of_cell hc
  have hci : HasCell w c 0 := ⟨_, hc⟩
  have Hb := Lib.hid (But.refl hc)
  have Hc := Lib.hid hc
  have Hop := Lib.hid hop
  clear hop
  by_cases he : e = 0
  · subst he
    have HD := Lib.hid (doR_ok (op a b))
    go_enter Try.func91, Try.ntmps91
    go_wp2_with (first | (go_at_fn g; refine call_later (Hop.out _ a b ha hb) ?_; intro u))
    refine bodyPost_ret (by (simp [results, Try.results91, go_sem] <;> rfl)) rfl ?_
    refine ⟨ret_spS (by rw [HD.out]) (by rw [HD.out]), But.out (by repeat (first | with_reducible exact Hb.out | with_reducible apply But.alloc | with_reducible apply But.later | with_reducible apply But.drew | with_reducible apply But.put | with_reducible apply But.store)) Hc.out ?_⟩
    rw [HD.out]
    go_simp
  · have he' : (e != 0) = true := by simp [he]
    have HD := Lib.hid (doR_bad (op a b) he)
    clear he
    go_enter Try.func91, Try.ntmps91
    go_wp2
    refine bodyPost_ret (by (simp [results, Try.results91, go_sem] <;> rfl)) rfl ?_
    refine ⟨ret_spS (by rw [HD.out]; rfl) (by rw [HD.out]; rfl), But.out (by repeat (first | with_reducible exact Hb.out | with_reducible apply But.alloc | with_reducible apply But.later | with_reducible apply But.drew | with_reducible apply But.put | with_reducible apply But.store)) Hc.out ?_⟩
    rw [HD.out]
    show _ = some (Value.int .i64 e)
    go_simp
theorem bin_sub : BinOk 62 subR := fun w a b _ _ => spSub_any a b w
theorem bin_meet : BinOk 147 meetR := fun w a b _ _ => spMeet_any a b w
theorem cSub_any (c : Nat) (e : Int) (a b : Sp) [ha : S64 a] [hb : S64 b] (w : World) (hc : w.cell? ⟨c, 0, none⟩ = some (.int .i64 e)) (hf : w.frozen? ⟨c, 0, none⟩ = false) :
    Calls Try.prog 83 #[.pointer (some ⟨c, 0, none⟩), .agg #[.int .i64 a.lo, .int .i64 a.hi], .agg #[.int .i64 b.lo, .int .i64 b.hi]] w (RetC c (.agg #[.int .i64 ((doR e (subR a b)).s).lo, .int .i64 ((doR e (subR a b)).s).hi]) (doR e (subR a b)).e w) := by
  have ib : BlockIn w c := BlockIn.of_cell hc
  have hci : HasCell w c 0 := ⟨_, hc⟩
  have Hb := Lib.hid (But.refl hc)
  have Hc := Lib.hid hc
  go_enter Try.func83, Try.ntmps83
  go_wp2_with (go_at_call 91; refine call_calc (cDo_any 62 subR (enters_of Try.func62 (by kernel_rfl) rfl) bin_sub c e a b _ (by go_simp) (by go_simp)) ?_; intro u)
  refine bodyPost_ret (by (simp [results, Try.results83, go_sem] <;> rfl)) rfl ?_
  exact ⟨rfl, But.out (by repeat (first | with_reducible exact Hb.out | with_reducible apply But.alloc | with_reducible apply But.later | with_reducible apply But.drew | with_reducible apply But.put | with_reducible apply But.store)) Hc.out (by go_simp)⟩
theorem spNorm_box (b : Bx) [h : B64 b] (ao : Option Addr) (w : World) (hs : SlAt w (.slice ao 3 3) 3 [.int .i64 b.x.lo, .int .i64 b.x.hi, .int .i64 b.y.lo, .int .i64 b.y.hi, .int .i64 b.z.lo, .int .i64 b.z.hi]) : Calls Try.prog 98 #[.slice ao 3 3] w fun e w' => e = .returned (.tuple #[.agg #[.int .i64 (normR b.list).s.lo, .int .i64 (normR b.list).s.hi], .int .i64 (normR b.list).e]) ∧ Grew w w' := spNorm_any (boxS b) ao 3 w hs
theorem cNorm_any (c : Nat) (e : Int) (b : Bx) [hb : B64 b] (w : World) (hc : w.cell? ⟨c, 0, none⟩ = some (.int .i64 e)) (hf : w.frozen? ⟨c, 0, none⟩ = false) :
    Calls Try.prog 57 #[.pointer (some ⟨c, 0, none⟩), .agg #[.int .i64 b.x.lo, .int .i64 b.x.hi, .int .i64 b.y.lo, .int .i64 b.y.hi, .int .i64 b.z.lo, .int .i64 b.z.hi]] w (RetC c (.agg #[.int .i64 ((doR e (normR b.list)).s).lo, .int .i64 ((doR e (normR b.list)).s).hi]) (doR e (normR b.list)).e w) := by
  have ib : BlockIn w c := BlockIn.of_cell hc
  have hci : HasCell w c 0 := ⟨_, hc⟩
  have Hb := Lib.hid (But.refl hc)
  have Hc := Lib.hid hc
  go_enter Try.func57, Try.ntmps57
  go_wp2_with (first | (go_at_call 98; (with_reducible refine call_later (spNorm_box b _ _ (SlAt.row _ _ (by decide))) ?_); intro u) | (go_at_call 55; refine call_calc (cKeep_any c e (normR b.list) _ (by go_simp) (by go_simp)) ?_; intro u))
  refine bodyPost_ret (by (simp [results, Try.results57, go_sem] <;> rfl)) rfl ?_
  exact ⟨rfl, But.out (by repeat (first | with_reducible exact Hb.out | with_reducible apply But.alloc | with_reducible apply But.later | with_reducible apply But.drew | with_reducible apply But.put | with_reducible apply But.store)) Hc.out (by go_simp)⟩
def each1 (f : Sp → Sp → Res) (e : Int) (a b : Bx) : Res := doR e (f a.x b.x)
def each2 (f : Sp → Sp → Res) (e : Int) (a b : Bx) : Res := doR (each1 f e a b).e (f a.y b.y)
def each3 (f : Sp → Sp → Res) (e : Int) (a b : Bx) : Res := doR (each2 f e a b).e (f a.z b.z)
def eachB (f : Sp → Sp → Res) (e : Int) (a b : Bx) : Bx := ⟨(each1 f e a b).s, (each2 f e a b).s, (each3 f e a b).s⟩
/-- What is asked of an operation that keeps errors. -/
def OpC (g : Nat) (lb : Array Value) (op : Sp → Sp → Res) (c : Nat) (w0 : World) : Prop :=
  ∀ (w : World) (e : Int) (a b : Sp), S64 a → S64 b → ButT c w0 w → w.cell? ⟨c, 0, none⟩ = some (.int .i64 e) → w.frozen? ⟨c, 0, none⟩ = false →
    Calls Try.prog g (#[.agg #[.int .i64 a.lo, .int .i64 a.hi], .agg #[.int .i64 b.lo, .int .i64 b.hi]] ++ lb) w (RetC c (.agg #[.int .i64 ((doR e (op a b)).s).lo, .int .i64 ((doR e (op a b)).s).hi]) (doR e (op a b)).e w)
/-- The state of 'each' behind so many components. -/
def eachCells (f : Sp → Sp → Res) (e : Int) (a b : Bx) : Nat → List Value
  | 0 => [.int .i64 0, .int .i64 0, .int .i64 0, .int .i64 0, .int .i64 0, .int .i64 0]
  | 1 => [.int .i64 ((each1 f e a b).s).lo, .int .i64 ((each1 f e a b).s).hi, .int .i64 0, .int .i64 0, .int .i64 0, .int .i64 0]
  | 2 => [.int .i64 ((each1 f e a b).s).lo, .int .i64 ((each1 f e a b).s).hi, .int .i64 ((each2 f e a b).s).lo, .int .i64 ((each2 f e a b).s).hi, .int .i64 0, .int .i64 0]
  | _ => [.int .i64 ((each1 f e a b).s).lo, .int .i64 ((each1 f e a b).s).hi, .int .i64 ((each2 f e a b).s).lo, .int .i64 ((each2 f e a b).s).hi, .int .i64 ((each3 f e a b).s).lo, .int .i64 ((each3 f e a b).s).hi]
def eachErr (f : Sp → Sp → Res) (e : Int) (a b : Bx) : Nat → Int
  | 0 => e
  | 1 => (each1 f e a b).e
  | 2 => (each2 f e a b).e
  | _ => (each3 f e a b).e
structure EachAt (f : Sp → Sp → Res) (e : Int) (a b : Bx) (c B : Nat) (w : World) (k : Nat) (wr : World) : Prop where
  but : But c w wr
  cell : wr.cell? ⟨c, 0, none⟩ = some (.int .i64 (eachErr f e a b k))
  mark : wr.frozen? ⟨c, 0, none⟩ = false
  fst : BoxAt wr w.heap.size [.int .i64 a.x.lo, .int .i64 a.x.hi, .int .i64 a.y.lo, .int .i64 a.y.hi, .int .i64 a.z.lo, .int .i64 a.z.hi]
  snd : BoxAt wr (w.heap.size + 1) [.int .i64 b.x.lo, .int .i64 b.x.hi, .int .i64 b.y.lo, .int .i64 b.y.hi, .int .i64 b.z.lo, .int .i64 b.z.hi]
  res : BoxAt wr (w.heap.size + 1 + 1) [.int .i64 0, .int .i64 0, .int .i64 0, .int .i64 0, .int .i64 0, .int .i64 0]
  out : BoxAt wr B (eachCells f e a b k)
theorem boxAt_six {w : World} {b : Nat} {x0 x1 x2 x3 x4 x5 : Value} (h0 : w.cell? ⟨b, 0, none⟩ = some x0) (f0 : w.frozen? ⟨b, 0, none⟩ = false) (h1 : w.cell? ⟨b, 1, none⟩ = some x1) (f1 : w.frozen? ⟨b, 1, none⟩ = false) (h2 : w.cell? ⟨b, 2, none⟩ = some x2) (f2 : w.frozen? ⟨b, 2, none⟩ = false)
    (h3 : w.cell? ⟨b, 3, none⟩ = some x3) (f3 : w.frozen? ⟨b, 3, none⟩ = false) (h4 : w.cell? ⟨b, 4, none⟩ = some x4) (f4 : w.frozen? ⟨b, 4, none⟩ = false) (h5 : w.cell? ⟨b, 5, none⟩ = some x5) (f5 : w.frozen? ⟨b, 5, none⟩ = false) : BoxAt w b [x0, x1, x2, x3, x4, x5] := by
  intro i v hv
  match i, hv with
  | 0, hv => simp at hv; subst hv; exact ⟨h0, f0⟩
  | 1, hv => simp at hv; subst hv; exact ⟨h1, f1⟩
  | 2, hv => simp at hv; subst hv; exact ⟨h2, f2⟩
  | 3, hv => simp at hv; subst hv; exact ⟨h3, f3⟩
  | 4, hv => simp at hv; subst hv; exact ⟨h4, f4⟩
  | 5, hv => simp at hv; subst hv; exact ⟨h5, f5⟩
theorem cEach_any (g : Nat) (lb : Array Value) (op : Sp → Sp → Res) (eg : ∀ args w, (callFunc g args).run Try.prog w = .ok (.enter g args) w) (c : Nat) (e : Int) (a b : Bx) [ha : B64 a] [hb : B64 b] (w : World) (hop : OpC g lb op c w) (hc : w.cell? ⟨c, 0, none⟩ = some (.int .i64 e)) (hf : w.frozen? ⟨c, 0, none⟩ = false) :
    Calls Try.prog 82 #[.pointer (some ⟨c, 0, none⟩), .func (.func g) #[] lb, .agg #[.int .i64 a.x.lo, .int .i64 a.x.hi, .int .i64 a.y.lo, .int .i64 a.y.hi, .int .i64 a.z.lo, .int .i64 a.z.hi], .agg #[.int .i64 b.x.lo, .int .i64 b.x.hi, .int .i64 b.y.lo, .int .i64 b.y.hi, .int .i64 b.z.lo, .int .i64 b.z.hi]] w (RetC c (.agg #[.int .i64 ((eachB op e a b)).x.lo, .int .i64 ((eachB op e a b)).x.hi, .int .i64 ((eachB op e a b)).y.lo, .int .i64 ((eachB op e a b)).y.hi, .int .i64 ((eachB op e a b)).z.lo, .int .i64 ((eachB op e a b)).z.hi]) (each3 op e a b).e w) := by
  have ib : BlockIn w c := BlockIn.of_cell hc
  have hci : HasCell w c 0 := ⟨_, hc⟩
  have Hb := Lib.hid (But.refl hc)
  have Hc := Lib.hid hc
  have Hop := Lib.hid hop
  clear hop
  go_enter Try.func82, Try.ntmps82
  go_wp2
  go_loopw [11] (fun t wr => ∃ k : Nat, t = .int .i64 k ∧ k ≤ 3 ∧ EachAt op e a b c (w.heap.size + 1 + 1 + 1) w k wr) (fun t _ => 3 - (intOf t).toNat)
  case atStart => exact ⟨0, rfl, by omega, (by repeat (first | with_reducible exact Hb.out | with_reducible apply But.alloc | with_reducible apply But.later | with_reducible apply But.drew | with_reducible apply But.put | with_reducible apply But.store)), by go_simp; rfl, by go_simp, boxAt_six (by go_simp) (by go_simp) (by go_simp) (by go_simp) (by go_simp) (by go_simp) (by go_simp) (by go_simp) (by go_simp) (by go_simp) (by go_simp) (by go_simp), boxAt_six (by go_simp) (by go_simp) (by go_simp) (by go_simp) (by go_simp) (by go_simp) (by go_simp) (by go_simp) (by go_simp) (by go_simp) (by go_simp) (by go_simp), boxAt_six (by go_simp) (by go_simp) (by go_simp) (by go_simp) (by go_simp) (by go_simp) (by go_simp) (by go_simp) (by go_simp) (by go_simp) (by go_simp) (by go_simp), boxAt_six (by go_simp) (by go_simp) (by go_simp) (by go_simp) (by go_simp) (by go_simp) (by go_simp) (by go_simp) (by go_simp) (by go_simp) (by go_simp) (by go_simp)⟩
  case round =>
    obtain ⟨k, rfl, hk, hE⟩ := hrel
    obtain ⟨h1, h2, h3, h4, h5, h6, h7⟩ := hE

    have Hb := Lib.hid h1
    have ibw : BlockIn wr c := BlockIn.of_cell h2
    have hcw : HasCell wr c 0 := ⟨_, h2⟩
    have hlt := ib.lt
    have : Apart (c) (w.heap.size) := ⟨by omega⟩
    have : Apart (c) (w.heap.size + 1) := ⟨by omega⟩
    have : Apart (c) (w.heap.size + 1 + 1) := ⟨by omega⟩
    have : Apart (c) (w.heap.size + 1 + 1 + 1) := ⟨by omega⟩
    have : Apart (w.heap.size) (c) := ⟨by omega⟩
    have : Apart (w.heap.size + 1) (c) := ⟨by omega⟩
    have : Apart (w.heap.size + 1 + 1) (c) := ⟨by omega⟩
    have : Apart (w.heap.size + 1 + 1 + 1) (c) := ⟨by omega⟩
    have hT : ButT c w wr := ⟨h1.os, h1.tape, h1.output, h1.size, h1.block, fun _ => .inl h1.kept⟩
    have HT := Lib.hid hT
    clear h1 hT hc hf hci
    have h4_0 := (h4 0 _ rfl).1
    have h4f0 := (h4 0 _ rfl).2
    have h4i0 : HasCell (wr) (w.heap.size) 0 := ⟨_, h4_0⟩
    have h4_1 := (h4 1 _ rfl).1
    have h4f1 := (h4 1 _ rfl).2
    have h4i1 : HasCell (wr) (w.heap.size) 1 := ⟨_, h4_1⟩
    have h4_2 := (h4 2 _ rfl).1
    have h4f2 := (h4 2 _ rfl).2
    have h4i2 : HasCell (wr) (w.heap.size) 2 := ⟨_, h4_2⟩
    have h4_3 := (h4 3 _ rfl).1
    have h4f3 := (h4 3 _ rfl).2
    have h4i3 : HasCell (wr) (w.heap.size) 3 := ⟨_, h4_3⟩
    have h4_4 := (h4 4 _ rfl).1
    have h4f4 := (h4 4 _ rfl).2
    have h4i4 : HasCell (wr) (w.heap.size) 4 := ⟨_, h4_4⟩
    have h4_5 := (h4 5 _ rfl).1
    have h4f5 := (h4 5 _ rfl).2
    have h4i5 : HasCell (wr) (w.heap.size) 5 := ⟨_, h4_5⟩
    have h4b : BlockIn (wr) (w.heap.size) := BlockIn.of_cell h4_0
    clear h4
    have h5_0 := (h5 0 _ rfl).1
    have h5f0 := (h5 0 _ rfl).2
    have h5i0 : HasCell (wr) (w.heap.size + 1) 0 := ⟨_, h5_0⟩
    have h5_1 := (h5 1 _ rfl).1
    have h5f1 := (h5 1 _ rfl).2
    have h5i1 : HasCell (wr) (w.heap.size + 1) 1 := ⟨_, h5_1⟩
    have h5_2 := (h5 2 _ rfl).1
    have h5f2 := (h5 2 _ rfl).2
    have h5i2 : HasCell (wr) (w.heap.size + 1) 2 := ⟨_, h5_2⟩
    have h5_3 := (h5 3 _ rfl).1
    have h5f3 := (h5 3 _ rfl).2
    have h5i3 : HasCell (wr) (w.heap.size + 1) 3 := ⟨_, h5_3⟩
    have h5_4 := (h5 4 _ rfl).1
    have h5f4 := (h5 4 _ rfl).2
    have h5i4 : HasCell (wr) (w.heap.size + 1) 4 := ⟨_, h5_4⟩
    have h5_5 := (h5 5 _ rfl).1
    have h5f5 := (h5 5 _ rfl).2
    have h5i5 : HasCell (wr) (w.heap.size + 1) 5 := ⟨_, h5_5⟩
    have h5b : BlockIn (wr) (w.heap.size + 1) := BlockIn.of_cell h5_0
    clear h5
    have h6_0 := (h6 0 _ rfl).1
    have h6f0 := (h6 0 _ rfl).2
    have h6i0 : HasCell (wr) (w.heap.size + 1 + 1) 0 := ⟨_, h6_0⟩
    have h6_1 := (h6 1 _ rfl).1
    have h6f1 := (h6 1 _ rfl).2
    have h6i1 : HasCell (wr) (w.heap.size + 1 + 1) 1 := ⟨_, h6_1⟩
    have h6_2 := (h6 2 _ rfl).1
    have h6f2 := (h6 2 _ rfl).2
    have h6i2 : HasCell (wr) (w.heap.size + 1 + 1) 2 := ⟨_, h6_2⟩
    have h6_3 := (h6 3 _ rfl).1
    have h6f3 := (h6 3 _ rfl).2
    have h6i3 : HasCell (wr) (w.heap.size + 1 + 1) 3 := ⟨_, h6_3⟩
    have h6_4 := (h6 4 _ rfl).1
    have h6f4 := (h6 4 _ rfl).2
    have h6i4 : HasCell (wr) (w.heap.size + 1 + 1) 4 := ⟨_, h6_4⟩
    have h6_5 := (h6 5 _ rfl).1
    have h6f5 := (h6 5 _ rfl).2
    have h6i5 : HasCell (wr) (w.heap.size + 1 + 1) 5 := ⟨_, h6_5⟩
    have h6b : BlockIn (wr) (w.heap.size + 1 + 1) := BlockIn.of_cell h6_0
    clear h6
    have HO := Lib.hid (fun (z : World) (e : Int) (a b : Sp) ha hb hz h1 h2 => Hop.out z e a b ha hb (HT.out.trans hz) h1 h2)
    rcases (show k = 0 ∨ k = 1 ∨ k = 2 ∨ k = 3 by omega) with rfl | rfl | rfl | rfl
    · unfold eachErr at h2
      unfold eachCells at h7
      have h7_0 := (h7 0 _ rfl).1
      have h7f0 := (h7 0 _ rfl).2
      have h7i0 : HasCell (wr) (w.heap.size + 1 + 1 + 1) 0 := ⟨_, h7_0⟩
      have h7_1 := (h7 1 _ rfl).1
      have h7f1 := (h7 1 _ rfl).2
      have h7i1 : HasCell (wr) (w.heap.size + 1 + 1 + 1) 1 := ⟨_, h7_1⟩
      have h7_2 := (h7 2 _ rfl).1
      have h7f2 := (h7 2 _ rfl).2
      have h7i2 : HasCell (wr) (w.heap.size + 1 + 1 + 1) 2 := ⟨_, h7_2⟩
      have h7_3 := (h7 3 _ rfl).1
      have h7f3 := (h7 3 _ rfl).2
      have h7i3 : HasCell (wr) (w.heap.size + 1 + 1 + 1) 3 := ⟨_, h7_3⟩
      have h7_4 := (h7 4 _ rfl).1
      have h7f4 := (h7 4 _ rfl).2
      have h7i4 : HasCell (wr) (w.heap.size + 1 + 1 + 1) 4 := ⟨_, h7_4⟩
      have h7_5 := (h7 5 _ rfl).1
      have h7f5 := (h7 5 _ rfl).2
      have h7i5 : HasCell (wr) (w.heap.size + 1 + 1 + 1) 5 := ⟨_, h7_5⟩
      have h7b : BlockIn (wr) (w.heap.size + 1 + 1 + 1) := BlockIn.of_cell h7_0
      clear h7
      go_wp2
      refine wp_region_calc c [e, (each1 op e a b).e] 10 [] [8] [] (fun W0 => []) [.agg #[.int .i64 ((each1 op e a b).s).lo, .int .i64 ((each1 op e a b).s).hi]] [10] (by rfl) (by go_simp) (by go_simp) (fun _ _ x hx => absurd hx (List.not_mem_nil)) (by kernel_rfl) (by kernel_rfl) (by kernel_rfl) ?_
      intro pz hd0
      apply Exists.intro
      apply And.intro
      iterate 8 (apply lexc_pure hd0 (by kernel_rfl); (· intro uz xc; unfold opPure; go_simp; rfl))
      apply lexc_call hd0 0 (by kernel_rfl) (by rfl) (by decide)
      · intro uz hfz hF; clear hF; unfold opCall; go_simp; exact HO.out _ _ _ _ ha.x hb.x ((ButT.grew (Grew.later (Grew.drew (Grew.refl wr)) uz)).trans (ButT.put _ _ _)) (by go_simp) hfz
      apply lexc_pure hd0 (by kernel_rfl)
      · intro uz xc; unfold opPure; go_simp; rfl
      apply lexc_end
      rotate_left
      · rfl
      intro uz hR hD hfz
      clear hR hD
      refine tail_store (by rfl) ?_; unfold opStore; go_simp
      refine tail_end ?_
      go_wp2
      refine ⟨⟨1, rfl, by omega, (by repeat (first | with_reducible exact Hb.out | with_reducible apply But.alloc | with_reducible apply But.later | with_reducible apply But.drew | with_reducible apply But.put | with_reducible apply But.store)), by go_simp; rfl, by go_simp, boxAt_six (by go_simp) (by go_simp) (by go_simp) (by go_simp) (by go_simp) (by go_simp) (by go_simp) (by go_simp) (by go_simp) (by go_simp) (by go_simp) (by go_simp) , boxAt_six (by go_simp) (by go_simp) (by go_simp) (by go_simp) (by go_simp) (by go_simp) (by go_simp) (by go_simp) (by go_simp) (by go_simp) (by go_simp) (by go_simp) , boxAt_six (by go_simp) (by go_simp) (by go_simp) (by go_simp) (by go_simp) (by go_simp) (by go_simp) (by go_simp) (by go_simp) (by go_simp) (by go_simp) (by go_simp) , ?_⟩, by simp [intOf]⟩
      exact boxAt_six (by go_simp <;> rfl) (by go_simp) (by go_simp <;> rfl) (by go_simp) (by go_simp <;> rfl) (by go_simp) (by go_simp <;> rfl) (by go_simp) (by go_simp <;> rfl) (by go_simp) (by go_simp <;> rfl) (by go_simp) 
    · unfold eachErr at h2
      unfold eachCells at h7
      have h7_0 := (h7 0 _ rfl).1
      have h7f0 := (h7 0 _ rfl).2
      have h7i0 : HasCell (wr) (w.heap.size + 1 + 1 + 1) 0 := ⟨_, h7_0⟩
      have h7_1 := (h7 1 _ rfl).1
      have h7f1 := (h7 1 _ rfl).2
      have h7i1 : HasCell (wr) (w.heap.size + 1 + 1 + 1) 1 := ⟨_, h7_1⟩
      have h7_2 := (h7 2 _ rfl).1
      have h7f2 := (h7 2 _ rfl).2
      have h7i2 : HasCell (wr) (w.heap.size + 1 + 1 + 1) 2 := ⟨_, h7_2⟩
      have h7_3 := (h7 3 _ rfl).1
      have h7f3 := (h7 3 _ rfl).2
      have h7i3 : HasCell (wr) (w.heap.size + 1 + 1 + 1) 3 := ⟨_, h7_3⟩
      have h7_4 := (h7 4 _ rfl).1
      have h7f4 := (h7 4 _ rfl).2
      have h7i4 : HasCell (wr) (w.heap.size + 1 + 1 + 1) 4 := ⟨_, h7_4⟩
      have h7_5 := (h7 5 _ rfl).1
      have h7f5 := (h7 5 _ rfl).2
      have h7i5 : HasCell (wr) (w.heap.size + 1 + 1 + 1) 5 := ⟨_, h7_5⟩
      have h7b : BlockIn (wr) (w.heap.size + 1 + 1 + 1) := BlockIn.of_cell h7_0
      clear h7
      go_wp2
      refine wp_region_calc c [(each1 op e a b).e, (each2 op e a b).e] 10 [] [8] [] (fun W0 => []) [.agg #[.int .i64 ((each2 op e a b).s).lo, .int .i64 ((each2 op e a b).s).hi]] [10] (by rfl) (by go_simp) (by go_simp) (fun _ _ x hx => absurd hx (List.not_mem_nil)) (by kernel_rfl) (by kernel_rfl) (by kernel_rfl) ?_
      intro pz hd0
      apply Exists.intro
      apply And.intro
      iterate 8 (apply lexc_pure hd0 (by kernel_rfl); (· intro uz xc; unfold opPure; go_simp; rfl))
      apply lexc_call hd0 0 (by kernel_rfl) (by rfl) (by decide)
      · intro uz hfz hF; clear hF; unfold opCall; go_simp; exact HO.out _ _ _ _ ha.y hb.y ((ButT.grew (Grew.later (Grew.drew (Grew.refl wr)) uz)).trans (ButT.put _ _ _)) (by go_simp) hfz
      apply lexc_pure hd0 (by kernel_rfl)
      · intro uz xc; unfold opPure; go_simp; rfl
      apply lexc_end
      rotate_left
      · rfl
      intro uz hR hD hfz
      clear hR hD
      refine tail_store (by rfl) ?_; unfold opStore; go_simp
      refine tail_end ?_
      go_wp2
      refine ⟨⟨2, rfl, by omega, (by repeat (first | with_reducible exact Hb.out | with_reducible apply But.alloc | with_reducible apply But.later | with_reducible apply But.drew | with_reducible apply But.put | with_reducible apply But.store)), by go_simp; rfl, by go_simp, boxAt_six (by go_simp) (by go_simp) (by go_simp) (by go_simp) (by go_simp) (by go_simp) (by go_simp) (by go_simp) (by go_simp) (by go_simp) (by go_simp) (by go_simp) , boxAt_six (by go_simp) (by go_simp) (by go_simp) (by go_simp) (by go_simp) (by go_simp) (by go_simp) (by go_simp) (by go_simp) (by go_simp) (by go_simp) (by go_simp) , boxAt_six (by go_simp) (by go_simp) (by go_simp) (by go_simp) (by go_simp) (by go_simp) (by go_simp) (by go_simp) (by go_simp) (by go_simp) (by go_simp) (by go_simp) , ?_⟩, by simp [intOf]⟩
      exact boxAt_six (by go_simp <;> rfl) (by go_simp) (by go_simp <;> rfl) (by go_simp) (by go_simp <;> rfl) (by go_simp) (by go_simp <;> rfl) (by go_simp) (by go_simp <;> rfl) (by go_simp) (by go_simp <;> rfl) (by go_simp) 
    · unfold eachErr at h2
      unfold eachCells at h7
      have h7_0 := (h7 0 _ rfl).1
      have h7f0 := (h7 0 _ rfl).2
      have h7i0 : HasCell (wr) (w.heap.size + 1 + 1 + 1) 0 := ⟨_, h7_0⟩
      have h7_1 := (h7 1 _ rfl).1
      have h7f1 := (h7 1 _ rfl).2
      have h7i1 : HasCell (wr) (w.heap.size + 1 + 1 + 1) 1 := ⟨_, h7_1⟩
      have h7_2 := (h7 2 _ rfl).1
      have h7f2 := (h7 2 _ rfl).2
      have h7i2 : HasCell (wr) (w.heap.size + 1 + 1 + 1) 2 := ⟨_, h7_2⟩
      have h7_3 := (h7 3 _ rfl).1
      have h7f3 := (h7 3 _ rfl).2
      have h7i3 : HasCell (wr) (w.heap.size + 1 + 1 + 1) 3 := ⟨_, h7_3⟩
      have h7_4 := (h7 4 _ rfl).1
      have h7f4 := (h7 4 _ rfl).2
      have h7i4 : HasCell (wr) (w.heap.size + 1 + 1 + 1) 4 := ⟨_, h7_4⟩
      have h7_5 := (h7 5 _ rfl).1
      have h7f5 := (h7 5 _ rfl).2
      have h7i5 : HasCell (wr) (w.heap.size + 1 + 1 + 1) 5 := ⟨_, h7_5⟩
      have h7b : BlockIn (wr) (w.heap.size + 1 + 1 + 1) := BlockIn.of_cell h7_0
      clear h7
      go_wp2
      refine wp_region_calc c [(each2 op e a b).e, (each3 op e a b).e] 10 [] [8] [] (fun W0 => []) [.agg #[.int .i64 ((each3 op e a b).s).lo, .int .i64 ((each3 op e a b).s).hi]] [10] (by rfl) (by go_simp) (by go_simp) (fun _ _ x hx => absurd hx (List.not_mem_nil)) (by kernel_rfl) (by kernel_rfl) (by kernel_rfl) ?_
      intro pz hd0
      apply Exists.intro
      apply And.intro
      iterate 8 (apply lexc_pure hd0 (by kernel_rfl); (· intro uz xc; unfold opPure; go_simp; rfl))
      apply lexc_call hd0 0 (by kernel_rfl) (by rfl) (by decide)
      · intro uz hfz hF; clear hF; unfold opCall; go_simp; exact HO.out _ _ _ _ ha.z hb.z ((ButT.grew (Grew.later (Grew.drew (Grew.refl wr)) uz)).trans (ButT.put _ _ _)) (by go_simp) hfz
      apply lexc_pure hd0 (by kernel_rfl)
      · intro uz xc; unfold opPure; go_simp; rfl
      apply lexc_end
      rotate_left
      · rfl
      intro uz hR hD hfz
      clear hR hD
      refine tail_store (by rfl) ?_; unfold opStore; go_simp
      refine tail_end ?_
      go_wp2
      refine ⟨⟨3, rfl, by omega, (by repeat (first | with_reducible exact Hb.out | with_reducible apply But.alloc | with_reducible apply But.later | with_reducible apply But.drew | with_reducible apply But.put | with_reducible apply But.store)), by go_simp; rfl, by go_simp, boxAt_six (by go_simp) (by go_simp) (by go_simp) (by go_simp) (by go_simp) (by go_simp) (by go_simp) (by go_simp) (by go_simp) (by go_simp) (by go_simp) (by go_simp) , boxAt_six (by go_simp) (by go_simp) (by go_simp) (by go_simp) (by go_simp) (by go_simp) (by go_simp) (by go_simp) (by go_simp) (by go_simp) (by go_simp) (by go_simp) , boxAt_six (by go_simp) (by go_simp) (by go_simp) (by go_simp) (by go_simp) (by go_simp) (by go_simp) (by go_simp) (by go_simp) (by go_simp) (by go_simp) (by go_simp) , ?_⟩, by simp [intOf]⟩
      exact boxAt_six (by go_simp <;> rfl) (by go_simp) (by go_simp <;> rfl) (by go_simp) (by go_simp <;> rfl) (by go_simp) (by go_simp <;> rfl) (by go_simp) (by go_simp <;> rfl) (by go_simp) (by go_simp <;> rfl) (by go_simp) 
    · unfold eachErr at h2
      unfold eachCells at h7
      have h7_0 := (h7 0 _ rfl).1
      have h7f0 := (h7 0 _ rfl).2
      have h7i0 : HasCell (wr) (w.heap.size + 1 + 1 + 1) 0 := ⟨_, h7_0⟩
      have h7_1 := (h7 1 _ rfl).1
      have h7f1 := (h7 1 _ rfl).2
      have h7i1 : HasCell (wr) (w.heap.size + 1 + 1 + 1) 1 := ⟨_, h7_1⟩
      have h7_2 := (h7 2 _ rfl).1
      have h7f2 := (h7 2 _ rfl).2
      have h7i2 : HasCell (wr) (w.heap.size + 1 + 1 + 1) 2 := ⟨_, h7_2⟩
      have h7_3 := (h7 3 _ rfl).1
      have h7f3 := (h7 3 _ rfl).2
      have h7i3 : HasCell (wr) (w.heap.size + 1 + 1 + 1) 3 := ⟨_, h7_3⟩
      have h7_4 := (h7 4 _ rfl).1
      have h7f4 := (h7 4 _ rfl).2
      have h7i4 : HasCell (wr) (w.heap.size + 1 + 1 + 1) 4 := ⟨_, h7_4⟩
      have h7_5 := (h7 5 _ rfl).1
      have h7f5 := (h7 5 _ rfl).2
      have h7i5 : HasCell (wr) (w.heap.size + 1 + 1 + 1) 5 := ⟨_, h7_5⟩
      have h7b : BlockIn (wr) (w.heap.size + 1 + 1 + 1) := BlockIn.of_cell h7_0
      clear h7
      go_wp2
      refine bodyPost_ret (by (simp [results, Try.results82, go_sem] <;> rfl)) rfl ?_
      exact ⟨rfl, But.out (by repeat (first | with_reducible exact Hb.out | with_reducible apply But.alloc | with_reducible apply But.later | with_reducible apply But.drew | with_reducible apply But.put | with_reducible apply But.store)) Hc.out (by go_simp)⟩
end Go.Proofs.Ytkeifgcncmilmaa
