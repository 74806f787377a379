/-
  Contracts: ullageref11's length.
-/
import Derived.Test.YtdanaclplmacgaaRefMotion
namespace Go.Proofs.Ytdanaclplmacgaa
open Go.RowKit Go.Shelf
set_option maxRecDepth 100000
set_option maxHeartbeats 16000000
def lq1 (e : Int) (m : Mo) (u : Sp) : Res := ch6 e m.d.x m.w.x m.a.x u
def lq2 (e : Int) (m : Mo) (u : Sp) : Res := ch6 (lq1 e m u).e m.d.y m.w.y m.a.y u
def lq3 (e : Int) (m : Mo) (u : Sp) : Res := ch6 (lq2 e m u).e m.d.z m.w.z m.a.z u
instance s64_lq1 (e : Int) (m : Mo) (u : Sp) : S64 (lq1 e m u).s := s64_ch6 _ _ _ _ _
instance s64_lq2 (e : Int) (m : Mo) (u : Sp) : S64 (lq2 e m u).s := s64_ch6 _ _ _ _ _
instance s64_lq3 (e : Int) (m : Mo) (u : Sp) : S64 (lq3 e m u).s := s64_ch6 _ _ _ _ _
def lqB (e : Int) (m : Mo) (u : Sp) : Bx := ⟨(lq1 e m u).s, (lq2 e m u).s, (lq3 e m u).s⟩
instance b64_lq (e : Int) (m : Mo) (u : Sp) : B64 (lqB e m u) := ⟨s64_lq1 e m u, s64_lq2 e m u, s64_lq3 e m u⟩
theorem lq_law (e : Int) (m : Mo) (u : Sp) : doR (lq3 e m u).e (normR (lqB e m u).list) = doR e (lengthR m u) := by
  have e1 : lq1 e m u = doR e (ln1 m u) := ch6_law _ _ _ _ _
  have e2 : lq2 e m u = doR e (ln2 m u) := by
    unfold lq2 ln2
    rw [ch6_law, e1]
    exact doR_doR e (ln1 m u) (fun _ => alongR m.d.y m.w.y m.a.y u)
  have e3 : lq3 e m u = doR e (ln3 m u) := by
    unfold lq3 ln3
    rw [ch6_law, e2]
    exact doR_doR e (ln2 m u) (fun _ => alongR m.d.z m.w.z m.a.z u)
  unfold lqB
  rw [e1, e2, e3]
  by_cases h : e = 0
  · subst h
    rw [doR_ok, doR_ok, doR_ok, doR_ok]
    rfl
  · rw [doR_e_ne _ h, doR_bad _ h, doR_bad _ h]
theorem rLength_any (c : Nat) (e : Int) (m : Mo) (u : Sp) [hm : Mo64 m] [hu : S64 u] (w : World) (hc : w.cell? ⟨c, 0, none⟩ = some (.int .i64 e)) (hf : w.frozen? ⟨c, 0, none⟩ = false) :
    Calls Try.prog 141 #[.pointer (some ⟨c, 0, none⟩), .agg #[.int .i64 m.d.x.lo, .int .i64 m.d.x.hi, .int .i64 m.d.y.lo, .int .i64 m.d.y.hi, .int .i64 m.d.z.lo, .int .i64 m.d.z.hi], .agg #[.int .i64 m.w.x.lo, .int .i64 m.w.x.hi, .int .i64 m.w.y.lo, .int .i64 m.w.y.hi, .int .i64 m.w.z.lo, .int .i64 m.w.z.hi], .agg #[.int .i64 m.a.x.lo, .int .i64 m.a.x.hi, .int .i64 m.a.y.lo, .int .i64 m.a.y.hi, .int .i64 m.a.z.lo, .int .i64 m.a.z.hi], .agg #[.int .i64 u.lo, .int .i64 u.hi]] w (RetC c (.agg #[.int .i64 ((doR e (lengthR m u)).s).lo, .int .i64 ((doR e (lengthR m u)).s).hi]) (doR e (lengthR m u)).e w) := by
  have ib : BlockIn w c := BlockIn.of_cell hc
  have hci : HasCell w c 0 := ⟨_, hc⟩
  have Hb := Lib.hid (But.refl hc)
  have Hc := Lib.hid hc
  have Hl := Lib.hid (lq_law e m u)
  have hlt := ib.lt
  have w2 := wholeS_64 2 (by omega) (by omega)
  have HW := Lib.hid (fun w => rWhole_any 2 (by omega) (by omega) w)
  have : Apart (c) (w.heap.size) := ⟨by omega⟩
  have : Apart (c) (w.heap.size + 1) := ⟨by omega⟩
  have : Apart (c) (w.heap.size + 1 + 1) := ⟨by omega⟩
  have : Apart (c) (w.heap.size + 1 + 1 + 1) := ⟨by omega⟩
  have : Apart (c) (w.heap.size + 1 + 1 + 1 + 1) := ⟨by omega⟩
  have : Apart (c) (w.heap.size + 1 + 1 + 1 + 1 + 1) := ⟨by omega⟩
  have : Apart (w.heap.size) (c) := ⟨by omega⟩
  have : Apart (w.heap.size) (w.heap.size + 1) := ⟨by omega⟩
  have : Apart (w.heap.size) (w.heap.size + 1 + 1) := ⟨by omega⟩
  have : Apart (w.heap.size) (w.heap.size + 1 + 1 + 1) := ⟨by omega⟩
  have : Apart (w.heap.size) (w.heap.size + 1 + 1 + 1 + 1) := ⟨by omega⟩
  have : Apart (w.heap.size) (w.heap.size + 1 + 1 + 1 + 1 + 1) := ⟨by omega⟩
  have : Apart (w.heap.size + 1) (c) := ⟨by omega⟩
  have : Apart (w.heap.size + 1) (w.heap.size) := ⟨by omega⟩
  have : Apart (w.heap.size + 1) (w.heap.size + 1 + 1) := ⟨by omega⟩
  have : Apart (w.heap.size + 1) (w.heap.size + 1 + 1 + 1) := ⟨by omega⟩
  have : Apart (w.heap.size + 1) (w.heap.size + 1 + 1 + 1 + 1) := ⟨by omega⟩
  have : Apart (w.heap.size + 1) (w.heap.size + 1 + 1 + 1 + 1 + 1) := ⟨by omega⟩
  have : Apart (w.heap.size + 1 + 1) (c) := ⟨by omega⟩
  have : Apart (w.heap.size + 1 + 1) (w.heap.size) := ⟨by omega⟩
  have : Apart (w.heap.size + 1 + 1) (w.heap.size + 1) := ⟨by omega⟩
  have : Apart (w.heap.size + 1 + 1) (w.heap.size + 1 + 1 + 1) := ⟨by omega⟩
  have : Apart (w.heap.size + 1 + 1) (w.heap.size + 1 + 1 + 1 + 1) := ⟨by omega⟩
  have : Apart (w.heap.size + 1 + 1) (w.heap.size + 1 + 1 + 1 + 1 + 1) := ⟨by omega⟩
  have : Apart (w.heap.size + 1 + 1 + 1) (c) := ⟨by omega⟩
  have : Apart (w.heap.size + 1 + 1 + 1) (w.heap.size) := ⟨by omega⟩
  have : Apart (w.heap.size + 1 + 1 + 1) (w.heap.size + 1) := ⟨by omega⟩
  have : Apart (w.heap.size + 1 + 1 + 1) (w.heap.size + 1 + 1) := ⟨by omega⟩
  have : Apart (w.heap.size + 1 + 1 + 1) (w.heap.size + 1 + 1 + 1 + 1) := ⟨by omega⟩
  have : Apart (w.heap.size + 1 + 1 + 1) (w.heap.size + 1 + 1 + 1 + 1 + 1) := ⟨by omega⟩
  have : Apart (w.heap.size + 1 + 1 + 1 + 1) (c) := ⟨by omega⟩
  have : Apart (w.heap.size + 1 + 1 + 1 + 1) (w.heap.size) := ⟨by omega⟩
  have : Apart (w.heap.size + 1 + 1 + 1 + 1) (w.heap.size + 1) := ⟨by omega⟩
  have : Apart (w.heap.size + 1 + 1 + 1 + 1) (w.heap.size + 1 + 1) := ⟨by omega⟩
  have : Apart (w.heap.size + 1 + 1 + 1 + 1) (w.heap.size + 1 + 1 + 1) := ⟨by omega⟩
  have : Apart (w.heap.size + 1 + 1 + 1 + 1) (w.heap.size + 1 + 1 + 1 + 1 + 1) := ⟨by omega⟩
  have : Apart (w.heap.size + 1 + 1 + 1 + 1 + 1) (c) := ⟨by omega⟩
  have : Apart (w.heap.size + 1 + 1 + 1 + 1 + 1) (w.heap.size) := ⟨by omega⟩
  have : Apart (w.heap.size + 1 + 1 + 1 + 1 + 1) (w.heap.size + 1) := ⟨by omega⟩
  have : Apart (w.heap.size + 1 + 1 + 1 + 1 + 1) (w.heap.size + 1 + 1) := ⟨by omega⟩
  have : Apart (w.heap.size + 1 + 1 + 1 + 1 + 1) (w.heap.size + 1 + 1 + 1) := ⟨by omega⟩
  have : Apart (w.heap.size + 1 + 1 + 1 + 1 + 1) (w.heap.size + 1 + 1 + 1 + 1) := ⟨by omega⟩
  clear hlt
  go_enter Try.func141, Try.ntmps141
  go_wp2
  refine wp_loop_rounds 4 ?_
  rw [rounds_succ]
  go_wp2
  refine wp_region_calc c [e, (ch1 (e) m.w.x u).e, (ch2 (e) m.d.x m.w.x u).e, (ch3 (e) m.d.x m.w.x u).e, (ch4 (e) m.d.x m.w.x m.a.x u).e, (ch4 (e) m.d.x m.w.x m.a.x u).e, (ch5 (e) m.d.x m.w.x m.a.x u).e, (lq1 e m u).e] 26 [] [11, 12, 20, 21, 22, 23, 24] [] (fun W0 => []) [.agg #[.int .i64 ((ch1 (e) m.w.x u).s).lo, .int .i64 ((ch1 (e) m.w.x u).s).hi], .agg #[.int .i64 ((ch2 (e) m.d.x m.w.x u).s).lo, .int .i64 ((ch2 (e) m.d.x m.w.x u).s).hi], .agg #[.int .i64 ((ch3 (e) m.d.x m.w.x u).s).lo, .int .i64 ((ch3 (e) m.d.x m.w.x u).s).hi], .agg #[.int .i64 ((ch4 (e) m.d.x m.w.x m.a.x u).s).lo, .int .i64 ((ch4 (e) m.d.x m.w.x m.a.x u).s).hi], .agg #[.int .i64 ((wholeS 2)).lo, .int .i64 ((wholeS 2)).hi], .agg #[.int .i64 ((ch5 (e) m.d.x m.w.x m.a.x u).s).lo, .int .i64 ((ch5 (e) m.d.x m.w.x m.a.x u).s).hi], .agg #[.int .i64 ((lq1 e m u).s).lo, .int .i64 ((lq1 e m u).s).hi]] [26] (by rfl) (by go_simp) (by go_simp) (fun _ _ x hx => absurd hx (List.not_mem_nil)) (by kernel_rfl) (by kernel_rfl) (by kernel_rfl) ?_
  intro pz hd0
  apply Exists.intro
  apply And.intro
  apply lexc_pure hd0 (by kernel_rfl)
  · intro uz xc; unfold opPure; go_simp; rfl
  apply lexc_pure hd0 (by kernel_rfl)
  · intro uz xc; unfold opPure; go_simp; rfl
  apply lexc_pure hd0 (by kernel_rfl)
  · intro uz xc; unfold opPure; go_simp; rfl
  apply lexc_pure hd0 (by kernel_rfl)
  · intro uz xc; unfold opPure; go_simp; rfl
  apply lexc_pure hd0 (by kernel_rfl)
  · intro uz xc; unfold opPure; go_simp; rfl
  apply lexc_pure hd0 (by kernel_rfl)
  · intro uz xc; unfold opPure; go_simp; rfl
  apply lexc_pure hd0 (by kernel_rfl)
  · intro uz xc; unfold opPure; go_simp; rfl
  apply lexc_pure hd0 (by kernel_rfl)
  · intro uz xc; unfold opPure; go_simp; rfl
  apply lexc_pure hd0 (by kernel_rfl)
  · intro uz xc; unfold opPure; go_simp; rfl
  apply lexc_pure hd0 (by kernel_rfl)
  · intro uz xc; unfold opPure; go_simp; rfl
  apply lexc_pure hd0 (by kernel_rfl)
  · intro uz xc; unfold opPure; go_simp; rfl
  apply lexc_call hd0 0 (by kernel_rfl) (by rfl) (by decide)
  · intro uz hfz hF; clear hF; unfold opCall; go_simp; exact rcMul_any _ (e) m.w.x u _ (by go_simp) hfz
  apply lexc_call hd0 1 (by kernel_rfl) (by rfl) (by decide)
  · intro uz hfz hF; clear hF; unfold opCall; go_simp; exact rcAdd_any _ (ch1 (e) m.w.x u).e m.d.x (ch1 (e) m.w.x u).s _ (by go_simp) hfz
  apply lexc_pure hd0 (by kernel_rfl)
  · intro uz xc; unfold opPure; go_simp; rfl
  apply lexc_pure hd0 (by kernel_rfl)
  · intro uz xc; unfold opPure; go_simp; rfl
  apply lexc_pure hd0 (by kernel_rfl)
  · intro uz xc; unfold opPure; go_simp; rfl
  apply lexc_pure hd0 (by kernel_rfl)
  · intro uz xc; unfold opPure; go_simp; rfl
  apply lexc_pure hd0 (by kernel_rfl)
  · intro uz xc; unfold opPure; go_simp; rfl
  apply lexc_pure hd0 (by kernel_rfl)
  · intro uz xc; unfold opPure; go_simp; rfl
  apply lexc_pure hd0 (by kernel_rfl)
  · intro uz xc; unfold opPure; go_simp; rfl
  apply lexc_call hd0 2 (by kernel_rfl) (by rfl) (by decide)
  · intro uz hfz hF; clear hF; unfold opCall; go_simp; exact rcSquare_any _ (ch2 (e) m.d.x m.w.x u).e u _ (by go_simp) hfz
  apply lexc_call hd0 3 (by kernel_rfl) (by rfl) (by decide)
  · intro uz hfz hF; clear hF; unfold opCall; go_simp; exact rcMul_any _ (ch3 (e) m.d.x m.w.x u).e m.a.x (ch3 (e) m.d.x m.w.x u).s _ (by go_simp) hfz
  apply lexc_call hd0 4 (by kernel_rfl) (by rfl) (by decide)
  · intro uz hfz hF; clear hF; unfold opCall; go_simp; exact retc_of (HW.out _) (by go_simp)
  apply lexc_call hd0 5 (by kernel_rfl) (by rfl) (by decide)
  · intro uz hfz hF; clear hF; unfold opCall; go_simp; exact rcDiv_any _ (ch4 (e) m.d.x m.w.x m.a.x u).e (ch4 (e) m.d.x m.w.x m.a.x u).s (wholeS 2) _ (by go_simp) hfz
  apply lexc_call hd0 6 (by kernel_rfl) (by rfl) (by decide)
  · intro uz hfz hF; clear hF; unfold opCall; go_simp; exact rcAdd_any _ (ch5 (e) m.d.x m.w.x m.a.x u).e (ch2 (e) m.d.x m.w.x u).s (ch5 (e) m.d.x m.w.x m.a.x u).s _ (by go_simp) hfz
  apply lexc_pure hd0 (by kernel_rfl)
  · intro uz xc; unfold opPure; go_simp; rfl
  apply lexc_end
  rotate_left
  · rfl
  intro uz hR hD hfz
  clear hR hD
  refine tail_store (by rfl) ?_; unfold opStore; go_simp
  refine tail_end ?_
  go_wp2
  rw [rounds_succ]
  go_wp2
  refine wp_region_calc c [(lq1 e m u).e, (ch1 ((lq1 e m u).e) m.w.y u).e, (ch2 ((lq1 e m u).e) m.d.y m.w.y u).e, (ch3 ((lq1 e m u).e) m.d.y m.w.y u).e, (ch4 ((lq1 e m u).e) m.d.y m.w.y m.a.y u).e, (ch4 ((lq1 e m u).e) m.d.y m.w.y m.a.y u).e, (ch5 ((lq1 e m u).e) m.d.y m.w.y m.a.y u).e, (lq2 e m u).e] 26 [] [11, 12, 20, 21, 22, 23, 24] [] (fun W0 => []) [.agg #[.int .i64 ((ch1 ((lq1 e m u).e) m.w.y u).s).lo, .int .i64 ((ch1 ((lq1 e m u).e) m.w.y u).s).hi], .agg #[.int .i64 ((ch2 ((lq1 e m u).e) m.d.y m.w.y u).s).lo, .int .i64 ((ch2 ((lq1 e m u).e) m.d.y m.w.y u).s).hi], .agg #[.int .i64 ((ch3 ((lq1 e m u).e) m.d.y m.w.y u).s).lo, .int .i64 ((ch3 ((lq1 e m u).e) m.d.y m.w.y u).s).hi], .agg #[.int .i64 ((ch4 ((lq1 e m u).e) m.d.y m.w.y m.a.y u).s).lo, .int .i64 ((ch4 ((lq1 e m u).e) m.d.y m.w.y m.a.y u).s).hi], .agg #[.int .i64 ((wholeS 2)).lo, .int .i64 ((wholeS 2)).hi], .agg #[.int .i64 ((ch5 ((lq1 e m u).e) m.d.y m.w.y m.a.y u).s).lo, .int .i64 ((ch5 ((lq1 e m u).e) m.d.y m.w.y m.a.y u).s).hi], .agg #[.int .i64 ((lq2 e m u).s).lo, .int .i64 ((lq2 e m u).s).hi]] [26] (by rfl) (by go_simp) (by go_simp) (fun _ _ x hx => absurd hx (List.not_mem_nil)) (by kernel_rfl) (by kernel_rfl) (by kernel_rfl) ?_
  intro pz hd0
  apply Exists.intro
  apply And.intro
  apply lexc_pure hd0 (by kernel_rfl)
  · intro uz xc; unfold opPure; go_simp; rfl
  apply lexc_pure hd0 (by kernel_rfl)
  · intro uz xc; unfold opPure; go_simp; rfl
  apply lexc_pure hd0 (by kernel_rfl)
  · intro uz xc; unfold opPure; go_simp; rfl
  apply lexc_pure hd0 (by kernel_rfl)
  · intro uz xc; unfold opPure; go_simp; rfl
  apply lexc_pure hd0 (by kernel_rfl)
  · intro uz xc; unfold opPure; go_simp; rfl
  apply lexc_pure hd0 (by kernel_rfl)
  · intro uz xc; unfold opPure; go_simp; rfl
  apply lexc_pure hd0 (by kernel_rfl)
  · intro uz xc; unfold opPure; go_simp; rfl
  apply lexc_pure hd0 (by kernel_rfl)
  · intro uz xc; unfold opPure; go_simp; rfl
  apply lexc_pure hd0 (by kernel_rfl)
  · intro uz xc; unfold opPure; go_simp; rfl
  apply lexc_pure hd0 (by kernel_rfl)
  · intro uz xc; unfold opPure; go_simp; rfl
  apply lexc_pure hd0 (by kernel_rfl)
  · intro uz xc; unfold opPure; go_simp; rfl
  apply lexc_call hd0 0 (by kernel_rfl) (by rfl) (by decide)
  · intro uz hfz hF; clear hF; unfold opCall; go_simp; exact rcMul_any _ ((lq1 e m u).e) m.w.y u _ (by go_simp) hfz
  apply lexc_call hd0 1 (by kernel_rfl) (by rfl) (by decide)
  · intro uz hfz hF; clear hF; unfold opCall; go_simp; exact rcAdd_any _ (ch1 ((lq1 e m u).e) m.w.y u).e m.d.y (ch1 ((lq1 e m u).e) m.w.y u).s _ (by go_simp) hfz
  apply lexc_pure hd0 (by kernel_rfl)
  · intro uz xc; unfold opPure; go_simp; rfl
  apply lexc_pure hd0 (by kernel_rfl)
  · intro uz xc; unfold opPure; go_simp; rfl
  apply lexc_pure hd0 (by kernel_rfl)
  · intro uz xc; unfold opPure; go_simp; rfl
  apply lexc_pure hd0 (by kernel_rfl)
  · intro uz xc; unfold opPure; go_simp; rfl
  apply lexc_pure hd0 (by kernel_rfl)
  · intro uz xc; unfold opPure; go_simp; rfl
  apply lexc_pure hd0 (by kernel_rfl)
  · intro uz xc; unfold opPure; go_simp; rfl
  apply lexc_pure hd0 (by kernel_rfl)
  · intro uz xc; unfold opPure; go_simp; rfl
  apply lexc_call hd0 2 (by kernel_rfl) (by rfl) (by decide)
  · intro uz hfz hF; clear hF; unfold opCall; go_simp; exact rcSquare_any _ (ch2 ((lq1 e m u).e) m.d.y m.w.y u).e u _ (by go_simp) hfz
  apply lexc_call hd0 3 (by kernel_rfl) (by rfl) (by decide)
  · intro uz hfz hF; clear hF; unfold opCall; go_simp; exact rcMul_any _ (ch3 ((lq1 e m u).e) m.d.y m.w.y u).e m.a.y (ch3 ((lq1 e m u).e) m.d.y m.w.y u).s _ (by go_simp) hfz
  apply lexc_call hd0 4 (by kernel_rfl) (by rfl) (by decide)
  · intro uz hfz hF; clear hF; unfold opCall; go_simp; exact retc_of (HW.out _) (by go_simp)
  apply lexc_call hd0 5 (by kernel_rfl) (by rfl) (by decide)
  · intro uz hfz hF; clear hF; unfold opCall; go_simp; exact rcDiv_any _ (ch4 ((lq1 e m u).e) m.d.y m.w.y m.a.y u).e (ch4 ((lq1 e m u).e) m.d.y m.w.y m.a.y u).s (wholeS 2) _ (by go_simp) hfz
  apply lexc_call hd0 6 (by kernel_rfl) (by rfl) (by decide)
  · intro uz hfz hF; clear hF; unfold opCall; go_simp; exact rcAdd_any _ (ch5 ((lq1 e m u).e) m.d.y m.w.y m.a.y u).e (ch2 ((lq1 e m u).e) m.d.y m.w.y u).s (ch5 ((lq1 e m u).e) m.d.y m.w.y m.a.y u).s _ (by go_simp) hfz
  apply lexc_pure hd0 (by kernel_rfl)
  · intro uz xc; unfold opPure; go_simp; rfl
  apply lexc_end
  rotate_left
  · rfl
  intro uz hR hD hfz
  clear hR hD
  refine tail_store (by rfl) ?_; unfold opStore; go_simp
  refine tail_end ?_
  go_wp2
  rw [rounds_succ]
  go_wp2
  refine wp_region_calc c [(lq2 e m u).e, (ch1 ((lq2 e m u).e) m.w.z u).e, (ch2 ((lq2 e m u).e) m.d.z m.w.z u).e, (ch3 ((lq2 e m u).e) m.d.z m.w.z u).e, (ch4 ((lq2 e m u).e) m.d.z m.w.z m.a.z u).e, (ch4 ((lq2 e m u).e) m.d.z m.w.z m.a.z u).e, (ch5 ((lq2 e m u).e) m.d.z m.w.z m.a.z u).e, (lq3 e m u).e] 26 [] [11, 12, 20, 21, 22, 23, 24] [] (fun W0 => []) [.agg #[.int .i64 ((ch1 ((lq2 e m u).e) m.w.z u).s).lo, .int .i64 ((ch1 ((lq2 e m u).e) m.w.z u).s).hi], .agg #[.int .i64 ((ch2 ((lq2 e m u).e) m.d.z m.w.z u).s).lo, .int .i64 ((ch2 ((lq2 e m u).e) m.d.z m.w.z u).s).hi], .agg #[.int .i64 ((ch3 ((lq2 e m u).e) m.d.z m.w.z u).s).lo, .int .i64 ((ch3 ((lq2 e m u).e) m.d.z m.w.z u).s).hi], .agg #[.int .i64 ((ch4 ((lq2 e m u).e) m.d.z m.w.z m.a.z u).s).lo, .int .i64 ((ch4 ((lq2 e m u).e) m.d.z m.w.z m.a.z u).s).hi], .agg #[.int .i64 ((wholeS 2)).lo, .int .i64 ((wholeS 2)).hi], .agg #[.int .i64 ((ch5 ((lq2 e m u).e) m.d.z m.w.z m.a.z u).s).lo, .int .i64 ((ch5 ((lq2 e m u).e) m.d.z m.w.z m.a.z u).s).hi], .agg #[.int .i64 ((lq3 e m u).s).lo, .int .i64 ((lq3 e m u).s).hi]] [26] (by rfl) (by go_simp) (by go_simp) (fun _ _ x hx => absurd hx (List.not_mem_nil)) (by kernel_rfl) (by kernel_rfl) (by kernel_rfl) ?_
  intro pz hd0
  apply Exists.intro
  apply And.intro
  apply lexc_pure hd0 (by kernel_rfl)
  · intro uz xc; unfold opPure; go_simp; rfl
  apply lexc_pure hd0 (by kernel_rfl)
  · intro uz xc; unfold opPure; go_simp; rfl
  apply lexc_pure hd0 (by kernel_rfl)
  · intro uz xc; unfold opPure; go_simp; rfl
  apply lexc_pure hd0 (by kernel_rfl)
  · intro uz xc; unfold opPure; go_simp; rfl
  apply lexc_pure hd0 (by kernel_rfl)
  · intro uz xc; unfold opPure; go_simp; rfl
  apply lexc_pure hd0 (by kernel_rfl)
  · intro uz xc; unfold opPure; go_simp; rfl
  apply lexc_pure hd0 (by kernel_rfl)
  · intro uz xc; unfold opPure; go_simp; rfl
  apply lexc_pure hd0 (by kernel_rfl)
  · intro uz xc; unfold opPure; go_simp; rfl
  apply lexc_pure hd0 (by kernel_rfl)
  · intro uz xc; unfold opPure; go_simp; rfl
  apply lexc_pure hd0 (by kernel_rfl)
  · intro uz xc; unfold opPure; go_simp; rfl
  apply lexc_pure hd0 (by kernel_rfl)
  · intro uz xc; unfold opPure; go_simp; rfl
  apply lexc_call hd0 0 (by kernel_rfl) (by rfl) (by decide)
  · intro uz hfz hF; clear hF; unfold opCall; go_simp; exact rcMul_any _ ((lq2 e m u).e) m.w.z u _ (by go_simp) hfz
  apply lexc_call hd0 1 (by kernel_rfl) (by rfl) (by decide)
  · intro uz hfz hF; clear hF; unfold opCall; go_simp; exact rcAdd_any _ (ch1 ((lq2 e m u).e) m.w.z u).e m.d.z (ch1 ((lq2 e m u).e) m.w.z u).s _ (by go_simp) hfz
  apply lexc_pure hd0 (by kernel_rfl)
  · intro uz xc; unfold opPure; go_simp; rfl
  apply lexc_pure hd0 (by kernel_rfl)
  · intro uz xc; unfold opPure; go_simp; rfl
  apply lexc_pure hd0 (by kernel_rfl)
  · intro uz xc; unfold opPure; go_simp; rfl
  apply lexc_pure hd0 (by kernel_rfl)
  · intro uz xc; unfold opPure; go_simp; rfl
  apply lexc_pure hd0 (by kernel_rfl)
  · intro uz xc; unfold opPure; go_simp; rfl
  apply lexc_pure hd0 (by kernel_rfl)
  · intro uz xc; unfold opPure; go_simp; rfl
  apply lexc_pure hd0 (by kernel_rfl)
  · intro uz xc; unfold opPure; go_simp; rfl
  apply lexc_call hd0 2 (by kernel_rfl) (by rfl) (by decide)
  · intro uz hfz hF; clear hF; unfold opCall; go_simp; exact rcSquare_any _ (ch2 ((lq2 e m u).e) m.d.z m.w.z u).e u _ (by go_simp) hfz
  apply lexc_call hd0 3 (by kernel_rfl) (by rfl) (by decide)
  · intro uz hfz hF; clear hF; unfold opCall; go_simp; exact rcMul_any _ (ch3 ((lq2 e m u).e) m.d.z m.w.z u).e m.a.z (ch3 ((lq2 e m u).e) m.d.z m.w.z u).s _ (by go_simp) hfz
  apply lexc_call hd0 4 (by kernel_rfl) (by rfl) (by decide)
  · intro uz hfz hF; clear hF; unfold opCall; go_simp; exact retc_of (HW.out _) (by go_simp)
  apply lexc_call hd0 5 (by kernel_rfl) (by rfl) (by decide)
  · intro uz hfz hF; clear hF; unfold opCall; go_simp; exact rcDiv_any _ (ch4 ((lq2 e m u).e) m.d.z m.w.z m.a.z u).e (ch4 ((lq2 e m u).e) m.d.z m.w.z m.a.z u).s (wholeS 2) _ (by go_simp) hfz
  apply lexc_call hd0 6 (by kernel_rfl) (by rfl) (by decide)
  · intro uz hfz hF; clear hF; unfold opCall; go_simp; exact rcAdd_any _ (ch5 ((lq2 e m u).e) m.d.z m.w.z m.a.z u).e (ch2 ((lq2 e m u).e) m.d.z m.w.z u).s (ch5 ((lq2 e m u).e) m.d.z m.w.z m.a.z u).s _ (by go_simp) hfz
  apply lexc_pure hd0 (by kernel_rfl)
  · intro uz xc; unfold opPure; go_simp; rfl
  apply lexc_end
  rotate_left
  · rfl
  intro uz hR hD hfz
  clear hR hD
  refine tail_store (by rfl) ?_; unfold opStore; go_simp
  refine tail_end ?_
  go_wp2
  rw [rounds_succ]
  go_wp2_with (first | (go_at_call 172; refine call_calc (rcNorm_any c (lq3 e m u).e (lqB e m u) _ (by go_simp) (by go_simp)) ?_; intro u9))
  refine bodyPost_ret (by (simp [results, Try.results141, go_sem] <;> rfl)) rfl ?_
  rw [← Hl.out]
  exact ⟨rfl, But.out (by repeat (first | with_reducible exact Hb.out | with_reducible apply But.alloc | with_reducible apply But.later | with_reducible apply But.drew | with_reducible apply But.put | with_reducible apply But.store)) Hc.out (by go_simp)⟩
end Go.Proofs.Ytdanaclplmacgaa
