/-
  Contracts: look, whole, Pressure (flight), Calc.Look (ullageref01), Pressure (ullageref03), from the contracts of both Looks.
-/
import Derived.Test.YtnedbhdokljpcaaGreatClimb
import Derived.Test.YtnedbhdokljpcaaGreatLookVal
import Derived.Test.YtnedbhdokljpcaaGreatHeight
namespace Go.Proofs.YtnedbhdokljpcaaGreat
open Go.RowKit Go.Shelf
set_option maxRecDepth 100000
set_option maxHeartbeats 8000000
/-- A Look is the plain law's. -/
def LookOk (f : FuncId) : Prop := ∀ (l : List Pt) (x : Sp), S64 x → ∀ (ao : Option Addr) (cap : Nat) (w : World), SlAt w (.slice ao l.length cap) l.length (l.flatMap Pt.cells) → Calls Tryz.prog f #[.slice ao l.length cap, .agg #[.int .i64 x.lo, .int .i64 x.hi]] w fun e w' => e = .returned (.tuple #[.agg #[.int .i64 (lookR l x).s.lo, .int .i64 (lookR l x).s.hi], .int .i64 (lookR l x).e]) ∧ Grew w w'
instance s64_look (l : List Pt) (x : Sp) : S64 (lookR l x).s := by
  unfold lookR lookS
  split
  · infer_instance
  · exact s64_err _
theorem doR_twice (e : Int) (r : Res) : doR e (doR e r) = doR e r := by
  by_cases h : e = 0
  · subst h; rfl
  · rw [doR_bad r h, doR_bad _ h]
section
variable (HL : LookOk 118) (HR : LookOk 122)
include HL in
theorem cLook_any (c : Nat) (k : Int) (l : List Pt) (x : Sp) [hx : S64 x] (ao : Option Addr) (cap : Nat) (w : World) (hs : SlAt w (.slice ao l.length cap) l.length (l.flatMap Pt.cells)) (hc : w.cell? ⟨c, 0, none⟩ = some (.int .i64 k)) :
    Calls Tryz.prog 52 #[.pointer (some ⟨c, 0, none⟩), .slice ao l.length cap, .agg #[.int .i64 x.lo, .int .i64 x.hi]] w fun e w' => e = .returned (.tuple #[.agg #[.int .i64 (doR k (lookR l x)).s.lo, .int .i64 (doR k (lookR l x)).s.hi], .int .i64 (doR k (lookR l x)).e]) ∧ Grew w w' := by
  have ib : BlockIn w c := BlockIn.of_cell hc
  have hci : HasCell w c 0 := ⟨_, hc⟩
  have Hs := Lib.hid (fun w' (g : Grew w w') => HL l x hx ao cap w' (hs.grew g))
  clear hs HL
  by_cases he : k = 0
  · subst he
    have HD := Lib.hid (doR_ok (lookR l x))
    generalize lookR l x = r at *
    go_enter Tryz.func52, Tryz.ntmps52
    go_wp2_with (first | (go_at_call 118; (with_reducible refine call_later (Hs.out _ (by repeat (first | with_reducible exact Grew.refl _ | with_reducible apply Grew.alloc | with_reducible apply Grew.later | with_reducible apply Grew.drew | with_reducible apply Grew.store | with_reducible assumption))) ?_); intro u) | ((with_reducible refine wp_region_later ?_ ?_ ?_); (· kernel_rfl); (· kernel_rfl); (try simp only [List.append_eq, List.cons_append, List.nil_append]); (repeat (go_big_quiet_step ((first | (go_at_call 118; (with_reducible exact call_quiet (Hs.out _ (by repeat (first | with_reducible exact Grew.refl _ | with_reducible apply Grew.alloc | with_reducible apply Grew.later | with_reducible apply Grew.drew | with_reducible apply Grew.store | with_reducible assumption))))))))); refine wpQuiet_nil ?_; rintro _ ⟨u, rfl⟩))
    refine bodyPost_ret (by (simp [results, Tryz.results52, go_sem] <;> rfl)) rfl ?_
    exact ⟨ret_res (by rw [HD.out]), (by repeat (first | with_reducible exact Grew.refl _ | with_reducible apply Grew.alloc | with_reducible apply Grew.later | with_reducible apply Grew.drew | with_reducible apply Grew.store | with_reducible assumption))⟩
  · have he' : (k != 0) = true := by simp [he]
    have HD := Lib.hid (doR_bad (lookR l x) he)
    clear he Hs
    generalize lookR l x = r at *
    go_enter Tryz.func52, Tryz.ntmps52
    go_wp2
    go_region
    all_goals go_wp2
    all_goals
      refine bodyPost_ret (by (simp [results, Tryz.results52, go_sem] <;> rfl)) rfl ?_
      exact ⟨ret_res (by rw [HD.out]; rfl), (by repeat (first | with_reducible exact Grew.refl _ | with_reducible apply Grew.alloc | with_reducible apply Grew.later | with_reducible apply Grew.drew | with_reducible apply Grew.store | with_reducible assumption))⟩
include HR in
theorem rcLook_any (c : Nat) (e : Int) (l : List Pt) (x : Sp) [hx : S64 x] (ao : Option Addr) (cap : Nat) (w : World) (hs : SlAt w (.slice ao l.length cap) l.length (l.flatMap Pt.cells)) (hc : w.cell? ⟨c, 0, none⟩ = some (.int .i64 e)) (hf : w.frozen? ⟨c, 0, none⟩ = false) :
    Calls Tryz.prog 59 #[.pointer (some ⟨c, 0, none⟩), .slice ao l.length cap, .agg #[.int .i64 x.lo, .int .i64 x.hi]] w (RetC c (.agg #[.int .i64 ((doR e (lookR l x)).s).lo, .int .i64 ((doR e (lookR l x)).s).hi]) (doR e (lookR l x)).e w) := by
  have ib : BlockIn w c := BlockIn.of_cell hc
  have hci : HasCell w c 0 := ⟨_, hc⟩
  have Hb := Lib.hid (But.refl hc)
  have Hc := Lib.hid hc
  have Hs := Lib.hid (fun w' (g : Grew w w') => HR l x hx ao cap w' (hs.grew g))
  clear hs HR
  go_enter Tryz.func59, Tryz.ntmps59
  go_wp2_with (first | (go_at_call 122; (with_reducible refine call_later (Hs.out _ (by repeat (first | with_reducible exact Grew.refl _ | with_reducible apply Grew.alloc | with_reducible apply Grew.later | with_reducible apply Grew.drew | with_reducible apply Grew.store | with_reducible assumption))) ?_); intro u) | (go_at_call 101; refine call_calc (rKeep_res c e (lookR l x) _ (by go_simp) (by go_simp)) ?_; intro u) | ((with_reducible refine wp_region_later ?_ ?_ ?_); (· kernel_rfl); (· kernel_rfl); (try simp only [List.append_eq, List.cons_append, List.nil_append]); (repeat (go_big_quiet_step ((first | (go_at_call 122; (with_reducible exact call_quiet (Hs.out _ (by repeat (first | with_reducible exact Grew.refl _ | with_reducible apply Grew.alloc | with_reducible apply Grew.later | with_reducible apply Grew.drew | with_reducible apply Grew.store | with_reducible assumption))))))))); refine wpQuiet_nil ?_; rintro _ ⟨u, rfl⟩))
  refine bodyPost_ret (by (simp [results, Tryz.results59, go_sem] <;> rfl)) rfl ?_
  exact ⟨rfl, But.out (by repeat (first | with_reducible exact Hb.out | with_reducible apply But.alloc | with_reducible apply But.later | with_reducible apply But.drew | with_reducible apply But.put | with_reducible apply But.store)) Hc.out (by go_simp)⟩
end
theorem flPoint_any (n : Int) (w : World) : Calls Tryz.prog 119 #[.int .i64 n] w fun e w' => e = .returned (.agg #[.int .i64 n, .int .i64 n]) ∧ Grew w w' := by
  go_enter Tryz.func119, Tryz.ntmps119
  go_wp2
  refine bodyPost_ret (by (simp [results, Tryz.results119, go_sem] <;> rfl)) rfl ?_
  exact ⟨rfl, (by repeat (first | with_reducible exact Grew.refl _ | with_reducible apply Grew.alloc | with_reducible apply Grew.later | with_reducible apply Grew.drew | with_reducible apply Grew.store | with_reducible assumption))⟩
theorem flWhole_two (w : World) : Calls Tryz.prog 55 #[.int .i64 2] w fun e w' => e = .returned (.agg #[.int .i64 (wholeS 2).lo, .int .i64 (wholeS 2).hi]) ∧ Grew w w' := by
  go_enter Tryz.func55, Tryz.ntmps55
  go_wp2_with (first | (go_at_call 119; (with_reducible refine call_later (flPoint_any _ _) ?_); intro u) | ((with_reducible refine wp_region_later ?_ ?_ ?_); (· kernel_rfl); (· kernel_rfl); (try simp only [List.append_eq, List.cons_append, List.nil_append]); (repeat (go_big_quiet_step ((first | (go_at_call 119; (with_reducible exact call_quiet (flPoint_any _ _))))))); refine wpQuiet_nil ?_; rintro _ ⟨u, rfl⟩))
  refine bodyPost_ret (by (simp [results, Tryz.results55, go_sem] <;> rfl)) rfl ?_
  exact ⟨rfl, (by repeat (first | with_reducible exact Grew.refl _ | with_reducible apply Grew.alloc | with_reducible apply Grew.later | with_reducible apply Grew.drew | with_reducible apply Grew.store | with_reducible assumption))⟩
def prN (t : Tube) : Res := doR 0 (normR t.p.list)
def prH (p : Planet) (t : Tube) : Res := doR (prN t).e (subR (prN t).s p.radius)
def prS (p : Planet) (t : Tube) : Res := doR (prH p t).e (normR t.v.list)
def prR (p : Planet) (l : List Pt) (t : Tube) : Res := doR (prS p t).e (lookR l (prH p t).s)
def prQ (p : Planet) (l : List Pt) (t : Tube) : Res := doR (prR p l t).e (squareR (prS p t).s)
def prM (p : Planet) (l : List Pt) (t : Tube) : Res := doR (prQ p l t).e (mulR (prR p l t).s (prQ p l t).s)
def prV (p : Planet) (l : List Pt) (t : Tube) : Res := doR (prM p l t).e (divR (prM p l t).s (wholeS 2))
def pressR (p : Planet) (l : List Pt) (t : Tube) : Res := if p.okB && (t.okB && tableB l) then prV p l t else errR 2
theorem prV_z (p : Planet) (l : List Pt) (t : Tube) (h : (prV p l t).e ≠ 0) : prV p l t = errR (prV p l t).e := by
  unfold prV at h ⊢
  generalize hr : divR (prM p l t).s (wholeS 2) = r at *
  by_cases he : (prM p l t).e = 0
  · rw [he, doR_ok] at h ⊢
    have := divR_z (prM p l t).s (wholeS 2) (by rw [hr]; exact h)
    rw [hr] at this
    obtain ⟨s, x⟩ := r
    simp only at this
    rw [this]
    rfl
  · rw [doR_bad r he]; rfl
instance s64_prN (t : Tube) : S64 (prN t).s := s64_do _ _
theorem s64_prH (p : Planet) (t : Tube) : S64 (prH p t).s := s64_do _ _
instance s64_prS (p : Planet) (t : Tube) : S64 (prS p t).s := s64_do _ _
instance s64_prR (p : Planet) (l : List Pt) (t : Tube) : S64 (prR p l t).s := s64_do _ _
instance s64_prQ (p : Planet) (l : List Pt) (t : Tube) : S64 (prQ p l t).s := s64_do _ _
instance s64_prM (p : Planet) (l : List Pt) (t : Tube) : S64 (prM p l t).s := s64_do _ _
theorem flPress_ok (HL : LookOk 118) (p : Planet) (l : List Pt) (t : Tube) [hr : S64 p.radius] [hp : B64 t.p] [hv : B64 t.v] (h1 : p.okB = true) (h2 : t.okB = true) (h3 : tableB l = true) (ao : Option Addr) (cap : Nat) (w : World) (hs : SlAt w (.slice ao l.length cap) l.length (l.flatMap Pt.cells)) :
    Calls Tryz.prog 14 #[.agg #[.int .i64 p.mu.lo, .int .i64 p.mu.hi, .int .i64 p.radius.lo, .int .i64 p.radius.hi, .int .i64 p.oblate.lo, .int .i64 p.oblate.hi, .int .i64 p.spin.lo, .int .i64 p.spin.hi, .int .i64 p.pull.x.lo, .int .i64 p.pull.x.hi, .int .i64 p.pull.y.lo, .int .i64 p.pull.y.hi, .int .i64 p.pull.z.lo, .int .i64 p.pull.z.hi], .slice ao l.length cap, .agg #[.int .i64 t.a, .int .i64 t.z, .int .i64 t.p.x.lo, .int .i64 t.p.x.hi, .int .i64 t.p.y.lo, .int .i64 t.p.y.hi, .int .i64 t.p.z.lo, .int .i64 t.p.z.hi, .int .i64 t.v.x.lo, .int .i64 t.v.x.hi, .int .i64 t.v.y.lo, .int .i64 t.v.y.hi, .int .i64 t.v.z.lo, .int .i64 t.v.z.hi, .int .i64 t.m.lo, .int .i64 t.m.hi]] w fun e w' => e = .returned (.tuple #[.agg #[.int .i64 (prV p l t).s.lo, .int .i64 (prV p l t).s.hi], .int .i64 (prV p l t).e]) ∧ Grew w w' := by
  have Hs := Lib.hid hs
  have HP := Lib.hid (fun w' => is_int (show codeB p.okB 2 = 0 by rw [h1]; rfl) (flPlanet_any p w'))
  have HT := Lib.hid (fun w' => is_int (show codeB t.okB 2 = 0 by rw [h2]; rfl) (flTube_any t w'))
  have HB := Lib.hid (fun w' (g : Grew w w') => is_int (show codeB (tableB l) 2 = 0 by rw [h3]; rfl) (spTable_any l (.slice ao l.length cap) w' (hs.grew g)))
  clear h1 h2 h3 hs
  have sH : S64 (prH p t).s := s64_prH p t
  have sW : S64 (wholeS 2) := ⟨⟨by unfold wholeS; simp only []; omega, by unfold wholeS; simp only []; omega⟩, ⟨by unfold wholeS; simp only []; omega, by unfold wholeS; simp only []; omega⟩⟩
  have K1 := Lib.hid (fun c w hc hf => show Calls Tryz.prog 38 #[.pointer (some ⟨c, 0, none⟩), .agg #[.int .i64 t.p.x.lo, .int .i64 t.p.x.hi, .int .i64 t.p.y.lo, .int .i64 t.p.y.hi, .int .i64 t.p.z.lo, .int .i64 t.p.z.hi]] w (RetC c (.agg #[.int .i64 ((prN t).s).lo, .int .i64 ((prN t).s).hi]) (prN t).e w) from cNorm_any c 0 t.p w hc hf)
  have K2 := Lib.hid (fun c w hc hf => show Calls Tryz.prog 37 #[.pointer (some ⟨c, 0, none⟩), .agg #[.int .i64 ((prN t).s).lo, .int .i64 ((prN t).s).hi], .agg #[.int .i64 p.radius.lo, .int .i64 p.radius.hi]] w (RetC c (.agg #[.int .i64 ((prH p t).s).lo, .int .i64 ((prH p t).s).hi]) (prH p t).e w) from cSub_any c (prN t).e (prN t).s p.radius w hc hf)
  have K3 := Lib.hid (fun c w hc hf => show Calls Tryz.prog 38 #[.pointer (some ⟨c, 0, none⟩), .agg #[.int .i64 t.v.x.lo, .int .i64 t.v.x.hi, .int .i64 t.v.y.lo, .int .i64 t.v.y.hi, .int .i64 t.v.z.lo, .int .i64 t.v.z.hi]] w (RetC c (.agg #[.int .i64 ((prS p t).s).lo, .int .i64 ((prS p t).s).hi]) (prS p t).e w) from cNorm_any c (prH p t).e t.v w hc hf)
  have K6 := Lib.hid (fun c w hc hf => show Calls Tryz.prog 54 #[.pointer (some ⟨c, 0, none⟩), .agg #[.int .i64 ((prS p t).s).lo, .int .i64 ((prS p t).s).hi]] w (RetC c (.agg #[.int .i64 ((prQ p l t).s).lo, .int .i64 ((prQ p l t).s).hi]) (prQ p l t).e w) from cSquare_any c (prR p l t).e (prS p t).s w hc hf)
  have K7 := Lib.hid (fun c w hc hf => show Calls Tryz.prog 53 #[.pointer (some ⟨c, 0, none⟩), .agg #[.int .i64 ((prR p l t).s).lo, .int .i64 ((prR p l t).s).hi], .agg #[.int .i64 ((prQ p l t).s).lo, .int .i64 ((prQ p l t).s).hi]] w (RetC c (.agg #[.int .i64 ((prM p l t).s).lo, .int .i64 ((prM p l t).s).hi]) (prM p l t).e w) from cMul_any c (prQ p l t).e (prR p l t).s (prQ p l t).s w hc hf)
  have K8 := Lib.hid (fun c w hc hf => show Calls Tryz.prog 45 #[.pointer (some ⟨c, 0, none⟩), .agg #[.int .i64 ((prM p l t).s).lo, .int .i64 ((prM p l t).s).hi], .agg #[.int .i64 ((wholeS 2)).lo, .int .i64 ((wholeS 2)).hi]] w (RetC c (.agg #[.int .i64 ((prV p l t).s).lo, .int .i64 ((prV p l t).s).hi]) (prV p l t).e w) from cDiv_any c (prM p l t).e (prM p l t).s (wholeS 2) w hc hf)
  have K4 := Lib.hid (fun c w' (g : Grew w w') hc => show Calls Tryz.prog 52 #[.pointer (some ⟨c, 0, none⟩), .slice ao l.length cap, .agg #[.int .i64 ((prH p t).s).lo, .int .i64 ((prH p t).s).hi]] w' (fun e w'' => e = .returned (.tuple #[.agg #[.int .i64 ((prR p l t).s).lo, .int .i64 ((prR p l t).s).hi], .int .i64 (prR p l t).e]) ∧ Grew w' w'') from cLook_any HL c (prS p t).e l (prH p t).s ao cap w' (Hs.out.grew g) hc)
  have K5 := Lib.hid (fun c w hc hf => show Calls Tryz.prog 46 #[.pointer (some ⟨c, 0, none⟩), .agg #[.int .i64 ((prR p l t).s).lo, .int .i64 ((prR p l t).s).hi], .int .i64 (prR p l t).e] w (RetC c (.agg #[.int .i64 ((prR p l t).s).lo, .int .i64 ((prR p l t).s).hi]) (prR p l t).e w) from by
    have := cKeep_any c (prS p t).e (prR p l t) w hc hf
    rw [show doR (prS p t).e (prR p l t) = prR p l t from doR_twice _ _] at this
    exact this)
  have KW := Lib.hid flWhole_two
  clear HL sH
  generalize prN t = rN at *
  generalize prH p t = rH at *
  generalize prS p t = rS at *
  generalize prR p l t = rR at *
  generalize prQ p l t = rQ at *
  generalize prM p l t = rM at *
  generalize prV p l t = rV at *
  go_enter Tryz.func14, Tryz.ntmps14
  go_wp2_with (first | (go_at_call 35; (with_reducible refine call_later (HP.out _) ?_); intro u) | (go_at_call 50; (with_reducible refine call_later (HT.out _) ?_); intro u) | (go_at_call 51; (with_reducible refine call_later (HB.out _ (by repeat (first | with_reducible exact Grew.refl _ | with_reducible apply Grew.alloc | with_reducible apply Grew.later | with_reducible apply Grew.drew | with_reducible apply Grew.store | with_reducible assumption))) ?_); intro u) | ((with_reducible refine wp_region_later ?_ ?_ ?_); (· kernel_rfl); (· kernel_rfl); (try simp only [List.append_eq, List.cons_append, List.nil_append]); (repeat (go_big_quiet_step ((first | (go_at_call 35; (with_reducible exact call_quiet (HP.out _))) | (go_at_call 50; (with_reducible exact call_quiet (HT.out _))) | (go_at_call 51; (with_reducible exact call_quiet (HB.out _ (by repeat (first | with_reducible exact Grew.refl _ | with_reducible apply Grew.alloc | with_reducible apply Grew.later | with_reducible apply Grew.drew | with_reducible apply Grew.store | with_reducible assumption))))))))); refine wpQuiet_nil ?_; rintro _ ⟨u, rfl⟩))
  have nwc : NewFor w u.world.heap.size := inferInstance
  refine wp_region_calc (u.world.heap.size) [0, rN.e, rH.e] 9 [8] [4, 7] [] (fun W0 => [(8, BoxR W0 [.int .i64 0, .int .i64 0])]) [.agg #[.int .i64 rN.s.lo, .int .i64 rN.s.hi], .agg #[.int .i64 rH.s.lo, .int .i64 rH.s.hi]] [9] (by rfl) (by go_simp) (by go_simp) (by intro W0 hW0 x hx; simp only [List.mem_cons, List.not_mem_nil, or_false] at hx; rcases hx with rfl <;> first | exact goodc_box _ _ hW0 _) (by kernel_rfl) (by kernel_rfl) (by kernel_rfl) ?_
  intro pz hd0
  apply Exists.intro
  apply And.intro
  apply lexc_pure hd0 (by kernel_rfl)
  · intro uz xc; unfold opPure; go_simp; rfl
  apply lexc_pure hd0 (by kernel_rfl)
  · intro uz xc; unfold opPure; go_simp; rfl
  apply lexc_pure hd0 (by kernel_rfl)
  · intro uz xc; unfold opPure; go_simp; rfl
  apply lexc_pure hd0 (by kernel_rfl)
  · intro uz xc; unfold opPure; go_simp; rfl
  apply lexc_call hd0 0 (by kernel_rfl) (by rfl) (by decide)
  · intro uz hfz hF; clear hF; unfold opCall; go_simp; exact K1.out _ _ (by go_simp) hfz
  apply lexc_pure hd0 (by kernel_rfl)
  · intro uz xc; unfold opPure; go_simp; rfl
  apply lexc_pure hd0 (by kernel_rfl)
  · intro uz xc; unfold opPure; go_simp; rfl
  apply lexc_call hd0 1 (by kernel_rfl) (by rfl) (by decide)
  · intro uz hfz hF; clear hF; unfold opCall; go_simp; exact K2.out _ _ (by go_simp) hfz
  apply lexc_make hd0 (by kernel_rfl)
  · intro uz xc hF; clear hF; unfold opMake; go_simp; refine (show Made (BoxR _ [.int .i64 0, .int .i64 0]) _ _ _ from ?_); exact madec_box _ _ _ _
  apply lexc_end
  rotate_left
  · rfl
  intro uz hR hD hfz
  obtain ⟨q8, e8, hB8, kB8, nB8⟩ := (show BoxR _ [.int .i64 0, .int .i64 0] (pz 8) _ from hR 8 (by decide))
  clear hR hD
  rw [e8]
  clear e8
  have oB8 := apart_oldL nB8
  have oC8 := apart_oldR nB8
  have hB8 := boxAt_cw hB8 hd0 nB8
  have kB8 := blockIn_cw kB8
  have hB8_0 := (hB8 0 _ rfl).1
  have hB8f0 := (hB8 0 _ rfl).2
  have hB8i0 : HasCell (uz.world) (q8) 0 := ⟨_, hB8_0⟩
  have hB8_1 := (hB8 1 _ rfl).1
  have hB8f1 := (hB8 1 _ rfl).2
  have hB8i1 : HasCell (uz.world) (q8) 1 := ⟨_, hB8_1⟩
  have hB8b : BlockIn (uz.world) (q8) := BlockIn.of_cell hB8_0
  clear hB8
  refine tail_store (by rfl) ?_; unfold opStore; go_simp
  refine tail_end ?_
  have nw8 : NewFor w q8 := ⟨Nat.le_trans nwc.le (by have := nB8.le; simp at this; omega)⟩
  go_wp2_with (first | (go_at_call 38; (with_reducible refine call_calc (K3.out _ _ ?_ ?_) ?_); (· go_simp); (· go_simp); intro u5) | (go_at_call 52; (with_reducible refine call_later (K4.out _ _ ?_ ?_) ?_); (· exact (by repeat (first | with_reducible exact Grew.refl _ | with_reducible apply Grew.alloc | with_reducible apply Grew.later | with_reducible apply Grew.drew | with_reducible apply Grew.store | with_reducible assumption))); (· go_simp); intro u6) | (go_at_call 46; (with_reducible refine call_calc (K5.out _ _ ?_ ?_) ?_); (· go_simp); (· go_simp); intro u7))
  refine wp_region_calc (u.world.heap.size) [rR.e, rQ.e, rM.e, rM.e, rV.e] 10 [9] [5, 6, 7, 8] [] (fun W0 => [(9, BoxR W0 [.int .i64 0, .int .i64 0])]) [.agg #[.int .i64 rQ.s.lo, .int .i64 rQ.s.hi], .agg #[.int .i64 rM.s.lo, .int .i64 rM.s.hi], .agg #[.int .i64 ((wholeS 2)).lo, .int .i64 ((wholeS 2)).hi], .agg #[.int .i64 rV.s.lo, .int .i64 rV.s.hi]] [10] (by rfl) (by go_simp) (by go_simp) (by intro W0 hW0 x hx; simp only [List.mem_cons, List.not_mem_nil, or_false] at hx; rcases hx with rfl <;> first | exact goodc_box _ _ hW0 _) (by kernel_rfl) (by kernel_rfl) (by kernel_rfl) ?_
  intro pz hd0
  apply Exists.intro
  apply And.intro
  apply lexc_pure hd0 (by kernel_rfl)
  · intro uz xc; unfold opPure; go_simp; rfl
  apply lexc_pure hd0 (by kernel_rfl)
  · intro uz xc; unfold opPure; go_simp; rfl
  apply lexc_pure hd0 (by kernel_rfl)
  · intro uz xc; unfold opPure; go_simp; rfl
  apply lexc_pure hd0 (by kernel_rfl)
  · intro uz xc; unfold opPure; go_simp; rfl
  apply lexc_pure hd0 (by kernel_rfl)
  · intro uz xc; unfold opPure; go_simp; rfl
  apply lexc_call hd0 0 (by kernel_rfl) (by rfl) (by decide)
  · intro uz hfz hF; clear hF; unfold opCall; go_simp; exact K6.out _ _ (by go_simp) hfz
  apply lexc_call hd0 1 (by kernel_rfl) (by rfl) (by decide)
  · intro uz hfz hF; clear hF; unfold opCall; go_simp; exact K7.out _ _ (by go_simp) hfz
  apply lexc_call hd0 2 (by kernel_rfl) (by rfl) (by decide)
  · intro uz hfz hF; clear hF; unfold opCall; go_simp; exact retc_of (KW.out _) (by go_simp)
  apply lexc_call hd0 3 (by kernel_rfl) (by rfl) (by decide)
  · intro uz hfz hF; clear hF; unfold opCall; go_simp; exact K8.out _ _ (by go_simp) hfz
  apply lexc_make hd0 (by kernel_rfl)
  · intro uz xc hF; clear hF; unfold opMake; go_simp; refine (show Made (BoxR _ [.int .i64 0, .int .i64 0]) _ _ _ from ?_); exact madec_box _ _ _ _
  apply lexc_end
  rotate_left
  · rfl
  intro uz hR hD hfz
  obtain ⟨q9, e9, hB9, kB9, nB9⟩ := (show BoxR _ [.int .i64 0, .int .i64 0] (pz 9) _ from hR 9 (by decide))
  clear hR hD
  rw [e9]
  clear e9
  have oB9 := apart_oldL nB9
  have oC9 := apart_oldR nB9
  have hB9 := boxAt_cw hB9 hd0 nB9
  have kB9 := blockIn_cw kB9
  have hB9_0 := (hB9 0 _ rfl).1
  have hB9f0 := (hB9 0 _ rfl).2
  have hB9i0 : HasCell (uz.world) (q9) 0 := ⟨_, hB9_0⟩
  have hB9_1 := (hB9 1 _ rfl).1
  have hB9f1 := (hB9 1 _ rfl).2
  have hB9i1 : HasCell (uz.world) (q9) 1 := ⟨_, hB9_1⟩
  have hB9b : BlockIn (uz.world) (q9) := BlockIn.of_cell hB9_0
  clear hB9
  refine tail_store (by rfl) ?_; unfold opStore; go_simp
  refine tail_end ?_
  have lc7 : u.world.heap.size < u7.world.heap.size := (inferInstance : BlockIn u7.world u.world.heap.size).lt
  have nw9 : NewFor w q9 := ⟨Nat.le_trans nwc.le (by have := nB9.le; simp at this; omega)⟩
  go_wp2
  go_region
  all_goals go_wp2
  all_goals
    refine bodyPost_ret (by (simp [results, Tryz.results14, go_sem] <;> rfl)) rfl ?_
    exact ⟨rfl, (by repeat (first | with_reducible exact Grew.refl _ | with_reducible apply Grew.alloc | with_reducible apply Grew.later | with_reducible apply Grew.drew | with_reducible apply Grew.store | with_reducible assumption))⟩
theorem r3Press_ok (HR : LookOk 122) (p : Planet) (l : List Pt) (t : Tube) [hr : S64 p.radius] [hp : B64 t.p] [hv : B64 t.v] (h1 : p.okB = true) (h2 : t.okB = true) (h3 : tableB l = true) (ao : Option Addr) (cap : Nat) (w : World) (hs : SlAt w (.slice ao l.length cap) l.length (l.flatMap Pt.cells)) :
    Calls Tryz.prog 15 #[.agg #[.int .i64 p.mu.lo, .int .i64 p.mu.hi, .int .i64 p.radius.lo, .int .i64 p.radius.hi, .int .i64 p.oblate.lo, .int .i64 p.oblate.hi, .int .i64 p.spin.lo, .int .i64 p.spin.hi, .int .i64 p.pull.x.lo, .int .i64 p.pull.x.hi, .int .i64 p.pull.y.lo, .int .i64 p.pull.y.hi, .int .i64 p.pull.z.lo, .int .i64 p.pull.z.hi], .slice ao l.length cap, .agg #[.int .i64 t.a, .int .i64 t.z, .int .i64 t.p.x.lo, .int .i64 t.p.x.hi, .int .i64 t.p.y.lo, .int .i64 t.p.y.hi, .int .i64 t.p.z.lo, .int .i64 t.p.z.hi, .int .i64 t.v.x.lo, .int .i64 t.v.x.hi, .int .i64 t.v.y.lo, .int .i64 t.v.y.hi, .int .i64 t.v.z.lo, .int .i64 t.v.z.hi, .int .i64 t.m.lo, .int .i64 t.m.hi]] w fun e w' => e = .returned (.tuple #[.agg #[.int .i64 (prV p l t).s.lo, .int .i64 (prV p l t).s.hi], .int .i64 (prV p l t).e]) ∧ Grew w w' := by
  have Hs := Lib.hid hs
  have HP := Lib.hid (fun w' => is_int (show codeB p.okB 2 = 0 by rw [h1]; rfl) (r3Planet_any p w'))
  have HT := Lib.hid (fun w' => is_int (show codeB t.okB 2 = 0 by rw [h2]; rfl) (r3Tube_any t w'))
  have HB := Lib.hid (fun w' (g : Grew w w') => is_int (show codeB (tableB l) 2 = 0 by rw [h3]; rfl) (rTable_any l (.slice ao l.length cap) w' (hs.grew g)))
  clear h1 h2 h3 hs
  have sH : S64 (prH p t).s := s64_prH p t
  have sW : S64 (wholeS 2) := ⟨⟨by unfold wholeS; simp only []; omega, by unfold wholeS; simp only []; omega⟩, ⟨by unfold wholeS; simp only []; omega, by unfold wholeS; simp only []; omega⟩⟩
  have K1 := Lib.hid (fun c w hc hf => show Calls Tryz.prog 42 #[.pointer (some ⟨c, 0, none⟩), .agg #[.int .i64 t.p.x.lo, .int .i64 t.p.x.hi, .int .i64 t.p.y.lo, .int .i64 t.p.y.hi, .int .i64 t.p.z.lo, .int .i64 t.p.z.hi]] w (RetC c (.agg #[.int .i64 ((prN t).s).lo, .int .i64 ((prN t).s).hi]) (prN t).e w) from rcNorm_any c 0 t.p w hc hf)
  have K2 := Lib.hid (fun c w hc hf => show Calls Tryz.prog 41 #[.pointer (some ⟨c, 0, none⟩), .agg #[.int .i64 ((prN t).s).lo, .int .i64 ((prN t).s).hi], .agg #[.int .i64 p.radius.lo, .int .i64 p.radius.hi]] w (RetC c (.agg #[.int .i64 ((prH p t).s).lo, .int .i64 ((prH p t).s).hi]) (prH p t).e w) from rcSub_any c (prN t).e (prN t).s p.radius w hc hf)
  have K3 := Lib.hid (fun c w hc hf => show Calls Tryz.prog 42 #[.pointer (some ⟨c, 0, none⟩), .agg #[.int .i64 t.v.x.lo, .int .i64 t.v.x.hi, .int .i64 t.v.y.lo, .int .i64 t.v.y.hi, .int .i64 t.v.z.lo, .int .i64 t.v.z.hi]] w (RetC c (.agg #[.int .i64 ((prS p t).s).lo, .int .i64 ((prS p t).s).hi]) (prS p t).e w) from rcNorm_any c (prH p t).e t.v w hc hf)
  have K6 := Lib.hid (fun c w hc hf => show Calls Tryz.prog 60 #[.pointer (some ⟨c, 0, none⟩), .agg #[.int .i64 ((prS p t).s).lo, .int .i64 ((prS p t).s).hi]] w (RetC c (.agg #[.int .i64 ((prQ p l t).s).lo, .int .i64 ((prQ p l t).s).hi]) (prQ p l t).e w) from rcSquare_any c (prR p l t).e (prS p t).s w hc hf)
  have K7 := Lib.hid (fun c w hc hf => show Calls Tryz.prog 58 #[.pointer (some ⟨c, 0, none⟩), .agg #[.int .i64 ((prR p l t).s).lo, .int .i64 ((prR p l t).s).hi], .agg #[.int .i64 ((prQ p l t).s).lo, .int .i64 ((prQ p l t).s).hi]] w (RetC c (.agg #[.int .i64 ((prM p l t).s).lo, .int .i64 ((prM p l t).s).hi]) (prM p l t).e w) from rcMul_any c (prQ p l t).e (prR p l t).s (prQ p l t).s w hc hf)
  have K8 := Lib.hid (fun c w hc hf => show Calls Tryz.prog 48 #[.pointer (some ⟨c, 0, none⟩), .agg #[.int .i64 ((prM p l t).s).lo, .int .i64 ((prM p l t).s).hi], .agg #[.int .i64 ((wholeS 2)).lo, .int .i64 ((wholeS 2)).hi]] w (RetC c (.agg #[.int .i64 ((prV p l t).s).lo, .int .i64 ((prV p l t).s).hi]) (prV p l t).e w) from rcDiv_any c (prM p l t).e (prM p l t).s (wholeS 2) w hc hf)
  have K4 := Lib.hid (fun c w' (g : Grew w w') hc hf => show Calls Tryz.prog 59 #[.pointer (some ⟨c, 0, none⟩), .slice ao l.length cap, .agg #[.int .i64 ((prH p t).s).lo, .int .i64 ((prH p t).s).hi]] w' (RetC c (.agg #[.int .i64 ((prR p l t).s).lo, .int .i64 ((prR p l t).s).hi]) (prR p l t).e w') from rcLook_any HR c (prS p t).e l (prH p t).s ao cap w' (Hs.out.grew g) hc hf)
  have KW := Lib.hid (fun w => rWhole_any 2 (by omega) (by omega) w)
  have HZ := Lib.hid (fun h => prV_z p l t h)
  clear HR sH
  generalize prN t = rN at *
  generalize prH p t = rH at *
  generalize prS p t = rS at *
  generalize prR p l t = rR at *
  generalize prQ p l t = rQ at *
  generalize prM p l t = rM at *
  generalize prV p l t = rV at *
  by_cases he : rV.e = 0
  all_goals
    first | have he' : (rV.e != 0) = false := by simp [he] | have he' : (rV.e != 0) = true := by simp [he]
    have Hz := Lib.hid (show (rV.e != 0) = true → rV = errR rV.e from fun h => HZ.out (by simpa using h))
    have He := Lib.hid (show (rV.e != 0) = false → rV.e = 0 from fun h => by simpa using h)
    clear he HZ
    go_enter Tryz.func15, Tryz.ntmps15
    go_wp2_with (first | (go_at_call 40; (with_reducible refine call_later (HP.out _) ?_); intro u) | (go_at_call 56; (with_reducible refine call_later (HT.out _) ?_); intro u) | (go_at_call 57; (with_reducible refine call_later (HB.out _ (by repeat (first | with_reducible exact Grew.refl _ | with_reducible apply Grew.alloc | with_reducible apply Grew.later | with_reducible apply Grew.drew | with_reducible apply Grew.store | with_reducible assumption))) ?_); intro u) | ((with_reducible refine wp_region_later ?_ ?_ ?_); (· kernel_rfl); (· kernel_rfl); (try simp only [List.append_eq, List.cons_append, List.nil_append]); (repeat (go_big_quiet_step ((first | (go_at_call 40; (with_reducible exact call_quiet (HP.out _))) | (go_at_call 56; (with_reducible exact call_quiet (HT.out _))) | (go_at_call 57; (with_reducible exact call_quiet (HB.out _ (by repeat (first | with_reducible exact Grew.refl _ | with_reducible apply Grew.alloc | with_reducible apply Grew.later | with_reducible apply Grew.drew | with_reducible apply Grew.store | with_reducible assumption))))))))); refine wpQuiet_nil ?_; rintro _ ⟨u, rfl⟩))
    have nwc : NewFor w u.world.heap.size := inferInstance
    refine wp_region_calc (u.world.heap.size) [0, rN.e, rH.e] 9 [8] [4, 7] [] (fun W0 => [(8, BoxR W0 [.int .i64 0, .int .i64 0])]) [.agg #[.int .i64 rN.s.lo, .int .i64 rN.s.hi], .agg #[.int .i64 rH.s.lo, .int .i64 rH.s.hi]] [9] (by rfl) (by go_simp) (by go_simp) (by intro W0 hW0 x hx; simp only [List.mem_cons, List.not_mem_nil, or_false] at hx; rcases hx with rfl <;> first | exact goodc_box _ _ hW0 _) (by kernel_rfl) (by kernel_rfl) (by kernel_rfl) ?_
    intro pz hd0
    apply Exists.intro
    apply And.intro
    apply lexc_pure hd0 (by kernel_rfl)
    · intro uz xc; unfold opPure; go_simp; rfl
    apply lexc_pure hd0 (by kernel_rfl)
    · intro uz xc; unfold opPure; go_simp; rfl
    apply lexc_pure hd0 (by kernel_rfl)
    · intro uz xc; unfold opPure; go_simp; rfl
    apply lexc_pure hd0 (by kernel_rfl)
    · intro uz xc; unfold opPure; go_simp; rfl
    apply lexc_call hd0 0 (by kernel_rfl) (by rfl) (by decide)
    · intro uz hfz hF; clear hF; unfold opCall; go_simp; exact K1.out _ _ (by go_simp) hfz
    apply lexc_pure hd0 (by kernel_rfl)
    · intro uz xc; unfold opPure; go_simp; rfl
    apply lexc_pure hd0 (by kernel_rfl)
    · intro uz xc; unfold opPure; go_simp; rfl
    apply lexc_call hd0 1 (by kernel_rfl) (by rfl) (by decide)
    · intro uz hfz hF; clear hF; unfold opCall; go_simp; exact K2.out _ _ (by go_simp) hfz
    apply lexc_make hd0 (by kernel_rfl)
    · intro uz xc hF; clear hF; unfold opMake; go_simp; refine (show Made (BoxR _ [.int .i64 0, .int .i64 0]) _ _ _ from ?_); exact madec_box _ _ _ _
    apply lexc_end
    rotate_left
    · rfl
    intro uz hR hD hfz
    obtain ⟨q8, e8, hB8, kB8, nB8⟩ := (show BoxR _ [.int .i64 0, .int .i64 0] (pz 8) _ from hR 8 (by decide))
    clear hR hD
    rw [e8]
    clear e8
    have oB8 := apart_oldL nB8
    have oC8 := apart_oldR nB8
    have hB8 := boxAt_cw hB8 hd0 nB8
    have kB8 := blockIn_cw kB8
    have hB8_0 := (hB8 0 _ rfl).1
    have hB8f0 := (hB8 0 _ rfl).2
    have hB8i0 : HasCell (uz.world) (q8) 0 := ⟨_, hB8_0⟩
    have hB8_1 := (hB8 1 _ rfl).1
    have hB8f1 := (hB8 1 _ rfl).2
    have hB8i1 : HasCell (uz.world) (q8) 1 := ⟨_, hB8_1⟩
    have hB8b : BlockIn (uz.world) (q8) := BlockIn.of_cell hB8_0
    clear hB8
    refine tail_store (by rfl) ?_; unfold opStore; go_simp
    refine tail_end ?_
    have nw8 : NewFor w q8 := ⟨Nat.le_trans nwc.le (by have := nB8.le; simp at this; omega)⟩
    go_wp2_with (go_at_call 42; (with_reducible refine call_calc (K3.out _ _ ?_ ?_) ?_); (· go_simp); (· go_simp); intro u5)
    refine wp_region_calc (u.world.heap.size) [rS.e, rR.e, rQ.e, rM.e, rM.e, rV.e] 13 [12] [5, 8, 9, 10, 11] [] (fun W0 => [(12, BoxR W0 [.int .i64 0, .int .i64 0])]) [.agg #[.int .i64 rR.s.lo, .int .i64 rR.s.hi], .agg #[.int .i64 rQ.s.lo, .int .i64 rQ.s.hi], .agg #[.int .i64 rM.s.lo, .int .i64 rM.s.hi], .agg #[.int .i64 ((wholeS 2)).lo, .int .i64 ((wholeS 2)).hi], .agg #[.int .i64 rV.s.lo, .int .i64 rV.s.hi]] [13] (by rfl) (by go_simp) (by go_simp) (by intro W0 hW0 x hx; simp only [List.mem_cons, List.not_mem_nil, or_false] at hx; rcases hx with rfl <;> first | exact goodc_box _ _ hW0 _) (by kernel_rfl) (by kernel_rfl) (by kernel_rfl) ?_
    intro pz hd0
    apply Exists.intro
    apply And.intro
    apply lexc_pure hd0 (by kernel_rfl)
    · intro uz xc; unfold opPure; go_simp; rfl
    apply lexc_pure hd0 (by kernel_rfl)
    · intro uz xc; unfold opPure; go_simp; rfl
    apply lexc_pure hd0 (by kernel_rfl)
    · intro uz xc; unfold opPure; go_simp; rfl
    apply lexc_pure hd0 (by kernel_rfl)
    · intro uz xc; unfold opPure; go_simp; rfl
    apply lexc_pure hd0 (by kernel_rfl)
    · intro uz xc; unfold opPure; go_simp; rfl
    apply lexc_call hd0 0 (by kernel_rfl) (by rfl) (by decide)
    · intro uz hfz hF; clear hF; unfold opCall; go_simp; exact K4.out _ _ (by repeat (first | with_reducible exact Grew.refl _ | with_reducible apply Grew.alloc | with_reducible apply Grew.later | with_reducible apply Grew.drew | with_reducible apply Grew.store | with_reducible assumption)) (by go_simp) hfz
    apply lexc_pure hd0 (by kernel_rfl)
    · intro uz xc; unfold opPure; go_simp; rfl
    apply lexc_pure hd0 (by kernel_rfl)
    · intro uz xc; unfold opPure; go_simp; rfl
    apply lexc_call hd0 1 (by kernel_rfl) (by rfl) (by decide)
    · intro uz hfz hF; clear hF; unfold opCall; go_simp; exact K6.out _ _ (by go_simp) hfz
    apply lexc_call hd0 2 (by kernel_rfl) (by rfl) (by decide)
    · intro uz hfz hF; clear hF; unfold opCall; go_simp; exact K7.out _ _ (by go_simp) hfz
    apply lexc_call hd0 3 (by kernel_rfl) (by rfl) (by decide)
    · intro uz hfz hF; clear hF; unfold opCall; go_simp; exact retc_of (KW.out _) (by go_simp)
    apply lexc_call hd0 4 (by kernel_rfl) (by rfl) (by decide)
    · intro uz hfz hF; clear hF; unfold opCall; go_simp; exact K8.out _ _ (by go_simp) hfz
    apply lexc_make hd0 (by kernel_rfl)
    · intro uz xc hF; clear hF; unfold opMake; go_simp; refine (show Made (BoxR _ [.int .i64 0, .int .i64 0]) _ _ _ from ?_); exact madec_box _ _ _ _
    apply lexc_end
    rotate_left
    · rfl
    intro uz hR hD hfz
    obtain ⟨q12, e12, hB12, kB12, nB12⟩ := (show BoxR _ [.int .i64 0, .int .i64 0] (pz 12) _ from hR 12 (by decide))
    clear hR hD
    rw [e12]
    clear e12
    have oB12 := apart_oldL nB12
    have oC12 := apart_oldR nB12
    have hB12 := boxAt_cw hB12 hd0 nB12
    have kB12 := blockIn_cw kB12
    have hB12_0 := (hB12 0 _ rfl).1
    have hB12f0 := (hB12 0 _ rfl).2
    have hB12i0 : HasCell (uz.world) (q12) 0 := ⟨_, hB12_0⟩
    have hB12_1 := (hB12 1 _ rfl).1
    have hB12f1 := (hB12 1 _ rfl).2
    have hB12i1 : HasCell (uz.world) (q12) 1 := ⟨_, hB12_1⟩
    have hB12b : BlockIn (uz.world) (q12) := BlockIn.of_cell hB12_0
    clear hB12
    refine tail_store (by rfl) ?_; unfold opStore; go_simp
    refine tail_end ?_
    have lc5 : u.world.heap.size < u5.world.heap.size := (inferInstance : BlockIn u5.world u.world.heap.size).lt
    have nw12 : NewFor w q12 := ⟨Nat.le_trans nwc.le (by have := nB12.le; simp at this; omega)⟩
    go_wp2
    try go_region
    all_goals go_wp2
    all_goals
      refine bodyPost_ret (by (simp [results, Tryz.results15, go_sem] <;> rfl)) rfl ?_
      first
        | exact ⟨ret_res (by have := He.out he'; cases rV; simp only at this; subst this; rfl), (by repeat (first | with_reducible exact Grew.refl _ | with_reducible apply Grew.alloc | with_reducible apply Grew.later | with_reducible apply Grew.drew | with_reducible apply Grew.store | with_reducible assumption))⟩
        | exact ⟨ret_err (Hz.out he').symm rfl, (by repeat (first | with_reducible exact Grew.refl _ | with_reducible apply Grew.alloc | with_reducible apply Grew.later | with_reducible apply Grew.drew | with_reducible apply Grew.store | with_reducible assumption))⟩
end Go.Proofs.YtnedbhdokljpcaaGreat
