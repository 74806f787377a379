/-
  Contracts of ullageref06.away, ullageref06.reading.
  Contracts of ullageref06.reading, Reading, Agrees.
  Contracts of ullageref06.reading of a rate, of ullageref06.reading.
-/
import Derived.Test.YtohinapfpfjlkaaGreatNavLaw
import Derived.Test.YtohinapfpfjlkaaGreatRefDot
import Derived.Test.YtohinapfpfjlkaaGreatRefDivs
import Derived.Test.YtohinapfpfjlkaaGreatCalcs
namespace Go.Proofs.YtohinapfpfjlkaaGreat
open Go.RowKit Go.Shelf
set_option maxRecDepth 100000
set_option maxHeartbeats 16000000
def aw0 (e : Int) (p f : Bx) : Res := doR e (subR p.x f.x)
def aw1 (e : Int) (p f : Bx) : Res := doR (aw0 e p f).e (subR p.y f.y)
def aw2 (e : Int) (p f : Bx) : Res := doR (aw1 e p f).e (subR p.z f.z)
def awC (e : Int) (p f : Bx) : Bx := ⟨(aw0 e p f).s, (aw1 e p f).s, (aw2 e p f).s⟩
instance b64_awC (e : Int) (p f : Bx) : B64 (awC e p f) := by
  unfold awC aw0 aw1 aw2
  exact ⟨inferInstance, inferInstance, inferInstance⟩
theorem r6Away_any (c : Nat) (e : Int) (p f : Bx) [hp : B64 p] [hf : B64 f] (w : World) (hc : w.cell? ⟨c, 0, none⟩ = some (.int .i64 e)) (hfz0 : w.frozen? ⟨c, 0, none⟩ = false) :
    Calls Tryz.prog 92 #[.pointer (some ⟨c, 0, none⟩), .agg #[.int .i64 p.x.lo, .int .i64 p.x.hi, .int .i64 p.y.lo, .int .i64 p.y.hi, .int .i64 p.z.lo, .int .i64 p.z.hi], .agg #[.int .i64 f.x.lo, .int .i64 f.x.hi, .int .i64 f.y.lo, .int .i64 f.y.hi, .int .i64 f.z.lo, .int .i64 f.z.hi]] w (RetC c (.agg #[.int .i64 ((awC e p f)).x.lo, .int .i64 ((awC e p f)).x.hi, .int .i64 ((awC e p f)).y.lo, .int .i64 ((awC e p f)).y.hi, .int .i64 ((awC e p f)).z.lo, .int .i64 ((awC e p f)).z.hi]) (aw2 e p f).e w) := by
  have ib : BlockIn w c := BlockIn.of_cell hc
  have hci : HasCell w c 0 := ⟨_, hc⟩
  have Hb := Lib.hid (But.refl hc)
  have Hc := Lib.hid hc
  have HV := Lib.hid (show awC e p f = ⟨(aw0 e p f).s, (aw1 e p f).s, (aw2 e p f).s⟩ from rfl)
  go_enter Tryz.func92, Tryz.ntmps92
  go_wp2
  refine wp_loop_rounds 4 ?_
  rw [rounds_succ]
  go_wp2
  refine wp_region_calc c [e, (aw0 e p f).e] 10 [] [8] [] (fun W0 => []) [.agg #[.int .i64 ((aw0 e p f).s).lo, .int .i64 ((aw0 e p f).s).hi]] [10] (by rfl) (by go_simp) (by go_simp) (fun _ _ x hx => absurd hx (List.not_mem_nil)) (by kernel_rfl) (by kernel_rfl) (by kernel_rfl) ?_
  intro pz hd0
  apply Exists.intro
  apply And.intro
  apply lexc_pure hd0 (by kernel_rfl)
  · intro uz xc; unfold opPure; go_simp; rfl
  apply lexc_pure hd0 (by kernel_rfl)
  · intro uz xc; unfold opPure; go_simp; rfl
  apply lexc_pure hd0 (by kernel_rfl)
  · intro uz xc; unfold opPure; go_simp; rfl
  apply lexc_pure hd0 (by kernel_rfl)
  · intro uz xc; unfold opPure; go_simp; rfl
  apply lexc_pure hd0 (by kernel_rfl)
  · intro uz xc; unfold opPure; go_simp; rfl
  apply lexc_pure hd0 (by kernel_rfl)
  · intro uz xc; unfold opPure; go_simp; rfl
  apply lexc_pure hd0 (by kernel_rfl)
  · intro uz xc; unfold opPure; go_simp; rfl
  apply lexc_pure hd0 (by kernel_rfl)
  · intro uz xc; unfold opPure; go_simp; rfl
  apply lexc_call hd0 0 (by kernel_rfl) (by rfl) (by decide)
  · intro uz hfz hF; clear hF; unfold opCall; go_simp; exact rcSub_any _ e p.x f.x _ (by go_simp) hfz
  apply lexc_pure hd0 (by kernel_rfl)
  · intro uz xc; unfold opPure; go_simp; rfl
  apply lexc_end
  rotate_left
  · rfl
  intro uz hR hD hfz
  clear hR hD
  refine tail_store (by rfl) ?_; unfold opStore; go_simp
  refine tail_end ?_
  go_wp2
  rw [rounds_succ]
  go_wp2
  refine wp_region_calc c [(aw0 e p f).e, (aw1 e p f).e] 10 [] [8] [] (fun W0 => []) [.agg #[.int .i64 ((aw1 e p f).s).lo, .int .i64 ((aw1 e p f).s).hi]] [10] (by rfl) (by go_simp) (by go_simp) (fun _ _ x hx => absurd hx (List.not_mem_nil)) (by kernel_rfl) (by kernel_rfl) (by kernel_rfl) ?_
  intro pz hd0
  apply Exists.intro
  apply And.intro
  apply lexc_pure hd0 (by kernel_rfl)
  · intro uz xc; unfold opPure; go_simp; rfl
  apply lexc_pure hd0 (by kernel_rfl)
  · intro uz xc; unfold opPure; go_simp; rfl
  apply lexc_pure hd0 (by kernel_rfl)
  · intro uz xc; unfold opPure; go_simp; rfl
  apply lexc_pure hd0 (by kernel_rfl)
  · intro uz xc; unfold opPure; go_simp; rfl
  apply lexc_pure hd0 (by kernel_rfl)
  · intro uz xc; unfold opPure; go_simp; rfl
  apply lexc_pure hd0 (by kernel_rfl)
  · intro uz xc; unfold opPure; go_simp; rfl
  apply lexc_pure hd0 (by kernel_rfl)
  · intro uz xc; unfold opPure; go_simp; rfl
  apply lexc_pure hd0 (by kernel_rfl)
  · intro uz xc; unfold opPure; go_simp; rfl
  apply lexc_call hd0 0 (by kernel_rfl) (by rfl) (by decide)
  · intro uz hfz hF; clear hF; unfold opCall; go_simp; exact rcSub_any _ (aw0 e p f).e p.y f.y _ (by go_simp) hfz
  apply lexc_pure hd0 (by kernel_rfl)
  · intro uz xc; unfold opPure; go_simp; rfl
  apply lexc_end
  rotate_left
  · rfl
  intro uz hR hD hfz
  clear hR hD
  refine tail_store (by rfl) ?_; unfold opStore; go_simp
  refine tail_end ?_
  go_wp2
  rw [rounds_succ]
  go_wp2
  refine wp_region_calc c [(aw1 e p f).e, (aw2 e p f).e] 10 [] [8] [] (fun W0 => []) [.agg #[.int .i64 ((aw2 e p f).s).lo, .int .i64 ((aw2 e p f).s).hi]] [10] (by rfl) (by go_simp) (by go_simp) (fun _ _ x hx => absurd hx (List.not_mem_nil)) (by kernel_rfl) (by kernel_rfl) (by kernel_rfl) ?_
  intro pz hd0
  apply Exists.intro
  apply And.intro
  apply lexc_pure hd0 (by kernel_rfl)
  · intro uz xc; unfold opPure; go_simp; rfl
  apply lexc_pure hd0 (by kernel_rfl)
  · intro uz xc; unfold opPure; go_simp; rfl
  apply lexc_pure hd0 (by kernel_rfl)
  · intro uz xc; unfold opPure; go_simp; rfl
  apply lexc_pure hd0 (by kernel_rfl)
  · intro uz xc; unfold opPure; go_simp; rfl
  apply lexc_pure hd0 (by kernel_rfl)
  · intro uz xc; unfold opPure; go_simp; rfl
  apply lexc_pure hd0 (by kernel_rfl)
  · intro uz xc; unfold opPure; go_simp; rfl
  apply lexc_pure hd0 (by kernel_rfl)
  · intro uz xc; unfold opPure; go_simp; rfl
  apply lexc_pure hd0 (by kernel_rfl)
  · intro uz xc; unfold opPure; go_simp; rfl
  apply lexc_call hd0 0 (by kernel_rfl) (by rfl) (by decide)
  · intro uz hfz hF; clear hF; unfold opCall; go_simp; exact rcSub_any _ (aw1 e p f).e p.z f.z _ (by go_simp) hfz
  apply lexc_pure hd0 (by kernel_rfl)
  · intro uz xc; unfold opPure; go_simp; rfl
  apply lexc_end
  rotate_left
  · rfl
  intro uz hR hD hfz
  clear hR hD
  refine tail_store (by rfl) ?_; unfold opStore; go_simp
  refine tail_end ?_
  go_wp2
  rw [rounds_succ]
  go_wp2
  refine bodyPost_ret (by (simp [results, Tryz.results92, go_sem] <;> rfl)) rfl ?_
  exact ⟨rfl, But.out (by repeat (first | with_reducible exact Hb.out | with_reducible apply But.alloc | with_reducible apply But.later | with_reducible apply But.drew | with_reducible apply But.put | with_reducible apply But.store)) Hc.out (by go_simp)⟩
end Go.Proofs.YtohinapfpfjlkaaGreat
namespace Go.Proofs.YtohinapfpfjlkaaGreat
open Go.RowKit Go.Shelf
set_option maxRecDepth 100000
set_option maxHeartbeats 16000000
theorem aw_good {p f : Bx} (h : awayE p f = 0) : (aw2 0 p f).e = 0 ∧ awC 0 p f = awayS p f := by
  unfold awayE firstE at h
  have h0 : (subR p.x f.x).e = 0 := by
    by_cases a : (subR p.x f.x).e = 0
    · exact a
    · rw [if_neg a, if_neg a] at h; exact absurd h a
  rw [if_pos h0] at h
  have h1 : (subR p.y f.y).e = 0 := by
    by_cases a : (subR p.y f.y).e = 0
    · exact a
    · rw [if_neg a] at h; exact absurd h a
  rw [if_pos h1] at h
  have e0 : aw0 0 p f = subR p.x f.x := rfl
  have e1 : aw1 0 p f = subR p.y f.y := by unfold aw1; rw [e0, h0]; rfl
  have e2 : aw2 0 p f = subR p.z f.z := by unfold aw2; rw [e1, h1]; rfl
  refine ⟨by rw [e2]; exact h, ?_⟩
  unfold awC awayS
  rw [e0, e1, e2]
theorem aw_e (p f : Bx) : (aw2 0 p f).e = awayE p f := by
  unfold awayE firstE
  have e0 : aw0 0 p f = subR p.x f.x := rfl
  by_cases h0 : (subR p.x f.x).e = 0
  · rw [if_pos h0]
    have e1 : aw1 0 p f = subR p.y f.y := by unfold aw1; rw [e0, h0]; rfl
    by_cases h1 : (subR p.y f.y).e = 0
    · rw [if_pos h1]
      unfold aw2
      rw [e1, h1]
      rfl
    · rw [if_neg h1]
      unfold aw2
      rw [e1, doR_bad _ h1]
      rfl
  · rw [if_neg h0, if_neg h0]
    have e1 : aw1 0 p f = errR (subR p.x f.x).e := by unfold aw1; rw [e0, doR_bad _ h0]
    unfold aw2
    rw [e1, doR_bad _ (show (errR (subR p.x f.x).e).e ≠ 0 from h0)]
    rfl
/-- The last step of each kind of reading. -/
def rd0 (p f : Bx) : Res := doR (aw2 0 p f).e (normR (awC 0 p f).list)
def rd1a (p v f : Bx) : Res := doR (aw2 0 p f).e (dotBR (awC 0 p f) v)
def rd1b (p v f : Bx) : Res := doR (rd1a p v f).e (normR (awC 0 p f).list)
def rd1 (p v f : Bx) : Res := doR (rd1b p v f).e (divR (rd1a p v f).s (rd1b p v f).s)
theorem clean_same {a b : Res} (h : a.e = b.e) (h2 : b.e = 0 → a = b) : clean a = clean b := by
  by_cases h0 : b.e = 0
  · rw [h2 h0]
  · rw [clean_bad h0, clean_bad (by rw [h]; exact h0), h]
theorem rd0_is (p f : Bx) : clean (rd0 p f) = clean (normAway p f) := by
  unfold rd0 normAway
  by_cases h : awayE p f = 0
  · rw [(aw_good h).1, (aw_good h).2, if_pos h]
    rfl
  · rw [aw_e, doR_bad _ h, if_neg h]
theorem rd1_is (p v f : Bx) : clean (rd1 p v f) = clean (rateR p v f) := by
  unfold rateR
  by_cases h : awayE p f = 0
  · rw [if_pos h]
    have e1 : rd1a p v f = dotBR (awayS p f) v := by unfold rd1a; rw [(aw_good h).1, (aw_good h).2]; rfl
    unfold divsR rd1
    by_cases h1 : (dotBR (awayS p f) v).e = 0
    · rw [if_pos h1]
      have e2 : rd1b p v f = normR (awayS p f).list := by unfold rd1b; rw [e1, h1, (aw_good h).2]; rfl
      by_cases h2 : (normR (awayS p f).list).e = 0
      · rw [if_pos h2, e2, e1, h2]; rfl
      · rw [if_neg h2, e2, doR_bad _ h2]
    · rw [if_neg h1]
      have e2 : rd1b p v f = errR (dotBR (awayS p f) v).e := by unfold rd1b; rw [e1, doR_bad _ h1]
      rw [e2, doR_bad _ (show (errR (dotBR (awayS p f) v).e).e ≠ 0 from h1)]
      rfl
  · rw [if_neg h]
    have e1 : rd1a p v f = errR (awayE p f) := by unfold rd1a; rw [aw_e, doR_bad _ h]
    have e2 : rd1b p v f = errR (awayE p f) := by unfold rd1b; rw [e1, doR_bad _ (show (errR (awayE p f)).e ≠ 0 from h)]; rfl
    unfold rd1
    rw [e2, doR_bad _ (show (errR (awayE p f)).e ≠ 0 from h)]
    rfl
theorem rcNorm_rd0 (c : Nat) (p f : Bx) (w : World) (hc : w.cell? ⟨c, 0, none⟩ = some (.int .i64 (aw2 0 p f).e)) (hf : w.frozen? ⟨c, 0, none⟩ = false) :
    Calls Tryz.prog 40 #[.pointer (some ⟨c, 0, none⟩), .agg #[.int .i64 ((awC 0 p f)).x.lo, .int .i64 ((awC 0 p f)).x.hi, .int .i64 ((awC 0 p f)).y.lo, .int .i64 ((awC 0 p f)).y.hi, .int .i64 ((awC 0 p f)).z.lo, .int .i64 ((awC 0 p f)).z.hi]] w (RetC c (.agg #[.int .i64 ((rd0 p f).s).lo, .int .i64 ((rd0 p f).s).hi]) (rd0 p f).e w) := rcNorm_any c (aw2 0 p f).e (awC 0 p f) w hc hf
theorem rcDot_rd1a (c : Nat) (p v f : Bx) [hv : B64 v] (w : World) (hc : w.cell? ⟨c, 0, none⟩ = some (.int .i64 (aw2 0 p f).e)) (hf : w.frozen? ⟨c, 0, none⟩ = false) :
    Calls Tryz.prog 47 #[.pointer (some ⟨c, 0, none⟩), .agg #[.int .i64 ((awC 0 p f)).x.lo, .int .i64 ((awC 0 p f)).x.hi, .int .i64 ((awC 0 p f)).y.lo, .int .i64 ((awC 0 p f)).y.hi, .int .i64 ((awC 0 p f)).z.lo, .int .i64 ((awC 0 p f)).z.hi], .agg #[.int .i64 v.x.lo, .int .i64 v.x.hi, .int .i64 v.y.lo, .int .i64 v.y.hi, .int .i64 v.z.lo, .int .i64 v.z.hi]] w (RetC c (.agg #[.int .i64 ((rd1a p v f).s).lo, .int .i64 ((rd1a p v f).s).hi]) (rd1a p v f).e w) := rcDot_any c (aw2 0 p f).e (awC 0 p f) v w hc hf
theorem rcNorm_rd1b (c : Nat) (p v f : Bx) (w : World) (hc : w.cell? ⟨c, 0, none⟩ = some (.int .i64 (rd1a p v f).e)) (hf : w.frozen? ⟨c, 0, none⟩ = false) :
    Calls Tryz.prog 40 #[.pointer (some ⟨c, 0, none⟩), .agg #[.int .i64 ((awC 0 p f)).x.lo, .int .i64 ((awC 0 p f)).x.hi, .int .i64 ((awC 0 p f)).y.lo, .int .i64 ((awC 0 p f)).y.hi, .int .i64 ((awC 0 p f)).z.lo, .int .i64 ((awC 0 p f)).z.hi]] w (RetC c (.agg #[.int .i64 ((rd1b p v f).s).lo, .int .i64 ((rd1b p v f).s).hi]) (rd1b p v f).e w) := rcNorm_any c (rd1a p v f).e (awC 0 p f) w hc hf
instance s64_rd1a (p v f : Bx) : S64 (rd1a p v f).s := by unfold rd1a; infer_instance
instance s64_rd1b (p v f : Bx) : S64 (rd1b p v f).s := by unfold rd1b; infer_instance
theorem rcDiv_rd1 (c : Nat) (p v f : Bx) (w : World) (hc : w.cell? ⟨c, 0, none⟩ = some (.int .i64 (rd1b p v f).e)) (hf : w.frozen? ⟨c, 0, none⟩ = false) :
    Calls Tryz.prog 46 #[.pointer (some ⟨c, 0, none⟩), .agg #[.int .i64 ((rd1a p v f).s).lo, .int .i64 ((rd1a p v f).s).hi], .agg #[.int .i64 ((rd1b p v f).s).lo, .int .i64 ((rd1b p v f).s).hi]] w (RetC c (.agg #[.int .i64 ((rd1 p v f).s).lo, .int .i64 ((rd1 p v f).s).hi]) (rd1 p v f).e w) := rcDiv_any c (rd1b p v f).e (rd1a p v f).s (rd1b p v f).s w hc hf
theorem rcDot_0 (c : Nat) (a b : Bx) [ha : B64 a] [hb : B64 b] (w : World) (hc : w.cell? ⟨c, 0, none⟩ = some (.int .i64 0)) (hf : w.frozen? ⟨c, 0, none⟩ = false) :
    Calls Tryz.prog 47 #[.pointer (some ⟨c, 0, none⟩), .agg #[.int .i64 a.x.lo, .int .i64 a.x.hi, .int .i64 a.y.lo, .int .i64 a.y.hi, .int .i64 a.z.lo, .int .i64 a.z.hi], .agg #[.int .i64 b.x.lo, .int .i64 b.x.hi, .int .i64 b.y.lo, .int .i64 b.y.hi, .int .i64 b.z.lo, .int .i64 b.z.hi]] w (RetC c (.agg #[.int .i64 ((dotBR a b).s).lo, .int .i64 ((dotBR a b).s).hi]) (dotBR a b).e w) := rcDot_any c 0 a b w hc hf
theorem res_eta2 {r : Res} (h : r.e = 0) : (⟨⟨r.s.lo, r.s.hi⟩, 0⟩ : Res) = r := by
  cases r
  simp only at h
  subst h
  rfl
end Go.Proofs.YtohinapfpfjlkaaGreat
namespace Go.Proofs.YtohinapfpfjlkaaGreat
open Go.RowKit Go.Shelf
set_option maxRecDepth 100000
set_option maxHeartbeats 16000000
end Go.Proofs.YtohinapfpfjlkaaGreat
