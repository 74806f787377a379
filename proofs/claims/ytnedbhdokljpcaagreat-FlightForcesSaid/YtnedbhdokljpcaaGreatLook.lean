/-
  Contract of span.Look.
-/
import Derived.Test.YtnedbhdokljpcaaGreatLookClo
import Derived.Test.YtnedbhdokljpcaaGreatRefLook
import Derived.Test.YtnedbhdokljpcaaGreatPress
namespace Go.Proofs.YtnedbhdokljpcaaGreat
open Go.RowKit Go.Shelf
set_option maxRecDepth 100000
set_option maxHeartbeats 8000000
theorem least_val : ∀ (L : List Big) (x : Big), (leastB x L).val = least x.val (L.map Big.val)
  | [], _ => rfl
  | y :: L, x => by
    show (leastB (if y.val < x.val then y else x) L).val = least (imin x.val y.val) (L.map Big.val)
    rw [least_val L]
    unfold imin
    split <;> rfl
theorem most_val : ∀ (L : List Big) (x : Big), (mostB x L).val = most x.val (L.map Big.val)
  | [], _ => rfl
  | y :: L, x => by
    show (mostB (if x.val < y.val then y else x) L).val = most (imax x.val y.val) (L.map Big.val)
    rw [most_val L]
    unfold imax
    split <;> rfl
/-- The cells of the rows up to the k-th point. -/
def rowD (l : List Pt) (x : Sp) (k : Nat) : List Value := (placesTo l x k).flatMap fun y => (lineB l false y).1.cells
def rowA (l : List Pt) (x : Sp) (k : Nat) : List Value := (placesTo l x k).flatMap fun y => (lineB l true y).2.cells
theorem rowD_in {l : List Pt} {x : Sp} {k : Nat} (hk : k < l.length) (h : inT x l[k] = true) : rowD l x (k + 1) = rowD l x k ++ (lineB l false l[k].place).1.cells := by
  unfold rowD
  rw [placesTo_in hk h, List.flatMap_append]
  simp
theorem rowA_in {l : List Pt} {x : Sp} {k : Nat} (hk : k < l.length) (h : inT x l[k] = true) : rowA l x (k + 1) = rowA l x k ++ (lineB l true l[k].place).2.cells := by
  unfold rowA
  rw [placesTo_in hk h, List.flatMap_append]
  simp
def lowsOf (l : List Pt) (x : Sp) : List Big := (placesT l x).tail.map fun y => (lineB l false y).1
def highsOf (l : List Pt) (x : Sp) : List Big := (placesT l x).tail.map fun y => (lineB l true y).2
theorem rowD_all (l : List Pt) (x : Sp) : rowD l x l.length = ((lineB l false x.lo).1 :: lowsOf l x).flatMap Big.cells := by
  unfold rowD lowsOf
  rw [placesTo_all]
  unfold placesT
  simp only [List.tail_cons, List.flatMap_cons, List.map_cons, List.flatMap_map]
theorem rowA_all (l : List Pt) (x : Sp) : rowA l x l.length = ((lineB l true x.lo).2 :: highsOf l x).flatMap Big.cells := by
  unfold rowA highsOf
  rw [placesTo_all]
  unfold placesT
  simp only [List.tail_cons, List.flatMap_cons, List.map_cons, List.flatMap_map]
theorem lows_len (l : List Pt) (x : Sp) : (placesTo l x l.length).length = (lowsOf l x).length + 1 ∧ (placesTo l x l.length).length = (highsOf l x).length + 1 := by
  unfold lowsOf highsOf
  rw [placesTo_all]
  unfold placesT
  simp
theorem lows_ok {l : List Pt} {x : Sp} (ht : tableB l = true) : ((lineB l false x.lo).1.ok ∧ ∀ y ∈ lowsOf l x, y.ok) ∧ (lineB l true x.lo).2.ok ∧ ∀ y ∈ highsOf l x, y.ok := by
  refine ⟨⟨(lineB_facts ht).1, fun y hy => ?_⟩, (lineB_facts ht).2.1, fun y hy => ?_⟩
  · obtain ⟨t, -, rfl⟩ := List.mem_map.1 hy
    exact (lineB_facts ht).1
  · obtain ⟨t, -, rfl⟩ := List.mem_map.1 hy
    exact (lineB_facts ht).2.1
theorem lows_is {l : List Pt} {x : Sp} (ht : tableB l = true) : fitR (leastB (lineB l false x.lo).1 (lowsOf l x)).val (mostB (lineB l true x.lo).2 (highsOf l x)).val = lookS l x := by
  unfold lookS lowsOf highsOf
  rw [least_val, most_val, List.map_map, List.map_map, (lineB_facts (up := false) (x := x.lo) ht).2.2.1, (lineB_facts (up := true) (x := x.lo) ht).2.2.2]
  congr 1
  · congr 1
    exact List.map_congr_left fun y _ => (lineB_facts ht).2.2.1
  · congr 1
    exact List.map_congr_left fun y _ => (lineB_facts ht).2.2.2
theorem lk_start (a : World) : LkAt a 0 [] [] ((a.alloc (.cells #[.slice none 0 0] 223)).alloc (.cells #[.slice none 0 0] 223)) := by
  have h1 : BoxIs (a.alloc (.cells #[.slice none 0 0] 223)) a.heap.size (.slice none 0 0) := ⟨boxAt_new a [.slice none 0 0] _⟩
  have h2 : BoxIs ((a.alloc (.cells #[.slice none 0 0] 223)).alloc (.cells #[.slice none 0 0] 223)) (a.heap.size + 1) (.slice none 0 0) := ⟨by
    have h := boxAt_new (a.alloc (.cells #[.slice none 0 0] 223)) [.slice none 0 0] 223
    rwa [show (a.alloc (.cells #[.slice none 0 0] 223)).heap.size = a.heap.size + 1 by simp] at h⟩
  exact ⟨((Grew.refl a).alloc _).alloc _, by simp, _, _, inferInstance, h2, World.ownsRow_nil _ _ _ _, World.ownsRow_nil _ _ _ _, rowsApart_nil _⟩
theorem lk_grew {a W W' : World} {n : Nat} {D A : List Value} (h : LkAt a n D A W) (g : Grew W W') : LkAt a n D A W' := by
  obtain ⟨hg, hb, vd, va, b6, b7, o1, o2, hap⟩ := h
  exact ⟨hg.trans g, Nat.le_trans hb g.size, vd, va, b6.grew g, b7.grew g, owns_grew o1 g, owns_grew o2 g, hap⟩
theorem look_bad (l : List Pt) (x : Sp) (h : (tableB l && x.okB) = false) (ao : Option Addr) (cap : Nat) (w : World) (hs : SlAt w (.slice ao l.length cap) l.length (l.flatMap Pt.cells)) :
    Calls Tryz.prog 118 #[.slice ao l.length cap, .agg #[.int .i64 x.lo, .int .i64 x.hi]] w fun e w' => e = .returned (.tuple #[.agg #[.int .i64 (lookR l x).s.lo, .int .i64 (lookR l x).s.hi], .int .i64 (lookR l x).e]) ∧ Grew w w' := by
  have HR := Lib.hid (show errR 2 = lookR l x by unfold lookR; rw [h]; rfl)
  cases h1 : tableB l
  · have HB := Lib.hid (fun w' (g : Grew w w') => is_int (show codeB (tableB l) 2 = 2 by rw [h1]; rfl) (spTable_any l (.slice ao l.length cap) w' (hs.grew g)))
    clear h h1 hs
    go_enter Tryz.func118, Tryz.ntmps118
    go_wp2_with (first | (go_at_call 51; (with_reducible refine call_later (HB.out _ (by repeat (first | with_reducible exact Grew.refl _ | with_reducible apply Grew.alloc | with_reducible apply Grew.later | with_reducible apply Grew.drew | with_reducible apply Grew.store | with_reducible assumption))) ?_); intro u) | ((with_reducible refine wp_region_later ?_ ?_ ?_); (· kernel_rfl); (· kernel_rfl); (try simp only [List.append_eq, List.cons_append, List.nil_append]); (repeat (go_big_quiet_step ((first | (go_at_call 51; (with_reducible exact call_quiet (HB.out _ (by repeat (first | with_reducible exact Grew.refl _ | with_reducible apply Grew.alloc | with_reducible apply Grew.later | with_reducible apply Grew.drew | with_reducible apply Grew.store | with_reducible assumption))))))))); refine wpQuiet_nil ?_; rintro _ ⟨u, rfl⟩))
    refine bodyPost_ret (by (simp [results, Tryz.results118, go_sem] <;> rfl)) rfl ?_
    exact ⟨ret_err HR.out rfl, (by repeat (first | with_reducible exact Grew.refl _ | with_reducible apply Grew.alloc | with_reducible apply Grew.later | with_reducible apply Grew.drew | with_reducible apply Grew.store | with_reducible assumption))⟩
  · have HB := Lib.hid (fun w' (g : Grew w w') => is_int (show codeB (tableB l) 2 = 0 by rw [h1]; rfl) (spTable_any l (.slice ao l.length cap) w' (hs.grew g)))
    rw [h1, Bool.true_and] at h
    have HC := Lib.hid (fun w' => is_int (show codeB x.okB 2 = 2 by rw [h]; rfl) (spCheck_any x w'))
    clear h h1 hs
    go_enter Tryz.func118, Tryz.ntmps118
    go_wp2_with (first | (go_at_call 51; (with_reducible refine call_later (HB.out _ (by repeat (first | with_reducible exact Grew.refl _ | with_reducible apply Grew.alloc | with_reducible apply Grew.later | with_reducible apply Grew.drew | with_reducible apply Grew.store | with_reducible assumption))) ?_); intro u) | (go_at_call 159; (with_reducible refine call_later (HC.out _) ?_); intro u) | ((with_reducible refine wp_region_later ?_ ?_ ?_); (· kernel_rfl); (· kernel_rfl); (try simp only [List.append_eq, List.cons_append, List.nil_append]); (repeat (go_big_quiet_step ((first | (go_at_call 51; (with_reducible exact call_quiet (HB.out _ (by repeat (first | with_reducible exact Grew.refl _ | with_reducible apply Grew.alloc | with_reducible apply Grew.later | with_reducible apply Grew.drew | with_reducible apply Grew.store | with_reducible assumption))))) | (go_at_call 159; (with_reducible exact call_quiet (HC.out _))))))); refine wpQuiet_nil ?_; rintro _ ⟨u, rfl⟩))
    refine bodyPost_ret (by (simp [results, Tryz.results118, go_sem] <;> rfl)) rfl ?_
    exact ⟨ret_err HR.out rfl, (by repeat (first | with_reducible exact Grew.refl _ | with_reducible apply Grew.alloc | with_reducible apply Grew.later | with_reducible apply Grew.drew | with_reducible apply Grew.store | with_reducible assumption))⟩
theorem look_ok (l : List Pt) (x : Sp) (h1 : tableB l = true) (h2 : x.okB = true) (ao : Option Addr) (cap : Nat) (w : World) (hs : SlAt w (.slice ao l.length cap) l.length (l.flatMap Pt.cells)) :
    Calls Tryz.prog 118 #[.slice ao l.length cap, .agg #[.int .i64 x.lo, .int .i64 x.hi]] w fun e w' => e = .returned (.tuple #[.agg #[.int .i64 (lookS l x).s.lo, .int .i64 (lookS l x).s.hi], .int .i64 (lookS l x).e]) ∧ Grew w w' := by
  have HB := Lib.hid (fun w' (g : Grew w w') => is_int (show codeB (tableB l) 2 = 0 by rw [h1]; rfl) (spTable_any l (.slice ao l.length cap) w' (hs.grew g)))
  have HC := Lib.hid (fun w' => is_int (show codeB x.okB 2 = 0 by rw [h2]; rfl) (spCheck_any x w'))
  have HK := Lib.hid (fun (a : World) (g : Grew w a) h0 n hn D A W y h => lookClo_any l y h1 ao cap a (hs.grew g) w.heap.size h0 n hn D A W h)
  have HI := Lib.hid (fun (p : Pt) w' => is_bool (show x.hasB p.place = inT x p by unfold Sp.hasB inT; rw [h2, Bool.true_and]) (spIn_any x p.place w'))
  have Ht := Lib.hid h1
  obtain ⟨q1, q2, -, -⟩ := table_facts h1
  have hlen := placesTo_len l x
  have hm := hs.len_le
  unfold maxLen at hm
  obtain ⟨ao', cap', e1, -, hx⟩ := hs
  cases e1
  have HE := Lib.hid (SlAt.elem (f := Pt.cells) (c := 3) (fun _ => rfl) (by omega) hx)
  have Hlen := Lib.hid hlen
  clear hx h1 h2 hlen
  go_enter Tryz.func118, Tryz.ntmps118
  go_wp2_with (first | (go_at_call 51; (with_reducible refine call_later (HB.out _ ?_) ?_); (· exact (by repeat (first | with_reducible exact Grew.refl _ | with_reducible apply Grew.alloc | with_reducible apply Grew.later | with_reducible apply Grew.drew | with_reducible apply Grew.store | with_reducible assumption))); intro u1) | (go_at_call 159; (with_reducible refine call_later (HC.out _) ?_); intro u2) | (go_at_call 176; refine (HK.out u2.world (by repeat (first | with_reducible exact Grew.refl _ | with_reducible apply Grew.alloc | with_reducible apply Grew.later | with_reducible apply Grew.drew | with_reducible apply Grew.store | with_reducible assumption)) (by go_simp) 0 (Nat.zero_le _) _ _ _ _ (lk_start u2.world)).mono ?_; rintro e w9 ⟨rfl, hk1⟩; obtain ⟨z1, rfl⟩ := later_of hk1.grew) | (go_at_call 176; refine (HK.out u2.world (by repeat (first | with_reducible exact Grew.refl _ | with_reducible apply Grew.alloc | with_reducible apply Grew.later | with_reducible apply Grew.drew | with_reducible apply Grew.store | with_reducible assumption)) (by go_simp) 1 (by decide) _ _ _ _ hk1).mono ?_; rintro e w9 ⟨rfl, hk2⟩; obtain ⟨z2, rfl⟩ := later_of hk2.grew))
  go_loopw [35] (fun t wr => ∃ k : Nat, t = .int .i64 k ∧ k ≤ l.length ∧ Hid (LkAt u2.world (placesTo l x k).length (rowD l x k) (rowA l x k) wr)) (fun t _ => l.length - (intOf t).toNat)
  case atStart =>
    exact ⟨0, rfl, by omega, Lib.hid (by simpa [rowD, rowA, placesTo] using hk2)⟩
  case round =>
    obtain ⟨k, rfl, hk, HL⟩ := hrel
    obtain ⟨z, rfl⟩ := later_of HL.out.grew
    clear hk1 hk2
    have j6 : BlockIn z.world u2.world.heap.size := ⟨by have := HL.out.base; omega⟩
    have j7 : BlockIn z.world (u2.world.heap.size + 1) := ⟨by have := HL.out.base; omega⟩
    by_cases hlt : k < l.length
    · obtain ⟨b1, o1, e1, i1, hd1, hd2⟩ := HE.out k hlt
      cases e1
      have hc0 := hd1 _ rfl
      have hc1 := hd2 1 _ rfl
      have hc2 := hd2 2 _ rfl
      have jb : BlockIn w b1 := ⟨i1⟩
      clear hd1 hd2
      have HDn := Lib.hid (fun h => rowD_in (x := x) hlt h)
      have HAn := Lib.hid (fun h => rowA_in (x := x) hlt h)
      have Pin := Lib.hid (fun h => placesTo_in (x := x) hlt h)
      have Pout := Lib.hid (fun h => placesTo_out (x := x) hlt h)
      have hl2 : (placesTo l x k).length ≤ 66 := by have := Hlen.out k; omega
      generalize l[k] = p0 at *
      have HIp := Lib.hid (HI.out p0)
      cases c1 : inT x p0
      · rw [c1] at HIp
        have hn := Lib.hid (Pout.out c1)
        clear Pin Pout HDn HAn
        go_wp2_with (go_at_call 117; (with_reducible refine call_later (HIp.out _) ?_); intro u3)
        go_roundw
        case rel => exact ⟨k + 1, by go_num, by omega, Lib.hid (by unfold rowD rowA; rw [hn.out]; exact lk_grew HL.out (by repeat (first | with_reducible exact Grew.refl _ | with_reducible apply Grew.alloc | with_reducible apply Grew.later | with_reducible apply Grew.drew | with_reducible apply Grew.store | with_reducible assumption)))⟩
        case measure => simp [intOf]; omega
      · rw [c1] at HIp
        have hn := Lib.hid (Pin.out c1)
        have hD := Lib.hid (HDn.out c1)
        have hA := Lib.hid (HAn.out c1)
        clear Pin Pout HDn HAn
        go_wp2_with (first | (go_at_call 117; (with_reducible refine call_later (HIp.out _) ?_); intro u3) | (go_at_call 176; refine (HK.out u2.world (by repeat (first | with_reducible exact Grew.refl _ | with_reducible apply Grew.alloc | with_reducible apply Grew.later | with_reducible apply Grew.drew | with_reducible apply Grew.store | with_reducible assumption)) (by go_simp) _ hl2 _ _ _ _ (lk_grew HL.out (by repeat (first | with_reducible exact Grew.refl _ | with_reducible apply Grew.alloc | with_reducible apply Grew.later | with_reducible apply Grew.drew | with_reducible apply Grew.store | with_reducible assumption)))).mono ?_; rintro e w9 ⟨rfl, hk3⟩; obtain ⟨z3, rfl⟩ := later_of hk3.grew))
        go_roundw
        case rel => exact ⟨k + 1, by go_num, by omega, Lib.hid (by rw [hn.out, List.length_append, hD.out, hA.out]; exact hk3)⟩
        case measure => simp [intOf]; omega
    · obtain rfl : k = l.length := by omega
      obtain ⟨hg, hb, vd, va, b6, b7, o1, o2, hap⟩ := HL.out
      rw [rowD_all] at o1
      rw [rowA_all] at o2
      obtain ⟨lo1, lo2⟩ := lows_ok (x := x) Ht.out
      have hfin := lows_is (x := x) Ht.out
      obtain ⟨e1, e2⟩ := lows_len l x
      rw [e1] at o1
      rw [e2] at o2
      have hl3 := Hlen.out l.length
      rw [e1] at hl3
      generalize hR : lookS l x = R at *
      clear HL Hlen HB HC HI HE HK Ht e1
      generalize (lineB l false x.lo).1 = xd at *
      generalize (lineB l true x.lo).2 = xa at *
      generalize lowsOf l x = Ld at *
      generalize highsOf l x = La at *
      obtain ⟨ao1, cap1, rfl, hc1, hm1⟩ := owns_cap o1 (by omega)
      obtain ⟨ao2, cap2, rfl, hc2, hm2⟩ := owns_cap o2 (by omega)
      have Hs1 := Lib.hid (SlAt.of_owns o1)
      have Hs2 := Lib.hid (SlAt.of_owns o2)
      have HX := Lib.hid (fun w h => hull_any xd Ld lo1.1 lo1.2 ao1 cap1 hc1 w h)
      have HY := Lib.hid (fun w h => hull_any xa La lo2.1 lo2.2 ao2 cap2 hc2 w h)
      have HF := Lib.hid (fun w => big_fit_any (leastB xd Ld) (mostB xa La) (leastB_ok _ _ lo1.1 lo1.2) (mostB_ok _ _ lo2.1 lo2.2) w)
      rw [hfin] at HF
      clear lo1 lo2 o1 o2 hap hfin
      have c6 := b6.c
      have c7 := b7.c
      clear b6 b7
      generalize leastB xd Ld = B1 at *
      generalize mostB xd Ld = B2 at *
      generalize leastB xa La = B3 at *
      generalize mostB xa La = B4 at *
      go_wp2_with (first | (go_at_call 169; (with_reducible refine call_later (HX.out _ (Hs1.out.grew (by repeat (first | with_reducible exact Grew.refl _ | with_reducible apply Grew.alloc | with_reducible apply Grew.later | with_reducible apply Grew.drew | with_reducible apply Grew.store | with_reducible assumption)))) ?_); intro u6) | (go_at_call 169; (with_reducible refine call_later (HY.out _ (Hs2.out.grew (by repeat (first | with_reducible exact Grew.refl _ | with_reducible apply Grew.alloc | with_reducible apply Grew.later | with_reducible apply Grew.drew | with_reducible apply Grew.store | with_reducible assumption)))) ?_); intro u7) | (go_at_call 158; (with_reducible refine call_later (HF.out _) ?_); intro u8))
      refine bodyPost_ret (by (simp [results, Tryz.results118, go_sem] <;> rfl)) rfl ?_
      exact ⟨by subst hR; rfl, (by repeat (first | with_reducible exact Grew.refl _ | with_reducible apply Grew.alloc | with_reducible apply Grew.later | with_reducible apply Grew.drew | with_reducible apply Grew.store | with_reducible assumption))⟩
theorem look_any : LookOk 118 := fun l x _ ao cap w hs => by
  cases h : (tableB l && x.okB)
  · exact look_bad l x h ao cap w hs
  · rw [show lookR l x = lookS l x by unfold lookR; rw [h]; rfl]
    rw [Bool.and_eq_true] at h
    exact look_ok l x h.1 h.2 ao cap w hs
end Go.Proofs.YtnedbhdokljpcaaGreat
