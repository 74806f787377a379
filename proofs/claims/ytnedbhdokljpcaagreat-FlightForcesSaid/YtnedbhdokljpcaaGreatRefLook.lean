/-
  Contract of ullageref01.Look.
-/
import Derived.Test.YtnedbhdokljpcaaGreatLookRun
import Derived.Test.YtnedbhdokljpcaaGreatRow
import Derived.Maps.AppendAt
namespace Go.Proofs.YtnedbhdokljpcaaGreat
open Go.RowKit Go.Shelf
set_option maxRecDepth 100000
set_option maxHeartbeats 8000000
def numC (x : Int) : List Value := [.int .i64 x]
theorem infoNum : (Tryz.prog.info? 22).map (fun i => (i.zero, i.size, i.bytes)) = some (some (.int .i64 0), 1, 8) := by kernel_rfl
theorem numC_snoc (l : List Int) (k : Int) : l.flatMap numC ++ [.int .i64 k] = (l ++ [k]).flatMap numC := by simp [numC]
theorem numC_len (l : List Int) : (l.flatMap numC).length = l.length := by
  induction l with
  | nil => rfl
  | cons a l ih => rw [List.flatMap_cons, List.length_append, ih]; simp [numC]; omega
/-- A number is appended to a row of one's own. -/
theorem wpList_app_num {ops : Array Oper} {rest : List Oper} {o : Oper} {a : Act} {Q : Exit → Act → World → Prop} (a0 w : World) (g0 : Grew a0 w) {m : Nat} [hm : SizeAt w m] (hgd : o.guard = none) (s x : Operand)
    (ho : o.op = .call { callee := .builtin .append, args := #[s, x], argTypes := #[224, 224] }) (v : Value) (l : List Int) (hown : w.ownsRow a0.heap.size 22 1 v l.length (l.flatMap numC)) (hs : a.eval s = v) (k : Int) (ty : TypeId)
    (hx : a.eval x = .slice (some ⟨m, 0, none⟩) 1 1) (hn : l.length ≤ 1099511627776)
    (h : ∀ v' (y : Later a0), y.world.ownsRow a0.heap.size 22 1 v' (l ++ [k]).length ((l ++ [k]).flatMap numC) → wpList Tryz.prog ops Q rest (a.put o.dst v') y.world) :
    wpList Tryz.prog ops Q (o :: rest) a (w.alloc (.cells #[.int .i64 k] ty)) := by
  obtain rfl := hm.eq
  obtain ⟨i0, hi, hz0, hzz1, hzz2⟩ := info_parts infoNum
  refine wpList_append_own _ hgd s x 224 ho a0.heap.size 22 i0 (.int .i64 0) 1 8 Tryz.underlying224 hi hz0 hzz1 hzz2 rfl (by decide) v _ _ hs (hown.alloc _) ⟨w.heap.size, 0, none⟩ 1 1 [.int .i64 k] hx rfl (by simpa using cells_new w [.int .i64 k] ty) (by simp [Value.oneCell']) (by simp [maxLen]; omega) (by omega) (by have := g0.size; simp; omega) ?_
  intro v' w1 hown' hgrow _
  obtain ⟨y, rfl⟩ := later_of (Grew.append (g0.alloc (.cells #[.int .i64 k] ty)) (hown.alloc (.cells #[.int .i64 k] ty)) (Nat.le_refl _) hgrow)
  refine h v' y ?_
  rw [← numC_snoc, List.length_append]
  exact hown'
def inT (x : Sp) (p : Pt) : Bool := decide (x.lo ≤ p.place) && decide (p.place ≤ x.hi)
/-- The places up to the k-th point. -/
def placesTo (l : List Pt) (x : Sp) (k : Nat) : List Int := x.lo :: x.hi :: ((l.take k).filter (inT x)).map Pt.place
theorem placesTo_all (l : List Pt) (x : Sp) : placesTo l x l.length = placesT l x := by
  unfold placesTo placesT
  rw [List.take_length]
  rfl
theorem placesTo_in {l : List Pt} {x : Sp} {k : Nat} (hk : k < l.length) (h : inT x l[k] = true) : placesTo l x (k + 1) = placesTo l x k ++ [l[k].place] := by
  unfold placesTo
  rw [List.take_succ_eq_append_getElem hk, List.filter_append, List.map_append]
  simp [h]
theorem placesTo_out {l : List Pt} {x : Sp} {k : Nat} (hk : k < l.length) (h : inT x l[k] = false) : placesTo l x (k + 1) = placesTo l x k := by
  unfold placesTo
  rw [List.take_succ_eq_append_getElem hk, List.filter_append, List.map_append]
  simp [h]
theorem placesTo_len (l : List Pt) (x : Sp) (k : Nat) : (placesTo l x k).length ≤ l.length + 2 := by
  unfold placesTo
  simp only [List.length_cons, List.length_map]
  have h1 := List.length_filter_le (inT x) (l.take k)
  have h2 := List.length_take_le k l
  have h3 : (l.take k).length ≤ l.length := by rw [List.length_take]; omega
  omega
/-- Where the search for the least and the greatest has come to. -/
structure Run2 (z : World) (q8 q9 : Nat) (lo hi : Int) (y : World) : Prop where
  grew : Grew z y
  b8 : BoxAt y q8 [.int .i64 ((mkW lo)).h, .int .u64 ((mkW lo)).l]
  b9 : BoxAt y q9 [.int .i64 ((mkW hi)).h, .int .u64 ((mkW hi)).l]
/-- A Look is the plain law's. -/
def LookOkR (f : FuncId) : Prop := ∀ (l : List Pt) (x : Sp) (ao : Option Addr) (cap : Nat) (w : World), SlAt w (.slice ao l.length cap) l.length (l.flatMap Pt.cells) → Calls Tryz.prog f #[.slice ao l.length cap, .agg #[.int .i64 x.lo, .int .i64 x.hi]] w fun e w' => e = .returned (.tuple #[.agg #[.int .i64 (lookR l x).s.lo, .int .i64 (lookR l x).s.hi], .int .i64 (lookR l x).e]) ∧ Grew w w'
theorem rLook_bad (l : List Pt) (x : Sp) (h : (tableB l && x.okB) = false) (ao : Option Addr) (cap : Nat) (w : World) (hs : SlAt w (.slice ao l.length cap) l.length (l.flatMap Pt.cells)) :
    Calls Tryz.prog 122 #[.slice ao l.length cap, .agg #[.int .i64 x.lo, .int .i64 x.hi]] w fun e w' => e = .returned (.tuple #[.agg #[.int .i64 (lookR l x).s.lo, .int .i64 (lookR l x).s.hi], .int .i64 (lookR l x).e]) ∧ Grew w w' := by
  have HR := Lib.hid (show errR 2 = lookR l x by unfold lookR; rw [h]; rfl)
  cases h1 : tableB l
  · have HB := Lib.hid (fun w' (g : Grew w w') => is_int (show codeB (tableB l) 2 = 2 by rw [h1]; rfl) (rTable_any l (.slice ao l.length cap) w' (hs.grew g)))
    clear h h1 hs
    go_enter Tryz.func122, Tryz.ntmps122
    go_wp2_with (first | (go_at_call 57; (with_reducible refine call_later (HB.out _ (by repeat (first | with_reducible exact Grew.refl _ | with_reducible apply Grew.alloc | with_reducible apply Grew.later | with_reducible apply Grew.drew | with_reducible apply Grew.store | with_reducible assumption))) ?_); intro u) | ((with_reducible refine wp_region_later ?_ ?_ ?_); (· kernel_rfl); (· kernel_rfl); (try simp only [List.append_eq, List.cons_append, List.nil_append]); (repeat (go_big_quiet_step ((first | (go_at_call 57; (with_reducible exact call_quiet (HB.out _ (by repeat (first | with_reducible exact Grew.refl _ | with_reducible apply Grew.alloc | with_reducible apply Grew.later | with_reducible apply Grew.drew | with_reducible apply Grew.store | with_reducible assumption))))))))); refine wpQuiet_nil ?_; rintro _ ⟨u, rfl⟩))
    refine bodyPost_ret (by (simp [results, Tryz.results122, go_sem] <;> rfl)) rfl ?_
    exact ⟨ret_err HR.out rfl, (by repeat (first | with_reducible exact Grew.refl _ | with_reducible apply Grew.alloc | with_reducible apply Grew.later | with_reducible apply Grew.drew | with_reducible apply Grew.store | with_reducible assumption))⟩
  · have HB := Lib.hid (fun w' (g : Grew w w') => is_int (show codeB (tableB l) 2 = 0 by rw [h1]; rfl) (rTable_any l (.slice ao l.length cap) w' (hs.grew g)))
    rw [h1, Bool.true_and] at h
    have HC := Lib.hid (fun w' => is_int (show codeB x.okB 2 = 2 by rw [h]; rfl) (rCheck_any x w'))
    clear h h1 hs
    go_enter Tryz.func122, Tryz.ntmps122
    go_wp2_with (first | (go_at_call 57; (with_reducible refine call_later (HB.out _ (by repeat (first | with_reducible exact Grew.refl _ | with_reducible apply Grew.alloc | with_reducible apply Grew.later | with_reducible apply Grew.drew | with_reducible apply Grew.store | with_reducible assumption))) ?_); intro u) | (go_at_call 98; (with_reducible refine call_later (HC.out _) ?_); intro u) | ((with_reducible refine wp_region_later ?_ ?_ ?_); (· kernel_rfl); (· kernel_rfl); (try simp only [List.append_eq, List.cons_append, List.nil_append]); (repeat (go_big_quiet_step ((first | (go_at_call 57; (with_reducible exact call_quiet (HB.out _ (by repeat (first | with_reducible exact Grew.refl _ | with_reducible apply Grew.alloc | with_reducible apply Grew.later | with_reducible apply Grew.drew | with_reducible apply Grew.store | with_reducible assumption))))) | (go_at_call 98; (with_reducible exact call_quiet (HC.out _))))))); refine wpQuiet_nil ?_; rintro _ ⟨u, rfl⟩))
    refine bodyPost_ret (by (simp [results, Tryz.results122, go_sem] <;> rfl)) rfl ?_
    exact ⟨ret_err HR.out rfl, (by repeat (first | with_reducible exact Grew.refl _ | with_reducible apply Grew.alloc | with_reducible apply Grew.later | with_reducible apply Grew.drew | with_reducible apply Grew.store | with_reducible assumption))⟩
abbrev lookW (w : World) (x : Sp) : World := (w.alloc (.cells #[.int .i64 x.lo, .int .i64 x.hi] 24)).alloc (.cells #[.int .i64 0, .int .i64 0] 24)
theorem rLook_ok (l : List Pt) (x : Sp) (h1 : tableB l = true) (h2 : x.okB = true) (ao : Option Addr) (cap : Nat) (w : World) (hs : SlAt w (.slice ao l.length cap) l.length (l.flatMap Pt.cells)) :
    Calls Tryz.prog 122 #[.slice ao l.length cap, .agg #[.int .i64 x.lo, .int .i64 x.hi]] w fun e w' => e = .returned (.tuple #[.agg #[.int .i64 (lookS l x).s.lo, .int .i64 (lookS l x).s.hi], .int .i64 (lookS l x).e]) ∧ Grew w w' := by
  have HB := Lib.hid (fun w' (g : Grew w w') => is_int (show codeB (tableB l) 2 = 0 by rw [h1]; rfl) (rTable_any l (.slice ao l.length cap) w' (hs.grew g)))
  have HC := Lib.hid (fun w' => is_int (show codeB x.okB 2 = 0 by rw [h2]; rfl) (rCheck_any x w'))
  have HLn := Lib.hid (fun up y w' (g : Grew w w') => rLine_any l up y h1 ao cap w' (hs.grew g))
  have Ht := Lib.hid h1
  obtain ⟨q1, q2, -, -⟩ := table_facts h1
  have hlen := placesTo_len l x
  have hm := hs.len_le
  unfold maxLen at hm
  obtain ⟨ao', cap', e1, -, hx⟩ := hs
  cases e1
  have HE := Lib.hid (SlAt.elem (f := Pt.cells) (c := 3) (fun _ => rfl) (by omega) hx)
  have Hlen := Lib.hid hlen
  clear hx h1 h2 hlen
  go_enter Tryz.func122, Tryz.ntmps122
  go_wp2_with (first | (go_at_call 57; (with_reducible refine call_later (HB.out _ (by repeat (first | with_reducible exact Grew.refl _ | with_reducible apply Grew.alloc | with_reducible apply Grew.later | with_reducible apply Grew.drew | with_reducible apply Grew.store | with_reducible assumption))) ?_); intro u) | (go_at_call 98; (with_reducible refine call_later (HC.out _) ?_); intro u) | ((with_reducible refine wp_region_later ?_ ?_ ?_); (· kernel_rfl); (· kernel_rfl); (try simp only [List.append_eq, List.cons_append, List.nil_append]); (repeat (go_big_quiet_step ((first | (go_at_call 57; (with_reducible exact call_quiet (HB.out _ (by repeat (first | with_reducible exact Grew.refl _ | with_reducible apply Grew.alloc | with_reducible apply Grew.later | with_reducible apply Grew.drew | with_reducible apply Grew.store | with_reducible assumption))))) | (go_at_call 98; (with_reducible exact call_quiet (HC.out _))))))); refine wpQuiet_nil ?_; rintro _ ⟨u, rfl⟩))
  have hbase : (lookW w x).heap.size ≤ u.world.heap.size := Grew.size (by repeat (first | with_reducible exact Grew.refl _ | with_reducible apply Grew.alloc | with_reducible apply Grew.later | with_reducible apply Grew.drew | with_reducible apply Grew.store | with_reducible assumption))
  go_loopw [6, 7] (fun v t wr => ∃ k : Nat, t = .int .i64 k ∧ k ≤ l.length ∧ wr.ownsRow (lookW w x).heap.size 22 1 v (placesTo l x k).length ((placesTo l x k).flatMap numC) ∧ Grew (lookW w x) wr) (fun _ t _ => l.length - (intOf t).toNat)
  case atStart =>
    refine ⟨0, by simp, by omega, ?_, (by repeat (first | with_reducible exact Grew.refl _ | with_reducible apply Grew.alloc | with_reducible apply Grew.later | with_reducible apply Grew.drew | with_reducible apply Grew.store | with_reducible assumption))⟩
    exact World.ownsRow_lit u.world #[.int .i64 x.lo, .int .i64 x.hi] 2 hbase (by simp [maxLen]) rfl
  case round =>
    obtain ⟨k, rfl, hk, hown, hg⟩ := hrel
    obtain ⟨z, rfl⟩ := later_of hg
    clear hg
    have Hown := Lib.hid hown
    clear hown
    by_cases hlt : k < l.length
    · obtain ⟨b1, o1, e1, i1, hd1, hd2⟩ := HE.out k hlt
      cases e1
      have hc0 := hd1 _ rfl
      have j1 : BlockIn w b1 := ⟨i1⟩
      clear hd1 hd2
      have Pin := Lib.hid (fun h => placesTo_in (x := x) hlt h)
      have Pout := Lib.hid (fun h => placesTo_out (x := x) hlt h)
      have hl2 : (placesTo l x k).length ≤ 1099511627776 := by have := Hlen.out k; omega
      generalize l[k] = p0 at *
      cases c1 : decide (x.lo ≤ p0.place)
      · have hn := Lib.hid (Pout.out (by unfold inT; rw [c1]; rfl))
        clear Pin Pout
        go_wp2_with (first | ((with_reducible refine wp_region_later ?_ ?_ ?_); (· kernel_rfl); (· kernel_rfl); (try simp only [List.append_eq, List.cons_append, List.nil_append]); (repeat (go_big_quiet_step (fail))); refine wpQuiet_nil ?_; rintro _ ⟨u, rfl⟩))
        go_roundw
        case rel => exact ⟨k + 1, by go_num, by omega, by rw [hn.out]; exact owns_grew Hown.out (by repeat (first | with_reducible exact Grew.refl _ | with_reducible apply Grew.alloc | with_reducible apply Grew.later | with_reducible apply Grew.drew | with_reducible apply Grew.store | with_reducible assumption)), (by repeat (first | with_reducible exact Grew.refl _ | with_reducible apply Grew.alloc | with_reducible apply Grew.later | with_reducible apply Grew.drew | with_reducible apply Grew.store | with_reducible assumption))⟩
        case measure => simp [intOf]; omega
      · cases c2 : decide (p0.place ≤ x.hi)
        · have hn := Lib.hid (Pout.out (by unfold inT; rw [c1, c2]; rfl))
          clear Pin Pout
          go_wp2_with (first | ((with_reducible refine wp_region_later ?_ ?_ ?_); (· kernel_rfl); (· kernel_rfl); (try simp only [List.append_eq, List.cons_append, List.nil_append]); (repeat (go_big_quiet_step (fail))); refine wpQuiet_nil ?_; rintro _ ⟨u, rfl⟩))
          go_roundw
          case rel => exact ⟨k + 1, by go_num, by omega, by rw [hn.out]; exact owns_grew Hown.out (by repeat (first | with_reducible exact Grew.refl _ | with_reducible apply Grew.alloc | with_reducible apply Grew.later | with_reducible apply Grew.drew | with_reducible apply Grew.store | with_reducible assumption)), (by repeat (first | with_reducible exact Grew.refl _ | with_reducible apply Grew.alloc | with_reducible apply Grew.later | with_reducible apply Grew.drew | with_reducible apply Grew.store | with_reducible assumption))⟩
          case measure => simp [intOf]; omega
        · have hn := Lib.hid (Pin.out (by unfold inT; rw [c1, c2]; rfl))
          clear Pin Pout
          go_wp2_with (first | (at_builtin; refine wpList_app_num (lookW w x) _ (by repeat (first | with_reducible exact Grew.refl _ | with_reducible apply Grew.alloc | with_reducible apply Grew.later | with_reducible apply Grew.drew | with_reducible apply Grew.store | with_reducible assumption)) rfl _ _ rfl _ _ (owns_grew Hown.out (by repeat (first | with_reducible exact Grew.refl _ | with_reducible apply Grew.alloc | with_reducible apply Grew.later | with_reducible apply Grew.drew | with_reducible apply Grew.store | with_reducible assumption))) rfl _ _ rfl hl2 ?_; intro v' y1 hown') | ((with_reducible refine wp_region_later ?_ ?_ ?_); (· kernel_rfl); (· kernel_rfl); (try simp only [List.append_eq, List.cons_append, List.nil_append]); (repeat (go_big_quiet_step (fail))); refine wpQuiet_nil ?_; rintro _ ⟨u, rfl⟩))
          have gy : Grew (lookW w x) y1.world := y1.grew
          go_roundw
          case rel => exact ⟨k + 1, by go_num, by omega, by rw [hn.out]; exact hown', gy⟩
          case measure => simp [intOf]; omega
    · obtain rfl : k = l.length := by omega
      have hown2 := Hown.out
      rw [placesTo_all] at hown2
      obtain ⟨aoP, capP, rfl, hcP, hmP⟩ := owns_cap hown2 (by simp [placesT])
      have hlenP : (placesT l x).length ≤ 66 := by have := Hlen.out l.length; rw [placesTo_all] at this; omega
      have hlen1 : 1 ≤ (placesT l x).length := by simp [placesT]
      obtain ⟨ao', cap', e1, -, hxP⟩ := SlAt.of_owns hown2
      cases e1
      have HEp := Lib.hid (SlAt.elem (f := numC) (c := 1) (fun _ => rfl) (by omega) hxP)
      have hfin := look_is l x
      have HL1 := Lib.hid (fun i (hi : i < (placesT l x).length) w' (g : Grew w w') => show Calls Tryz.prog 182 #[.slice ao l.length cap, .bool false, .int .i64 (placesT l x)[i]] w' (fun e w'' => e = .returned (.tuple #[.agg #[.int .i64 (mkW ((fun i => (lineR l false ((placesT l x).getD i 0)).1) i)).h, .int .u64 (mkW ((fun i => (lineR l false ((placesT l x).getD i 0)).1) i)).l], .agg #[.int .i64 (mkW (lineR l false (placesT l x)[i]).2).h, .int .u64 (mkW (lineR l false (placesT l x)[i]).2).l]]) ∧ Grew w' w'') from by
        have := HLn.out false (placesT l x)[i] w' g
        simpa [List.getElem?_eq_getElem hi] using this)
      have HL2 := Lib.hid (fun i (hi : i < (placesT l x).length) w' (g : Grew w w') => show Calls Tryz.prog 182 #[.slice ao l.length cap, .bool true, .int .i64 (placesT l x)[i]] w' (fun e w'' => e = .returned (.tuple #[.agg #[.int .i64 (mkW (lineR l true (placesT l x)[i]).1).h, .int .u64 (mkW (lineR l true (placesT l x)[i]).1).l], .agg #[.int .i64 (mkW ((fun i => (lineR l true ((placesT l x).getD i 0)).2) i)).h, .int .u64 (mkW ((fun i => (lineR l true ((placesT l x).getD i 0)).2) i)).l]]) ∧ Grew w' w'') from by
        have := HLn.out true (placesT l x)[i] w' g
        simpa [List.getElem?_eq_getElem hi] using this)
      have hD : ∀ i, R128 ((fun i => (lineR l false ((placesT l x).getD i 0)).1) i) := fun i => (lineR_r128 Ht.out).1
      have hA : ∀ i, R128 ((fun i => (lineR l true ((placesT l x).getD i 0)).2) i) := fun i => (lineR_r128 Ht.out).2
      clear hown2 Hown hxP Hlen HLn HB HC
      generalize (fun i => (lineR l false ((placesT l x).getD i 0)).1) = D at *
      generalize (fun i => (lineR l true ((placesT l x).getD i 0)).2) = A at *
      have HDr := Lib.hid (runLo_r128 hD)
      have HAr := Lib.hid (runHi_r128 hA)
      have HD := Lib.hid hD
      have HA := Lib.hid hA
      have Hfin := Lib.hid hfin
      clear hD hA hfin
      generalize hR : lookS l x = R at *
      generalize placesT l x = P at *
      go_wp2
      go_loopw [10] (fun t wr => ∃ (i : Nat) (y : World), y = wr ∧ t = .int .i64 i ∧ i ≤ P.length ∧ Hid (Run2 z.world z.world.heap.size (z.world.heap.size + 1) (runLo D i) (runHi A i) y)) (fun t _ => P.length - (intOf t).toNat)
      case atStart => exact ⟨0, _, rfl, rfl, by omega, Lib.hid ⟨(by repeat (first | with_reducible exact Grew.refl _ | with_reducible apply Grew.alloc | with_reducible apply Grew.later | with_reducible apply Grew.drew | with_reducible apply Grew.store | with_reducible assumption)), boxAt_two (by go_simp; rfl) (by go_simp) (by go_simp; rfl) (by go_simp), boxAt_two (by go_simp; rfl) (by go_simp) (by go_simp; rfl) (by go_simp)⟩⟩
      case round =>
        obtain ⟨i, y, rfl, rfl, hi, HS⟩ := hrel
        obtain ⟨y', hy⟩ := later_of HS.out.grew
        subst hy
        have b8 := HS.out.b8
        have b9 := HS.out.b9
        have n8 : NewFor z.world z.world.heap.size := inferInstance
        have n9 : NewFor z.world (z.world.heap.size + 1) := inferInstance
        have l9 : z.world.heap.size + 1 < y'.world.heap.size := World.block_lt_of_cell? _ _ (b9 0 _ rfl).1
        generalize h8 : z.world.heap.size = q8 at *
        generalize h9 : q8 + 1 = q9 at *
        have : Apart (q8) (q9) := ⟨by omega⟩
        have : Apart (q9) (q8) := ⟨by omega⟩
        by_cases hlt2 : i < P.length
        · obtain ⟨bP, oP, e1, iP, hp1, -⟩ := HEp.out i hlt2
          cases e1
          have pc0 := hp1 _ rfl
          rw [Nat.mul_one] at pc0
          clear hp1
          have jP : BlockIn z.world bP := ⟨by omega⟩
          have K1 := Lib.hid (fun w' g => HL1.out i hlt2 w' g)
          have K2 := Lib.hid (fun w' g => HL2.out i hlt2 w' g)
          have M1 := Lib.hid (fun w' => wLess_any (D i) (runLo D i) (HD.out i) (HDr.out i) w')
          have M2 := Lib.hid (fun w' => wLess_any (runHi A i) (A i) (HAr.out i) (HA.out i) w')
          have e1 : runLo D (i + 1) = if i = 0 then D i else imin (runLo D i) (D i) := rfl
          have e2 : runHi A (i + 1) = if i = 0 then A i else imax (runHi A i) (A i) := rfl
          generalize P[i] = pl at *
          generalize mkW (lineR l false pl).2 = x1 at *
          generalize mkW (lineR l true pl).1 = x2 at *
          by_cases hi0 : i = 0
          · have t0 : ((i : Int) == 0) = true := by simp [hi0]
            rw [if_pos hi0] at e1 e2
            have E1 := Lib.hid (congrArg mkW e1)
            have E2 := Lib.hid (congrArg mkW e2)
            clear e1 e2 hi0 M1 M2 HL1 HL2 HS HD HA HDr HAr Hfin
            generalize mkW (D i) = mD at *
            generalize mkW (A i) = mA at *
            generalize mkW (runLo D i) = mL at *
            generalize mkW (runHi A i) = mH at *
            have b8_0 := (b8 0 _ rfl).1
            have b8f0 := (b8 0 _ rfl).2
            have b8i0 : HasCell (y'.world) (q8) 0 := ⟨_, b8_0⟩
            have b8_1 := (b8 1 _ rfl).1
            have b8f1 := (b8 1 _ rfl).2
            have b8i1 : HasCell (y'.world) (q8) 1 := ⟨_, b8_1⟩
            have b8b : BlockIn (y'.world) (q8) := BlockIn.of_cell b8_0
            clear b8
            have b9_0 := (b9 0 _ rfl).1
            have b9f0 := (b9 0 _ rfl).2
            have b9i0 : HasCell (y'.world) (q9) 0 := ⟨_, b9_0⟩
            have b9_1 := (b9 1 _ rfl).1
            have b9f1 := (b9 1 _ rfl).2
            have b9i1 : HasCell (y'.world) (q9) 1 := ⟨_, b9_1⟩
            have b9b : BlockIn (y'.world) (q9) := BlockIn.of_cell b9_0
            clear b9
            go_wp2_with (first | (go_at_call 182; (with_reducible refine call_later (K1.out _ ?_) ?_); (· exact (by repeat (first | with_reducible exact Grew.refl _ | with_reducible apply Grew.alloc | with_reducible apply Grew.later | with_reducible apply Grew.drew | with_reducible apply Grew.store | with_reducible assumption))); intro v1) | (go_at_call 182; (with_reducible refine call_later (K2.out _ ?_) ?_); (· exact (by repeat (first | with_reducible exact Grew.refl _ | with_reducible apply Grew.alloc | with_reducible apply Grew.later | with_reducible apply Grew.drew | with_reducible apply Grew.store | with_reducible assumption))); intro v2))
            go_roundw
            case rel => exact ⟨i + 1, _, rfl, by go_num, by omega, Lib.hid ⟨(by repeat (first | with_reducible exact Grew.refl _ | with_reducible apply Grew.alloc | with_reducible apply Grew.later | with_reducible apply Grew.drew | with_reducible apply Grew.store | with_reducible assumption)), by rw [E1.out]; exact boxAt_two (by go_simp) (by go_simp) (by go_simp) (by go_simp), by rw [E2.out]; exact boxAt_two (by go_simp) (by go_simp) (by go_simp) (by go_simp)⟩⟩
            case measure => simp [intOf]; omega
          · have t0 : ((i : Int) == 0) = false := by simp [hi0]
            rw [if_neg hi0] at e1 e2
            cases d1 : decide (D i < runLo D i)
            all_goals
              cases d2 : decide (runHi A i < A i)
              all_goals
                have E1 := Lib.hid (congrArg mkW e1)
                have E2 := Lib.hid (congrArg mkW e2)
                unfold imin at E1
                unfold imax at E2
                first | rw [if_pos (of_decide_eq_true d1)] at E1 | rw [if_neg (of_decide_eq_false d1)] at E1
                first | rw [if_pos (of_decide_eq_true d2)] at E2 | rw [if_neg (of_decide_eq_false d2)] at E2
                rw [d1] at M1
                rw [d2] at M2
                clear e1 e2 hi0 d1 d2 HL1 HL2 HS HD HA HDr HAr Hfin
                generalize mkW (D i) = mD at *
                generalize mkW (A i) = mA at *
                generalize mkW (runLo D i) = mL at *
                generalize mkW (runHi A i) = mH at *
                have b8_0 := (b8 0 _ rfl).1
                have b8f0 := (b8 0 _ rfl).2
                have b8i0 : HasCell (y'.world) (q8) 0 := ⟨_, b8_0⟩
                have b8_1 := (b8 1 _ rfl).1
                have b8f1 := (b8 1 _ rfl).2
                have b8i1 : HasCell (y'.world) (q8) 1 := ⟨_, b8_1⟩
                have b8b : BlockIn (y'.world) (q8) := BlockIn.of_cell b8_0
                clear b8
                have b9_0 := (b9 0 _ rfl).1
                have b9f0 := (b9 0 _ rfl).2
                have b9i0 : HasCell (y'.world) (q9) 0 := ⟨_, b9_0⟩
                have b9_1 := (b9 1 _ rfl).1
                have b9f1 := (b9 1 _ rfl).2
                have b9i1 : HasCell (y'.world) (q9) 1 := ⟨_, b9_1⟩
                have b9b : BlockIn (y'.world) (q9) := BlockIn.of_cell b9_0
                clear b9
                go_wp2_with (first | (go_at_call 182; (with_reducible refine call_later (K1.out _ ?_) ?_); (· exact (by repeat (first | with_reducible exact Grew.refl _ | with_reducible apply Grew.alloc | with_reducible apply Grew.later | with_reducible apply Grew.drew | with_reducible apply Grew.store | with_reducible assumption))); intro v1) | (go_at_call 182; (with_reducible refine call_later (K2.out _ ?_) ?_); (· exact (by repeat (first | with_reducible exact Grew.refl _ | with_reducible apply Grew.alloc | with_reducible apply Grew.later | with_reducible apply Grew.drew | with_reducible apply Grew.store | with_reducible assumption))); intro v2) | (go_at_call 166; (with_reducible refine call_later (M1.out _) ?_); intro v3) | (go_at_call 166; (with_reducible refine call_later (M2.out _) ?_); intro v4))
                go_roundw
                case rel => exact ⟨i + 1, _, rfl, by go_num, by omega, Lib.hid ⟨(by repeat (first | with_reducible exact Grew.refl _ | with_reducible apply Grew.alloc | with_reducible apply Grew.later | with_reducible apply Grew.drew | with_reducible apply Grew.store | with_reducible assumption)), by rw [E1.out]; exact boxAt_two (by go_simp) (by go_simp) (by go_simp) (by go_simp), by rw [E2.out]; exact boxAt_two (by go_simp) (by go_simp) (by go_simp) (by go_simp)⟩⟩
                case measure => simp [intOf]; omega
        · obtain rfl : i = P.length := by omega
          have HO := Lib.hid (fun w' => rOut_any (runLo D P.length) (runHi A P.length) (HDr.out _) (HAr.out _) w')
          rw [Hfin.out] at HO
          clear HL1 HL2 HS HD HA HDr HAr Hfin
          generalize mkW (runLo D P.length) = mL at *
          generalize mkW (runHi A P.length) = mH at *
          have b8_0 := (b8 0 _ rfl).1
          have b8f0 := (b8 0 _ rfl).2
          have b8i0 : HasCell (y'.world) (q8) 0 := ⟨_, b8_0⟩
          have b8_1 := (b8 1 _ rfl).1
          have b8f1 := (b8 1 _ rfl).2
          have b8i1 : HasCell (y'.world) (q8) 1 := ⟨_, b8_1⟩
          have b8b : BlockIn (y'.world) (q8) := BlockIn.of_cell b8_0
          clear b8
          have b9_0 := (b9 0 _ rfl).1
          have b9f0 := (b9 0 _ rfl).2
          have b9i0 : HasCell (y'.world) (q9) 0 := ⟨_, b9_0⟩
          have b9_1 := (b9 1 _ rfl).1
          have b9f1 := (b9 1 _ rfl).2
          have b9i1 : HasCell (y'.world) (q9) 1 := ⟨_, b9_1⟩
          have b9b : BlockIn (y'.world) (q9) := BlockIn.of_cell b9_0
          clear b9
          go_wp2_with (first | (go_at_call 145; (with_reducible refine call_later (HO.out _) ?_); intro u) | ((with_reducible refine wp_region_later ?_ ?_ ?_); (· kernel_rfl); (· kernel_rfl); (try simp only [List.append_eq, List.cons_append, List.nil_append]); (repeat (go_big_quiet_step ((first | (go_at_call 145; (with_reducible exact call_quiet (HO.out _))))))); refine wpQuiet_nil ?_; rintro _ ⟨u, rfl⟩))
          refine bodyPost_ret (by (simp [results, Tryz.results122, go_sem] <;> rfl)) rfl ?_
          exact ⟨by subst hR; rfl, (by repeat (first | with_reducible exact Grew.refl _ | with_reducible apply Grew.alloc | with_reducible apply Grew.later | with_reducible apply Grew.drew | with_reducible apply Grew.store | with_reducible assumption))⟩
theorem rLook_any : LookOkR 122 := fun l x ao cap w hs => by
  cases h : (tableB l && x.okB)
  · exact rLook_bad l x h ao cap w hs
  · rw [show lookR l x = lookS l x by unfold lookR; rw [h]; rfl]
    rw [Bool.and_eq_true] at h
    exact rLook_ok l x h.1 h.2 ao cap w hs
end Go.Proofs.YtnedbhdokljpcaaGreat
