/-
  Contracts of span.value and of the bounds that Look hands to it.
  Contract of Look's closure: two appends to two rows whose slices lie in boxes.
  Contracts of ullageref01's Floor, Ceil, bound, line.
  The least and the greatest of a table's lines, one after another: plain law.
  Contract of ullageref01.Look.
  Contract of span.Look.
-/
import Derived.Test.YtkeifgcncmilmaaGreatLookLawS
import Derived.Test.YtkeifgcncmilmaaGreatFoldsS
import Derived.Test.YtkeifgcncmilmaaGreatRegTailS
import Derived.Test.YtkeifgcncmilmaaGreatRefDivsS
import Derived.Test.YtkeifgcncmilmaaGreatRowS
import Derived.Maps.AppendAt
import Derived.Test.YtkeifgcncmilmaaGreatLookCS
namespace Go.Proofs.YtkeifgcncmilmaaGreat
open Go.RowKit Go.Shelf
set_option maxRecDepth 100000
set_option maxHeartbeats 8000000
theorem table_facts {l : List Pt} (h : tableB l = true) : 1 ≤ l.length ∧ l.length ≤ 64 ∧ (∀ k (hk : k < l.length), l[k].okB = true) ∧ ∀ k (hk : k + 1 < l.length), l[k].place < l[k + 1].place := by
  unfold tableB at h
  simp only [Bool.and_eq_true, decide_eq_true_eq] at h
  obtain ⟨⟨h1, h2⟩, h3⟩ := h
  have key : ∀ k (hk : k < l.length), ptAt l k = true := fun k hk => List.all_eq_true.1 h3 k (by simpa using hk)
  refine ⟨h1, h2, fun k hk => ?_, fun k hk => ?_⟩
  · have := key k hk
    cases k with
    | zero => rwa [ptAt_zero l hk] at this
    | succ k => rw [ptAt_succ l k hk] at this; simp only [Bool.and_eq_true] at this; exact this.1
  · have := key (k + 1) hk
    rw [ptAt_succ l k hk] at this
    simp only [Bool.and_eq_true, decide_eq_true_eq] at this
    exact this.2
abbrev zPt : Pt := ⟨0, ⟨0, 0⟩⟩
theorem getD_is {l : List Pt} {k : Nat} (hk : k < l.length) : l.getD k zPt = l[k] := by simp [List.getElem?_eq_getElem hk]
/-- The lines of a table as tank-side numbers. -/
def lineB (l : List Pt) (up : Bool) (x : Int) : Big × Big :=
  if idxT x l = 0 then (ofB (bnd up (l.getD 0 zPt).value), ofB (bnd up (l.getD 0 zPt).value))
  else if idxT x l = l.length then (ofB (bnd up (l.getD (l.length - 1) zPt).value), ofB (bnd up (l.getD (l.length - 1) zPt).value))
  else if (l.getD (idxT x l) zPt).place = x then (ofB (bnd up (l.getD (idxT x l) zPt).value), ofB (bnd up (l.getD (idxT x l) zPt).value))
  else (segD up (l.getD (idxT x l - 1) zPt) (l.getD (idxT x l) zPt) x, segU up (l.getD (idxT x l - 1) zPt) (l.getD (idxT x l) zPt) x)
section
variable {l : List Pt} {up : Bool} {x : Int}
theorem bnd_i64 {p : Pt} (h : p.okB = true) (up : Bool) : I64 (bnd up p.value) := by
  have := (pt_bd h up).2
  unfold I64
  omega
theorem lineB_facts (ht : tableB l = true) : (lineB l up x).1.ok ∧ (lineB l up x).2.ok ∧ (lineB l up x).1.val = (lineR l up x).1 ∧ (lineB l up x).2.val = (lineR l up x).2 := by
  obtain ⟨h1, h2, h3, h4⟩ := table_facts ht
  have one : ∀ k (hk : k < l.length), (ofB (bnd up (l.getD k zPt).value)).ok := fun k hk => ofB_ok _ (by rw [getD_is hk]; exact bnd_i64 (h3 k hk) up)
  unfold lineB lineR
  by_cases c0 : idxT x l = 0
  · rw [if_pos c0, if_pos c0]
    exact ⟨one 0 (by omega), one 0 (by omega), ofB_val _, ofB_val _⟩
  rw [if_neg c0, if_neg c0]
  by_cases c1 : idxT x l = l.length
  · rw [if_pos c1, if_pos c1]
    exact ⟨one _ (by omega), one _ (by omega), ofB_val _, ofB_val _⟩
  rw [if_neg c1, if_neg c1]
  have hle := idxT_le x l
  have hlt : idxT x l < l.length := by omega
  have hp : (l.getD (idxT x l - 1) zPt).place < x := by rw [getD_is (show idxT x l - 1 < l.length by omega)]; exact idxT_below _ _ (by omega)
  have hq : x ≤ (l.getD (idxT x l) zPt).place := by rw [getD_is hlt]; exact idxT_above hlt
  by_cases c2 : (l.getD (idxT x l) zPt).place = x
  · rw [if_pos c2]
    refine ⟨one _ hlt, one _ hlt, ?_, ?_⟩
    · rw [ofB_val]
      have := (seg_end (up := up) (p := l.getD (idxT x l - 1) zPt) (q := l.getD (idxT x l) zPt) (by omega)).1
      simp only [c2] at this ⊢
      exact this.symm
    · rw [ofB_val]
      have := (seg_end (up := up) (p := l.getD (idxT x l - 1) zPt) (q := l.getD (idxT x l) zPt) (by omega)).2
      simp only [c2] at this ⊢
      exact this.symm
  · rw [if_neg c2]
    have hf := seg_facts (up := up) (p := l.getD (idxT x l - 1) zPt) (q := l.getD (idxT x l) zPt) (x := x) (by rw [getD_is (show idxT x l - 1 < l.length by omega)]; exact h3 _ _) (by rw [getD_is hlt]; exact h3 _ _) hp hq
    exact ⟨hf.2.2.2.1, hf.2.2.2.2.1, segD_val, segU_val⟩
end
theorem bndLo_any (v : Sp) (w : World) : Calls Tryz.prog 221 #[.agg #[.int .i64 v.lo, .int .i64 v.hi]] w fun e w' => e = .returned (.int .i64 (bnd false v)) ∧ Grew w w' := by
  go_enter Tryz.func221, Tryz.ntmps221
  go_wp2
  go_ret
  exact ⟨rfl, gw⟩
theorem bndHi_any (v : Sp) (w : World) : Calls Tryz.prog 222 #[.agg #[.int .i64 v.lo, .int .i64 v.hi]] w fun e w' => e = .returned (.int .i64 (bnd true v)) ∧ Grew w w' := by
  go_enter Tryz.func222, Tryz.ntmps222
  go_wp2
  go_ret
  exact ⟨rfl, gw⟩
theorem wrapI64 (x : Int) (h1 : -9223372036854775808 ≤ x) (h2 : x ≤ 9223372036854775807) : IntKind.i64.wrap x = x := by
  simp [IntKind.wrap, IntKind.bits, IntKind.signed]
  omega
theorem ofB_pos {d : Int} (h : 0 < d) (h2 : d < 18446744073709551616) : ofB d = ⟨false, 0, d⟩ := by
  unfold ofB mkBig
  congr 1
  · simp
    omega
  · omega
  · omega
theorem value_any (G : Nat) (eg : ∀ args w, (callFunc G args).run Tryz.prog w = .ok (.enter G args) w) (up : Bool) (HG : ∀ v w, Calls Tryz.prog G #[.agg #[.int .i64 v.lo, .int .i64 v.hi]] w fun e w' => e = .returned (.int .i64 (bnd up v)) ∧ Grew w w') (l : List Pt) (x : Int) (ht : tableB l = true) (ao : Option Addr) (cap : Nat) (w : World) (hs : SlAt w (.slice ao l.length cap) l.length (l.flatMap Pt.cells)) :
    Calls Tryz.prog 220 #[.slice ao l.length cap, .int .i64 x, .func (.func G) #[] #[]] w fun e w' => e = .returned (.tuple #[.agg #[.bool ((lineB l up x).1).neg, .int .u64 ((lineB l up x).1).hi, .int .u64 ((lineB l up x).1).lo], .agg #[.bool ((lineB l up x).2).neg, .int .u64 ((lineB l up x).2).hi, .int .u64 ((lineB l up x).2).lo]]) ∧ Grew w w' := by
  have hm := hs.len_le
  unfold maxLen at hm
  obtain ⟨ao', cap', e1, -, hx⟩ := hs
  cases e1
  have HE := Lib.hid (SlAt.elem (f := Pt.cells) (c := 3) (fun _ => rfl) (by omega) hx)
  clear hx
  obtain ⟨h1, h2, h3, h4⟩ := table_facts ht
  have H3 := Lib.hid h3
  have HGu := Lib.hid HG
  clear HG
  clear ht h3 h4
  generalize hL : lineB l up x = L at *
  have HL := Lib.hid hL
  clear hL
  go_enter Tryz.func220, Tryz.ntmps220
  go_wp2
  go_loopw [8] (fun t wr => ∃ i : Nat, t = .int .i64 i ∧ i ≤ l.length ∧ (∀ j (hj : j < l.length), j < i → l[j].place < x) ∧ Grew ((w.alloc (.cells #[.bool false, .int .u64 0, .int .u64 0] 145)).alloc (.cells #[.bool false, .int .u64 0, .int .u64 0] 145)) wr) (fun t _ => l.length - (intOf t).toNat)
  case atStart => exact ⟨0, rfl, by omega, fun _ _ h => by omega, gw⟩
  case round =>
    obtain ⟨i, rfl, hi, hbe, hg⟩ := hrel
    obtain ⟨z, rfl⟩ := later_of hg
    clear hg
    have Hbe := Lib.hid hbe
    clear hbe
    by_cases hlt : i < l.length
    · obtain ⟨b1, o1, e1, i1, hd1, hd2⟩ := HE.out i hlt
      have hc0 := hd1 _ rfl
      have hc1 := hd2 1 _ rfl
      have hc2 := hd2 2 _ rfl
      clear hd1 hd2
      cases e1
      have j1 : BlockIn w b1 := ⟨i1⟩
      have Hok := Lib.hid (H3.out i hlt)
      have Hd : Hid (l.getD i zPt = l[i]) := Lib.hid (getD_is hlt)
      by_cases hp : l[i].place < x
      · have Hn := Lib.hid (fun j (hj : j < l.length) (hji : j < i + 1) => show l[j].place < x by
          by_cases e : j = i
          · subst e; exact hp
          · exact Hbe.out j hj (by omega))
        generalize l[i] = q at *
        go_wp2
        go_roundw
        case rel => exact ⟨i + 1, by go_num, by omega, Hn.out, gw⟩
        case measure => simp [intOf]; omega
      · have Hidx := Lib.hid (show idxT x l = i from idxT_is (by omega) Hbe.out (fun _ => by omega))
        by_cases h0 : i = 0
        · have t0 : ((i : Int) == 0) = true := by simp [h0]
          have Hv := Lib.hid (show (ofB (bnd up l[i].value), ofB (bnd up l[i].value)) = L by rw [← HL.out]; unfold lineB; rw [Hidx.out, if_pos h0, ← Hd.out, h0])
          have HI := Lib.hid (bnd_i64 Hok.out up)
          generalize l[i] = q at *
          clear h0
          have HC := Lib.hid (fun w => HGu.out q.value w)
          have HO := Lib.hid (fun w => big_of_any (bnd up q.value) HI.out w)
          go_wp2_with (first | (go_at_fn G; refine call_later (HC.out _) ?_; intro u1) | (go_at_call 79; (with_reducible refine call_later (HO.out _) ?_); intro u2))
          go_region
          all_goals go_wp2
          all_goals
            refine bodyPost_ret (by (simp [results, Tryz.results220, go_sem] <;> rfl)) rfl ?_
            exact ⟨by rw [← Hv.out], gw⟩
        · have t0 : ((i : Int) == 0) = false := by simp [h0]
          have t1 : ((i : Int) == l.length) = false := by rw [beq_eq_false_iff_ne]; omega
          by_cases hx : l[i].place = x
          · have t2 : (l[i].place == x) = true := by simp [hx]
            have Hv := Lib.hid (show (ofB (bnd up l[i].value), ofB (bnd up l[i].value)) = L by rw [← HL.out]; unfold lineB; rw [Hidx.out, if_neg h0, if_neg (by omega), Hd.out, if_pos hx])
            have HI := Lib.hid (bnd_i64 Hok.out up)
            have hmin : i ≤ l.length - 1 := by omega
            generalize l[i] = q at *
            clear h0 hx
            have HC := Lib.hid (fun w => HGu.out q.value w)
            have HO := Lib.hid (fun w => big_of_any (bnd up q.value) HI.out w)
            go_wp2_with (first | (go_at_fn G; refine call_later (HC.out _) ?_; intro u1) | (go_at_call 79; (with_reducible refine call_later (HO.out _) ?_); intro u2))
            go_region
            all_goals go_wp2
            all_goals
              refine bodyPost_ret (by (simp [results, Tryz.results220, go_sem] <;> rfl)) rfl ?_
              exact ⟨by rw [← Hv.out], gw⟩
          · have t2 : (l[i].place == x) = false := by simp [hx]
            obtain ⟨b2, o2, e2, -, he1, he2⟩ := HE.out (i - 1) (by omega)
            cases e2
            have kc0 := he1 _ rfl
            have kc1 := he2 1 _ rfl
            have kc2 := he2 2 _ rfl
            clear he1 he2
            have Hv := Lib.hid (show (segD up l[i - 1] l[i] x, segU up l[i - 1] l[i] x) = L by rw [← HL.out]; unfold lineB; rw [Hidx.out, if_neg h0, if_neg (by omega), Hd.out, if_neg hx, getD_is (show i - 1 < l.length by omega)])
            have Hok1 := Lib.hid (H3.out (i - 1) (by omega))
            have hb := Hbe.out (i - 1) (by omega) (by omega)
            have p1 := pt_bd Hok1.out up
            have q1 := pt_bd Hok.out up
            have Hf := Lib.hid (seg_facts (up := up) Hok1.out Hok.out hb (by omega))
            have him : ((i : Int) - 1) = ((i - 1 : Nat) : Int) := by omega
            have hlt1 : i - 1 < l.length := by omega
            generalize l[i] = qA at *
            generalize l[i - 1] = pA at *
            generalize i - 1 = i' at *
            obtain ⟨fT, fD, fU, fE, fH, sD, sU, fA⟩ := Hf.out
            have qp := ofB_pos (d := qA.place - pA.place) (by omega) (by omega)
            have HT := Lib.hid (fun w => big_times_any (bnd up qA.value - bnd up pA.value) (x - pA.place) (by unfold I64; omega) (by unfold I64; omega) w)
            have HO := Lib.hid (fun w => big_of_any (qA.place - pA.place) (by unfold I64; omega) w)
            have HA := Lib.hid (fun w => big_of_any (bnd up pA.value) (by unfold I64; omega) w)
            have HD := Lib.hid (fun w => show Calls Tryz.prog 196 #[.agg #[.bool ((timesB (bnd up qA.value - bnd up pA.value) (x - pA.place))).neg, .int .u64 ((timesB (bnd up qA.value - bnd up pA.value) (x - pA.place))).hi, .int .u64 ((timesB (bnd up qA.value - bnd up pA.value) (x - pA.place))).lo], .agg #[.bool ((ofB (qA.place - pA.place))).neg, .int .u64 ((ofB (qA.place - pA.place))).hi, .int .u64 ((ofB (qA.place - pA.place))).lo]] w fun e w' => e = .returned (.tuple #[.agg #[.bool ((divDown (timesB (bnd up qA.value - bnd up pA.value) (x - pA.place)) (qA.place - pA.place))).neg, .int .u64 ((divDown (timesB (bnd up qA.value - bnd up pA.value) (x - pA.place)) (qA.place - pA.place))).hi, .int .u64 ((divDown (timesB (bnd up qA.value - bnd up pA.value) (x - pA.place)) (qA.place - pA.place))).lo], .agg #[.bool ((divUp (timesB (bnd up qA.value - bnd up pA.value) (x - pA.place)) (qA.place - pA.place))).neg, .int .u64 ((divUp (timesB (bnd up qA.value - bnd up pA.value) (x - pA.place)) (qA.place - pA.place))).hi, .int .u64 ((divUp (timesB (bnd up qA.value - bnd up pA.value) (x - pA.place)) (qA.place - pA.place))).lo]]) ∧ Grew w w' from by
              rw [qp]
              exact divide_any (timesB (bnd up qA.value - bnd up pA.value) (x - pA.place)) ⟨false, 0, qA.place - pA.place⟩ fT (big_ok0 _ (by omega) (by omega)) rfl (by show (1 : Int) ≤ qA.place - pA.place; omega) rfl w)
            have HP1 := Lib.hid (fun w => show Calls Tryz.prog 78 #[.agg #[.bool ((ofB (bnd up pA.value))).neg, .int .u64 ((ofB (bnd up pA.value))).hi, .int .u64 ((ofB (bnd up pA.value))).lo], .agg #[.bool ((divDown (timesB (bnd up qA.value - bnd up pA.value) (x - pA.place)) (qA.place - pA.place))).neg, .int .u64 ((divDown (timesB (bnd up qA.value - bnd up pA.value) (x - pA.place)) (qA.place - pA.place))).hi, .int .u64 ((divDown (timesB (bnd up qA.value - bnd up pA.value) (x - pA.place)) (qA.place - pA.place))).lo]] w fun e w' => e = .returned (.agg #[.bool ((segD up pA qA x)).neg, .int .u64 ((segD up pA qA x)).hi, .int .u64 ((segD up pA qA x)).lo]) ∧ Grew w w' from plus_any _ _ w fA fD sD)
            have HP2 := Lib.hid (fun w => show Calls Tryz.prog 78 #[.agg #[.bool ((ofB (bnd up pA.value))).neg, .int .u64 ((ofB (bnd up pA.value))).hi, .int .u64 ((ofB (bnd up pA.value))).lo], .agg #[.bool ((divUp (timesB (bnd up qA.value - bnd up pA.value) (x - pA.place)) (qA.place - pA.place))).neg, .int .u64 ((divUp (timesB (bnd up qA.value - bnd up pA.value) (x - pA.place)) (qA.place - pA.place))).hi, .int .u64 ((divUp (timesB (bnd up qA.value - bnd up pA.value) (x - pA.place)) (qA.place - pA.place))).lo]] w fun e w' => e = .returned (.agg #[.bool ((segU up pA qA x)).neg, .int .u64 ((segU up pA qA x)).hi, .int .u64 ((segU up pA qA x)).lo]) ∧ Grew w w' from plus_any _ _ w fA fU sU)
            clear fT fD fU fE fH sD sU fA Hf qp H3 HE Hbe Hok Hok1 Hd HL Hidx h0 hx
            obtain ⟨⟨a5, a6⟩, a1, a2⟩ := p1
            obtain ⟨⟨a7, a8⟩, a3, a4⟩ := q1
            generalize segD up pA qA x = D2 at *
            generalize segU up pA qA x = U2 at *
            generalize divDown (timesB (bnd up qA.value - bnd up pA.value) (x - pA.place)) (qA.place - pA.place) = D1 at *
            generalize divUp (timesB (bnd up qA.value - bnd up pA.value) (x - pA.place)) (qA.place - pA.place) = U1 at *
            generalize timesB (bnd up qA.value - bnd up pA.value) (x - pA.place) = T1 at *
            generalize ofB (qA.place - pA.place) = O1 at *
            generalize ofB (bnd up pA.value) = A1 at *
            have HGp := Lib.hid (fun w => HGu.out pA.value w)
            have HGq := Lib.hid (fun w => HGu.out qA.value w)
            generalize bnd up pA.value = vp at *
            generalize bnd up qA.value = vq at *
            have hw3 : IntKind.i64.wrap (vq - vp) = vq - vp := wrapI64 _ (by omega) (by omega)
            have hw4 : IntKind.i64.wrap (x - pA.place) = x - pA.place := wrapI64 _ (by omega) (by omega)
            have hw5 : IntKind.i64.wrap (qA.place - pA.place) = qA.place - pA.place := wrapI64 _ (by omega) (by omega)
            have hw : IntKind.i64.wrap ((i : Int) - 1) = (i' : Int) := by rw [him]; exact wrapI64 _ (by omega) (by omega)
            have k1 : (0 : Int) ≤ (i' : Int) := by omega
            have k2 : (i' : Int) < (l.length : Int) := by omega
            have k3 : (0 : Int) ≤ (i : Int) := by omega
            have k4 : (i : Int) < (l.length : Int) := by omega
            go_wp2
            go_region
            all_goals go_wp2
            all_goals
              refine wp_region_grown 10 [] [3, 7] [] (fun W0 => []) [.int .i64 vp, .int .i64 vq] [] (by rfl) (fun _ x hx => absurd hx (List.not_mem_nil)) (by kernel_rfl) (by kernel_rfl) (by kernel_rfl) ?_
              intro p
              apply Exists.intro
              apply And.intro
              iterate 3 (apply lexg_pure (by kernel_rfl); (· intro u; unfold opPure; go_simp; rfl))
              apply lexg_call 0 (by kernel_rfl) (by rfl) (by decide)
              · intro u hF; clear hF; unfold opCall; go_simp; exact HGp.out _
              iterate 3 (apply lexg_pure (by kernel_rfl); (· intro u; unfold opPure; go_simp; rfl))
              apply lexg_call 1 (by kernel_rfl) (by rfl) (by decide)
              · intro u hF; clear hF; unfold opCall; go_simp; exact HGq.out _
              iterate 2 (apply lexg_pure (by kernel_rfl); (· intro u; unfold opPure; go_simp; rfl))
              apply lexg_end
              rotate_left
              · rfl
              intro u hR hD
              clear hR hD
              refine tail_end ?_
              go_simp
              go_wp2
              refine wp_region_grown 18 [] [7, 13, 14] [17] (fun W0 => []) [.agg #[.bool T1.neg, .int .u64 T1.hi, .int .u64 T1.lo], .agg #[.bool O1.neg, .int .u64 O1.hi, .int .u64 O1.lo], .tuple #[.agg #[.bool D1.neg, .int .u64 D1.hi, .int .u64 D1.lo], .agg #[.bool U1.neg, .int .u64 U1.hi, .int .u64 U1.lo]]] [18, 19] (by rfl) (fun _ x hx => absurd hx (List.not_mem_nil)) (by kernel_rfl) (by kernel_rfl) (by kernel_rfl) ?_
              intro p
              apply Exists.intro
              apply And.intro
              iterate 7 (apply lexg_pure (by kernel_rfl); (· intro u; unfold opPure; go_simp; rfl))
              apply lexg_call 0 (by kernel_rfl) (by rfl) (by decide)
              · intro u hF; clear hF; unfold opCall; go_simp; exact HT.out _
              iterate 5 (apply lexg_pure (by kernel_rfl); (· intro u; unfold opPure; go_simp; rfl))
              apply lexg_call 1 (by kernel_rfl) (by rfl) (by decide)
              · intro u hF; clear hF; unfold opCall; go_simp; exact HO.out _
              apply lexg_call 2 (by kernel_rfl) (by rfl) (by decide)
              · intro u hF; clear hF; unfold opCall; go_simp; exact HD.out _
              iterate 2 (apply lexg_pure (by kernel_rfl); (· intro u; unfold opPure; go_simp; rfl))
              apply lexg_free (by kernel_rfl)
              · intro u; unfold opPure; go_simp; rfl
              apply lexg_end
              rotate_left
              · rfl
              intro u hR hD
              clear hR hD
              refine tail_store (by rfl) ?_; unfold opStore; go_simp
              refine tail_store (by rfl) ?_; unfold opStore; go_simp
              refine tail_end ?_
              go_simp
              go_wp2
              refine wp_region_grown 8 [] [1, 3, 5, 7] [] (fun W0 => []) [.agg #[.bool A1.neg, .int .u64 A1.hi, .int .u64 A1.lo], .agg #[.bool D2.neg, .int .u64 D2.hi, .int .u64 D2.lo], .agg #[.bool A1.neg, .int .u64 A1.hi, .int .u64 A1.lo], .agg #[.bool U2.neg, .int .u64 U2.hi, .int .u64 U2.lo]] [8, 9] (by rfl) (fun _ x hx => absurd hx (List.not_mem_nil)) (by kernel_rfl) (by kernel_rfl) (by kernel_rfl) ?_
              intro p
              apply Exists.intro
              apply And.intro
              apply lexg_pure (by kernel_rfl)
              · intro u; unfold opPure; go_simp; rfl
              apply lexg_call 0 (by kernel_rfl) (by rfl) (by decide)
              · intro u hF; clear hF; unfold opCall; go_simp; exact HA.out _
              apply lexg_pure (by kernel_rfl)
              · intro u; unfold opPure; go_simp; rfl
              apply lexg_call 1 (by kernel_rfl) (by rfl) (by decide)
              · intro u hF; clear hF; unfold opCall; go_simp; exact HP1.out _
              apply lexg_pure (by kernel_rfl)
              · intro u; unfold opPure; go_simp; rfl
              apply lexg_call 2 (by kernel_rfl) (by rfl) (by decide)
              · intro u hF; clear hF; unfold opCall; go_simp; exact HA.out _
              apply lexg_pure (by kernel_rfl)
              · intro u; unfold opPure; go_simp; rfl
              apply lexg_call 3 (by kernel_rfl) (by rfl) (by decide)
              · intro u hF; clear hF; unfold opCall; go_simp; exact HP2.out _
              apply lexg_end
              rotate_left
              · rfl
              intro u hR hD
              clear hR hD
              refine tail_store (by rfl) ?_; unfold opStore; go_simp
              refine tail_store (by rfl) ?_; unfold opStore; go_simp
              refine tail_end ?_
              go_wp2
              refine bodyPost_ret (by (simp [results, Tryz.results220, go_sem] <;> rfl)) rfl ?_
              exact ⟨by rw [← Hv.out], gw⟩
    · have hi2 : i = l.length := by omega
      have Hidx := Lib.hid (show idxT x l = i from idxT_is (by omega) Hbe.out (fun h => absurd h (by omega)))
      obtain ⟨k, hk⟩ : ∃ k, l.length = k + 1 := ⟨l.length - 1, by omega⟩
      have hkl : k < l.length := by omega
      obtain ⟨b1, o1, e1, i1, hd1, hd2⟩ := HE.out k hkl
      have hc0 := hd1 _ rfl
      have hc1 := hd2 1 _ rfl
      have hc2 := hd2 2 _ rfl
      clear hd1 hd2
      cases e1
      have j1 : BlockIn w b1 := ⟨i1⟩
      have Hok := Lib.hid (H3.out k hkl)
      have Hv := Lib.hid (show (ofB (bnd up l[k].value), ofB (bnd up l[k].value)) = L by rw [← HL.out]; unfold lineB; rw [Hidx.out, if_neg (by omega), if_pos hi2, show l.length - 1 = k by omega, getD_is hkl])
      have HI := Lib.hid (bnd_i64 Hok.out up)
      generalize l[k] = q at *
      subst hi2
      have c0 : ((l.length : Int) == 0) = false := by rw [beq_eq_false_iff_ne]; omega
      have him : ((l.length : Int) - 1) = k := by omega
      have hmin : min (l.length : Int) (k : Int) = k := Int.min_eq_right (by omega)
      clear HE Hbe H3 Hok HL Hidx hk hi hlt
      trace_state
      have HC := Lib.hid (fun w => HGu.out q.value w)
      have HO := Lib.hid (fun w => big_of_any (bnd up q.value) HI.out w)
      go_wp2_with (first | (go_at_fn G; refine call_later (HC.out _) ?_; intro u1) | (go_at_call 79; (with_reducible refine call_later (HO.out _) ?_); intro u2))
      go_region
      all_goals go_wp2
      all_goals
        refine bodyPost_ret (by (simp [results, Tryz.results220, go_sem] <;> rfl)) rfl ?_
        exact ⟨by rw [← Hv.out], gw⟩
end Go.Proofs.YtkeifgcncmilmaaGreat
namespace Go.Proofs.YtkeifgcncmilmaaGreat
open Go.RowKit
set_option maxRecDepth 100000
set_option maxHeartbeats 8000000
set_option linter.unusedSimpArgs false
/-- A box of one cell (met by instances). -/
class BoxIs (w : World) (b : Nat) (v : outParam Value) : Prop where
  is : BoxAt w b [v]
section
variable {w w' : World} {b : Nat} {v : Value}
theorem BoxIs.c (h : BoxIs w b v) : w.cell? ⟨b, 0, none⟩ = some v := (h.is 0 _ rfl).1
theorem BoxIs.f (h : BoxIs w b v) : w.frozen? ⟨b, 0, none⟩ = false := (h.is 0 _ rfl).2
theorem BoxIs.lt (h : BoxIs w b v) : b < w.heap.size := World.block_lt_of_cell? w _ h.c
theorem BoxIs.grew (h : BoxIs w b v) (g : Grew w w') : BoxIs w' b v := ⟨BoxAt.grew h.is h.lt g⟩
instance boxIs_alloc (o : Obj) [h : BoxIs w b v] : BoxIs (w.alloc o) b v := h.grew ((Grew.refl w).alloc o)
instance boxIs_drew [h : BoxIs w b v] : BoxIs w.drew b v := h.grew (Grew.refl w).drew
instance boxIs_later (u : Later w) [h : BoxIs w b v] : BoxIs u.world b v := h.grew u.grew
theorem boxIs_far {x : Value} (h : BoxIs w b v) (g : w.grownBy w' x.ownBlock) (k : NotRow b x) : BoxIs w' b v := ⟨box_far g b _ h.is k⟩
theorem BoxIs.other (h : BoxIs w b v) {c j : Nat} {x : Value} (hne : c ≠ b) : BoxIs (w.setCell ⟨c, j, none⟩ x) b v := ⟨fun i u hu => by
  obtain ⟨h1, h2⟩ := h.is i u hu
  exact ⟨by rw [World.cell?_setCell_far _ _ _ _ hne, h1], by rw [World.frozen?_setCell, h2]⟩⟩
theorem BoxIs.put (h : BoxIs w b v) (x : Value) : BoxIs (w.setCell ⟨b, 0, none⟩ x) b x := ⟨fun i u hu => by
  obtain ⟨rfl, rfl⟩ : i = 0 ∧ x = u := by
    cases i with
    | zero => exact ⟨rfl, by simpa using hu⟩
    | succ i => simp at hu
  exact ⟨World.cell?_setCell_same _ _ _ h.c, by rw [World.frozen?_setCell, h.f]⟩⟩
end
/-- The rows that Look makes, and their boxes. -/
structure LkAt (a : World) (n : Nat) (D A : List Value) (W : World) : Prop where
  grew : Grew a W
  base : a.heap.size + 2 ≤ W.heap.size
  two : ∃ vd va, BoxIs W a.heap.size vd ∧ BoxIs W (a.heap.size + 1) va ∧ W.ownsRow (a.heap.size + 2) 145 3 vd n D ∧ W.ownsRow (a.heap.size + 2) 145 3 va n A ∧ RowsApart vd va
theorem lk_done {a W : World} {n : Nat} {D A : List Value} {v6 v7 vd va : Value} (hg : Grew a W) (hb : a.heap.size + 2 ≤ W.heap.size) (b6 : BoxIs W a.heap.size v6) (b7 : BoxIs W (a.heap.size + 1) v7)
    (o1 : W.ownsRow (a.heap.size + 2) 145 3 vd n D) (o2 : W.ownsRow (a.heap.size + 2) 145 3 va n A) (hap : RowsApart vd va) : LkAt a n D A ((W.setCell ⟨a.heap.size, 0, none⟩ vd).setCell ⟨a.heap.size + 1, 0, none⟩ va) := by
  have far : ∀ {W : World} {v : Value} {n : Nat} {xs : List Value} {q : Nat} {x : Value}, W.ownsRow (a.heap.size + 2) 145 3 v n xs → q < a.heap.size + 2 → (W.setCell ⟨q, 0, none⟩ x).ownsRow (a.heap.size + 2) 145 3 v n xs := fun h hq =>
    owns_setCell_far h _ _ _ (fun e => by have := owns_base h _ e; omega)
  exact ⟨(hg.setCell (Nat.le_refl _) _).setCell (Nat.le_succ _) _, by simpa [World.setCell] using hb, vd, va, (b6.put vd).other (by omega), (b7.other (by omega)).put va, far (far o1 (by omega)) (by omega), far (far o2 (by omega)) (by omega), hap⟩
def lkS (a : World) (vd va : Value) (p5 p8 : Nat) (D1 A2 : Big) (w' : World) : Prop :=
  w'.cell? ⟨a.heap.size, 0, none⟩ = some vd ∧ w'.cell? ⟨a.heap.size + 1, 0, none⟩ = some va ∧ w'.cell? ⟨p5, 0, none⟩ = some (.bool D1.neg) ∧ w'.cell? ⟨p5, 1, none⟩ = some (.int .u64 D1.hi) ∧ w'.cell? ⟨p5, 2, none⟩ = some (.int .u64 D1.lo) ∧ w'.cell? ⟨p8, 0, none⟩ = some (.bool A2.neg) ∧ w'.cell? ⟨p8, 1, none⟩ = some (.int .u64 A2.hi) ∧ w'.cell? ⟨p8, 2, none⟩ = some (.int .u64 A2.lo)
theorem lookClo_any (l : List Pt) (x : Int) (ht : tableB l = true) (ao : Option Addr) (cap : Nat) (a : World) (hs : SlAt a (.slice ao l.length cap) l.length (l.flatMap Pt.cells)) (b0 : Nat) (h0 : a.cell? ⟨b0, 0, none⟩ = some (.slice ao l.length cap)) (n : Nat) (hn : n ≤ 66) (D A : List Value) (W : World) (h : LkAt a n D A W) :
    Calls Tryz.prog 219 #[.int .i64 x, .pointer (some ⟨b0, 0, none⟩), .pointer (some ⟨a.heap.size, 0, none⟩), .pointer (some ⟨a.heap.size + 1, 0, none⟩)] W (fun e W' => e = .returned (.tuple #[]) ∧ LkAt a (n + 1) (D ++ (lineB l false x).1.cells) (A ++ (lineB l true x).2.cells) W') := by
  obtain ⟨hg, hbs, vd, va, b6, b7, o1, o2, hap⟩ := h
  obtain ⟨z, rfl⟩ := later_of hg
  clear hg
  obtain ⟨i0, hi, hz0, hzz1, hzz2⟩ := info_parts infoBig
  have Hinf := Lib.hid (And.intro hi (And.intro hz0 (And.intro hzz1 hzz2)))
  clear hi hz0 hzz1 hzz2
  have HV1 := Lib.hid (fun w' (g : Grew a w') => value_any 221 (enters_of Tryz.func221 (by kernel_rfl) rfl) false bndLo_any l x ht ao cap w' (hs.grew g))
  have HV2 := Lib.hid (fun w' (g : Grew a w') => value_any 222 (enters_of Tryz.func222 (by kernel_rfl) rfl) true bndHi_any l x ht ao cap w' (hs.grew g))
  clear ht hs
  generalize (lineB l false x).1 = D1 at *
  generalize (lineB l false x).2 = D2 at *
  generalize (lineB l true x).1 = A1 at *
  generalize (lineB l true x).2 = A2 at *
  have hb0 := World.block_lt_of_cell? a _ h0
  have j0 : BlockIn a b0 := ⟨hb0⟩
  have c6 := b6.c
  have f6 := b6.f
  have c7 := b7.c
  have f7 := b7.f
  have j6 : BlockIn z.world a.heap.size := ⟨b6.lt⟩
  have j7 : BlockIn z.world (a.heap.size + 1) := ⟨b7.lt⟩
  have n6 : NotRow a.heap.size vd := notRow_old o1 _ (by omega)
  have n7 : NotRow (a.heap.size + 1) vd := notRow_old o1 _ (by omega)
  have m6 : NotRow a.heap.size va := notRow_old o2 _ (by omega)
  have m7 : NotRow (a.heap.size + 1) va := notRow_old o2 _ (by omega)
  have io1 : Own z.world (a.heap.size + 2) 145 3 vd n D := ⟨o1⟩
  have io2 : Own z.world (a.heap.size + 2) 145 3 va n A := ⟨o2⟩
  go_enter Tryz.func219, Tryz.ntmps219
  go_wp2_with (first | (go_at_call 220; (with_reducible refine call_later (HV1.out _ ?_) ?_); (· exact gw); intro u1) | (go_at_call 220; (with_reducible refine call_later (HV2.out _ ?_) ?_); (· exact gw); intro u2))
  refine wp_to_later (z := z.world) gw ?_
  intro Y hY
  have b13 : BoxAt Y.world u1.world.heap.size [.bool D1.neg, .int .u64 D1.hi, .int .u64 D1.lo] := by rw [hY]; exact boxAt_three (by go_simp) (by go_simp) (by go_simp) (by go_simp) (by go_simp) (by go_simp)
  have b14 : BoxAt Y.world (u2.world.heap.size + 1) [.bool A2.neg, .int .u64 A2.hi, .int .u64 A2.lo] := by rw [hY]; exact boxAt_three (by go_simp) (by go_simp) (by go_simp) (by go_simp) (by go_simp) (by go_simp)
  clear hY
  have r13 := rowAt_of_box b13
  have r14 := rowAt_of_box b14
  have jn1 : NewFor z.world u1.world.heap.size := inferInstance
  have jn2 : NewFor z.world (u2.world.heap.size + 1) := inferInstance
  clear b13 b14
  have inr1 : ∀ b, [NewFor z.world b] → NotRow b vd := fun b => notRow_new io1.is b
  have inr2 : ∀ b, [NewFor z.world b] → NotRow b va := fun b => notRow_new io2.is b
  have hbase : a.heap.size + 2 ≤ Y.world.heap.size := Nat.le_trans hbs Y.grew.size
  have k6 : BoxIs Y.world a.heap.size vd := b6.grew Y.grew
  have k7 : BoxIs Y.world (a.heap.size + 1) va := b7.grew Y.grew
  obtain ⟨hi, hz0, hzz1, hzz2⟩ := Hinf.out
  have hS : ∀ W, BoxIs W a.heap.size vd → BoxIs W (a.heap.size + 1) va → RowAt W u1.world.heap.size [.bool D1.neg, .int .u64 D1.hi, .int .u64 D1.lo] → RowAt W (u2.world.heap.size + 1) [.bool A2.neg, .int .u64 A2.hi, .int .u64 A2.lo] → lkS a vd va u1.world.heap.size (u2.world.heap.size + 1) D1 A2 W := fun W h1 h2 h3 h4 => ⟨h1.c, h2.c, h3.is 0 _ rfl, h3.is 1 _ rfl, h3.is 2 _ rfl, h4.is 0 _ rfl, h4.is 1 _ rfl, h4.is 2 _ rfl⟩
  have hS1 := hS Y.world.drew inferInstance inferInstance inferInstance inferInstance
  refine wp_region_tail (lkS a vd va u1.world.heap.size (u2.world.heap.size + 1) D1 A2) [8, 9] rfl ?_
  refine wpTail_take 0 [3] (v := vd) rfl (by kernel_rfl) (by kernel_rfl) (by kernel_rfl) (by kernel_rfl) (fun _ _ _ h => h) (by rfl) hS1 (fun w' hw => ?_) ?_
  · obtain ⟨e0, e1, e2, e3, e4, e5, e6, e7⟩ := hw
    go_simp
  try simp only [Act.put, List.setIfInBounds_toArray, List.set_cons_zero, List.set_cons_succ]
  refine wpTail_take 4 [7] (v := va) rfl (by kernel_rfl) (by kernel_rfl) (by kernel_rfl) (by kernel_rfl) (fun _ _ _ h => h) (by rfl) hS1 (fun w' hw => ?_) ?_
  · obtain ⟨e0, e1, e2, e3, e4, e5, e6, e7⟩ := hw
    go_simp
  try simp only [Act.put, List.setIfInBounds_toArray, List.set_cons_zero, List.set_cons_succ]
  refine wpTail_take 1 [2] (v := .agg #[.bool D1.neg, .int .u64 D1.hi, .int .u64 D1.lo]) rfl (by kernel_rfl) (by kernel_rfl) (by kernel_rfl) (by kernel_rfl) (fun _ _ _ h => h) (by rfl) hS1 (fun w' hw => ?_) ?_
  · obtain ⟨e0, e1, e2, e3, e4, e5, e6, e7⟩ := hw
    go_simp
  try simp only [Act.put, List.setIfInBounds_toArray, List.set_cons_zero, List.set_cons_succ]
  refine wpTail_take 5 [6, 7] (v := .agg #[.bool A2.neg, .int .u64 A2.hi, .int .u64 A2.lo]) rfl (by kernel_rfl) (by kernel_rfl) (by kernel_rfl) (by kernel_rfl) (fun _ _ _ h => h) (by rfl) hS1 (fun w' hw => ?_) ?_
  · obtain ⟨e0, e1, e2, e3, e4, e5, e6, e7⟩ := hw
    go_simp
  try simp only [Act.put, List.setIfInBounds_toArray, List.set_cons_zero, List.set_cons_succ]
  clear hS1
  refine wpTail_two 2 6 (by kernel_rfl) rfl rfl (fun K hK => ?_) (fun K hK => ?_)
  · go_simp
    refine hK.out _ _ (fun _ => hS _ inferInstance inferInstance inferInstance inferInstance) ?_
    clear hK K
    try simp only [Act.put, List.setIfInBounds_toArray, List.set_cons_zero, List.set_cons_succ]
    refine wpTail_two 3 6 (by kernel_rfl) rfl rfl (fun K hK => ?_) (fun K hK => ?_)
    · skip
      refine step_append_lies _ (by rfl) _ _ 235 (by rfl) (a.heap.size + 2) 145 i0 _ 3 24 Tryz.underlying235 hi hz0 hzz1 hzz2 (by rfl) (by decide) vd _ _ (by rfl) Own.is ⟨_, 0, none⟩ 1 1 [.bool D1.neg, .int .u64 D1.hi, .int .u64 D1.lo] (by rfl) (by rfl) news_row (by simp [Value.oneCell']) (by decide) (by simp [maxLen]; omega) (by omega) (by (try simp); omega) _ rfl ?_
      intro g1 cap1 w1 hown1 hgrow1 hat1 hlt1
      have hg1 : Grew a w1 := Grew.append gw (Own.is (v := vd) (base := a.heap.size + 2) (e := 145) (size := 3)) (Nat.le_add_right _ _) hgrow1
      have io3 : Own w1 (a.heap.size + 2) 145 3 va n A := ⟨owns_far Own.is hgrow1 hap.symm⟩
      have hap1 : RowsApart (.slice (some ⟨g1, 0, none⟩) (n + 1) cap1) va := apart_grown (Own.is (v := va) (base := a.heap.size + 2) (e := 145) (size := 3)) hap hat1
      have io4 : Own w1 (a.heap.size + 2) 145 3 (.slice (some ⟨g1, 0, none⟩) (n + 1) cap1) (n + 1) _ := ⟨hown1⟩
      have ifar := far_inst hgrow1
      have hsz1 : a.heap.size + 2 ≤ w1.heap.size := Nat.le_trans (by (try simp); omega) hgrow1.size
      have l6 : BoxIs w1 a.heap.size vd := boxIs_far inferInstance hgrow1 inferInstance
      have l7 : BoxIs w1 (a.heap.size + 1) va := boxIs_far inferInstance hgrow1 inferInstance
      have l6c := l6.c
      have l7c := l7.c
      have i6 : BlockIn w1 a.heap.size := ⟨by omega⟩
      have i7 : BlockIn w1 (a.heap.size + 1) := ⟨by omega⟩
      have inw : NewFor z.world w1.heap.size := ⟨Nat.le_trans (NewFor.le (a := z.world)) hgrow1.size⟩
      refine hK.out _ _ (fun _ => hS _ inferInstance inferInstance inferInstance inferInstance) ?_
      clear hK K
      try simp only [Act.put, List.setIfInBounds_toArray, List.set_cons_zero, List.set_cons_succ]
      refine wpTail_one 6 (by kernel_rfl) rfl fun K hK => ?_
      go_simp
      refine hK.out _ _ (fun _ => hS _ inferInstance inferInstance inferInstance inferInstance) ?_
      clear hK K
      try simp only [Act.put, List.setIfInBounds_toArray, List.set_cons_zero, List.set_cons_succ]
      refine wpTail_one 7 (by kernel_rfl) rfl fun K hK => ?_
      refine step_append_lies _ (by rfl) _ _ 235 (by rfl) (a.heap.size + 2) 145 i0 _ 3 24 Tryz.underlying235 hi hz0 hzz1 hzz2 (by rfl) (by decide) va _ _ (by rfl) Own.is ⟨_, 0, none⟩ 1 1 [.bool A2.neg, .int .u64 A2.hi, .int .u64 A2.lo] (by rfl) (by rfl) news_row (by simp [Value.oneCell']) (by decide) (by simp [maxLen]; omega) (by omega) (by (try simp); omega) _ rfl ?_
      intro g2 cap2 w2 hown2 hgrow2 hat2 hlt2
      have ifar2 := far_inst hgrow2
      have hg2 : Grew a w2 := Grew.append gw (Own.is (v := va) (base := a.heap.size + 2) (e := 145) (size := 3)) (Nat.le_add_right _ _) hgrow2
      have hown1' : w2.ownsRow (a.heap.size + 2) 145 3 (.slice (some ⟨g1, 0, none⟩) (n + 1) cap1) (n + 1) _ := owns_far Own.is hgrow2 hap1
      have hap2 := apart_grown2 (m := n + 1) (cap := cap2) (Own.is (v := .slice (some ⟨g1, 0, none⟩) (n + 1) cap1) (base := a.heap.size + 2) (e := 145) (size := 3)) hap1 hat2
      have hsz2 : a.heap.size + 2 ≤ w2.heap.size := Nat.le_trans (by (try simp); omega) hgrow2.size
      have p6 : BoxIs w2 a.heap.size vd := boxIs_far inferInstance hgrow2 inferInstance
      have p7 : BoxIs w2 (a.heap.size + 1) va := boxIs_far inferInstance hgrow2 inferInstance
      have p6c := p6.c
      have p7c := p7.c
      have p6f := p6.f
      have p7f := p7.f
      have q6 : BlockIn w2 a.heap.size := ⟨by omega⟩
      have q7 : BlockIn w2 (a.heap.size + 1) := ⟨by omega⟩
      refine hK.out _ _ (fun _ => hS _ inferInstance inferInstance inferInstance inferInstance) ?_
      clear hK K
      try simp only [Act.put, List.setIfInBounds_toArray, List.set_cons_zero, List.set_cons_succ]
      refine wpTail_one 8 (by kernel_rfl) rfl fun K hK => ?_
      go_simp
      refine hK.out _ _ (fun h => by cases h) ?_
      clear hK K
      try simp only [Act.put, List.setIfInBounds_toArray, List.set_cons_zero, List.set_cons_succ]
      refine wpTail_one 9 (by kernel_rfl) rfl fun K hK => ?_
      go_simp
      refine hK.out _ _ (fun h => by cases h) ?_
      clear hK K
      refine wpTail_done (by kernel_rfl) ?_
      go_wp2
      refine bodyPost_end (results_none rfl _ _ _) rfl ⟨rfl, lk_done hg2 hsz2 p6 p7 hown1' hown2 hap2⟩
    · go_simp
      refine hK.out _ _ (fun _ => hS _ inferInstance inferInstance inferInstance inferInstance) ?_
      clear hK K
      try simp only [Act.put, List.setIfInBounds_toArray, List.set_cons_zero, List.set_cons_succ]
      refine wpTail_one 3 (by kernel_rfl) rfl fun K hK => ?_
      refine step_append_lies _ (by rfl) _ _ 235 (by rfl) (a.heap.size + 2) 145 i0 _ 3 24 Tryz.underlying235 hi hz0 hzz1 hzz2 (by rfl) (by decide) vd _ _ (by rfl) Own.is ⟨_, 0, none⟩ 1 1 [.bool D1.neg, .int .u64 D1.hi, .int .u64 D1.lo] (by rfl) (by rfl) news_row (by simp [Value.oneCell']) (by decide) (by simp [maxLen]; omega) (by omega) (by (try simp); omega) _ rfl ?_
      intro g1 cap1 w1 hown1 hgrow1 hat1 hlt1
      have hg1 : Grew a w1 := Grew.append gw (Own.is (v := vd) (base := a.heap.size + 2) (e := 145) (size := 3)) (Nat.le_add_right _ _) hgrow1
      have io3 : Own w1 (a.heap.size + 2) 145 3 va n A := ⟨owns_far Own.is hgrow1 hap.symm⟩
      have hap1 : RowsApart (.slice (some ⟨g1, 0, none⟩) (n + 1) cap1) va := apart_grown (Own.is (v := va) (base := a.heap.size + 2) (e := 145) (size := 3)) hap hat1
      have io4 : Own w1 (a.heap.size + 2) 145 3 (.slice (some ⟨g1, 0, none⟩) (n + 1) cap1) (n + 1) _ := ⟨hown1⟩
      have ifar := far_inst hgrow1
      have hsz1 : a.heap.size + 2 ≤ w1.heap.size := Nat.le_trans (by (try simp); omega) hgrow1.size
      have l6 : BoxIs w1 a.heap.size vd := boxIs_far inferInstance hgrow1 inferInstance
      have l7 : BoxIs w1 (a.heap.size + 1) va := boxIs_far inferInstance hgrow1 inferInstance
      have l6c := l6.c
      have l7c := l7.c
      have i6 : BlockIn w1 a.heap.size := ⟨by omega⟩
      have i7 : BlockIn w1 (a.heap.size + 1) := ⟨by omega⟩
      have inw : NewFor z.world w1.heap.size := ⟨Nat.le_trans (NewFor.le (a := z.world)) hgrow1.size⟩
      refine hK.out _ _ (fun _ => hS _ inferInstance inferInstance inferInstance inferInstance) ?_
      clear hK K
      try simp only [Act.put, List.setIfInBounds_toArray, List.set_cons_zero, List.set_cons_succ]
      refine wpTail_one 7 (by kernel_rfl) rfl fun K hK => ?_
      refine step_append_lies _ (by rfl) _ _ 235 (by rfl) (a.heap.size + 2) 145 i0 _ 3 24 Tryz.underlying235 hi hz0 hzz1 hzz2 (by rfl) (by decide) va _ _ (by rfl) Own.is ⟨_, 0, none⟩ 1 1 [.bool A2.neg, .int .u64 A2.hi, .int .u64 A2.lo] (by rfl) (by rfl) news_row (by simp [Value.oneCell']) (by decide) (by simp [maxLen]; omega) (by omega) (by (try simp); omega) _ rfl ?_
      intro g2 cap2 w2 hown2 hgrow2 hat2 hlt2
      have ifar2 := far_inst hgrow2
      have hg2 : Grew a w2 := Grew.append gw (Own.is (v := va) (base := a.heap.size + 2) (e := 145) (size := 3)) (Nat.le_add_right _ _) hgrow2
      have hown1' : w2.ownsRow (a.heap.size + 2) 145 3 (.slice (some ⟨g1, 0, none⟩) (n + 1) cap1) (n + 1) _ := owns_far Own.is hgrow2 hap1
      have hap2 := apart_grown2 (m := n + 1) (cap := cap2) (Own.is (v := .slice (some ⟨g1, 0, none⟩) (n + 1) cap1) (base := a.heap.size + 2) (e := 145) (size := 3)) hap1 hat2
      have hsz2 : a.heap.size + 2 ≤ w2.heap.size := Nat.le_trans (by (try simp); omega) hgrow2.size
      have p6 : BoxIs w2 a.heap.size vd := boxIs_far inferInstance hgrow2 inferInstance
      have p7 : BoxIs w2 (a.heap.size + 1) va := boxIs_far inferInstance hgrow2 inferInstance
      have p6c := p6.c
      have p7c := p7.c
      have p6f := p6.f
      have p7f := p7.f
      have q6 : BlockIn w2 a.heap.size := ⟨by omega⟩
      have q7 : BlockIn w2 (a.heap.size + 1) := ⟨by omega⟩
      refine hK.out _ _ (fun _ => hS _ inferInstance inferInstance inferInstance inferInstance) ?_
      clear hK K
      try simp only [Act.put, List.setIfInBounds_toArray, List.set_cons_zero, List.set_cons_succ]
      refine wpTail_one 8 (by kernel_rfl) rfl fun K hK => ?_
      go_simp
      refine hK.out _ _ (fun h => by cases h) ?_
      clear hK K
      try simp only [Act.put, List.setIfInBounds_toArray, List.set_cons_zero, List.set_cons_succ]
      refine wpTail_one 9 (by kernel_rfl) rfl fun K hK => ?_
      go_simp
      refine hK.out _ _ (fun h => by cases h) ?_
      clear hK K
      refine wpTail_done (by kernel_rfl) ?_
      go_wp2
      refine bodyPost_end (results_none rfl _ _ _) rfl ⟨rfl, lk_done hg2 hsz2 p6 p7 hown1' hown2 hap2⟩
  · go_simp
    refine hK.out _ _ (fun _ => hS _ inferInstance inferInstance inferInstance inferInstance) ?_
    clear hK K
    try simp only [Act.put, List.setIfInBounds_toArray, List.set_cons_zero, List.set_cons_succ]
    refine wpTail_one 2 (by kernel_rfl) rfl fun K hK => ?_
    go_simp
    refine hK.out _ _ (fun _ => hS _ inferInstance inferInstance inferInstance inferInstance) ?_
    clear hK K
    try simp only [Act.put, List.setIfInBounds_toArray, List.set_cons_zero, List.set_cons_succ]
    refine wpTail_one 3 (by kernel_rfl) rfl fun K hK => ?_
    refine step_append_lies _ (by rfl) _ _ 235 (by rfl) (a.heap.size + 2) 145 i0 _ 3 24 Tryz.underlying235 hi hz0 hzz1 hzz2 (by rfl) (by decide) vd _ _ (by rfl) Own.is ⟨_, 0, none⟩ 1 1 [.bool D1.neg, .int .u64 D1.hi, .int .u64 D1.lo] (by rfl) (by rfl) news_row (by simp [Value.oneCell']) (by decide) (by simp [maxLen]; omega) (by omega) (by (try simp); omega) _ rfl ?_
    intro g1 cap1 w1 hown1 hgrow1 hat1 hlt1
    have hg1 : Grew a w1 := Grew.append gw (Own.is (v := vd) (base := a.heap.size + 2) (e := 145) (size := 3)) (Nat.le_add_right _ _) hgrow1
    have io3 : Own w1 (a.heap.size + 2) 145 3 va n A := ⟨owns_far Own.is hgrow1 hap.symm⟩
    have hap1 : RowsApart (.slice (some ⟨g1, 0, none⟩) (n + 1) cap1) va := apart_grown (Own.is (v := va) (base := a.heap.size + 2) (e := 145) (size := 3)) hap hat1
    have io4 : Own w1 (a.heap.size + 2) 145 3 (.slice (some ⟨g1, 0, none⟩) (n + 1) cap1) (n + 1) _ := ⟨hown1⟩
    have ifar := far_inst hgrow1
    have hsz1 : a.heap.size + 2 ≤ w1.heap.size := Nat.le_trans (by (try simp); omega) hgrow1.size
    have l6 : BoxIs w1 a.heap.size vd := boxIs_far inferInstance hgrow1 inferInstance
    have l7 : BoxIs w1 (a.heap.size + 1) va := boxIs_far inferInstance hgrow1 inferInstance
    have l6c := l6.c
    have l7c := l7.c
    have i6 : BlockIn w1 a.heap.size := ⟨by omega⟩
    have i7 : BlockIn w1 (a.heap.size + 1) := ⟨by omega⟩
    have inw : NewFor z.world w1.heap.size := ⟨Nat.le_trans (NewFor.le (a := z.world)) hgrow1.size⟩
    refine hK.out _ _ (fun _ => hS _ inferInstance inferInstance inferInstance inferInstance) ?_
    clear hK K
    try simp only [Act.put, List.setIfInBounds_toArray, List.set_cons_zero, List.set_cons_succ]
    refine wpTail_one 7 (by kernel_rfl) rfl fun K hK => ?_
    refine step_append_lies _ (by rfl) _ _ 235 (by rfl) (a.heap.size + 2) 145 i0 _ 3 24 Tryz.underlying235 hi hz0 hzz1 hzz2 (by rfl) (by decide) va _ _ (by rfl) Own.is ⟨_, 0, none⟩ 1 1 [.bool A2.neg, .int .u64 A2.hi, .int .u64 A2.lo] (by rfl) (by rfl) news_row (by simp [Value.oneCell']) (by decide) (by simp [maxLen]; omega) (by omega) (by (try simp); omega) _ rfl ?_
    intro g2 cap2 w2 hown2 hgrow2 hat2 hlt2
    have ifar2 := far_inst hgrow2
    have hg2 : Grew a w2 := Grew.append gw (Own.is (v := va) (base := a.heap.size + 2) (e := 145) (size := 3)) (Nat.le_add_right _ _) hgrow2
    have hown1' : w2.ownsRow (a.heap.size + 2) 145 3 (.slice (some ⟨g1, 0, none⟩) (n + 1) cap1) (n + 1) _ := owns_far Own.is hgrow2 hap1
    have hap2 := apart_grown2 (m := n + 1) (cap := cap2) (Own.is (v := .slice (some ⟨g1, 0, none⟩) (n + 1) cap1) (base := a.heap.size + 2) (e := 145) (size := 3)) hap1 hat2
    have hsz2 : a.heap.size + 2 ≤ w2.heap.size := Nat.le_trans (by (try simp); omega) hgrow2.size
    have p6 : BoxIs w2 a.heap.size vd := boxIs_far inferInstance hgrow2 inferInstance
    have p7 : BoxIs w2 (a.heap.size + 1) va := boxIs_far inferInstance hgrow2 inferInstance
    have p6c := p6.c
    have p7c := p7.c
    have p6f := p6.f
    have p7f := p7.f
    have q6 : BlockIn w2 a.heap.size := ⟨by omega⟩
    have q7 : BlockIn w2 (a.heap.size + 1) := ⟨by omega⟩
    refine hK.out _ _ (fun _ => hS _ inferInstance inferInstance inferInstance inferInstance) ?_
    clear hK K
    try simp only [Act.put, List.setIfInBounds_toArray, List.set_cons_zero, List.set_cons_succ]
    refine wpTail_one 8 (by kernel_rfl) rfl fun K hK => ?_
    go_simp
    refine hK.out _ _ (fun h => by cases h) ?_
    clear hK K
    try simp only [Act.put, List.setIfInBounds_toArray, List.set_cons_zero, List.set_cons_succ]
    refine wpTail_one 9 (by kernel_rfl) rfl fun K hK => ?_
    go_simp
    refine hK.out _ _ (fun h => by cases h) ?_
    clear hK K
    refine wpTail_done (by kernel_rfl) ?_
    go_wp2
    refine bodyPost_end (results_none rfl _ _ _) rfl ⟨rfl, lk_done hg2 hsz2 p6 p7 hown1' hown2 hap2⟩
end Go.Proofs.YtkeifgcncmilmaaGreat
namespace Go.Proofs.YtkeifgcncmilmaaGreat
open Go.RowKit Go.Shelf
set_option maxRecDepth 100000
set_option maxHeartbeats 8000000
theorem lineR_0 {l : List Pt} {up : Bool} {x : Int} (h : idxT x l = 0) (hl : 0 < l.length) : lineR l up x = (bnd up l[0].value, bnd up l[0].value) := by
  unfold lineR
  rw [if_pos h, getD_is hl]
theorem lineR_n {l : List Pt} {up : Bool} {x : Int} {k : Nat} (h : idxT x l = l.length) (hl : l.length = k + 1) (hk : k < l.length) : lineR l up x = (bnd up l[k].value, bnd up l[k].value) := by
  unfold lineR
  rw [if_neg (by omega), if_pos h, show l.length - 1 = k by omega, getD_is hk]
theorem lineR_i {l : List Pt} {up : Bool} {x : Int} {k : Nat} (h : idxT x l = k + 1) (hl : k + 1 < l.length) (hk : k < l.length) : lineR l up x = (bnd up l[k].value + downZ ((bnd up l[k + 1].value - bnd up l[k].value) * (x - l[k].place)) (l[k + 1].place - l[k].place), bnd up l[k].value + upZ ((bnd up l[k + 1].value - bnd up l[k].value) * (x - l[k].place)) (l[k + 1].place - l[k].place)) := by
  unfold lineR
  rw [if_neg (by omega), if_neg (by omega), h, show k + 1 - 1 = k by omega, getD_is hl, getD_is hk]
end Go.Proofs.YtkeifgcncmilmaaGreat
namespace Go.Proofs.YtkeifgcncmilmaaGreat
open Go.RowKit
/-- The least, the greatest of the first numbers, one after another. -/
def runLo (D : Nat → Int) : Nat → Int
  | 0 => 0
  | i + 1 => if i = 0 then D i else imin (runLo D i) (D i)
def runHi (D : Nat → Int) : Nat → Int
  | 0 => 0
  | i + 1 => if i = 0 then D i else imax (runHi D i) (D i)
end Go.Proofs.YtkeifgcncmilmaaGreat
namespace Go.Proofs.YtkeifgcncmilmaaGreat
open Go.RowKit Go.Shelf
set_option maxRecDepth 100000
set_option maxHeartbeats 8000000
def numC (x : Int) : List Value := [.int .i64 x]
def inT (x : Sp) (p : Pt) : Bool := decide (x.lo ≤ p.place) && decide (p.place ≤ x.hi)
/-- The places up to the k-th point. -/
def placesTo (l : List Pt) (x : Sp) (k : Nat) : List Int := x.lo :: x.hi :: ((l.take k).filter (inT x)).map Pt.place
theorem placesTo_all (l : List Pt) (x : Sp) : placesTo l x l.length = placesT l x := by
  unfold placesTo placesT
  rw [List.take_length]
  rfl
theorem placesTo_in {l : List Pt} {x : Sp} {k : Nat} (hk : k < l.length) (h : inT x l[k] = true) : placesTo l x (k + 1) = placesTo l x k ++ [l[k].place] := by
  unfold placesTo
  rw [List.take_succ_eq_append_getElem hk, List.filter_append, List.map_append]
  simp [h]
theorem placesTo_out {l : List Pt} {x : Sp} {k : Nat} (hk : k < l.length) (h : inT x l[k] = false) : placesTo l x (k + 1) = placesTo l x k := by
  unfold placesTo
  rw [List.take_succ_eq_append_getElem hk, List.filter_append, List.map_append]
  simp [h]
theorem placesTo_len (l : List Pt) (x : Sp) (k : Nat) : (placesTo l x k).length ≤ l.length + 2 := by
  unfold placesTo
  simp only [List.length_cons, List.length_map]
  have h1 := List.length_filter_le (inT x) (l.take k)
  have h2 := List.length_take_le k l
  have h3 : (l.take k).length ≤ l.length := by rw [List.length_take]; omega
  omega
/-- Where the search for the least and the greatest has come to. -/
structure Run2 (z : World) (q8 q9 : Nat) (lo hi : Int) (y : World) : Prop where
  grew : Grew z y
  b8 : BoxAt y q8 [.int .i64 ((mkW lo)).h, .int .u64 ((mkW lo)).l]
  b9 : BoxAt y q9 [.int .i64 ((mkW hi)).h, .int .u64 ((mkW hi)).l]
/-- A Look is the plain law's. -/
def LookOkR (f : FuncId) : Prop := ∀ (l : List Pt) (x : Sp) (ao : Option Addr) (cap : Nat) (w : World), SlAt w (.slice ao l.length cap) l.length (l.flatMap Pt.cells) → Calls Tryz.prog f #[.slice ao l.length cap, .agg #[.int .i64 x.lo, .int .i64 x.hi]] w fun e w' => e = .returned (.tuple #[.agg #[.int .i64 (lookR l x).s.lo, .int .i64 (lookR l x).s.hi], .int .i64 (lookR l x).e]) ∧ Grew w w'
abbrev lookW (w : World) (x : Sp) : World := (w.alloc (.cells #[.int .i64 x.lo, .int .i64 x.hi] 24)).alloc (.cells #[.int .i64 0, .int .i64 0] 24)
end Go.Proofs.YtkeifgcncmilmaaGreat
namespace Go.Proofs.YtkeifgcncmilmaaGreat
open Go.RowKit Go.Shelf
set_option maxRecDepth 100000
set_option maxHeartbeats 8000000
theorem least_val : ∀ (L : List Big) (x : Big), (leastB x L).val = least x.val (L.map Big.val)
  | [], _ => rfl
  | y :: L, x => by
    show (leastB (if y.val < x.val then y else x) L).val = least (imin x.val y.val) (L.map Big.val)
    rw [least_val L]
    unfold imin
    split <;> rfl
theorem most_val : ∀ (L : List Big) (x : Big), (mostB x L).val = most x.val (L.map Big.val)
  | [], _ => rfl
  | y :: L, x => by
    show (mostB (if x.val < y.val then y else x) L).val = most (imax x.val y.val) (L.map Big.val)
    rw [most_val L]
    unfold imax
    split <;> rfl
/-- The cells of the rows up to the k-th point. -/
def rowD (l : List Pt) (x : Sp) (k : Nat) : List Value := (placesTo l x k).flatMap fun y => (lineB l false y).1.cells
def rowA (l : List Pt) (x : Sp) (k : Nat) : List Value := (placesTo l x k).flatMap fun y => (lineB l true y).2.cells
theorem rowD_in {l : List Pt} {x : Sp} {k : Nat} (hk : k < l.length) (h : inT x l[k] = true) : rowD l x (k + 1) = rowD l x k ++ (lineB l false l[k].place).1.cells := by
  unfold rowD
  rw [placesTo_in hk h, List.flatMap_append]
  simp
theorem rowA_in {l : List Pt} {x : Sp} {k : Nat} (hk : k < l.length) (h : inT x l[k] = true) : rowA l x (k + 1) = rowA l x k ++ (lineB l true l[k].place).2.cells := by
  unfold rowA
  rw [placesTo_in hk h, List.flatMap_append]
  simp
def lowsOf (l : List Pt) (x : Sp) : List Big := (placesT l x).tail.map fun y => (lineB l false y).1
def highsOf (l : List Pt) (x : Sp) : List Big := (placesT l x).tail.map fun y => (lineB l true y).2
theorem rowD_all (l : List Pt) (x : Sp) : rowD l x l.length = ((lineB l false x.lo).1 :: lowsOf l x).flatMap Big.cells := by
  unfold rowD lowsOf
  rw [placesTo_all]
  unfold placesT
  simp only [List.tail_cons, List.flatMap_cons, List.map_cons, List.flatMap_map]
theorem rowA_all (l : List Pt) (x : Sp) : rowA l x l.length = ((lineB l true x.lo).2 :: highsOf l x).flatMap Big.cells := by
  unfold rowA highsOf
  rw [placesTo_all]
  unfold placesT
  simp only [List.tail_cons, List.flatMap_cons, List.map_cons, List.flatMap_map]
theorem lows_len (l : List Pt) (x : Sp) : (placesTo l x l.length).length = (lowsOf l x).length + 1 ∧ (placesTo l x l.length).length = (highsOf l x).length + 1 := by
  unfold lowsOf highsOf
  rw [placesTo_all]
  unfold placesT
  simp
theorem lows_ok {l : List Pt} {x : Sp} (ht : tableB l = true) : ((lineB l false x.lo).1.ok ∧ ∀ y ∈ lowsOf l x, y.ok) ∧ (lineB l true x.lo).2.ok ∧ ∀ y ∈ highsOf l x, y.ok := by
  refine ⟨⟨(lineB_facts ht).1, fun y hy => ?_⟩, (lineB_facts ht).2.1, fun y hy => ?_⟩
  · obtain ⟨t, -, rfl⟩ := List.mem_map.1 hy
    exact (lineB_facts ht).1
  · obtain ⟨t, -, rfl⟩ := List.mem_map.1 hy
    exact (lineB_facts ht).2.1
theorem lows_is {l : List Pt} {x : Sp} (ht : tableB l = true) : fitR (leastB (lineB l false x.lo).1 (lowsOf l x)).val (mostB (lineB l true x.lo).2 (highsOf l x)).val = lookS l x := by
  unfold lookS lowsOf highsOf
  rw [least_val, most_val, List.map_map, List.map_map, (lineB_facts (up := false) (x := x.lo) ht).2.2.1, (lineB_facts (up := true) (x := x.lo) ht).2.2.2]
  congr 1
  · congr 1
    exact List.map_congr_left fun y _ => (lineB_facts ht).2.2.1
  · congr 1
    exact List.map_congr_left fun y _ => (lineB_facts ht).2.2.2
theorem lk_start (a : World) : LkAt a 0 [] [] ((a.alloc (.cells #[.slice none 0 0] 235)).alloc (.cells #[.slice none 0 0] 235)) := by
  have h1 : BoxIs (a.alloc (.cells #[.slice none 0 0] 235)) a.heap.size (.slice none 0 0) := ⟨boxAt_new a [.slice none 0 0] _⟩
  have h2 : BoxIs ((a.alloc (.cells #[.slice none 0 0] 235)).alloc (.cells #[.slice none 0 0] 235)) (a.heap.size + 1) (.slice none 0 0) := ⟨by
    have h := boxAt_new (a.alloc (.cells #[.slice none 0 0] 235)) [.slice none 0 0] 235
    rwa [show (a.alloc (.cells #[.slice none 0 0] 235)).heap.size = a.heap.size + 1 by simp] at h⟩
  exact ⟨((Grew.refl a).alloc _).alloc _, by simp, _, _, inferInstance, h2, World.ownsRow_nil _ _ _ _, World.ownsRow_nil _ _ _ _, rowsApart_nil _⟩
theorem lk_grew {a W W' : World} {n : Nat} {D A : List Value} (h : LkAt a n D A W) (g : Grew W W') : LkAt a n D A W' := by
  obtain ⟨hg, hb, vd, va, b6, b7, o1, o2, hap⟩ := h
  exact ⟨hg.trans g, Nat.le_trans hb g.size, vd, va, b6.grew g, b7.grew g, owns_grew o1 g, owns_grew o2 g, hap⟩
theorem look_bad (l : List Pt) (x : Sp) (h : (tableB l && x.okB) = false) (ao : Option Addr) (cap : Nat) (w : World) (hs : SlAt w (.slice ao l.length cap) l.length (l.flatMap Pt.cells)) :
    Calls Tryz.prog 204 #[.slice ao l.length cap, .agg #[.int .i64 x.lo, .int .i64 x.hi]] w fun e w' => e = .returned (.tuple #[.agg #[.int .i64 (lookR l x).s.lo, .int .i64 (lookR l x).s.hi], .int .i64 (lookR l x).e]) ∧ Grew w w' := by
  have HR := Lib.hid (show errR 2 = lookR l x by unfold lookR; rw [h]; rfl)
  cases h1 : tableB l
  · have HB := Lib.hid (fun w' (g : Grew w w') => is_int (show codeB (tableB l) 2 = 2 by rw [h1]; rfl) (spTable_any l (.slice ao l.length cap) w' (hs.grew g)))
    clear h h1 hs
    go_enter Tryz.func204, Tryz.ntmps204
    go_wp2_with (first | (go_at_call 89; (with_reducible refine call_later (HB.out _ gw) ?_); intro u))
    refine bodyPost_ret (by (simp [results, Tryz.results204, go_sem] <;> rfl)) rfl ?_
    exact ⟨ret_err HR.out rfl, gw⟩
  · have HB := Lib.hid (fun w' (g : Grew w w') => is_int (show codeB (tableB l) 2 = 0 by rw [h1]; rfl) (spTable_any l (.slice ao l.length cap) w' (hs.grew g)))
    rw [h1, Bool.true_and] at h
    have HC := Lib.hid (fun w' => is_int (show codeB x.okB 2 = 2 by rw [h]; rfl) (spCheck_any x w'))
    clear h h1 hs
    go_enter Tryz.func204, Tryz.ntmps204
    go_wp2_with (first | (go_at_call 89; (with_reducible refine call_later (HB.out _ gw) ?_); intro u) | (go_at_call 90; (with_reducible refine call_later (HC.out _) ?_); intro u))
    refine bodyPost_ret (by (simp [results, Tryz.results204, go_sem] <;> rfl)) rfl ?_
    exact ⟨ret_err HR.out rfl, gw⟩
theorem look_ok (l : List Pt) (x : Sp) (h1 : tableB l = true) (h2 : x.okB = true) (ao : Option Addr) (cap : Nat) (w : World) (hs : SlAt w (.slice ao l.length cap) l.length (l.flatMap Pt.cells)) :
    Calls Tryz.prog 204 #[.slice ao l.length cap, .agg #[.int .i64 x.lo, .int .i64 x.hi]] w fun e w' => e = .returned (.tuple #[.agg #[.int .i64 (lookS l x).s.lo, .int .i64 (lookS l x).s.hi], .int .i64 (lookS l x).e]) ∧ Grew w w' := by
  have HB := Lib.hid (fun w' (g : Grew w w') => is_int (show codeB (tableB l) 2 = 0 by rw [h1]; rfl) (spTable_any l (.slice ao l.length cap) w' (hs.grew g)))
  have HC := Lib.hid (fun w' => is_int (show codeB x.okB 2 = 0 by rw [h2]; rfl) (spCheck_any x w'))
  have HK := Lib.hid (fun (a : World) (g : Grew w a) h0 n hn D A W y h => lookClo_any l y h1 ao cap a (hs.grew g) w.heap.size h0 n hn D A W h)
  have HI := Lib.hid (fun (p : Pt) w' => is_bool (show x.hasB p.place = inT x p by unfold Sp.hasB inT; rw [h2, Bool.true_and]) (spIn_any x p.place w'))
  have Ht := Lib.hid h1
  obtain ⟨q1, q2, -, -⟩ := table_facts h1
  have hlen := placesTo_len l x
  have hm := hs.len_le
  unfold maxLen at hm
  obtain ⟨ao', cap', e1, -, hx⟩ := hs
  cases e1
  have HE := Lib.hid (SlAt.elem (f := Pt.cells) (c := 3) (fun _ => rfl) (by omega) hx)
  have Hlen := Lib.hid hlen
  clear hx h1 h2 hlen
  go_enter Tryz.func204, Tryz.ntmps204
  go_wp2_with (first | (go_at_call 89; (with_reducible refine call_later (HB.out _ ?_) ?_); (· exact gw); intro u1) | (go_at_call 90; (with_reducible refine call_later (HC.out _) ?_); intro u2) | (go_at_call 219; refine (HK.out u2.world gw (by go_simp) 0 (Nat.zero_le _) _ _ _ _ (lk_start u2.world)).mono ?_; rintro e w9 ⟨rfl, hk1⟩; obtain ⟨z1, rfl⟩ := later_of hk1.grew) | (go_at_call 219; refine (HK.out u2.world gw (by go_simp) 1 (by decide) _ _ _ _ hk1).mono ?_; rintro e w9 ⟨rfl, hk2⟩; obtain ⟨z2, rfl⟩ := later_of hk2.grew))
  go_loopw [35] (fun t wr => ∃ k : Nat, t = .int .i64 k ∧ k ≤ l.length ∧ Hid (LkAt u2.world (placesTo l x k).length (rowD l x k) (rowA l x k) wr)) (fun t _ => l.length - (intOf t).toNat)
  case atStart =>
    exact ⟨0, rfl, by omega, Lib.hid (by simpa [rowD, rowA, placesTo] using hk2)⟩
  case round =>
    obtain ⟨k, rfl, hk, HL⟩ := hrel
    obtain ⟨z, rfl⟩ := later_of HL.out.grew
    clear hk1 hk2
    have j6 : BlockIn z.world u2.world.heap.size := ⟨by have := HL.out.base; omega⟩
    have j7 : BlockIn z.world (u2.world.heap.size + 1) := ⟨by have := HL.out.base; omega⟩
    by_cases hlt : k < l.length
    · obtain ⟨b1, o1, e1, i1, hd1, hd2⟩ := HE.out k hlt
      cases e1
      have hc0 := hd1 _ rfl
      have hc1 := hd2 1 _ rfl
      have hc2 := hd2 2 _ rfl
      have jb : BlockIn w b1 := ⟨i1⟩
      clear hd1 hd2
      have HDn := Lib.hid (fun h => rowD_in (x := x) hlt h)
      have HAn := Lib.hid (fun h => rowA_in (x := x) hlt h)
      have Pin := Lib.hid (fun h => placesTo_in (x := x) hlt h)
      have Pout := Lib.hid (fun h => placesTo_out (x := x) hlt h)
      have hl2 : (placesTo l x k).length ≤ 66 := by have := Hlen.out k; omega
      generalize l[k] = p0 at *
      have HIp := Lib.hid (HI.out p0)
      cases c1 : inT x p0
      · rw [c1] at HIp
        have hn := Lib.hid (Pout.out c1)
        clear Pin Pout HDn HAn
        go_wp2_with (go_at_call 146; (with_reducible refine call_later (HIp.out _) ?_); intro u3)
        go_roundw
        case rel => exact ⟨k + 1, by go_num, by omega, Lib.hid (by unfold rowD rowA; rw [hn.out]; exact lk_grew HL.out gw)⟩
        case measure => simp [intOf]; omega
      · rw [c1] at HIp
        have hn := Lib.hid (Pin.out c1)
        have hD := Lib.hid (HDn.out c1)
        have hA := Lib.hid (HAn.out c1)
        clear Pin Pout HDn HAn
        go_wp2_with (first | (go_at_call 146; (with_reducible refine call_later (HIp.out _) ?_); intro u3) | (go_at_call 219; refine (HK.out u2.world gw (by go_simp) _ hl2 _ _ _ _ (lk_grew HL.out gw)).mono ?_; rintro e w9 ⟨rfl, hk3⟩; obtain ⟨z3, rfl⟩ := later_of hk3.grew))
        go_roundw
        case rel => exact ⟨k + 1, by go_num, by omega, Lib.hid (by rw [hn.out, List.length_append, hD.out, hA.out]; exact hk3)⟩
        case measure => simp [intOf]; omega
    · obtain rfl : k = l.length := by omega
      obtain ⟨hg, hb, vd, va, b6, b7, o1, o2, hap⟩ := HL.out
      rw [rowD_all] at o1
      rw [rowA_all] at o2
      obtain ⟨lo1, lo2⟩ := lows_ok (x := x) Ht.out
      have hfin := lows_is (x := x) Ht.out
      obtain ⟨e1, e2⟩ := lows_len l x
      rw [e1] at o1
      rw [e2] at o2
      have hl3 := Hlen.out l.length
      rw [e1] at hl3
      generalize hR : lookS l x = R at *
      clear HL Hlen HB HC HI HE HK Ht e1
      generalize (lineB l false x.lo).1 = xd at *
      generalize (lineB l true x.lo).2 = xa at *
      generalize lowsOf l x = Ld at *
      generalize highsOf l x = La at *
      obtain ⟨ao1, cap1, rfl, hc1, hm1⟩ := owns_cap o1 (by omega)
      obtain ⟨ao2, cap2, rfl, hc2, hm2⟩ := owns_cap o2 (by omega)
      have Hs1 := Lib.hid (SlAt.of_owns o1)
      have Hs2 := Lib.hid (SlAt.of_owns o2)
      have HX := Lib.hid (fun w h => hull_any xd Ld lo1.1 lo1.2 ao1 cap1 hc1 w h)
      have HY := Lib.hid (fun w h => hull_any xa La lo2.1 lo2.2 ao2 cap2 hc2 w h)
      have HF := Lib.hid (fun w => big_fit_any (leastB xd Ld) (mostB xa La) (leastB_ok _ _ lo1.1 lo1.2) (mostB_ok _ _ lo2.1 lo2.2) w)
      rw [hfin] at HF
      clear lo1 lo2 o1 o2 hap hfin
      have c6 := b6.c
      have c7 := b7.c
      clear b6 b7
      generalize leastB xd Ld = B1 at *
      generalize mostB xd Ld = B2 at *
      generalize leastB xa La = B3 at *
      generalize mostB xa La = B4 at *
      go_wp2_with (first | (go_at_call 192; (with_reducible refine call_later (HX.out _ (Hs1.out.grew gw)) ?_); intro u6) | (go_at_call 192; (with_reducible refine call_later (HY.out _ (Hs2.out.grew gw)) ?_); intro u7) | (go_at_call 80; (with_reducible refine call_later (HF.out _) ?_); intro u8))
      refine bodyPost_ret (by (simp [results, Tryz.results204, go_sem] <;> rfl)) rfl ?_
      exact ⟨by subst hR; rfl, gw⟩
theorem look_any : LookOk 204 := fun l x _ ao cap w hs => by
  cases h : (tableB l && x.okB)
  · exact look_bad l x h ao cap w hs
  · rw [show lookR l x = lookS l x by unfold lookR; rw [h]; rfl]
    rw [Bool.and_eq_true] at h
    exact look_ok l x h.1 h.2 ao cap w hs
end Go.Proofs.YtkeifgcncmilmaaGreat
