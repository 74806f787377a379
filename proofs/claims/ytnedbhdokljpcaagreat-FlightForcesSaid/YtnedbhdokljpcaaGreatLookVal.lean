/-
  Contracts of span.value and of the bounds that Look hands to it.
-/
import Derived.Test.YtnedbhdokljpcaaGreatLookLaw
import Derived.Test.YtnedbhdokljpcaaGreatFolds2
namespace Go.Proofs.YtnedbhdokljpcaaGreat
open Go.RowKit Go.Shelf
set_option maxRecDepth 100000
set_option maxHeartbeats 8000000
theorem table_facts {l : List Pt} (h : tableB l = true) : 1 ≤ l.length ∧ l.length ≤ 64 ∧ (∀ k (hk : k < l.length), l[k].okB = true) ∧ ∀ k (hk : k + 1 < l.length), l[k].place < l[k + 1].place := by
  unfold tableB at h
  simp only [Bool.and_eq_true, decide_eq_true_eq] at h
  obtain ⟨⟨h1, h2⟩, h3⟩ := h
  have key : ∀ k (hk : k < l.length), ptAt l k = true := fun k hk => List.all_eq_true.1 h3 k (by simpa using hk)
  refine ⟨h1, h2, fun k hk => ?_, fun k hk => ?_⟩
  · have := key k hk
    cases k with
    | zero => rwa [ptAt_zero l hk] at this
    | succ k => rw [ptAt_succ l k hk] at this; simp only [Bool.and_eq_true] at this; exact this.1
  · have := key (k + 1) hk
    rw [ptAt_succ l k hk] at this
    simp only [Bool.and_eq_true, decide_eq_true_eq] at this
    exact this.2
abbrev zPt : Pt := ⟨0, ⟨0, 0⟩⟩
theorem getD_is {l : List Pt} {k : Nat} (hk : k < l.length) : l.getD k zPt = l[k] := by simp [List.getElem?_eq_getElem hk]
/-- The lines of a table as tank-side numbers. -/
def lineB (l : List Pt) (up : Bool) (x : Int) : Big × Big :=
  if idxT x l = 0 then (ofB (bnd up (l.getD 0 zPt).value), ofB (bnd up (l.getD 0 zPt).value))
  else if idxT x l = l.length then (ofB (bnd up (l.getD (l.length - 1) zPt).value), ofB (bnd up (l.getD (l.length - 1) zPt).value))
  else if (l.getD (idxT x l) zPt).place = x then (ofB (bnd up (l.getD (idxT x l) zPt).value), ofB (bnd up (l.getD (idxT x l) zPt).value))
  else (segD up (l.getD (idxT x l - 1) zPt) (l.getD (idxT x l) zPt) x, segU up (l.getD (idxT x l - 1) zPt) (l.getD (idxT x l) zPt) x)
section
variable {l : List Pt} {up : Bool} {x : Int}
theorem bnd_i64 {p : Pt} (h : p.okB = true) (up : Bool) : I64 (bnd up p.value) := by
  have := (pt_bd h up).2
  unfold I64
  omega
theorem lineB_facts (ht : tableB l = true) : (lineB l up x).1.ok ∧ (lineB l up x).2.ok ∧ (lineB l up x).1.val = (lineR l up x).1 ∧ (lineB l up x).2.val = (lineR l up x).2 := by
  obtain ⟨h1, h2, h3, h4⟩ := table_facts ht
  have one : ∀ k (hk : k < l.length), (ofB (bnd up (l.getD k zPt).value)).ok := fun k hk => ofB_ok _ (by rw [getD_is hk]; exact bnd_i64 (h3 k hk) up)
  unfold lineB lineR
  by_cases c0 : idxT x l = 0
  · rw [if_pos c0, if_pos c0]
    exact ⟨one 0 (by omega), one 0 (by omega), ofB_val _, ofB_val _⟩
  rw [if_neg c0, if_neg c0]
  by_cases c1 : idxT x l = l.length
  · rw [if_pos c1, if_pos c1]
    exact ⟨one _ (by omega), one _ (by omega), ofB_val _, ofB_val _⟩
  rw [if_neg c1, if_neg c1]
  have hle := idxT_le x l
  have hlt : idxT x l < l.length := by omega
  have hp : (l.getD (idxT x l - 1) zPt).place < x := by rw [getD_is (show idxT x l - 1 < l.length by omega)]; exact idxT_below _ _ (by omega)
  have hq : x ≤ (l.getD (idxT x l) zPt).place := by rw [getD_is hlt]; exact idxT_above hlt
  by_cases c2 : (l.getD (idxT x l) zPt).place = x
  · rw [if_pos c2]
    refine ⟨one _ hlt, one _ hlt, ?_, ?_⟩
    · rw [ofB_val]
      have := (seg_end (up := up) (p := l.getD (idxT x l - 1) zPt) (q := l.getD (idxT x l) zPt) (by omega)).1
      simp only [c2] at this ⊢
      exact this.symm
    · rw [ofB_val]
      have := (seg_end (up := up) (p := l.getD (idxT x l - 1) zPt) (q := l.getD (idxT x l) zPt) (by omega)).2
      simp only [c2] at this ⊢
      exact this.symm
  · rw [if_neg c2]
    have hf := seg_facts (up := up) (p := l.getD (idxT x l - 1) zPt) (q := l.getD (idxT x l) zPt) (x := x) (by rw [getD_is (show idxT x l - 1 < l.length by omega)]; exact h3 _ _) (by rw [getD_is hlt]; exact h3 _ _) hp hq
    exact ⟨hf.2.2.2.1, hf.2.2.2.2.1, segD_val, segU_val⟩
end
theorem bndLo_any (v : Sp) (w : World) : Calls Tryz.prog 178 #[.agg #[.int .i64 v.lo, .int .i64 v.hi]] w fun e w' => e = .returned (.int .i64 (bnd false v)) ∧ Grew w w' := by
  go_enter Tryz.func178, Tryz.ntmps178
  go_wp2
  go_ret
  exact ⟨rfl, (by repeat (first | with_reducible exact Grew.refl _ | with_reducible apply Grew.alloc | with_reducible apply Grew.later | with_reducible apply Grew.drew | with_reducible apply Grew.store | with_reducible assumption))⟩
theorem bndHi_any (v : Sp) (w : World) : Calls Tryz.prog 179 #[.agg #[.int .i64 v.lo, .int .i64 v.hi]] w fun e w' => e = .returned (.int .i64 (bnd true v)) ∧ Grew w w' := by
  go_enter Tryz.func179, Tryz.ntmps179
  go_wp2
  go_ret
  exact ⟨rfl, (by repeat (first | with_reducible exact Grew.refl _ | with_reducible apply Grew.alloc | with_reducible apply Grew.later | with_reducible apply Grew.drew | with_reducible apply Grew.store | with_reducible assumption))⟩
theorem wrapI64 (x : Int) (h1 : -9223372036854775808 ≤ x) (h2 : x ≤ 9223372036854775807) : IntKind.i64.wrap x = x := by
  simp [IntKind.wrap, IntKind.bits, IntKind.signed]
  omega
theorem ofB_pos {d : Int} (h : 0 < d) (h2 : d < 18446744073709551616) : ofB d = ⟨false, 0, d⟩ := by
  unfold ofB mkBig
  congr 1
  · simp
    omega
  · omega
  · omega
theorem value_any (G : Nat) (eg : ∀ args w, (callFunc G args).run Tryz.prog w = .ok (.enter G args) w) (up : Bool) (HG : ∀ v w, Calls Tryz.prog G #[.agg #[.int .i64 v.lo, .int .i64 v.hi]] w fun e w' => e = .returned (.int .i64 (bnd up v)) ∧ Grew w w') (l : List Pt) (x : Int) (ht : tableB l = true) (ao : Option Addr) (cap : Nat) (w : World) (hs : SlAt w (.slice ao l.length cap) l.length (l.flatMap Pt.cells)) :
    Calls Tryz.prog 177 #[.slice ao l.length cap, .int .i64 x, .func (.func G) #[] #[]] w fun e w' => e = .returned (.tuple #[.agg #[.bool ((lineB l up x).1).neg, .int .u64 ((lineB l up x).1).hi, .int .u64 ((lineB l up x).1).lo], .agg #[.bool ((lineB l up x).2).neg, .int .u64 ((lineB l up x).2).hi, .int .u64 ((lineB l up x).2).lo]]) ∧ Grew w w' := by
  have hm := hs.len_le
  unfold maxLen at hm
  obtain ⟨ao', cap', e1, -, hx⟩ := hs
  cases e1
  have HE := Lib.hid (SlAt.elem (f := Pt.cells) (c := 3) (fun _ => rfl) (by omega) hx)
  clear hx
  obtain ⟨h1, h2, h3, h4⟩ := table_facts ht
  have H3 := Lib.hid h3
  have HGu := Lib.hid HG
  clear HG
  clear ht h3 h4
  generalize hL : lineB l up x = L at *
  have HL := Lib.hid hL
  clear hL
  go_enter Tryz.func177, Tryz.ntmps177
  go_wp2
  go_loopw [8] (fun t wr => ∃ i : Nat, t = .int .i64 i ∧ i ≤ l.length ∧ (∀ j (hj : j < l.length), j < i → l[j].place < x) ∧ Grew ((w.alloc (.cells #[.bool false, .int .u64 0, .int .u64 0] 208)).alloc (.cells #[.bool false, .int .u64 0, .int .u64 0] 208)) wr) (fun t _ => l.length - (intOf t).toNat)
  case atStart => exact ⟨0, rfl, by omega, fun _ _ h => by omega, (by repeat (first | with_reducible exact Grew.refl _ | with_reducible apply Grew.alloc | with_reducible apply Grew.later | with_reducible apply Grew.drew | with_reducible apply Grew.store | with_reducible assumption))⟩
  case round =>
    obtain ⟨i, rfl, hi, hbe, hg⟩ := hrel
    obtain ⟨z, rfl⟩ := later_of hg
    clear hg
    have Hbe := Lib.hid hbe
    clear hbe
    by_cases hlt : i < l.length
    · obtain ⟨b1, o1, e1, i1, hd1, hd2⟩ := HE.out i hlt
      have hc0 := hd1 _ rfl
      have hc1 := hd2 1 _ rfl
      have hc2 := hd2 2 _ rfl
      clear hd1 hd2
      cases e1
      have j1 : BlockIn w b1 := ⟨i1⟩
      have Hok := Lib.hid (H3.out i hlt)
      have Hd : Hid (l.getD i zPt = l[i]) := Lib.hid (getD_is hlt)
      by_cases hp : l[i].place < x
      · have Hn := Lib.hid (fun j (hj : j < l.length) (hji : j < i + 1) => show l[j].place < x by
          by_cases e : j = i
          · subst e; exact hp
          · exact Hbe.out j hj (by omega))
        generalize l[i] = q at *
        go_wp2
        go_roundw
        case rel => exact ⟨i + 1, by go_num, by omega, Hn.out, (by repeat (first | with_reducible exact Grew.refl _ | with_reducible apply Grew.alloc | with_reducible apply Grew.later | with_reducible apply Grew.drew | with_reducible apply Grew.store | with_reducible assumption))⟩
        case measure => simp [intOf]; omega
      · have Hidx := Lib.hid (show idxT x l = i from idxT_is (by omega) Hbe.out (fun _ => by omega))
        by_cases h0 : i = 0
        · have t0 : ((i : Int) == 0) = true := by simp [h0]
          have Hv := Lib.hid (show (ofB (bnd up l[i].value), ofB (bnd up l[i].value)) = L by rw [← HL.out]; unfold lineB; rw [Hidx.out, if_pos h0, ← Hd.out, h0])
          have HI := Lib.hid (bnd_i64 Hok.out up)
          generalize l[i] = q at *
          clear h0
          have HC := Lib.hid (fun w => HGu.out q.value w)
          have HO := Lib.hid (fun w => big_of_any (bnd up q.value) HI.out w)
          go_wp2_with (first | (go_at_fn G; refine call_later (HC.out _) ?_; intro u1) | (go_at_call 157; (with_reducible refine call_later (HO.out _) ?_); intro u2))
          go_region
          all_goals go_wp2
          all_goals
            refine bodyPost_ret (by (simp [results, Tryz.results177, go_sem] <;> rfl)) rfl ?_
            exact ⟨by rw [← Hv.out], (by repeat (first | with_reducible exact Grew.refl _ | with_reducible apply Grew.alloc | with_reducible apply Grew.later | with_reducible apply Grew.drew | with_reducible apply Grew.store | with_reducible assumption))⟩
        · have t0 : ((i : Int) == 0) = false := by simp [h0]
          have t1 : ((i : Int) == l.length) = false := by rw [beq_eq_false_iff_ne]; omega
          by_cases hx : l[i].place = x
          · have t2 : (l[i].place == x) = true := by simp [hx]
            have Hv := Lib.hid (show (ofB (bnd up l[i].value), ofB (bnd up l[i].value)) = L by rw [← HL.out]; unfold lineB; rw [Hidx.out, if_neg h0, if_neg (by omega), Hd.out, if_pos hx])
            have HI := Lib.hid (bnd_i64 Hok.out up)
            have hmin : i ≤ l.length - 1 := by omega
            generalize l[i] = q at *
            clear h0 hx
            have HC := Lib.hid (fun w => HGu.out q.value w)
            have HO := Lib.hid (fun w => big_of_any (bnd up q.value) HI.out w)
            go_wp2_with (first | (go_at_fn G; refine call_later (HC.out _) ?_; intro u1) | (go_at_call 157; (with_reducible refine call_later (HO.out _) ?_); intro u2))
            go_region
            all_goals go_wp2
            all_goals
              refine bodyPost_ret (by (simp [results, Tryz.results177, go_sem] <;> rfl)) rfl ?_
              exact ⟨by rw [← Hv.out], (by repeat (first | with_reducible exact Grew.refl _ | with_reducible apply Grew.alloc | with_reducible apply Grew.later | with_reducible apply Grew.drew | with_reducible apply Grew.store | with_reducible assumption))⟩
          · have t2 : (l[i].place == x) = false := by simp [hx]
            obtain ⟨b2, o2, e2, -, he1, he2⟩ := HE.out (i - 1) (by omega)
            cases e2
            have kc0 := he1 _ rfl
            have kc1 := he2 1 _ rfl
            have kc2 := he2 2 _ rfl
            clear he1 he2
            have Hv := Lib.hid (show (segD up l[i - 1] l[i] x, segU up l[i - 1] l[i] x) = L by rw [← HL.out]; unfold lineB; rw [Hidx.out, if_neg h0, if_neg (by omega), Hd.out, if_neg hx, getD_is (show i - 1 < l.length by omega)])
            have Hok1 := Lib.hid (H3.out (i - 1) (by omega))
            have hb := Hbe.out (i - 1) (by omega) (by omega)
            have p1 := pt_bd Hok1.out up
            have q1 := pt_bd Hok.out up
            have Hf := Lib.hid (seg_facts (up := up) Hok1.out Hok.out hb (by omega))
            have him : ((i : Int) - 1) = ((i - 1 : Nat) : Int) := by omega
            have hlt1 : i - 1 < l.length := by omega
            generalize l[i] = qA at *
            generalize l[i - 1] = pA at *
            generalize i - 1 = i' at *
            obtain ⟨fT, fD, fU, fE, fH, sD, sU, fA⟩ := Hf.out
            have qp := ofB_pos (d := qA.place - pA.place) (by omega) (by omega)
            have HT := Lib.hid (fun w => big_times_any (bnd up qA.value - bnd up pA.value) (x - pA.place) (by unfold I64; omega) (by unfold I64; omega) w)
            have HO := Lib.hid (fun w => big_of_any (qA.place - pA.place) (by unfold I64; omega) w)
            have HA := Lib.hid (fun w => big_of_any (bnd up pA.value) (by unfold I64; omega) w)
            have HD := Lib.hid (fun w => show Calls Tryz.prog 173 #[.agg #[.bool ((timesB (bnd up qA.value - bnd up pA.value) (x - pA.place))).neg, .int .u64 ((timesB (bnd up qA.value - bnd up pA.value) (x - pA.place))).hi, .int .u64 ((timesB (bnd up qA.value - bnd up pA.value) (x - pA.place))).lo], .agg #[.bool ((ofB (qA.place - pA.place))).neg, .int .u64 ((ofB (qA.place - pA.place))).hi, .int .u64 ((ofB (qA.place - pA.place))).lo]] w fun e w' => e = .returned (.tuple #[.agg #[.bool ((divDown (timesB (bnd up qA.value - bnd up pA.value) (x - pA.place)) (qA.place - pA.place))).neg, .int .u64 ((divDown (timesB (bnd up qA.value - bnd up pA.value) (x - pA.place)) (qA.place - pA.place))).hi, .int .u64 ((divDown (timesB (bnd up qA.value - bnd up pA.value) (x - pA.place)) (qA.place - pA.place))).lo], .agg #[.bool ((divUp (timesB (bnd up qA.value - bnd up pA.value) (x - pA.place)) (qA.place - pA.place))).neg, .int .u64 ((divUp (timesB (bnd up qA.value - bnd up pA.value) (x - pA.place)) (qA.place - pA.place))).hi, .int .u64 ((divUp (timesB (bnd up qA.value - bnd up pA.value) (x - pA.place)) (qA.place - pA.place))).lo]]) ∧ Grew w w' from by
              rw [qp]
              exact divide_any (timesB (bnd up qA.value - bnd up pA.value) (x - pA.place)) ⟨false, 0, qA.place - pA.place⟩ fT (big_ok0 _ (by omega) (by omega)) rfl (by show (1 : Int) ≤ qA.place - pA.place; omega) rfl w)
            have HP1 := Lib.hid (fun w => show Calls Tryz.prog 156 #[.agg #[.bool ((ofB (bnd up pA.value))).neg, .int .u64 ((ofB (bnd up pA.value))).hi, .int .u64 ((ofB (bnd up pA.value))).lo], .agg #[.bool ((divDown (timesB (bnd up qA.value - bnd up pA.value) (x - pA.place)) (qA.place - pA.place))).neg, .int .u64 ((divDown (timesB (bnd up qA.value - bnd up pA.value) (x - pA.place)) (qA.place - pA.place))).hi, .int .u64 ((divDown (timesB (bnd up qA.value - bnd up pA.value) (x - pA.place)) (qA.place - pA.place))).lo]] w fun e w' => e = .returned (.agg #[.bool ((segD up pA qA x)).neg, .int .u64 ((segD up pA qA x)).hi, .int .u64 ((segD up pA qA x)).lo]) ∧ Grew w w' from plus_any _ _ w fA fD sD)
            have HP2 := Lib.hid (fun w => show Calls Tryz.prog 156 #[.agg #[.bool ((ofB (bnd up pA.value))).neg, .int .u64 ((ofB (bnd up pA.value))).hi, .int .u64 ((ofB (bnd up pA.value))).lo], .agg #[.bool ((divUp (timesB (bnd up qA.value - bnd up pA.value) (x - pA.place)) (qA.place - pA.place))).neg, .int .u64 ((divUp (timesB (bnd up qA.value - bnd up pA.value) (x - pA.place)) (qA.place - pA.place))).hi, .int .u64 ((divUp (timesB (bnd up qA.value - bnd up pA.value) (x - pA.place)) (qA.place - pA.place))).lo]] w fun e w' => e = .returned (.agg #[.bool ((segU up pA qA x)).neg, .int .u64 ((segU up pA qA x)).hi, .int .u64 ((segU up pA qA x)).lo]) ∧ Grew w w' from plus_any _ _ w fA fU sU)
            clear fT fD fU fE fH sD sU fA Hf qp H3 HE Hbe Hok Hok1 Hd HL Hidx h0 hx
            obtain ⟨⟨a5, a6⟩, a1, a2⟩ := p1
            obtain ⟨⟨a7, a8⟩, a3, a4⟩ := q1
            generalize segD up pA qA x = D2 at *
            generalize segU up pA qA x = U2 at *
            generalize divDown (timesB (bnd up qA.value - bnd up pA.value) (x - pA.place)) (qA.place - pA.place) = D1 at *
            generalize divUp (timesB (bnd up qA.value - bnd up pA.value) (x - pA.place)) (qA.place - pA.place) = U1 at *
            generalize timesB (bnd up qA.value - bnd up pA.value) (x - pA.place) = T1 at *
            generalize ofB (qA.place - pA.place) = O1 at *
            generalize ofB (bnd up pA.value) = A1 at *
            have HGp := Lib.hid (fun w => HGu.out pA.value w)
            have HGq := Lib.hid (fun w => HGu.out qA.value w)
            generalize bnd up pA.value = vp at *
            generalize bnd up qA.value = vq at *
            have hw3 : IntKind.i64.wrap (vq - vp) = vq - vp := wrapI64 _ (by omega) (by omega)
            have hw4 : IntKind.i64.wrap (x - pA.place) = x - pA.place := wrapI64 _ (by omega) (by omega)
            have hw5 : IntKind.i64.wrap (qA.place - pA.place) = qA.place - pA.place := wrapI64 _ (by omega) (by omega)
            have hw : IntKind.i64.wrap ((i : Int) - 1) = (i' : Int) := by rw [him]; exact wrapI64 _ (by omega) (by omega)
            have k1 : (0 : Int) ≤ (i' : Int) := by omega
            have k2 : (i' : Int) < (l.length : Int) := by omega
            have k3 : (0 : Int) ≤ (i : Int) := by omega
            have k4 : (i : Int) < (l.length : Int) := by omega
            go_wp2
            go_region
            all_goals go_wp2
            all_goals
              refine wp_region_grown 10 [] [3, 7] [] (fun W0 => []) [.int .i64 vp, .int .i64 vq] [] (by rfl) (fun _ x hx => absurd hx (List.not_mem_nil)) (by kernel_rfl) (by kernel_rfl) (by kernel_rfl) ?_
              intro p
              apply Exists.intro
              apply And.intro
              apply lexg_pure (by kernel_rfl)
              · intro u; unfold opPure; go_simp; rfl
              apply lexg_pure (by kernel_rfl)
              · intro u; unfold opPure; go_simp; rfl
              apply lexg_pure (by kernel_rfl)
              · intro u; unfold opPure; go_simp; rfl
              apply lexg_call 0 (by kernel_rfl) (by rfl) (by decide)
              · intro u hF; clear hF; unfold opCall; go_simp; exact HGp.out _
              apply lexg_pure (by kernel_rfl)
              · intro u; unfold opPure; go_simp; rfl
              apply lexg_pure (by kernel_rfl)
              · intro u; unfold opPure; go_simp; rfl
              apply lexg_pure (by kernel_rfl)
              · intro u; unfold opPure; go_simp; rfl
              apply lexg_call 1 (by kernel_rfl) (by rfl) (by decide)
              · intro u hF; clear hF; unfold opCall; go_simp; exact HGq.out _
              apply lexg_pure (by kernel_rfl)
              · intro u; unfold opPure; go_simp; rfl
              apply lexg_pure (by kernel_rfl)
              · intro u; unfold opPure; go_simp; rfl
              apply lexg_end
              rotate_left
              · rfl
              intro u hR hD
              clear hR hD
              refine tail_end ?_
              go_simp
              go_wp2
              refine wp_region_grown 18 [] [7, 13, 14] [17] (fun W0 => []) [.agg #[.bool T1.neg, .int .u64 T1.hi, .int .u64 T1.lo], .agg #[.bool O1.neg, .int .u64 O1.hi, .int .u64 O1.lo], .tuple #[.agg #[.bool D1.neg, .int .u64 D1.hi, .int .u64 D1.lo], .agg #[.bool U1.neg, .int .u64 U1.hi, .int .u64 U1.lo]]] [18, 19] (by rfl) (fun _ x hx => absurd hx (List.not_mem_nil)) (by kernel_rfl) (by kernel_rfl) (by kernel_rfl) ?_
              intro p
              apply Exists.intro
              apply And.intro
              apply lexg_pure (by kernel_rfl)
              · intro u; unfold opPure; go_simp; rfl
              apply lexg_pure (by kernel_rfl)
              · intro u; unfold opPure; go_simp; rfl
              apply lexg_pure (by kernel_rfl)
              · intro u; unfold opPure; go_simp; rfl
              apply lexg_pure (by kernel_rfl)
              · intro u; unfold opPure; go_simp; rfl
              apply lexg_pure (by kernel_rfl)
              · intro u; unfold opPure; go_simp; rfl
              apply lexg_pure (by kernel_rfl)
              · intro u; unfold opPure; go_simp; rfl
              apply lexg_pure (by kernel_rfl)
              · intro u; unfold opPure; go_simp; rfl
              apply lexg_call 0 (by kernel_rfl) (by rfl) (by decide)
              · intro u hF; clear hF; unfold opCall; go_simp; exact HT.out _
              apply lexg_pure (by kernel_rfl)
              · intro u; unfold opPure; go_simp; rfl
              apply lexg_pure (by kernel_rfl)
              · intro u; unfold opPure; go_simp; rfl
              apply lexg_pure (by kernel_rfl)
              · intro u; unfold opPure; go_simp; rfl
              apply lexg_pure (by kernel_rfl)
              · intro u; unfold opPure; go_simp; rfl
              apply lexg_pure (by kernel_rfl)
              · intro u; unfold opPure; go_simp; rfl
              apply lexg_call 1 (by kernel_rfl) (by rfl) (by decide)
              · intro u hF; clear hF; unfold opCall; go_simp; exact HO.out _
              apply lexg_call 2 (by kernel_rfl) (by rfl) (by decide)
              · intro u hF; clear hF; unfold opCall; go_simp; exact HD.out _
              apply lexg_pure (by kernel_rfl)
              · intro u; unfold opPure; go_simp; rfl
              apply lexg_pure (by kernel_rfl)
              · intro u; unfold opPure; go_simp; rfl
              apply lexg_free (by kernel_rfl)
              · intro u; unfold opPure; go_simp; rfl
              apply lexg_end
              rotate_left
              · rfl
              intro u hR hD
              clear hR hD
              refine tail_store (by rfl) ?_; unfold opStore; go_simp
              refine tail_store (by rfl) ?_; unfold opStore; go_simp
              refine tail_end ?_
              go_simp
              go_wp2
              refine wp_region_grown 8 [] [1, 3, 5, 7] [] (fun W0 => []) [.agg #[.bool A1.neg, .int .u64 A1.hi, .int .u64 A1.lo], .agg #[.bool D2.neg, .int .u64 D2.hi, .int .u64 D2.lo], .agg #[.bool A1.neg, .int .u64 A1.hi, .int .u64 A1.lo], .agg #[.bool U2.neg, .int .u64 U2.hi, .int .u64 U2.lo]] [8, 9] (by rfl) (fun _ x hx => absurd hx (List.not_mem_nil)) (by kernel_rfl) (by kernel_rfl) (by kernel_rfl) ?_
              intro p
              apply Exists.intro
              apply And.intro
              apply lexg_pure (by kernel_rfl)
              · intro u; unfold opPure; go_simp; rfl
              apply lexg_call 0 (by kernel_rfl) (by rfl) (by decide)
              · intro u hF; clear hF; unfold opCall; go_simp; exact HA.out _
              apply lexg_pure (by kernel_rfl)
              · intro u; unfold opPure; go_simp; rfl
              apply lexg_call 1 (by kernel_rfl) (by rfl) (by decide)
              · intro u hF; clear hF; unfold opCall; go_simp; exact HP1.out _
              apply lexg_pure (by kernel_rfl)
              · intro u; unfold opPure; go_simp; rfl
              apply lexg_call 2 (by kernel_rfl) (by rfl) (by decide)
              · intro u hF; clear hF; unfold opCall; go_simp; exact HA.out _
              apply lexg_pure (by kernel_rfl)
              · intro u; unfold opPure; go_simp; rfl
              apply lexg_call 3 (by kernel_rfl) (by rfl) (by decide)
              · intro u hF; clear hF; unfold opCall; go_simp; exact HP2.out _
              apply lexg_end
              rotate_left
              · rfl
              intro u hR hD
              clear hR hD
              refine tail_store (by rfl) ?_; unfold opStore; go_simp
              refine tail_store (by rfl) ?_; unfold opStore; go_simp
              refine tail_end ?_
              go_wp2
              refine bodyPost_ret (by (simp [results, Tryz.results177, go_sem] <;> rfl)) rfl ?_
              exact ⟨by rw [← Hv.out], (by repeat (first | with_reducible exact Grew.refl _ | with_reducible apply Grew.alloc | with_reducible apply Grew.later | with_reducible apply Grew.drew | with_reducible apply Grew.store | with_reducible assumption))⟩
    · have hi2 : i = l.length := by omega
      have Hidx := Lib.hid (show idxT x l = i from idxT_is (by omega) Hbe.out (fun h => absurd h (by omega)))
      obtain ⟨k, hk⟩ : ∃ k, l.length = k + 1 := ⟨l.length - 1, by omega⟩
      have hkl : k < l.length := by omega
      obtain ⟨b1, o1, e1, i1, hd1, hd2⟩ := HE.out k hkl
      have hc0 := hd1 _ rfl
      have hc1 := hd2 1 _ rfl
      have hc2 := hd2 2 _ rfl
      clear hd1 hd2
      cases e1
      have j1 : BlockIn w b1 := ⟨i1⟩
      have Hok := Lib.hid (H3.out k hkl)
      have Hv := Lib.hid (show (ofB (bnd up l[k].value), ofB (bnd up l[k].value)) = L by rw [← HL.out]; unfold lineB; rw [Hidx.out, if_neg (by omega), if_pos hi2, show l.length - 1 = k by omega, getD_is hkl])
      have HI := Lib.hid (bnd_i64 Hok.out up)
      generalize l[k] = q at *
      subst hi2
      have c0 : ((l.length : Int) == 0) = false := by rw [beq_eq_false_iff_ne]; omega
      have him : ((l.length : Int) - 1) = k := by omega
      have hmin : min (l.length : Int) (k : Int) = k := Int.min_eq_right (by omega)
      clear HE Hbe H3 Hok HL Hidx hk hi hlt
      trace_state
      have HC := Lib.hid (fun w => HGu.out q.value w)
      have HO := Lib.hid (fun w => big_of_any (bnd up q.value) HI.out w)
      go_wp2_with (first | (go_at_fn G; refine call_later (HC.out _) ?_; intro u1) | (go_at_call 157; (with_reducible refine call_later (HO.out _) ?_); intro u2))
      go_region
      all_goals go_wp2
      all_goals
        refine bodyPost_ret (by (simp [results, Tryz.results177, go_sem] <;> rfl)) rfl ?_
        exact ⟨by rw [← Hv.out], (by repeat (first | with_reducible exact Grew.refl _ | with_reducible apply Grew.alloc | with_reducible apply Grew.later | with_reducible apply Grew.drew | with_reducible apply Grew.store | with_reducible assumption))⟩
end Go.Proofs.YtnedbhdokljpcaaGreat
