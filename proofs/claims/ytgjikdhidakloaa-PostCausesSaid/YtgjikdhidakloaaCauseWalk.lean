/-
  The contract of post.Causes' closure hit.
-/
import Derived.Test.YtgjikdhidakloaaCauseHit
import Derived.Deep.RegionHeld3
namespace Go.Proofs.Ytgjikdhidakloaa
open Go.RowKit
set_option maxRecDepth 100000
set_option maxHeartbeats 16000000
def HitPost (w0 : World) (bm bs bt bh bk bf base : Nat) (ao : Option Addr) (sets : List Nat) (cap K : Nat) (own : Nat) (v : Value) (S : List Nat) (H : List (Fin 256)) (W : World) (e : Ending) (w' : World) : Prop :=
  e = .returned (.tuple #[]) ∧ ∃ v' S' H', Went sets K S (H.map Fin.val) S' (H'.map Fin.val) ∧ own ∈ S' ∧ HitAt w0 bm bs bt bh bk bf base ao sets cap K v' S' H' w' ∧ KeepX bm bh v v' W w'
theorem seen_len {w0 : World} {bm bs bt bh bk bf base : Nat} {ao : Option Addr} {sets : List Nat} {cap K : Nat} {v : Value} {S : List Nat} {H : List (Fin 256)} {W : World} (hK : K ≤ 8)
    (h : HitAt w0 bm bs bt bh bk bf base ao sets cap K v S H W) : S.length ≤ 256 ∧ H.length ≤ 256 := by
  have h1 := nodup_len (2 ^ K) S h.nodup h.bound
  have h2 : 2 ^ K ≤ 256 := Nat.le_trans (Nat.pow_le_pow_right (by omega) hK) (by decide)
  have := h.len
  omega
theorem any_free (own : Nat) (sets : List Nat) (ho : own < 256) (hs : ∀ s ∈ sets, s < 256) : (toI sets).any (freeB own) = !hitsB sets own := by
  induction sets with
  | nil => rfl
  | cons s l ih =>
    have e : toI (s :: l) = ((s : Nat) : Int) :: toI l := rfl
    rw [e, List.any_cons, ih (fun x hx => hs x (by simp [hx])), free_nat own s ho (hs s (by simp))]
    unfold hitsB
    rw [List.all_cons]
    by_cases h0 : s &&& own = 0 <;> simp [h0]
theorem or_lt {a k K : Nat} (h : a < 2 ^ K) (hk : k < K) : (a ||| 2 ^ k) < 2 ^ K := Nat.or_lt_two_pow h (Nat.pow_lt_pow_right (by omega) hk)
theorem or_gt {s a k : Nat} (h0 : s &&& a = 0) (hb : s.testBit k = true) : a < a ||| 2 ^ k := by
  have hmk : a.testBit k = false := by
    have := congrArg (·.testBit k) h0
    simp only [Nat.testBit_and, Nat.zero_testBit, hb, Bool.true_and] at this
    exact this
  rcases Nat.lt_or_ge a (a ||| 2 ^ k) with h | h
  · exact h
  · have h1 : a ≤ a ||| 2 ^ k := Nat.left_le_or
    have h2 : a = a ||| 2 ^ k := by omega
    have h3 := congrArg (·.testBit k) h2
    simp only [Nat.testBit_or, two_bit, hmk, decide_true, Bool.or_true] at h3
    cases h3
theorem hit_any {w0 : World} {bm bs bt bh bk bf base : Nat} {ao : Option Addr} {sets : List Nat} {cap K : Nat} (p : Spots w0 bm bs bt bh bk bf base) (hK : K ≤ 8) (hsets : ∀ s ∈ sets, s < 2 ^ K)
    (hP : SlAt w0 (.slice ao sets.length cap) (toI sets).length ((toI sets).flatMap intC)) : ∀ d own : Nat, 256 - own ≤ d → own < 2 ^ K → ∀ v S H W, HitAt w0 bm bs bt bh bk bf base ao sets cap K v S H W →
    Calls Try.prog 51 #[.int .i64 own, .pointer (some ⟨bs, 0, none⟩), .pointer (some ⟨bt, 0, none⟩), .pointer (some ⟨bh, 0, none⟩), .pointer (some ⟨bk, 0, none⟩), .pointer (some ⟨bf, 0, none⟩)] W (HitPost w0 bm bs bt bh bk bf base ao sets cap K own v S H W) := by
  have hpw : 2 ^ K ≤ 256 := Nat.le_trans (Nat.pow_le_pow_right (by omega) hK) (by decide)
  intro d
  induction d with
  | zero => intro own hd ho; omega
  | succ d ih =>
    intro own hd ho v S H W h
    have ho8 : own < 256 := by omega
    have IH := Lib.hid ih
    clear ih
    have hc1 := h.c1
    have hc2 := h.c2
    have hc3 := h.c3
    have hc4 := h.c4
    have hc5 := h.c5
    have i1 : BlockIn W bs := BlockIn.of_cell hc1
    have i2 : BlockIn W bt := BlockIn.of_cell hc2
    have i3 : BlockIn W bh := BlockIn.of_cell hc3
    have i4 : BlockIn W bk := BlockIn.of_cell hc4
    have i5 : BlockIn W bf := BlockIn.of_cell hc5
    have SN := Lib.hid h.map
    by_cases hs : own ∈ S
    · have hdec : decide (own ∈ S) = true := decide_eq_true hs
      have HE := Lib.hid (fun W' (g : Grew W W') => show HitPost w0 bm bs bt bh bk bf base ao sets cap K own v S H W (.returned (.tuple #[])) W' from ⟨rfl, v, S, H, Went.refl _ _, hs, h.grewTo g, KeepX.grew g⟩)
      clear h hs
      go_enter Try.func51, Try.ntmps51
      go_wp2_with (at_lookup; go_loud (refine wpList_lookup_seen (SN.out.grew (by repeat (first | with_reducible exact Grew.refl _ | with_reducible apply Grew.alloc | with_reducible apply Grew.later | with_reducible apply Grew.drew | with_reducible apply Grew.store | with_reducible assumption))) rfl _ _ rfl rfl own rfl ho8 ?_; rw [hdec]))
      (try simp only [Exit.inBlock, Exit.then]); refine bodyPost_ret (results_none rfl _ _ _) rfl ?_
      exact HE.out _ (by repeat (first | with_reducible exact Grew.refl _ | with_reducible apply Grew.alloc | with_reducible apply Grew.later | with_reducible apply Grew.drew | with_reducible apply Grew.store | with_reducible assumption))
    · have hdec : decide (own ∈ S) = false := decide_eq_false hs
      have hlen := seen_len hK h
      have HH := Lib.hid h
      have HP := Lib.hid hP
      have HN := Lib.hid hs
      have hfar := h.far p.lt.2.2.2.1
      have HI := Lib.hid (fun k (hk : k < sets.length) => nat_cell hP k hk)
      have hidx := idxGo_is (freeB own) (toI sets) 0
      have hanyf := any_free own sets ho8 (fun s hs => by have := hsets s hs; omega)
      clear h hP hs
      rcases hidx with ⟨hi1, hi2⟩ | ⟨i, hil, hi1, hi2⟩
      · rw [hanyf] at hi2
        have Hhit := Lib.hid (show hitsB sets own = true by simpa using hi2)
        have Hidx := Lib.hid hi1
        clear hanyf hi1 hi2
        go_enter Try.func51, Try.ntmps51
        go_wp2_with (first
          | (at_lookup; go_loud (refine wpList_lookup_seen (SN.out.grew (by repeat (first | with_reducible exact Grew.refl _ | with_reducible apply Grew.alloc | with_reducible apply Grew.later | with_reducible apply Grew.drew | with_reducible apply Grew.store | with_reducible assumption))) rfl _ _ rfl rfl own rfl ho8 ?_; rw [hdec]))
          | (at_mapUpdate; go_loud (refine wpList_update_seen (SN.out.grew (by repeat (first | with_reducible exact Grew.refl _ | with_reducible apply Grew.alloc | with_reducible apply Grew.later | with_reducible apply Grew.drew | with_reducible apply Grew.store | with_reducible assumption))) (by omega) rfl _ _ _ rfl rfl own rfl rfl ho8 ?_; intro w1 hm1 hg1; obtain ⟨hA, hk1, hbx, hf1, hf2, hf3, hsz⟩ := HH.out.seen p ho HN.out hm1 hg1; clear hm1 hg1; have a1 := hA.c1; have a2 := hA.c2; have a3 := hA.c3; have a4 := hA.c4; have a5 := hA.c5; have j1 : BlockIn w1 bs := BlockIn.of_cell a1; have j2 : BlockIn w1 bt := BlockIn.of_cell a2; have j3 : BlockIn w1 bh := BlockIn.of_cell a3; have j4 : BlockIn w1 bk := BlockIn.of_cell a4; have j5 : BlockIn w1 bf := BlockIn.of_cell a5; have j6 : BlockIn w1 W.heap.size := BlockIn.of_cell hbx))
          | (go_at_call 52; go_loud (refine call_later (is_int Hidx.out (idxInt_any (freeB own) 53 #[.pointer (some ⟨W.heap.size, 0, none⟩)] (enters_of Try.func53 (by kernel_rfl) rfl) (toI sets) _ _ (HP.out.grew hA.grew) (fun W x hW => causes11_any own _ x W (hW.cell hbx)))) ?_; intro u2))
          | (at_builtin; go_loud (refine wpList_app_fd3 _ base (Nat.le_trans hA.above (show Grew w1 _ from (by repeat (first | with_reducible exact Grew.refl _ | with_reducible apply Grew.alloc | with_reducible apply Grew.later | with_reducible apply Grew.drew | with_reducible apply Grew.store | with_reducible assumption))).size) rfl _ _ rfl v H (owns_grew hA.own (by repeat (first | with_reducible exact Grew.refl _ | with_reducible apply Grew.alloc | with_reducible apply Grew.later | with_reducible apply Grew.drew | with_reducible apply Grew.store | with_reducible assumption))) rfl ⟨own, ho8⟩ _ rfl (by omega) ?_; intro g n2 cap2 w2 hown2 hgrow hat; have b3 := cell_app ((show Grew w1 _ from (by repeat (first | with_reducible exact Grew.refl _ | with_reducible apply Grew.alloc | with_reducible apply Grew.later | with_reducible apply Grew.drew | with_reducible apply Grew.store | with_reducible assumption))).cell a3) hgrow (hA.far p.lt.2.2.2.1); have jb3 : BlockIn w2 bh := BlockIn.of_cell b3; have fb3 := fz_kept ((show Grew w1 _ from (by repeat (first | with_reducible exact Grew.refl _ | with_reducible apply Grew.alloc | with_reducible apply Grew.later | with_reducible apply Grew.drew | with_reducible apply Grew.store | with_reducible assumption))).cell a3) (hA.grewTo (by repeat (first | with_reducible exact Grew.refl _ | with_reducible apply Grew.alloc | with_reducible apply Grew.later | with_reducible apply Grew.drew | with_reducible apply Grew.store | with_reducible assumption))).fz hgrow (hA.far p.lt.2.2.2.1))))
        (try simp only [Exit.inBlock, Exit.then]); refine bodyPost_ret (results_none rfl _ _ _) rfl ?_
        have hG : Grew w1 (u2.world.alloc (.cells #[.int .i64 own] 101)) := (by repeat (first | with_reducible exact Grew.refl _ | with_reducible apply Grew.alloc | with_reducible apply Grew.later | with_reducible apply Grew.drew | with_reducible apply Grew.store | with_reducible assumption))
        obtain ⟨q1, q2⟩ := (hA.grewTo hG).find p hown2 hgrow (by
          rcases hat with e | e
          · exact .inl e.symm
          · refine .inr (fun b hb => ?_)
            have hb : some g = some b := hb
            cases hb
            simp
            omega) (by have := HH.out.len; simp; omega)
        refine ⟨rfl, _, own :: S, H ++ [(⟨own, ho8⟩ : Fin 256)], ?_, by simp, q1, hk1.trans ((KeepX.grew hG).trans q2)⟩
        have := Went.add (H := H.map Fin.val) ho HN.out Hhit.out
        simpa using this
      · have Hidx := Lib.hid hi1
        clear hanyf hi1
        go_enter Try.func51, Try.ntmps51
        go_wp2_with (first
          | (at_lookup; go_loud (refine wpList_lookup_seen (SN.out.grew (by repeat (first | with_reducible exact Grew.refl _ | with_reducible apply Grew.alloc | with_reducible apply Grew.later | with_reducible apply Grew.drew | with_reducible apply Grew.store | with_reducible assumption))) rfl _ _ rfl rfl own rfl ho8 ?_; rw [hdec]))
          | (at_mapUpdate; go_loud (refine wpList_update_seen (SN.out.grew (by repeat (first | with_reducible exact Grew.refl _ | with_reducible apply Grew.alloc | with_reducible apply Grew.later | with_reducible apply Grew.drew | with_reducible apply Grew.store | with_reducible assumption))) (by omega) rfl _ _ _ rfl rfl own rfl rfl ho8 ?_; intro w1 hm1 hg1; obtain ⟨hA, hk1, hbx, hf1, hf2, hf3, hsz⟩ := HH.out.seen p ho HN.out hm1 hg1; clear hm1 hg1; have a1 := hA.c1; have a2 := hA.c2; have a3 := hA.c3; have a4 := hA.c4; have a5 := hA.c5; have j1 : BlockIn w1 bs := BlockIn.of_cell a1; have j2 : BlockIn w1 bt := BlockIn.of_cell a2; have j3 : BlockIn w1 bh := BlockIn.of_cell a3; have j4 : BlockIn w1 bk := BlockIn.of_cell a4; have j5 : BlockIn w1 bf := BlockIn.of_cell a5; have j6 : BlockIn w1 W.heap.size := BlockIn.of_cell hbx))
          | (go_at_call 52; go_loud (refine call_later (is_int Hidx.out (idxInt_any (freeB own) 53 #[.pointer (some ⟨W.heap.size, 0, none⟩)] (enters_of Try.func53 (by kernel_rfl) rfl) (toI sets) _ _ (HP.out.grew hA.grew) (fun W x hW => causes11_any own _ x W (hW.cell hbx)))) ?_; intro u2)))
        have hil' : i < sets.length := by simpa [toI_len] using hil
        have hsi : sets[i] < 2 ^ K := hsets _ (List.getElem_mem hil')
        have hfree : sets[i] &&& own = 0 := by
          have e : (toI sets)[i] = ((sets[i] : Nat) : Int) := List.getElem_map ..
          rw [e, free_nat own _ ho8 (by omega)] at hi2
          exact of_decide_eq_true hi2
        have hmem : sets[i] ∈ sets := List.getElem_mem hil'
        obtain ⟨b, off, cap', e, hbi, hcell⟩ := HI.out i hil'
        cases e
        generalize sets[i] = s at *
        go_loopw [25] (fun t wr => ∃ (k : Nat) (v' : Value) (S' : List Nat) (H' : List (Fin 256)), t = .int .i64 k ∧ k ≤ K ∧ Went sets K (own :: S) (H.map Fin.val) S' (H'.map Fin.val) ∧ (∀ j, j < k → s.testBit j = true → (own ||| 2 ^ j) ∈ S') ∧ HitAt w0 bm bs bt bh bk bf base (some ⟨b, off, none⟩) sets cap K v' S' H' wr ∧ KeepX bm bh v v' w1 wr) (fun t _ => K - (intOf t).toNat)
        case atStart => exact ⟨0, v, own :: S, H, rfl, by omega, Went.refl _ _, fun j hj => by omega, hA.grewTo (by repeat (first | with_reducible exact Grew.refl _ | with_reducible apply Grew.alloc | with_reducible apply Grew.later | with_reducible apply Grew.drew | with_reducible apply Grew.store | with_reducible assumption)), KeepX.grew (by repeat (first | with_reducible exact Grew.refl _ | with_reducible apply Grew.alloc | with_reducible apply Grew.later | with_reducible apply Grew.drew | with_reducible apply Grew.store | with_reducible assumption))⟩
        case round =>
          obtain ⟨k, v', S', H', rfl, hk, hw, hb, hB, hX⟩ := hrel
          have b1 := hB.c1
          have b2 := hB.c2
          have b3 := hB.c3
          have b4 := hB.c4
          have b5 := hB.c5
          have bx := hX.cell _ 0 _ hf2 hf3 hf1 hbx
          have bc := hB.grew.cell hcell
          have l1 : BlockIn wr bs := BlockIn.of_cell b1
          have l2 : BlockIn wr bt := BlockIn.of_cell b2
          have l3 : BlockIn wr bh := BlockIn.of_cell b3
          have l4 : BlockIn wr bk := BlockIn.of_cell b4
          have l5 : BlockIn wr bf := BlockIn.of_cell b5
          have l6 : BlockIn wr W.heap.size := BlockIn.of_cell bx
          have l7 : BlockIn wr b := BlockIn.of_cell bc
          have hf4 : v'.ownBlock ≠ some W.heap.size := by
            rcases hX.row with e | e
            · rw [e]; exact hf1
            · intro e2
              have := e _ e2
              omega
          have HB := Lib.hid hB
          have HX := Lib.hid hX
          have HW := Lib.hid hw
          have Hb := Lib.hid hb
          clear hB hX hw hb hc1 hc2 hc3 hc4 hc5 i1 i2 i3 i4 i5 a1 a2 a3 a4 a5 j1 j2 j3 j4 j5 j6 hbx
          by_cases hlt : k < K
          · have hsb : (s : Int) / 2 ^ k = ((s / 2 ^ k : Nat) : Int) := by rw [Int.natCast_ediv]; simp
            have hdle : s / 2 ^ k ≤ s := Nat.div_le_self _ _
            have hand : bits .and .i64 ((s / 2 ^ k : Nat) : Int) 1 = ((s / 2 ^ k % 2 : Nat) : Int) := by
              have := bits_and (s / 2 ^ k) 1 (by omega) (by omega)
              rw [Nat.and_one_is_mod] at this
              exact this
            have htb : s.testBit k = decide (s / 2 ^ k % 2 = 1) := by rw [Nat.testBit_eq_decide_div_mod_eq]
            cases hbit : s.testBit k
            · rw [hbit] at htb
              replace htb := of_decide_eq_false htb.symm
              have hq : (bits .and .i64 ((s : Int) / 2 ^ k) 1 == 1) = false := by
                rw [hsb, hand]
                simp
                omega
              clear hsb hand hdle htb
              go_wp2
              go_roundw
              case rel =>
                refine ⟨k + 1, v', S', H', by go_num, by omega, HW.out, fun j hj hjb => ?_, HB.out.grewTo (by repeat (first | with_reducible exact Grew.refl _ | with_reducible apply Grew.alloc | with_reducible apply Grew.later | with_reducible apply Grew.drew | with_reducible apply Grew.store | with_reducible assumption)), HX.out.trans (KeepX.grew (by repeat (first | with_reducible exact Grew.refl _ | with_reducible apply Grew.alloc | with_reducible apply Grew.later | with_reducible apply Grew.drew | with_reducible apply Grew.store | with_reducible assumption)))⟩
                by_cases e : j = k
                · subst e
                  rw [hbit] at hjb
                  cases hjb
                · exact Hb.out j (by omega) hjb
              case measure => simp [intOf]; omega
            · rw [hbit] at htb
              replace htb := of_decide_eq_true htb.symm
              have hq : (bits .and .i64 ((s : Int) / 2 ^ k) 1 == 1) = true := by
                rw [hsb, hand, htb]
                rfl
              have hor := or_lt ho hlt
              have hgt := or_gt hfree hbit
              have HC := Lib.hid (fun W' (g : Grew wr W') => IH.out (own ||| 2 ^ k) (by omega) hor v' S' H' W' (HB.out.grewTo g))
              have hpk : 2 ^ k < 4294967296 := Nat.lt_of_lt_of_le (Nat.pow_lt_pow_right (by omega) (show k < 32 by omega)) (by decide)
              have hbo : bits .or .i64 (own : Int) (IntKind.i64.wrap (2 ^ k)) = ((own ||| 2 ^ k : Nat) : Int) := by
                have e1 : IntKind.i64.wrap (2 ^ k) = ((2 ^ k : Nat) : Int) := by
                  have e0 : ((2 : Int) ^ k) = ((2 ^ k : Nat) : Int) := by simp
                  rw [e0]
                  have hpk' := hpk
                  generalize 2 ^ k = q at hpk' ⊢
                  exact wrapI _ (by omega) (by omega)
                rw [e1]
                exact bits_or own (2 ^ k) (by omega) hpk
              have Hn2 : Hid (∃ n2, n2 = own ||| 2 ^ k) := Lib.hid ⟨_, rfl⟩
              generalize hn2 : own ||| 2 ^ k = n2 at *
              have HN2 := Lib.hid hn2
              clear hn2 Hn2
              clear hsb hand hdle htb hgt hpk
              go_wp2
              go_region_held3 (fun w' => w'.cell? ⟨bf, 0, none⟩ = some (.func (.func 51) #[] #[.pointer (some ⟨bs, 0, none⟩), .pointer (some ⟨bt, 0, none⟩), .pointer (some ⟨bh, 0, none⟩), .pointer (some ⟨bk, 0, none⟩), .pointer (some ⟨bf, 0, none⟩)]) ∧ w'.cell? ⟨W.heap.size, 0, none⟩ = some (.int .i64 own)) (exact ⟨by first | (go_simp; done) | exact g3.c5, by first | (go_simp; done) | (exact g4.cell _ 0 _ hf2 hf3 hf4 (by go_simp))⟩)
                ((go_at_call 51; go_loud (refine (HC.out _ (by repeat (first | with_reducible exact Grew.refl _ | with_reducible apply Grew.alloc | with_reducible apply Grew.later | with_reducible apply Grew.drew | with_reducible apply Grew.store | with_reducible assumption))).mono ?_; rintro e w2 ⟨rfl, v2, S2, H2, g1, g2, g3, g4⟩)))
              go_wp2
              go_roundw
              case rel =>
                refine ⟨k + 1, v2, S2, H2, by go_num, by omega, HW.out.trans g1, fun j hj hjb => ?_, g3, HX.out.trans ((KeepX.grew (by repeat (first | with_reducible exact Grew.refl _ | with_reducible apply Grew.alloc | with_reducible apply Grew.later | with_reducible apply Grew.drew | with_reducible apply Grew.store | with_reducible assumption))).trans g4)⟩
                by_cases e : j = k
                · subst e
                  rw [HN2.out]
                  exact g2
                · exact g1.seen _ (Hb.out j (by omega) hjb)
              case measure => simp [intOf]; omega
          · obtain rfl : k = K := by omega
            go_wp2
            go_end0
            exact ⟨rfl, v', S', H', Went.tries ho HN.out hmem hfree HW.out Hb.out, HW.out.seen own List.mem_cons_self, HB.out, hk1.trans HX.out⟩
end Go.Proofs.Ytgjikdhidakloaa
