/-
  The contract of post.Causes.
-/
import Derived.Test.YtgjikdhidakloaaCauseWalk
namespace Go.Proofs.Ytgjikdhidakloaa
open Go.RowKit
set_option maxRecDepth 100000
set_option maxHeartbeats 16000000
@[go_sem] theorem run_store_func (P : Program) (w : World) (a : Addr) (f : Fn) (ts lb : Array Value) (m : Go.Mode) : (store a (.func f ts lb) m).run P w = match w.cell? a with
      | some _ => if w.frozen? a then .halt (.unsupported (.unsafePointer "a write to bytes that a string shares")) w else .ok () (w.setCell a (.func f ts lb))
      | none => match w.farStore P a (.func f ts lb) (m == .atomic) with
        | .ok (w', _) => .ok () w'
        | .error h => .halt h w := run_store P w a _ m rfl
theorem owns_mono {w : World} {base base' : Nat} {e : TypeId} {size : Nat} {v : Value} {n : Nat} {xs : List Value} (h : w.ownsRow base e size v n xs) (hb : base' ≤ base) : w.ownsRow base' e size v n xs := by
  obtain ⟨h1, h2⟩ := h
  refine ⟨h1, ?_⟩
  rcases h2 with h2 | ⟨b, cap, cur, hv, hg, hh, r⟩
  · exact .inl h2
  · exact .inr ⟨b, cap, cur, hv, Nat.le_trans hb hg, hh, r⟩
theorem hitAt_start {w y : World} {ao : Option Addr} {sets : List Nat} {cap K : Nat} (g : Grew w y) (hcs : y.cell? ⟨w.heap.size, 0, none⟩ = some (.slice ao sets.length cap)) (hck : y.cell? ⟨w.heap.size + 1, 0, none⟩ = some (.int .i64 K)) :
    Spots w y.heap.size (y.heap.size + 1) w.heap.size (y.heap.size + 1 + 1) (w.heap.size + 1) (y.heap.size + 1 + 1 + 1) (y.heap.size + 1 + 1 + 1 + 1) ∧
    HitAt w y.heap.size (y.heap.size + 1) w.heap.size (y.heap.size + 1 + 1) (w.heap.size + 1) (y.heap.size + 1 + 1 + 1) (y.heap.size + 1 + 1 + 1 + 1) ao sets cap K (.slice none 0 0) [] []
      ((((y.alloc (.map #[] 0)).alloc (.cells #[.map (some y.heap.size)] 94)).alloc (.cells #[.slice none 0 0] 95)).alloc (.cells #[.func (.func 51) #[] #[.pointer (some ⟨y.heap.size + 1, 0, none⟩), .pointer (some ⟨w.heap.size, 0, none⟩), .pointer (some ⟨y.heap.size + 1 + 1, 0, none⟩), .pointer (some ⟨w.heap.size + 1, 0, none⟩), .pointer (some ⟨y.heap.size + 1 + 1 + 1, 0, none⟩)]] 96)) := by
  have h1 : w.heap.size < y.heap.size := World.block_lt_of_cell? y _ hcs
  have h2 : w.heap.size + 1 < y.heap.size := World.block_lt_of_cell? y _ hck
  have i1 : BlockIn y w.heap.size := ⟨h1⟩
  have i2 : BlockIn y (w.heap.size + 1) := ⟨h2⟩
  refine ⟨⟨by omega, by omega, by omega⟩, ?_⟩
  exact {
    grew := (((g.alloc _).alloc _).alloc _).alloc _
    above := by simp
    c1 := by go_simp
    c2 := by go_simp
    c3 := by go_simp
    c4 := by go_simp
    c5 := by go_simp
    map := (SeenAt.made y).grew ((((Grew.refl _).alloc _).alloc _).alloc _)
    own := World.ownsRow_nil _ _ _ _
    nodup := List.nodup_nil
    bound := by simp
    len := by simp
    fz := by go_simp }
theorem postCauses_any (P : List Int) (n : Int) (hn8 : n ≤ 8 ∨ 12 < n) (v : Value) (w : World) (h : SlAt w v P.length (P.flatMap intC)) : Calls Try.prog 25 #[v, .int .i64 n] w (RetIntsC (causesR P n) (causesCode P n) w) := by
  have HI := Lib.hid (fun k hk => int_cell h k hk)
  have HSl := Lib.hid h
  obtain ⟨ao, cap, rfl, hm⟩ := sl_form h
  clear h
  by_cases hl : 64 < P.length
  · have hC : causesCode P n = 3 := by unfold causesCode; rw [if_pos hl]
    have HR := Lib.hid (show [] = causesR P n by unfold causesR; rw [if_neg (by rw [hC]; decide)])
    have HC := Lib.hid hC.symm
    clear hC
    have hl' : (64 : Int) < P.length := by omega
    go_enter Try.func25, Try.ntmps25
    go_wp2
    go_ret2
    exact RetIntsC.full HR.out HC.out (SlAt.nil _) (by repeat (first | with_reducible exact Grew.refl _ | with_reducible apply Grew.alloc | with_reducible apply Grew.later | with_reducible apply Grew.drew | with_reducible apply Grew.store | with_reducible assumption))
  have hl' : ¬ ((64 : Int) < P.length) := by omega
  by_cases hn : n < 0 ∨ 12 < n
  · have hC : causesCode P n = 2 := by unfold causesCode; rw [if_neg hl, if_pos hn]
    have HR := Lib.hid (show [] = causesR P n by unfold causesR; rw [if_neg (by rw [hC]; decide)])
    have HC := Lib.hid hC.symm
    clear hC
    by_cases hn0 : n < 0
    all_goals
      go_enter Try.func25, Try.ntmps25
      go_wp2
      go_ret2
      exact RetIntsC.full HR.out HC.out (SlAt.nil _) (by repeat (first | with_reducible exact Grew.refl _ | with_reducible apply Grew.alloc | with_reducible apply Grew.later | with_reducible apply Grew.drew | with_reducible apply Grew.store | with_reducible assumption))
  have hn0 : ¬ n < 0 := fun h => hn (.inl h)
  have hn12 : ¬ 12 < n := fun h => hn (.inr h)
  obtain ⟨K, rfl⟩ : ∃ K : Nat, n = K := ⟨n.toNat, by omega⟩
  have hK : K ≤ 8 := by omega
  have hC : causesCode P K = codeB (setsOkB P K) 2 := by unfold causesCode; rw [if_neg hl, if_neg hn]; rfl
  have hpw : 2 ^ K ≤ 256 := Nat.le_trans (Nat.pow_le_pow_right (by omega) hK) (by decide)
  have hsh : IntKind.i64.wrap (2 ^ K) = ((2 ^ K : Nat) : Int) := by
    have e0 : ((2 : Int) ^ K) = ((2 ^ K : Nat) : Int) := by simp
    rw [e0]
    have hpk' := hpw
    generalize 2 ^ K = q at hpk' ⊢
    exact wrapI _ (by omega) (by omega)
  clear hn hn8 hl
  cases hok : setsOkB P K
  · rw [hok] at hC
    have hC' : causesCode P K = 2 := hC
    clear hC
    have HR := Lib.hid (show [] = causesR P K by unfold causesR; rw [if_neg (by rw [hC']; decide)])
    have HC := Lib.hid hC'.symm
    have Hall := Lib.hid (show ¬ ∀ k (hk : k < P.length), 1 ≤ P[k] ∧ P[k] < ((2 ^ K : Nat) : Int) by
      intro hall
      have : setsOkB P K = true := by
        unfold setsOkB
        rw [List.all_eq_true]
        intro x hx
        obtain ⟨i, hi, e⟩ := List.mem_iff_getElem.1 hx
        rw [← e]
        have := hall i hi
        simp only [Bool.and_eq_true, decide_eq_true_eq]
        exact this
      rw [hok] at this
      cases this)
    clear hC' hok
    generalize 2 ^ K = q at *
    go_enter Try.func25, Try.ntmps25
    go_wp2
    go_loopw [22] (fun t wr => ∃ k : Nat, t = .int .i64 k ∧ k ≤ P.length ∧ (∀ i (hi : i < P.length), i < k → 1 ≤ P[i] ∧ P[i] < (q : Int)) ∧ wr.cell? ⟨w.heap.size + 1, 0, none⟩ = some (.int .i64 K) ∧ Grew w wr) (fun t _ => P.length - (intOf t).toNat)
    case atStart => exact ⟨0, rfl, by omega, fun i _ hi => by omega, by simp, (by repeat (first | with_reducible exact Grew.refl _ | with_reducible apply Grew.alloc | with_reducible apply Grew.later | with_reducible apply Grew.drew | with_reducible apply Grew.store | with_reducible assumption))⟩
    case round =>
      obtain ⟨k, rfl, hk, hbe, hck, hg⟩ := hrel
      obtain ⟨y, rfl⟩ := later_of hg
      clear hg
      have ik : BlockIn y.world (w.heap.size + 1) := BlockIn.of_cell hck
      by_cases hlt : k < P.length
      · obtain ⟨b, off, cap', e, hbi, hcell⟩ := HI.out k hlt
        cases e
        have Hbe := Lib.hid (fun (hx : 1 ≤ P[k] ∧ P[k] < (q : Int)) i (hi : i < P.length) (hik : i < k + 1) => show 1 ≤ P[i] ∧ P[i] < (q : Int) by
          by_cases e : i = k
          · subst e; exact hx
          · exact hbe i hi (by omega))
        clear hbe
        generalize P[k] = x at *
        by_cases h1 : x < 1
        · go_wp2
          go_ret2
          exact RetIntsC.full HR.out HC.out (SlAt.nil _) (by repeat (first | with_reducible exact Grew.refl _ | with_reducible apply Grew.alloc | with_reducible apply Grew.later | with_reducible apply Grew.drew | with_reducible apply Grew.store | with_reducible assumption))
        by_cases h2 : (q : Int) ≤ x
        · go_wp2
          go_ret2
          exact RetIntsC.full HR.out HC.out (SlAt.nil _) (by repeat (first | with_reducible exact Grew.refl _ | with_reducible apply Grew.alloc | with_reducible apply Grew.later | with_reducible apply Grew.drew | with_reducible apply Grew.store | with_reducible assumption))
        · go_wp2
          go_roundw
          case rel => exact ⟨k + 1, by go_num, by omega, Hbe.out ⟨by omega, by omega⟩, hck, (by repeat (first | with_reducible exact Grew.refl _ | with_reducible apply Grew.alloc | with_reducible apply Grew.later | with_reducible apply Grew.drew | with_reducible apply Grew.store | with_reducible assumption))⟩
          case measure => simp [intOf]; omega
      · exact absurd (fun k' hk' => hbe k' hk' (by omega)) Hall.out
  · rw [hok] at hC
    have hC' : causesCode P K = 0 := hC
    clear hC
    have HR0 := (show toI (leastR (allHits (P.map Int.toNat) K) 13) = causesR P K by unfold causesR; rw [if_pos hC']; rfl)
    have HC := Lib.hid hC'.symm
    have hget := setsOk_get hok
    have hnat := setsOk_nat hok
    generalize P.map Int.toNat = sets at *
    subst hnat
    have hsl : (toI sets).length = sets.length := toI_len sets
    have HI' := Lib.hid (fun k (hk : k < sets.length) => show ∃ b off c, Value.slice ao sets.length cap = .slice (some ⟨b, off, none⟩) sets.length c ∧ BlockIn w b ∧ w.cell? ⟨b, off + k, none⟩ = some (.int .i64 (sets[k] : Nat)) by
      obtain ⟨b, off, c, e, h1, h2⟩ := HI.out k (by rw [hsl]; exact hk)
      refine ⟨b, off, c, by rw [← hsl]; exact e, h1, ?_⟩
      rw [h2]
      exact congrArg (fun z : Int => some (Value.int .i64 z)) (List.getElem_map ..))
    have HG := Lib.hid (fun k (hk : k < sets.length) => show 1 ≤ sets[k] ∧ sets[k] < 2 ^ K by
      have := hget k (by rw [hsl]; exact hk)
      have e : (toI sets)[k]'(by rw [hsl]; exact hk) = ((sets[k] : Nat) : Int) := List.getElem_map ..
      rw [e] at this
      omega)
    have HSl' := Lib.hid (show SlAt w (.slice ao sets.length cap) (toI sets).length ((toI sets).flatMap intC) by
      have := HSl.out
      rw [← hsl]
      exact this)
    rw [hsl] at hl' hm ⊢
    have HR := Lib.hid HR0
    have Hsets := Lib.hid (show ∀ s ∈ sets, s < 2 ^ K by
      intro s hs
      obtain ⟨i, hi, e⟩ := List.mem_iff_getElem.1 hs
      rw [← e]
      exact (HG.out i hi).2)
    have Hpos := Lib.hid (show 0 < 2 ^ K from Nat.pow_pos (by omega))
    clear HR0 hget HI hok hC' hsl HSl
    generalize hq : 2 ^ K = q at hsh hpw HG
    have Hq := Lib.hid hq
    clear hq
    have hmm := @run_makeMap Try.prog
    go_enter Try.func25, Try.ntmps25
    go_wp2
    go_loopw [22] (fun t wr => ∃ k : Nat, t = .int .i64 k ∧ k ≤ sets.length ∧ wr.cell? ⟨w.heap.size, 0, none⟩ = some (.slice ao sets.length cap) ∧ wr.cell? ⟨w.heap.size + 1, 0, none⟩ = some (.int .i64 K) ∧ Grew w wr) (fun t _ => sets.length - (intOf t).toNat)
    case atStart => exact ⟨0, rfl, by omega, by simp, by simp, (by repeat (first | with_reducible exact Grew.refl _ | with_reducible apply Grew.alloc | with_reducible apply Grew.later | with_reducible apply Grew.drew | with_reducible apply Grew.store | with_reducible assumption))⟩
    case round =>
      obtain ⟨k, rfl, hk, hcs, hck, hg⟩ := hrel
      obtain ⟨y, rfl⟩ := later_of hg
      clear hg
      have is : BlockIn y.world w.heap.size := BlockIn.of_cell hcs
      have ik : BlockIn y.world (w.heap.size + 1) := BlockIn.of_cell hck
      by_cases hlt : k < sets.length
      · obtain ⟨b, off, cap', e, hbi, hcell⟩ := HI'.out k hlt
        cases e
        obtain ⟨hx1, hx2⟩ := HG.out k hlt
        generalize sets[k] = x at *
        have h1 : ¬ ((x : Int) < 1) := by omega
        have h2 : ¬ ((q : Int) ≤ x) := by omega
        go_wp2
        go_roundw
        case rel => exact ⟨k + 1, by go_num, by omega, hcs, hck, (by repeat (first | with_reducible exact Grew.refl _ | with_reducible apply Grew.alloc | with_reducible apply Grew.later | with_reducible apply Grew.drew | with_reducible apply Grew.store | with_reducible assumption))⟩
        case measure => simp [intOf]; omega
      obtain rfl : k = sets.length := by omega
      obtain ⟨hsp, hat⟩ := hitAt_start y.grew hcs hck
      have HC1 := Lib.hid (fun W' g => hit_any hsp hK Hsets.out HSl'.out 256 0 (by omega) Hpos.out (.slice none 0 0) [] [] W' (hat.grewTo g))
      have HK1 := Lib.hid hK
      clear hat
      go_wp2_with (first
        | (go_at_call 51; go_loud (refine (HC1.out _ (by repeat (first | with_reducible exact Grew.refl _ | with_reducible apply Grew.alloc | with_reducible apply Grew.later | with_reducible apply Grew.drew | with_reducible apply Grew.store | with_reducible assumption))).mono ?_; rintro e w2 ⟨rfl, v2, S2, H2, g1, g2, g3, g4⟩; have d1 := g3.c3; have jd1 := BlockIn.of_cell d1))
        | (go_at_call 54; go_loud (refine (postLeast_any w w2 H2 v2 (owns_mono g3.own hsp.low.2.2) (seen_len HK1.out g3).2 g3.grew).mono ?_; rintro e w3 ⟨srt, v3, p1, p2, rfl, p3, p4⟩)))
      go_ret2
      refine RetIntsC.full ?_ HC.out p3 p4
      rw [← HR.out]
      refine congrArg toI ?_
      exact least_same sets K HK1.out (H2.map Fin.val) srt p1 p2 (fun x hx => (g1.hit x hx).resolve_left (by simp)) (went_all Hsets.out g1 g2)
end Go.Proofs.Ytgjikdhidakloaa
