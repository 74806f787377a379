/-
  Contract of post.least.
-/
import Derived.Test.YtgjikdhidakloaaCauseFind
namespace Go.Proofs.Ytgjikdhidakloaa
open Go.RowKit Go.Sort
set_option maxRecDepth 100000
set_option maxHeartbeats 16000000
def RetLeast (E : List (Fin 256)) (a0 : World) (e : Ending) (w' : World) : Prop :=
  ∃ (srt : List Nat) (v' : Value), (∀ x, x ∈ srt ↔ x ∈ E.map Fin.val) ∧ srt.Pairwise (fun a b => keyN a ≤ keyN b) ∧ e = .returned v' ∧ SlAt w' v' (toI (keepL srt)).length ((toI (keepL srt)).flatMap intC) ∧ Grew a0 w'
theorem any_val (K : List (Fin 256)) (x : Nat) : (K.any fun y => decide (subN y.val x)) = ((K.map Fin.val).any fun y => decide (subN y x)) := by
  rw [List.any_map]; rfl
theorem keepS_fd {K : List (Fin 256)} {p : List Nat} (h : K.map Fin.val = keepL p) (x : Nat) (hx : x < 256) :
    ((K.any fun y => decide (subN y.val x)) = true → K.map Fin.val = keepL (p ++ [x])) ∧ ((K.any fun y => decide (subN y.val x)) = false → (K ++ [(⟨x, hx⟩ : Fin 256)]).map Fin.val = keepL (p ++ [x])) := by
  rw [any_val, h, keepL_snoc]
  unfold keepS
  refine ⟨fun e => by rw [if_pos e], fun e => ?_⟩
  rw [if_neg (by rw [e]; decide), List.map_append, h]
  rfl
theorem postLeast_any (a0 w : World) (E : List (Fin 256)) (v : Value) (hown : w.ownsRow a0.heap.size 101 1 v E.length (E.flatMap fdC)) (hsz : E.length ≤ 256) (g0 : Grew a0 w) :
    Calls Try.prog 54 #[v] w (RetLeast E a0) := by
  have HS := Lib.hid (sortFd_any a0 w E v hown (by omega) g0)
  obtain ⟨ao, cap, rfl⟩ := owns_form hown
  clear hown
  go_enter Try.func54, Try.ntmps54
  go_wp2_with (go_at_call 71; go_loud (refine HS.out.mono ?_; rintro e w1 ⟨rfl, hg, d, hp, hs, hsl⟩; obtain ⟨u, rfl⟩ := later_of hg; clear hg))
  have hdl : d.length = E.length := hp.length_eq
  have HP := Lib.hid (show ∀ x, x ∈ d.map Fin.val ↔ x ∈ E.map Fin.val from fun x => (hp.map Fin.val).mem_iff)
  have HSo := Lib.hid hs
  have HD := Lib.hid (fun k hk => fd_cell hsl k hk)
  clear hsl hp hs HS
  generalize E.length = en at *
  subst hdl
  go_loopw [3, 13] (fun v t wr => ∃ (k : Nat) (v3 : Value) (K : List (Fin 256)), t = .int .i64 k ∧ v3 = v ∧ k ≤ d.length ∧ K.length ≤ k ∧ K.map Fin.val = keepL ((d.take k).map Fin.val) ∧ wr.ownsRow u.world.heap.size 101 1 v3 K.length (K.flatMap fdC) ∧ Grew u.world wr) (fun _ t _ => d.length - (intOf t).toNat)
  case atStart => exact ⟨0, _, [], rfl, rfl, by omega, by simp, rfl, World.ownsRow_nil _ _ _ _, (by repeat (first | with_reducible exact Grew.refl _ | with_reducible apply Grew.alloc | with_reducible apply Grew.later | with_reducible apply Grew.drew | with_reducible apply Grew.store | with_reducible assumption))⟩
  case round =>
    obtain ⟨k, v3, K, rfl, rfl, hk, hKk, hKv, hown, hg⟩ := hrel
    obtain ⟨z, rfl⟩ := later_of hg
    clear hg
    have HK := Lib.hid (SlAt.of_owns hown)
    by_cases hlt : k < d.length
    · obtain ⟨b1, o1, c1, e1, i1, hd⟩ := HD.out k hlt
      cases e1
      have hxl := d[k].isLt
      have HF := Lib.hid (keepS_fd hKv d[k].val hxl)
      have Htk := Lib.hid (show (d.take (k + 1)).map Fin.val = (d.take k).map Fin.val ++ [d[k].val] by rw [List.take_succ_eq_append_getElem hlt, List.map_append]; rfl)
      clear hKv
      generalize d[k].val = x at *
      have HC := Lib.hid (fun (W1 : World) (hc : W1.cell? ⟨z.world.heap.size, 0, none⟩ = some (.int .i64 x)) (hg : Grew z.world W1) =>
        containsFd_any (fun y => decide (subN y x)) 74 #[.pointer (some ⟨z.world.heap.size, 0, none⟩)] (enters_of Try.func74 (by kernel_rfl) rfl) K v3 W1 (HK.out.grew hg) (fun W y hy hW => least1_any y x hy hxl _ W (hW.cell hc)))
      obtain ⟨ao3, cap3, rfl⟩ := owns_form hown
      cases hq : K.any fun y => decide (subN y.val x)
      · have HC2 := Lib.hid (fun W1 hc hg => is_bool hq (HC.out W1 hc hg))
        have Hn := Lib.hid (HF.out.2 hq)
        clear hq HC
        have HO := Lib.hid (fun w' (g : Grew z.world w') => owns_grew hown g)
        go_wp2_with (first
          | (go_at_call 73; go_loud (refine call_later (HC2.out _ (by simp) (by repeat (first | with_reducible exact Grew.refl _ | with_reducible apply Grew.alloc | with_reducible apply Grew.later | with_reducible apply Grew.drew | with_reducible apply Grew.store | with_reducible assumption))) ?_; intro u2))
          | (at_builtin; go_loud (refine wpList_app_fd u.world _ (by repeat (first | with_reducible exact Grew.refl _ | with_reducible apply Grew.alloc | with_reducible apply Grew.later | with_reducible apply Grew.drew | with_reducible apply Grew.store | with_reducible assumption)) rfl _ _ rfl _ K (HO.out _ (by repeat (first | with_reducible exact Grew.refl _ | with_reducible apply Grew.alloc | with_reducible apply Grew.later | with_reducible apply Grew.drew | with_reducible apply Grew.store | with_reducible assumption))) rfl ⟨x, hxl⟩ _ rfl (by omega) ?_; intro v' y1 hown')))
        go_roundw
        case rel => exact ⟨k + 1, _, K ++ [⟨x, hxl⟩], by go_num, rfl, by omega, by simp; omega, by rw [Htk.out]; exact Hn.out, hown', (by repeat (first | with_reducible exact Grew.refl _ | with_reducible apply Grew.alloc | with_reducible apply Grew.later | with_reducible apply Grew.drew | with_reducible apply Grew.store | with_reducible assumption))⟩
        case measure => simp [intOf]; omega
      · have HC2 := Lib.hid (fun W1 hc hg => is_bool hq (HC.out W1 hc hg))
        have Hn := Lib.hid (HF.out.1 hq)
        clear hq HC
        have HO := Lib.hid (fun w' (g : Grew z.world w') => owns_grew hown g)
        go_wp2_with (first
          | (go_at_call 73; go_loud (refine call_later (HC2.out _ (by simp) (by repeat (first | with_reducible exact Grew.refl _ | with_reducible apply Grew.alloc | with_reducible apply Grew.later | with_reducible apply Grew.drew | with_reducible apply Grew.store | with_reducible assumption))) ?_; intro u2)))
        go_roundw
        case rel => exact ⟨k + 1, _, K, by go_num, rfl, by omega, by omega, by rw [Htk.out]; exact Hn.out, HO.out _ (by repeat (first | with_reducible exact Grew.refl _ | with_reducible apply Grew.alloc | with_reducible apply Grew.later | with_reducible apply Grew.drew | with_reducible apply Grew.store | with_reducible assumption)), (by repeat (first | with_reducible exact Grew.refl _ | with_reducible apply Grew.alloc | with_reducible apply Grew.later | with_reducible apply Grew.drew | with_reducible apply Grew.store | with_reducible assumption))⟩
        case measure => simp [intOf]; omega
    · obtain rfl : k = d.length := by omega
      rw [List.take_length] at hKv
      have HKv := Lib.hid hKv
      have hKm : ∀ j (hj : j < K.length), K[j].val = (K.map Fin.val)[j]'(by simpa using hj) := fun j hj => (List.getElem_map ..).symm
      have HI := Lib.hid (fun j hj => fd_cell HK.out j hj)
      obtain ⟨ao3, cap3, rfl⟩ := owns_form hown
      clear hKv hown
      have Htk := Lib.hid (fun j (hj : j < K.length) => show toI ((K.take (j + 1)).map Fin.val) = toI ((K.take j).map Fin.val) ++ [((K[j].val : Nat) : Int)] by rw [List.take_succ_eq_append_getElem hj, List.map_append]; exact toI_snoc _ _)
      clear hKm
      go_wp2
      go_loopw [6, 28] (fun v t wr => ∃ (j : Nat) (v6 : Value), t = .int .i64 j ∧ v6 = v ∧ j ≤ K.length ∧ wr.ownsRow z.world.heap.size 3 1 v6 (toI ((K.take j).map Fin.val)).length ((toI ((K.take j).map Fin.val)).flatMap intC) ∧ Grew z.world wr) (fun _ t _ => K.length - (intOf t).toNat)
      case atStart => exact ⟨0, _, rfl, rfl, by omega, World.ownsRow_nil _ _ _ _, (by repeat (first | with_reducible exact Grew.refl _ | with_reducible apply Grew.alloc | with_reducible apply Grew.later | with_reducible apply Grew.drew | with_reducible apply Grew.store | with_reducible assumption))⟩
      case round =>
        obtain ⟨j, v6, rfl, rfl, hj, hown, hg⟩ := hrel
        obtain ⟨z2, rfl⟩ := later_of hg
        clear hg
        by_cases hjl : j < K.length
        · obtain ⟨b1, o1, c1, e1, i1, hd⟩ := HI.out j hjl
          cases e1
          have Ht := Lib.hid (Htk.out j hjl)
          have hlen : (toI ((K.take j).map Fin.val)).length ≤ 1099511627776 := by rw [toI_len]; simp; omega
          generalize K[j].val = x at *
          go_wp2_with (at_builtin; go_loud (refine wpList_app_int z.world _ (by repeat (first | with_reducible exact Grew.refl _ | with_reducible apply Grew.alloc | with_reducible apply Grew.later | with_reducible apply Grew.drew | with_reducible apply Grew.store | with_reducible assumption)) rfl _ _ rfl _ _ (owns_grew hown (by repeat (first | with_reducible exact Grew.refl _ | with_reducible apply Grew.alloc | with_reducible apply Grew.later | with_reducible apply Grew.drew | with_reducible apply Grew.store | with_reducible assumption))) rfl _ _ rfl hlen ?_; intro v' y1 hown'))
          go_roundw
          case rel => exact ⟨j + 1, _, by go_num, rfl, by omega, by rw [Ht.out]; exact hown', (by repeat (first | with_reducible exact Grew.refl _ | with_reducible apply Grew.alloc | with_reducible apply Grew.later | with_reducible apply Grew.drew | with_reducible apply Grew.store | with_reducible assumption))⟩
          case measure => simp [intOf]; omega
        · obtain rfl : j = K.length := by omega
          rw [List.take_length, HKv.out] at hown
          have Hs := Lib.hid (SlAt.of_owns hown)
          clear hown
          go_wp2
          go_ret
          exact ⟨d.map Fin.val, _, HP.out, HSo.out, rfl, Hs.out, u.grew.trans (z.grew.trans (by repeat (first | with_reducible exact Grew.refl _ | with_reducible apply Grew.alloc | with_reducible apply Grew.later | with_reducible apply Grew.drew | with_reducible apply Grew.store | with_reducible assumption)))⟩
end Go.Proofs.Ytgjikdhidakloaa
