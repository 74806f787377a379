/-
  Contracts: ascent.mixed, Both, Either, Without, Slots; ullagelaw04.in; rows of slots opened.
-/
import Derived.Test.YtffbipcdlnfihaaSetsAb
import Derived.Test.YtffbipcdlnfihaaSlots
import Derived.Test.YtffbipcdlnfihaaSlotsLaw
import Derived.Test.YtffbipcdlnfihaaOpenAll
namespace Go.Proofs.Ytffbipcdlnfihaa
open Go.RowKit
set_option maxRecDepth 100000
set_option maxHeartbeats 16000000
set_option linter.unusedSimpArgs false
theorem both_fact : FactOk 27 andB := by
  intro x y w
  cases x <;> cases y
  all_goals
    go_enter Try.func27, Try.ntmps27
    go_wp2
    go_ret
    exact ⟨rfl, gw⟩
theorem either_fact : FactOk 28 orB := by
  intro x y w
  cases x <;> cases y
  all_goals
    go_enter Try.func28, Try.ntmps28
    go_wp2
    go_ret
    exact ⟨rfl, gw⟩
theorem without_fact : FactOk 29 butB := by
  intro x y w
  cases x <;> cases y
  all_goals
    go_enter Try.func29, Try.ntmps29
    go_wp2
    go_ret
    exact ⟨rfl, gw⟩
theorem abMixed_any (g : Nat) (is : Bool → Bool → Bool) (hg : FactOk g is) (his : is false false = false) (eg : ∀ args w, (callFunc g args).run Try.prog w = .ok (.enter g args) w) (A B : List (Int × Int)) (hA : A.length ≤ 60) (hB : B.length ≤ 60) (v1 v2 : Value) (w : World)
    (h1 : SlAt w v1 A.length (A.flatMap slC)) (h2 : SlAt w v2 B.length (B.flatMap slC)) : Calls Try.prog 26 #[v1, v2, .func (.func g) #[] #[]] w (RetSlC (mixR is A B) (mixCode A B) w) := by
  have HSA := Lib.hid (fun w' (g : Grew w w') => abSet_any A v1 w' (h1.grew g))
  have HSB := Lib.hid (fun w' (g : Grew w w') => abSet_any B v2 w' (h2.grew g))
  have HW := Lib.hid (fun (s1 : setB A = true) (s2 : setB B = true) w' (g' : Grew w w') => abSweep_any g is hg his eg A B hA hB s1 s2 v1 v2 w' (h1.grew g') (h2.grew g'))
  have hml := mixL_len is A B
  obtain ⟨ao1, cap1, rfl, hm1⟩ := sl2_form h1
  obtain ⟨ao2, cap2, rfl, hm2⟩ := sl2_form h2
  clear h1 h2
  cases hs1 : setB A
  · have HR := Lib.hid (show mixR is A B = [] by unfold mixR; simp [hs1])
    have HC := Lib.hid (show mixCode A B = 2 by unfold mixCode; rw [hs1]; rfl)
    cases hs2 : setB B
    all_goals
      go_enter Try.func26, Try.ntmps26
      go_wp2_with (first | (go_at_call 30; (with_reducible refine call_later (is_bool hs1 (HSA.out _ gw)) ?_); intro u) | (go_at_call 30; (with_reducible refine call_later (is_bool hs2 (HSB.out _ gw)) ?_); intro u) | ((with_reducible refine wp_region_later ?_ ?_ ?_); (· kernel_rfl); (· kernel_rfl); (try simp only [List.append_eq, List.cons_append, List.nil_append]); (repeat (go_big_quiet_step ((first | (go_at_call 30; (with_reducible exact call_quiet (is_bool hs1 (HSA.out _ gw)))) | (go_at_call 30; (with_reducible exact call_quiet (is_bool hs2 (HSB.out _ gw)))))))); refine wpQuiet_nil ?_; rintro _ ⟨u, rfl⟩))
      go_ret2
      exact RetSlC.full HR.out HC.out (SlAt.nil _) gw
  cases hs2 : setB B
  · have HR := Lib.hid (show mixR is A B = [] by unfold mixR; simp [hs2])
    have HC := Lib.hid (show mixCode A B = 2 by unfold mixCode; rw [hs1, hs2]; rfl)
    go_enter Try.func26, Try.ntmps26
    go_wp2_with (first | (go_at_call 30; (with_reducible refine call_later (is_bool hs1 (HSA.out _ gw)) ?_); intro u) | (go_at_call 30; (with_reducible refine call_later (is_bool hs2 (HSB.out _ gw)) ?_); intro u) | ((with_reducible refine wp_region_later ?_ ?_ ?_); (· kernel_rfl); (· kernel_rfl); (try simp only [List.append_eq, List.cons_append, List.nil_append]); (repeat (go_big_quiet_step ((first | (go_at_call 30; (with_reducible exact call_quiet (is_bool hs1 (HSA.out _ gw)))) | (go_at_call 30; (with_reducible exact call_quiet (is_bool hs2 (HSB.out _ gw)))))))); refine wpQuiet_nil ?_; rintro _ ⟨u, rfl⟩))
    go_ret2
    exact RetSlC.full HR.out HC.out (SlAt.nil _) gw
  have HR := Lib.hid (show mixR is A B = mixL is A B by unfold mixR; rw [if_pos ⟨hs1, hs2⟩])
  have HC := Lib.hid (show mixCode A B = 0 by unfold mixCode; rw [hs1, hs2]; rfl)
  have HW1 := Lib.hid (HW.out hs1 hs2)
  have hl4 : decide ((4096 : Int) < (mixL is A B).length) = false := by rw [decide_eq_false_iff_not]; omega
  generalize mixL is A B = M at *
  go_enter Try.func26, Try.ntmps26
  go_wp2_with (first | (go_at_call 30; (with_reducible refine call_later (is_bool hs1 (HSA.out _ gw)) ?_); intro u) | (go_at_call 30; (with_reducible refine call_later (is_bool hs2 (HSB.out _ gw)) ?_); intro u) | (go_at_call 36; go_loud (refine (HW1.out _ gw).mono ?_; rintro e w1 ⟨vr, rfl, sr, gr⟩; obtain ⟨u1, rfl⟩ := later_of gr; clear gr; obtain ⟨aor, capr, rfl, hmr⟩ := sl2_form sr)) | ((with_reducible refine wp_region_later ?_ ?_ ?_); (· kernel_rfl); (· kernel_rfl); (try simp only [List.append_eq, List.cons_append, List.nil_append]); (repeat (go_big_quiet_step ((first | (go_at_call 30; (with_reducible exact call_quiet (is_bool hs1 (HSA.out _ gw)))) | (go_at_call 30; (with_reducible exact call_quiet (is_bool hs2 (HSB.out _ gw)))))))); refine wpQuiet_nil ?_; rintro _ ⟨u, rfl⟩))
  go_ret2
  exact RetSlC.full HR.out HC.out sr gw
theorem abBoth_any (A B : List (Int × Int)) (hA : A.length ≤ 60) (hB : B.length ≤ 60) (v1 v2 : Value) (w : World) (h1 : SlAt w v1 A.length (A.flatMap slC)) (h2 : SlAt w v2 B.length (B.flatMap slC)) : Calls Try.prog 11 #[v1, v2] w (RetSlC (mixR andB A B) (mixCode A B) w) := by
  have HM := Lib.hid (abMixed_any 27 andB both_fact rfl (enters_of Try.func27 (by kernel_rfl) rfl) A B hA hB v1 v2 w h1 h2)
  obtain ⟨ao1, cap1, rfl, hm1⟩ := sl2_form h1
  obtain ⟨ao2, cap2, rfl, hm2⟩ := sl2_form h2
  clear h1 h2
  go_enter Try.func11, Try.ntmps11
  go_wp2_with (go_at_call 26; go_loud (refine HM.out.mono ?_; rintro e w1 ⟨vr, rfl, sr, gr⟩))
  go_ret2
  exact RetSlC.full rfl rfl sr gr
theorem abEither_any (A B : List (Int × Int)) (hA : A.length ≤ 60) (hB : B.length ≤ 60) (v1 v2 : Value) (w : World) (h1 : SlAt w v1 A.length (A.flatMap slC)) (h2 : SlAt w v2 B.length (B.flatMap slC)) : Calls Try.prog 12 #[v1, v2] w (RetSlC (mixR orB A B) (mixCode A B) w) := by
  have HM := Lib.hid (abMixed_any 28 orB either_fact rfl (enters_of Try.func28 (by kernel_rfl) rfl) A B hA hB v1 v2 w h1 h2)
  obtain ⟨ao1, cap1, rfl, hm1⟩ := sl2_form h1
  obtain ⟨ao2, cap2, rfl, hm2⟩ := sl2_form h2
  clear h1 h2
  go_enter Try.func12, Try.ntmps12
  go_wp2_with (go_at_call 26; go_loud (refine HM.out.mono ?_; rintro e w1 ⟨vr, rfl, sr, gr⟩))
  go_ret2
  exact RetSlC.full rfl rfl sr gr
theorem abWithout_any (A B : List (Int × Int)) (hA : A.length ≤ 60) (hB : B.length ≤ 60) (v1 v2 : Value) (w : World) (h1 : SlAt w v1 A.length (A.flatMap slC)) (h2 : SlAt w v2 B.length (B.flatMap slC)) : Calls Try.prog 13 #[v1, v2] w (RetSlC (mixR butB A B) (mixCode A B) w) := by
  have HM := Lib.hid (abMixed_any 29 butB without_fact rfl (enters_of Try.func29 (by kernel_rfl) rfl) A B hA hB v1 v2 w h1 h2)
  obtain ⟨ao1, cap1, rfl, hm1⟩ := sl2_form h1
  obtain ⟨ao2, cap2, rfl, hm2⟩ := sl2_form h2
  clear h1 h2
  go_enter Try.func13, Try.ntmps13
  go_wp2_with (go_at_call 26; go_loud (refine HM.out.mono ?_; rintro e w1 ⟨vr, rfl, sr, gr⟩))
  go_ret2
  exact RetSlC.full rfl rfl sr gr
theorem slotsA_any (P F L a z : Int) (w : World) :
    Calls Try.prog 9 #[.agg #[.int .i64 P, .int .i64 F, .int .i64 L], .int .i64 a, .int .i64 z] w (RetSl (slotsCode P F L a z) (slotsList P F L a z) w) := by
  cases h : slotsArg P F L a z with
  | false =>
    rw [show slotsCode P F L a z = 2 by simp [slotsCode, h], show slotsList P F L a z = [] by simp [slotsList, slotsCode, h]]
    exact slots_bad P F L a z w h
  | true =>
    have h' := h
    simp only [slotsArg, Bool.and_eq_true, decide_eq_true_eq] at h'
    obtain ⟨⟨⟨h1, h2⟩, h3⟩, h4⟩ := h'
    by_cases h5 : L = P ∧ a < z
    · have hf : slotsFull P F L a z = [(a, z)] := by unfold slotsFull; rw [if_pos h5]
      rw [show slotsCode P F L a z = 0 by simp [slotsCode, h, hf], show slotsList P F L a z = [(a, z)] by simp [slotsList, slotsCode, h, hf]]
      exact slots_full P F L a z w h1 h2 h3 h5.1 h5.2
    · rw [show slotsCode P F L a z = allCode P F L a z by simp [slotsCode, h, slotsFull, h5, allCode], show slotsList P F L a z = allList P F L a z by by_cases hl : (slotsAll P F L a z).length ≤ 4096 <;> simp [slotsList, slotsCode, h, slotsFull, h5, allList, hl]]
      exact slots_run P F L a z w h1 h2 h3 h4 h5
theorem l4In_any (l : List (Int × Int)) (t : Int) (v : Value) (w : World) (h : SlAt w v l.length (l.flatMap slC)) : Calls Try.prog 10 #[v, .int .i64 t] w fun e w' => e = .returned (.bool (holdsB l t)) ∧ Grew w w' := by
  have HI := Lib.hid (fun k hk => sl_two h k hk)
  have HS := Lib.hid (fun k (hk : k < l.length) (h : holdsB (l.take k) t = false) (h2 : ¬ (l[k].1 ≤ t ∧ t < l[k].2)) => show holdsB (l.take (k + 1)) t = false from by rw [holds_step hk, h]; simp; omega)
  have HT := Lib.hid (fun k (hk : k < l.length) (h2 : l[k].1 ≤ t ∧ t < l[k].2) => show holdsB l t = true from by
    unfold holdsB
    rw [List.any_eq_true]
    exact ⟨l[k], List.getElem_mem hk, by simp [h2]⟩)
  obtain ⟨ao, cap, rfl, hm⟩ := sl2_form h
  clear h
  go_enter Try.func10, Try.ntmps10
  go_wp2
  go_loopw [9] (fun t' wr => ∃ k : Nat, t' = .int .i64 k ∧ k ≤ l.length ∧ holdsB (l.take k) t = false ∧ Grew w wr) (fun t _ => l.length - (intOf t).toNat)
  case atStart => exact ⟨0, rfl, by omega, rfl, gw⟩
  case round =>
    obtain ⟨k, rfl, hk, hall, hg⟩ := hrel
    obtain ⟨x, rfl⟩ := later_of hg
    clear hg
    have Hall := Lib.hid hall
    clear hall
    by_cases hlt : k < l.length
    · obtain ⟨b1, o1, c1, e1, i1, hd1, hd2⟩ := HI.out k hlt
      obtain ⟨rfl, rfl⟩ : ao = some ⟨b1, o1, none⟩ ∧ cap = c1 := by simpa using e1
      clear e1
      have HS1 := Lib.hid (HS.out k hlt Hall.out)
      have HT1 := Lib.hid (HT.out k hlt)
      generalize l[k].1 = a at *
      generalize l[k].2 = z at *
      by_cases h1 : a ≤ t
      · by_cases h2 : t < z
        · have Hr := Lib.hid (HT1.out ⟨h1, h2⟩)
          go_wp2_with (first | ((with_reducible refine wp_region_later ?_ ?_ ?_); (· kernel_rfl); (· kernel_rfl); (try simp only [List.append_eq, List.cons_append, List.nil_append]); (repeat (go_big_quiet_step (fail))); refine wpQuiet_nil ?_; rintro _ ⟨u, rfl⟩))
          go_ret
          exact ⟨ret_bool Hr.out.symm, gw⟩
        · have Hr := Lib.hid (HS1.out (fun h => h2 h.2))
          go_wp2_with (first | ((with_reducible refine wp_region_later ?_ ?_ ?_); (· kernel_rfl); (· kernel_rfl); (try simp only [List.append_eq, List.cons_append, List.nil_append]); (repeat (go_big_quiet_step (fail))); refine wpQuiet_nil ?_; rintro _ ⟨u, rfl⟩))
          go_roundw
          case rel => exact ⟨k + 1, by go_num, by omega, Hr.out, gw⟩
          case measure => simp [intOf]; omega
      · have Hr := Lib.hid (HS1.out (fun h => h1 h.1))
        go_wp2_with (first | ((with_reducible refine wp_region_later ?_ ?_ ?_); (· kernel_rfl); (· kernel_rfl); (try simp only [List.append_eq, List.cons_append, List.nil_append]); (repeat (go_big_quiet_step (fail))); refine wpQuiet_nil ?_; rintro _ ⟨u, rfl⟩))
        go_roundw
        case rel => exact ⟨k + 1, by go_num, by omega, Hr.out, gw⟩
        case measure => simp [intOf]; omega
    · obtain rfl : k = l.length := by omega
      have Hr := Lib.hid (show holdsB l t = false by have := Hall.out; rwa [List.take_length] at this)
      go_wp2
      go_ret
      exact ⟨ret_bool Hr.out.symm, gw⟩
section
variable {H : Type} {enc : TypeId × Value → H} {w : World} {base : Nat} {spare : Nat → Bool} {held : Bool} {fuel : Nat} {cs : List Value} {x : DataW H × List MemPlace}
theorem slots_trod (h : DataW.trod enc Try.prog w base spare held fuel 31 cs = some x) : ∃ (ao : Option Addr) (cap : Nat) (l : List (Int × Int)), cs = [.slice ao l.length cap] ∧ SlAt w (.slice ao l.length cap) l.length (l.flatMap slC) := by
  obtain ⟨ao, n, cap, l, e, hn, h1, h2⟩ := slice_trod slC (c := 2) (fun _ => rfl) (fun _ => True) Try.underlying31 (by kernel_rfl) (fun m cs' x' h' => by
    obtain ⟨hl, hi⟩ := flat_trod Try.prog 12 66 2 m cs' x' (by kernel_rfl) h'
    obtain ⟨ns, e, -⟩ := allInt_list cs' hi
    rw [e, List.length_map] at hl
    obtain ⟨a, z, rfl⟩ : ∃ a z, ns = [a, z] := by
      match ns, hl with | [a, z], _ => exact ⟨a, z, rfl⟩
    exact ⟨(a, z), e, trivial⟩) h
  subst hn
  exact ⟨ao, cap, l, e, h1⟩
end
end Go.Proofs.Ytffbipcdlnfihaa
