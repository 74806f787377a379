/-
  Contract: ullageref04's Mixed.
-/
import Derived.Test.YtgjikdhidakloaaSetsRef
namespace Go.Proofs.Ytgjikdhidakloaa
open Go.RowKit
set_option maxRecDepth 100000
set_option maxHeartbeats 8000000
def andB (a b : Bool) : Bool := a && b
def orB (a b : Bool) : Bool := a || b
def butB (a b : Bool) : Bool := a && !b
theorem infoSl2 : (Try.prog.info? 87).map (fun i => (i.zero, i.size, i.bytes)) = some (some (.agg #[.int .i64 0, .int .i64 0]), 2, 16) := by kernel_rfl
def mixCode (A B : List (Int × Int)) : Int := codeB (setB A && setB B) 2
def mixR (is : Bool → Bool → Bool) (A B : List (Int × Int)) : List (Int × Int) := if setB A = true ∧ setB B = true then mixL is A B else []
/-- What a function hands back that returns a set and a code. -/
def RetSlC (l : List (Int × Int)) (c : Int) (w : World) (e : Ending) (w' : World) : Prop :=
  ∃ v, e = .returned (.tuple #[v, .int .i64 c]) ∧ SlAt w' v l.length (l.flatMap slC) ∧ Grew w w'
theorem RetSlC.full {l l' : List (Int × Int)} {c c' : Int} {w w' : World} {v : Value} (h1 : l = l') (h2 : c = c') (h : SlAt w' v l'.length (l'.flatMap slC)) (g : Grew w w') : RetSlC l c w (.returned (.tuple #[v, .int .i64 c'])) w' := by
  subst h1 h2
  exact ⟨v, rfl, h, g⟩
theorem slC_snoc (l : List (Int × Int)) (a z : Int) : l.flatMap slC ++ [.int .i64 a, .int .i64 z] = (l ++ [(a, z)]).flatMap slC := by simp [slC]
theorem slC_len (l : List (Int × Int)) : (l.flatMap slC).length = l.length * 2 := flat_len slC 2 (fun _ => rfl) l
theorem slC_last (l : List (Int × Int)) (q : Int × Int) (z : Int) : ((l ++ [q]).flatMap slC).set (l.length * 2 + 1) (.int .i64 z) = (l ++ [(q.1, z)]).flatMap slC := by
  have hl := slC_len l
  rw [List.flatMap_append, List.flatMap_append, List.set_append_right _ _ (by omega), hl, show l.length * 2 + 1 - l.length * 2 = 1 by omega]
  rfl
theorem mixAt_no (f : Int → Bool) (P : List Int) (i : Nat) (hi : i < P.length) (h : f P[i] = false) : mixAt f P (i + 1) = mixAt f P i := by
  rw [mixAt, List.getElem?_eq_getElem hi]
  simp [h]
theorem mixAt_app (f : Int → Bool) (P : List Int) (i : Nat) (hi : i + 1 < P.length) (h : f P[i] = true) (h2 : mixAt f P i = [] ∨ ∃ M q, mixAt f P i = M ++ [q] ∧ q.2 ≠ P[i]) : mixAt f P (i + 1) = mixAt f P i ++ [(P[i], P[i + 1])] := by
  rw [mixAt, List.getElem?_eq_getElem (show i < P.length by omega), List.getElem?_eq_getElem hi]
  rcases h2 with h2 | ⟨M, q, h2, h3⟩
  · simp [h, h2]
  · rw [h2]; simp [h, h3]
theorem mixAt_ext (f : Int → Bool) (P : List Int) (i : Nat) (hi : i + 1 < P.length) (h : f P[i] = true) {M : List (Int × Int)} {q : Int × Int} (h2 : mixAt f P i = M ++ [q]) (h3 : q.2 = P[i]) : mixAt f P (i + 1) = M ++ [(q.1, P[i + 1])] := by
  rw [mixAt, List.getElem?_eq_getElem (show i < P.length by omega), List.getElem?_eq_getElem hi, h2]
  simp [h, h3, setLast_snoc]
theorem r4Mixed0_any (A B : List (Int × Int)) (hA : A.length ≤ 60) (hB : B.length ≤ 60) (v1 v2 : Value) (w : World) (h1 : SlAt w v1 A.length (A.flatMap slC)) (h2 : SlAt w v2 B.length (B.flatMap slC)) : Calls Try.prog 22 #[v1, v2, .int .i64 0] w (RetSlC (mixR andB A B) (mixCode A B) w) := by
  have HSA := Lib.hid (fun w' (g : Grew w w') => r4Set_any A v1 w' (h1.grew g))
  have HSB := Lib.hid (fun w' (g : Grew w w') => r4Set_any B v2 w' (h2.grew g))
  have HE := Lib.hid (fun w' (g : Grew w w') => r4Edges_any A B hA hB v1 v2 w' (h1.grew g) (h2.grew g))
  have HA := Lib.hid (fun t w' (g : Grew w w') => r4Holds_any A t v1 w' (h1.grew g))
  have HB := Lib.hid (fun t w' (g : Grew w w') => r4Holds_any B t v2 w' (h2.grew g))
  obtain ⟨ao1, cap1, rfl, hm1⟩ := sl2_form h1
  obtain ⟨ao2, cap2, rfl, hm2⟩ := sl2_form h2
  clear h1 h2
  cases hs1 : setB A
  · have HR := Lib.hid (show mixR andB A B = [] by unfold mixR; simp [hs1])
    have HC := Lib.hid (show mixCode A B = 2 by unfold mixCode; rw [hs1]; rfl)
    cases hs2 : setB B
    all_goals
      go_enter Try.func22, Try.ntmps22
      go_wp2_with (first | (go_at_call 48; (with_reducible refine call_later (is_bool hs1 (HSA.out _ (by repeat (first | with_reducible exact Grew.refl _ | with_reducible apply Grew.alloc | with_reducible apply Grew.later | with_reducible apply Grew.drew | with_reducible apply Grew.store | with_reducible assumption)))) ?_); intro u) | (go_at_call 48; (with_reducible refine call_later (is_bool hs2 (HSB.out _ (by repeat (first | with_reducible exact Grew.refl _ | with_reducible apply Grew.alloc | with_reducible apply Grew.later | with_reducible apply Grew.drew | with_reducible apply Grew.store | with_reducible assumption)))) ?_); intro u) | ((with_reducible refine wp_region_later ?_ ?_ ?_); (· kernel_rfl); (· kernel_rfl); (repeat (go_big_quiet_step ((first | (go_at_call 48; (with_reducible exact call_quiet (is_bool hs1 (HSA.out _ (by repeat (first | with_reducible exact Grew.refl _ | with_reducible apply Grew.alloc | with_reducible apply Grew.later | with_reducible apply Grew.drew | with_reducible apply Grew.store | with_reducible assumption)))))) | (go_at_call 48; (with_reducible exact call_quiet (is_bool hs2 (HSB.out _ (by repeat (first | with_reducible exact Grew.refl _ | with_reducible apply Grew.alloc | with_reducible apply Grew.later | with_reducible apply Grew.drew | with_reducible apply Grew.store | with_reducible assumption)))))))))); refine wpQuiet_nil ?_; rintro _ ⟨u, rfl⟩))
      go_ret2
      exact RetSlC.full HR.out HC.out (SlAt.nil _) (by repeat (first | with_reducible exact Grew.refl _ | with_reducible apply Grew.alloc | with_reducible apply Grew.later | with_reducible apply Grew.drew | with_reducible apply Grew.store | with_reducible assumption))
  cases hs2 : setB B
  · have HR := Lib.hid (show mixR andB A B = [] by unfold mixR; simp [hs2])
    have HC := Lib.hid (show mixCode A B = 2 by unfold mixCode; rw [hs1, hs2]; rfl)
    go_enter Try.func22, Try.ntmps22
    go_wp2_with (first | (go_at_call 48; (with_reducible refine call_later (is_bool hs1 (HSA.out _ (by repeat (first | with_reducible exact Grew.refl _ | with_reducible apply Grew.alloc | with_reducible apply Grew.later | with_reducible apply Grew.drew | with_reducible apply Grew.store | with_reducible assumption)))) ?_); intro u) | (go_at_call 48; (with_reducible refine call_later (is_bool hs2 (HSB.out _ (by repeat (first | with_reducible exact Grew.refl _ | with_reducible apply Grew.alloc | with_reducible apply Grew.later | with_reducible apply Grew.drew | with_reducible apply Grew.store | with_reducible assumption)))) ?_); intro u) | ((with_reducible refine wp_region_later ?_ ?_ ?_); (· kernel_rfl); (· kernel_rfl); (repeat (go_big_quiet_step ((first | (go_at_call 48; (with_reducible exact call_quiet (is_bool hs1 (HSA.out _ (by repeat (first | with_reducible exact Grew.refl _ | with_reducible apply Grew.alloc | with_reducible apply Grew.later | with_reducible apply Grew.drew | with_reducible apply Grew.store | with_reducible assumption)))))) | (go_at_call 48; (with_reducible exact call_quiet (is_bool hs2 (HSB.out _ (by repeat (first | with_reducible exact Grew.refl _ | with_reducible apply Grew.alloc | with_reducible apply Grew.later | with_reducible apply Grew.drew | with_reducible apply Grew.store | with_reducible assumption)))))))))); refine wpQuiet_nil ?_; rintro _ ⟨u, rfl⟩))
    go_ret2
    exact RetSlC.full HR.out HC.out (SlAt.nil _) (by repeat (first | with_reducible exact Grew.refl _ | with_reducible apply Grew.alloc | with_reducible apply Grew.later | with_reducible apply Grew.drew | with_reducible apply Grew.store | with_reducible assumption))
  have HR := Lib.hid (show mixR andB A B = mixL andB A B by unfold mixR; rw [if_pos ⟨hs1, hs2⟩])
  have HC := Lib.hid (show mixCode A B = 0 by unfold mixCode; rw [hs1, hs2]; rfl)
  have hpl := placesL_len A B
  have HM := Lib.hid (show mixL andB A B = mixAt (fun p => andB (holdsB A p) (holdsB B p)) (placesL A B) ((placesL A B).length - 1) from rfl)
  go_enter Try.func22, Try.ntmps22
  go_wp2_with (first | (go_at_call 48; (with_reducible refine call_later (is_bool hs1 (HSA.out _ (by repeat (first | with_reducible exact Grew.refl _ | with_reducible apply Grew.alloc | with_reducible apply Grew.later | with_reducible apply Grew.drew | with_reducible apply Grew.store | with_reducible assumption)))) ?_); intro u) | (go_at_call 48; (with_reducible refine call_later (is_bool hs2 (HSB.out _ (by repeat (first | with_reducible exact Grew.refl _ | with_reducible apply Grew.alloc | with_reducible apply Grew.later | with_reducible apply Grew.drew | with_reducible apply Grew.store | with_reducible assumption)))) ?_); intro u) | (go_at_call 49; (with_reducible refine (HE.out _ (by repeat (first | with_reducible exact Grew.refl _ | with_reducible apply Grew.alloc | with_reducible apply Grew.later | with_reducible apply Grew.drew | with_reducible apply Grew.store | with_reducible assumption))).mono ?_); rintro e w1 ⟨vp, rfl, sp, gp⟩; obtain ⟨uE, rfl⟩ := later_of gp; clear gp; obtain ⟨aop, capp, rfl, hmp⟩ := sl_form sp) | ((with_reducible refine wp_region_later ?_ ?_ ?_); (· kernel_rfl); (· kernel_rfl); (repeat (go_big_quiet_step ((first | (go_at_call 48; (with_reducible exact call_quiet (is_bool hs1 (HSA.out _ (by repeat (first | with_reducible exact Grew.refl _ | with_reducible apply Grew.alloc | with_reducible apply Grew.later | with_reducible apply Grew.drew | with_reducible apply Grew.store | with_reducible assumption)))))) | (go_at_call 48; (with_reducible exact call_quiet (is_bool hs2 (HSB.out _ (by repeat (first | with_reducible exact Grew.refl _ | with_reducible apply Grew.alloc | with_reducible apply Grew.later | with_reducible apply Grew.drew | with_reducible apply Grew.store | with_reducible assumption)))))))))); refine wpQuiet_nil ?_; rintro _ ⟨u, rfl⟩))
  have HI := Lib.hid (fun k hk => int_cell sp k hk)
  have hp2 : (placesL A B).length ≤ 240 := by omega
  have Hf : Hid (∀ i (h : i < (placesL A B).length), True) := fun _ _ => trivial
  generalize placesL A B = P at *
  generalize hf0 : (fun p => andB (holdsB A p) (holdsB B p)) = f at *
  have hgw : Grew w uE.world := (by repeat (first | with_reducible exact Grew.refl _ | with_reducible apply Grew.alloc | with_reducible apply Grew.later | with_reducible apply Grew.drew | with_reducible apply Grew.store | with_reducible assumption))
  go_loopw [11, 12] (fun v t wr => ∃ (i : Nat) (v11 : Value), t = .int .i64 i ∧ v11 = v ∧ (i = 0 ∨ i + 1 ≤ P.length) ∧ wr.ownsRow uE.world.heap.size 87 2 v11 (mixAt f P i).length ((mixAt f P i).flatMap slC) ∧ Grew uE.world wr) (fun _ t _ => P.length - (intOf t).toNat)
  case atStart => exact ⟨0, _, rfl, rfl, .inl rfl, World.ownsRow_nil _ _ _ _, (by repeat (first | with_reducible exact Grew.refl _ | with_reducible apply Grew.alloc | with_reducible apply Grew.later | with_reducible apply Grew.drew | with_reducible apply Grew.store | with_reducible assumption))⟩
  case round =>
    obtain ⟨i, v11, rfl, rfl, hi, hown, hg⟩ := hrel
    obtain ⟨y, rfl⟩ := later_of hg
    clear hg
    by_cases hi1 : i + 1 < P.length
    · obtain ⟨bp, op, cp, ep, ip, hd1⟩ := HI.out i (by omega)
      obtain ⟨_, _, _, ep2, ip2, hd2⟩ := HI.out (i + 1) hi1
      obtain ⟨rfl, rfl⟩ : aop = some ⟨bp, op, none⟩ ∧ capp = cp := by simpa using ep
      obtain ⟨⟨rfl, rfl⟩, -⟩ : (bp = _ ∧ op = _) ∧ _ := by simpa using ep2
      clear ep ep2
      have q1 : (i : Int) + 1 < P.length := by omega
      have q2 : (i : Int) < P.length := by omega
      have hw1 : IntKind.i64.wrap ((i : Int) + 1) = (i : Int) + 1 := by simp [IntKind.wrap, IntKind.bits, IntKind.signed]; omega
      have hi0 : i < P.length := by omega
      have Hno := Lib.hid (fun (h : f P[i] = false) => mixAt_no f P i hi0 h)
      have hfv : f P[i] = andB (holdsB A P[i]) (holdsB B P[i]) := by rw [← hf0]
      cases hx : holdsB A P[i]
      · cases hy : holdsB B P[i]
        · skip
          have Hn := Lib.hid (Hno.out (hfv.trans (by rw [hx, hy]; rfl)))
          clear hfv
          generalize P[i] = p at *
          generalize P[i + 1] = p2 at *
          go_wp2_with (first | (go_at_call 50; (with_reducible refine call_later (is_bool hx (HA.out p _ (by repeat (first | with_reducible exact Grew.refl _ | with_reducible apply Grew.alloc | with_reducible apply Grew.later | with_reducible apply Grew.drew | with_reducible apply Grew.store | with_reducible assumption)))) ?_); intro u) | (go_at_call 50; (with_reducible refine call_later (is_bool hy (HB.out p _ (by repeat (first | with_reducible exact Grew.refl _ | with_reducible apply Grew.alloc | with_reducible apply Grew.later | with_reducible apply Grew.drew | with_reducible apply Grew.store | with_reducible assumption)))) ?_); intro u) | ((with_reducible refine wp_region_later ?_ ?_ ?_); (· kernel_rfl); (· kernel_rfl); (repeat (go_big_quiet_step ((first | (go_at_call 50; (with_reducible exact call_quiet (is_bool hx (HA.out p _ (by repeat (first | with_reducible exact Grew.refl _ | with_reducible apply Grew.alloc | with_reducible apply Grew.later | with_reducible apply Grew.drew | with_reducible apply Grew.store | with_reducible assumption)))))) | (go_at_call 50; (with_reducible exact call_quiet (is_bool hy (HB.out p _ (by repeat (first | with_reducible exact Grew.refl _ | with_reducible apply Grew.alloc | with_reducible apply Grew.later | with_reducible apply Grew.drew | with_reducible apply Grew.store | with_reducible assumption)))))))))); refine wpQuiet_nil ?_; rintro _ ⟨u, rfl⟩))
          all_goals
            go_roundw
            case rel => exact ⟨i + 1, _, by go_num, rfl, by omega, by rw [Hn.out]; exact owns_grew hown (by repeat (first | with_reducible exact Grew.refl _ | with_reducible apply Grew.alloc | with_reducible apply Grew.later | with_reducible apply Grew.drew | with_reducible apply Grew.store | with_reducible assumption)), (by repeat (first | with_reducible exact Grew.refl _ | with_reducible apply Grew.alloc | with_reducible apply Grew.later | with_reducible apply Grew.drew | with_reducible apply Grew.store | with_reducible assumption))⟩
            case measure => simp [intOf]; omega
        · skip
          have Hn := Lib.hid (Hno.out (hfv.trans (by rw [hx, hy]; rfl)))
          clear hfv
          generalize P[i] = p at *
          generalize P[i + 1] = p2 at *
          go_wp2_with (first | (go_at_call 50; (with_reducible refine call_later (is_bool hx (HA.out p _ (by repeat (first | with_reducible exact Grew.refl _ | with_reducible apply Grew.alloc | with_reducible apply Grew.later | with_reducible apply Grew.drew | with_reducible apply Grew.store | with_reducible assumption)))) ?_); intro u) | (go_at_call 50; (with_reducible refine call_later (is_bool hy (HB.out p _ (by repeat (first | with_reducible exact Grew.refl _ | with_reducible apply Grew.alloc | with_reducible apply Grew.later | with_reducible apply Grew.drew | with_reducible apply Grew.store | with_reducible assumption)))) ?_); intro u) | ((with_reducible refine wp_region_later ?_ ?_ ?_); (· kernel_rfl); (· kernel_rfl); (repeat (go_big_quiet_step ((first | (go_at_call 50; (with_reducible exact call_quiet (is_bool hx (HA.out p _ (by repeat (first | with_reducible exact Grew.refl _ | with_reducible apply Grew.alloc | with_reducible apply Grew.later | with_reducible apply Grew.drew | with_reducible apply Grew.store | with_reducible assumption)))))) | (go_at_call 50; (with_reducible exact call_quiet (is_bool hy (HB.out p _ (by repeat (first | with_reducible exact Grew.refl _ | with_reducible apply Grew.alloc | with_reducible apply Grew.later | with_reducible apply Grew.drew | with_reducible apply Grew.store | with_reducible assumption)))))))))); refine wpQuiet_nil ?_; rintro _ ⟨u, rfl⟩))
          all_goals
            go_roundw
            case rel => exact ⟨i + 1, _, by go_num, rfl, by omega, by rw [Hn.out]; exact owns_grew hown (by repeat (first | with_reducible exact Grew.refl _ | with_reducible apply Grew.alloc | with_reducible apply Grew.later | with_reducible apply Grew.drew | with_reducible apply Grew.store | with_reducible assumption)), (by repeat (first | with_reducible exact Grew.refl _ | with_reducible apply Grew.alloc | with_reducible apply Grew.later | with_reducible apply Grew.drew | with_reducible apply Grew.store | with_reducible assumption))⟩
            case measure => simp [intOf]; omega
      · cases hy : holdsB B P[i]
        · skip
          have Hn := Lib.hid (Hno.out (hfv.trans (by rw [hx, hy]; rfl)))
          clear hfv
          generalize P[i] = p at *
          generalize P[i + 1] = p2 at *
          go_wp2_with (first | (go_at_call 50; (with_reducible refine call_later (is_bool hx (HA.out p _ (by repeat (first | with_reducible exact Grew.refl _ | with_reducible apply Grew.alloc | with_reducible apply Grew.later | with_reducible apply Grew.drew | with_reducible apply Grew.store | with_reducible assumption)))) ?_); intro u) | (go_at_call 50; (with_reducible refine call_later (is_bool hy (HB.out p _ (by repeat (first | with_reducible exact Grew.refl _ | with_reducible apply Grew.alloc | with_reducible apply Grew.later | with_reducible apply Grew.drew | with_reducible apply Grew.store | with_reducible assumption)))) ?_); intro u) | ((with_reducible refine wp_region_later ?_ ?_ ?_); (· kernel_rfl); (· kernel_rfl); (repeat (go_big_quiet_step ((first | (go_at_call 50; (with_reducible exact call_quiet (is_bool hx (HA.out p _ (by repeat (first | with_reducible exact Grew.refl _ | with_reducible apply Grew.alloc | with_reducible apply Grew.later | with_reducible apply Grew.drew | with_reducible apply Grew.store | with_reducible assumption)))))) | (go_at_call 50; (with_reducible exact call_quiet (is_bool hy (HB.out p _ (by repeat (first | with_reducible exact Grew.refl _ | with_reducible apply Grew.alloc | with_reducible apply Grew.later | with_reducible apply Grew.drew | with_reducible apply Grew.store | with_reducible assumption)))))))))); refine wpQuiet_nil ?_; rintro _ ⟨u, rfl⟩))
          all_goals
            go_roundw
            case rel => exact ⟨i + 1, _, by go_num, rfl, by omega, by rw [Hn.out]; exact owns_grew hown (by repeat (first | with_reducible exact Grew.refl _ | with_reducible apply Grew.alloc | with_reducible apply Grew.later | with_reducible apply Grew.drew | with_reducible apply Grew.store | with_reducible assumption)), (by repeat (first | with_reducible exact Grew.refl _ | with_reducible apply Grew.alloc | with_reducible apply Grew.later | with_reducible apply Grew.drew | with_reducible apply Grew.store | with_reducible assumption))⟩
            case measure => simp [intOf]; omega
        · skip
          have hf : f P[i] = true := hfv.trans (by rw [hx, hy]; rfl)
          rcases List.eq_nil_or_concat (mixAt f P i) with h0 | ⟨M, q, hM⟩
          · have Hap := Lib.hid (mixAt_app f P i hi1 hf (.inl h0))
            have hown0 := hown
            rw [h0] at hown0
            obtain ⟨ao11, c11, rfl⟩ := owns_form hown0
            have hown9 : y.world.ownsRow uE.world.heap.size 87 2 (.slice ao11 0 c11) (mixAt f P i).length ((mixAt f P i).flatMap slC) := hown
            clear hown hown0 hf h0
            have Hn2 := Lib.hid (show (mixAt f P (i + 1)).flatMap slC = (mixAt f P i).flatMap slC ++ [.int .i64 P[i], .int .i64 P[i + 1]] by rw [Hap.out, slC_snoc])
            have Hn1 := Lib.hid (show (mixAt f P (i + 1)).length = (mixAt f P i).length + 1 by rw [Hap.out]; simp)
            have hlen : (mixAt f P i).length ≤ 240 := by have := mixAt_len f P i; omega
            have hbase : uE.world.heap.size ≤ y.world.heap.size := y.grew.size
            have io : Own y.world uE.world.heap.size 87 2 (.slice ao11 0 c11) (mixAt f P i).length ((mixAt f P i).flatMap slC) := ⟨hown9⟩
            obtain ⟨i0, hi0, hz0, hzz1, hzz2⟩ := info_parts infoSl2
            clear hfv
            generalize P[i] = p at *
            generalize P[i + 1] = p2 at *
            generalize (mixAt f P i).length = n at *
            have hm63 : n + 1 ≤ maxLen := by simp [maxLen]; omega
            have hm40 : (n + 1) * 16 ≤ 140737488355328 := by omega
            have q4 : (0 : Int) ≤ (i : Int) + 1 := by omega
            have q5 : ((i : Int) + 1).toNat = i + 1 := by omega
            go_wp2_with (first | (go_at_call 50; (with_reducible refine call_later (is_bool hx (HA.out p _ (by repeat (first | with_reducible exact Grew.refl _ | with_reducible apply Grew.alloc | with_reducible apply Grew.later | with_reducible apply Grew.drew | with_reducible apply Grew.store | with_reducible assumption)))) ?_); intro u) | (go_at_call 50; (with_reducible refine call_later (is_bool hy (HB.out p _ (by repeat (first | with_reducible exact Grew.refl _ | with_reducible apply Grew.alloc | with_reducible apply Grew.later | with_reducible apply Grew.drew | with_reducible apply Grew.store | with_reducible assumption)))) ?_); intro u) | ((with_reducible refine wp_region_later ?_ ?_ ?_); (· kernel_rfl); (· kernel_rfl); (repeat (go_big_quiet_step ((first | (go_at_call 50; (with_reducible exact call_quiet (is_bool hx (HA.out p _ (by repeat (first | with_reducible exact Grew.refl _ | with_reducible apply Grew.alloc | with_reducible apply Grew.later | with_reducible apply Grew.drew | with_reducible apply Grew.store | with_reducible assumption)))))) | (go_at_call 50; (with_reducible exact call_quiet (is_bool hy (HB.out p _ (by repeat (first | with_reducible exact Grew.refl _ | with_reducible apply Grew.alloc | with_reducible apply Grew.later | with_reducible apply Grew.drew | with_reducible apply Grew.store | with_reducible assumption)))))))))); refine wpQuiet_nil ?_; rintro _ ⟨u, rfl⟩))
            go_region_held3 (fun w' => w'.cell? ⟨bp, op + i, none⟩ = some (.int .i64 p) ∧ w'.cell? ⟨bp, op + (i + 1), none⟩ = some (.int .i64 p2))
              (exact ⟨by first | (go_simp; done) | exact hg1.cell hd1, by first | (go_simp; done) | exact hg1.cell hd2⟩)
              ((refine step_append_lies _ (by rfl) _ _ 41 (by rfl) uE.world.heap.size 87 i0 _ 2 16 Try.underlying41 hi0 hz0 hzz1 hzz2 (by rfl) (by decide) (.slice ao11 0 c11) _ _ (by rfl) Own.is ⟨_, 0, none⟩ 1 1 [.int .i64 p, .int .i64 p2] (by rfl) (by rfl) news_row (by simp [Value.oneCell']) (by decide) hm63 hm40 (Nat.le_trans hbase (show Grew y.world _ from (by repeat (first | with_reducible exact Grew.refl _ | with_reducible apply Grew.alloc | with_reducible apply Grew.later | with_reducible apply Grew.drew | with_reducible apply Grew.store | with_reducible assumption))).size) _ rfl ?_
                intro g1 cap1 w1 hown1 hgrow1 hat1 hlt1
                have hg1 : Grew uE.world w1 := Grew.append (show Grew uE.world _ from (by repeat (first | with_reducible exact Grew.refl _ | with_reducible apply Grew.alloc | with_reducible apply Grew.later | with_reducible apply Grew.drew | with_reducible apply Grew.store | with_reducible assumption))) (Own.is (v := (.slice ao11 0 c11)) (base := uE.world.heap.size) (e := 87) (size := 2)) (Nat.le_refl _) hgrow1))
            all_goals go_wp2
            all_goals clear q4 q5
            all_goals
              go_roundw
              case rel => exact ⟨i + 1, _, by go_num, rfl, by omega, by rw [Hn1.out, Hn2.out]; exact hown1, hg1⟩
              case measure => simp [intOf]; omega
          · rw [List.concat_eq_append] at hM
            have hml : (mixAt f P i).length = M.length + 1 := by rw [hM]; simp
            have hmlen := mixAt_len f P i
            obtain ⟨g, cg, e11, hg2, hg3⟩ := hown.form (by omega)
            rw [hml] at e11
            subst e11
            have hownM : y.world.ownsRow uE.world.heap.size 87 2 (.slice (some ⟨g, 0, none⟩) (M.length + 1) cg) (M.length + 1) ((M ++ [q]).flatMap slC) := by
              have := hown
              rw [hM] at this
              simpa using this
            have hcl : y.world.cell? ⟨g, M.length * 2 + 1, none⟩ = some (.int .i64 q.2) := by
              rw [hownM.cellAt (M.length * 2 + 1) (by omega), List.flatMap_append, List.getElem?_append_right (by rw [slC_len]; omega), slC_len, show M.length * 2 + 1 - M.length * 2 = 1 by omega]
              rfl
            have hfr := hownM.frozenAt (M.length * 2 + 1)
            have ibg : BlockIn y.world g := BlockIn.of_cell hcl
            have q3 : (0 : Int) < (M.length : Int) + 1 := by omega
            have hmm : M.length < M.length + 1 := by omega
            have hmi : (M.length : Int) < (M.length : Int) + 1 := by omega
            have hM240 : M.length ≤ 240 := by omega
            by_cases hqp : q.2 = P[i]
            · have Hn := Lib.hid (mixAt_ext f P i hi1 hf hM hqp)
              have Hn2 := Lib.hid (show (mixAt f P (i + 1)).flatMap slC = ((M ++ [q]).flatMap slC).set (M.length * 2 + 1) (.int .i64 P[i + 1]) by rw [Hn.out, slC_last])
              have Hn1 := Lib.hid (show (mixAt f P (i + 1)).length = M.length + 1 by rw [Hn.out]; simp)
              have Hs2 := Lib.hid (fun W (k : Grew y.world W) => ((owns_grew hownM k).stored (M.length * 2 + 1) (.int .i64 P[i + 1])).1)
              have inw : NewFor uE.world g := ⟨hg2⟩
              have ihc : HasCell y.world g (M.length * 2 + 1) := ⟨_, hcl⟩
              have hqp' : (q.2 == P[i]) = true := by simp [hqp]
              clear hown hM hml hqp hf hownM
              generalize P[i] = p at *
              generalize P[i + 1] = p2 at *
              generalize q.2 = q2 at *
              go_wp2_with (first | (go_at_call 50; (with_reducible refine call_later (is_bool hx (HA.out p _ (by repeat (first | with_reducible exact Grew.refl _ | with_reducible apply Grew.alloc | with_reducible apply Grew.later | with_reducible apply Grew.drew | with_reducible apply Grew.store | with_reducible assumption)))) ?_); intro u) | (go_at_call 50; (with_reducible refine call_later (is_bool hy (HB.out p _ (by repeat (first | with_reducible exact Grew.refl _ | with_reducible apply Grew.alloc | with_reducible apply Grew.later | with_reducible apply Grew.drew | with_reducible apply Grew.store | with_reducible assumption)))) ?_); intro u) | ((with_reducible refine wp_region_later ?_ ?_ ?_); (· kernel_rfl); (· kernel_rfl); (repeat (go_big_quiet_step ((first | (go_at_call 50; (with_reducible exact call_quiet (is_bool hx (HA.out p _ (by repeat (first | with_reducible exact Grew.refl _ | with_reducible apply Grew.alloc | with_reducible apply Grew.later | with_reducible apply Grew.drew | with_reducible apply Grew.store | with_reducible assumption)))))) | (go_at_call 50; (with_reducible exact call_quiet (is_bool hy (HB.out p _ (by repeat (first | with_reducible exact Grew.refl _ | with_reducible apply Grew.alloc | with_reducible apply Grew.later | with_reducible apply Grew.drew | with_reducible apply Grew.store | with_reducible assumption)))))))))); refine wpQuiet_nil ?_; rintro _ ⟨u, rfl⟩))
              all_goals
                go_roundw
                case rel => exact ⟨i + 1, _, by go_num, rfl, by omega, by rw [Hn1.out, Hn2.out]; exact Hs2.out _ (by repeat (first | with_reducible exact Grew.refl _ | with_reducible apply Grew.alloc | with_reducible apply Grew.later | with_reducible apply Grew.drew | with_reducible apply Grew.store | with_reducible assumption)), (by repeat (first | with_reducible exact Grew.refl _ | with_reducible apply Grew.alloc | with_reducible apply Grew.later | with_reducible apply Grew.drew | with_reducible apply Grew.store | with_reducible assumption))⟩
                case measure => simp [intOf]; omega
            · have Hap := Lib.hid (mixAt_app f P i hi1 hf (.inr ⟨M, q, hM, hqp⟩))
              have hqp' : (q.2 == P[i]) = false := by simp [hqp]
              have hown9 : y.world.ownsRow uE.world.heap.size 87 2 (.slice (some ⟨g, 0, none⟩) (M.length + 1) cg) (mixAt f P i).length ((mixAt f P i).flatMap slC) := hown
              clear hown hM hml hqp hf hownM
              generalize q.2 = q2 at *
              have Hn2 := Lib.hid (show (mixAt f P (i + 1)).flatMap slC = (mixAt f P i).flatMap slC ++ [.int .i64 P[i], .int .i64 P[i + 1]] by rw [Hap.out, slC_snoc])
              have Hn1 := Lib.hid (show (mixAt f P (i + 1)).length = (mixAt f P i).length + 1 by rw [Hap.out]; simp)
              have hlen : (mixAt f P i).length ≤ 240 := by have := mixAt_len f P i; omega
              have hbase : uE.world.heap.size ≤ y.world.heap.size := y.grew.size
              have io : Own y.world uE.world.heap.size 87 2 (.slice (some ⟨g, 0, none⟩) (M.length + 1) cg) (mixAt f P i).length ((mixAt f P i).flatMap slC) := ⟨hown9⟩
              obtain ⟨i0, hi0, hz0, hzz1, hzz2⟩ := info_parts infoSl2
              clear hfv
              generalize P[i] = p at *
              generalize P[i + 1] = p2 at *
              generalize (mixAt f P i).length = n at *
              have hm63 : n + 1 ≤ maxLen := by simp [maxLen]; omega
              have hm40 : (n + 1) * 16 ≤ 140737488355328 := by omega
              have q4 : (0 : Int) ≤ (i : Int) + 1 := by omega
              have q5 : ((i : Int) + 1).toNat = i + 1 := by omega
              go_wp2_with (first | (go_at_call 50; (with_reducible refine call_later (is_bool hx (HA.out p _ (by repeat (first | with_reducible exact Grew.refl _ | with_reducible apply Grew.alloc | with_reducible apply Grew.later | with_reducible apply Grew.drew | with_reducible apply Grew.store | with_reducible assumption)))) ?_); intro u) | (go_at_call 50; (with_reducible refine call_later (is_bool hy (HB.out p _ (by repeat (first | with_reducible exact Grew.refl _ | with_reducible apply Grew.alloc | with_reducible apply Grew.later | with_reducible apply Grew.drew | with_reducible apply Grew.store | with_reducible assumption)))) ?_); intro u) | ((with_reducible refine wp_region_later ?_ ?_ ?_); (· kernel_rfl); (· kernel_rfl); (repeat (go_big_quiet_step ((first | (go_at_call 50; (with_reducible exact call_quiet (is_bool hx (HA.out p _ (by repeat (first | with_reducible exact Grew.refl _ | with_reducible apply Grew.alloc | with_reducible apply Grew.later | with_reducible apply Grew.drew | with_reducible apply Grew.store | with_reducible assumption)))))) | (go_at_call 50; (with_reducible exact call_quiet (is_bool hy (HB.out p _ (by repeat (first | with_reducible exact Grew.refl _ | with_reducible apply Grew.alloc | with_reducible apply Grew.later | with_reducible apply Grew.drew | with_reducible apply Grew.store | with_reducible assumption)))))))))); refine wpQuiet_nil ?_; rintro _ ⟨u, rfl⟩))
              go_region_held3 (fun w' => w'.cell? ⟨bp, op + i, none⟩ = some (.int .i64 p) ∧ w'.cell? ⟨bp, op + (i + 1), none⟩ = some (.int .i64 p2))
                (exact ⟨by first | (go_simp; done) | exact hg1.cell hd1, by first | (go_simp; done) | exact hg1.cell hd2⟩)
                ((refine step_append_lies _ (by rfl) _ _ 41 (by rfl) uE.world.heap.size 87 i0 _ 2 16 Try.underlying41 hi0 hz0 hzz1 hzz2 (by rfl) (by decide) (.slice (some ⟨g, 0, none⟩) (M.length + 1) cg) _ _ (by rfl) Own.is ⟨_, 0, none⟩ 1 1 [.int .i64 p, .int .i64 p2] (by rfl) (by rfl) news_row (by simp [Value.oneCell']) (by decide) hm63 hm40 (Nat.le_trans hbase (show Grew y.world _ from (by repeat (first | with_reducible exact Grew.refl _ | with_reducible apply Grew.alloc | with_reducible apply Grew.later | with_reducible apply Grew.drew | with_reducible apply Grew.store | with_reducible assumption))).size) _ rfl ?_
                  intro g1 cap1 w1 hown1 hgrow1 hat1 hlt1
                  have hg1 : Grew uE.world w1 := Grew.append (show Grew uE.world _ from (by repeat (first | with_reducible exact Grew.refl _ | with_reducible apply Grew.alloc | with_reducible apply Grew.later | with_reducible apply Grew.drew | with_reducible apply Grew.store | with_reducible assumption))) (Own.is (v := (.slice (some ⟨g, 0, none⟩) (M.length + 1) cg)) (base := uE.world.heap.size) (e := 87) (size := 2)) (Nat.le_refl _) hgrow1))
              all_goals go_wp2
              all_goals clear q4 q5
              all_goals
                go_roundw
                case rel => exact ⟨i + 1, _, by go_num, rfl, by omega, by rw [Hn1.out, Hn2.out]; exact hown1, hg1⟩
                case measure => simp [intOf]; omega
    · have hlast : i = P.length - 1 := by omega
      have Hr := Lib.hid (HR.out.trans (HM.out.trans (show mixAt f P (P.length - 1) = mixAt f P i by rw [hlast])))
      have hln := mixAt_len f P i
      have Hs := Lib.hid (SlAt.of_owns hown)
      obtain ⟨ao11, c11, rfl⟩ := owns_form hown
      have hi5 : ¬ ((i : Int) + 1 < P.length) := by omega
      have hl5 : decide ((4096 : Int) < (mixAt f P i).length) = false := by rw [decide_eq_false_iff_not]; omega
      generalize mixAt f P i = M at *
      go_wp2
      go_ret2
      exact RetSlC.full Hr.out HC.out Hs.out (by repeat (first | with_reducible exact Grew.refl _ | with_reducible apply Grew.alloc | with_reducible apply Grew.later | with_reducible apply Grew.drew | with_reducible apply Grew.store | with_reducible assumption))
theorem r4Mixed1_any (A B : List (Int × Int)) (hA : A.length ≤ 60) (hB : B.length ≤ 60) (v1 v2 : Value) (w : World) (h1 : SlAt w v1 A.length (A.flatMap slC)) (h2 : SlAt w v2 B.length (B.flatMap slC)) : Calls Try.prog 22 #[v1, v2, .int .i64 1] w (RetSlC (mixR orB A B) (mixCode A B) w) := by
  have HSA := Lib.hid (fun w' (g : Grew w w') => r4Set_any A v1 w' (h1.grew g))
  have HSB := Lib.hid (fun w' (g : Grew w w') => r4Set_any B v2 w' (h2.grew g))
  have HE := Lib.hid (fun w' (g : Grew w w') => r4Edges_any A B hA hB v1 v2 w' (h1.grew g) (h2.grew g))
  have HA := Lib.hid (fun t w' (g : Grew w w') => r4Holds_any A t v1 w' (h1.grew g))
  have HB := Lib.hid (fun t w' (g : Grew w w') => r4Holds_any B t v2 w' (h2.grew g))
  obtain ⟨ao1, cap1, rfl, hm1⟩ := sl2_form h1
  obtain ⟨ao2, cap2, rfl, hm2⟩ := sl2_form h2
  clear h1 h2
  cases hs1 : setB A
  · have HR := Lib.hid (show mixR orB A B = [] by unfold mixR; simp [hs1])
    have HC := Lib.hid (show mixCode A B = 2 by unfold mixCode; rw [hs1]; rfl)
    cases hs2 : setB B
    all_goals
      go_enter Try.func22, Try.ntmps22
      go_wp2_with (first | (go_at_call 48; (with_reducible refine call_later (is_bool hs1 (HSA.out _ (by repeat (first | with_reducible exact Grew.refl _ | with_reducible apply Grew.alloc | with_reducible apply Grew.later | with_reducible apply Grew.drew | with_reducible apply Grew.store | with_reducible assumption)))) ?_); intro u) | (go_at_call 48; (with_reducible refine call_later (is_bool hs2 (HSB.out _ (by repeat (first | with_reducible exact Grew.refl _ | with_reducible apply Grew.alloc | with_reducible apply Grew.later | with_reducible apply Grew.drew | with_reducible apply Grew.store | with_reducible assumption)))) ?_); intro u) | ((with_reducible refine wp_region_later ?_ ?_ ?_); (· kernel_rfl); (· kernel_rfl); (repeat (go_big_quiet_step ((first | (go_at_call 48; (with_reducible exact call_quiet (is_bool hs1 (HSA.out _ (by repeat (first | with_reducible exact Grew.refl _ | with_reducible apply Grew.alloc | with_reducible apply Grew.later | with_reducible apply Grew.drew | with_reducible apply Grew.store | with_reducible assumption)))))) | (go_at_call 48; (with_reducible exact call_quiet (is_bool hs2 (HSB.out _ (by repeat (first | with_reducible exact Grew.refl _ | with_reducible apply Grew.alloc | with_reducible apply Grew.later | with_reducible apply Grew.drew | with_reducible apply Grew.store | with_reducible assumption)))))))))); refine wpQuiet_nil ?_; rintro _ ⟨u, rfl⟩))
      go_ret2
      exact RetSlC.full HR.out HC.out (SlAt.nil _) (by repeat (first | with_reducible exact Grew.refl _ | with_reducible apply Grew.alloc | with_reducible apply Grew.later | with_reducible apply Grew.drew | with_reducible apply Grew.store | with_reducible assumption))
  cases hs2 : setB B
  · have HR := Lib.hid (show mixR orB A B = [] by unfold mixR; simp [hs2])
    have HC := Lib.hid (show mixCode A B = 2 by unfold mixCode; rw [hs1, hs2]; rfl)
    go_enter Try.func22, Try.ntmps22
    go_wp2_with (first | (go_at_call 48; (with_reducible refine call_later (is_bool hs1 (HSA.out _ (by repeat (first | with_reducible exact Grew.refl _ | with_reducible apply Grew.alloc | with_reducible apply Grew.later | with_reducible apply Grew.drew | with_reducible apply Grew.store | with_reducible assumption)))) ?_); intro u) | (go_at_call 48; (with_reducible refine call_later (is_bool hs2 (HSB.out _ (by repeat (first | with_reducible exact Grew.refl _ | with_reducible apply Grew.alloc | with_reducible apply Grew.later | with_reducible apply Grew.drew | with_reducible apply Grew.store | with_reducible assumption)))) ?_); intro u) | ((with_reducible refine wp_region_later ?_ ?_ ?_); (· kernel_rfl); (· kernel_rfl); (repeat (go_big_quiet_step ((first | (go_at_call 48; (with_reducible exact call_quiet (is_bool hs1 (HSA.out _ (by repeat (first | with_reducible exact Grew.refl _ | with_reducible apply Grew.alloc | with_reducible apply Grew.later | with_reducible apply Grew.drew | with_reducible apply Grew.store | with_reducible assumption)))))) | (go_at_call 48; (with_reducible exact call_quiet (is_bool hs2 (HSB.out _ (by repeat (first | with_reducible exact Grew.refl _ | with_reducible apply Grew.alloc | with_reducible apply Grew.later | with_reducible apply Grew.drew | with_reducible apply Grew.store | with_reducible assumption)))))))))); refine wpQuiet_nil ?_; rintro _ ⟨u, rfl⟩))
    go_ret2
    exact RetSlC.full HR.out HC.out (SlAt.nil _) (by repeat (first | with_reducible exact Grew.refl _ | with_reducible apply Grew.alloc | with_reducible apply Grew.later | with_reducible apply Grew.drew | with_reducible apply Grew.store | with_reducible assumption))
  have HR := Lib.hid (show mixR orB A B = mixL orB A B by unfold mixR; rw [if_pos ⟨hs1, hs2⟩])
  have HC := Lib.hid (show mixCode A B = 0 by unfold mixCode; rw [hs1, hs2]; rfl)
  have hpl := placesL_len A B
  have HM := Lib.hid (show mixL orB A B = mixAt (fun p => orB (holdsB A p) (holdsB B p)) (placesL A B) ((placesL A B).length - 1) from rfl)
  go_enter Try.func22, Try.ntmps22
  go_wp2_with (first | (go_at_call 48; (with_reducible refine call_later (is_bool hs1 (HSA.out _ (by repeat (first | with_reducible exact Grew.refl _ | with_reducible apply Grew.alloc | with_reducible apply Grew.later | with_reducible apply Grew.drew | with_reducible apply Grew.store | with_reducible assumption)))) ?_); intro u) | (go_at_call 48; (with_reducible refine call_later (is_bool hs2 (HSB.out _ (by repeat (first | with_reducible exact Grew.refl _ | with_reducible apply Grew.alloc | with_reducible apply Grew.later | with_reducible apply Grew.drew | with_reducible apply Grew.store | with_reducible assumption)))) ?_); intro u) | (go_at_call 49; (with_reducible refine (HE.out _ (by repeat (first | with_reducible exact Grew.refl _ | with_reducible apply Grew.alloc | with_reducible apply Grew.later | with_reducible apply Grew.drew | with_reducible apply Grew.store | with_reducible assumption))).mono ?_); rintro e w1 ⟨vp, rfl, sp, gp⟩; obtain ⟨uE, rfl⟩ := later_of gp; clear gp; obtain ⟨aop, capp, rfl, hmp⟩ := sl_form sp) | ((with_reducible refine wp_region_later ?_ ?_ ?_); (· kernel_rfl); (· kernel_rfl); (repeat (go_big_quiet_step ((first | (go_at_call 48; (with_reducible exact call_quiet (is_bool hs1 (HSA.out _ (by repeat (first | with_reducible exact Grew.refl _ | with_reducible apply Grew.alloc | with_reducible apply Grew.later | with_reducible apply Grew.drew | with_reducible apply Grew.store | with_reducible assumption)))))) | (go_at_call 48; (with_reducible exact call_quiet (is_bool hs2 (HSB.out _ (by repeat (first | with_reducible exact Grew.refl _ | with_reducible apply Grew.alloc | with_reducible apply Grew.later | with_reducible apply Grew.drew | with_reducible apply Grew.store | with_reducible assumption)))))))))); refine wpQuiet_nil ?_; rintro _ ⟨u, rfl⟩))
  have HI := Lib.hid (fun k hk => int_cell sp k hk)
  have hp2 : (placesL A B).length ≤ 240 := by omega
  have Hf : Hid (∀ i (h : i < (placesL A B).length), True) := fun _ _ => trivial
  generalize placesL A B = P at *
  generalize hf0 : (fun p => orB (holdsB A p) (holdsB B p)) = f at *
  have hgw : Grew w uE.world := (by repeat (first | with_reducible exact Grew.refl _ | with_reducible apply Grew.alloc | with_reducible apply Grew.later | with_reducible apply Grew.drew | with_reducible apply Grew.store | with_reducible assumption))
  go_loopw [11, 12] (fun v t wr => ∃ (i : Nat) (v11 : Value), t = .int .i64 i ∧ v11 = v ∧ (i = 0 ∨ i + 1 ≤ P.length) ∧ wr.ownsRow uE.world.heap.size 87 2 v11 (mixAt f P i).length ((mixAt f P i).flatMap slC) ∧ Grew uE.world wr) (fun _ t _ => P.length - (intOf t).toNat)
  case atStart => exact ⟨0, _, rfl, rfl, .inl rfl, World.ownsRow_nil _ _ _ _, (by repeat (first | with_reducible exact Grew.refl _ | with_reducible apply Grew.alloc | with_reducible apply Grew.later | with_reducible apply Grew.drew | with_reducible apply Grew.store | with_reducible assumption))⟩
  case round =>
    obtain ⟨i, v11, rfl, rfl, hi, hown, hg⟩ := hrel
    obtain ⟨y, rfl⟩ := later_of hg
    clear hg
    by_cases hi1 : i + 1 < P.length
    · obtain ⟨bp, op, cp, ep, ip, hd1⟩ := HI.out i (by omega)
      obtain ⟨_, _, _, ep2, ip2, hd2⟩ := HI.out (i + 1) hi1
      obtain ⟨rfl, rfl⟩ : aop = some ⟨bp, op, none⟩ ∧ capp = cp := by simpa using ep
      obtain ⟨⟨rfl, rfl⟩, -⟩ : (bp = _ ∧ op = _) ∧ _ := by simpa using ep2
      clear ep ep2
      have q1 : (i : Int) + 1 < P.length := by omega
      have q2 : (i : Int) < P.length := by omega
      have hw1 : IntKind.i64.wrap ((i : Int) + 1) = (i : Int) + 1 := by simp [IntKind.wrap, IntKind.bits, IntKind.signed]; omega
      have hi0 : i < P.length := by omega
      have Hno := Lib.hid (fun (h : f P[i] = false) => mixAt_no f P i hi0 h)
      have hfv : f P[i] = orB (holdsB A P[i]) (holdsB B P[i]) := by rw [← hf0]
      cases hx : holdsB A P[i]
      · cases hy : holdsB B P[i]
        · skip
          have Hn := Lib.hid (Hno.out (hfv.trans (by rw [hx, hy]; rfl)))
          clear hfv
          generalize P[i] = p at *
          generalize P[i + 1] = p2 at *
          go_wp2_with (first | (go_at_call 50; (with_reducible refine call_later (is_bool hx (HA.out p _ (by repeat (first | with_reducible exact Grew.refl _ | with_reducible apply Grew.alloc | with_reducible apply Grew.later | with_reducible apply Grew.drew | with_reducible apply Grew.store | with_reducible assumption)))) ?_); intro u) | (go_at_call 50; (with_reducible refine call_later (is_bool hy (HB.out p _ (by repeat (first | with_reducible exact Grew.refl _ | with_reducible apply Grew.alloc | with_reducible apply Grew.later | with_reducible apply Grew.drew | with_reducible apply Grew.store | with_reducible assumption)))) ?_); intro u) | ((with_reducible refine wp_region_later ?_ ?_ ?_); (· kernel_rfl); (· kernel_rfl); (repeat (go_big_quiet_step ((first | (go_at_call 50; (with_reducible exact call_quiet (is_bool hx (HA.out p _ (by repeat (first | with_reducible exact Grew.refl _ | with_reducible apply Grew.alloc | with_reducible apply Grew.later | with_reducible apply Grew.drew | with_reducible apply Grew.store | with_reducible assumption)))))) | (go_at_call 50; (with_reducible exact call_quiet (is_bool hy (HB.out p _ (by repeat (first | with_reducible exact Grew.refl _ | with_reducible apply Grew.alloc | with_reducible apply Grew.later | with_reducible apply Grew.drew | with_reducible apply Grew.store | with_reducible assumption)))))))))); refine wpQuiet_nil ?_; rintro _ ⟨u, rfl⟩))
          all_goals
            go_roundw
            case rel => exact ⟨i + 1, _, by go_num, rfl, by omega, by rw [Hn.out]; exact owns_grew hown (by repeat (first | with_reducible exact Grew.refl _ | with_reducible apply Grew.alloc | with_reducible apply Grew.later | with_reducible apply Grew.drew | with_reducible apply Grew.store | with_reducible assumption)), (by repeat (first | with_reducible exact Grew.refl _ | with_reducible apply Grew.alloc | with_reducible apply Grew.later | with_reducible apply Grew.drew | with_reducible apply Grew.store | with_reducible assumption))⟩
            case measure => simp [intOf]; omega
        · skip
          have hf : f P[i] = true := hfv.trans (by rw [hx, hy]; rfl)
          rcases List.eq_nil_or_concat (mixAt f P i) with h0 | ⟨M, q, hM⟩
          · have Hap := Lib.hid (mixAt_app f P i hi1 hf (.inl h0))
            have hown0 := hown
            rw [h0] at hown0
            obtain ⟨ao11, c11, rfl⟩ := owns_form hown0
            have hown9 : y.world.ownsRow uE.world.heap.size 87 2 (.slice ao11 0 c11) (mixAt f P i).length ((mixAt f P i).flatMap slC) := hown
            clear hown hown0 hf h0
            have Hn2 := Lib.hid (show (mixAt f P (i + 1)).flatMap slC = (mixAt f P i).flatMap slC ++ [.int .i64 P[i], .int .i64 P[i + 1]] by rw [Hap.out, slC_snoc])
            have Hn1 := Lib.hid (show (mixAt f P (i + 1)).length = (mixAt f P i).length + 1 by rw [Hap.out]; simp)
            have hlen : (mixAt f P i).length ≤ 240 := by have := mixAt_len f P i; omega
            have hbase : uE.world.heap.size ≤ y.world.heap.size := y.grew.size
            have io : Own y.world uE.world.heap.size 87 2 (.slice ao11 0 c11) (mixAt f P i).length ((mixAt f P i).flatMap slC) := ⟨hown9⟩
            obtain ⟨i0, hi0, hz0, hzz1, hzz2⟩ := info_parts infoSl2
            clear hfv
            generalize P[i] = p at *
            generalize P[i + 1] = p2 at *
            generalize (mixAt f P i).length = n at *
            have hm63 : n + 1 ≤ maxLen := by simp [maxLen]; omega
            have hm40 : (n + 1) * 16 ≤ 140737488355328 := by omega
            have q4 : (0 : Int) ≤ (i : Int) + 1 := by omega
            have q5 : ((i : Int) + 1).toNat = i + 1 := by omega
            go_wp2_with (first | (go_at_call 50; (with_reducible refine call_later (is_bool hx (HA.out p _ (by repeat (first | with_reducible exact Grew.refl _ | with_reducible apply Grew.alloc | with_reducible apply Grew.later | with_reducible apply Grew.drew | with_reducible apply Grew.store | with_reducible assumption)))) ?_); intro u) | (go_at_call 50; (with_reducible refine call_later (is_bool hy (HB.out p _ (by repeat (first | with_reducible exact Grew.refl _ | with_reducible apply Grew.alloc | with_reducible apply Grew.later | with_reducible apply Grew.drew | with_reducible apply Grew.store | with_reducible assumption)))) ?_); intro u) | ((with_reducible refine wp_region_later ?_ ?_ ?_); (· kernel_rfl); (· kernel_rfl); (repeat (go_big_quiet_step ((first | (go_at_call 50; (with_reducible exact call_quiet (is_bool hx (HA.out p _ (by repeat (first | with_reducible exact Grew.refl _ | with_reducible apply Grew.alloc | with_reducible apply Grew.later | with_reducible apply Grew.drew | with_reducible apply Grew.store | with_reducible assumption)))))) | (go_at_call 50; (with_reducible exact call_quiet (is_bool hy (HB.out p _ (by repeat (first | with_reducible exact Grew.refl _ | with_reducible apply Grew.alloc | with_reducible apply Grew.later | with_reducible apply Grew.drew | with_reducible apply Grew.store | with_reducible assumption)))))))))); refine wpQuiet_nil ?_; rintro _ ⟨u, rfl⟩))
            go_region_held3 (fun w' => w'.cell? ⟨bp, op + i, none⟩ = some (.int .i64 p) ∧ w'.cell? ⟨bp, op + (i + 1), none⟩ = some (.int .i64 p2))
              (exact ⟨by first | (go_simp; done) | exact hg1.cell hd1, by first | (go_simp; done) | exact hg1.cell hd2⟩)
              ((refine step_append_lies _ (by rfl) _ _ 41 (by rfl) uE.world.heap.size 87 i0 _ 2 16 Try.underlying41 hi0 hz0 hzz1 hzz2 (by rfl) (by decide) (.slice ao11 0 c11) _ _ (by rfl) Own.is ⟨_, 0, none⟩ 1 1 [.int .i64 p, .int .i64 p2] (by rfl) (by rfl) news_row (by simp [Value.oneCell']) (by decide) hm63 hm40 (Nat.le_trans hbase (show Grew y.world _ from (by repeat (first | with_reducible exact Grew.refl _ | with_reducible apply Grew.alloc | with_reducible apply Grew.later | with_reducible apply Grew.drew | with_reducible apply Grew.store | with_reducible assumption))).size) _ rfl ?_
                intro g1 cap1 w1 hown1 hgrow1 hat1 hlt1
                have hg1 : Grew uE.world w1 := Grew.append (show Grew uE.world _ from (by repeat (first | with_reducible exact Grew.refl _ | with_reducible apply Grew.alloc | with_reducible apply Grew.later | with_reducible apply Grew.drew | with_reducible apply Grew.store | with_reducible assumption))) (Own.is (v := (.slice ao11 0 c11)) (base := uE.world.heap.size) (e := 87) (size := 2)) (Nat.le_refl _) hgrow1))
            all_goals go_wp2
            all_goals clear q4 q5
            all_goals
              go_roundw
              case rel => exact ⟨i + 1, _, by go_num, rfl, by omega, by rw [Hn1.out, Hn2.out]; exact hown1, hg1⟩
              case measure => simp [intOf]; omega
          · rw [List.concat_eq_append] at hM
            have hml : (mixAt f P i).length = M.length + 1 := by rw [hM]; simp
            have hmlen := mixAt_len f P i
            obtain ⟨g, cg, e11, hg2, hg3⟩ := hown.form (by omega)
            rw [hml] at e11
            subst e11
            have hownM : y.world.ownsRow uE.world.heap.size 87 2 (.slice (some ⟨g, 0, none⟩) (M.length + 1) cg) (M.length + 1) ((M ++ [q]).flatMap slC) := by
              have := hown
              rw [hM] at this
              simpa using this
            have hcl : y.world.cell? ⟨g, M.length * 2 + 1, none⟩ = some (.int .i64 q.2) := by
              rw [hownM.cellAt (M.length * 2 + 1) (by omega), List.flatMap_append, List.getElem?_append_right (by rw [slC_len]; omega), slC_len, show M.length * 2 + 1 - M.length * 2 = 1 by omega]
              rfl
            have hfr := hownM.frozenAt (M.length * 2 + 1)
            have ibg : BlockIn y.world g := BlockIn.of_cell hcl
            have q3 : (0 : Int) < (M.length : Int) + 1 := by omega
            have hmm : M.length < M.length + 1 := by omega
            have hmi : (M.length : Int) < (M.length : Int) + 1 := by omega
            have hM240 : M.length ≤ 240 := by omega
            by_cases hqp : q.2 = P[i]
            · have Hn := Lib.hid (mixAt_ext f P i hi1 hf hM hqp)
              have Hn2 := Lib.hid (show (mixAt f P (i + 1)).flatMap slC = ((M ++ [q]).flatMap slC).set (M.length * 2 + 1) (.int .i64 P[i + 1]) by rw [Hn.out, slC_last])
              have Hn1 := Lib.hid (show (mixAt f P (i + 1)).length = M.length + 1 by rw [Hn.out]; simp)
              have Hs2 := Lib.hid (fun W (k : Grew y.world W) => ((owns_grew hownM k).stored (M.length * 2 + 1) (.int .i64 P[i + 1])).1)
              have inw : NewFor uE.world g := ⟨hg2⟩
              have ihc : HasCell y.world g (M.length * 2 + 1) := ⟨_, hcl⟩
              have hqp' : (q.2 == P[i]) = true := by simp [hqp]
              clear hown hM hml hqp hf hownM
              generalize P[i] = p at *
              generalize P[i + 1] = p2 at *
              generalize q.2 = q2 at *
              go_wp2_with (first | (go_at_call 50; (with_reducible refine call_later (is_bool hx (HA.out p _ (by repeat (first | with_reducible exact Grew.refl _ | with_reducible apply Grew.alloc | with_reducible apply Grew.later | with_reducible apply Grew.drew | with_reducible apply Grew.store | with_reducible assumption)))) ?_); intro u) | (go_at_call 50; (with_reducible refine call_later (is_bool hy (HB.out p _ (by repeat (first | with_reducible exact Grew.refl _ | with_reducible apply Grew.alloc | with_reducible apply Grew.later | with_reducible apply Grew.drew | with_reducible apply Grew.store | with_reducible assumption)))) ?_); intro u) | ((with_reducible refine wp_region_later ?_ ?_ ?_); (· kernel_rfl); (· kernel_rfl); (repeat (go_big_quiet_step ((first | (go_at_call 50; (with_reducible exact call_quiet (is_bool hx (HA.out p _ (by repeat (first | with_reducible exact Grew.refl _ | with_reducible apply Grew.alloc | with_reducible apply Grew.later | with_reducible apply Grew.drew | with_reducible apply Grew.store | with_reducible assumption)))))) | (go_at_call 50; (with_reducible exact call_quiet (is_bool hy (HB.out p _ (by repeat (first | with_reducible exact Grew.refl _ | with_reducible apply Grew.alloc | with_reducible apply Grew.later | with_reducible apply Grew.drew | with_reducible apply Grew.store | with_reducible assumption)))))))))); refine wpQuiet_nil ?_; rintro _ ⟨u, rfl⟩))
              all_goals
                go_roundw
                case rel => exact ⟨i + 1, _, by go_num, rfl, by omega, by rw [Hn1.out, Hn2.out]; exact Hs2.out _ (by repeat (first | with_reducible exact Grew.refl _ | with_reducible apply Grew.alloc | with_reducible apply Grew.later | with_reducible apply Grew.drew | with_reducible apply Grew.store | with_reducible assumption)), (by repeat (first | with_reducible exact Grew.refl _ | with_reducible apply Grew.alloc | with_reducible apply Grew.later | with_reducible apply Grew.drew | with_reducible apply Grew.store | with_reducible assumption))⟩
                case measure => simp [intOf]; omega
            · have Hap := Lib.hid (mixAt_app f P i hi1 hf (.inr ⟨M, q, hM, hqp⟩))
              have hqp' : (q.2 == P[i]) = false := by simp [hqp]
              have hown9 : y.world.ownsRow uE.world.heap.size 87 2 (.slice (some ⟨g, 0, none⟩) (M.length + 1) cg) (mixAt f P i).length ((mixAt f P i).flatMap slC) := hown
              clear hown hM hml hqp hf hownM
              generalize q.2 = q2 at *
              have Hn2 := Lib.hid (show (mixAt f P (i + 1)).flatMap slC = (mixAt f P i).flatMap slC ++ [.int .i64 P[i], .int .i64 P[i + 1]] by rw [Hap.out, slC_snoc])
              have Hn1 := Lib.hid (show (mixAt f P (i + 1)).length = (mixAt f P i).length + 1 by rw [Hap.out]; simp)
              have hlen : (mixAt f P i).length ≤ 240 := by have := mixAt_len f P i; omega
              have hbase : uE.world.heap.size ≤ y.world.heap.size := y.grew.size
              have io : Own y.world uE.world.heap.size 87 2 (.slice (some ⟨g, 0, none⟩) (M.length + 1) cg) (mixAt f P i).length ((mixAt f P i).flatMap slC) := ⟨hown9⟩
              obtain ⟨i0, hi0, hz0, hzz1, hzz2⟩ := info_parts infoSl2
              clear hfv
              generalize P[i] = p at *
              generalize P[i + 1] = p2 at *
              generalize (mixAt f P i).length = n at *
              have hm63 : n + 1 ≤ maxLen := by simp [maxLen]; omega
              have hm40 : (n + 1) * 16 ≤ 140737488355328 := by omega
              have q4 : (0 : Int) ≤ (i : Int) + 1 := by omega
              have q5 : ((i : Int) + 1).toNat = i + 1 := by omega
              go_wp2_with (first | (go_at_call 50; (with_reducible refine call_later (is_bool hx (HA.out p _ (by repeat (first | with_reducible exact Grew.refl _ | with_reducible apply Grew.alloc | with_reducible apply Grew.later | with_reducible apply Grew.drew | with_reducible apply Grew.store | with_reducible assumption)))) ?_); intro u) | (go_at_call 50; (with_reducible refine call_later (is_bool hy (HB.out p _ (by repeat (first | with_reducible exact Grew.refl _ | with_reducible apply Grew.alloc | with_reducible apply Grew.later | with_reducible apply Grew.drew | with_reducible apply Grew.store | with_reducible assumption)))) ?_); intro u) | ((with_reducible refine wp_region_later ?_ ?_ ?_); (· kernel_rfl); (· kernel_rfl); (repeat (go_big_quiet_step ((first | (go_at_call 50; (with_reducible exact call_quiet (is_bool hx (HA.out p _ (by repeat (first | with_reducible exact Grew.refl _ | with_reducible apply Grew.alloc | with_reducible apply Grew.later | with_reducible apply Grew.drew | with_reducible apply Grew.store | with_reducible assumption)))))) | (go_at_call 50; (with_reducible exact call_quiet (is_bool hy (HB.out p _ (by repeat (first | with_reducible exact Grew.refl _ | with_reducible apply Grew.alloc | with_reducible apply Grew.later | with_reducible apply Grew.drew | with_reducible apply Grew.store | with_reducible assumption)))))))))); refine wpQuiet_nil ?_; rintro _ ⟨u, rfl⟩))
              go_region_held3 (fun w' => w'.cell? ⟨bp, op + i, none⟩ = some (.int .i64 p) ∧ w'.cell? ⟨bp, op + (i + 1), none⟩ = some (.int .i64 p2))
                (exact ⟨by first | (go_simp; done) | exact hg1.cell hd1, by first | (go_simp; done) | exact hg1.cell hd2⟩)
                ((refine step_append_lies _ (by rfl) _ _ 41 (by rfl) uE.world.heap.size 87 i0 _ 2 16 Try.underlying41 hi0 hz0 hzz1 hzz2 (by rfl) (by decide) (.slice (some ⟨g, 0, none⟩) (M.length + 1) cg) _ _ (by rfl) Own.is ⟨_, 0, none⟩ 1 1 [.int .i64 p, .int .i64 p2] (by rfl) (by rfl) news_row (by simp [Value.oneCell']) (by decide) hm63 hm40 (Nat.le_trans hbase (show Grew y.world _ from (by repeat (first | with_reducible exact Grew.refl _ | with_reducible apply Grew.alloc | with_reducible apply Grew.later | with_reducible apply Grew.drew | with_reducible apply Grew.store | with_reducible assumption))).size) _ rfl ?_
                  intro g1 cap1 w1 hown1 hgrow1 hat1 hlt1
                  have hg1 : Grew uE.world w1 := Grew.append (show Grew uE.world _ from (by repeat (first | with_reducible exact Grew.refl _ | with_reducible apply Grew.alloc | with_reducible apply Grew.later | with_reducible apply Grew.drew | with_reducible apply Grew.store | with_reducible assumption))) (Own.is (v := (.slice (some ⟨g, 0, none⟩) (M.length + 1) cg)) (base := uE.world.heap.size) (e := 87) (size := 2)) (Nat.le_refl _) hgrow1))
              all_goals go_wp2
              all_goals clear q4 q5
              all_goals
                go_roundw
                case rel => exact ⟨i + 1, _, by go_num, rfl, by omega, by rw [Hn1.out, Hn2.out]; exact hown1, hg1⟩
                case measure => simp [intOf]; omega
      · cases hy : holdsB B P[i]
        · skip
          have hf : f P[i] = true := hfv.trans (by rw [hx, hy]; rfl)
          rcases List.eq_nil_or_concat (mixAt f P i) with h0 | ⟨M, q, hM⟩
          · have Hap := Lib.hid (mixAt_app f P i hi1 hf (.inl h0))
            have hown0 := hown
            rw [h0] at hown0
            obtain ⟨ao11, c11, rfl⟩ := owns_form hown0
            have hown9 : y.world.ownsRow uE.world.heap.size 87 2 (.slice ao11 0 c11) (mixAt f P i).length ((mixAt f P i).flatMap slC) := hown
            clear hown hown0 hf h0
            have Hn2 := Lib.hid (show (mixAt f P (i + 1)).flatMap slC = (mixAt f P i).flatMap slC ++ [.int .i64 P[i], .int .i64 P[i + 1]] by rw [Hap.out, slC_snoc])
            have Hn1 := Lib.hid (show (mixAt f P (i + 1)).length = (mixAt f P i).length + 1 by rw [Hap.out]; simp)
            have hlen : (mixAt f P i).length ≤ 240 := by have := mixAt_len f P i; omega
            have hbase : uE.world.heap.size ≤ y.world.heap.size := y.grew.size
            have io : Own y.world uE.world.heap.size 87 2 (.slice ao11 0 c11) (mixAt f P i).length ((mixAt f P i).flatMap slC) := ⟨hown9⟩
            obtain ⟨i0, hi0, hz0, hzz1, hzz2⟩ := info_parts infoSl2
            clear hfv
            generalize P[i] = p at *
            generalize P[i + 1] = p2 at *
            generalize (mixAt f P i).length = n at *
            have hm63 : n + 1 ≤ maxLen := by simp [maxLen]; omega
            have hm40 : (n + 1) * 16 ≤ 140737488355328 := by omega
            have q4 : (0 : Int) ≤ (i : Int) + 1 := by omega
            have q5 : ((i : Int) + 1).toNat = i + 1 := by omega
            go_wp2_with (first | (go_at_call 50; (with_reducible refine call_later (is_bool hx (HA.out p _ (by repeat (first | with_reducible exact Grew.refl _ | with_reducible apply Grew.alloc | with_reducible apply Grew.later | with_reducible apply Grew.drew | with_reducible apply Grew.store | with_reducible assumption)))) ?_); intro u) | (go_at_call 50; (with_reducible refine call_later (is_bool hy (HB.out p _ (by repeat (first | with_reducible exact Grew.refl _ | with_reducible apply Grew.alloc | with_reducible apply Grew.later | with_reducible apply Grew.drew | with_reducible apply Grew.store | with_reducible assumption)))) ?_); intro u) | ((with_reducible refine wp_region_later ?_ ?_ ?_); (· kernel_rfl); (· kernel_rfl); (repeat (go_big_quiet_step ((first | (go_at_call 50; (with_reducible exact call_quiet (is_bool hx (HA.out p _ (by repeat (first | with_reducible exact Grew.refl _ | with_reducible apply Grew.alloc | with_reducible apply Grew.later | with_reducible apply Grew.drew | with_reducible apply Grew.store | with_reducible assumption)))))) | (go_at_call 50; (with_reducible exact call_quiet (is_bool hy (HB.out p _ (by repeat (first | with_reducible exact Grew.refl _ | with_reducible apply Grew.alloc | with_reducible apply Grew.later | with_reducible apply Grew.drew | with_reducible apply Grew.store | with_reducible assumption)))))))))); refine wpQuiet_nil ?_; rintro _ ⟨u, rfl⟩))
            go_region_held3 (fun w' => w'.cell? ⟨bp, op + i, none⟩ = some (.int .i64 p) ∧ w'.cell? ⟨bp, op + (i + 1), none⟩ = some (.int .i64 p2))
              (exact ⟨by first | (go_simp; done) | exact hg1.cell hd1, by first | (go_simp; done) | exact hg1.cell hd2⟩)
              ((refine step_append_lies _ (by rfl) _ _ 41 (by rfl) uE.world.heap.size 87 i0 _ 2 16 Try.underlying41 hi0 hz0 hzz1 hzz2 (by rfl) (by decide) (.slice ao11 0 c11) _ _ (by rfl) Own.is ⟨_, 0, none⟩ 1 1 [.int .i64 p, .int .i64 p2] (by rfl) (by rfl) news_row (by simp [Value.oneCell']) (by decide) hm63 hm40 (Nat.le_trans hbase (show Grew y.world _ from (by repeat (first | with_reducible exact Grew.refl _ | with_reducible apply Grew.alloc | with_reducible apply Grew.later | with_reducible apply Grew.drew | with_reducible apply Grew.store | with_reducible assumption))).size) _ rfl ?_
                intro g1 cap1 w1 hown1 hgrow1 hat1 hlt1
                have hg1 : Grew uE.world w1 := Grew.append (show Grew uE.world _ from (by repeat (first | with_reducible exact Grew.refl _ | with_reducible apply Grew.alloc | with_reducible apply Grew.later | with_reducible apply Grew.drew | with_reducible apply Grew.store | with_reducible assumption))) (Own.is (v := (.slice ao11 0 c11)) (base := uE.world.heap.size) (e := 87) (size := 2)) (Nat.le_refl _) hgrow1))
            all_goals go_wp2
            all_goals clear q4 q5
            all_goals
              go_roundw
              case rel => exact ⟨i + 1, _, by go_num, rfl, by omega, by rw [Hn1.out, Hn2.out]; exact hown1, hg1⟩
              case measure => simp [intOf]; omega
          · rw [List.concat_eq_append] at hM
            have hml : (mixAt f P i).length = M.length + 1 := by rw [hM]; simp
            have hmlen := mixAt_len f P i
            obtain ⟨g, cg, e11, hg2, hg3⟩ := hown.form (by omega)
            rw [hml] at e11
            subst e11
            have hownM : y.world.ownsRow uE.world.heap.size 87 2 (.slice (some ⟨g, 0, none⟩) (M.length + 1) cg) (M.length + 1) ((M ++ [q]).flatMap slC) := by
              have := hown
              rw [hM] at this
              simpa using this
            have hcl : y.world.cell? ⟨g, M.length * 2 + 1, none⟩ = some (.int .i64 q.2) := by
              rw [hownM.cellAt (M.length * 2 + 1) (by omega), List.flatMap_append, List.getElem?_append_right (by rw [slC_len]; omega), slC_len, show M.length * 2 + 1 - M.length * 2 = 1 by omega]
              rfl
            have hfr := hownM.frozenAt (M.length * 2 + 1)
            have ibg : BlockIn y.world g := BlockIn.of_cell hcl
            have q3 : (0 : Int) < (M.length : Int) + 1 := by omega
            have hmm : M.length < M.length + 1 := by omega
            have hmi : (M.length : Int) < (M.length : Int) + 1 := by omega
            have hM240 : M.length ≤ 240 := by omega
            by_cases hqp : q.2 = P[i]
            · have Hn := Lib.hid (mixAt_ext f P i hi1 hf hM hqp)
              have Hn2 := Lib.hid (show (mixAt f P (i + 1)).flatMap slC = ((M ++ [q]).flatMap slC).set (M.length * 2 + 1) (.int .i64 P[i + 1]) by rw [Hn.out, slC_last])
              have Hn1 := Lib.hid (show (mixAt f P (i + 1)).length = M.length + 1 by rw [Hn.out]; simp)
              have Hs2 := Lib.hid (fun W (k : Grew y.world W) => ((owns_grew hownM k).stored (M.length * 2 + 1) (.int .i64 P[i + 1])).1)
              have inw : NewFor uE.world g := ⟨hg2⟩
              have ihc : HasCell y.world g (M.length * 2 + 1) := ⟨_, hcl⟩
              have hqp' : (q.2 == P[i]) = true := by simp [hqp]
              clear hown hM hml hqp hf hownM
              generalize P[i] = p at *
              generalize P[i + 1] = p2 at *
              generalize q.2 = q2 at *
              go_wp2_with (first | (go_at_call 50; (with_reducible refine call_later (is_bool hx (HA.out p _ (by repeat (first | with_reducible exact Grew.refl _ | with_reducible apply Grew.alloc | with_reducible apply Grew.later | with_reducible apply Grew.drew | with_reducible apply Grew.store | with_reducible assumption)))) ?_); intro u) | (go_at_call 50; (with_reducible refine call_later (is_bool hy (HB.out p _ (by repeat (first | with_reducible exact Grew.refl _ | with_reducible apply Grew.alloc | with_reducible apply Grew.later | with_reducible apply Grew.drew | with_reducible apply Grew.store | with_reducible assumption)))) ?_); intro u) | ((with_reducible refine wp_region_later ?_ ?_ ?_); (· kernel_rfl); (· kernel_rfl); (repeat (go_big_quiet_step ((first | (go_at_call 50; (with_reducible exact call_quiet (is_bool hx (HA.out p _ (by repeat (first | with_reducible exact Grew.refl _ | with_reducible apply Grew.alloc | with_reducible apply Grew.later | with_reducible apply Grew.drew | with_reducible apply Grew.store | with_reducible assumption)))))) | (go_at_call 50; (with_reducible exact call_quiet (is_bool hy (HB.out p _ (by repeat (first | with_reducible exact Grew.refl _ | with_reducible apply Grew.alloc | with_reducible apply Grew.later | with_reducible apply Grew.drew | with_reducible apply Grew.store | with_reducible assumption)))))))))); refine wpQuiet_nil ?_; rintro _ ⟨u, rfl⟩))
              all_goals
                go_roundw
                case rel => exact ⟨i + 1, _, by go_num, rfl, by omega, by rw [Hn1.out, Hn2.out]; exact Hs2.out _ (by repeat (first | with_reducible exact Grew.refl _ | with_reducible apply Grew.alloc | with_reducible apply Grew.later | with_reducible apply Grew.drew | with_reducible apply Grew.store | with_reducible assumption)), (by repeat (first | with_reducible exact Grew.refl _ | with_reducible apply Grew.alloc | with_reducible apply Grew.later | with_reducible apply Grew.drew | with_reducible apply Grew.store | with_reducible assumption))⟩
                case measure => simp [intOf]; omega
            · have Hap := Lib.hid (mixAt_app f P i hi1 hf (.inr ⟨M, q, hM, hqp⟩))
              have hqp' : (q.2 == P[i]) = false := by simp [hqp]
              have hown9 : y.world.ownsRow uE.world.heap.size 87 2 (.slice (some ⟨g, 0, none⟩) (M.length + 1) cg) (mixAt f P i).length ((mixAt f P i).flatMap slC) := hown
              clear hown hM hml hqp hf hownM
              generalize q.2 = q2 at *
              have Hn2 := Lib.hid (show (mixAt f P (i + 1)).flatMap slC = (mixAt f P i).flatMap slC ++ [.int .i64 P[i], .int .i64 P[i + 1]] by rw [Hap.out, slC_snoc])
              have Hn1 := Lib.hid (show (mixAt f P (i + 1)).length = (mixAt f P i).length + 1 by rw [Hap.out]; simp)
              have hlen : (mixAt f P i).length ≤ 240 := by have := mixAt_len f P i; omega
              have hbase : uE.world.heap.size ≤ y.world.heap.size := y.grew.size
              have io : Own y.world uE.world.heap.size 87 2 (.slice (some ⟨g, 0, none⟩) (M.length + 1) cg) (mixAt f P i).length ((mixAt f P i).flatMap slC) := ⟨hown9⟩
              obtain ⟨i0, hi0, hz0, hzz1, hzz2⟩ := info_parts infoSl2
              clear hfv
              generalize P[i] = p at *
              generalize P[i + 1] = p2 at *
              generalize (mixAt f P i).length = n at *
              have hm63 : n + 1 ≤ maxLen := by simp [maxLen]; omega
              have hm40 : (n + 1) * 16 ≤ 140737488355328 := by omega
              have q4 : (0 : Int) ≤ (i : Int) + 1 := by omega
              have q5 : ((i : Int) + 1).toNat = i + 1 := by omega
              go_wp2_with (first | (go_at_call 50; (with_reducible refine call_later (is_bool hx (HA.out p _ (by repeat (first | with_reducible exact Grew.refl _ | with_reducible apply Grew.alloc | with_reducible apply Grew.later | with_reducible apply Grew.drew | with_reducible apply Grew.store | with_reducible assumption)))) ?_); intro u) | (go_at_call 50; (with_reducible refine call_later (is_bool hy (HB.out p _ (by repeat (first | with_reducible exact Grew.refl _ | with_reducible apply Grew.alloc | with_reducible apply Grew.later | with_reducible apply Grew.drew | with_reducible apply Grew.store | with_reducible assumption)))) ?_); intro u) | ((with_reducible refine wp_region_later ?_ ?_ ?_); (· kernel_rfl); (· kernel_rfl); (repeat (go_big_quiet_step ((first | (go_at_call 50; (with_reducible exact call_quiet (is_bool hx (HA.out p _ (by repeat (first | with_reducible exact Grew.refl _ | with_reducible apply Grew.alloc | with_reducible apply Grew.later | with_reducible apply Grew.drew | with_reducible apply Grew.store | with_reducible assumption)))))) | (go_at_call 50; (with_reducible exact call_quiet (is_bool hy (HB.out p _ (by repeat (first | with_reducible exact Grew.refl _ | with_reducible apply Grew.alloc | with_reducible apply Grew.later | with_reducible apply Grew.drew | with_reducible apply Grew.store | with_reducible assumption)))))))))); refine wpQuiet_nil ?_; rintro _ ⟨u, rfl⟩))
              go_region_held3 (fun w' => w'.cell? ⟨bp, op + i, none⟩ = some (.int .i64 p) ∧ w'.cell? ⟨bp, op + (i + 1), none⟩ = some (.int .i64 p2))
                (exact ⟨by first | (go_simp; done) | exact hg1.cell hd1, by first | (go_simp; done) | exact hg1.cell hd2⟩)
                ((refine step_append_lies _ (by rfl) _ _ 41 (by rfl) uE.world.heap.size 87 i0 _ 2 16 Try.underlying41 hi0 hz0 hzz1 hzz2 (by rfl) (by decide) (.slice (some ⟨g, 0, none⟩) (M.length + 1) cg) _ _ (by rfl) Own.is ⟨_, 0, none⟩ 1 1 [.int .i64 p, .int .i64 p2] (by rfl) (by rfl) news_row (by simp [Value.oneCell']) (by decide) hm63 hm40 (Nat.le_trans hbase (show Grew y.world _ from (by repeat (first | with_reducible exact Grew.refl _ | with_reducible apply Grew.alloc | with_reducible apply Grew.later | with_reducible apply Grew.drew | with_reducible apply Grew.store | with_reducible assumption))).size) _ rfl ?_
                  intro g1 cap1 w1 hown1 hgrow1 hat1 hlt1
                  have hg1 : Grew uE.world w1 := Grew.append (show Grew uE.world _ from (by repeat (first | with_reducible exact Grew.refl _ | with_reducible apply Grew.alloc | with_reducible apply Grew.later | with_reducible apply Grew.drew | with_reducible apply Grew.store | with_reducible assumption))) (Own.is (v := (.slice (some ⟨g, 0, none⟩) (M.length + 1) cg)) (base := uE.world.heap.size) (e := 87) (size := 2)) (Nat.le_refl _) hgrow1))
              all_goals go_wp2
              all_goals clear q4 q5
              all_goals
                go_roundw
                case rel => exact ⟨i + 1, _, by go_num, rfl, by omega, by rw [Hn1.out, Hn2.out]; exact hown1, hg1⟩
                case measure => simp [intOf]; omega
        · skip
          have hf : f P[i] = true := hfv.trans (by rw [hx, hy]; rfl)
          rcases List.eq_nil_or_concat (mixAt f P i) with h0 | ⟨M, q, hM⟩
          · have Hap := Lib.hid (mixAt_app f P i hi1 hf (.inl h0))
            have hown0 := hown
            rw [h0] at hown0
            obtain ⟨ao11, c11, rfl⟩ := owns_form hown0
            have hown9 : y.world.ownsRow uE.world.heap.size 87 2 (.slice ao11 0 c11) (mixAt f P i).length ((mixAt f P i).flatMap slC) := hown
            clear hown hown0 hf h0
            have Hn2 := Lib.hid (show (mixAt f P (i + 1)).flatMap slC = (mixAt f P i).flatMap slC ++ [.int .i64 P[i], .int .i64 P[i + 1]] by rw [Hap.out, slC_snoc])
            have Hn1 := Lib.hid (show (mixAt f P (i + 1)).length = (mixAt f P i).length + 1 by rw [Hap.out]; simp)
            have hlen : (mixAt f P i).length ≤ 240 := by have := mixAt_len f P i; omega
            have hbase : uE.world.heap.size ≤ y.world.heap.size := y.grew.size
            have io : Own y.world uE.world.heap.size 87 2 (.slice ao11 0 c11) (mixAt f P i).length ((mixAt f P i).flatMap slC) := ⟨hown9⟩
            obtain ⟨i0, hi0, hz0, hzz1, hzz2⟩ := info_parts infoSl2
            clear hfv
            generalize P[i] = p at *
            generalize P[i + 1] = p2 at *
            generalize (mixAt f P i).length = n at *
            have hm63 : n + 1 ≤ maxLen := by simp [maxLen]; omega
            have hm40 : (n + 1) * 16 ≤ 140737488355328 := by omega
            have q4 : (0 : Int) ≤ (i : Int) + 1 := by omega
            have q5 : ((i : Int) + 1).toNat = i + 1 := by omega
            go_wp2_with (first | (go_at_call 50; (with_reducible refine call_later (is_bool hx (HA.out p _ (by repeat (first | with_reducible exact Grew.refl _ | with_reducible apply Grew.alloc | with_reducible apply Grew.later | with_reducible apply Grew.drew | with_reducible apply Grew.store | with_reducible assumption)))) ?_); intro u) | (go_at_call 50; (with_reducible refine call_later (is_bool hy (HB.out p _ (by repeat (first | with_reducible exact Grew.refl _ | with_reducible apply Grew.alloc | with_reducible apply Grew.later | with_reducible apply Grew.drew | with_reducible apply Grew.store | with_reducible assumption)))) ?_); intro u) | ((with_reducible refine wp_region_later ?_ ?_ ?_); (· kernel_rfl); (· kernel_rfl); (repeat (go_big_quiet_step ((first | (go_at_call 50; (with_reducible exact call_quiet (is_bool hx (HA.out p _ (by repeat (first | with_reducible exact Grew.refl _ | with_reducible apply Grew.alloc | with_reducible apply Grew.later | with_reducible apply Grew.drew | with_reducible apply Grew.store | with_reducible assumption)))))) | (go_at_call 50; (with_reducible exact call_quiet (is_bool hy (HB.out p _ (by repeat (first | with_reducible exact Grew.refl _ | with_reducible apply Grew.alloc | with_reducible apply Grew.later | with_reducible apply Grew.drew | with_reducible apply Grew.store | with_reducible assumption)))))))))); refine wpQuiet_nil ?_; rintro _ ⟨u, rfl⟩))
            go_region_held3 (fun w' => w'.cell? ⟨bp, op + i, none⟩ = some (.int .i64 p) ∧ w'.cell? ⟨bp, op + (i + 1), none⟩ = some (.int .i64 p2))
              (exact ⟨by first | (go_simp; done) | exact hg1.cell hd1, by first | (go_simp; done) | exact hg1.cell hd2⟩)
              ((refine step_append_lies _ (by rfl) _ _ 41 (by rfl) uE.world.heap.size 87 i0 _ 2 16 Try.underlying41 hi0 hz0 hzz1 hzz2 (by rfl) (by decide) (.slice ao11 0 c11) _ _ (by rfl) Own.is ⟨_, 0, none⟩ 1 1 [.int .i64 p, .int .i64 p2] (by rfl) (by rfl) news_row (by simp [Value.oneCell']) (by decide) hm63 hm40 (Nat.le_trans hbase (show Grew y.world _ from (by repeat (first | with_reducible exact Grew.refl _ | with_reducible apply Grew.alloc | with_reducible apply Grew.later | with_reducible apply Grew.drew | with_reducible apply Grew.store | with_reducible assumption))).size) _ rfl ?_
                intro g1 cap1 w1 hown1 hgrow1 hat1 hlt1
                have hg1 : Grew uE.world w1 := Grew.append (show Grew uE.world _ from (by repeat (first | with_reducible exact Grew.refl _ | with_reducible apply Grew.alloc | with_reducible apply Grew.later | with_reducible apply Grew.drew | with_reducible apply Grew.store | with_reducible assumption))) (Own.is (v := (.slice ao11 0 c11)) (base := uE.world.heap.size) (e := 87) (size := 2)) (Nat.le_refl _) hgrow1))
            all_goals go_wp2
            all_goals clear q4 q5
            all_goals
              go_roundw
              case rel => exact ⟨i + 1, _, by go_num, rfl, by omega, by rw [Hn1.out, Hn2.out]; exact hown1, hg1⟩
              case measure => simp [intOf]; omega
          · rw [List.concat_eq_append] at hM
            have hml : (mixAt f P i).length = M.length + 1 := by rw [hM]; simp
            have hmlen := mixAt_len f P i
            obtain ⟨g, cg, e11, hg2, hg3⟩ := hown.form (by omega)
            rw [hml] at e11
            subst e11
            have hownM : y.world.ownsRow uE.world.heap.size 87 2 (.slice (some ⟨g, 0, none⟩) (M.length + 1) cg) (M.length + 1) ((M ++ [q]).flatMap slC) := by
              have := hown
              rw [hM] at this
              simpa using this
            have hcl : y.world.cell? ⟨g, M.length * 2 + 1, none⟩ = some (.int .i64 q.2) := by
              rw [hownM.cellAt (M.length * 2 + 1) (by omega), List.flatMap_append, List.getElem?_append_right (by rw [slC_len]; omega), slC_len, show M.length * 2 + 1 - M.length * 2 = 1 by omega]
              rfl
            have hfr := hownM.frozenAt (M.length * 2 + 1)
            have ibg : BlockIn y.world g := BlockIn.of_cell hcl
            have q3 : (0 : Int) < (M.length : Int) + 1 := by omega
            have hmm : M.length < M.length + 1 := by omega
            have hmi : (M.length : Int) < (M.length : Int) + 1 := by omega
            have hM240 : M.length ≤ 240 := by omega
            by_cases hqp : q.2 = P[i]
            · have Hn := Lib.hid (mixAt_ext f P i hi1 hf hM hqp)
              have Hn2 := Lib.hid (show (mixAt f P (i + 1)).flatMap slC = ((M ++ [q]).flatMap slC).set (M.length * 2 + 1) (.int .i64 P[i + 1]) by rw [Hn.out, slC_last])
              have Hn1 := Lib.hid (show (mixAt f P (i + 1)).length = M.length + 1 by rw [Hn.out]; simp)
              have Hs2 := Lib.hid (fun W (k : Grew y.world W) => ((owns_grew hownM k).stored (M.length * 2 + 1) (.int .i64 P[i + 1])).1)
              have inw : NewFor uE.world g := ⟨hg2⟩
              have ihc : HasCell y.world g (M.length * 2 + 1) := ⟨_, hcl⟩
              have hqp' : (q.2 == P[i]) = true := by simp [hqp]
              clear hown hM hml hqp hf hownM
              generalize P[i] = p at *
              generalize P[i + 1] = p2 at *
              generalize q.2 = q2 at *
              go_wp2_with (first | (go_at_call 50; (with_reducible refine call_later (is_bool hx (HA.out p _ (by repeat (first | with_reducible exact Grew.refl _ | with_reducible apply Grew.alloc | with_reducible apply Grew.later | with_reducible apply Grew.drew | with_reducible apply Grew.store | with_reducible assumption)))) ?_); intro u) | (go_at_call 50; (with_reducible refine call_later (is_bool hy (HB.out p _ (by repeat (first | with_reducible exact Grew.refl _ | with_reducible apply Grew.alloc | with_reducible apply Grew.later | with_reducible apply Grew.drew | with_reducible apply Grew.store | with_reducible assumption)))) ?_); intro u) | ((with_reducible refine wp_region_later ?_ ?_ ?_); (· kernel_rfl); (· kernel_rfl); (repeat (go_big_quiet_step ((first | (go_at_call 50; (with_reducible exact call_quiet (is_bool hx (HA.out p _ (by repeat (first | with_reducible exact Grew.refl _ | with_reducible apply Grew.alloc | with_reducible apply Grew.later | with_reducible apply Grew.drew | with_reducible apply Grew.store | with_reducible assumption)))))) | (go_at_call 50; (with_reducible exact call_quiet (is_bool hy (HB.out p _ (by repeat (first | with_reducible exact Grew.refl _ | with_reducible apply Grew.alloc | with_reducible apply Grew.later | with_reducible apply Grew.drew | with_reducible apply Grew.store | with_reducible assumption)))))))))); refine wpQuiet_nil ?_; rintro _ ⟨u, rfl⟩))
              all_goals
                go_roundw
                case rel => exact ⟨i + 1, _, by go_num, rfl, by omega, by rw [Hn1.out, Hn2.out]; exact Hs2.out _ (by repeat (first | with_reducible exact Grew.refl _ | with_reducible apply Grew.alloc | with_reducible apply Grew.later | with_reducible apply Grew.drew | with_reducible apply Grew.store | with_reducible assumption)), (by repeat (first | with_reducible exact Grew.refl _ | with_reducible apply Grew.alloc | with_reducible apply Grew.later | with_reducible apply Grew.drew | with_reducible apply Grew.store | with_reducible assumption))⟩
                case measure => simp [intOf]; omega
            · have Hap := Lib.hid (mixAt_app f P i hi1 hf (.inr ⟨M, q, hM, hqp⟩))
              have hqp' : (q.2 == P[i]) = false := by simp [hqp]
              have hown9 : y.world.ownsRow uE.world.heap.size 87 2 (.slice (some ⟨g, 0, none⟩) (M.length + 1) cg) (mixAt f P i).length ((mixAt f P i).flatMap slC) := hown
              clear hown hM hml hqp hf hownM
              generalize q.2 = q2 at *
              have Hn2 := Lib.hid (show (mixAt f P (i + 1)).flatMap slC = (mixAt f P i).flatMap slC ++ [.int .i64 P[i], .int .i64 P[i + 1]] by rw [Hap.out, slC_snoc])
              have Hn1 := Lib.hid (show (mixAt f P (i + 1)).length = (mixAt f P i).length + 1 by rw [Hap.out]; simp)
              have hlen : (mixAt f P i).length ≤ 240 := by have := mixAt_len f P i; omega
              have hbase : uE.world.heap.size ≤ y.world.heap.size := y.grew.size
              have io : Own y.world uE.world.heap.size 87 2 (.slice (some ⟨g, 0, none⟩) (M.length + 1) cg) (mixAt f P i).length ((mixAt f P i).flatMap slC) := ⟨hown9⟩
              obtain ⟨i0, hi0, hz0, hzz1, hzz2⟩ := info_parts infoSl2
              clear hfv
              generalize P[i] = p at *
              generalize P[i + 1] = p2 at *
              generalize (mixAt f P i).length = n at *
              have hm63 : n + 1 ≤ maxLen := by simp [maxLen]; omega
              have hm40 : (n + 1) * 16 ≤ 140737488355328 := by omega
              have q4 : (0 : Int) ≤ (i : Int) + 1 := by omega
              have q5 : ((i : Int) + 1).toNat = i + 1 := by omega
              go_wp2_with (first | (go_at_call 50; (with_reducible refine call_later (is_bool hx (HA.out p _ (by repeat (first | with_reducible exact Grew.refl _ | with_reducible apply Grew.alloc | with_reducible apply Grew.later | with_reducible apply Grew.drew | with_reducible apply Grew.store | with_reducible assumption)))) ?_); intro u) | (go_at_call 50; (with_reducible refine call_later (is_bool hy (HB.out p _ (by repeat (first | with_reducible exact Grew.refl _ | with_reducible apply Grew.alloc | with_reducible apply Grew.later | with_reducible apply Grew.drew | with_reducible apply Grew.store | with_reducible assumption)))) ?_); intro u) | ((with_reducible refine wp_region_later ?_ ?_ ?_); (· kernel_rfl); (· kernel_rfl); (repeat (go_big_quiet_step ((first | (go_at_call 50; (with_reducible exact call_quiet (is_bool hx (HA.out p _ (by repeat (first | with_reducible exact Grew.refl _ | with_reducible apply Grew.alloc | with_reducible apply Grew.later | with_reducible apply Grew.drew | with_reducible apply Grew.store | with_reducible assumption)))))) | (go_at_call 50; (with_reducible exact call_quiet (is_bool hy (HB.out p _ (by repeat (first | with_reducible exact Grew.refl _ | with_reducible apply Grew.alloc | with_reducible apply Grew.later | with_reducible apply Grew.drew | with_reducible apply Grew.store | with_reducible assumption)))))))))); refine wpQuiet_nil ?_; rintro _ ⟨u, rfl⟩))
              go_region_held3 (fun w' => w'.cell? ⟨bp, op + i, none⟩ = some (.int .i64 p) ∧ w'.cell? ⟨bp, op + (i + 1), none⟩ = some (.int .i64 p2))
                (exact ⟨by first | (go_simp; done) | exact hg1.cell hd1, by first | (go_simp; done) | exact hg1.cell hd2⟩)
                ((refine step_append_lies _ (by rfl) _ _ 41 (by rfl) uE.world.heap.size 87 i0 _ 2 16 Try.underlying41 hi0 hz0 hzz1 hzz2 (by rfl) (by decide) (.slice (some ⟨g, 0, none⟩) (M.length + 1) cg) _ _ (by rfl) Own.is ⟨_, 0, none⟩ 1 1 [.int .i64 p, .int .i64 p2] (by rfl) (by rfl) news_row (by simp [Value.oneCell']) (by decide) hm63 hm40 (Nat.le_trans hbase (show Grew y.world _ from (by repeat (first | with_reducible exact Grew.refl _ | with_reducible apply Grew.alloc | with_reducible apply Grew.later | with_reducible apply Grew.drew | with_reducible apply Grew.store | with_reducible assumption))).size) _ rfl ?_
                  intro g1 cap1 w1 hown1 hgrow1 hat1 hlt1
                  have hg1 : Grew uE.world w1 := Grew.append (show Grew uE.world _ from (by repeat (first | with_reducible exact Grew.refl _ | with_reducible apply Grew.alloc | with_reducible apply Grew.later | with_reducible apply Grew.drew | with_reducible apply Grew.store | with_reducible assumption))) (Own.is (v := (.slice (some ⟨g, 0, none⟩) (M.length + 1) cg)) (base := uE.world.heap.size) (e := 87) (size := 2)) (Nat.le_refl _) hgrow1))
              all_goals go_wp2
              all_goals clear q4 q5
              all_goals
                go_roundw
                case rel => exact ⟨i + 1, _, by go_num, rfl, by omega, by rw [Hn1.out, Hn2.out]; exact hown1, hg1⟩
                case measure => simp [intOf]; omega
    · have hlast : i = P.length - 1 := by omega
      have Hr := Lib.hid (HR.out.trans (HM.out.trans (show mixAt f P (P.length - 1) = mixAt f P i by rw [hlast])))
      have hln := mixAt_len f P i
      have Hs := Lib.hid (SlAt.of_owns hown)
      obtain ⟨ao11, c11, rfl⟩ := owns_form hown
      have hi5 : ¬ ((i : Int) + 1 < P.length) := by omega
      have hl5 : decide ((4096 : Int) < (mixAt f P i).length) = false := by rw [decide_eq_false_iff_not]; omega
      generalize mixAt f P i = M at *
      go_wp2
      go_ret2
      exact RetSlC.full Hr.out HC.out Hs.out (by repeat (first | with_reducible exact Grew.refl _ | with_reducible apply Grew.alloc | with_reducible apply Grew.later | with_reducible apply Grew.drew | with_reducible apply Grew.store | with_reducible assumption))
theorem r4Mixed2_any (A B : List (Int × Int)) (hA : A.length ≤ 60) (hB : B.length ≤ 60) (v1 v2 : Value) (w : World) (h1 : SlAt w v1 A.length (A.flatMap slC)) (h2 : SlAt w v2 B.length (B.flatMap slC)) : Calls Try.prog 22 #[v1, v2, .int .i64 2] w (RetSlC (mixR butB A B) (mixCode A B) w) := by
  have HSA := Lib.hid (fun w' (g : Grew w w') => r4Set_any A v1 w' (h1.grew g))
  have HSB := Lib.hid (fun w' (g : Grew w w') => r4Set_any B v2 w' (h2.grew g))
  have HE := Lib.hid (fun w' (g : Grew w w') => r4Edges_any A B hA hB v1 v2 w' (h1.grew g) (h2.grew g))
  have HA := Lib.hid (fun t w' (g : Grew w w') => r4Holds_any A t v1 w' (h1.grew g))
  have HB := Lib.hid (fun t w' (g : Grew w w') => r4Holds_any B t v2 w' (h2.grew g))
  obtain ⟨ao1, cap1, rfl, hm1⟩ := sl2_form h1
  obtain ⟨ao2, cap2, rfl, hm2⟩ := sl2_form h2
  clear h1 h2
  cases hs1 : setB A
  · have HR := Lib.hid (show mixR butB A B = [] by unfold mixR; simp [hs1])
    have HC := Lib.hid (show mixCode A B = 2 by unfold mixCode; rw [hs1]; rfl)
    cases hs2 : setB B
    all_goals
      go_enter Try.func22, Try.ntmps22
      go_wp2_with (first | (go_at_call 48; (with_reducible refine call_later (is_bool hs1 (HSA.out _ (by repeat (first | with_reducible exact Grew.refl _ | with_reducible apply Grew.alloc | with_reducible apply Grew.later | with_reducible apply Grew.drew | with_reducible apply Grew.store | with_reducible assumption)))) ?_); intro u) | (go_at_call 48; (with_reducible refine call_later (is_bool hs2 (HSB.out _ (by repeat (first | with_reducible exact Grew.refl _ | with_reducible apply Grew.alloc | with_reducible apply Grew.later | with_reducible apply Grew.drew | with_reducible apply Grew.store | with_reducible assumption)))) ?_); intro u) | ((with_reducible refine wp_region_later ?_ ?_ ?_); (· kernel_rfl); (· kernel_rfl); (repeat (go_big_quiet_step ((first | (go_at_call 48; (with_reducible exact call_quiet (is_bool hs1 (HSA.out _ (by repeat (first | with_reducible exact Grew.refl _ | with_reducible apply Grew.alloc | with_reducible apply Grew.later | with_reducible apply Grew.drew | with_reducible apply Grew.store | with_reducible assumption)))))) | (go_at_call 48; (with_reducible exact call_quiet (is_bool hs2 (HSB.out _ (by repeat (first | with_reducible exact Grew.refl _ | with_reducible apply Grew.alloc | with_reducible apply Grew.later | with_reducible apply Grew.drew | with_reducible apply Grew.store | with_reducible assumption)))))))))); refine wpQuiet_nil ?_; rintro _ ⟨u, rfl⟩))
      go_ret2
      exact RetSlC.full HR.out HC.out (SlAt.nil _) (by repeat (first | with_reducible exact Grew.refl _ | with_reducible apply Grew.alloc | with_reducible apply Grew.later | with_reducible apply Grew.drew | with_reducible apply Grew.store | with_reducible assumption))
  cases hs2 : setB B
  · have HR := Lib.hid (show mixR butB A B = [] by unfold mixR; simp [hs2])
    have HC := Lib.hid (show mixCode A B = 2 by unfold mixCode; rw [hs1, hs2]; rfl)
    go_enter Try.func22, Try.ntmps22
    go_wp2_with (first | (go_at_call 48; (with_reducible refine call_later (is_bool hs1 (HSA.out _ (by repeat (first | with_reducible exact Grew.refl _ | with_reducible apply Grew.alloc | with_reducible apply Grew.later | with_reducible apply Grew.drew | with_reducible apply Grew.store | with_reducible assumption)))) ?_); intro u) | (go_at_call 48; (with_reducible refine call_later (is_bool hs2 (HSB.out _ (by repeat (first | with_reducible exact Grew.refl _ | with_reducible apply Grew.alloc | with_reducible apply Grew.later | with_reducible apply Grew.drew | with_reducible apply Grew.store | with_reducible assumption)))) ?_); intro u) | ((with_reducible refine wp_region_later ?_ ?_ ?_); (· kernel_rfl); (· kernel_rfl); (repeat (go_big_quiet_step ((first | (go_at_call 48; (with_reducible exact call_quiet (is_bool hs1 (HSA.out _ (by repeat (first | with_reducible exact Grew.refl _ | with_reducible apply Grew.alloc | with_reducible apply Grew.later | with_reducible apply Grew.drew | with_reducible apply Grew.store | with_reducible assumption)))))) | (go_at_call 48; (with_reducible exact call_quiet (is_bool hs2 (HSB.out _ (by repeat (first | with_reducible exact Grew.refl _ | with_reducible apply Grew.alloc | with_reducible apply Grew.later | with_reducible apply Grew.drew | with_reducible apply Grew.store | with_reducible assumption)))))))))); refine wpQuiet_nil ?_; rintro _ ⟨u, rfl⟩))
    go_ret2
    exact RetSlC.full HR.out HC.out (SlAt.nil _) (by repeat (first | with_reducible exact Grew.refl _ | with_reducible apply Grew.alloc | with_reducible apply Grew.later | with_reducible apply Grew.drew | with_reducible apply Grew.store | with_reducible assumption))
  have HR := Lib.hid (show mixR butB A B = mixL butB A B by unfold mixR; rw [if_pos ⟨hs1, hs2⟩])
  have HC := Lib.hid (show mixCode A B = 0 by unfold mixCode; rw [hs1, hs2]; rfl)
  have hpl := placesL_len A B
  have HM := Lib.hid (show mixL butB A B = mixAt (fun p => butB (holdsB A p) (holdsB B p)) (placesL A B) ((placesL A B).length - 1) from rfl)
  go_enter Try.func22, Try.ntmps22
  go_wp2_with (first | (go_at_call 48; (with_reducible refine call_later (is_bool hs1 (HSA.out _ (by repeat (first | with_reducible exact Grew.refl _ | with_reducible apply Grew.alloc | with_reducible apply Grew.later | with_reducible apply Grew.drew | with_reducible apply Grew.store | with_reducible assumption)))) ?_); intro u) | (go_at_call 48; (with_reducible refine call_later (is_bool hs2 (HSB.out _ (by repeat (first | with_reducible exact Grew.refl _ | with_reducible apply Grew.alloc | with_reducible apply Grew.later | with_reducible apply Grew.drew | with_reducible apply Grew.store | with_reducible assumption)))) ?_); intro u) | (go_at_call 49; (with_reducible refine (HE.out _ (by repeat (first | with_reducible exact Grew.refl _ | with_reducible apply Grew.alloc | with_reducible apply Grew.later | with_reducible apply Grew.drew | with_reducible apply Grew.store | with_reducible assumption))).mono ?_); rintro e w1 ⟨vp, rfl, sp, gp⟩; obtain ⟨uE, rfl⟩ := later_of gp; clear gp; obtain ⟨aop, capp, rfl, hmp⟩ := sl_form sp) | ((with_reducible refine wp_region_later ?_ ?_ ?_); (· kernel_rfl); (· kernel_rfl); (repeat (go_big_quiet_step ((first | (go_at_call 48; (with_reducible exact call_quiet (is_bool hs1 (HSA.out _ (by repeat (first | with_reducible exact Grew.refl _ | with_reducible apply Grew.alloc | with_reducible apply Grew.later | with_reducible apply Grew.drew | with_reducible apply Grew.store | with_reducible assumption)))))) | (go_at_call 48; (with_reducible exact call_quiet (is_bool hs2 (HSB.out _ (by repeat (first | with_reducible exact Grew.refl _ | with_reducible apply Grew.alloc | with_reducible apply Grew.later | with_reducible apply Grew.drew | with_reducible apply Grew.store | with_reducible assumption)))))))))); refine wpQuiet_nil ?_; rintro _ ⟨u, rfl⟩))
  have HI := Lib.hid (fun k hk => int_cell sp k hk)
  have hp2 : (placesL A B).length ≤ 240 := by omega
  have Hf : Hid (∀ i (h : i < (placesL A B).length), True) := fun _ _ => trivial
  generalize placesL A B = P at *
  generalize hf0 : (fun p => butB (holdsB A p) (holdsB B p)) = f at *
  have hgw : Grew w uE.world := (by repeat (first | with_reducible exact Grew.refl _ | with_reducible apply Grew.alloc | with_reducible apply Grew.later | with_reducible apply Grew.drew | with_reducible apply Grew.store | with_reducible assumption))
  go_loopw [11, 12] (fun v t wr => ∃ (i : Nat) (v11 : Value), t = .int .i64 i ∧ v11 = v ∧ (i = 0 ∨ i + 1 ≤ P.length) ∧ wr.ownsRow uE.world.heap.size 87 2 v11 (mixAt f P i).length ((mixAt f P i).flatMap slC) ∧ Grew uE.world wr) (fun _ t _ => P.length - (intOf t).toNat)
  case atStart => exact ⟨0, _, rfl, rfl, .inl rfl, World.ownsRow_nil _ _ _ _, (by repeat (first | with_reducible exact Grew.refl _ | with_reducible apply Grew.alloc | with_reducible apply Grew.later | with_reducible apply Grew.drew | with_reducible apply Grew.store | with_reducible assumption))⟩
  case round =>
    obtain ⟨i, v11, rfl, rfl, hi, hown, hg⟩ := hrel
    obtain ⟨y, rfl⟩ := later_of hg
    clear hg
    by_cases hi1 : i + 1 < P.length
    · obtain ⟨bp, op, cp, ep, ip, hd1⟩ := HI.out i (by omega)
      obtain ⟨_, _, _, ep2, ip2, hd2⟩ := HI.out (i + 1) hi1
      obtain ⟨rfl, rfl⟩ : aop = some ⟨bp, op, none⟩ ∧ capp = cp := by simpa using ep
      obtain ⟨⟨rfl, rfl⟩, -⟩ : (bp = _ ∧ op = _) ∧ _ := by simpa using ep2
      clear ep ep2
      have q1 : (i : Int) + 1 < P.length := by omega
      have q2 : (i : Int) < P.length := by omega
      have hw1 : IntKind.i64.wrap ((i : Int) + 1) = (i : Int) + 1 := by simp [IntKind.wrap, IntKind.bits, IntKind.signed]; omega
      have hi0 : i < P.length := by omega
      have Hno := Lib.hid (fun (h : f P[i] = false) => mixAt_no f P i hi0 h)
      have hfv : f P[i] = butB (holdsB A P[i]) (holdsB B P[i]) := by rw [← hf0]
      cases hx : holdsB A P[i]
      · cases hy : holdsB B P[i]
        · skip
          have Hn := Lib.hid (Hno.out (hfv.trans (by rw [hx, hy]; rfl)))
          clear hfv
          generalize P[i] = p at *
          generalize P[i + 1] = p2 at *
          go_wp2_with (first | (go_at_call 50; (with_reducible refine call_later (is_bool hx (HA.out p _ (by repeat (first | with_reducible exact Grew.refl _ | with_reducible apply Grew.alloc | with_reducible apply Grew.later | with_reducible apply Grew.drew | with_reducible apply Grew.store | with_reducible assumption)))) ?_); intro u) | (go_at_call 50; (with_reducible refine call_later (is_bool hy (HB.out p _ (by repeat (first | with_reducible exact Grew.refl _ | with_reducible apply Grew.alloc | with_reducible apply Grew.later | with_reducible apply Grew.drew | with_reducible apply Grew.store | with_reducible assumption)))) ?_); intro u) | ((with_reducible refine wp_region_later ?_ ?_ ?_); (· kernel_rfl); (· kernel_rfl); (repeat (go_big_quiet_step ((first | (go_at_call 50; (with_reducible exact call_quiet (is_bool hx (HA.out p _ (by repeat (first | with_reducible exact Grew.refl _ | with_reducible apply Grew.alloc | with_reducible apply Grew.later | with_reducible apply Grew.drew | with_reducible apply Grew.store | with_reducible assumption)))))) | (go_at_call 50; (with_reducible exact call_quiet (is_bool hy (HB.out p _ (by repeat (first | with_reducible exact Grew.refl _ | with_reducible apply Grew.alloc | with_reducible apply Grew.later | with_reducible apply Grew.drew | with_reducible apply Grew.store | with_reducible assumption)))))))))); refine wpQuiet_nil ?_; rintro _ ⟨u, rfl⟩))
          all_goals
            go_roundw
            case rel => exact ⟨i + 1, _, by go_num, rfl, by omega, by rw [Hn.out]; exact owns_grew hown (by repeat (first | with_reducible exact Grew.refl _ | with_reducible apply Grew.alloc | with_reducible apply Grew.later | with_reducible apply Grew.drew | with_reducible apply Grew.store | with_reducible assumption)), (by repeat (first | with_reducible exact Grew.refl _ | with_reducible apply Grew.alloc | with_reducible apply Grew.later | with_reducible apply Grew.drew | with_reducible apply Grew.store | with_reducible assumption))⟩
            case measure => simp [intOf]; omega
        · skip
          have Hn := Lib.hid (Hno.out (hfv.trans (by rw [hx, hy]; rfl)))
          clear hfv
          generalize P[i] = p at *
          generalize P[i + 1] = p2 at *
          go_wp2_with (first | (go_at_call 50; (with_reducible refine call_later (is_bool hx (HA.out p _ (by repeat (first | with_reducible exact Grew.refl _ | with_reducible apply Grew.alloc | with_reducible apply Grew.later | with_reducible apply Grew.drew | with_reducible apply Grew.store | with_reducible assumption)))) ?_); intro u) | (go_at_call 50; (with_reducible refine call_later (is_bool hy (HB.out p _ (by repeat (first | with_reducible exact Grew.refl _ | with_reducible apply Grew.alloc | with_reducible apply Grew.later | with_reducible apply Grew.drew | with_reducible apply Grew.store | with_reducible assumption)))) ?_); intro u) | ((with_reducible refine wp_region_later ?_ ?_ ?_); (· kernel_rfl); (· kernel_rfl); (repeat (go_big_quiet_step ((first | (go_at_call 50; (with_reducible exact call_quiet (is_bool hx (HA.out p _ (by repeat (first | with_reducible exact Grew.refl _ | with_reducible apply Grew.alloc | with_reducible apply Grew.later | with_reducible apply Grew.drew | with_reducible apply Grew.store | with_reducible assumption)))))) | (go_at_call 50; (with_reducible exact call_quiet (is_bool hy (HB.out p _ (by repeat (first | with_reducible exact Grew.refl _ | with_reducible apply Grew.alloc | with_reducible apply Grew.later | with_reducible apply Grew.drew | with_reducible apply Grew.store | with_reducible assumption)))))))))); refine wpQuiet_nil ?_; rintro _ ⟨u, rfl⟩))
          all_goals
            go_roundw
            case rel => exact ⟨i + 1, _, by go_num, rfl, by omega, by rw [Hn.out]; exact owns_grew hown (by repeat (first | with_reducible exact Grew.refl _ | with_reducible apply Grew.alloc | with_reducible apply Grew.later | with_reducible apply Grew.drew | with_reducible apply Grew.store | with_reducible assumption)), (by repeat (first | with_reducible exact Grew.refl _ | with_reducible apply Grew.alloc | with_reducible apply Grew.later | with_reducible apply Grew.drew | with_reducible apply Grew.store | with_reducible assumption))⟩
            case measure => simp [intOf]; omega
      · cases hy : holdsB B P[i]
        · skip
          have hf : f P[i] = true := hfv.trans (by rw [hx, hy]; rfl)
          rcases List.eq_nil_or_concat (mixAt f P i) with h0 | ⟨M, q, hM⟩
          · have Hap := Lib.hid (mixAt_app f P i hi1 hf (.inl h0))
            have hown0 := hown
            rw [h0] at hown0
            obtain ⟨ao11, c11, rfl⟩ := owns_form hown0
            have hown9 : y.world.ownsRow uE.world.heap.size 87 2 (.slice ao11 0 c11) (mixAt f P i).length ((mixAt f P i).flatMap slC) := hown
            clear hown hown0 hf h0
            have Hn2 := Lib.hid (show (mixAt f P (i + 1)).flatMap slC = (mixAt f P i).flatMap slC ++ [.int .i64 P[i], .int .i64 P[i + 1]] by rw [Hap.out, slC_snoc])
            have Hn1 := Lib.hid (show (mixAt f P (i + 1)).length = (mixAt f P i).length + 1 by rw [Hap.out]; simp)
            have hlen : (mixAt f P i).length ≤ 240 := by have := mixAt_len f P i; omega
            have hbase : uE.world.heap.size ≤ y.world.heap.size := y.grew.size
            have io : Own y.world uE.world.heap.size 87 2 (.slice ao11 0 c11) (mixAt f P i).length ((mixAt f P i).flatMap slC) := ⟨hown9⟩
            obtain ⟨i0, hi0, hz0, hzz1, hzz2⟩ := info_parts infoSl2
            clear hfv
            generalize P[i] = p at *
            generalize P[i + 1] = p2 at *
            generalize (mixAt f P i).length = n at *
            have hm63 : n + 1 ≤ maxLen := by simp [maxLen]; omega
            have hm40 : (n + 1) * 16 ≤ 140737488355328 := by omega
            have q4 : (0 : Int) ≤ (i : Int) + 1 := by omega
            have q5 : ((i : Int) + 1).toNat = i + 1 := by omega
            go_wp2_with (first | (go_at_call 50; (with_reducible refine call_later (is_bool hx (HA.out p _ (by repeat (first | with_reducible exact Grew.refl _ | with_reducible apply Grew.alloc | with_reducible apply Grew.later | with_reducible apply Grew.drew | with_reducible apply Grew.store | with_reducible assumption)))) ?_); intro u) | (go_at_call 50; (with_reducible refine call_later (is_bool hy (HB.out p _ (by repeat (first | with_reducible exact Grew.refl _ | with_reducible apply Grew.alloc | with_reducible apply Grew.later | with_reducible apply Grew.drew | with_reducible apply Grew.store | with_reducible assumption)))) ?_); intro u) | ((with_reducible refine wp_region_later ?_ ?_ ?_); (· kernel_rfl); (· kernel_rfl); (repeat (go_big_quiet_step ((first | (go_at_call 50; (with_reducible exact call_quiet (is_bool hx (HA.out p _ (by repeat (first | with_reducible exact Grew.refl _ | with_reducible apply Grew.alloc | with_reducible apply Grew.later | with_reducible apply Grew.drew | with_reducible apply Grew.store | with_reducible assumption)))))) | (go_at_call 50; (with_reducible exact call_quiet (is_bool hy (HB.out p _ (by repeat (first | with_reducible exact Grew.refl _ | with_reducible apply Grew.alloc | with_reducible apply Grew.later | with_reducible apply Grew.drew | with_reducible apply Grew.store | with_reducible assumption)))))))))); refine wpQuiet_nil ?_; rintro _ ⟨u, rfl⟩))
            go_region_held3 (fun w' => w'.cell? ⟨bp, op + i, none⟩ = some (.int .i64 p) ∧ w'.cell? ⟨bp, op + (i + 1), none⟩ = some (.int .i64 p2))
              (exact ⟨by first | (go_simp; done) | exact hg1.cell hd1, by first | (go_simp; done) | exact hg1.cell hd2⟩)
              ((refine step_append_lies _ (by rfl) _ _ 41 (by rfl) uE.world.heap.size 87 i0 _ 2 16 Try.underlying41 hi0 hz0 hzz1 hzz2 (by rfl) (by decide) (.slice ao11 0 c11) _ _ (by rfl) Own.is ⟨_, 0, none⟩ 1 1 [.int .i64 p, .int .i64 p2] (by rfl) (by rfl) news_row (by simp [Value.oneCell']) (by decide) hm63 hm40 (Nat.le_trans hbase (show Grew y.world _ from (by repeat (first | with_reducible exact Grew.refl _ | with_reducible apply Grew.alloc | with_reducible apply Grew.later | with_reducible apply Grew.drew | with_reducible apply Grew.store | with_reducible assumption))).size) _ rfl ?_
                intro g1 cap1 w1 hown1 hgrow1 hat1 hlt1
                have hg1 : Grew uE.world w1 := Grew.append (show Grew uE.world _ from (by repeat (first | with_reducible exact Grew.refl _ | with_reducible apply Grew.alloc | with_reducible apply Grew.later | with_reducible apply Grew.drew | with_reducible apply Grew.store | with_reducible assumption))) (Own.is (v := (.slice ao11 0 c11)) (base := uE.world.heap.size) (e := 87) (size := 2)) (Nat.le_refl _) hgrow1))
            all_goals go_wp2
            all_goals clear q4 q5
            all_goals
              go_roundw
              case rel => exact ⟨i + 1, _, by go_num, rfl, by omega, by rw [Hn1.out, Hn2.out]; exact hown1, hg1⟩
              case measure => simp [intOf]; omega
          · rw [List.concat_eq_append] at hM
            have hml : (mixAt f P i).length = M.length + 1 := by rw [hM]; simp
            have hmlen := mixAt_len f P i
            obtain ⟨g, cg, e11, hg2, hg3⟩ := hown.form (by omega)
            rw [hml] at e11
            subst e11
            have hownM : y.world.ownsRow uE.world.heap.size 87 2 (.slice (some ⟨g, 0, none⟩) (M.length + 1) cg) (M.length + 1) ((M ++ [q]).flatMap slC) := by
              have := hown
              rw [hM] at this
              simpa using this
            have hcl : y.world.cell? ⟨g, M.length * 2 + 1, none⟩ = some (.int .i64 q.2) := by
              rw [hownM.cellAt (M.length * 2 + 1) (by omega), List.flatMap_append, List.getElem?_append_right (by rw [slC_len]; omega), slC_len, show M.length * 2 + 1 - M.length * 2 = 1 by omega]
              rfl
            have hfr := hownM.frozenAt (M.length * 2 + 1)
            have ibg : BlockIn y.world g := BlockIn.of_cell hcl
            have q3 : (0 : Int) < (M.length : Int) + 1 := by omega
            have hmm : M.length < M.length + 1 := by omega
            have hmi : (M.length : Int) < (M.length : Int) + 1 := by omega
            have hM240 : M.length ≤ 240 := by omega
            by_cases hqp : q.2 = P[i]
            · have Hn := Lib.hid (mixAt_ext f P i hi1 hf hM hqp)
              have Hn2 := Lib.hid (show (mixAt f P (i + 1)).flatMap slC = ((M ++ [q]).flatMap slC).set (M.length * 2 + 1) (.int .i64 P[i + 1]) by rw [Hn.out, slC_last])
              have Hn1 := Lib.hid (show (mixAt f P (i + 1)).length = M.length + 1 by rw [Hn.out]; simp)
              have Hs2 := Lib.hid (fun W (k : Grew y.world W) => ((owns_grew hownM k).stored (M.length * 2 + 1) (.int .i64 P[i + 1])).1)
              have inw : NewFor uE.world g := ⟨hg2⟩
              have ihc : HasCell y.world g (M.length * 2 + 1) := ⟨_, hcl⟩
              have hqp' : (q.2 == P[i]) = true := by simp [hqp]
              clear hown hM hml hqp hf hownM
              generalize P[i] = p at *
              generalize P[i + 1] = p2 at *
              generalize q.2 = q2 at *
              go_wp2_with (first | (go_at_call 50; (with_reducible refine call_later (is_bool hx (HA.out p _ (by repeat (first | with_reducible exact Grew.refl _ | with_reducible apply Grew.alloc | with_reducible apply Grew.later | with_reducible apply Grew.drew | with_reducible apply Grew.store | with_reducible assumption)))) ?_); intro u) | (go_at_call 50; (with_reducible refine call_later (is_bool hy (HB.out p _ (by repeat (first | with_reducible exact Grew.refl _ | with_reducible apply Grew.alloc | with_reducible apply Grew.later | with_reducible apply Grew.drew | with_reducible apply Grew.store | with_reducible assumption)))) ?_); intro u) | ((with_reducible refine wp_region_later ?_ ?_ ?_); (· kernel_rfl); (· kernel_rfl); (repeat (go_big_quiet_step ((first | (go_at_call 50; (with_reducible exact call_quiet (is_bool hx (HA.out p _ (by repeat (first | with_reducible exact Grew.refl _ | with_reducible apply Grew.alloc | with_reducible apply Grew.later | with_reducible apply Grew.drew | with_reducible apply Grew.store | with_reducible assumption)))))) | (go_at_call 50; (with_reducible exact call_quiet (is_bool hy (HB.out p _ (by repeat (first | with_reducible exact Grew.refl _ | with_reducible apply Grew.alloc | with_reducible apply Grew.later | with_reducible apply Grew.drew | with_reducible apply Grew.store | with_reducible assumption)))))))))); refine wpQuiet_nil ?_; rintro _ ⟨u, rfl⟩))
              all_goals
                go_roundw
                case rel => exact ⟨i + 1, _, by go_num, rfl, by omega, by rw [Hn1.out, Hn2.out]; exact Hs2.out _ (by repeat (first | with_reducible exact Grew.refl _ | with_reducible apply Grew.alloc | with_reducible apply Grew.later | with_reducible apply Grew.drew | with_reducible apply Grew.store | with_reducible assumption)), (by repeat (first | with_reducible exact Grew.refl _ | with_reducible apply Grew.alloc | with_reducible apply Grew.later | with_reducible apply Grew.drew | with_reducible apply Grew.store | with_reducible assumption))⟩
                case measure => simp [intOf]; omega
            · have Hap := Lib.hid (mixAt_app f P i hi1 hf (.inr ⟨M, q, hM, hqp⟩))
              have hqp' : (q.2 == P[i]) = false := by simp [hqp]
              have hown9 : y.world.ownsRow uE.world.heap.size 87 2 (.slice (some ⟨g, 0, none⟩) (M.length + 1) cg) (mixAt f P i).length ((mixAt f P i).flatMap slC) := hown
              clear hown hM hml hqp hf hownM
              generalize q.2 = q2 at *
              have Hn2 := Lib.hid (show (mixAt f P (i + 1)).flatMap slC = (mixAt f P i).flatMap slC ++ [.int .i64 P[i], .int .i64 P[i + 1]] by rw [Hap.out, slC_snoc])
              have Hn1 := Lib.hid (show (mixAt f P (i + 1)).length = (mixAt f P i).length + 1 by rw [Hap.out]; simp)
              have hlen : (mixAt f P i).length ≤ 240 := by have := mixAt_len f P i; omega
              have hbase : uE.world.heap.size ≤ y.world.heap.size := y.grew.size
              have io : Own y.world uE.world.heap.size 87 2 (.slice (some ⟨g, 0, none⟩) (M.length + 1) cg) (mixAt f P i).length ((mixAt f P i).flatMap slC) := ⟨hown9⟩
              obtain ⟨i0, hi0, hz0, hzz1, hzz2⟩ := info_parts infoSl2
              clear hfv
              generalize P[i] = p at *
              generalize P[i + 1] = p2 at *
              generalize (mixAt f P i).length = n at *
              have hm63 : n + 1 ≤ maxLen := by simp [maxLen]; omega
              have hm40 : (n + 1) * 16 ≤ 140737488355328 := by omega
              have q4 : (0 : Int) ≤ (i : Int) + 1 := by omega
              have q5 : ((i : Int) + 1).toNat = i + 1 := by omega
              go_wp2_with (first | (go_at_call 50; (with_reducible refine call_later (is_bool hx (HA.out p _ (by repeat (first | with_reducible exact Grew.refl _ | with_reducible apply Grew.alloc | with_reducible apply Grew.later | with_reducible apply Grew.drew | with_reducible apply Grew.store | with_reducible assumption)))) ?_); intro u) | (go_at_call 50; (with_reducible refine call_later (is_bool hy (HB.out p _ (by repeat (first | with_reducible exact Grew.refl _ | with_reducible apply Grew.alloc | with_reducible apply Grew.later | with_reducible apply Grew.drew | with_reducible apply Grew.store | with_reducible assumption)))) ?_); intro u) | ((with_reducible refine wp_region_later ?_ ?_ ?_); (· kernel_rfl); (· kernel_rfl); (repeat (go_big_quiet_step ((first | (go_at_call 50; (with_reducible exact call_quiet (is_bool hx (HA.out p _ (by repeat (first | with_reducible exact Grew.refl _ | with_reducible apply Grew.alloc | with_reducible apply Grew.later | with_reducible apply Grew.drew | with_reducible apply Grew.store | with_reducible assumption)))))) | (go_at_call 50; (with_reducible exact call_quiet (is_bool hy (HB.out p _ (by repeat (first | with_reducible exact Grew.refl _ | with_reducible apply Grew.alloc | with_reducible apply Grew.later | with_reducible apply Grew.drew | with_reducible apply Grew.store | with_reducible assumption)))))))))); refine wpQuiet_nil ?_; rintro _ ⟨u, rfl⟩))
              go_region_held3 (fun w' => w'.cell? ⟨bp, op + i, none⟩ = some (.int .i64 p) ∧ w'.cell? ⟨bp, op + (i + 1), none⟩ = some (.int .i64 p2))
                (exact ⟨by first | (go_simp; done) | exact hg1.cell hd1, by first | (go_simp; done) | exact hg1.cell hd2⟩)
                ((refine step_append_lies _ (by rfl) _ _ 41 (by rfl) uE.world.heap.size 87 i0 _ 2 16 Try.underlying41 hi0 hz0 hzz1 hzz2 (by rfl) (by decide) (.slice (some ⟨g, 0, none⟩) (M.length + 1) cg) _ _ (by rfl) Own.is ⟨_, 0, none⟩ 1 1 [.int .i64 p, .int .i64 p2] (by rfl) (by rfl) news_row (by simp [Value.oneCell']) (by decide) hm63 hm40 (Nat.le_trans hbase (show Grew y.world _ from (by repeat (first | with_reducible exact Grew.refl _ | with_reducible apply Grew.alloc | with_reducible apply Grew.later | with_reducible apply Grew.drew | with_reducible apply Grew.store | with_reducible assumption))).size) _ rfl ?_
                  intro g1 cap1 w1 hown1 hgrow1 hat1 hlt1
                  have hg1 : Grew uE.world w1 := Grew.append (show Grew uE.world _ from (by repeat (first | with_reducible exact Grew.refl _ | with_reducible apply Grew.alloc | with_reducible apply Grew.later | with_reducible apply Grew.drew | with_reducible apply Grew.store | with_reducible assumption))) (Own.is (v := (.slice (some ⟨g, 0, none⟩) (M.length + 1) cg)) (base := uE.world.heap.size) (e := 87) (size := 2)) (Nat.le_refl _) hgrow1))
              all_goals go_wp2
              all_goals clear q4 q5
              all_goals
                go_roundw
                case rel => exact ⟨i + 1, _, by go_num, rfl, by omega, by rw [Hn1.out, Hn2.out]; exact hown1, hg1⟩
                case measure => simp [intOf]; omega
        · skip
          have Hn := Lib.hid (Hno.out (hfv.trans (by rw [hx, hy]; rfl)))
          clear hfv
          generalize P[i] = p at *
          generalize P[i + 1] = p2 at *
          go_wp2_with (first | (go_at_call 50; (with_reducible refine call_later (is_bool hx (HA.out p _ (by repeat (first | with_reducible exact Grew.refl _ | with_reducible apply Grew.alloc | with_reducible apply Grew.later | with_reducible apply Grew.drew | with_reducible apply Grew.store | with_reducible assumption)))) ?_); intro u) | (go_at_call 50; (with_reducible refine call_later (is_bool hy (HB.out p _ (by repeat (first | with_reducible exact Grew.refl _ | with_reducible apply Grew.alloc | with_reducible apply Grew.later | with_reducible apply Grew.drew | with_reducible apply Grew.store | with_reducible assumption)))) ?_); intro u) | ((with_reducible refine wp_region_later ?_ ?_ ?_); (· kernel_rfl); (· kernel_rfl); (repeat (go_big_quiet_step ((first | (go_at_call 50; (with_reducible exact call_quiet (is_bool hx (HA.out p _ (by repeat (first | with_reducible exact Grew.refl _ | with_reducible apply Grew.alloc | with_reducible apply Grew.later | with_reducible apply Grew.drew | with_reducible apply Grew.store | with_reducible assumption)))))) | (go_at_call 50; (with_reducible exact call_quiet (is_bool hy (HB.out p _ (by repeat (first | with_reducible exact Grew.refl _ | with_reducible apply Grew.alloc | with_reducible apply Grew.later | with_reducible apply Grew.drew | with_reducible apply Grew.store | with_reducible assumption)))))))))); refine wpQuiet_nil ?_; rintro _ ⟨u, rfl⟩))
          all_goals
            go_roundw
            case rel => exact ⟨i + 1, _, by go_num, rfl, by omega, by rw [Hn.out]; exact owns_grew hown (by repeat (first | with_reducible exact Grew.refl _ | with_reducible apply Grew.alloc | with_reducible apply Grew.later | with_reducible apply Grew.drew | with_reducible apply Grew.store | with_reducible assumption)), (by repeat (first | with_reducible exact Grew.refl _ | with_reducible apply Grew.alloc | with_reducible apply Grew.later | with_reducible apply Grew.drew | with_reducible apply Grew.store | with_reducible assumption))⟩
            case measure => simp [intOf]; omega
    · have hlast : i = P.length - 1 := by omega
      have Hr := Lib.hid (HR.out.trans (HM.out.trans (show mixAt f P (P.length - 1) = mixAt f P i by rw [hlast])))
      have hln := mixAt_len f P i
      have Hs := Lib.hid (SlAt.of_owns hown)
      obtain ⟨ao11, c11, rfl⟩ := owns_form hown
      have hi5 : ¬ ((i : Int) + 1 < P.length) := by omega
      have hl5 : decide ((4096 : Int) < (mixAt f P i).length) = false := by rw [decide_eq_false_iff_not]; omega
      generalize mixAt f P i = M at *
      go_wp2
      go_ret2
      exact RetSlC.full Hr.out HC.out Hs.out (by repeat (first | with_reducible exact Grew.refl _ | with_reducible apply Grew.alloc | with_reducible apply Grew.later | with_reducible apply Grew.drew | with_reducible apply Grew.store | with_reducible assumption))
end Go.Proofs.Ytgjikdhidakloaa
