/-
  Contracts: whether tubes are a flight (abort, ullageref11).
-/
import Derived.Test.YtjnednehcjfkmaaPhaseLaw
import Derived.Test.YtjnednehcjfkmaaFlightOks
import Derived.Test.YtjnednehcjfkmaaRowMid
namespace Go.Proofs.Ytjnednehcjfkmaa
open Go.RowKit
set_option maxRecDepth 100000
set_option maxHeartbeats 4000000
theorem fl_tube_cells {w : World} {ao : Option Addr} {l : List Tube} (h : ∀ i x, (l.flatMap Tube.cells)[i]? = some x → ∃ b off, ao = some ⟨b, off, none⟩ ∧ w.cell? ⟨b, off + i, none⟩ = some x) (k : Nat) (hk : k < l.length) :
    ∃ b off, ao = some ⟨b, off, none⟩ ∧ BlockIn w b ∧ RangeIs w b (off + k * 16) 16 [.int .i64 ((l[k])).a, .int .i64 ((l[k])).z, .int .i64 ((l[k])).p.x.lo, .int .i64 ((l[k])).p.x.hi, .int .i64 ((l[k])).p.y.lo, .int .i64 ((l[k])).p.y.hi, .int .i64 ((l[k])).p.z.lo, .int .i64 ((l[k])).p.z.hi, .int .i64 ((l[k])).v.x.lo, .int .i64 ((l[k])).v.x.hi, .int .i64 ((l[k])).v.y.lo, .int .i64 ((l[k])).v.y.hi, .int .i64 ((l[k])).v.z.lo, .int .i64 ((l[k])).v.z.hi, .int .i64 ((l[k])).m.lo, .int .i64 ((l[k])).m.hi] ∧ (∀ j x, l[k].cells[j]? = some x → w.cell? ⟨b, off + k * 16 + j, none⟩ = some x) ∧ w.cell? ⟨b, off + k * 16, none⟩ = some (.int .i64 l[k].a) ∧ w.cell? ⟨b, off + k * 16 + 1, none⟩ = some (.int .i64 l[k].z) := by
  obtain ⟨b, off, e, hb, h1, h2⟩ := SlAt.elem (f := Tube.cells) (c := 16) (fun _ => rfl) (by omega) h k hk
  exact ⟨b, off, e, ⟨hb⟩, ⟨h2, rfl⟩, h2, h1 _ rfl, h2 1 _ rfl⟩
theorem flB_zero (l : List Tube) (h : 0 < l.length) : flB l 0 = l[0].okB := by unfold flB tuAt; simp [h]
theorem flB_succ (l : List Tube) (j : Nat) (h : j + 1 < l.length) : flB l (j + 1) = (l[j + 1].okB && decide (l[j + 1].a = l[j].z)) := by
  have h2 : j < l.length := by omega
  unfold flB tuAt
  simp [h, h2]
theorem flown_no {l : List Tube} {k : Nat} (hk : k < l.length) (h : flB l k = false) : flownB l = false := by
  unfold flownB
  exact range_all_false _ _ k hk h
theorem flown_yes {l : List Tube} {k : Nat} (hk : l.length ≤ k) (h1 : k ≤ l.length) (h : (List.range k).all (flB l) = true) : flownB l = true := by
  unfold flownB
  rw [show l.length = k by omega]
  exact h
theorem tube_okB (t : Tube) : t.okB = (numB t.z && decide (t.a ≤ t.z) && (⟨t.a, t.p, t.v, t.m⟩ : State).okB) := by
  unfold Tube.okB State.okB
  cases numB t.a <;> cases numB t.z <;> simp [Bool.and_assoc]
instance (t : Int) (p0 p1 p2 p3 p4 p5 v0 v1 v2 v3 v4 v5 m0 m1 : Value) : Built 128 [(0, .int .i64 t), (1, .agg #[p0, p1, p2, p3, p4, p5]), (2, .agg #[v0, v1, v2, v3, v4, v5]), (3, .agg #[m0, m1])] [.int .i64 t, p0, p1, p2, p3, p4, p5, v0, v1, v2, v3, v4, v5, m0, m1] := ⟨by kernel_rfl⟩
theorem abState_any (t : Tube) (w : World) : Calls Try.prog 77 #[.agg #[.int .i64 t.a, .int .i64 t.z, .int .i64 t.p.x.lo, .int .i64 t.p.x.hi, .int .i64 t.p.y.lo, .int .i64 t.p.y.hi, .int .i64 t.p.z.lo, .int .i64 t.p.z.hi, .int .i64 t.v.x.lo, .int .i64 t.v.x.hi, .int .i64 t.v.y.lo, .int .i64 t.v.y.hi, .int .i64 t.v.z.lo, .int .i64 t.v.z.hi, .int .i64 t.m.lo, .int .i64 t.m.hi]] w fun e w' => e = .returned (.agg #[.int .i64 t.a, .int .i64 t.p.x.lo, .int .i64 t.p.x.hi, .int .i64 t.p.y.lo, .int .i64 t.p.y.hi, .int .i64 t.p.z.lo, .int .i64 t.p.z.hi, .int .i64 t.v.x.lo, .int .i64 t.v.x.hi, .int .i64 t.v.y.lo, .int .i64 t.v.y.hi, .int .i64 t.v.z.lo, .int .i64 t.v.z.hi, .int .i64 t.m.lo, .int .i64 t.m.hi]) ∧ Grew w w' := by
  go_enter Try.func77, Try.ntmps77
  go_wp2_with (first | ((with_reducible refine wpList_load_rng ?_ ?_ ?_ ?_ ?_ ?_ ?_ ?_ ?_ ?_ ?_ ?_); rotate_left 6; (· rfl); (· rfl); (· rfl); (· infer_instance); (· infer_instance)) | ((with_reducible refine wpList_built ?_ ?_ ?_ ?_ ?_ ?_ ?_ ?_ ?_); rotate_left 4; (· rfl); (· rfl); (· rfl); (· infer_instance)) | ((with_reducible refine wpList_store_fresh ?_ ?_ ?_ ?_ ?_ ?_ ?_ ?_ ?_ ?_ ?_ ?_ ?_ ?_ ?_ ?_ ?_); rotate_left 5; (· rfl); (· rfl); (· rfl); (· rfl); (· rfl); (· infer_instance); (· infer_instance); (· infer_instance); (· infer_instance)))
  refine bodyPost_ret (res_one Try.results77 rfl inferInstance inferInstance inferInstance) rfl ?_
  exact ⟨rfl, (by repeat (first | with_reducible exact Grew.refl _ | with_reducible apply Grew.alloc | with_reducible apply Grew.later | with_reducible apply Grew.drew | with_reducible apply Grew.store | with_reducible assumption))⟩
theorem abValid2_any (n : Int) (w : World) : Calls Try.prog 41 #[.int .i64 n] w fun e w' => e = .returned (.bool (numB n)) ∧ Grew w w' := by
  go_enter Try.func41, Try.ntmps41
  go_wp2
  go_ret
  exact ⟨ret_bool (by unfold numB; simp), (by repeat (first | with_reducible exact Grew.refl _ | with_reducible apply Grew.alloc | with_reducible apply Grew.later | with_reducible apply Grew.drew | with_reducible apply Grew.store | with_reducible assumption))⟩
theorem abTube_any (t : Tube) (w : World) : Calls Try.prog 66 #[.agg #[.int .i64 t.a, .int .i64 t.z, .int .i64 t.p.x.lo, .int .i64 t.p.x.hi, .int .i64 t.p.y.lo, .int .i64 t.p.y.hi, .int .i64 t.p.z.lo, .int .i64 t.p.z.hi, .int .i64 t.v.x.lo, .int .i64 t.v.x.hi, .int .i64 t.v.y.lo, .int .i64 t.v.y.hi, .int .i64 t.v.z.lo, .int .i64 t.v.z.hi, .int .i64 t.m.lo, .int .i64 t.m.hi]] w fun e w' => e = .returned (.int .i64 (codeB t.okB 2)) ∧ Grew w w' := by
  have Hok := Lib.hid (tube_okB t)
  rcases bool_or (numB t.z) with h1 | h1
  · go_enter Try.func66, Try.ntmps66
    go_wp2_with (first | (go_at_call 41; (with_reducible refine call_later (abValid2_any _ _) ?_); intro u) | (go_at_call 77; (with_reducible refine call_later (abState_any t _) ?_); intro u) | (go_at_call 76; (with_reducible refine call_later (flState_any (⟨t.a, t.p, t.v, t.m⟩ : State) _) ?_); intro u) | ((with_reducible refine wp_region_later ?_ ?_ ?_); (· kernel_rfl); (· kernel_rfl); (repeat (go_big_quiet_step ((first | (go_at_call 41; (with_reducible exact call_quiet (abValid2_any _ _))) | (go_at_call 77; (with_reducible exact call_quiet (abState_any t _))) | (go_at_call 76; (with_reducible exact call_quiet (flState_any (⟨t.a, t.p, t.v, t.m⟩ : State) _))))))); refine wpQuiet_nil ?_; rintro _ ⟨u, rfl⟩))
    go_ret
    exact ⟨ret_int (by (first | (rw [show t.okB = true from by simp [Hok.out, *]]; rfl) | (rw [show t.okB = false from by simp [Hok.out, *] <;> omega]; rfl) | (rw [show t.okB = true from by simp [Hok.out, *] <;> omega]; rfl))), (by repeat (first | with_reducible exact Grew.refl _ | with_reducible apply Grew.alloc | with_reducible apply Grew.later | with_reducible apply Grew.drew | with_reducible apply Grew.store | with_reducible assumption))⟩
  · skip
    rcases prop_or (t.a ≤ t.z) with h2 | h2
    · go_enter Try.func66, Try.ntmps66
      go_wp2_with (first | (go_at_call 41; (with_reducible refine call_later (abValid2_any _ _) ?_); intro u) | (go_at_call 77; (with_reducible refine call_later (abState_any t _) ?_); intro u) | (go_at_call 76; (with_reducible refine call_later (flState_any (⟨t.a, t.p, t.v, t.m⟩ : State) _) ?_); intro u) | ((with_reducible refine wp_region_later ?_ ?_ ?_); (· kernel_rfl); (· kernel_rfl); (repeat (go_big_quiet_step ((first | (go_at_call 41; (with_reducible exact call_quiet (abValid2_any _ _))) | (go_at_call 77; (with_reducible exact call_quiet (abState_any t _))) | (go_at_call 76; (with_reducible exact call_quiet (flState_any (⟨t.a, t.p, t.v, t.m⟩ : State) _))))))); refine wpQuiet_nil ?_; rintro _ ⟨u, rfl⟩))
      go_ret
      exact ⟨ret_int (by (first | (rw [show t.okB = true from by simp [Hok.out, *]]; rfl) | (rw [show t.okB = false from by simp [Hok.out, *] <;> omega]; rfl) | (rw [show t.okB = true from by simp [Hok.out, *] <;> omega]; rfl))), (by repeat (first | with_reducible exact Grew.refl _ | with_reducible apply Grew.alloc | with_reducible apply Grew.later | with_reducible apply Grew.drew | with_reducible apply Grew.store | with_reducible assumption))⟩
    · skip
      rcases bool_or ((⟨t.a, t.p, t.v, t.m⟩ : State).okB) with h3 | h3
      · go_enter Try.func66, Try.ntmps66
        go_wp2_with (first | (go_at_call 41; (with_reducible refine call_later (abValid2_any _ _) ?_); intro u) | (go_at_call 77; (with_reducible refine call_later (abState_any t _) ?_); intro u) | (go_at_call 76; (with_reducible refine call_later (flState_any (⟨t.a, t.p, t.v, t.m⟩ : State) _) ?_); intro u) | ((with_reducible refine wp_region_later ?_ ?_ ?_); (· kernel_rfl); (· kernel_rfl); (repeat (go_big_quiet_step ((first | (go_at_call 41; (with_reducible exact call_quiet (abValid2_any _ _))) | (go_at_call 77; (with_reducible exact call_quiet (abState_any t _))) | (go_at_call 76; (with_reducible exact call_quiet (flState_any (⟨t.a, t.p, t.v, t.m⟩ : State) _))))))); refine wpQuiet_nil ?_; rintro _ ⟨u, rfl⟩))
        go_ret
        exact ⟨ret_int (by (first | (rw [show t.okB = true from by simp [Hok.out, *]]; rfl) | (rw [show t.okB = false from by simp [Hok.out, *] <;> omega]; rfl) | (rw [show t.okB = true from by simp [Hok.out, *] <;> omega]; rfl))), (by repeat (first | with_reducible exact Grew.refl _ | with_reducible apply Grew.alloc | with_reducible apply Grew.later | with_reducible apply Grew.drew | with_reducible apply Grew.store | with_reducible assumption))⟩
      · skip
        go_enter Try.func66, Try.ntmps66
        go_wp2_with (first | (go_at_call 41; (with_reducible refine call_later (abValid2_any _ _) ?_); intro u) | (go_at_call 77; (with_reducible refine call_later (abState_any t _) ?_); intro u) | (go_at_call 76; (with_reducible refine call_later (flState_any (⟨t.a, t.p, t.v, t.m⟩ : State) _) ?_); intro u) | ((with_reducible refine wp_region_later ?_ ?_ ?_); (· kernel_rfl); (· kernel_rfl); (repeat (go_big_quiet_step ((first | (go_at_call 41; (with_reducible exact call_quiet (abValid2_any _ _))) | (go_at_call 77; (with_reducible exact call_quiet (abState_any t _))) | (go_at_call 76; (with_reducible exact call_quiet (flState_any (⟨t.a, t.p, t.v, t.m⟩ : State) _))))))); refine wpQuiet_nil ?_; rintro _ ⟨u, rfl⟩))
        go_ret
        exact ⟨ret_int (by (first | (rw [show t.okB = true from by simp [Hok.out, *]]; rfl) | (rw [show t.okB = false from by simp [Hok.out, *] <;> omega]; rfl) | (rw [show t.okB = true from by simp [Hok.out, *] <;> omega]; rfl))), (by repeat (first | with_reducible exact Grew.refl _ | with_reducible apply Grew.alloc | with_reducible apply Grew.later | with_reducible apply Grew.drew | with_reducible apply Grew.store | with_reducible assumption))⟩
theorem abTube_yes (t : Tube) (h : t.okB = true) (w : World) : Calls Try.prog 66 #[.agg #[.int .i64 t.a, .int .i64 t.z, .int .i64 t.p.x.lo, .int .i64 t.p.x.hi, .int .i64 t.p.y.lo, .int .i64 t.p.y.hi, .int .i64 t.p.z.lo, .int .i64 t.p.z.hi, .int .i64 t.v.x.lo, .int .i64 t.v.x.hi, .int .i64 t.v.y.lo, .int .i64 t.v.y.hi, .int .i64 t.v.z.lo, .int .i64 t.v.z.hi, .int .i64 t.m.lo, .int .i64 t.m.hi]] w fun e w' => e = .returned (.int .i64 0) ∧ Grew w w' := is_int (by rw [h]; rfl) (abTube_any t w)
theorem abTube_no (t : Tube) (h : t.okB = false) (w : World) : Calls Try.prog 66 #[.agg #[.int .i64 t.a, .int .i64 t.z, .int .i64 t.p.x.lo, .int .i64 t.p.x.hi, .int .i64 t.p.y.lo, .int .i64 t.p.y.hi, .int .i64 t.p.z.lo, .int .i64 t.p.z.hi, .int .i64 t.v.x.lo, .int .i64 t.v.x.hi, .int .i64 t.v.y.lo, .int .i64 t.v.y.hi, .int .i64 t.v.z.lo, .int .i64 t.v.z.hi, .int .i64 t.m.lo, .int .i64 t.m.hi]] w fun e w' => e = .returned (.int .i64 2) ∧ Grew w w' := is_int (by rw [h]; rfl) (abTube_any t w)
theorem abFlown_any (l : List Tube) (v : Value) (w : World) (h : SlAt w v l.length (l.flatMap Tube.cells)) : Calls Try.prog 44 #[v] w fun e w' => e = .returned (.bool (flownB l)) ∧ Grew w w' := by
  obtain ⟨ao, cap, rfl, hm, hc⟩ := h
  unfold maxLen at hm
  have HE := Lib.hid (fun k hk => fl_tube_cells hc k hk)
  clear hc
  go_enter Try.func44, Try.ntmps44
  go_wp2
  go_loopw [7] (fun t wr => ∃ k : Nat, t = .int .i64 k ∧ k ≤ l.length ∧ (List.range k).all (flB l) = true ∧ Grew w wr) (fun t _ => l.length - (intOf t).toNat)
  case atStart => exact ⟨0, rfl, by omega, rfl, (by repeat (first | with_reducible exact Grew.refl _ | with_reducible apply Grew.alloc | with_reducible apply Grew.later | with_reducible apply Grew.drew | with_reducible apply Grew.store | with_reducible assumption))⟩
  case round =>
    obtain ⟨k, rfl, hk, hall, hg⟩ := hrel
    obtain ⟨x, rfl⟩ := later_of hg
    clear hg
    have Hall := Lib.hid hall
    clear hall
    by_cases hlt : k < l.length
    · obtain ⟨b1, o1, rfl, i1, ir, hd2, hc0, hc1⟩ := HE.out k hlt
      clear hd2
      have Hno := Lib.hid (fun h : flB l k = false => flown_no hlt h)
      have Hyes := Lib.hid (fun h : flB l k = true => range_all_succ _ _ Hall.out h)
      rcases Nat.eq_zero_or_pos k with hk0 | hk0
      · subst hk0
        have Hf := Lib.hid (flB_zero l hlt)
        simp only [Nat.zero_mul, Nat.add_zero] at hc0 hc1 ir
        generalize l[0] = t at *
        cases hx : t.okB
        · as_aux_lemma =>
          have Ht := Lib.hid (fun w => abTube_no t hx w)
          go_wp2_with (first | (go_at_call 66; (with_reducible refine call_later (Ht.out _) ?_); intro u) | ((with_reducible refine wpList_load_rng ?_ ?_ ?_ ?_ ?_ ?_ ?_ ?_ ?_ ?_ ?_ ?_); rotate_left 6; (· rfl); (· rfl); (· rfl); (· infer_instance); (· infer_instance)) | ((with_reducible refine wpList_store_fresh ?_ ?_ ?_ ?_ ?_ ?_ ?_ ?_ ?_ ?_ ?_ ?_ ?_ ?_ ?_ ?_ ?_); rotate_left 5; (· rfl); (· rfl); (· rfl); (· rfl); (· rfl); (· infer_instance); (· infer_instance); (· infer_instance); (· infer_instance)) | ((with_reducible refine wp_region_later ?_ ?_ ?_); (· kernel_rfl); (· kernel_rfl); (repeat (go_big_quiet_step ((first | (go_at_call 66; (with_reducible exact call_quiet (Ht.out _))))))); refine wpQuiet_nil ?_; rintro _ ⟨u, rfl⟩))
          go_ret
          exact ⟨ret_bool (by rw [Hno.out (by rw [Hf.out]; exact hx)]), (by repeat (first | with_reducible exact Grew.refl _ | with_reducible apply Grew.alloc | with_reducible apply Grew.later | with_reducible apply Grew.drew | with_reducible apply Grew.store | with_reducible assumption))⟩
        · as_aux_lemma =>
          have Ht := Lib.hid (fun w => abTube_yes t hx w)
          go_wp2_with (first | (go_at_call 66; (with_reducible refine call_later (Ht.out _) ?_); intro u) | ((with_reducible refine wpList_load_rng ?_ ?_ ?_ ?_ ?_ ?_ ?_ ?_ ?_ ?_ ?_ ?_); rotate_left 6; (· rfl); (· rfl); (· rfl); (· infer_instance); (· infer_instance)) | ((with_reducible refine wpList_store_fresh ?_ ?_ ?_ ?_ ?_ ?_ ?_ ?_ ?_ ?_ ?_ ?_ ?_ ?_ ?_ ?_ ?_); rotate_left 5; (· rfl); (· rfl); (· rfl); (· rfl); (· rfl); (· infer_instance); (· infer_instance); (· infer_instance); (· infer_instance)) | ((with_reducible refine wp_region_later ?_ ?_ ?_); (· kernel_rfl); (· kernel_rfl); (repeat (go_big_quiet_step ((first | (go_at_call 66; (with_reducible exact call_quiet (Ht.out _))))))); refine wpQuiet_nil ?_; rintro _ ⟨u, rfl⟩))
          go_roundw
          case rel => exact ⟨0 + 1, by go_num, by omega, Hyes.out (by rw [Hf.out]; exact hx), (by repeat (first | with_reducible exact Grew.refl _ | with_reducible apply Grew.alloc | with_reducible apply Grew.later | with_reducible apply Grew.drew | with_reducible apply Grew.store | with_reducible assumption))⟩
          case measure => simp [intOf]; omega
      · obtain ⟨j, rfl⟩ : ∃ j, k = j + 1 := ⟨k - 1, by omega⟩
        obtain ⟨_, _, e1, _, _, _, _, hp1⟩ := HE.out j (by omega)
        cases e1
        have Hf := Lib.hid (flB_succ l j hlt)
        generalize l[j + 1] = t at *
        generalize l[j] = q at *
        cases hx : t.okB
        · as_aux_lemma =>
          have Ht := Lib.hid (fun w => abTube_no t hx w)
          go_wp2_with (first | (go_at_call 66; (with_reducible refine call_later (Ht.out _) ?_); intro u) | ((with_reducible refine wpList_load_rng ?_ ?_ ?_ ?_ ?_ ?_ ?_ ?_ ?_ ?_ ?_ ?_); rotate_left 6; (· rfl); (· rfl); (· rfl); (· infer_instance); (· infer_instance)) | ((with_reducible refine wpList_store_fresh ?_ ?_ ?_ ?_ ?_ ?_ ?_ ?_ ?_ ?_ ?_ ?_ ?_ ?_ ?_ ?_ ?_); rotate_left 5; (· rfl); (· rfl); (· rfl); (· rfl); (· rfl); (· infer_instance); (· infer_instance); (· infer_instance); (· infer_instance)) | ((with_reducible refine wp_region_later ?_ ?_ ?_); (· kernel_rfl); (· kernel_rfl); (repeat (go_big_quiet_step ((first | (go_at_call 66; (with_reducible exact call_quiet (Ht.out _))))))); refine wpQuiet_nil ?_; rintro _ ⟨u, rfl⟩))
          go_ret
          exact ⟨ret_bool (by rw [Hno.out (by rw [Hf.out, hx]; rfl)]), (by repeat (first | with_reducible exact Grew.refl _ | with_reducible apply Grew.alloc | with_reducible apply Grew.later | with_reducible apply Grew.drew | with_reducible apply Grew.store | with_reducible assumption))⟩
        · as_aux_lemma =>
          have Ht := Lib.hid (fun w => abTube_yes t hx w)
          by_cases haz : t.a = q.z
          · have t1 : (t.a != q.z) = false := by simp [haz]
            have Hr := Lib.hid (Hyes.out (by rw [Hf.out, hx]; simp [haz]))
            clear haz
            go_wp2_with (first | (go_at_call 66; (with_reducible refine call_later (Ht.out _) ?_); intro u) | ((with_reducible refine wpList_load_rng ?_ ?_ ?_ ?_ ?_ ?_ ?_ ?_ ?_ ?_ ?_ ?_); rotate_left 6; (· rfl); (· rfl); (· rfl); (· infer_instance); (· infer_instance)) | ((with_reducible refine wpList_store_fresh ?_ ?_ ?_ ?_ ?_ ?_ ?_ ?_ ?_ ?_ ?_ ?_ ?_ ?_ ?_ ?_ ?_); rotate_left 5; (· rfl); (· rfl); (· rfl); (· rfl); (· rfl); (· infer_instance); (· infer_instance); (· infer_instance); (· infer_instance)) | ((with_reducible refine wp_region_later ?_ ?_ ?_); (· kernel_rfl); (· kernel_rfl); (repeat (go_big_quiet_step ((first | (go_at_call 66; (with_reducible exact call_quiet (Ht.out _))))))); refine wpQuiet_nil ?_; rintro _ ⟨u, rfl⟩))
            go_roundw
            case rel => exact ⟨j + 1 + 1, by go_num, by omega, Hr.out, (by repeat (first | with_reducible exact Grew.refl _ | with_reducible apply Grew.alloc | with_reducible apply Grew.later | with_reducible apply Grew.drew | with_reducible apply Grew.store | with_reducible assumption))⟩
            case measure => simp [intOf]; omega
          · have t1 : (t.a != q.z) = true := by simp [haz]
            have Hr := Lib.hid (Hno.out (by rw [Hf.out, hx]; simp [haz]))
            clear haz
            go_wp2_with (first | (go_at_call 66; (with_reducible refine call_later (Ht.out _) ?_); intro u) | ((with_reducible refine wpList_load_rng ?_ ?_ ?_ ?_ ?_ ?_ ?_ ?_ ?_ ?_ ?_ ?_); rotate_left 6; (· rfl); (· rfl); (· rfl); (· infer_instance); (· infer_instance)) | ((with_reducible refine wpList_store_fresh ?_ ?_ ?_ ?_ ?_ ?_ ?_ ?_ ?_ ?_ ?_ ?_ ?_ ?_ ?_ ?_ ?_); rotate_left 5; (· rfl); (· rfl); (· rfl); (· rfl); (· rfl); (· infer_instance); (· infer_instance); (· infer_instance); (· infer_instance)) | ((with_reducible refine wp_region_later ?_ ?_ ?_); (· kernel_rfl); (· kernel_rfl); (repeat (go_big_quiet_step ((first | (go_at_call 66; (with_reducible exact call_quiet (Ht.out _))))))); refine wpQuiet_nil ?_; rintro _ ⟨u, rfl⟩))
            go_ret
            exact ⟨ret_bool Hr.out.symm, (by repeat (first | with_reducible exact Grew.refl _ | with_reducible apply Grew.alloc | with_reducible apply Grew.later | with_reducible apply Grew.drew | with_reducible apply Grew.store | with_reducible assumption))⟩
    · have Hend := Lib.hid (flown_yes (by omega) hk Hall.out)
      go_wp2
      go_ret
      exact ⟨ret_bool Hend.out.symm, (by repeat (first | with_reducible exact Grew.refl _ | with_reducible apply Grew.alloc | with_reducible apply Grew.later | with_reducible apply Grew.drew | with_reducible apply Grew.store | with_reducible assumption))⟩
end Go.Proofs.Ytjnednehcjfkmaa
