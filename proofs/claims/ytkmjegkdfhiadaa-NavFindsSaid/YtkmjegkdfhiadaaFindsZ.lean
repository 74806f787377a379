/-
  NavFinds: of any true place and velocity, any list of measurements, a wrong one, its place and any number of rounds: the walk of ullagelaw06.NavFinds.
  The True struct of layer 6's outright statements, and a list of measurements, opened.
  NavFinds: of any true place and velocity, any list of measurements, a wrong one, its place and any number of rounds: no condition.
-/
import Derived.Deep.DeepCutAuto
import Derived.Deep.CutBlock
import Derived.Test.YtkmjegkdfhiadaaOpenAll
import Derived.Test.YtkmjegkdfhiadaaRows
import Derived.Test.YtkmjegkdfhiadaaFindsX
import Derived.Test.YtkmjegkdfhiadaaNavOuts
import Derived.Test.YtkmjegkdfhiadaaNavTruly
namespace Go.Proofs.Ytkmjegkdfhiadaa
open Go.RowKit Go.Shelf
set_option maxRecDepth 100000
set_option maxHeartbeats 16000000
set_option linter.unusedSimpArgs false
@[go_sem] theorem raGet0 (m : Radio) : m.cells[0]? = some (.int .i64 m.kind) := rfl
@[go_sem] theorem raGet1 (m : Radio) : m.cells[1]? = some (.int .i64 m.place.x.lo) := rfl
@[go_sem] theorem raGet2 (m : Radio) : m.cells[2]? = some (.int .i64 m.place.x.hi) := rfl
@[go_sem] theorem raGet3 (m : Radio) : m.cells[3]? = some (.int .i64 m.place.y.lo) := rfl
@[go_sem] theorem raGet4 (m : Radio) : m.cells[4]? = some (.int .i64 m.place.y.hi) := rfl
@[go_sem] theorem raGet5 (m : Radio) : m.cells[5]? = some (.int .i64 m.place.z.lo) := rfl
@[go_sem] theorem raGet6 (m : Radio) : m.cells[6]? = some (.int .i64 m.place.z.hi) := rfl
@[go_sem] theorem raGet7 (m : Radio) : m.cells[7]? = some (.int .i64 m.dir.x.lo) := rfl
@[go_sem] theorem raGet8 (m : Radio) : m.cells[8]? = some (.int .i64 m.dir.x.hi) := rfl
@[go_sem] theorem raGet9 (m : Radio) : m.cells[9]? = some (.int .i64 m.dir.y.lo) := rfl
@[go_sem] theorem raGet10 (m : Radio) : m.cells[10]? = some (.int .i64 m.dir.y.hi) := rfl
@[go_sem] theorem raGet11 (m : Radio) : m.cells[11]? = some (.int .i64 m.dir.z.lo) := rfl
@[go_sem] theorem raGet12 (m : Radio) : m.cells[12]? = some (.int .i64 m.dir.z.hi) := rfl
theorem fin3 {w : World} {base : Nat} {v : Value} {L : List Radio} {bad : Radio} {k : Nat} (hk : k ≤ L.length) (h : w.ownsRow base 34 15 v (L.take k ++ [bad] ++ L.drop k).length ((L.take k ++ [bad] ++ L.drop k).flatMap Radio.cells)) : ∃ ao cap, v = .slice ao (L.length + 1) cap ∧ SlAt w v (L.length + 1) ((L.take k ++ bad :: L.drop k).flatMap Radio.cells) := by
  have e : L.take k ++ [bad] ++ L.drop k = L.take k ++ bad :: L.drop k := by simp
  have el : (L.take k ++ bad :: L.drop k).length = L.length + 1 := by
    simp
    omega
  rw [e, el] at h
  obtain ⟨ao, cap, rfl⟩ := owns_form h
  exact ⟨ao, cap, rfl, SlAt.of_owns h⟩
theorem ra64_list {t : State} {l : List Radio} (hT : ∀ m ∈ l, Ra64 m) {L : List Radio} (h1 : ∀ m ∈ L, ∃ (j : Nat) (hj : j < l.length), m = heardM t l[j] j) (h2 : ∀ m ∈ L, Heard t m) : ∀ m ∈ L, Ra64 m := fun m hm => by
  obtain ⟨j, hj, e⟩ := h1 m hm
  have hx := (h2 m hm).ok
  have hr := hT _ (List.getElem_mem hj)
  have hv := okB_num (okB_list hx.1).2.2
  have hh := hx.2
  subst e
  exact ra64_heard t l[j] j ⟨⟨by omega, by omega⟩, ⟨by omega, by omega⟩⟩
theorem own_here {w : World} {base m : Nat} {e : TypeId} (hb : base ≤ w.heap.size) (h : w.heap.size = m) : (w.alloc (.cells #[] e)).ownsRow base e 15 (.slice (some ⟨m, 0, none⟩) 0 0) 0 ([] : List Value) := by
  subst h
  exact World.ownsRow_lit w #[] 0 hb (by simp [maxLen]) (by simp)
theorem nrow_far {w w' : World} {row : Option Nat} {b : Nat} {t : TypeId} {l : List Value} (g : w.grownBy w' row) (h : RowIs w b t l) (hne : row ≠ some b) : RowIs w' b t l := ⟨(g.block b h.lt (fun e => hne e.symm)).trans h.is⟩
theorem slAt_one {w : World} {b : Nat} {m : Radio} (h : RowIs w b 34 m.cells) : SlAt w (.slice (some ⟨b, 0, none⟩) 1 1) ([m] : List Radio).length (([m] : List Radio).flatMap Radio.cells) := by
  refine ⟨_, _, rfl, by simp [maxLen], fun i x hx => ⟨b, 0, rfl, ?_⟩⟩
  have hx2 : m.cells[i]? = some x := by simpa using hx
  rw [Nat.zero_add, cell_rowIs, hx2]
theorem addr_zero (ao : Option Addr) : Option.map (fun x => x.add 0) ao = ao := by
  cases ao
  · rfl
  · rename_i p
    show some (p.add 0) = some p
    cases p
    rfl
theorem finds_walk (x : Tr) (hx : x.Ok) (l : List Radio) (bad : Radio) (a r : Int) (a0 : 0 ≤ a) (a1 : a ≤ 255) (r0 : 0 ≤ r) (r1 : r ≤ 255) (hT : ∀ m ∈ l, Ra64 m) (hB : Ra64 bad) (ao : Option Addr) (cap : Nat) (w : World) (hs : SlAt w (.slice ao l.length cap) l.length (l.flatMap Radio.cells)) :
    Calls Try.prog 3 #[.agg x.cells.toArray, .slice ao l.length cap, .agg bad.cells.toArray, .int .u8 a, .int .u8 r] w fun e w' => e = .returned (.bool true) ∧ Grew w w' := by
  have hm := hs.len_le
  unfold maxLen at hm
  have Hs := Lib.hid hs
  have HA := Lib.hid (fun w => l6About_any x hx w)
  have HC := Lib.hid (fun w' => navRadio_any bad w')
  clear hs hx
  by_cases hl : 4 < l.length
  · have hl' : decide ((4 : Int) < l.length) = true := by simp; omega
    clear hl
    go_enter Try.func3, Try.ntmps3
    go_wp2_with (first | (go_at_call 7; (with_reducible refine call_later (l6Alive_any _) ?_); intro u) | ((with_reducible refine wpList_load_rng ?_ ?_ ?_ ?_ ?_ ?_ ?_ ?_ ?_ ?_ ?_ ?_); rotate_left 6; (· rfl); (· rfl); (· rfl); (· infer_instance); (· infer_instance)) | ((with_reducible refine wpList_load_is ?_ ?_ ?_ ?_ ?_ ?_ ?_ ?_ ?_ ?_ ?_ ?_ ?_); rotate_left 6; (· rfl); (· rfl); (· rfl); (· infer_instance); (· infer_instance); (· rfl)) | ((with_reducible refine wpList_store_fresh ?_ ?_ ?_ ?_ ?_ ?_ ?_ ?_ ?_ ?_ ?_ ?_ ?_ ?_ ?_ ?_ ?_); rotate_left 5; (· rfl); (· rfl); (· rfl); (· rfl); (· rfl); (· infer_instance); (· infer_instance); (· infer_instance); (· infer_instance)) | ((with_reducible refine wpList_store_is ?_ ?_ ?_ ?_ ?_ ?_ ?_ ?_ ?_ ?_ ?_ ?_ ?_ ?_ ?_ ?_ ?_); rotate_left 7; (· rfl); (· rfl); (· rfl); (· rfl); (· rfl); (· infer_instance); (· infer_instance); (· infer_instance); (· infer_instance)) | ((with_reducible refine wp_region_later ?_ ?_ ?_); (· kernel_rfl); (· kernel_rfl); (try simp only [List.append_eq, List.cons_append, List.nil_append]); (repeat (go_big_quiet_step ((first | (go_at_call 7; (with_reducible exact call_quiet (l6Alive_any _))))))); refine wpQuiet_nil ?_; rintro _ ⟨u, rfl⟩))
    go_ret
    exact ⟨rfl, gw⟩
  have hl' : decide ((4 : Int) < l.length) = false := by simp; omega
  cases hb : bad.okB
  · rw [hb] at HC
    clear hl hT hB
    go_enter Try.func3, Try.ntmps3
    go_wp2_with (first | (go_at_call 7; (with_reducible refine call_later (l6Alive_any _) ?_); intro u) | (go_at_call 8; (with_reducible refine call_later (HC.out _) ?_); intro u) | ((with_reducible refine wpList_load_rng ?_ ?_ ?_ ?_ ?_ ?_ ?_ ?_ ?_ ?_ ?_ ?_); rotate_left 6; (· rfl); (· rfl); (· rfl); (· infer_instance); (· infer_instance)) | ((with_reducible refine wpList_load_is ?_ ?_ ?_ ?_ ?_ ?_ ?_ ?_ ?_ ?_ ?_ ?_ ?_); rotate_left 6; (· rfl); (· rfl); (· rfl); (· infer_instance); (· infer_instance); (· rfl)) | ((with_reducible refine wpList_store_fresh ?_ ?_ ?_ ?_ ?_ ?_ ?_ ?_ ?_ ?_ ?_ ?_ ?_ ?_ ?_ ?_ ?_); rotate_left 5; (· rfl); (· rfl); (· rfl); (· rfl); (· rfl); (· infer_instance); (· infer_instance); (· infer_instance); (· infer_instance)) | ((with_reducible refine wpList_store_is ?_ ?_ ?_ ?_ ?_ ?_ ?_ ?_ ?_ ?_ ?_ ?_ ?_ ?_ ?_ ?_ ?_); rotate_left 7; (· rfl); (· rfl); (· rfl); (· rfl); (· rfl); (· infer_instance); (· infer_instance); (· infer_instance); (· infer_instance)) | ((with_reducible refine wp_region_later ?_ ?_ ?_); (· kernel_rfl); (· kernel_rfl); (try simp only [List.append_eq, List.cons_append, List.nil_append]); (repeat (go_big_quiet_step ((first | (go_at_call 7; (with_reducible exact call_quiet (l6Alive_any _))) | (go_at_call 8; (with_reducible exact call_quiet (HC.out _))))))); refine wpQuiet_nil ?_; rintro _ ⟨u, rfl⟩))
    go_ret
    exact ⟨rfl, gw⟩
  rw [hb] at HC
  have hH := Lib.hid (fun (t : State) (ht : Pv64 t) w' (g : Grew w w') => l6HeardC_any t l (ht := ht) hT (by omega) ao cap w' (Hs.out.grew g))
  have HT := Lib.hid hT
  have HF := Lib.hid (heard_from)
  have HAll := Lib.hid (fun (s t : State) (u v : V3) (h : About s t u v) => heard_all h l l.length)
  have HLen := Lib.hid (fun t => heard_len t l l.length)
  have HL := Lib.hid hl
  clear hl hT
  go_enter Try.func3, Try.ntmps3
  go_upto_region 6 with (first | (go_at_call 7; (with_reducible refine call_later (l6Alive_any _) ?_); intro ua) | (go_at_call 8; (with_reducible refine call_later (HC.out _) ?_); intro ub) | (go_at_call 9; refine (HA.out _).mono ?_; rintro e w' ⟨s, t, u, v, hA, hs64, ht64, rfl, hg1⟩; obtain ⟨z1, rfl⟩ := later_of hg1; have hA' := Lib.hid hA; have ap1 : Apart z1.world.heap.size (z1.world.heap.size + 1) := ⟨by omega⟩; have ap2 : Apart (z1.world.heap.size + 1) z1.world.heap.size := ⟨by omega⟩; clear hg1 hA) | (go_at_call 10; refine (hH.out _ ht64 _ (by repeat (first | with_reducible exact Grew.refl _ | with_reducible apply Grew.alloc | with_reducible apply Grew.later | with_reducible apply Grew.drew | with_reducible apply Grew.setRow | with_reducible apply Grew.store | with_reducible assumption))).mono ?_; rintro e w' ⟨ao2, cap2, rfl, hcap, hsl2, hg2⟩; obtain ⟨z2, rfl⟩ := later_of hg2; have Hs2 := Lib.hid hsl2; have Hcap := Lib.hid hcap; clear hg2 hsl2 hcap) | ((with_reducible refine wpList_load_rng ?_ ?_ ?_ ?_ ?_ ?_ ?_ ?_ ?_ ?_ ?_ ?_); rotate_left 6; (· rfl); (· rfl); (· rfl); (· infer_instance); (· infer_instance)) | ((with_reducible refine wpList_load_is ?_ ?_ ?_ ?_ ?_ ?_ ?_ ?_ ?_ ?_ ?_ ?_ ?_); rotate_left 6; (· rfl); (· rfl); (· rfl); (· infer_instance); (· infer_instance); (· rfl)) | ((with_reducible refine wpList_store_fresh ?_ ?_ ?_ ?_ ?_ ?_ ?_ ?_ ?_ ?_ ?_ ?_ ?_ ?_ ?_ ?_ ?_); rotate_left 5; (· rfl); (· rfl); (· rfl); (· rfl); (· rfl); (· infer_instance); (· infer_instance); (· infer_instance); (· infer_instance)) | ((with_reducible refine wpList_store_is ?_ ?_ ?_ ?_ ?_ ?_ ?_ ?_ ?_ ?_ ?_ ?_ ?_ ?_ ?_ ?_ ?_); rotate_left 7; (· rfl); (· rfl); (· rfl); (· rfl); (· rfl); (· infer_instance); (· infer_instance); (· infer_instance); (· infer_instance)))
  refine wp_to_later (z := w) (by repeat (first | with_reducible exact Grew.refl _ | with_reducible apply Grew.alloc | with_reducible apply Grew.later | with_reducible apply Grew.drew | with_reducible apply Grew.setRow | with_reducible apply Grew.store | with_reducible assumption)) ?_
  intro W hW
  have r7 : RowIs W.world (w.heap.size + 1) 34 bad.cells := by rw [hW]; infer_instance
  have r12 : RowIs W.world z1.world.heap.size 39 s.cells := by rw [hW]; infer_instance
  have hsl : SlAt W.world (.slice ao2 (heardL t l).length cap2) (heardL t l).length ((heardL t l).flatMap Radio.cells) := by rw [hW]; exact Hs2.out
  have hh := HAll.out s t u v hA'.out
  have hra := ra64_list HT.out (HF.out t l l.length) hh
  have hln := HLen.out t
  have hln2 : (heardL t l).length ≤ 4 := by
    have h1 : (heardL t l).length ≤ l.length := hln
    have h2 := HL.out
    omega
  clear hW Hs2 ap1 ap2 hln HAll HF HLen HT hH HA HL HC
  have i7 := r7.blockIn
  have i12 := r12.blockIn
  generalize z1.world.heap.size = q12 at *
  change ∀ m ∈ heardL t l, Heard t m at hh
  change ∀ m ∈ heardL t l, Ra64 m at hra
  have hcap := Hcap.out
  clear Hcap
  generalize heardL t l = L at *
  obtain ⟨k, hk⟩ : ∃ k : Nat, k = a.toNat % (L.length + 1) := ⟨_, rfl⟩
  have hkl : k ≤ L.length := by
    have := Nat.mod_lt a.toNat (show 0 < L.length + 1 by omega)
    omega
  have q1 : a.tmod ((L.length : Int) + 1) = (k : Int) := by
    obtain ⟨b, rfl⟩ := Int.eq_ofNat_of_zero_le a0
    rw [Int.tmod_eq_emod_of_nonneg a0, hk]
    simp
  have q2 : ¬ ((L.length : Int) + 1 = 0) := by omega
  have HKK := Lib.hid hk
  clear hk
  have hz := addr_zero ao2
  have hkc : (k : Int) ≤ cap2 := by omega
  have hkn : (k : Int) ≤ L.length := by omega
  have hsT := slAt_take hsl k cap2 hkl
  obtain ⟨aoD, haD⟩ : ∃ o, (if cap2 = k then ao2 else Option.map (fun x => x.add (k * 15)) ao2) = o := ⟨_, rfl⟩
  have hsD := slAt_drop hsl k (cap2 - k) hkl aoD (fun h => by rw [← haD, if_neg (by omega)])
  have hlT : (L.take k).length = k := by rw [List.length_take]; omega
  have hlD : (L.drop k).length = L.length - k := List.length_drop
  go_upto_region 7 with (fail)
  go_cut [16] (fun v16 wx => (∃ ao3 cap3, v16 = .slice ao3 (L.length + 1) cap3 ∧ SlAt wx v16 (L.length + 1) ((L.take k ++ bad :: L.drop k).flatMap Radio.cells)) ∧ Grew W.world wx)
  case first =>
    obtain ⟨w1, hw1⟩ := later_of (Grew.drew (Grew.refl W.world))
    refine wp_region_tail (Grew W.world.drew) [] rfl ?_
    rw [hw1]
    have k7 : RowIs w1.world (w.heap.size + 1) 34 bad.cells := inferInstance
    have gw1 := w1.grew
    have HsT := Lib.hid (hsT.grew gw1)
    have HsD := Lib.hid (hsD.grew gw1)
    clear hw1 hsl hsT hsD
    generalize w1.world = Y at *
    have ki7 := k7.blockIn
    refine wpTail_take 1 [] (v := .slice ao2 L.length cap2) rfl (by kernel_rfl) (by kernel_rfl) (by kernel_rfl) (by kernel_rfl) (fun _ _ _ h => h) (by rfl) gw (fun w' hw => ?_) ?_
    · obtain ⟨y, rfl⟩ := later_of hw
      go_simp
    try simp only [Act.put, List.setIfInBounds_toArray, List.set_cons_zero, List.set_cons_succ]
    refine wpTail_take 2 [] (v := .int .i64 k) rfl (by kernel_rfl) (by kernel_rfl) (by kernel_rfl) (by kernel_rfl) (fun _ _ _ h => h) (by rfl) gw (fun w' hw => ?_) ?_
    · obtain ⟨y, rfl⟩ := later_of hw
      go_simp
    try simp only [Act.put, List.setIfInBounds_toArray, List.set_cons_zero, List.set_cons_succ]
    refine wpTail_take 3 [] (v := .slice ao2 k cap2) rfl (by kernel_rfl) (by kernel_rfl) (by kernel_rfl) (by kernel_rfl) (fun _ _ _ h => h) (by rfl) gw (fun w' hw => ?_) ?_
    · obtain ⟨y, rfl⟩ := later_of hw
      go_simp
    try simp only [Act.put, List.setIfInBounds_toArray, List.set_cons_zero, List.set_cons_succ]
    refine wpTail_take 5 [] (v := .agg #[.int .i64 bad.kind, .int .i64 bad.place.x.lo, .int .i64 bad.place.x.hi, .int .i64 bad.place.y.lo, .int .i64 bad.place.y.hi, .int .i64 bad.place.z.lo, .int .i64 bad.place.z.hi, .int .i64 bad.dir.x.lo, .int .i64 bad.dir.x.hi, .int .i64 bad.dir.y.lo, .int .i64 bad.dir.y.hi, .int .i64 bad.dir.z.lo, .int .i64 bad.dir.z.hi, .int .i64 bad.value.lo, .int .i64 bad.value.hi]) rfl (by kernel_rfl) (by kernel_rfl) (by kernel_rfl) (by kernel_rfl) (fun _ _ _ h => h) (by rfl) gw (fun w' hw => ?_) ?_
    · obtain ⟨y, rfl⟩ := later_of hw
      go_simp
    try simp only [Act.put, List.setIfInBounds_toArray, List.set_cons_zero, List.set_cons_succ]
    refine wpTail_take 8 [] (v := .slice ao2 L.length cap2) rfl (by kernel_rfl) (by kernel_rfl) (by kernel_rfl) (by kernel_rfl) (fun _ _ _ h => h) (by rfl) gw (fun w' hw => ?_) ?_
    · obtain ⟨y, rfl⟩ := later_of hw
      go_simp
    try simp only [Act.put, List.setIfInBounds_toArray, List.set_cons_zero, List.set_cons_succ]
    refine wpTail_take 9 [] (v := .int .i64 k) rfl (by kernel_rfl) (by kernel_rfl) (by kernel_rfl) (by kernel_rfl) (fun _ _ _ h => h) (by rfl) gw (fun w' hw => ?_) ?_
    · obtain ⟨y, rfl⟩ := later_of hw
      go_simp
    try simp only [Act.put, List.setIfInBounds_toArray, List.set_cons_zero, List.set_cons_succ]
    refine wpTail_take 10 [] (v := .slice aoD (L.length - k) (cap2 - k)) rfl (by kernel_rfl) (by kernel_rfl) (by kernel_rfl) (by kernel_rfl) (fun _ _ _ h => h) (by rfl) gw (fun w' hw => ?_) ?_
    · obtain ⟨y, rfl⟩ := later_of hw
      go_simp
    try simp only [Act.put, List.setIfInBounds_toArray, List.set_cons_zero, List.set_cons_succ]
    refine wpTail_two 0 6 (by kernel_rfl) rfl rfl (fun K hK => ?_) (fun K hK => ?_)
    · go_simp
      refine hK.out _ _ (fun _ => gw) ?_
      clear hK K
      try simp only [Act.put, List.setIfInBounds_toArray, List.set_cons_zero, List.set_cons_succ]
      have hown0 := own_here (w := Y) (base := Y.heap.size) (e := 34) (Nat.le_refl _) rfl
      refine wpTail_two 4 6 (by kernel_rfl) rfl rfl (fun K hK => ?_) (fun K hK => ?_)
      · refine step_cat Y _ gw rfl _ _ rfl [] _ rfl hown0 (L.take k) _ (HsT.out.grew gw) rfl (by simp; omega) ?_
        intro v1 u1 hown1 gr1
        simp only [List.nil_append] at hown1
        refine hK.out _ _ (fun _ => gw) ?_
        clear hK K
        try simp only [Act.put, List.setIfInBounds_toArray, List.set_cons_zero, List.set_cons_succ]
        refine wpTail_one 6 (by kernel_rfl) rfl fun K hK => ?_
        go_simp
        refine hK.out _ _ (fun _ => gw) ?_
        clear hK K
        try simp only [Act.put, List.setIfInBounds_toArray, List.set_cons_zero, List.set_cons_succ]
        have hown := owns_grew hown1 ((Grew.refl u1.world).alloc (.cells #[.int .i64 bad.kind, .int .i64 bad.place.x.lo, .int .i64 bad.place.x.hi, .int .i64 bad.place.y.lo, .int .i64 bad.place.y.hi, .int .i64 bad.place.z.lo, .int .i64 bad.place.z.hi, .int .i64 bad.dir.x.lo, .int .i64 bad.dir.x.hi, .int .i64 bad.dir.y.lo, .int .i64 bad.dir.y.hi, .int .i64 bad.dir.z.lo, .int .i64 bad.dir.z.hi, .int .i64 bad.value.lo, .int .i64 bad.value.hi] 34))
        have rb : RowIs (u1.world.alloc (.cells #[.int .i64 bad.kind, .int .i64 bad.place.x.lo, .int .i64 bad.place.x.hi, .int .i64 bad.place.y.lo, .int .i64 bad.place.y.hi, .int .i64 bad.place.z.lo, .int .i64 bad.place.z.hi, .int .i64 bad.dir.x.lo, .int .i64 bad.dir.x.hi, .int .i64 bad.dir.y.lo, .int .i64 bad.dir.y.hi, .int .i64 bad.dir.z.lo, .int .i64 bad.dir.z.hi, .int .i64 bad.value.lo, .int .i64 bad.value.hi] 34)) u1.world.heap.size 34 bad.cells := rowIs_new u1.world bad.cells _ _
        refine wpTail_one 7 (by kernel_rfl) rfl fun K hK => ?_
        refine step_cat Y _ gw rfl _ _ rfl (L.take k) _ rfl hown [bad] _ (slAt_one rb) rfl (by simp; omega) ?_
        intro v2 u2 hown2 gr2
        refine hK.out _ _ (fun _ => gw) ?_
        clear hK K
        try simp only [Act.put, List.setIfInBounds_toArray, List.set_cons_zero, List.set_cons_succ]
        refine wpTail_one 11 (by kernel_rfl) rfl fun K hK => ?_
        refine step_cat Y _ gw rfl _ _ rfl (L.take k ++ [bad]) _ rfl hown2 (L.drop k) _ (HsD.out.grew gw) rfl (by simp; omega) ?_
        intro v3 u3 hown3 gr3
        refine hK.out _ _ (fun _ => gw) ?_
        clear hK K
        try simp only [Act.put, List.setIfInBounds_toArray, List.set_cons_zero, List.set_cons_succ]
        refine wpTail_one 12 (by kernel_rfl) rfl fun K hK => ?_
        go_simp
        refine hK.out _ _ (fun _ => gw) ?_
        clear hK K
        try simp only [Act.put, List.setIfInBounds_toArray, List.set_cons_zero, List.set_cons_succ]
        refine wpTail_done (by kernel_rfl) ?_
        go_wp2
        go_meet
        case rel => exact ⟨fin3 hkl hown3, gw1.trans gw⟩
      · go_simp
        refine hK.out _ _ (fun _ => gw) ?_
        clear hK K
        try simp only [Act.put, List.setIfInBounds_toArray, List.set_cons_zero, List.set_cons_succ]
        have hown4 := owns_grew hown0 ((Grew.refl _).alloc (.cells #[.int .i64 bad.kind, .int .i64 bad.place.x.lo, .int .i64 bad.place.x.hi, .int .i64 bad.place.y.lo, .int .i64 bad.place.y.hi, .int .i64 bad.place.z.lo, .int .i64 bad.place.z.hi, .int .i64 bad.dir.x.lo, .int .i64 bad.dir.x.hi, .int .i64 bad.dir.y.lo, .int .i64 bad.dir.y.hi, .int .i64 bad.dir.z.lo, .int .i64 bad.dir.z.hi, .int .i64 bad.value.lo, .int .i64 bad.value.hi] 34))
        have rb0 : RowIs ((Y.alloc (.cells #[] 34)).alloc (.cells #[.int .i64 bad.kind, .int .i64 bad.place.x.lo, .int .i64 bad.place.x.hi, .int .i64 bad.place.y.lo, .int .i64 bad.place.y.hi, .int .i64 bad.place.z.lo, .int .i64 bad.place.z.hi, .int .i64 bad.dir.x.lo, .int .i64 bad.dir.x.hi, .int .i64 bad.dir.y.lo, .int .i64 bad.dir.y.hi, .int .i64 bad.dir.z.lo, .int .i64 bad.dir.z.hi, .int .i64 bad.value.lo, .int .i64 bad.value.hi] 34)) (Y.heap.size + 1) 34 bad.cells := rowIs_new (Y.alloc (.cells #[] 34)) bad.cells _ _
        refine wpTail_one 4 (by kernel_rfl) rfl fun K hK => ?_
        refine step_cat Y _ gw rfl _ _ rfl [] _ rfl hown4 (L.take k) _ (HsT.out.grew gw) rfl (by simp; omega) ?_
        intro v1 u1 hown1 gr1
        simp only [List.nil_append] at hown1
        refine hK.out _ _ (fun _ => gw) ?_
        clear hK K
        try simp only [Act.put, List.setIfInBounds_toArray, List.set_cons_zero, List.set_cons_succ]
        have hown := hown1
        have rb := nrow_far (row := some Y.heap.size) gr1 rb0 (by simp)
        refine wpTail_one 7 (by kernel_rfl) rfl fun K hK => ?_
        refine step_cat Y _ gw rfl _ _ rfl (L.take k) _ rfl hown [bad] _ (slAt_one rb) rfl (by simp; omega) ?_
        intro v2 u2 hown2 gr2
        refine hK.out _ _ (fun _ => gw) ?_
        clear hK K
        try simp only [Act.put, List.setIfInBounds_toArray, List.set_cons_zero, List.set_cons_succ]
        refine wpTail_one 11 (by kernel_rfl) rfl fun K hK => ?_
        refine step_cat Y _ gw rfl _ _ rfl (L.take k ++ [bad]) _ rfl hown2 (L.drop k) _ (HsD.out.grew gw) rfl (by simp; omega) ?_
        intro v3 u3 hown3 gr3
        refine hK.out _ _ (fun _ => gw) ?_
        clear hK K
        try simp only [Act.put, List.setIfInBounds_toArray, List.set_cons_zero, List.set_cons_succ]
        refine wpTail_one 12 (by kernel_rfl) rfl fun K hK => ?_
        go_simp
        refine hK.out _ _ (fun _ => gw) ?_
        clear hK K
        try simp only [Act.put, List.setIfInBounds_toArray, List.set_cons_zero, List.set_cons_succ]
        refine wpTail_done (by kernel_rfl) ?_
        go_wp2
        go_meet
        case rel => exact ⟨fin3 hkl hown3, gw1.trans gw⟩
    · go_simp
      refine hK.out _ _ (fun _ => gw) ?_
      clear hK K
      try simp only [Act.put, List.setIfInBounds_toArray, List.set_cons_zero, List.set_cons_succ]
      refine wpTail_one 0 (by kernel_rfl) rfl fun K hK => ?_
      go_simp
      refine hK.out _ _ (fun _ => gw) ?_
      clear hK K
      try simp only [Act.put, List.setIfInBounds_toArray, List.set_cons_zero, List.set_cons_succ]
      have hown4 := own_here (w := Y.alloc (.cells #[.int .i64 bad.kind, .int .i64 bad.place.x.lo, .int .i64 bad.place.x.hi, .int .i64 bad.place.y.lo, .int .i64 bad.place.y.hi, .int .i64 bad.place.z.lo, .int .i64 bad.place.z.hi, .int .i64 bad.dir.x.lo, .int .i64 bad.dir.x.hi, .int .i64 bad.dir.y.lo, .int .i64 bad.dir.y.hi, .int .i64 bad.dir.z.lo, .int .i64 bad.dir.z.hi, .int .i64 bad.value.lo, .int .i64 bad.value.hi] 34)) (base := Y.heap.size) (m := Y.heap.size + 1) (e := 34) (by simp) (by simp)
      have rb0 : RowIs ((Y.alloc (.cells #[.int .i64 bad.kind, .int .i64 bad.place.x.lo, .int .i64 bad.place.x.hi, .int .i64 bad.place.y.lo, .int .i64 bad.place.y.hi, .int .i64 bad.place.z.lo, .int .i64 bad.place.z.hi, .int .i64 bad.dir.x.lo, .int .i64 bad.dir.x.hi, .int .i64 bad.dir.y.lo, .int .i64 bad.dir.y.hi, .int .i64 bad.dir.z.lo, .int .i64 bad.dir.z.hi, .int .i64 bad.value.lo, .int .i64 bad.value.hi] 34)).alloc (.cells #[] 34)) Y.heap.size 34 bad.cells := (rowIs_new Y bad.cells 34 _).grew ((Grew.refl _).alloc _)
      refine wpTail_one 4 (by kernel_rfl) rfl fun K hK => ?_
      refine step_cat Y _ gw rfl _ _ rfl [] _ rfl hown4 (L.take k) _ (HsT.out.grew gw) rfl (by simp; omega) ?_
      intro v1 u1 hown1 gr1
      simp only [List.nil_append] at hown1
      refine hK.out _ _ (fun _ => gw) ?_
      clear hK K
      try simp only [Act.put, List.setIfInBounds_toArray, List.set_cons_zero, List.set_cons_succ]
      have hown := hown1
      have rb := nrow_far (row := some (Y.heap.size + 1)) gr1 rb0 (by simp)
      refine wpTail_one 7 (by kernel_rfl) rfl fun K hK => ?_
      refine step_cat Y _ gw rfl _ _ rfl (L.take k) _ rfl hown [bad] _ (slAt_one rb) rfl (by simp; omega) ?_
      intro v2 u2 hown2 gr2
      refine hK.out _ _ (fun _ => gw) ?_
      clear hK K
      try simp only [Act.put, List.setIfInBounds_toArray, List.set_cons_zero, List.set_cons_succ]
      refine wpTail_one 11 (by kernel_rfl) rfl fun K hK => ?_
      refine step_cat Y _ gw rfl _ _ rfl (L.take k ++ [bad]) _ rfl hown2 (L.drop k) _ (HsD.out.grew gw) rfl (by simp; omega) ?_
      intro v3 u3 hown3 gr3
      refine hK.out _ _ (fun _ => gw) ?_
      clear hK K
      try simp only [Act.put, List.setIfInBounds_toArray, List.set_cons_zero, List.set_cons_succ]
      refine wpTail_one 12 (by kernel_rfl) rfl fun K hK => ?_
      go_simp
      refine hK.out _ _ (fun _ => gw) ?_
      clear hK K
      try simp only [Act.put, List.setIfInBounds_toArray, List.set_cons_zero, List.set_cons_succ]
      refine wpTail_done (by kernel_rfl) ?_
      go_wp2
      go_meet
      case rel => exact ⟨fin3 hkl hown3, gw1.trans gw⟩
  case rest =>
  obtain ⟨⟨ao3, cap3, rfl, hs3⟩, hcut⟩ := hcut
  obtain ⟨z4, rfl⟩ := later_of hcut
  clear hcut
  have hfin := finds_one hA'.out hh bad hkl (r % 9)
  have hAT : ∀ m ∈ L.take k ++ bad :: L.drop k, Ra64 m := fun m hm => by
    rcases List.mem_append.1 hm with h | h
    · exact hra m (List.mem_of_mem_take h)
    · rcases List.mem_cons.1 h with rfl | h
      · exact hB
      · exact hra m (List.mem_of_mem_drop h)
  have hAO : ∀ m ∈ L.take k ++ bad :: L.drop k, m.okB = true := fun m hm => by
    rcases List.mem_append.1 hm with h | h
    · exact (hh m (List.mem_of_mem_take h)).ok.1
    · rcases List.mem_cons.1 h with rfl | h
      · exact hb
      · exact (hh m (List.mem_of_mem_drop h)).ok.1
  have hAl : (L.take k ++ bad :: L.drop k).length = L.length + 1 := by
    simp
    omega
  have hFE : fuseE s (L.take k ++ bad :: L.drop k) (r % 9) = 0 := by
    unfold fuseE
    rw [if_neg (by rw [hAl]; omega), if_neg (by rw [hA'.out.sokB]; simp; omega), List.all_eq_true.2 (fun m hm => hAO m hm)]
    rfl
  generalize L.take k ++ bad :: L.drop k = A at *
  rw [← hAl] at hs3
  have hs3L := Lib.hid hs3
  have hRR : fuseRR s A (r % 9) = fuseR allKept A (r % 9).toNat 0 s := by
    unfold fuseRR
    rw [if_pos hFE]
  have HFU := Lib.hid (fun (e : Int) (he : (fuseR allKept A (r % 9).toNat 0 s).e = e) w' (g : Grew z4.world w') => show Calls Try.prog 11 #[.agg s.cells.toArray, .slice ao3 (L.length + 1) cap3, .int .i64 (r % 9)] w' (fun e1 w'' => e1 = .returned (.tuple #[.agg (fuseRR s A (r % 9)).s.cells.toArray, .int .i64 (fuseRR s A (r % 9)).n, .int .i64 e]) ∧ Grew w' w'') from by
    have := navFuseT_any s A (r % 9) hAT ao3 cap3 w' (hs3L.out.grew g)
    rw [← hAl, ← he]
    rw [hRR] at this ⊢
    exact this)
  have r12' : RowIs z4.world q12 39 s.cells := inferInstance
  have i12' := r12'.blockIn
  have HIN := Lib.hid hfin
  have HASC := Lib.hid (susTo_asc2 s A (r % 9))
  clear hfin hAO hh hra hsl hs3 r7 i7 r12 i12
  by_cases he0 : (fuseR allKept A (r % 9).toNat 0 s).e = 0
  · have H1 := Lib.hid (HFU.out 0 he0)
    have H2 := Lib.hid (fun w' (g : Grew z4.world w') => show Calls Try.prog 12 #[.agg s.cells.toArray, .slice ao3 (L.length + 1) cap3, .int .i64 (r % 9)] w' (fun e1 w'' => e1 = .returned (.tuple #[.slice none 0 0, .int .i64 0]) ∧ Grew w' w'') from by
      rw [← hAl]
      exact navSusp_none s A (r % 9) hAT ao3 cap3 w' (hs3L.out.grew g) hFE he0)
    clear HFU HIN HASC hRR hAT he0 hFE hs3L
    generalize fuseRR s A (r % 9) = FR at *
    go_wp2_with (first | (go_at_call 11; (with_reducible refine call_later (H1.out _ (by repeat (first | with_reducible exact Grew.refl _ | with_reducible apply Grew.alloc | with_reducible apply Grew.later | with_reducible apply Grew.drew | with_reducible apply Grew.setRow | with_reducible apply Grew.store | with_reducible assumption))) ?_); intro u1) | (go_at_call 12; (with_reducible refine call_later (H2.out _ (by repeat (first | with_reducible exact Grew.refl _ | with_reducible apply Grew.alloc | with_reducible apply Grew.later | with_reducible apply Grew.drew | with_reducible apply Grew.setRow | with_reducible apply Grew.store | with_reducible assumption))) ?_); intro u2) | ((with_reducible refine wpList_load_rng ?_ ?_ ?_ ?_ ?_ ?_ ?_ ?_ ?_ ?_ ?_ ?_); rotate_left 6; (· rfl); (· rfl); (· rfl); (· infer_instance); (· infer_instance)) | ((with_reducible refine wpList_load_is ?_ ?_ ?_ ?_ ?_ ?_ ?_ ?_ ?_ ?_ ?_ ?_ ?_); rotate_left 6; (· rfl); (· rfl); (· rfl); (· infer_instance); (· infer_instance); (· rfl)) | ((with_reducible refine wpList_store_fresh ?_ ?_ ?_ ?_ ?_ ?_ ?_ ?_ ?_ ?_ ?_ ?_ ?_ ?_ ?_ ?_ ?_); rotate_left 5; (· rfl); (· rfl); (· rfl); (· rfl); (· rfl); (· infer_instance); (· infer_instance); (· infer_instance); (· infer_instance)) | ((with_reducible refine wpList_store_is ?_ ?_ ?_ ?_ ?_ ?_ ?_ ?_ ?_ ?_ ?_ ?_ ?_ ?_ ?_ ?_ ?_); rotate_left 7; (· rfl); (· rfl); (· rfl); (· rfl); (· rfl); (· infer_instance); (· infer_instance); (· infer_instance); (· infer_instance)))
    go_ret
    exact ⟨rfl, W.grew.trans (z4.grew.trans (by repeat (first | with_reducible exact Grew.refl _ | with_reducible apply Grew.alloc | with_reducible apply Grew.later | with_reducible apply Grew.drew | with_reducible apply Grew.setRow | with_reducible apply Grew.store | with_reducible assumption)))⟩
  · have he7 : (fuseR allKept A (r % 9).toNat 0 s).e = 7 := by
      rcases fuse_e allKept A (r % 9).toNat 0 s with h | h
      · exact absurd h.1 he0
      · exact h.1
    have H1 := Lib.hid (HFU.out 7 he7)
    have H2 := Lib.hid (fun w' (g : Grew z4.world w') => show Calls Try.prog 12 #[.agg s.cells.toArray, .slice ao3 (L.length + 1) cap3, .int .i64 (r % 9)] w' (fun e w' => ∃ v, e = .returned (.tuple #[v, .int .i64 0]) ∧ SlAt w' v (susTo s A (r % 9) A.length).length ((susTo s A (r % 9) A.length).flatMap intC) ∧ Grew z4.world w') from by
      rw [← hAl]
      exact (navSusp_some s A (r % 9) hAT ao3 cap3 w' (hs3L.out.grew g) hFE he0).mono fun _ _ ⟨v, h1, h2, h3⟩ => ⟨v, h1, h2, g.trans h3⟩)
    have HM := Lib.hid (susTo_has HIN.out)
    clear HFU HIN hRR hAT he0 he7 hFE hs3L
    generalize fuseRR s A (r % 9) = FR at *
    generalize susTo s A (r % 9) A.length = S at *
    go_upto_block 0 with (first | (go_at_call 11; (with_reducible refine call_later (H1.out _ (by repeat (first | with_reducible exact Grew.refl _ | with_reducible apply Grew.alloc | with_reducible apply Grew.later | with_reducible apply Grew.drew | with_reducible apply Grew.setRow | with_reducible apply Grew.store | with_reducible assumption))) ?_); intro u1) | (go_at_call 12; refine (H2.out _ (by repeat (first | with_reducible exact Grew.refl _ | with_reducible apply Grew.alloc | with_reducible apply Grew.later | with_reducible apply Grew.drew | with_reducible apply Grew.setRow | with_reducible apply Grew.store | with_reducible assumption))).mono ?_; rintro en w2 ⟨vS, rfl, hsv, hg5⟩; obtain ⟨z5, rfl⟩ := later_of hg5; obtain ⟨ao4, cap4, rfl⟩ := sl_len hsv; clear hg5) | ((with_reducible refine wpList_load_rng ?_ ?_ ?_ ?_ ?_ ?_ ?_ ?_ ?_ ?_ ?_ ?_); rotate_left 6; (· rfl); (· rfl); (· rfl); (· infer_instance); (· infer_instance)) | ((with_reducible refine wpList_load_is ?_ ?_ ?_ ?_ ?_ ?_ ?_ ?_ ?_ ?_ ?_ ?_ ?_); rotate_left 6; (· rfl); (· rfl); (· rfl); (· infer_instance); (· infer_instance); (· rfl)) | ((with_reducible refine wpList_store_fresh ?_ ?_ ?_ ?_ ?_ ?_ ?_ ?_ ?_ ?_ ?_ ?_ ?_ ?_ ?_ ?_ ?_); rotate_left 5; (· rfl); (· rfl); (· rfl); (· rfl); (· rfl); (· infer_instance); (· infer_instance); (· infer_instance); (· infer_instance)) | ((with_reducible refine wpList_store_is ?_ ?_ ?_ ?_ ?_ ?_ ?_ ?_ ?_ ?_ ?_ ?_ ?_ ?_ ?_ ?_ ?_); rotate_left 7; (· rfl); (· rfl); (· rfl); (· rfl); (· rfl); (· infer_instance); (· infer_instance); (· infer_instance); (· infer_instance)))
    have hsv' := hsv
    obtain ⟨ao5, cap5, e5, hmS, hxS⟩ := hsv
    cases e5
    have HEL := Lib.hid (SlAt.elem (f := intC) (c := 1) (fun _ => rfl) (by omega) hxS)
    clear hxS H1 H2 hsv'
    unfold maxLen at hmS
    go_wp2
    go_loopw [96, 23] (fun iv fv wr => ∃ i : Nat, iv = .int .i64 i ∧ fv = .bool ((S.take i).any fun j => j == (k : Int)) ∧ i ≤ S.length ∧ Grew z5.world wr) (fun iv _ _ => S.length - (intOf iv).toNat)
    case atStart => exact ⟨0, rfl, rfl, by omega, (by repeat (first | with_reducible exact Grew.refl _ | with_reducible apply Grew.alloc | with_reducible apply Grew.later | with_reducible apply Grew.drew | with_reducible apply Grew.setRow | with_reducible apply Grew.store | with_reducible assumption))⟩
    case round =>
      obtain ⟨i, rfl, rfl, hi, hg⟩ := hrel
      obtain ⟨z, rfl⟩ := later_of hg
      clear hg
      by_cases hlt : i < S.length
      · obtain ⟨b1, o1, e1, i1, hd1, hd2⟩ := HEL.out i hlt
        cases e1
        have j1 : BlockIn z5.world b1 := ⟨i1⟩
        have hc0 := hd1 _ rfl
        have hlI : (i : Int) < S.length := by omega
        have hi0 : 0 ≤ (i : Int) := by omega
        have hSi : S[i]? = some S[i] := List.getElem?_eq_getElem hlt
        have hany : (S.take (i + 1)).any (fun j => j == (k : Int)) = ((S.take i).any (fun j => j == (k : Int)) || (S[i] == (k : Int))) := by
          rw [List.take_add_one, hSi, List.any_append]
          simp
        clear hd1 hd2
        generalize S[i] = e at *
        have HANY := Lib.hid hany
        clear hany
        generalize (S.take i).any (fun j => j == (k : Int)) = f at *
        cases i with
        | zero =>
          clear HEL
          simp only [Nat.zero_mul, Nat.mul_one, Nat.add_zero] at hc0
          cases f
          all_goals
            go_wp2
            go_roundw
            case rel => exact ⟨1, by go_num, by rw [HANY.out]; first | rfl | simp, by omega, (by repeat (first | with_reducible exact Grew.refl _ | with_reducible apply Grew.alloc | with_reducible apply Grew.later | with_reducible apply Grew.drew | with_reducible apply Grew.setRow | with_reducible apply Grew.store | with_reducible assumption))⟩
            case measure => simp [intOf]; omega
        | succ i =>
          obtain ⟨b2, o2, e2, i2, hd3, hd4⟩ := HEL.out i (by omega)
          cases e2
          have hc1 := hd3 _ rfl
          simp only [Nat.mul_one] at hc0 hc1
          have hSi2 : S[i]? = some S[i] := List.getElem?_eq_getElem (by omega)
          have hlt2 := HASC.out i S[i] e hSi2 hSi
          clear hd3 hd4 HEL
          generalize S[i] = e3 at *
          have hge : ¬ e ≤ e3 := by omega
          have hw1 : IntKind.i64.wrap (i : Int) = i := by
            rw [IntKind.wrap_i64]
            omega
          have hi1 : 0 ≤ (i : Int) := by omega
          have hi2 : (i : Int) < S.length := by omega
          cases f
          all_goals
            go_wp2
            go_roundw
            case rel => exact ⟨i + 1 + 1, by go_num, by rw [HANY.out]; first | rfl | simp, by omega, (by repeat (first | with_reducible exact Grew.refl _ | with_reducible apply Grew.alloc | with_reducible apply Grew.later | with_reducible apply Grew.drew | with_reducible apply Grew.setRow | with_reducible apply Grew.store | with_reducible assumption))⟩
            case measure => simp [intOf]; omega
      · obtain rfl : i = S.length := by omega
        have hfin : (S.take S.length).any (fun j => j == (k : Int)) = true := by
          rw [List.take_length, List.any_eq_true]
          exact ⟨_, HM.out, by simp⟩
        rw [hfin]
        go_wp2
        go_ret
        exact ⟨rfl, W.grew.trans (z4.grew.trans (z5.grew.trans (by repeat (first | with_reducible exact Grew.refl _ | with_reducible apply Grew.alloc | with_reducible apply Grew.later | with_reducible apply Grew.drew | with_reducible apply Grew.setRow | with_reducible apply Grew.store | with_reducible assumption))))⟩
end Go.Proofs.Ytkmjegkdfhiadaa
namespace Go.Proofs.Ytkmjegkdfhiadaa
open Go.RowKit Go.ChangeShapes Go.WideShapes Go.ChangeAt Go.Deep
set_option maxRecDepth 100000
set_option maxHeartbeats 8000000
section
variable {H : Type} {enc : TypeId × Value → H} {P : Program} {w : World} {base : Nat} {spare : Nat → Bool} {held : Bool}
theorem ints_trod {fuel : Nat} {cs : List Value} {x : DataW H × List MemPlace} {t e : TypeId} {n : Nat} {k : IntKind} (ht : P.underlying t = some (.array n e)) (he : P.underlying e = some (.int k)) (hc : P.cellsOf t = n) (h1 : P.cellsOf e = 1)
    (h0 : (Lit.int k 0).wf = true) (h : DataW.trod enc P w base spare held fuel t cs = some x) : ∃ f : Nat → Int, cs = (List.range n).map (fun j => .int k (f j)) ∧ ∀ j, (Lit.int k (f j)).wf = true := by
  obtain ⟨xs, m, rfl, -, hl, hxl, hf⟩ := DataW.trod_array ht h
  rw [hc] at hl
  have H : ∀ j, ∃ y : Int, (j < n → cs[j]? = some (.int k y)) ∧ (Lit.int k y).wf = true := by
    intro j
    by_cases hj : j < n
    · have hj' := hf j hj
      rw [h1, Nat.mul_one, List.getElem?_eq_getElem (by omega)] at hj'
      obtain ⟨y, e1, -, hw⟩ := DataW.trod_int he hj'
      refine ⟨y, fun _ => ?_, hw⟩
      have : ((cs.drop j).take 1)[0]? = some (.int k y) := by rw [e1]; rfl
      simpa [List.getElem?_take, List.getElem?_drop] using this
    · exact ⟨0, fun h => absurd h hj, h0⟩
  refine ⟨fun j => Classical.choose (H j), ?_, fun j => (Classical.choose_spec (H j)).2⟩
  apply List.ext_getElem?
  intro i
  by_cases hi : i < n
  · rw [(Classical.choose_spec (H i)).1 hi]
    simp [hi]
  · rw [List.getElem?_eq_none (by omega), List.getElem?_eq_none (by simp; omega)]
end
theorem b64_of {b : Bx} (h1 : I64 b.x.lo) (h2 : I64 b.x.hi) (h3 : I64 b.y.lo) (h4 : I64 b.y.hi) (h5 : I64 b.z.lo) (h6 : I64 b.z.hi) : B64 b := ⟨⟨h1, h2⟩, ⟨h3, h4⟩, ⟨h5, h6⟩⟩
section
variable {H : Type} {enc : TypeId × Value → H} {w : World} {base : Nat} {spare : Nat → Bool} {held : Bool}
theorem vals12 {cs : List Value} (h : cs.length = 12) : ∃ c0 c1 c2 c3 c4 c5 c6 c7 c8 c9 c10 c11, cs = [c0, c1, c2, c3, c4, c5, c6, c7, c8, c9, c10, c11] := by
  match cs, h with | [c0, c1, c2, c3, c4, c5, c6, c7, c8, c9, c10, c11], _ => exact ⟨c0, c1, c2, c3, c4, c5, c6, c7, c8, c9, c10, c11, rfl⟩
theorem true_trod {fuel : Nat} {cs : List Value} {x : DataW H × List MemPlace} (h : DataW.trod enc Try.prog w base spare held fuel 26 cs = some x) :
    ∃ x : Tr, cs = x.cells ∧ x.Ok := by
  obtain ⟨xs, n, rfl, -, hl, hxl, hf⟩ := DataW.trod_struct Try.underlying26 h
  have hxl : xs.length = 3 := hxl
  have hC : Try.prog.cellsOf 26 = 12 := by kernel_rfl
  have hA : Try.prog.cellsOf 22 = 3 := by kernel_rfl
  have hB : Try.prog.cellsOf 24 = 6 := by kernel_rfl
  obtain ⟨c0, c1, c2, c3, c4, c5, c6, c7, c8, c9, c10, c11, rfl⟩ := vals12 (hl.trans hC)
  have f0 : DataW.trod enc Try.prog w base spare held n 22 (([c0, c1, c2, c3, c4, c5, c6, c7, c8, c9, c10, c11].drop 0).take (Try.prog.cellsOf 22)) = xs[0]? := hf 0 _ rfl
  have f1 : DataW.trod enc Try.prog w base spare held n 22 (([c0, c1, c2, c3, c4, c5, c6, c7, c8, c9, c10, c11].drop 3).take (Try.prog.cellsOf 22)) = xs[1]? := hf 1 _ rfl
  have f2 : DataW.trod enc Try.prog w base spare held n 24 (([c0, c1, c2, c3, c4, c5, c6, c7, c8, c9, c10, c11].drop 6).take (Try.prog.cellsOf 24)) = xs[2]? := hf 2 _ rfl
  rw [List.getElem?_eq_getElem (by omega), hA] at f0 f1
  rw [List.getElem?_eq_getElem (by omega), hB] at f2
  obtain ⟨p, e0, b0⟩ := ints_trod Try.underlying22 Try.underlying21 hA (by kernel_rfl) (by decide) f0
  obtain ⟨v, e1, b1⟩ := ints_trod Try.underlying22 Try.underlying21 hA (by kernel_rfl) (by decide) f1
  obtain ⟨d, e2, b2⟩ := ints_trod Try.underlying24 Try.underlying23 hB (by kernel_rfl) (by decide) f2
  simp [List.range, List.range.loop] at e0 e1 e2
  refine ⟨⟨p, v, d⟩, ?_, ?_, ?_, ?_⟩
  · simp [Tr.cells, e0, e1, e2]
  · intro i
    simpa [Lit.wf, IntKind.min, IntKind.max, IntKind.signed, IntKind.bits] using b0 i
  · intro i
    simpa [Lit.wf, IntKind.min, IntKind.max, IntKind.signed, IntKind.bits] using b1 i
  · intro i
    simpa [Lit.wf, IntKind.min, IntKind.max, IntKind.signed, IntKind.bits] using b2 i
theorem radios_trod {fuel : Nat} {cs : List Value} {x : DataW H × List MemPlace} (h : DataW.trod enc Try.prog w base spare held fuel 27 cs = some x) :
    ∃ (ao : Option Addr) (cap : Nat) (l : List Radio), cs = [.slice ao l.length cap] ∧ SlAt w (.slice ao l.length cap) l.length (l.flatMap Radio.cells) ∧ ∀ m ∈ l, Ra64 m := by
  obtain ⟨ao, n, cap, l, e, hn, h1, h2⟩ := slice_trod Radio.cells (c := 15) (fun _ => rfl) Ra64 Try.underlying27 (by kernel_rfl) (fun m cs' x' h' => by
    obtain ⟨hl, hi⟩ := flat_trod Try.prog 12 34 15 m cs' x' (by kernel_rfl) h'
    obtain ⟨ns, e, hb⟩ := allInt_list cs' hi
    rw [e, List.length_map] at hl
    obtain ⟨c0, c1, c2, c3, c4, c5, c6, c7, c8, c9, c10, c11, c12, c13, c14, rfl⟩ : ∃ c0 c1 c2 c3 c4 c5 c6 c7 c8 c9 c10 c11 c12 c13 c14, ns = [c0, c1, c2, c3, c4, c5, c6, c7, c8, c9, c10, c11, c12, c13, c14] := by
      match ns, hl with | [c0, c1, c2, c3, c4, c5, c6, c7, c8, c9, c10, c11, c12, c13, c14], _ => exact ⟨c0, c1, c2, c3, c4, c5, c6, c7, c8, c9, c10, c11, c12, c13, c14, rfl⟩
    exact ⟨⟨c0, ⟨⟨c1, c2⟩, ⟨c3, c4⟩, ⟨c5, c6⟩⟩, ⟨⟨c7, c8⟩, ⟨c9, c10⟩, ⟨c11, c12⟩⟩, ⟨c13, c14⟩⟩, e, ⟨b64_of (hb c1 (by simp)) (hb c2 (by simp)) (hb c3 (by simp)) (hb c4 (by simp)) (hb c5 (by simp)) (hb c6 (by simp)), b64_of (hb c7 (by simp)) (hb c8 (by simp)) (hb c9 (by simp)) (hb c10 (by simp)) (hb c11 (by simp)) (hb c12 (by simp)), ⟨hb c13 (by simp), hb c14 (by simp)⟩⟩⟩) h
  subst hn
  exact ⟨ao, cap, l, e, h1, h2⟩
end
theorem open_byte {H : Type} {enc : TypeId × Value → H} {P : Program} {w : World} {base : Nat} {spare : Nat → Bool} {held : Bool} {r : Reach} {b0 : Nat} {t : TypeId} {v : Value} {d : DataW H} {p : List MemPlace} (hs : P.underlying t = some (.int .u8))
    (hv : Value.okWide P w r b0 t v) (h : DataW.Trod enc P w base spare held t v d p) : ∃ k : Int, v = .int .u8 k ∧ 0 ≤ k ∧ k ≤ 255 := by
  obtain ⟨k, rfl, -, -, hw⟩ := open_int hs hv h
  exact ⟨k, rfl, by simpa [Lit.wf, IntKind.min, IntKind.max, IntKind.signed, IntKind.bits] using hw⟩
end Go.Proofs.Ytkmjegkdfhiadaa
namespace Go.Proofs.Ytkmjegkdfhiadaa
open Go.RowKit Go.ChangeShapes Go.WideShapes Go.ChangeAt Go.Deep
set_option maxRecDepth 100000
set_option maxHeartbeats 8000000
namespace navFindsRow
open Go.ChangeShapes Go.WideShapes Go.ChangeAt Go.RowKit
theorem own : ownKnob Try.prog.godebug = none := by kernel_rfl
theorem lifted (os : Os) (started : os.Started) (H : Type) (enc : TypeId × Value → H) :
    ReturnsInHanded {} Try.checked os 3 .any (Rows.navFindsSpec.pre6 enc Try.prog Try.f3 Rows.navFindsRow.domain false) (Rows.navFindsSpec.post enc Try.prog Try.f3 false true false false) := by
  refine returnsInHanded_of_change (C := Try.checked) own started (by kernel_rfl) Try.func3
    (ChangeSpec.witness6 (enc := enc) (C := Try.checked) false ⟨#[], #[.agg #[.int .i32 0, .int .i32 0, .int .i32 0, .int .i32 0, .int .i32 0, .int .i32 0, .int .u16 0, .int .u16 0, .int .u16 0, .int .u16 0, .int .u16 0, .int .u16 0], .slice none 0 0, .agg #[.int .i64 0, .int .i64 0, .int .i64 0, .int .i64 0, .int .i64 0, .int .i64 0, .int .i64 0, .int .i64 0, .int .i64 0, .int .i64 0, .int .i64 0, .int .i64 0, .int .i64 0, .int .i64 0, .int .i64 0], .int .u8 0, .int .u8 0], []⟩ 8 (by as_aux_lemma => kernel_rfl) (by as_aux_lemma => kernel_rfl) (by as_aux_lemma => kernel_rfl) (by as_aux_lemma => kernel_rfl)) ?_
  intro W base args ds gs before hval0 hW _ _
  have hval : ∀ (j : Nat) t v, Try.f3.params[j]? = some t → args[j]? = some v → Value.okWide Try.prog W .any base t v := hval0
  have hW' := hW
  obtain ⟨p, q, hA0, hV, rfl, hfz, hnd⟩ := hW
  have hA : DataW.TrodAll enc Try.prog W 0 (fun _ => true) true Try.f3.params.toList args.toList ds p := hA0
  rw [Try.params3] at hA hval
  obtain ⟨v0, vs0, d0, ds0, p0, q0, hargs, rfl, rfl, h0, r0⟩ := trodAll_cons hA
  obtain ⟨v1, vs1, d1, ds1, p1, q1, rfl, rfl, rfl, h1, r1⟩ := trodAll_cons r0
  obtain ⟨v2, vs2, d2, ds2, p2, q2, rfl, rfl, rfl, h2, r2⟩ := trodAll_cons r1
  obtain ⟨v3, vs3, d3, ds3, p3, q3, rfl, rfl, rfl, h3, r3⟩ := trodAll_cons r2
  obtain ⟨v4, vs4, d4, ds4, p4, q4, rfl, rfl, rfl, h4, r4⟩ := trodAll_cons r3
  obtain ⟨rfl, rfl, rfl⟩ := trodAll_nil r4
  obtain rfl : args = #[v0, v1, v2, v3, v4] := by cases args; simp_all
  obtain ⟨rfl, rfl⟩ := trodVars_none hV
  obtain ⟨cs0, rfl, -⟩ := okWide_struct Try.underlying26 (hval 0 26 v0 rfl rfl)
  obtain ⟨ao1, n1, cap1, rfl⟩ := okWide_slice Try.underlying27 (hval 1 27 v1 rfl rfl)
  obtain ⟨ns, hv1, hn, hb⟩ := open_flat 15 (by kernel_rfl) Try.underlying34 (hval 2 34 v2 rfl rfl) h2
  obtain ⟨a2, rfl, g0, g1⟩ := open_byte Try.underlying5 (hval 3 5 v3 rfl rfl) h3
  obtain ⟨a4, rfl, g2, g3⟩ := open_byte Try.underlying5 (hval 4 5 v4 rfl rfl) h4
  obtain ⟨_, h0⟩ := h0
  obtain ⟨_, h1⟩ := h1
  obtain ⟨x, e3, hx⟩ := true_trod h0
  obtain ⟨ao, cap, l, e1, hl, hT⟩ := radios_trod h1
  obtain rfl : cs0 = x.cells.toArray := Array.ext' (by simpa [Value.cells] using e3)
  obtain ⟨rfl, rfl, rfl⟩ : ao1 = ao ∧ n1 = l.length ∧ cap1 = cap := by simpa [Value.cells] using e1
  obtain ⟨c0, c1, c2, c3, c4, c5, c6, c7, c8, c9, c10, c11, c12, c13, c14, rfl⟩ : ∃ c0 c1 c2 c3 c4 c5 c6 c7 c8 c9 c10 c11 c12 c13 c14, ns = [c0, c1, c2, c3, c4, c5, c6, c7, c8, c9, c10, c11, c12, c13, c14] := by
    match ns, hn with | [c0, c1, c2, c3, c4, c5, c6, c7, c8, c9, c10, c11, c12, c13, c14], _ => exact ⟨c0, c1, c2, c3, c4, c5, c6, c7, c8, c9, c10, c11, c12, c13, c14, rfl⟩
  obtain rfl : v2 = Value.agg #[.int .i64 c0, .int .i64 c1, .int .i64 c2, .int .i64 c3, .int .i64 c4, .int .i64 c5, .int .i64 c6, .int .i64 c7, .int .i64 c8, .int .i64 c9, .int .i64 c10, .int .i64 c11, .int .i64 c12, .int .i64 c13, .int .i64 c14] := hv1
  have hB1 : B64 (⟨⟨c1, c2⟩, ⟨c3, c4⟩, ⟨c5, c6⟩⟩ : Bx) := b64_of (hb c1 (by simp)) (hb c2 (by simp)) (hb c3 (by simp)) (hb c4 (by simp)) (hb c5 (by simp)) (hb c6 (by simp))
  have hB2 : B64 (⟨⟨c7, c8⟩, ⟨c9, c10⟩, ⟨c11, c12⟩⟩ : Bx) := b64_of (hb c7 (by simp)) (hb c8 (by simp)) (hb c9 (by simp)) (hb c10 (by simp)) (hb c11 (by simp)) (hb c12 (by simp))
  have hM : Ra64 (⟨c0, ⟨⟨c1, c2⟩, ⟨c3, c4⟩, ⟨c5, c6⟩⟩, ⟨⟨c7, c8⟩, ⟨c9, c10⟩, ⟨c11, c12⟩⟩, ⟨c13, c14⟩⟩ : Radio) := ⟨hB1, hB2, ⟨hb c13 (by simp), hb c14 (by simp)⟩⟩
  refine (finds_walk x hx l ⟨c0, ⟨⟨c1, c2⟩, ⟨c3, c4⟩, ⟨c5, c6⟩⟩, ⟨⟨c7, c8⟩, ⟨c9, c10⟩, ⟨c11, c12⟩⟩, ⟨c13, c14⟩⟩ a2 a4 g0 g1 g2 g3 hT hM ao1 cap1 W hl).mono fun e W' ⟨he, hg⟩ => ?_
  subst he
  exact ⟨_, rfl, law_post (by kernel_rfl) (by kernel_rfl) rfl rfl Try.underlying4 hW' rfl hg⟩
theorem proved : Rows.NavFindsSaid :=
  OpenClaim.holds_of_wide 3 Try.f3 rfl rfl rfl rfl rfl rfl rfl ⟨rfl, rfl, rfl, rfl, rfl⟩ rfl rfl rfl rfl rfl (by as_aux_lemma => kernel_rfl) Try.func3 (by as_aux_lemma => kernel_rfl)
    (of_decide_eq_true (by as_aux_lemma => kernel_rfl)) (by unfold Func.isWrapper; first | (rw [if_pos (by decide +kernel)]; kernel_rfl) | (rw [if_neg (by decide +kernel)]; exact ⟨rfl, rfl⟩))
    (fun os started H enc _ => lifted os started H enc)
end navFindsRow
end Go.Proofs.Ytkmjegkdfhiadaa
