/-
  Contracts: slices.IndexFunc, ContainsFunc and SortFunc at post's found sets; post.least.
-/
import Derived.Test.YtgjikdhidakloaaCauseBits
import Derived.Test.YtgjikdhidakloaaSortLay
import Derived.Test.YtgjikdhidakloaaInts
namespace Go.Proofs.Ytgjikdhidakloaa
open Go.RowKit Go.Sort
set_option maxRecDepth 100000
set_option maxHeartbeats 16000000
theorem infoFd : (Try.prog.info? 101).map (fun i => (i.zero, i.size, i.bytes)) = some (some (.agg #[.int .i64 0]), 1, 8) := by kernel_rfl
theorem fd_one (x : Fin 256) : ∀ v ∈ fdC x, v.oneCell' = true := by
  intro v hv
  simp [fdC] at hv
  subst hv
  rfl
/-- A set is appended. -/
theorem wpList_app_fd {ops : Array Oper} {rest : List Oper} {o : Oper} {a : Act} {Q : Exit → Act → World → Prop} (a0 w : World) (g0 : Grew a0 w) {m : Nat} [hm : SizeAt w m] (hgd : o.guard = none) (s x : Operand)
    (ho : o.op = .call { callee := .builtin .append, args := #[s, x], argTypes := #[95, 95] }) (v : Value) (l : List (Fin 256)) (hown : w.ownsRow a0.heap.size 101 1 v l.length (l.flatMap fdC)) (hs : a.eval s = v) (p : Fin 256) (ty : TypeId)
    (hx : a.eval x = .slice (some ⟨m, 0, none⟩) 1 1) (hn : l.length ≤ 1099511627776)
    (h : ∀ v' (y : Later a0), y.world.ownsRow a0.heap.size 101 1 v' (l ++ [p]).length ((l ++ [p]).flatMap fdC) → wpList Try.prog ops Q rest (a.put o.dst v') y.world) :
    wpList Try.prog ops Q (o :: rest) a (w.alloc (.cells #[.int .i64 ((p.val : Nat) : Int)] ty)) := by
  obtain rfl := hm.eq
  obtain ⟨i0, hi, hz0, hzz1, hzz2⟩ := info_parts infoFd
  refine wpList_append_own _ hgd s x 95 ho a0.heap.size 101 i0 _ 1 8 Try.underlying95 hi hz0 hzz1 hzz2 rfl (by decide) v _ _ hs (hown.alloc _) ⟨w.heap.size, 0, none⟩ 1 1 [.int .i64 ((p.val : Nat) : Int)] hx rfl (by simpa using cells_new w [.int .i64 ((p.val : Nat) : Int)] ty) (by simp [Value.oneCell']) (by simp [maxLen]; omega) (by omega) (by have := g0.size; simp; omega) ?_
  intro v' w1 hown' hgrow _
  obtain ⟨y, rfl⟩ := later_of (Grew.append (g0.alloc (.cells #[.int .i64 ((p.val : Nat) : Int)] ty)) (hown.alloc (.cells #[.int .i64 ((p.val : Nat) : Int)] ty)) (Nat.le_refl _) hgrow)
  refine h v' y ?_
  rw [List.length_append, List.flatMap_append]
  exact hown'
theorem fd_cell {w : World} {v : Value} {l : List (Fin 256)} (h : SlAt w v l.length (l.flatMap fdC)) (k : Nat) (hk : k < l.length) :
    ∃ b off cap, v = .slice (some ⟨b, off, none⟩) l.length cap ∧ BlockIn w b ∧ w.cell? ⟨b, off + k, none⟩ = some (.int .i64 ((l[k].val : Nat) : Int)) := by
  obtain ⟨ao, cap, rfl, hm, hc⟩ := h
  obtain ⟨b, off, rfl, hb, h1, -⟩ := SlAt.elem (f := fdC) (c := 1) (fun _ => rfl) (by omega) hc k hk
  refine ⟨b, off, cap, rfl, ⟨hb⟩, ?_⟩
  have := h1 _ rfl
  rwa [Nat.mul_one] at this
theorem ltFd (x y : Fin 256) : ltOf ordF x y = decide (keyN x.val < keyN y.val) := by
  unfold ltOf ordF
  have := ordN_lt x.val y.val x.isLt y.isLt
  by_cases h : keyN x.val < keyN y.val
  · rw [decide_eq_true h, decide_eq_true (this.2 h)]
  · rw [decide_eq_false h, decide_eq_false (fun h' => h (this.1 h'))]
theorem swoFd : Go.Sort.SWO (ltOf ordF) where
  irrefl x := by rw [ltFd]; simp
  trans x y z h1 h2 := by rw [ltFd] at *; simp at *; omega
  ntrans x y z h1 h2 := by rw [ltFd] at *; simp at *; omega
theorem sortFd_any (a0 w : World) (E : List (Fin 256)) (v : Value) (hown : w.ownsRow a0.heap.size 101 1 v E.length (E.flatMap fdC)) (hsz : E.length < 1152921504606846976) (g0 : Grew a0 w) :
    Calls Try.prog 71 #[v, .func (.func 72) #[] #[]] w fun e w' => e = .returned (.tuple #[]) ∧ Grew a0 w' ∧ ∃ d : List (Fin 256), d.Perm E ∧ (d.map Fin.val).Pairwise (fun a b => keyN a ≤ keyN b) ∧ SlAt w' v d.length (d.flatMap fdC) := by
  have h := sortRow_any Try.sortFound 1 Try.isAgg101 Try.sizeOf101 fdC (fun _ => rfl) fd_one ordF swoFd 72 (enters_of Try.func72 (by kernel_rfl) rfl) order_any a0 w E v 101 hown hsz g0
  refine Calls.mono (show Calls Try.prog 71 #[v, .func (.func 72) #[] #[]] w _ from h) ?_
  rintro e w' ⟨he, hg, d, hp, hs, hsl⟩
  refine ⟨he, hg, d, hp, ?_, hsl⟩
  rw [List.pairwise_map, List.pairwise_iff_getElem]
  intro i j hi hj hij
  have := hs i j hj hij
  rw [ltFd, decide_eq_false_iff_not] at this
  omega
/-- A function value that tells what p tells. -/
def PredFd (g : Nat) (lb : Array Value) (p : Nat → Bool) (w0 : World) : Prop := ∀ (w : World) (x : Nat), x < 256 → Grew w0 w → Calls Try.prog g (#[.agg #[.int .i64 x]] ++ lb) w fun e w' => e = .returned (.bool (p x)) ∧ Grew w w'
theorem idxFd_any (p : Nat → Bool) (g : Nat) (lb : Array Value) (eg : ∀ args w, (callFunc g args).run Try.prog w = .ok (.enter g args) w) (l : List (Fin 256)) (v : Value) (w : World) (h : SlAt w v l.length (l.flatMap fdC)) (hp : PredFd g lb p w) :
    Calls Try.prog 97 #[v, .func (.func g) #[] lb] w fun e w' => e = .returned (.int .i64 (idxGo (fun x : Fin 256 => p x.val) 0 l)) ∧ Grew w w' := by
  have HE := Lib.hid (fun k hk => fd_cell h k hk)
  obtain ⟨ao, cap, rfl, hm, hc⟩ := h
  unfold maxLen at hm
  have HP := Lib.hid hp
  clear hc hp
  go_enter Try.func97, Try.ntmps97
  go_wp2
  go_loopw [8] (fun t wr => ∃ k : Nat, t = .int .i64 k ∧ k ≤ l.length ∧ Hid (idxGo (fun x : Fin 256 => p x.val) 0 l = idxGo (fun x : Fin 256 => p x.val) k (l.drop k)) ∧ Grew w wr) (fun t _ => l.length - (intOf t).toNat)
  case atStart => exact ⟨0, rfl, by omega, Lib.hid rfl, (by repeat (first | with_reducible exact Grew.refl _ | with_reducible apply Grew.alloc | with_reducible apply Grew.later | with_reducible apply Grew.drew | with_reducible apply Grew.store | with_reducible assumption))⟩
  case round =>
    obtain ⟨k, rfl, hk, Hs, hg⟩ := hrel
    obtain ⟨x, rfl⟩ := later_of hg
    clear hg
    by_cases hlt : k < l.length
    · obtain ⟨b1, o1, c1, e1, i1, hd⟩ := HE.out k hlt
      cases e1
      have Hd := Lib.hid (idxGo_drop (fun x : Fin 256 => p x.val) l k hlt)
      have hy' := l[k].isLt
      generalize l[k] = yy at *
      obtain ⟨y, hyl⟩ := yy
      replace Hd : Hid (idxGo (fun x : Fin 256 => p x.val) k (l.drop k) = if p y = true then (k : Int) else idxGo (fun x : Fin 256 => p x.val) (k + 1) (l.drop (k + 1))) := Hd
      replace hd : w.cell? ⟨b1, o1 + k, none⟩ = some (.int .i64 ((y : Nat) : Int)) := hd
      cases hy : p y
      · have HC := Lib.hid (fun W h => is_bool hy (HP.out W y hyl h))
        have Hn := Lib.hid (Hs.out.trans (Hd.out.trans (by rw [hy])))
        clear hy
        go_wp2_with (first | (go_at_fn g; refine call_later (HC.out _ (by repeat (first | with_reducible exact Grew.refl _ | with_reducible apply Grew.alloc | with_reducible apply Grew.later | with_reducible apply Grew.drew | with_reducible apply Grew.store | with_reducible assumption))) ?_; intro u))
        go_roundw
        case rel => exact ⟨k + 1, by go_num, by omega, Hn, (by repeat (first | with_reducible exact Grew.refl _ | with_reducible apply Grew.alloc | with_reducible apply Grew.later | with_reducible apply Grew.drew | with_reducible apply Grew.store | with_reducible assumption))⟩
        case measure => simp [intOf]; omega
      · have HC := Lib.hid (fun W h => is_bool hy (HP.out W y hyl h))
        have Hn := Lib.hid (Hs.out.trans (Hd.out.trans (by rw [hy])))
        clear hy
        go_wp2_with (first | (go_at_fn g; refine call_later (HC.out _ (by repeat (first | with_reducible exact Grew.refl _ | with_reducible apply Grew.alloc | with_reducible apply Grew.later | with_reducible apply Grew.drew | with_reducible apply Grew.store | with_reducible assumption))) ?_; intro u))
        go_ret
        exact ⟨ret_int Hn.out.symm, (by repeat (first | with_reducible exact Grew.refl _ | with_reducible apply Grew.alloc | with_reducible apply Grew.later | with_reducible apply Grew.drew | with_reducible apply Grew.store | with_reducible assumption))⟩
    · have Hn := Lib.hid (Hs.out.trans (idxGo_end (fun x : Fin 256 => p x.val) l k (by omega)))
      go_wp2
      go_ret
      exact ⟨ret_int Hn.out.symm, (by repeat (first | with_reducible exact Grew.refl _ | with_reducible apply Grew.alloc | with_reducible apply Grew.later | with_reducible apply Grew.drew | with_reducible apply Grew.store | with_reducible assumption))⟩
theorem containsFd_any (p : Nat → Bool) (g : Nat) (lb : Array Value) (eg : ∀ args w, (callFunc g args).run Try.prog w = .ok (.enter g args) w) (l : List (Fin 256)) (v : Value) (w : World) (h : SlAt w v l.length (l.flatMap fdC)) (hp : PredFd g lb p w) :
    Calls Try.prog 73 #[v, .func (.func g) #[] lb] w fun e w' => e = .returned (.bool (l.any fun x => p x.val)) ∧ Grew w w' := by
  have hb := idxGo_any (fun x : Fin 256 => p x.val) l 0
  have hI := idxFd_any p g lb eg l v w h hp
  obtain ⟨ao, cap, rfl, -, -⟩ := h
  generalize idxGo (fun x : Fin 256 => p x.val) 0 l = z at *
  have H1 := Lib.hid hb.1
  have HI := Lib.hid hI
  clear hb hI
  go_enter Try.func73, Try.ntmps73
  go_wp2_with (first | (go_at_call 97; refine call_later HI.out ?_; intro u))
  go_ret
  exact ⟨ret_bool H1.out, (by repeat (first | with_reducible exact Grew.refl _ | with_reducible apply Grew.alloc | with_reducible apply Grew.later | with_reducible apply Grew.drew | with_reducible apply Grew.store | with_reducible assumption))⟩
theorem least1_any (y x : Nat) (hy : y < 256) (hx : x < 256) (b : Nat) (w : World) (hb : w.cell? ⟨b, 0, none⟩ = some (.int .i64 x)) : Calls Try.prog 74 #[.agg #[.int .i64 y], .pointer (some ⟨b, 0, none⟩)] w fun e w' => e = .returned (.bool (decide (subN y x))) ∧ Grew w w' := by
  have HW := Lib.hid (fun w' => maskWithin_any y x hy hx w')
  have bi : BlockIn w b := BlockIn.of_cell hb
  generalize decide (subN y x) = q at *
  go_enter Try.func74, Try.ntmps74
  go_wp2_with (first | (go_at_call 75; (with_reducible refine call_later (HW.out _) ?_); intro u) | ((with_reducible refine wp_region_later ?_ ?_ ?_); (· kernel_rfl); (· kernel_rfl); (repeat (go_big_quiet_step ((first | (go_at_call 75; (with_reducible exact call_quiet (HW.out _))))))); refine wpQuiet_nil ?_; rintro _ ⟨u, rfl⟩))
  go_ret
  exact ⟨rfl, (by repeat (first | with_reducible exact Grew.refl _ | with_reducible apply Grew.alloc | with_reducible apply Grew.later | with_reducible apply Grew.drew | with_reducible apply Grew.store | with_reducible assumption))⟩
end Go.Proofs.Ytgjikdhidakloaa
