/-
  Contracts: ullageref04's edges and Mixed.
-/
import Derived.Test.YtgjikdhidakloaaSetsOk
import Derived.Test.YtgjikdhidakloaaAppSl
import Derived.Test.YtgjikdhidakloaaInts
import Derived.Test.YtgjikdhidakloaaRow
import Derived.Deep.RegionHeld3
namespace Go.Proofs.Ytgjikdhidakloaa
open Go.RowKit
set_option maxRecDepth 100000
set_option maxHeartbeats 8000000
theorem endsL_take (l : List (Int × Int)) (k : Nat) (hk : k < l.length) : endsL (l.take (k + 1)) = endsL (l.take k) ++ [l[k].1, l[k].2] := by
  unfold endsL
  rw [List.take_succ_eq_append_getElem hk, List.flatMap_append]
  simp
theorem intC_two (l : List Int) (a b : Int) : l.flatMap intC ++ [.int .i64 a, .int .i64 b] = (l ++ [a, b]).flatMap intC := by simp [intC]
/-- An int is appended to a row of one's own: where the new slice lies. -/
theorem wpList_app_int3 {ops : Array Oper} {rest : List Oper} {o : Oper} {a : Act} {Q : Exit → Act → World → Prop} (w : World) (base : Nat) (hbase : base ≤ w.heap.size) {m : Nat} [hm : SizeAt w m] (hgd : o.guard = none) (s x : Operand)
    (ho : o.op = .call { callee := .builtin .append, args := #[s, x], argTypes := #[22, 22] }) (v : Value) (l : List Int) (hown : w.ownsRow base 3 1 v l.length (l.flatMap intC)) (hs : a.eval s = v) (k : Int) (ty : TypeId)
    (hx : a.eval x = .slice (some ⟨m, 0, none⟩) 1 1) (hn : l.length ≤ 1099511627776)
    (h : ∀ g n cap w', w'.ownsRow base 3 1 (.slice (some ⟨g, 0, none⟩) n cap) (l ++ [k]).length ((l ++ [k]).flatMap intC) → (w.alloc (.cells #[.int .i64 k] ty)).grownBy w' v.ownBlock → (v.ownBlock = some g ∨ g = m + 1) → n = l.length + 1 → wpList Try.prog ops Q rest (a.put o.dst (.slice (some ⟨g, 0, none⟩) n cap)) w') :
    wpList Try.prog ops Q (o :: rest) a (w.alloc (.cells #[.int .i64 k] ty)) := by
  obtain rfl := hm.eq
  obtain ⟨i0, hi, hz0, hzz1, hzz2⟩ := info_parts infoInt
  refine wpList_append_lies _ hgd s x 22 ho base 3 i0 (.int .i64 0) 1 8 Try.underlying22 hi hz0 hzz1 hzz2 rfl (by decide) v _ _ hs (hown.alloc _) ⟨w.heap.size, 0, none⟩ 1 1 [.int .i64 k] hx rfl (by simpa using cells_new w [.int .i64 k] ty) (by simp [Value.oneCell']) (by decide) (by simp [maxLen]; omega) (by omega) (by simp; omega) (w.heap.size + 1) (by simp) ?_
  intro g cap w1 hown' hgrow hat _
  refine h g _ cap w1 ?_ hgrow hat rfl
  rw [← intC_snoc, List.length_append]
  exact hown'
def blkOf : Value → Option Nat
  | .slice (some a) _ _ => some a.block
  | _ => none
/-- A slice does not lie in a row. -/
def Far (v r : Value) : Prop := ∀ b, blkOf v = some b → r.ownBlock ≠ some b
theorem SlAt.far {w w' : World} {v r : Value} {n : Nat} {xs : List Value} (h : SlAt w v n xs) (hf : Far v r) (g : w.grownBy w' r.ownBlock) : SlAt w' v n xs := by
  obtain ⟨ao, cap, rfl, h0, h2⟩ := h
  refine ⟨ao, cap, rfl, h0, fun i x hx => ?_⟩
  obtain ⟨c, off, rfl, h4⟩ := h2 i x hx
  exact ⟨c, off, rfl, by rw [g.cell_far _ (World.block_lt_of_cell? w _ h4) (fun e => hf c rfl e.symm), h4]⟩
def lenV : Value → Nat
  | .slice _ n _ => n
  | _ => 0
def capOk : Value → Prop
  | .slice _ n c => n ≤ c
  | _ => True
theorem owns_capOk {w : World} {base : Nat} {e : TypeId} {size : Nat} {v : Value} {n : Nat} {xs : List Value} (h : w.ownsRow base e size v n xs) : capOk v := by
  rcases h.2 with ⟨rfl, rfl⟩ | ⟨g, cap, cur, rfl, -, -, h2, -⟩
  · exact Nat.le_refl _
  · exact h2
theorem far_new {w : World} {base : Nat} {e : TypeId} {size : Nat} {v r : Value} {n : Nat} {xs : List Value} (h : w.ownsRow base e size v n xs) (hr : ∀ b, r.ownBlock = some b → b < base) : Far v r := by
  intro b hb hr2
  rcases h.2 with ⟨rfl, rfl⟩ | ⟨g, cap, cur, rfl, hg, -⟩
  · cases hb
  · cases hb
    have := hr _ hr2
    simp only at this
    omega
theorem one_ints (l : List Int) : ∀ u ∈ l.flatMap intC, u.oneCell' = true := by
  intro u hu
  obtain ⟨x, -, hx⟩ := List.mem_flatMap.1 hu
  simp [intC] at hx
  subst hx
  rfl
theorem ints_part {w : World} {b off cap n : Nat} {l : List Int} (h : SlAt w (.slice (some ⟨b, off, none⟩) n cap) n (l.flatMap intC)) (i m c : Nat) (hm : i + m ≤ n) : SlAt w (.slice (some ⟨b, off + i, none⟩) m c) m (((l.drop i).take m).flatMap intC) := by
  have key : ∀ (l : List Int) i m, (((l.flatMap intC).drop i).take m) = ((l.drop i).take m).flatMap intC := by
    intro l
    have e : l.flatMap intC = l.map (fun a => Value.int .i64 a) := by
      induction l with
      | nil => rfl
      | cons a l ih => rw [List.flatMap_cons, ih]; rfl
    intro i m
    have e2 : ∀ l : List Int, l.flatMap intC = l.map (fun a => Value.int .i64 a) := by
      intro l
      induction l with
      | nil => rfl
      | cons a l ih => rw [List.flatMap_cons, ih]; rfl
    rw [e2, e2, List.map_take, List.map_drop]
  rw [← key]
  exact h.part i m c hm
theorem r4Edges_any (A B : List (Int × Int)) (hA : A.length ≤ 60) (hB : B.length ≤ 60) (v1 v2 : Value) (w : World) (h1 : SlAt w v1 A.length (A.flatMap slC)) (h2 : SlAt w v2 B.length (B.flatMap slC)) : Calls Try.prog 49 #[v1, v2] w (RetInts (placesL A B) w) := by
  have HI1 := Lib.hid (fun k hk => sl_two h1 k hk)
  have HI2 := Lib.hid (fun k hk => sl_two h2 k hk)
  obtain ⟨ao1, cap1', rfl, hm1⟩ := sl2_form h1
  obtain ⟨ao2, cap2', rfl, hm2⟩ := sl2_form h2
  clear h1 h2
  go_enter Try.func49, Try.ntmps49
  go_wp2
  go_loopw [5, 6] (fun v t wr => ∃ (k : Nat) (v5 : Value), t = .int .i64 k ∧ v5 = v ∧ k ≤ A.length ∧ wr.ownsRow w.heap.size 3 1 v5 (id (endsL (A.take k))).length ((id (endsL (A.take k))).flatMap intC) ∧ Grew w wr) (fun _ t _ => A.length - (intOf t).toNat)
  case atStart => exact ⟨0, _, rfl, rfl, by omega, World.ownsRow_nil _ _ _ _, (by repeat (first | with_reducible exact Grew.refl _ | with_reducible apply Grew.alloc | with_reducible apply Grew.later | with_reducible apply Grew.drew | with_reducible apply Grew.store | with_reducible assumption))⟩
  case round =>
    obtain ⟨k, v5, rfl, rfl, hk, hown, hg⟩ := hrel
    obtain ⟨y, rfl⟩ := later_of hg
    clear hg
    by_cases hlt : k < A.length
    · skip
      obtain ⟨b1, o1, c1, e1, i1, hd1, hd2⟩ := HI1.out k hlt
      obtain ⟨rfl, rfl⟩ : ao1 = some ⟨b1, o1, none⟩ ∧ cap1' = c1 := by simpa using e1
      clear e1
      have Hs := Lib.hid (show id (endsL (A.take (k + 1))) = (id (endsL (A.take k))) ++ [A[k].1, A[k].2] by rw [endsL_take A k hlt]; first | rfl | rw [List.append_assoc])
      have hlen : (id (endsL (A.take k))).length ≤ 1000 := by simp [endsL_len]; omega
      have io : Own y.world w.heap.size 3 1 v5 (id (endsL (A.take k))).length ((id (endsL (A.take k))).flatMap intC) := ⟨hown⟩
      have hbase : w.heap.size ≤ y.world.heap.size := Below.size y.grew
      obtain ⟨i0, hi, hz0, hzz1, hzz2⟩ := info_parts infoInt
      generalize A[k].1 = a at *
      generalize A[k].2 = z at *
      generalize id (endsL (A.take k)) = xs at *
      generalize hn : xs.length = n at *
      have hm63 : n + 2 ≤ maxLen := by simp [maxLen]; omega
      have hm40 : (n + 2) * 8 ≤ 140737488355328 := by omega
      go_wp2
      go_region_held3 (fun w' => w'.cell? ⟨b1, o1 + k * 2, none⟩ = some (.int .i64 a) ∧ w'.cell? ⟨b1, o1 + k * 2 + 1, none⟩ = some (.int .i64 z))
        (exact ⟨by first | (go_simp; done) | exact hg1.cell hd1, by first | (go_simp; done) | exact hg1.cell hd2⟩)
        ((refine step_append_lies _ (by rfl) _ _ 22 (by rfl) w.heap.size 3 i0 _ 1 8 Try.underlying22 hi hz0 hzz1 hzz2 (by rfl) (by decide) v5 _ _ (by rfl) Own.is ⟨_, 0, none⟩ 2 2 [.int .i64 a, .int .i64 z] (by rfl) (by rfl) news_row (by simp [Value.oneCell']) (by decide) hm63 hm40 (Nat.le_trans hbase (by simp)) _ rfl ?_
          intro g1 cap1 w1 hown1 hgrow1 hat1 hlt1
          have hg1 : Grew w w1 := Grew.append (by repeat (first | with_reducible exact Grew.refl _ | with_reducible apply Grew.alloc | with_reducible apply Grew.later | with_reducible apply Grew.drew | with_reducible apply Grew.store | with_reducible assumption)) (Own.is (v := v5) (base := w.heap.size) (e := 3) (size := 1)) (Nat.le_refl _) hgrow1))
      all_goals go_wp2
      all_goals
        go_roundw
        case rel => exact ⟨k + 1, _, by go_num, rfl, by omega, by rw [Hs.out, ← intC_two, List.length_append, hn]; exact hown1, hg1⟩
        case measure => simp [intOf]; omega
    obtain rfl : k = A.length := by omega
    have HownA := Lib.hid hown
    rw [List.take_length] at HownA
    clear hown
    generalize v5 = vA at *
    go_wp2
    go_loopw [5, 7] (fun v t wr => ∃ (k : Nat) (v5 : Value), t = .int .i64 k ∧ v5 = v ∧ k ≤ B.length ∧ wr.ownsRow w.heap.size 3 1 v5 (endsL A ++ (endsL (B.take k))).length ((endsL A ++ (endsL (B.take k))).flatMap intC) ∧ Grew w wr) (fun _ t _ => B.length - (intOf t).toNat)
    case atStart => exact ⟨0, _, rfl, rfl, by omega, by simpa [endsL] using HownA.out, (by repeat (first | with_reducible exact Grew.refl _ | with_reducible apply Grew.alloc | with_reducible apply Grew.later | with_reducible apply Grew.drew | with_reducible apply Grew.store | with_reducible assumption))⟩
    case round =>
      obtain ⟨k, v5, rfl, rfl, hk, hown, hg⟩ := hrel
      obtain ⟨y, rfl⟩ := later_of hg
      clear hg
      by_cases hlt : k < B.length
      · skip
        obtain ⟨b1, o1, c1, e1, i1, hd1, hd2⟩ := HI2.out k hlt
        obtain ⟨rfl, rfl⟩ : ao2 = some ⟨b1, o1, none⟩ ∧ cap2' = c1 := by simpa using e1
        clear e1
        have Hs := Lib.hid (show endsL A ++ (endsL (B.take (k + 1))) = (endsL A ++ (endsL (B.take k))) ++ [B[k].1, B[k].2] by rw [endsL_take B k hlt]; first | rfl | rw [List.append_assoc])
        have hlen : (endsL A ++ (endsL (B.take k))).length ≤ 1000 := by simp [endsL_len]; omega
        have io : Own y.world w.heap.size 3 1 v5 (endsL A ++ (endsL (B.take k))).length ((endsL A ++ (endsL (B.take k))).flatMap intC) := ⟨hown⟩
        have hbase : w.heap.size ≤ y.world.heap.size := Below.size y.grew
        obtain ⟨i0, hi, hz0, hzz1, hzz2⟩ := info_parts infoInt
        generalize B[k].1 = a at *
        generalize B[k].2 = z at *
        generalize endsL A ++ (endsL (B.take k)) = xs at *
        generalize hn : xs.length = n at *
        have hm63 : n + 2 ≤ maxLen := by simp [maxLen]; omega
        have hm40 : (n + 2) * 8 ≤ 140737488355328 := by omega
        go_wp2
        go_region_held3 (fun w' => w'.cell? ⟨b1, o1 + k * 2, none⟩ = some (.int .i64 a) ∧ w'.cell? ⟨b1, o1 + k * 2 + 1, none⟩ = some (.int .i64 z))
          (exact ⟨by first | (go_simp; done) | exact hg1.cell hd1, by first | (go_simp; done) | exact hg1.cell hd2⟩)
          ((refine step_append_lies _ (by rfl) _ _ 22 (by rfl) w.heap.size 3 i0 _ 1 8 Try.underlying22 hi hz0 hzz1 hzz2 (by rfl) (by decide) v5 _ _ (by rfl) Own.is ⟨_, 0, none⟩ 2 2 [.int .i64 a, .int .i64 z] (by rfl) (by rfl) news_row (by simp [Value.oneCell']) (by decide) hm63 hm40 (Nat.le_trans hbase (by simp)) _ rfl ?_
            intro g1 cap1 w1 hown1 hgrow1 hat1 hlt1
            have hg1 : Grew w w1 := Grew.append (by repeat (first | with_reducible exact Grew.refl _ | with_reducible apply Grew.alloc | with_reducible apply Grew.later | with_reducible apply Grew.drew | with_reducible apply Grew.store | with_reducible assumption)) (Own.is (v := v5) (base := w.heap.size) (e := 3) (size := 1)) (Nat.le_refl _) hgrow1))
        all_goals go_wp2
        all_goals
          go_roundw
          case rel => exact ⟨k + 1, _, by go_num, rfl, by omega, by rw [Hs.out, ← intC_two, List.length_append, hn]; exact hown1, hg1⟩
          case measure => simp [intOf]; omega
      obtain rfl : k = B.length := by omega
      rw [List.take_length] at hown
      have hll : (endsL A ++ endsL B).length ≤ 240 := by simp [endsL_len]; omega
      have hsl := SlAt.of_owns hown
      have hco := owns_capOk hown
      clear hown
      have Hpl := Lib.hid (show placesL A B = selGo (endsL A ++ endsL B).length (endsL A ++ endsL B) [] from rfl)
      generalize endsL A ++ endsL B = l0 at *
      go_wp2
      go_loopw [5, 8] (fun v t wr => ∃ (l out : List Int) (v5 v8 : Value), v5 = v ∧ v8 = t ∧ l.length + out.length ≤ 240 ∧ lenV v5 = l.length ∧ SlAt wr v5 l.length (l.flatMap intC) ∧ wr.ownsRow w.heap.size 3 1 v8 out.length (out.flatMap intC) ∧ Far v5 v8 ∧ capOk v5 ∧ selGo l.length l out = placesL A B ∧ Grew w wr) (fun v _ _ => lenV v)
      case atStart => exact ⟨l0, [], v5, _, rfl, rfl, by simpa using hll, (by obtain ⟨_, _, rfl, -⟩ := hsl; rfl), hsl, World.ownsRow_nil _ _ _ _, (fun _ _ h => by cases h), hco, Hpl.out.symm, (by repeat (first | with_reducible exact Grew.refl _ | with_reducible apply Grew.alloc | with_reducible apply Grew.later | with_reducible apply Grew.drew | with_reducible apply Grew.store | with_reducible assumption))⟩
      case round =>
        obtain ⟨l, out, v5, v8, rfl, rfl, hlo, hlv, hsl, hown, hfar, hcap, hsel, hg⟩ := hrel
        obtain ⟨y2, rfl⟩ := later_of hg
        clear hg
        by_cases hl0 : l = []
        · subst hl0
          have Hr := Lib.hid (show out = placesL A B from hsel)
          have Hs := Lib.hid (SlAt.of_owns hown)
          obtain ⟨ao5, cap5, rfl, -⟩ := sl_form hsl
          simp only [List.length_nil] at *
          go_wp2
          go_ret
          exact ⟨_, rfl, by rw [← Hr.out]; exact Hs.out, (by repeat (first | with_reducible exact Grew.refl _ | with_reducible apply Grew.alloc | with_reducible apply Grew.later | with_reducible apply Grew.drew | with_reducible apply Grew.store | with_reducible assumption))⟩
        · have hlp : 0 < l.length := List.length_pos_iff.2 hl0
          have hlp' : (0 : Int) < l.length := by omega
          obtain ⟨b5, o5, c5, rfl, i5, hc0⟩ := int_cell hsl 0 hlp
          have HIl := Lib.hid (fun k hk => int_cell hsl k hk)
          have HSt := Lib.hid (selGo_step hl0 out)
          have Hsel := Lib.hid hsel
          clear hsel
          go_wp2
          go_loopw [9, 10] (fun v9 t wr => ∃ k : Nat, t = .int .i64 ((k : Int) + 1) ∧ v9 = .int .i64 (minN l (k + 1)) ∧ k + 1 ≤ l.length ∧ Grew y2.world wr) (fun _ t _ => l.length - (intOf t).toNat)
          case atStart => exact ⟨0, rfl, rfl, by omega, (by repeat (first | with_reducible exact Grew.refl _ | with_reducible apply Grew.alloc | with_reducible apply Grew.later | with_reducible apply Grew.drew | with_reducible apply Grew.store | with_reducible assumption))⟩
          case round =>
            obtain ⟨k, rfl, rfl, hk, hg⟩ := hrel
            obtain ⟨y3, rfl⟩ := later_of hg
            clear hg
            by_cases hlt : k + 1 < l.length
            · have hll := minN_lt l (k + 1) (by omega)
              obtain ⟨b1, o1, c1, e1, i1, hd1⟩ := HIl.out (k + 1) hlt
              obtain ⟨b2, o2, c2, e2, i2, hd2⟩ := HIl.out (minN l (k + 1)) (by omega)
              obtain ⟨⟨rfl, rfl⟩, rfl⟩ : (b5 = b1 ∧ o5 = o1) ∧ c5 = c1 := by simpa using e1
              obtain ⟨⟨rfl, rfl⟩, -⟩ : (b5 = b2 ∧ o5 = o2) ∧ c5 = c2 := by simpa using e2
              have hs : minN l (k + 1 + 1) = if l[k + 1] < l[minN l (k + 1)]'(by omega) then k + 1 else minN l (k + 1) := by
                rw [minN, if_neg (by omega), List.getElem?_eq_getElem hlt, List.getElem?_eq_getElem (by omega : minN l (k + 1) < l.length)]
                rfl
              have q1 : (k : Int) + 1 < l.length := by omega
              have q2 : minN l (k + 1) < l.length := by omega
              have q3 : (minN l (k + 1) : Int) < l.length := by omega
              clear e1 e2
              have Hs := Lib.hid hs
              clear hs
              generalize l[k + 1] = a at *
              generalize l[minN l (k + 1)] = b at *
              generalize minN l (k + 1) = j at *
              by_cases hab : a < b
              · have Hn := Lib.hid (show minN l (k + 1 + 1) = k + 1 by rw [Hs.out, if_pos hab])
                go_wp2_with (first | ((with_reducible refine wp_region_later ?_ ?_ ?_); (· kernel_rfl); (· kernel_rfl); (repeat (go_big_quiet_step (fail))); refine wpQuiet_nil ?_; rintro _ ⟨u, rfl⟩))
                all_goals
                  go_roundw
                  case rel => exact ⟨k + 1, by go_num, by rw [Hn.out]; rfl, by omega, (by repeat (first | with_reducible exact Grew.refl _ | with_reducible apply Grew.alloc | with_reducible apply Grew.later | with_reducible apply Grew.drew | with_reducible apply Grew.store | with_reducible assumption))⟩
                  case measure => simp [intOf]; omega
              · have Hn := Lib.hid (show minN l (k + 1 + 1) = j by rw [Hs.out, if_neg hab])
                go_wp2_with (first | ((with_reducible refine wp_region_later ?_ ?_ ?_); (· kernel_rfl); (· kernel_rfl); (repeat (go_big_quiet_step (fail))); refine wpQuiet_nil ?_; rintro _ ⟨u, rfl⟩))
                all_goals
                  go_roundw
                  case rel => exact ⟨k + 1, by go_num, by rw [Hn.out], by omega, (by repeat (first | with_reducible exact Grew.refl _ | with_reducible apply Grew.alloc | with_reducible apply Grew.later | with_reducible apply Grew.drew | with_reducible apply Grew.store | with_reducible assumption))⟩
                  case measure => simp [intOf]; omega
            · have hke : k + 1 = l.length := by omega
              have hk' : ¬ ((k : Int) + 1 < l.length) := by omega
              have hmi : minN l (k + 1) = minI l := by rw [hke]; rfl
              rw [hmi]
              have hmlt := minI_lt hl0
              obtain ⟨b1, o1, c1, e1, i1, hd1⟩ := HIl.out (minI l) hmlt
              obtain ⟨⟨rfl, rfl⟩, rfl⟩ : (b5 = b1 ∧ o5 = o1) ∧ c5 = c1 := by simpa using e1
              clear e1
              rw [← minV_is hl0] at hd1
              have hown3 := owns_grew hown y3.grew
              have hsl3 := hsl.grew y3.grew
              clear hmi
              have hw1 : IntKind.i64.wrap ((minI l : Int) + 1) = (minI l : Int) + 1 := by simp [IntKind.wrap, IntKind.bits, IntKind.signed]; omega
              have hx1 : (minI l : Int) < l.length := by omega
              have hx2 : (minI l : Int) + 1 ≤ l.length := by omega
              have hc5 : l.length ≤ c5 := hcap
              have hx3 : (minI l : Int) ≤ c5 := by omega
              have hx4 : (l.length : Int) ≤ c5 := by omega
              have hx5 : (0 : Int) ≤ (minI l : Int) + 1 := by omega
              have hx6 : ((minI l : Int) + 1).toNat = minI l + 1 := by omega
              have hx7 : (minI l : Int) + 1 ≤ c5 := by omega
              by_cases ho0 : out = []
              · subst ho0
                obtain ⟨ao8, c8, rfl⟩ := owns_form hown3
                have Hso := Lib.hid (show selOut [] (minV l) = [] ++ [minV l] from rfl)
                simp only [List.length_nil] at *
                generalize hmV : minV l = mv at *
                have hown3' : y3.world.ownsRow w.heap.size 3 1 (.slice ao8 0 c8) ([] : List Int).length (([] : List Int).flatMap intC) := hown3
                go_wp2_with (first | (at_builtin; go_loud (refine wpList_app_int3 _ w.heap.size (show Grew w _ from (by repeat (first | with_reducible exact Grew.refl _ | with_reducible apply Grew.alloc | with_reducible apply Grew.later | with_reducible apply Grew.drew | with_reducible apply Grew.store | with_reducible assumption))).size rfl _ _ rfl _ [] (owns_grew hown3' (by repeat (first | with_reducible exact Grew.refl _ | with_reducible apply Grew.alloc | with_reducible apply Grew.later | with_reducible apply Grew.drew | with_reducible apply Grew.store | with_reducible assumption))) rfl _ _ rfl (by simp) ?_; intro g8 n8 c9 w1 hown4 hgrow hat hn8; clear hn8; obtain ⟨z, rfl⟩ := later_of ((show Grew w _ from (by repeat (first | with_reducible exact Grew.refl _ | with_reducible apply Grew.alloc | with_reducible apply Grew.later | with_reducible apply Grew.drew | with_reducible apply Grew.store | with_reducible assumption))).grown hgrow (owns_base hown3')))) | ((with_reducible refine wp_region_later ?_ ?_ ?_); (· kernel_rfl); (· kernel_rfl); (repeat (go_big_quiet_step (fail))); refine wpQuiet_nil ?_; rintro _ ⟨u, rfl⟩))
                have hsl5 := (hsl3.grew (show Grew y3.world _ from (by repeat (first | with_reducible exact Grew.refl _ | with_reducible apply Grew.alloc | with_reducible apply Grew.later | with_reducible apply Grew.drew | with_reducible apply Grew.store | with_reducible assumption)))).far hfar hgrow
                have hown5 := hown4
                have hsp1 : ∀ W, Grew z.world W → SlAt W (.slice (some ⟨b5, o5, none⟩) (minI l) c5) (minI l) ((l.take (minI l)).flatMap intC) := fun W g => by
                  have := ints_part (hsl5.grew g) 0 (minI l) c5 (by omega)
                  simpa using this
                have hsp2 : ∀ W, Grew z.world W → SlAt W (.slice (some ⟨b5, o5 + (minI l + 1), none⟩) (l.length - (minI l + 1)) (c5 - (minI l + 1))) (l.length - (minI l + 1)) ((l.drop (minI l + 1)).flatMap intC) := fun W g => by
                  have := ints_part (hsl5.grew g) (minI l + 1) (l.length - (minI l + 1)) (c5 - (minI l + 1)) (by omega)
                  rwa [List.take_of_length_le (by simp)] at this
                have hel1 : ((l.take (minI l)).flatMap intC).length = minI l * 1 := by rw [intC_len, List.length_take]; omega
                have hel2 : ((l.drop (minI l + 1)).flatMap intC).length = (l.length - (minI l + 1)) * 1 := by rw [intC_len, List.length_drop]; omega
                have hone1 := one_ints (l.take (minI l))
                have hone2 := one_ints (l.drop (minI l + 1))
                have hmx1 : 0 + minI l ≤ maxLen := by simp [maxLen]; omega
                have hmx2 : 0 + minI l + (l.length - (minI l + 1)) ≤ maxLen := by simp [maxLen]; omega
                have hby1 : (0 + minI l) * 8 ≤ 140737488355328 := by omega
                have hby2 : (0 + minI l + (l.length - (minI l + 1))) * 8 ≤ 140737488355328 := by omega
                have Her := Lib.hid (show (l.eraseIdx (minI l)).flatMap intC = [] ++ (l.take (minI l)).flatMap intC ++ (l.drop (minI l + 1)).flatMap intC by rw [List.eraseIdx_eq_take_drop_succ, List.flatMap_append]; rfl)
                have Hel := Lib.hid (show (l.eraseIdx (minI l)).length = 0 + minI l + (l.length - (minI l + 1)) by rw [List.length_eraseIdx_of_lt hmlt]; omega)
                have Hel1 := Lib.hid (show (l.eraseIdx (minI l)).length + 1 = l.length by rw [List.length_eraseIdx_of_lt hmlt]; omega)
                have hbz : w.heap.size ≤ z.world.heap.size := z.grew.size
                have hsel5 := HSt.out.symm.trans Hsel.out
                rw [Hso.out] at hsel5
                have Hse := Lib.hid hsel5
                have Hb8 := Lib.hid (fun b (h : Value.ownBlock (.slice (some ⟨g8, 0, none⟩) n8 c9) = some b) => show b < z.world.heap.size from by
                  have : Own z.world w.heap.size 3 1 (.slice (some ⟨g8, 0, none⟩) n8 c9) _ _ := ⟨hown5⟩
                  exact own_lt (w := z.world) (base := w.heap.size) (e := 3) (size := 1) h)
                clear hsel5
                have hemp : ∀ W cap, c5 = minI l + 1 → SlAt W (.slice (some ⟨b5, o5, none⟩) (l.length - (minI l + 1)) cap) (l.length - (minI l + 1)) ((l.drop (minI l + 1)).flatMap intC) := fun W cap h => by
                  have e1 : l.length - (minI l + 1) = 0 := by omega
                  have e2 : l.drop (minI l + 1) = [] := List.drop_of_length_le (by omega)
                  rw [e1, e2]
                  exact SlAt.nil_at _ _ _
                generalize minI l = at0 at *
                by_cases hce : c5 = at0 + 1
                · have hlen5 : l.length = at0 + 1 := by omega
                  have hdn : l.drop (at0 + 1) = [] := List.drop_of_length_le (by omega)
                  have Hlen5 := Lib.hid hlen5
                  have Hdn := Lib.hid hdn
                  have hy1 : (at0 : Int) ≤ (at0 : Int) + 1 := by omega
                  subst hce
                  clear hsp2 hemp hx1 hx2 hx3 hx4 hx7 hel2 hone2 hmx2 hby2 hdn
                  go_wp2
                  go_region_held3 (fun _ => True) (exact trivial)
                    (first
                      | (refine step_app_sl z.world _ (by repeat (first | with_reducible exact Grew.refl _ | with_reducible apply Grew.alloc | with_reducible apply Grew.later | with_reducible apply Grew.drew | with_reducible apply Grew.store | with_reducible assumption)) (by rfl) _ _ 22 (by rfl) 3 1 8 (.int .i64 0) Try.underlying22 infoInt (by rfl) (by decide) _ 0 [] (by first | exact owns_new #[] 3 1 0 _ (Nat.le_refl _) (by simp [maxLen]) (by rfl) | exact (owns_new #[] 3 1 0 _ (Nat.le_refl _) (by simp [maxLen]) (by rfl)).drew) (by rfl) _ at0 _ (hsp1 _ (by repeat (first | with_reducible exact Grew.refl _ | with_reducible apply Grew.alloc | with_reducible apply Grew.later | with_reducible apply Grew.drew | with_reducible apply Grew.store | with_reducible assumption))) (by rfl) hel1 hone1 hmx1 hby1 ?_; intro aq cq z2 hown6)
                      | (go_loud (refine step_app_sl z.world _ (by repeat (first | with_reducible exact Grew.refl _ | with_reducible apply Grew.alloc | with_reducible apply Grew.later | with_reducible apply Grew.drew | with_reducible apply Grew.store | with_reducible assumption)) (by rfl) _ _ 22 (by rfl) 3 1 8 (.int .i64 0) Try.underlying22 infoInt (by rfl) (by decide) _ (0 + at0) _ hown6 (by rfl) _ 0 [] (SlAt.nil_at _ _ _) (by rfl) (by rfl) (fun u hu => by cases hu) hmx1 hby1 ?_; intro ar cr z3 hown7)))
                  all_goals
                    have h7 : z3.world.ownsRow z.world.heap.size 3 1 (.slice ar (l.eraseIdx at0).length cr) (l.eraseIdx at0).length ((l.eraseIdx at0).flatMap intC) := by
                      rw [Her.out, Hel.out, Hdn.out, show l.length - (at0 + 1) = 0 by have := Hlen5.out; omega]
                      exact hown7
                    go_wp2
                    go_roundw
                    case rel => exact ⟨l.eraseIdx at0, [] ++ [mv], .slice ar (l.eraseIdx at0).length cr, _, congrArg (fun n => Value.slice ar n cr) (by have := Hel1.out; have := Hlen5.out; omega), rfl, (by have := Hel1.out; have := hlo; simp only [List.length_append, List.length_singleton, List.length_nil] at *; omega), rfl, SlAt.of_owns h7, owns_grew hown5 z3.grew, far_new h7 Hb8.out, owns_capOk h7, Hse.out, (by repeat (first | with_reducible exact Grew.refl _ | with_reducible apply Grew.alloc | with_reducible apply Grew.later | with_reducible apply Grew.drew | with_reducible apply Grew.store | with_reducible assumption))⟩
                    case measure => simp [lenV]; have := Hel1.out; have := Hlen5.out; omega
                · go_wp2
                  go_region_held3 (fun _ => True) (exact trivial)
                    (first
                      | (refine step_app_sl z.world _ (by repeat (first | with_reducible exact Grew.refl _ | with_reducible apply Grew.alloc | with_reducible apply Grew.later | with_reducible apply Grew.drew | with_reducible apply Grew.store | with_reducible assumption)) (by rfl) _ _ 22 (by rfl) 3 1 8 (.int .i64 0) Try.underlying22 infoInt (by rfl) (by decide) _ 0 [] (by first | exact owns_new #[] 3 1 0 _ (Nat.le_refl _) (by simp [maxLen]) (by rfl) | exact (owns_new #[] 3 1 0 _ (Nat.le_refl _) (by simp [maxLen]) (by rfl)).drew) (by rfl) _ at0 _ (hsp1 _ (by repeat (first | with_reducible exact Grew.refl _ | with_reducible apply Grew.alloc | with_reducible apply Grew.later | with_reducible apply Grew.drew | with_reducible apply Grew.store | with_reducible assumption))) (by rfl) hel1 hone1 hmx1 hby1 ?_; intro aq cq z2 hown6)
                      | (go_loud (refine step_app_sl z.world _ (by repeat (first | with_reducible exact Grew.refl _ | with_reducible apply Grew.alloc | with_reducible apply Grew.later | with_reducible apply Grew.drew | with_reducible apply Grew.store | with_reducible assumption)) (by rfl) _ _ 22 (by rfl) 3 1 8 (.int .i64 0) Try.underlying22 infoInt (by rfl) (by decide) _ (0 + at0) _ hown6 (by rfl) _ (l.length - (at0 + 1)) _ (hsp2 _ (by repeat (first | with_reducible exact Grew.refl _ | with_reducible apply Grew.alloc | with_reducible apply Grew.later | with_reducible apply Grew.drew | with_reducible apply Grew.store | with_reducible assumption))) (by rfl) hel2 hone2 hmx2 hby2 ?_; intro ar cr z3 hown7)))
                  all_goals
                    have h7 : z3.world.ownsRow z.world.heap.size 3 1 (.slice ar (l.eraseIdx at0).length cr) (l.eraseIdx at0).length ((l.eraseIdx at0).flatMap intC) := by
                      rw [Her.out, Hel.out]
                      exact hown7
                    go_wp2
                    go_roundw
                    case rel => exact ⟨l.eraseIdx at0, [] ++ [mv], .slice ar (l.eraseIdx at0).length cr, _, congrArg (fun n => Value.slice ar n cr) (by have := Hel.out; omega), rfl, (by have := Hel1.out; have := hlo; simp only [List.length_append, List.length_singleton, List.length_nil] at *; omega), rfl, SlAt.of_owns h7, owns_grew hown5 z3.grew, far_new h7 Hb8.out, owns_capOk h7, Hse.out, (by repeat (first | with_reducible exact Grew.refl _ | with_reducible apply Grew.alloc | with_reducible apply Grew.later | with_reducible apply Grew.drew | with_reducible apply Grew.store | with_reducible assumption))⟩
                    case measure => simp [lenV]; omega
              · obtain ⟨out', x, rfl⟩ : ∃ out' x, out = out' ++ [x] := ⟨out.dropLast, out.getLast ho0, (List.dropLast_concat_getLast ho0).symm⟩
                obtain ⟨bo, oo, co, e8, io, hx⟩ := int_cell (SlAt.of_owns hown3) out'.length (by simp)
                have hxv : (out' ++ [x])[out'.length]'(by simp) = x := by simp
                rw [hxv] at hx
                have hol : (out' ++ [x]).length = out'.length + 1 := by simp
                have hown3' := hown3
                rw [e8] at hown3' hfar
                have e8' : v8 = .slice (some ⟨bo, oo, none⟩) (out'.length + 1) co := by rw [e8, hol]
                subst e8'
                rw [hol] at hfar
                have hown3'' : y3.world.ownsRow w.heap.size 3 1 (.slice (some ⟨bo, oo, none⟩) (out'.length + 1) co) (out' ++ [x]).length ((out' ++ [x]).flatMap intC) := hown3
                have hob : (out' ++ [x]).length ≤ 1099511627776 := by omega
                have hoz : (((out'.length : Int) + 1) == 0) = false := by rw [beq_eq_false_iff_ne]; omega
                by_cases hxm : x = minV l
                · have Hso := Lib.hid (show selOut (out' ++ [x]) (minV l) = out' ++ [x] from by unfold selOut; rw [if_pos (by simp [hxm])])
                  have hxm' : (x != minV l) = false := by simp [hxm]
                  clear hxm hown3' e8
                  generalize hmV : minV l = mv at *
                  go_wp2_with (first | ((with_reducible refine wp_region_later ?_ ?_ ?_); (· kernel_rfl); (· kernel_rfl); (repeat (go_big_quiet_step (fail))); refine wpQuiet_nil ?_; rintro _ ⟨u, rfl⟩))
                  obtain ⟨z, hz⟩ := later_of (show Grew w u.world from (by repeat (first | with_reducible exact Grew.refl _ | with_reducible apply Grew.alloc | with_reducible apply Grew.later | with_reducible apply Grew.drew | with_reducible apply Grew.store | with_reducible assumption)))
                  have hsl5 := hsl3.grew (show Grew y3.world z.world from by rw [← hz]; exact u.grew)
                  have hown5 : z.world.ownsRow w.heap.size 3 1 (.slice (some ⟨bo, oo, none⟩) (out'.length + 1) co) (out' ++ [x]).length ((out' ++ [x]).flatMap intC) := by rw [← hz]; exact owns_grew hown3'' u.grew
                  rw [hz]
                  clear hz
                  have hsp1 : ∀ W, Grew z.world W → SlAt W (.slice (some ⟨b5, o5, none⟩) (minI l) c5) (minI l) ((l.take (minI l)).flatMap intC) := fun W g => by
                    have := ints_part (hsl5.grew g) 0 (minI l) c5 (by omega)
                    simpa using this
                  have hsp2 : ∀ W, Grew z.world W → SlAt W (.slice (some ⟨b5, o5 + (minI l + 1), none⟩) (l.length - (minI l + 1)) (c5 - (minI l + 1))) (l.length - (minI l + 1)) ((l.drop (minI l + 1)).flatMap intC) := fun W g => by
                    have := ints_part (hsl5.grew g) (minI l + 1) (l.length - (minI l + 1)) (c5 - (minI l + 1)) (by omega)
                    rwa [List.take_of_length_le (by simp)] at this
                  have hel1 : ((l.take (minI l)).flatMap intC).length = minI l * 1 := by rw [intC_len, List.length_take]; omega
                  have hel2 : ((l.drop (minI l + 1)).flatMap intC).length = (l.length - (minI l + 1)) * 1 := by rw [intC_len, List.length_drop]; omega
                  have hone1 := one_ints (l.take (minI l))
                  have hone2 := one_ints (l.drop (minI l + 1))
                  have hmx1 : 0 + minI l ≤ maxLen := by simp [maxLen]; omega
                  have hmx2 : 0 + minI l + (l.length - (minI l + 1)) ≤ maxLen := by simp [maxLen]; omega
                  have hby1 : (0 + minI l) * 8 ≤ 140737488355328 := by omega
                  have hby2 : (0 + minI l + (l.length - (minI l + 1))) * 8 ≤ 140737488355328 := by omega
                  have Her := Lib.hid (show (l.eraseIdx (minI l)).flatMap intC = [] ++ (l.take (minI l)).flatMap intC ++ (l.drop (minI l + 1)).flatMap intC by rw [List.eraseIdx_eq_take_drop_succ, List.flatMap_append]; rfl)
                  have Hel := Lib.hid (show (l.eraseIdx (minI l)).length = 0 + minI l + (l.length - (minI l + 1)) by rw [List.length_eraseIdx_of_lt hmlt]; omega)
                  have Hel1 := Lib.hid (show (l.eraseIdx (minI l)).length + 1 = l.length by rw [List.length_eraseIdx_of_lt hmlt]; omega)
                  have hbz : w.heap.size ≤ z.world.heap.size := z.grew.size
                  have hsel5 := HSt.out.symm.trans Hsel.out
                  rw [Hso.out] at hsel5
                  have Hse := Lib.hid hsel5
                  have Hb8 := Lib.hid (fun b (h : Value.ownBlock (.slice (some ⟨bo, oo, none⟩) (out'.length + 1) co) = some b) => show b < z.world.heap.size from by
                    have : Own z.world w.heap.size 3 1 (.slice (some ⟨bo, oo, none⟩) (out'.length + 1) co) _ _ := ⟨hown5⟩
                    exact own_lt (w := z.world) (base := w.heap.size) (e := 3) (size := 1) h)
                  clear hsel5
                  have hemp : ∀ W cap, c5 = minI l + 1 → SlAt W (.slice (some ⟨b5, o5, none⟩) (l.length - (minI l + 1)) cap) (l.length - (minI l + 1)) ((l.drop (minI l + 1)).flatMap intC) := fun W cap h => by
                    have e1 : l.length - (minI l + 1) = 0 := by omega
                    have e2 : l.drop (minI l + 1) = [] := List.drop_of_length_le (by omega)
                    rw [e1, e2]
                    exact SlAt.nil_at _ _ _
                  generalize minI l = at0 at *
                  by_cases hce : c5 = at0 + 1
                  · have hlen5 : l.length = at0 + 1 := by omega
                    have hdn : l.drop (at0 + 1) = [] := List.drop_of_length_le (by omega)
                    have Hlen5 := Lib.hid hlen5
                    have Hdn := Lib.hid hdn
                    have hy1 : (at0 : Int) ≤ (at0 : Int) + 1 := by omega
                    subst hce
                    clear hsp2 hemp hx1 hx2 hx3 hx4 hx7 hel2 hone2 hmx2 hby2 hdn
                    go_wp2
                    go_region_held3 (fun _ => True) (exact trivial)
                      (first
                        | (refine step_app_sl z.world _ (by repeat (first | with_reducible exact Grew.refl _ | with_reducible apply Grew.alloc | with_reducible apply Grew.later | with_reducible apply Grew.drew | with_reducible apply Grew.store | with_reducible assumption)) (by rfl) _ _ 22 (by rfl) 3 1 8 (.int .i64 0) Try.underlying22 infoInt (by rfl) (by decide) _ 0 [] (by first | exact owns_new #[] 3 1 0 _ (Nat.le_refl _) (by simp [maxLen]) (by rfl) | exact (owns_new #[] 3 1 0 _ (Nat.le_refl _) (by simp [maxLen]) (by rfl)).drew) (by rfl) _ at0 _ (hsp1 _ (by repeat (first | with_reducible exact Grew.refl _ | with_reducible apply Grew.alloc | with_reducible apply Grew.later | with_reducible apply Grew.drew | with_reducible apply Grew.store | with_reducible assumption))) (by rfl) hel1 hone1 hmx1 hby1 ?_; intro aq cq z2 hown6)
                        | (go_loud (refine step_app_sl z.world _ (by repeat (first | with_reducible exact Grew.refl _ | with_reducible apply Grew.alloc | with_reducible apply Grew.later | with_reducible apply Grew.drew | with_reducible apply Grew.store | with_reducible assumption)) (by rfl) _ _ 22 (by rfl) 3 1 8 (.int .i64 0) Try.underlying22 infoInt (by rfl) (by decide) _ (0 + at0) _ hown6 (by rfl) _ 0 [] (SlAt.nil_at _ _ _) (by rfl) (by rfl) (fun u hu => by cases hu) hmx1 hby1 ?_; intro ar cr z3 hown7)))
                    all_goals
                      have h7 : z3.world.ownsRow z.world.heap.size 3 1 (.slice ar (l.eraseIdx at0).length cr) (l.eraseIdx at0).length ((l.eraseIdx at0).flatMap intC) := by
                        rw [Her.out, Hel.out, Hdn.out, show l.length - (at0 + 1) = 0 by have := Hlen5.out; omega]
                        exact hown7
                      go_wp2
                      go_roundw
                      case rel => exact ⟨l.eraseIdx at0, out' ++ [x], .slice ar (l.eraseIdx at0).length cr, _, congrArg (fun n => Value.slice ar n cr) (by have := Hel1.out; have := Hlen5.out; omega), rfl, (by have := Hel1.out; have := hlo; simp only [List.length_append, List.length_singleton] at *; omega), rfl, SlAt.of_owns h7, owns_grew hown5 z3.grew, far_new h7 Hb8.out, owns_capOk h7, Hse.out, (by repeat (first | with_reducible exact Grew.refl _ | with_reducible apply Grew.alloc | with_reducible apply Grew.later | with_reducible apply Grew.drew | with_reducible apply Grew.store | with_reducible assumption))⟩
                      case measure => simp [lenV]; have := Hel1.out; have := Hlen5.out; omega
                  · go_wp2
                    go_region_held3 (fun _ => True) (exact trivial)
                      (first
                        | (refine step_app_sl z.world _ (by repeat (first | with_reducible exact Grew.refl _ | with_reducible apply Grew.alloc | with_reducible apply Grew.later | with_reducible apply Grew.drew | with_reducible apply Grew.store | with_reducible assumption)) (by rfl) _ _ 22 (by rfl) 3 1 8 (.int .i64 0) Try.underlying22 infoInt (by rfl) (by decide) _ 0 [] (by first | exact owns_new #[] 3 1 0 _ (Nat.le_refl _) (by simp [maxLen]) (by rfl) | exact (owns_new #[] 3 1 0 _ (Nat.le_refl _) (by simp [maxLen]) (by rfl)).drew) (by rfl) _ at0 _ (hsp1 _ (by repeat (first | with_reducible exact Grew.refl _ | with_reducible apply Grew.alloc | with_reducible apply Grew.later | with_reducible apply Grew.drew | with_reducible apply Grew.store | with_reducible assumption))) (by rfl) hel1 hone1 hmx1 hby1 ?_; intro aq cq z2 hown6)
                        | (go_loud (refine step_app_sl z.world _ (by repeat (first | with_reducible exact Grew.refl _ | with_reducible apply Grew.alloc | with_reducible apply Grew.later | with_reducible apply Grew.drew | with_reducible apply Grew.store | with_reducible assumption)) (by rfl) _ _ 22 (by rfl) 3 1 8 (.int .i64 0) Try.underlying22 infoInt (by rfl) (by decide) _ (0 + at0) _ hown6 (by rfl) _ (l.length - (at0 + 1)) _ (hsp2 _ (by repeat (first | with_reducible exact Grew.refl _ | with_reducible apply Grew.alloc | with_reducible apply Grew.later | with_reducible apply Grew.drew | with_reducible apply Grew.store | with_reducible assumption))) (by rfl) hel2 hone2 hmx2 hby2 ?_; intro ar cr z3 hown7)))
                    all_goals
                      have h7 : z3.world.ownsRow z.world.heap.size 3 1 (.slice ar (l.eraseIdx at0).length cr) (l.eraseIdx at0).length ((l.eraseIdx at0).flatMap intC) := by
                        rw [Her.out, Hel.out]
                        exact hown7
                      go_wp2
                      go_roundw
                      case rel => exact ⟨l.eraseIdx at0, out' ++ [x], .slice ar (l.eraseIdx at0).length cr, _, congrArg (fun n => Value.slice ar n cr) (by have := Hel.out; omega), rfl, (by have := Hel1.out; have := hlo; simp only [List.length_append, List.length_singleton] at *; omega), rfl, SlAt.of_owns h7, owns_grew hown5 z3.grew, far_new h7 Hb8.out, owns_capOk h7, Hse.out, (by repeat (first | with_reducible exact Grew.refl _ | with_reducible apply Grew.alloc | with_reducible apply Grew.later | with_reducible apply Grew.drew | with_reducible apply Grew.store | with_reducible assumption))⟩
                      case measure => simp [lenV]; omega
                · have Hso := Lib.hid (show selOut (out' ++ [x]) (minV l) = out' ++ [x] ++ [minV l] from by unfold selOut; rw [if_neg (by simp [hxm])])
                  have hxm' : (x != minV l) = true := by simp [hxm]
                  clear hxm hown3' e8
                  generalize hmV : minV l = mv at *
                  go_wp2_with (first | (at_builtin; go_loud (refine wpList_app_int3 _ w.heap.size (show Grew w _ from (by repeat (first | with_reducible exact Grew.refl _ | with_reducible apply Grew.alloc | with_reducible apply Grew.later | with_reducible apply Grew.drew | with_reducible apply Grew.store | with_reducible assumption))).size rfl _ _ rfl _ (out' ++ [x]) (owns_grew hown3'' (by repeat (first | with_reducible exact Grew.refl _ | with_reducible apply Grew.alloc | with_reducible apply Grew.later | with_reducible apply Grew.drew | with_reducible apply Grew.store | with_reducible assumption))) rfl _ _ rfl hob ?_; intro g8 n8 c9 w1 hown4 hgrow hat hn8; clear hn8; obtain ⟨z, rfl⟩ := later_of ((show Grew w _ from (by repeat (first | with_reducible exact Grew.refl _ | with_reducible apply Grew.alloc | with_reducible apply Grew.later | with_reducible apply Grew.drew | with_reducible apply Grew.store | with_reducible assumption))).grown hgrow (owns_base hown3'')))) | ((with_reducible refine wp_region_later ?_ ?_ ?_); (· kernel_rfl); (· kernel_rfl); (repeat (go_big_quiet_step (fail))); refine wpQuiet_nil ?_; rintro _ ⟨u, rfl⟩))
                  have hsl5 := (hsl3.grew (show Grew y3.world _ from (by repeat (first | with_reducible exact Grew.refl _ | with_reducible apply Grew.alloc | with_reducible apply Grew.later | with_reducible apply Grew.drew | with_reducible apply Grew.store | with_reducible assumption)))).far hfar hgrow
                  have hown5 := hown4
                  have hsp1 : ∀ W, Grew z.world W → SlAt W (.slice (some ⟨b5, o5, none⟩) (minI l) c5) (minI l) ((l.take (minI l)).flatMap intC) := fun W g => by
                    have := ints_part (hsl5.grew g) 0 (minI l) c5 (by omega)
                    simpa using this
                  have hsp2 : ∀ W, Grew z.world W → SlAt W (.slice (some ⟨b5, o5 + (minI l + 1), none⟩) (l.length - (minI l + 1)) (c5 - (minI l + 1))) (l.length - (minI l + 1)) ((l.drop (minI l + 1)).flatMap intC) := fun W g => by
                    have := ints_part (hsl5.grew g) (minI l + 1) (l.length - (minI l + 1)) (c5 - (minI l + 1)) (by omega)
                    rwa [List.take_of_length_le (by simp)] at this
                  have hel1 : ((l.take (minI l)).flatMap intC).length = minI l * 1 := by rw [intC_len, List.length_take]; omega
                  have hel2 : ((l.drop (minI l + 1)).flatMap intC).length = (l.length - (minI l + 1)) * 1 := by rw [intC_len, List.length_drop]; omega
                  have hone1 := one_ints (l.take (minI l))
                  have hone2 := one_ints (l.drop (minI l + 1))
                  have hmx1 : 0 + minI l ≤ maxLen := by simp [maxLen]; omega
                  have hmx2 : 0 + minI l + (l.length - (minI l + 1)) ≤ maxLen := by simp [maxLen]; omega
                  have hby1 : (0 + minI l) * 8 ≤ 140737488355328 := by omega
                  have hby2 : (0 + minI l + (l.length - (minI l + 1))) * 8 ≤ 140737488355328 := by omega
                  have Her := Lib.hid (show (l.eraseIdx (minI l)).flatMap intC = [] ++ (l.take (minI l)).flatMap intC ++ (l.drop (minI l + 1)).flatMap intC by rw [List.eraseIdx_eq_take_drop_succ, List.flatMap_append]; rfl)
                  have Hel := Lib.hid (show (l.eraseIdx (minI l)).length = 0 + minI l + (l.length - (minI l + 1)) by rw [List.length_eraseIdx_of_lt hmlt]; omega)
                  have Hel1 := Lib.hid (show (l.eraseIdx (minI l)).length + 1 = l.length by rw [List.length_eraseIdx_of_lt hmlt]; omega)
                  have hbz : w.heap.size ≤ z.world.heap.size := z.grew.size
                  have hsel5 := HSt.out.symm.trans Hsel.out
                  rw [Hso.out] at hsel5
                  have Hse := Lib.hid hsel5
                  have Hb8 := Lib.hid (fun b (h : Value.ownBlock (.slice (some ⟨g8, 0, none⟩) n8 c9) = some b) => show b < z.world.heap.size from by
                    have : Own z.world w.heap.size 3 1 (.slice (some ⟨g8, 0, none⟩) n8 c9) _ _ := ⟨hown5⟩
                    exact own_lt (w := z.world) (base := w.heap.size) (e := 3) (size := 1) h)
                  clear hsel5
                  have hemp : ∀ W cap, c5 = minI l + 1 → SlAt W (.slice (some ⟨b5, o5, none⟩) (l.length - (minI l + 1)) cap) (l.length - (minI l + 1)) ((l.drop (minI l + 1)).flatMap intC) := fun W cap h => by
                    have e1 : l.length - (minI l + 1) = 0 := by omega
                    have e2 : l.drop (minI l + 1) = [] := List.drop_of_length_le (by omega)
                    rw [e1, e2]
                    exact SlAt.nil_at _ _ _
                  generalize minI l = at0 at *
                  by_cases hce : c5 = at0 + 1
                  · have hlen5 : l.length = at0 + 1 := by omega
                    have hdn : l.drop (at0 + 1) = [] := List.drop_of_length_le (by omega)
                    have Hlen5 := Lib.hid hlen5
                    have Hdn := Lib.hid hdn
                    have hy1 : (at0 : Int) ≤ (at0 : Int) + 1 := by omega
                    subst hce
                    clear hsp2 hemp hx1 hx2 hx3 hx4 hx7 hel2 hone2 hmx2 hby2 hdn
                    go_wp2
                    go_region_held3 (fun _ => True) (exact trivial)
                      (first
                        | (refine step_app_sl z.world _ (by repeat (first | with_reducible exact Grew.refl _ | with_reducible apply Grew.alloc | with_reducible apply Grew.later | with_reducible apply Grew.drew | with_reducible apply Grew.store | with_reducible assumption)) (by rfl) _ _ 22 (by rfl) 3 1 8 (.int .i64 0) Try.underlying22 infoInt (by rfl) (by decide) _ 0 [] (by first | exact owns_new #[] 3 1 0 _ (Nat.le_refl _) (by simp [maxLen]) (by rfl) | exact (owns_new #[] 3 1 0 _ (Nat.le_refl _) (by simp [maxLen]) (by rfl)).drew) (by rfl) _ at0 _ (hsp1 _ (by repeat (first | with_reducible exact Grew.refl _ | with_reducible apply Grew.alloc | with_reducible apply Grew.later | with_reducible apply Grew.drew | with_reducible apply Grew.store | with_reducible assumption))) (by rfl) hel1 hone1 hmx1 hby1 ?_; intro aq cq z2 hown6)
                        | (go_loud (refine step_app_sl z.world _ (by repeat (first | with_reducible exact Grew.refl _ | with_reducible apply Grew.alloc | with_reducible apply Grew.later | with_reducible apply Grew.drew | with_reducible apply Grew.store | with_reducible assumption)) (by rfl) _ _ 22 (by rfl) 3 1 8 (.int .i64 0) Try.underlying22 infoInt (by rfl) (by decide) _ (0 + at0) _ hown6 (by rfl) _ 0 [] (SlAt.nil_at _ _ _) (by rfl) (by rfl) (fun u hu => by cases hu) hmx1 hby1 ?_; intro ar cr z3 hown7)))
                    all_goals
                      have h7 : z3.world.ownsRow z.world.heap.size 3 1 (.slice ar (l.eraseIdx at0).length cr) (l.eraseIdx at0).length ((l.eraseIdx at0).flatMap intC) := by
                        rw [Her.out, Hel.out, Hdn.out, show l.length - (at0 + 1) = 0 by have := Hlen5.out; omega]
                        exact hown7
                      go_wp2
                      go_roundw
                      case rel => exact ⟨l.eraseIdx at0, out' ++ [x] ++ [mv], .slice ar (l.eraseIdx at0).length cr, _, congrArg (fun n => Value.slice ar n cr) (by have := Hel1.out; have := Hlen5.out; omega), rfl, (by have := Hel1.out; have := hlo; simp only [List.length_append, List.length_singleton] at *; omega), rfl, SlAt.of_owns h7, owns_grew hown5 z3.grew, far_new h7 Hb8.out, owns_capOk h7, Hse.out, (by repeat (first | with_reducible exact Grew.refl _ | with_reducible apply Grew.alloc | with_reducible apply Grew.later | with_reducible apply Grew.drew | with_reducible apply Grew.store | with_reducible assumption))⟩
                      case measure => simp [lenV]; have := Hel1.out; have := Hlen5.out; omega
                  · go_wp2
                    go_region_held3 (fun _ => True) (exact trivial)
                      (first
                        | (refine step_app_sl z.world _ (by repeat (first | with_reducible exact Grew.refl _ | with_reducible apply Grew.alloc | with_reducible apply Grew.later | with_reducible apply Grew.drew | with_reducible apply Grew.store | with_reducible assumption)) (by rfl) _ _ 22 (by rfl) 3 1 8 (.int .i64 0) Try.underlying22 infoInt (by rfl) (by decide) _ 0 [] (by first | exact owns_new #[] 3 1 0 _ (Nat.le_refl _) (by simp [maxLen]) (by rfl) | exact (owns_new #[] 3 1 0 _ (Nat.le_refl _) (by simp [maxLen]) (by rfl)).drew) (by rfl) _ at0 _ (hsp1 _ (by repeat (first | with_reducible exact Grew.refl _ | with_reducible apply Grew.alloc | with_reducible apply Grew.later | with_reducible apply Grew.drew | with_reducible apply Grew.store | with_reducible assumption))) (by rfl) hel1 hone1 hmx1 hby1 ?_; intro aq cq z2 hown6)
                        | (go_loud (refine step_app_sl z.world _ (by repeat (first | with_reducible exact Grew.refl _ | with_reducible apply Grew.alloc | with_reducible apply Grew.later | with_reducible apply Grew.drew | with_reducible apply Grew.store | with_reducible assumption)) (by rfl) _ _ 22 (by rfl) 3 1 8 (.int .i64 0) Try.underlying22 infoInt (by rfl) (by decide) _ (0 + at0) _ hown6 (by rfl) _ (l.length - (at0 + 1)) _ (hsp2 _ (by repeat (first | with_reducible exact Grew.refl _ | with_reducible apply Grew.alloc | with_reducible apply Grew.later | with_reducible apply Grew.drew | with_reducible apply Grew.store | with_reducible assumption))) (by rfl) hel2 hone2 hmx2 hby2 ?_; intro ar cr z3 hown7)))
                    all_goals
                      have h7 : z3.world.ownsRow z.world.heap.size 3 1 (.slice ar (l.eraseIdx at0).length cr) (l.eraseIdx at0).length ((l.eraseIdx at0).flatMap intC) := by
                        rw [Her.out, Hel.out]
                        exact hown7
                      go_wp2
                      go_roundw
                      case rel => exact ⟨l.eraseIdx at0, out' ++ [x] ++ [mv], .slice ar (l.eraseIdx at0).length cr, _, congrArg (fun n => Value.slice ar n cr) (by have := Hel.out; omega), rfl, (by have := Hel1.out; have := hlo; simp only [List.length_append, List.length_singleton] at *; omega), rfl, SlAt.of_owns h7, owns_grew hown5 z3.grew, far_new h7 Hb8.out, owns_capOk h7, Hse.out, (by repeat (first | with_reducible exact Grew.refl _ | with_reducible apply Grew.alloc | with_reducible apply Grew.later | with_reducible apply Grew.drew | with_reducible apply Grew.store | with_reducible assumption))⟩
                      case measure => simp [lenV]; omega
end Go.Proofs.Ytgjikdhidakloaa
