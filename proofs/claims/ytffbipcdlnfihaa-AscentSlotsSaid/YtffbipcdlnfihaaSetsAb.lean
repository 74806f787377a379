/-
  Contract: ascent.sweep.
-/
import Derived.Test.YtffbipcdlnfihaaSetsCmp
import Derived.LoopN
namespace Go.Proofs.Ytffbipcdlnfihaa
open Go.RowKit
set_option maxRecDepth 100000
set_option maxHeartbeats 8000000
theorem infoEd : (Try.prog.info? 95).map (fun i => (i.zero, i.size, i.bytes)) = some (some (.agg #[.int .i64 0, .int .i64 0, .bool false]), 3, 24) := by kernel_rfl
theorem edges1_take (of : Int) (l : List (Int × Int)) (k : Nat) (hk : k < l.length) : edges1 of (l.take (k + 1)) = edges1 of (l.take k) ++ [(l[k].1, of, true), (l[k].2, of, false)] := by
  unfold edges1
  rw [List.take_succ_eq_append_getElem hk, List.flatMap_append]
  simp
theorem edges1_len (of : Int) (l : List (Int × Int)) : (edges1 of l).length = 2 * l.length := by
  induction l with
  | nil => rfl
  | cons s l ih =>
    unfold edges1 at *
    rw [List.flatMap_cons, List.length_append, ih]
    simp
    omega
/-- Two edges are appended. -/
theorem wpList_app_edge {ops : Array Oper} {rest : List Oper} {o : Oper} {a : Act} {Q : Exit → Act → World → Prop} (a0 w : World) (g0 : Grew a0 w) {m : Nat} [hm : SizeAt w m] (hgd : o.guard = none) (s x : Operand)
    (ho : o.op = .call { callee := .builtin .append, args := #[s, x], argTypes := #[93, 93] }) (v : Value) (l : List Edge) (hown : w.ownsRow a0.heap.size 95 3 v l.length (l.flatMap encE)) (hs : a.eval s = v) (p q : Edge) (ty : TypeId)
    (hx : a.eval x = .slice (some ⟨m, 0, none⟩) 2 2) (hn : l.length ≤ 1099511627776)
    (h : ∀ v' (y : Later a0), y.world.ownsRow a0.heap.size 95 3 v' (l ++ [p, q]).length ((l ++ [p, q]).flatMap encE) → wpList Try.prog ops Q rest (a.put o.dst v') y.world) :
    wpList Try.prog ops Q (o :: rest) a (w.alloc (.cells #[.int .i64 p.1, .int .i64 p.2.1, .bool p.2.2, .int .i64 q.1, .int .i64 q.2.1, .bool q.2.2] ty)) := by
  obtain rfl := hm.eq
  obtain ⟨i0, hi, hz0, hzz1, hzz2⟩ := info_parts infoEd
  refine wpList_append_own _ hgd s x 93 ho a0.heap.size 95 i0 _ 3 24 Try.underlying93 hi hz0 hzz1 hzz2 rfl (by decide) v _ _ hs (hown.alloc _) ⟨w.heap.size, 0, none⟩ 2 2 [.int .i64 p.1, .int .i64 p.2.1, .bool p.2.2, .int .i64 q.1, .int .i64 q.2.1, .bool q.2.2] hx rfl (by simpa using cells_new w [.int .i64 p.1, .int .i64 p.2.1, .bool p.2.2, .int .i64 q.1, .int .i64 q.2.1, .bool q.2.2] ty) (by simp [Value.oneCell']) (by simp [maxLen]; omega) (by omega) (by have := g0.size; simp; omega) ?_
  intro v' w1 hown' hgrow _
  obtain ⟨y, rfl⟩ := later_of (Grew.append (g0.alloc (.cells #[.int .i64 p.1, .int .i64 p.2.1, .bool p.2.2, .int .i64 q.1, .int .i64 q.2.1, .bool q.2.2] ty)) (hown.alloc (.cells #[.int .i64 p.1, .int .i64 p.2.1, .bool p.2.2, .int .i64 q.1, .int .i64 q.2.1, .bool q.2.2] ty)) (Nat.le_refl _) hgrow)
  refine h v' y ?_
  rw [List.length_append, List.flatMap_append]
  exact hown'
theorem sl_edge {w : World} {v : Value} {l : List Edge} (h : SlAt w v l.length (l.flatMap encE)) (k : Nat) (hk : k < l.length) :
    ∃ b off cap, v = .slice (some ⟨b, off, none⟩) l.length cap ∧ BlockIn w b ∧ w.cell? ⟨b, off + k * 3, none⟩ = some (.int .i64 l[k].1) ∧ w.cell? ⟨b, off + k * 3 + 1, none⟩ = some (.int .i64 l[k].2.1) ∧ w.cell? ⟨b, off + k * 3 + 2, none⟩ = some (.bool l[k].2.2) := by
  obtain ⟨ao, cap, rfl, hm, hc⟩ := h
  obtain ⟨b, off, rfl, hb, h1, h2⟩ := SlAt.elem (f := encE) (c := 3) (fun _ => rfl) (by omega) hc k hk
  exact ⟨b, off, cap, rfl, ⟨hb⟩, h1 _ rfl, h2 1 _ rfl, h2 2 _ rfl⟩
/-- A function of two facts. -/
def FactOk (g : Nat) (is : Bool → Bool → Bool) : Prop := ∀ (x y : Bool) (w : World), Calls Try.prog g #[.bool x, .bool y] w fun e w' => e = .returned (.bool (is x y)) ∧ Grew w w'
theorem stI_open (d : List Edge) (is : Bool → Bool → Bool) (i : Nat) : (stI d is i).2 = true → ∃ M q, (stI d is i).1 = M ++ [q] := by
  induction i with
  | zero => intro h; cases h
  | succ i ih =>
    unfold stI
    split
    · unfold stepW
      intro h
      simp only at h
      rw [h]
      by_cases h2 : (stI d is i).2 = false
      · exact ⟨(stI d is i).1, ((d[i]?.getD (0, 0, false)).1, 0), by simp [h2]⟩
      · obtain ⟨M, q, hM⟩ := ih (by simpa using h2)
        refine ⟨M, q, ?_⟩
        simp [h2, hM]
    · exact ih
theorem stI_len (d : List Edge) (is : Bool → Bool → Bool) (i : Nat) : (stI d is i).1.length ≤ i := by
  induction i with
  | zero => simp [stI]
  | succ i ih =>
    unfold stI
    split
    · unfold stepW
      simp only
      split
      · simp; omega
      · split
        · unfold setLast
          split
          · simp
          · rename_i x r h
            have : (stI d is i).1.length = r.length + 1 := by rw [← List.length_reverse, h]; simp
            simp
            omega
        · omega
    · omega
theorem stI_last (d : List Edge) (is : Bool → Bool → Bool) (i : Nat) (hi : i < d.length) (h : lastB d i = true) {x0 x1 : Bool} (h0 : onOf (d.take (i + 1)) 0 = x0) (h1 : onOf (d.take (i + 1)) 1 = x1) : stI d is (i + 1) = stepW (stI d is i) d[i].1 (is x0 x1) := by
  rw [stI, if_pos h, h0, h1, List.getElem?_eq_getElem hi]
  rfl
theorem stI_more (d : List Edge) (is : Bool → Bool → Bool) (i : Nat) (h : lastB d i = false) : stI d is (i + 1) = stI d is i := by
  rw [stI, if_neg (by rw [h]; simp)]
theorem onOf_succ (d : List Edge) (of : Int) (i : Nat) (hi : i < d.length) : onOf (d.take (i + 1)) of = if d[i].2.1 = of then d[i].2.2 else onOf (d.take i) of := by
  rw [List.take_succ_eq_append_getElem hi, onOf_snoc]
theorem lastB_end (d : List Edge) (i : Nat) (h : i + 1 = d.length) : lastB d i = true := by simp [lastB, h]
theorem lastB_is (d : List Edge) (i : Nat) (h : i + 1 < d.length) : lastB d i = decide (d[i + 1].1 ≠ d[i].1) := by
  unfold lastB
  simp [h, show i < d.length by omega, show ¬ (i + 1 = d.length) by omega]
/-- A slot is appended to a row of one's own: where the new slice lies. -/
theorem wpList_app_slot {ops : Array Oper} {rest : List Oper} {o : Oper} {a : Act} {Q : Exit → Act → World → Prop} (w : World) (base : Nat) (hbase : base ≤ w.heap.size) {m : Nat} [hm : SizeAt w m] (hgd : o.guard = none) (s x : Operand)
    (ho : o.op = .call { callee := .builtin .append, args := #[s, x], argTypes := #[31, 31] }) (v : Value) (l : List (Int × Int)) (hown : w.ownsRow base 66 2 v l.length (l.flatMap slC)) (hs : a.eval s = v) (p z : Int) (ty : TypeId)
    (hx : a.eval x = .slice (some ⟨m, 0, none⟩) 1 1) (hn : l.length ≤ 1099511627776)
    (h : ∀ g n cap w', w'.ownsRow base 66 2 (.slice (some ⟨g, 0, none⟩) n cap) (l ++ [(p, z)]).length ((l ++ [(p, z)]).flatMap slC) → (w.alloc (.cells #[.int .i64 p, .int .i64 z] ty)).grownBy w' v.ownBlock → (v.ownBlock = some g ∨ g = (w.alloc (.cells #[.int .i64 p, .int .i64 z] ty)).heap.size) → wpList Try.prog ops Q rest (a.put o.dst (.slice (some ⟨g, 0, none⟩) n cap)) w') :
    wpList Try.prog ops Q (o :: rest) a (w.alloc (.cells #[.int .i64 p, .int .i64 z] ty)) := by
  obtain rfl := hm.eq
  obtain ⟨i0, hi, hz0, hzz1, hzz2⟩ := info_parts infoSl2
  refine wpList_append_lies _ hgd s x 31 ho base 66 i0 _ 2 16 Try.underlying31 hi hz0 hzz1 hzz2 rfl (by decide) v _ _ hs (hown.alloc _) ⟨w.heap.size, 0, none⟩ 1 1 [.int .i64 p, .int .i64 z] hx rfl (by simpa using cells_new w [.int .i64 p, .int .i64 z] ty) (by simp [Value.oneCell']) (by decide) (by simp [maxLen]; omega) (by omega) (by simp; omega) _ rfl ?_
  intro g cap w1 hown' hgrow hat _
  refine h g _ cap w1 ?_ hgrow hat
  rw [← slC_snoc, List.length_append]
  exact hown'
theorem BoxAt.grewS {w w' : World} {b : Nat} {cs : List Value} (h : BoxAt w b cs) (g : Grew w w') : BoxAt w' b cs := fun i x hx => by
  obtain ⟨h1, h2⟩ := h i x hx
  have hl := World.block_lt_of_cell? w _ h1
  exact ⟨g.cell h1, by rw [Below.frozen g hl, h2]⟩
theorem boxAt_setFar {w : World} {b c j : Nat} {x : Value} {cs : List Value} (h : BoxAt w b cs) (hne : c ≠ b) : BoxAt (w.setCell ⟨c, j, none⟩ x) b cs := fun i y hy => by
  obtain ⟨h1, h2⟩ := h i y hy
  exact ⟨by rw [World.cell?_setCell_other _ _ _ _ (by intro e; injection e with e1; exact hne e1), h1], by rw [World.frozen?_setCell, h2]⟩
theorem abSweep_any (g : Nat) (is : Bool → Bool → Bool) (hg : FactOk g is) (his : is false false = false) (eg : ∀ args w, (callFunc g args).run Try.prog w = .ok (.enter g args) w) (A B : List (Int × Int)) (hA : A.length ≤ 60) (hB : B.length ≤ 60) (sA : setB A = true) (sB : setB B = true) (v1 v2 : Value) (w : World)
    (h1 : SlAt w v1 A.length (A.flatMap slC)) (h2 : SlAt w v2 B.length (B.flatMap slC)) : Calls Try.prog 36 #[.agg #[v1, v2], .func (.func g) #[] #[]] w (fun e w' => ∃ v, e = .returned v ∧ SlAt w' v (mixL is A B).length ((mixL is A B).flatMap slC) ∧ Grew w w') := by
  have HI1 := Lib.hid (fun k hk => sl_two h1 k hk)
  have HI2 := Lib.hid (fun k hk => sl_two h2 k hk)
  obtain ⟨ao1, cap1', rfl, hm1⟩ := sl2_form h1
  obtain ⟨ao2, cap2', rfl, hm2⟩ := sl2_form h2
  clear h1 h2
  go_enter Try.func36, Try.ntmps36
  have hix0 : ∀ W, (Instr.index 79 (.agg #[.slice ao1 A.length cap1', .slice ao2 B.length cap2']) (.int .i64 0)).run Try.prog W = .ok (.slice ao1 A.length cap1') W := fun W => by rfl
  have hix1 : ∀ W, (Instr.index 79 (.agg #[.slice ao1 A.length cap1', .slice ao2 B.length cap2']) (.int .i64 1)).run Try.prog W = .ok (.slice ao2 B.length cap2') W := fun W => by rfl
  go_wp2
  refine wp_to_later (z := w) gw ?_
  intro y0 hy0
  clear hy0
  refine wp_loop_rounds 3 ?_
  rw [rounds_succ]
  go_wp2
  go_loopw [5, 23] (fun v t wr => ∃ (k : Nat) (v5 : Value), t = .int .i64 k ∧ v5 = v ∧ k ≤ A.length ∧ wr.ownsRow y0.world.heap.size 95 3 v5 (([] : List Edge) ++ edges1 0 (A.take k)).length ((([] : List Edge) ++ edges1 0 (A.take k)).flatMap encE) ∧ Grew y0.world wr) (fun _ t _ => A.length - (intOf t).toNat)
  case atStart => exact ⟨0, _, rfl, rfl, by omega, World.ownsRow_nil _ _ _ _, gw⟩
  case round =>
    obtain ⟨k, v5, rfl, rfl, hk, hown, hg⟩ := hrel
    obtain ⟨y, rfl⟩ := later_of hg
    clear hg
    by_cases hlt : k < A.length
    · skip
      obtain ⟨b1, o1, c1, e1, i1, hd1, hd2⟩ := HI1.out k hlt
      obtain ⟨rfl, rfl⟩ : ao1 = some ⟨b1, o1, none⟩ ∧ cap1' = c1 := by simpa using e1
      clear e1
      have Hs := Lib.hid (show ([] : List Edge) ++ edges1 0 (A.take (k + 1)) = (([] : List Edge) ++ edges1 0 (A.take k)) ++ [(A[k].1, 0, true), (A[k].2, 0, false)] by rw [edges1_take 0 A k hlt]; first | rfl | rw [List.append_assoc])
      have hlen : (([] : List Edge) ++ edges1 0 (A.take k)).length ≤ 1099511627776 := by simp [edges1_len]; omega
      generalize A[k].1 = a at *
      generalize A[k].2 = z at *
      generalize ([] : List Edge) ++ edges1 0 (A.take k) = xs at *
      go_wp2_with (at_builtin; go_loud (refine wpList_app_edge y0.world _ gw rfl _ _ rfl _ xs (hown.alloc _) rfl (a, 0, true) (z, 0, false) _ rfl hlen ?_; intro v' y1 hown'))
      go_roundw
      case rel => exact ⟨k + 1, _, by go_num, rfl, by omega, by rw [Hs.out]; exact hown', gw⟩
      case measure => simp [intOf]; omega
    obtain rfl : k = A.length := by omega
    rw [List.take_length] at hown
    have HownA := Lib.hid hown
    clear hown
    generalize v5 = vA at *
    go_wp2
    rw [rounds_succ]
    go_wp2
    go_loopw [5, 23] (fun v t wr => ∃ (k : Nat) (v5 : Value), t = .int .i64 k ∧ v5 = v ∧ k ≤ B.length ∧ wr.ownsRow y0.world.heap.size 95 3 v5 (edges1 0 A ++ edges1 1 (B.take k)).length ((edges1 0 A ++ edges1 1 (B.take k)).flatMap encE) ∧ Grew y0.world wr) (fun _ t _ => B.length - (intOf t).toNat)
    case atStart => exact ⟨0, _, rfl, rfl, by omega, by simpa [edges1] using HownA.out, gw⟩
    case round =>
      obtain ⟨k, v5, rfl, rfl, hk, hown, hg⟩ := hrel
      obtain ⟨y, rfl⟩ := later_of hg
      clear hg
      by_cases hlt : k < B.length
      · skip
        obtain ⟨b1, o1, c1, e1, i1, hd1, hd2⟩ := HI2.out k hlt
        obtain ⟨rfl, rfl⟩ : ao2 = some ⟨b1, o1, none⟩ ∧ cap2' = c1 := by simpa using e1
        clear e1
        have Hs := Lib.hid (show edges1 0 A ++ edges1 1 (B.take (k + 1)) = (edges1 0 A ++ edges1 1 (B.take k)) ++ [(B[k].1, 1, true), (B[k].2, 1, false)] by rw [edges1_take 1 B k hlt]; first | rfl | rw [List.append_assoc])
        have hlen : (edges1 0 A ++ edges1 1 (B.take k)).length ≤ 1099511627776 := by simp [edges1_len]; omega
        generalize B[k].1 = a at *
        generalize B[k].2 = z at *
        generalize edges1 0 A ++ edges1 1 (B.take k) = xs at *
        go_wp2_with (at_builtin; go_loud (refine wpList_app_edge y0.world _ gw rfl _ _ rfl _ xs (hown.alloc _) rfl (a, 1, true) (z, 1, false) _ rfl hlen ?_; intro v' y1 hown'))
        go_roundw
        case rel => exact ⟨k + 1, _, by go_num, rfl, by omega, by rw [Hs.out]; exact hown', gw⟩
        case measure => simp [intOf]; omega
      obtain rfl : k = B.length := by omega
      rw [List.take_length] at hown
      have hown' : y.world.ownsRow y0.world.heap.size 95 3 v5 (edgesL A B).length ((edgesL A B).flatMap encE) := hown
      have hel : (edgesL A B).length ≤ 240 := by unfold edgesL; rw [List.length_append, edges1_len, edges1_len]; omega
      have HS := Lib.hid (sortEdges_any y0.world y.world (edgesL A B) v5 hown' (by omega) y.grew)
      have Hea := Lib.hid (fun d (hp : List.Perm d (edgesL A B)) (hd : SortedE d) => sweep_edges sA sB d hp hd is his)
      have Hof := Lib.hid (fun (e : Edge) (h : e ∈ edgesL A B) => show e.2.1 = 0 ∨ e.2.1 = 1 from by
        unfold edgesL at h
        rcases List.mem_append.1 h with h | h
        · obtain ⟨k, hk, h | h⟩ := edges1_mem.1 h <;> subst h <;> exact .inl rfl
        · obtain ⟨k, hk, h | h⟩ := edges1_mem.1 h <;> subst h <;> exact .inr rfl)
      clear hown hown'
      generalize edgesL A B = E at *
      go_wp2
      rw [rounds_succ]
      go_wp2_with (go_at_call 49; go_loud (refine HS.out.mono ?_; rintro e w1 ⟨rfl, gs, d, hp, hd, sd⟩; obtain ⟨yS, rfl⟩ := later_of gs; clear gs; obtain ⟨aod, capd, rfl, hmd⟩ := sl2_form sd))
      have HId := Lib.hid (fun k hk => sl_edge sd k hk)
      have Hfin := Lib.hid (Hea.out d hp hd)
      have Hofd := Lib.hid (fun k (hk : k < d.length) => Hof.out d[k] (hp.subset (List.getElem_mem hk)))
      have hdl : d.length ≤ 240 := by rw [hp.length_eq]; exact hel
      clear sd
      generalize hbo : yS.world.heap.size = bo at *
      have nbo : NewFor yS.world bo := ⟨by omega⟩
      go_loopw [10, 12, 44] (fun v10 v12 t wr => ∃ (i : Nat) (v : Value), t = .int .i64 i ∧ v = v10 ∧ v12 = .bool (stI d is i).2 ∧ i ≤ d.length ∧ wr.ownsRow bo 66 2 v (stI d is i).1.length ((stI d is i).1.flatMap slC) ∧ NotRow bo v ∧ BoxAt wr bo [.bool (onOf (d.take i) 0), .bool (onOf (d.take i) 1)] ∧ Grew yS.world wr) (fun _ _ t _ => d.length - (intOf t).toNat)
      case atStart =>
        refine ⟨0, _, rfl, rfl, rfl, by omega, World.ownsRow_nil _ _ _ _, ⟨fun h => by cases h⟩, ?_, gw⟩
        refine boxAt_two ?_ ?_ ?_ ?_
        all_goals rw [← hbo]; simp [onOf]
      case round =>
        obtain ⟨i, v, rfl, rfl, rfl, hi, hown, hnr, hB, hg⟩ := hrel
        obtain ⟨y2, rfl⟩ := later_of hg
        clear hg
        by_cases hlt : i < d.length
        · obtain ⟨b4, o4, c4, e4, i4, hd1, hd2, hd3⟩ := HId.out i hlt
          obtain ⟨rfl, rfl⟩ : aod = some ⟨b4, o4, none⟩ ∧ capd = c4 := by simpa using e4
          clear e4
          obtain ⟨hb0, hf0⟩ := hB 0 _ rfl
          obtain ⟨hb1, hf1⟩ := hB 1 _ rfl
          have ibo : BlockIn y2.world bo := BlockIn.of_cell hb0
          have ih0 : HasCell y2.world bo 0 := ⟨_, hb0⟩
          have ih1 : HasCell y2.world bo 1 := ⟨_, hb1⟩
          have hx0 := onOf_succ d 0 i hlt
          have hx1 := onOf_succ d 1 i hlt
          have hid : (i : Int) < d.length := by omega
          have ap4 : Apart b4 bo := ⟨by have := i4.lt; omega⟩
          have ap5 : Apart bo b4 := ⟨by have := i4.lt; omega⟩
          have hap1 : Apart bo y2.world.heap.size := inferInstance
          have hap2 : Apart y2.world.heap.size bo := inferInstance
          clear hB
          rcases Hofd.out i hlt with hof | hof
          · skip
            rw [hof] at hd2 hx0 hx1
            have HW := Lib.hid (fun W' (g : Grew ((y2.world.alloc (.cells #[.int .i64 d[i].1, .int .i64 0, .bool d[i].2.2] 95)).setCell ⟨bo, 0, none⟩ (.bool d[i].2.2)) W') => show W'.ownsRow bo 66 2 v (stI d is i).1.length ((stI d is i).1.flatMap slC) ∧ BoxAt W' bo [.bool d[i].2.2, .bool (onOf (d.take i) 1)] from
              ⟨owns_grew (owns_setCell_far (hown.alloc _) _ _ _ hnr.ne) g, BoxAt.grewS (bxt) g⟩)
            have Hx0 := Lib.hid (show onOf (d.take (i + 1)) 0 = d[i].2.2 from hx0)
            have Hx1 := Lib.hid (show onOf (d.take (i + 1)) 1 = (onOf (d.take i) 1) from hx1)
            have hGy : ∀ W', Grew ((y2.world.alloc (.cells #[.int .i64 d[i].1, .int .i64 0, .bool d[i].2.2] 95)).setCell ⟨bo, 0, none⟩ (.bool d[i].2.2)) W' → y2.world.heap.size ≤ W'.heap.size := fun W' g => by
              have := g.size
              simp [World.setCell] at this
              omega
            have HGy := Lib.hid hGy
            clear hGy
            by_cases hend : i + 1 = d.length
            · have hl := lastB_end d i hend
              have q1 : decide ((i : Int) + 1 < d.length) = false := by rw [decide_eq_false_iff_not]; omega
              have q1' : ¬ ((i : Int) + 1 < d.length) := by omega
              clear hend
              have hSt := stI_last d is i hlt hl Hx0.out Hx1.out
              have Hg := Lib.hid (fun w' => hg (d[i].2.2) ((onOf (d.take i) 1)) w')
              have hlen := stI_len d is i
              have hlen2 : (stI d is i).1.length ≤ 1099511627776 := by omega
              clear hl hx0 hx1 hof
              cases hop : (stI d is i).2
              · cases hnow : is (d[i].2.2) ((onOf (d.take i) 1))
                · have Hn := Lib.hid (show stI d is (i + 1) = ((stI d is i).1, false) from by rw [hSt, hnow]; simp [stepW, hop])
                  clear hSt
                  generalize d[i].1 = at0 at *
                  generalize d[i].2.2 = bg at *
                  generalize onOf (d.take i) 0 = x0 at *
                  generalize onOf (d.take i) 1 = x1 at *
                  go_wp2_with (first | (go_at_fn g; go_loud (refine call_later (is_bool hnow (Hg.out _)) ?_; intro u)) | ((with_reducible refine wp_region_later ?_ ?_ ?_); (· kernel_rfl); (· kernel_rfl); (try simp only [List.append_eq, List.cons_append, List.nil_append]); (repeat (go_big_quiet_step (fail))); refine wpQuiet_nil ?_; rintro _ ⟨u, rfl⟩))
                  all_goals
                    go_roundw
                    case rel => exact ⟨i + 1, _, by go_num, rfl, by rw [Hn.out], by omega, by rw [Hn.out]; exact (HW.out _ gw).1, hnr, by rw [Hx0.out, Hx1.out]; exact (HW.out _ gw).2, gw⟩
                    case measure => simp [intOf]; omega
                · have Hn := Lib.hid (show stI d is (i + 1) = ((stI d is i).1 ++ [(d[i].1, 0)], true) from by rw [hSt, hnow]; simp [stepW, hop])
                  clear hSt
                  generalize d[i].1 = at0 at *
                  generalize d[i].2.2 = bg at *
                  generalize onOf (d.take i) 0 = x0 at *
                  generalize onOf (d.take i) 1 = x1 at *
                  go_wp2_with (first | (first | (go_at_fn g; go_loud (refine call_later (is_bool hnow (Hg.out _)) ?_; intro u)) | (at_builtin; go_loud (refine wpList_app_slot _ bo (show bo ≤ _ from hbo ▸ (show Grew yS.world _ from gw).size) rfl _ _ rfl v (stI d is i).1 (HW.out _ gw).1 rfl at0 0 _ rfl hlen2 ?_; intro g8 n8 c8 w1 hown' hgrow hat; have bx1 := box_far hgrow bo _ (BoxAt.grewS (HW.out _ gw).2 ((Grew.refl _).alloc _)) hnr; have gr1 : Grew yS.world w1 := (show Grew yS.world _ from gw).grown hgrow (fun c hc => hbo ▸ owns_base hown c hc); have nr1 : NotRow bo (.slice (some ⟨g8, 0, none⟩) n8 c8) := notRow_grown (show bo < _ from Nat.lt_of_lt_of_le ibo.lt (HGy.out _ gw)) hat))) | ((with_reducible refine wp_region_later ?_ ?_ ?_); (· kernel_rfl); (· kernel_rfl); (try simp only [List.append_eq, List.cons_append, List.nil_append]); (repeat (go_big_quiet_step (fail))); refine wpQuiet_nil ?_; rintro _ ⟨u, rfl⟩))
                  all_goals
                    go_roundw
                    case rel => exact ⟨i + 1, _, by go_num, rfl, by rw [Hn.out], by omega, by rw [Hn.out]; exact hown', nr1, by rw [Hx0.out, Hx1.out]; exact bx1, gr1⟩
                    case measure => simp [intOf]; omega
              · cases hnow : is (d[i].2.2) ((onOf (d.take i) 1))
                · obtain ⟨M, q, hM⟩ := stI_open d is i hop
                  have Hn := Lib.hid (show stI d is (i + 1) = (M ++ [(q.1, d[i].1)], false) from by rw [hSt, hnow]; simp [stepW, hop, hM, setLast_snoc])
                  have hml : (stI d is i).1.length = M.length + 1 := by rw [hM]; simp
                  obtain ⟨gr, cg, e11, hg2, hg3⟩ := hown.form (by omega)
                  rw [hml] at e11
                  subst e11
                  have hownM : ∀ W', Grew ((y2.world.alloc (.cells #[.int .i64 d[i].1, .int .i64 0, .bool d[i].2.2] 95)).setCell ⟨bo, 0, none⟩ (.bool d[i].2.2)) W' → W'.ownsRow bo 66 2 (.slice (some ⟨gr, 0, none⟩) (M.length + 1) cg) (M.length + 1) ((M ++ [q]).flatMap slC) := fun W' g => by
                    have := (HW.out W' g).1
                    rw [hM] at this
                    simpa using this
                  have Hcl := Lib.hid (fun W' (g : Grew ((y2.world.alloc (.cells #[.int .i64 d[i].1, .int .i64 0, .bool d[i].2.2] 95)).setCell ⟨bo, 0, none⟩ (.bool d[i].2.2)) W') => show W'.cell? ⟨gr, M.length * 2 + 1, none⟩ = some (.int .i64 q.2) from by
                    rw [(hownM W' g).cellAt (M.length * 2 + 1) (by omega), List.flatMap_append, List.getElem?_append_right (by rw [slC_len]; omega), slC_len, show M.length * 2 + 1 - M.length * 2 = 1 by omega]
                    rfl)
                  have Hfr := Lib.hid (fun W' (g : Grew ((y2.world.alloc (.cells #[.int .i64 d[i].1, .int .i64 0, .bool d[i].2.2] 95)).setCell ⟨bo, 0, none⟩ (.bool d[i].2.2)) W') => (hownM W' g).frozenAt (M.length * 2 + 1))
                  have Hst := Lib.hid (fun W' (g : Grew ((y2.world.alloc (.cells #[.int .i64 d[i].1, .int .i64 0, .bool d[i].2.2] 95)).setCell ⟨bo, 0, none⟩ (.bool d[i].2.2)) W') => ((hownM W' g).stored (M.length * 2 + 1) (.int .i64 d[i].1)).1)
                  have Hn1 := Lib.hid (show (stI d is (i + 1)).1.length = M.length + 1 by rw [Hn.out]; simp)
                  have Hn2 := Lib.hid (show (stI d is (i + 1)).1.flatMap slC = ((M ++ [q]).flatMap slC).set (M.length * 2 + 1) (.int .i64 d[i].1) by rw [Hn.out, slC_last])
                  have Hn3 := Lib.hid (show (stI d is (i + 1)).2 = false by rw [Hn.out])
                  have hgb : gr ≠ bo := fun e => hnr.ne (by rw [e]; rfl)
                  have ngr : NewFor yS.world gr := ⟨by omega⟩
                  have q3 : (0 : Int) < (M.length : Int) + 1 := by omega
                  have hmm : M.length < M.length + 1 := by omega
                  have hmi : (M.length : Int) < (M.length : Int) + 1 := by omega
                  have hM240 : M.length ≤ 240 := by omega
                  clear hSt hM hml hownM hown
                  generalize d[i].1 = at0 at *
                  generalize d[i].2.2 = bg at *
                  generalize onOf (d.take i) 0 = x0 at *
                  generalize onOf (d.take i) 1 = x1 at *
                  go_wp2_with (first | (go_at_fn g; go_loud (refine call_later (is_bool hnow (Hg.out _)) ?_; intro u; have k1 := Hcl.out u.world gw; have k2 := Hfr.out u.world gw)) | ((with_reducible refine wp_region_later ?_ ?_ ?_); (· kernel_rfl); (· kernel_rfl); (try simp only [List.append_eq, List.cons_append, List.nil_append]); (repeat (go_big_quiet_step (fail))); refine wpQuiet_nil ?_; rintro _ ⟨u, rfl⟩))
                  all_goals
                    go_roundw
                    case rel => exact ⟨i + 1, _, by go_num, rfl, by rw [Hn3.out], by omega, by rw [Hn1.out, Hn2.out]; exact Hst.out _ gw, hnr, by rw [Hx0.out, Hx1.out]; exact boxAt_setFar (HW.out _ gw).2 hgb, gw⟩
                    case measure => simp [intOf]; omega
                · have Hn := Lib.hid (show stI d is (i + 1) = ((stI d is i).1, true) from by rw [hSt, hnow]; simp [stepW, hop])
                  clear hSt
                  generalize d[i].1 = at0 at *
                  generalize d[i].2.2 = bg at *
                  generalize onOf (d.take i) 0 = x0 at *
                  generalize onOf (d.take i) 1 = x1 at *
                  go_wp2_with (first | (go_at_fn g; go_loud (refine call_later (is_bool hnow (Hg.out _)) ?_; intro u)) | ((with_reducible refine wp_region_later ?_ ?_ ?_); (· kernel_rfl); (· kernel_rfl); (try simp only [List.append_eq, List.cons_append, List.nil_append]); (repeat (go_big_quiet_step (fail))); refine wpQuiet_nil ?_; rintro _ ⟨u, rfl⟩))
                  all_goals
                    go_roundw
                    case rel => exact ⟨i + 1, _, by go_num, rfl, by rw [Hn.out], by omega, by rw [Hn.out]; exact (HW.out _ gw).1, hnr, by rw [Hx0.out, Hx1.out]; exact (HW.out _ gw).2, gw⟩
                    case measure => simp [intOf]; omega
            have hi1 : i + 1 < d.length := by omega
            obtain ⟨_, _, _, e5, i5, hd4, -, -⟩ := HId.out (i + 1) hi1
            obtain ⟨⟨rfl, rfl⟩, -⟩ : (b4 = _ ∧ o4 = _) ∧ _ := by simpa using e5
            clear e5
            have q1 : (i : Int) + 1 < d.length := by omega
            have hls := lastB_is d i hi1
            by_cases heq : d[i + 1].1 = d[i].1
            · skip
              have Hn := Lib.hid (stI_more d is i (by rw [hls]; simp [heq]))
              have heq' : (d[i + 1].1 == d[i].1) = true := by simp [heq]
              clear hls heq hx0 hx1 hof
              generalize d[i + 1].1 = at1 at *
              generalize d[i].1 = at0 at *
              generalize d[i].2.2 = bg at *
              generalize onOf (d.take i) 0 = x0 at *
              generalize onOf (d.take i) 1 = x1 at *
              go_wp2_with (first | ((with_reducible refine wp_region_later ?_ ?_ ?_); (· kernel_rfl); (· kernel_rfl); (try simp only [List.append_eq, List.cons_append, List.nil_append]); (repeat (go_big_quiet_step (fail))); refine wpQuiet_nil ?_; rintro _ ⟨u, rfl⟩))
              go_roundw
              case rel => exact ⟨i + 1, _, by go_num, rfl, by rw [Hn.out], by omega, by rw [Hn.out]; exact (HW.out _ gw).1, hnr, by rw [Hx0.out, Hx1.out]; exact (HW.out _ gw).2, gw⟩
              case measure => simp [intOf]; omega
            · have hl : lastB d i = true := by rw [hls]; simp [heq]
              have heq' : (d[i + 1].1 == d[i].1) = false := by simp [heq]
              clear hls heq
              generalize d[i + 1].1 = at1 at *
              have hSt := stI_last d is i hlt hl Hx0.out Hx1.out
              have Hg := Lib.hid (fun w' => hg (d[i].2.2) ((onOf (d.take i) 1)) w')
              have hlen := stI_len d is i
              have hlen2 : (stI d is i).1.length ≤ 1099511627776 := by omega
              clear hl hx0 hx1 hof
              cases hop : (stI d is i).2
              · cases hnow : is (d[i].2.2) ((onOf (d.take i) 1))
                · have Hn := Lib.hid (show stI d is (i + 1) = ((stI d is i).1, false) from by rw [hSt, hnow]; simp [stepW, hop])
                  clear hSt
                  generalize d[i].1 = at0 at *
                  generalize d[i].2.2 = bg at *
                  generalize onOf (d.take i) 0 = x0 at *
                  generalize onOf (d.take i) 1 = x1 at *
                  go_wp2_with (first | (go_at_fn g; go_loud (refine call_later (is_bool hnow (Hg.out _)) ?_; intro u)) | ((with_reducible refine wp_region_later ?_ ?_ ?_); (· kernel_rfl); (· kernel_rfl); (try simp only [List.append_eq, List.cons_append, List.nil_append]); (repeat (go_big_quiet_step (fail))); refine wpQuiet_nil ?_; rintro _ ⟨u, rfl⟩))
                  all_goals
                    go_roundw
                    case rel => exact ⟨i + 1, _, by go_num, rfl, by rw [Hn.out], by omega, by rw [Hn.out]; exact (HW.out _ gw).1, hnr, by rw [Hx0.out, Hx1.out]; exact (HW.out _ gw).2, gw⟩
                    case measure => simp [intOf]; omega
                · have Hn := Lib.hid (show stI d is (i + 1) = ((stI d is i).1 ++ [(d[i].1, 0)], true) from by rw [hSt, hnow]; simp [stepW, hop])
                  clear hSt
                  generalize d[i].1 = at0 at *
                  generalize d[i].2.2 = bg at *
                  generalize onOf (d.take i) 0 = x0 at *
                  generalize onOf (d.take i) 1 = x1 at *
                  go_wp2_with (first | (first | (go_at_fn g; go_loud (refine call_later (is_bool hnow (Hg.out _)) ?_; intro u)) | (at_builtin; go_loud (refine wpList_app_slot _ bo (show bo ≤ _ from hbo ▸ (show Grew yS.world _ from gw).size) rfl _ _ rfl v (stI d is i).1 (HW.out _ gw).1 rfl at0 0 _ rfl hlen2 ?_; intro g8 n8 c8 w1 hown' hgrow hat; have bx1 := box_far hgrow bo _ (BoxAt.grewS (HW.out _ gw).2 ((Grew.refl _).alloc _)) hnr; have gr1 : Grew yS.world w1 := (show Grew yS.world _ from gw).grown hgrow (fun c hc => hbo ▸ owns_base hown c hc); have nr1 : NotRow bo (.slice (some ⟨g8, 0, none⟩) n8 c8) := notRow_grown (show bo < _ from Nat.lt_of_lt_of_le ibo.lt (HGy.out _ gw)) hat))) | ((with_reducible refine wp_region_later ?_ ?_ ?_); (· kernel_rfl); (· kernel_rfl); (try simp only [List.append_eq, List.cons_append, List.nil_append]); (repeat (go_big_quiet_step (fail))); refine wpQuiet_nil ?_; rintro _ ⟨u, rfl⟩))
                  all_goals
                    go_roundw
                    case rel => exact ⟨i + 1, _, by go_num, rfl, by rw [Hn.out], by omega, by rw [Hn.out]; exact hown', nr1, by rw [Hx0.out, Hx1.out]; exact bx1, gr1⟩
                    case measure => simp [intOf]; omega
              · cases hnow : is (d[i].2.2) ((onOf (d.take i) 1))
                · obtain ⟨M, q, hM⟩ := stI_open d is i hop
                  have Hn := Lib.hid (show stI d is (i + 1) = (M ++ [(q.1, d[i].1)], false) from by rw [hSt, hnow]; simp [stepW, hop, hM, setLast_snoc])
                  have hml : (stI d is i).1.length = M.length + 1 := by rw [hM]; simp
                  obtain ⟨gr, cg, e11, hg2, hg3⟩ := hown.form (by omega)
                  rw [hml] at e11
                  subst e11
                  have hownM : ∀ W', Grew ((y2.world.alloc (.cells #[.int .i64 d[i].1, .int .i64 0, .bool d[i].2.2] 95)).setCell ⟨bo, 0, none⟩ (.bool d[i].2.2)) W' → W'.ownsRow bo 66 2 (.slice (some ⟨gr, 0, none⟩) (M.length + 1) cg) (M.length + 1) ((M ++ [q]).flatMap slC) := fun W' g => by
                    have := (HW.out W' g).1
                    rw [hM] at this
                    simpa using this
                  have Hcl := Lib.hid (fun W' (g : Grew ((y2.world.alloc (.cells #[.int .i64 d[i].1, .int .i64 0, .bool d[i].2.2] 95)).setCell ⟨bo, 0, none⟩ (.bool d[i].2.2)) W') => show W'.cell? ⟨gr, M.length * 2 + 1, none⟩ = some (.int .i64 q.2) from by
                    rw [(hownM W' g).cellAt (M.length * 2 + 1) (by omega), List.flatMap_append, List.getElem?_append_right (by rw [slC_len]; omega), slC_len, show M.length * 2 + 1 - M.length * 2 = 1 by omega]
                    rfl)
                  have Hfr := Lib.hid (fun W' (g : Grew ((y2.world.alloc (.cells #[.int .i64 d[i].1, .int .i64 0, .bool d[i].2.2] 95)).setCell ⟨bo, 0, none⟩ (.bool d[i].2.2)) W') => (hownM W' g).frozenAt (M.length * 2 + 1))
                  have Hst := Lib.hid (fun W' (g : Grew ((y2.world.alloc (.cells #[.int .i64 d[i].1, .int .i64 0, .bool d[i].2.2] 95)).setCell ⟨bo, 0, none⟩ (.bool d[i].2.2)) W') => ((hownM W' g).stored (M.length * 2 + 1) (.int .i64 d[i].1)).1)
                  have Hn1 := Lib.hid (show (stI d is (i + 1)).1.length = M.length + 1 by rw [Hn.out]; simp)
                  have Hn2 := Lib.hid (show (stI d is (i + 1)).1.flatMap slC = ((M ++ [q]).flatMap slC).set (M.length * 2 + 1) (.int .i64 d[i].1) by rw [Hn.out, slC_last])
                  have Hn3 := Lib.hid (show (stI d is (i + 1)).2 = false by rw [Hn.out])
                  have hgb : gr ≠ bo := fun e => hnr.ne (by rw [e]; rfl)
                  have ngr : NewFor yS.world gr := ⟨by omega⟩
                  have q3 : (0 : Int) < (M.length : Int) + 1 := by omega
                  have hmm : M.length < M.length + 1 := by omega
                  have hmi : (M.length : Int) < (M.length : Int) + 1 := by omega
                  have hM240 : M.length ≤ 240 := by omega
                  clear hSt hM hml hownM hown
                  generalize d[i].1 = at0 at *
                  generalize d[i].2.2 = bg at *
                  generalize onOf (d.take i) 0 = x0 at *
                  generalize onOf (d.take i) 1 = x1 at *
                  go_wp2_with (first | (go_at_fn g; go_loud (refine call_later (is_bool hnow (Hg.out _)) ?_; intro u; have k1 := Hcl.out u.world gw; have k2 := Hfr.out u.world gw)) | ((with_reducible refine wp_region_later ?_ ?_ ?_); (· kernel_rfl); (· kernel_rfl); (try simp only [List.append_eq, List.cons_append, List.nil_append]); (repeat (go_big_quiet_step (fail))); refine wpQuiet_nil ?_; rintro _ ⟨u, rfl⟩))
                  all_goals
                    go_roundw
                    case rel => exact ⟨i + 1, _, by go_num, rfl, by rw [Hn3.out], by omega, by rw [Hn1.out, Hn2.out]; exact Hst.out _ gw, hnr, by rw [Hx0.out, Hx1.out]; exact boxAt_setFar (HW.out _ gw).2 hgb, gw⟩
                    case measure => simp [intOf]; omega
                · have Hn := Lib.hid (show stI d is (i + 1) = ((stI d is i).1, true) from by rw [hSt, hnow]; simp [stepW, hop])
                  clear hSt
                  generalize d[i].1 = at0 at *
                  generalize d[i].2.2 = bg at *
                  generalize onOf (d.take i) 0 = x0 at *
                  generalize onOf (d.take i) 1 = x1 at *
                  go_wp2_with (first | (go_at_fn g; go_loud (refine call_later (is_bool hnow (Hg.out _)) ?_; intro u)) | ((with_reducible refine wp_region_later ?_ ?_ ?_); (· kernel_rfl); (· kernel_rfl); (try simp only [List.append_eq, List.cons_append, List.nil_append]); (repeat (go_big_quiet_step (fail))); refine wpQuiet_nil ?_; rintro _ ⟨u, rfl⟩))
                  all_goals
                    go_roundw
                    case rel => exact ⟨i + 1, _, by go_num, rfl, by rw [Hn.out], by omega, by rw [Hn.out]; exact (HW.out _ gw).1, hnr, by rw [Hx0.out, Hx1.out]; exact (HW.out _ gw).2, gw⟩
                    case measure => simp [intOf]; omega
          · skip
            rw [hof] at hd2 hx0 hx1
            have HW := Lib.hid (fun W' (g : Grew ((y2.world.alloc (.cells #[.int .i64 d[i].1, .int .i64 1, .bool d[i].2.2] 95)).setCell ⟨bo, 1, none⟩ (.bool d[i].2.2)) W') => show W'.ownsRow bo 66 2 v (stI d is i).1.length ((stI d is i).1.flatMap slC) ∧ BoxAt W' bo [.bool (onOf (d.take i) 0), .bool d[i].2.2] from
              ⟨owns_grew (owns_setCell_far (hown.alloc _) _ _ _ hnr.ne) g, BoxAt.grewS (bxt) g⟩)
            have Hx0 := Lib.hid (show onOf (d.take (i + 1)) 0 = (onOf (d.take i) 0) from hx0)
            have Hx1 := Lib.hid (show onOf (d.take (i + 1)) 1 = d[i].2.2 from hx1)
            have hGy : ∀ W', Grew ((y2.world.alloc (.cells #[.int .i64 d[i].1, .int .i64 1, .bool d[i].2.2] 95)).setCell ⟨bo, 1, none⟩ (.bool d[i].2.2)) W' → y2.world.heap.size ≤ W'.heap.size := fun W' g => by
              have := g.size
              simp [World.setCell] at this
              omega
            have HGy := Lib.hid hGy
            clear hGy
            by_cases hend : i + 1 = d.length
            · have hl := lastB_end d i hend
              have q1 : decide ((i : Int) + 1 < d.length) = false := by rw [decide_eq_false_iff_not]; omega
              have q1' : ¬ ((i : Int) + 1 < d.length) := by omega
              clear hend
              have hSt := stI_last d is i hlt hl Hx0.out Hx1.out
              have Hg := Lib.hid (fun w' => hg ((onOf (d.take i) 0)) (d[i].2.2) w')
              have hlen := stI_len d is i
              have hlen2 : (stI d is i).1.length ≤ 1099511627776 := by omega
              clear hl hx0 hx1 hof
              cases hop : (stI d is i).2
              · cases hnow : is ((onOf (d.take i) 0)) (d[i].2.2)
                · have Hn := Lib.hid (show stI d is (i + 1) = ((stI d is i).1, false) from by rw [hSt, hnow]; simp [stepW, hop])
                  clear hSt
                  generalize d[i].1 = at0 at *
                  generalize d[i].2.2 = bg at *
                  generalize onOf (d.take i) 0 = x0 at *
                  generalize onOf (d.take i) 1 = x1 at *
                  go_wp2_with (first | (go_at_fn g; go_loud (refine call_later (is_bool hnow (Hg.out _)) ?_; intro u)) | ((with_reducible refine wp_region_later ?_ ?_ ?_); (· kernel_rfl); (· kernel_rfl); (try simp only [List.append_eq, List.cons_append, List.nil_append]); (repeat (go_big_quiet_step (fail))); refine wpQuiet_nil ?_; rintro _ ⟨u, rfl⟩))
                  all_goals
                    go_roundw
                    case rel => exact ⟨i + 1, _, by go_num, rfl, by rw [Hn.out], by omega, by rw [Hn.out]; exact (HW.out _ gw).1, hnr, by rw [Hx0.out, Hx1.out]; exact (HW.out _ gw).2, gw⟩
                    case measure => simp [intOf]; omega
                · have Hn := Lib.hid (show stI d is (i + 1) = ((stI d is i).1 ++ [(d[i].1, 0)], true) from by rw [hSt, hnow]; simp [stepW, hop])
                  clear hSt
                  generalize d[i].1 = at0 at *
                  generalize d[i].2.2 = bg at *
                  generalize onOf (d.take i) 0 = x0 at *
                  generalize onOf (d.take i) 1 = x1 at *
                  go_wp2_with (first | (first | (go_at_fn g; go_loud (refine call_later (is_bool hnow (Hg.out _)) ?_; intro u)) | (at_builtin; go_loud (refine wpList_app_slot _ bo (show bo ≤ _ from hbo ▸ (show Grew yS.world _ from gw).size) rfl _ _ rfl v (stI d is i).1 (HW.out _ gw).1 rfl at0 0 _ rfl hlen2 ?_; intro g8 n8 c8 w1 hown' hgrow hat; have bx1 := box_far hgrow bo _ (BoxAt.grewS (HW.out _ gw).2 ((Grew.refl _).alloc _)) hnr; have gr1 : Grew yS.world w1 := (show Grew yS.world _ from gw).grown hgrow (fun c hc => hbo ▸ owns_base hown c hc); have nr1 : NotRow bo (.slice (some ⟨g8, 0, none⟩) n8 c8) := notRow_grown (show bo < _ from Nat.lt_of_lt_of_le ibo.lt (HGy.out _ gw)) hat))) | ((with_reducible refine wp_region_later ?_ ?_ ?_); (· kernel_rfl); (· kernel_rfl); (try simp only [List.append_eq, List.cons_append, List.nil_append]); (repeat (go_big_quiet_step (fail))); refine wpQuiet_nil ?_; rintro _ ⟨u, rfl⟩))
                  all_goals
                    go_roundw
                    case rel => exact ⟨i + 1, _, by go_num, rfl, by rw [Hn.out], by omega, by rw [Hn.out]; exact hown', nr1, by rw [Hx0.out, Hx1.out]; exact bx1, gr1⟩
                    case measure => simp [intOf]; omega
              · cases hnow : is ((onOf (d.take i) 0)) (d[i].2.2)
                · obtain ⟨M, q, hM⟩ := stI_open d is i hop
                  have Hn := Lib.hid (show stI d is (i + 1) = (M ++ [(q.1, d[i].1)], false) from by rw [hSt, hnow]; simp [stepW, hop, hM, setLast_snoc])
                  have hml : (stI d is i).1.length = M.length + 1 := by rw [hM]; simp
                  obtain ⟨gr, cg, e11, hg2, hg3⟩ := hown.form (by omega)
                  rw [hml] at e11
                  subst e11
                  have hownM : ∀ W', Grew ((y2.world.alloc (.cells #[.int .i64 d[i].1, .int .i64 1, .bool d[i].2.2] 95)).setCell ⟨bo, 1, none⟩ (.bool d[i].2.2)) W' → W'.ownsRow bo 66 2 (.slice (some ⟨gr, 0, none⟩) (M.length + 1) cg) (M.length + 1) ((M ++ [q]).flatMap slC) := fun W' g => by
                    have := (HW.out W' g).1
                    rw [hM] at this
                    simpa using this
                  have Hcl := Lib.hid (fun W' (g : Grew ((y2.world.alloc (.cells #[.int .i64 d[i].1, .int .i64 1, .bool d[i].2.2] 95)).setCell ⟨bo, 1, none⟩ (.bool d[i].2.2)) W') => show W'.cell? ⟨gr, M.length * 2 + 1, none⟩ = some (.int .i64 q.2) from by
                    rw [(hownM W' g).cellAt (M.length * 2 + 1) (by omega), List.flatMap_append, List.getElem?_append_right (by rw [slC_len]; omega), slC_len, show M.length * 2 + 1 - M.length * 2 = 1 by omega]
                    rfl)
                  have Hfr := Lib.hid (fun W' (g : Grew ((y2.world.alloc (.cells #[.int .i64 d[i].1, .int .i64 1, .bool d[i].2.2] 95)).setCell ⟨bo, 1, none⟩ (.bool d[i].2.2)) W') => (hownM W' g).frozenAt (M.length * 2 + 1))
                  have Hst := Lib.hid (fun W' (g : Grew ((y2.world.alloc (.cells #[.int .i64 d[i].1, .int .i64 1, .bool d[i].2.2] 95)).setCell ⟨bo, 1, none⟩ (.bool d[i].2.2)) W') => ((hownM W' g).stored (M.length * 2 + 1) (.int .i64 d[i].1)).1)
                  have Hn1 := Lib.hid (show (stI d is (i + 1)).1.length = M.length + 1 by rw [Hn.out]; simp)
                  have Hn2 := Lib.hid (show (stI d is (i + 1)).1.flatMap slC = ((M ++ [q]).flatMap slC).set (M.length * 2 + 1) (.int .i64 d[i].1) by rw [Hn.out, slC_last])
                  have Hn3 := Lib.hid (show (stI d is (i + 1)).2 = false by rw [Hn.out])
                  have hgb : gr ≠ bo := fun e => hnr.ne (by rw [e]; rfl)
                  have ngr : NewFor yS.world gr := ⟨by omega⟩
                  have q3 : (0 : Int) < (M.length : Int) + 1 := by omega
                  have hmm : M.length < M.length + 1 := by omega
                  have hmi : (M.length : Int) < (M.length : Int) + 1 := by omega
                  have hM240 : M.length ≤ 240 := by omega
                  clear hSt hM hml hownM hown
                  generalize d[i].1 = at0 at *
                  generalize d[i].2.2 = bg at *
                  generalize onOf (d.take i) 0 = x0 at *
                  generalize onOf (d.take i) 1 = x1 at *
                  go_wp2_with (first | (go_at_fn g; go_loud (refine call_later (is_bool hnow (Hg.out _)) ?_; intro u; have k1 := Hcl.out u.world gw; have k2 := Hfr.out u.world gw)) | ((with_reducible refine wp_region_later ?_ ?_ ?_); (· kernel_rfl); (· kernel_rfl); (try simp only [List.append_eq, List.cons_append, List.nil_append]); (repeat (go_big_quiet_step (fail))); refine wpQuiet_nil ?_; rintro _ ⟨u, rfl⟩))
                  all_goals
                    go_roundw
                    case rel => exact ⟨i + 1, _, by go_num, rfl, by rw [Hn3.out], by omega, by rw [Hn1.out, Hn2.out]; exact Hst.out _ gw, hnr, by rw [Hx0.out, Hx1.out]; exact boxAt_setFar (HW.out _ gw).2 hgb, gw⟩
                    case measure => simp [intOf]; omega
                · have Hn := Lib.hid (show stI d is (i + 1) = ((stI d is i).1, true) from by rw [hSt, hnow]; simp [stepW, hop])
                  clear hSt
                  generalize d[i].1 = at0 at *
                  generalize d[i].2.2 = bg at *
                  generalize onOf (d.take i) 0 = x0 at *
                  generalize onOf (d.take i) 1 = x1 at *
                  go_wp2_with (first | (go_at_fn g; go_loud (refine call_later (is_bool hnow (Hg.out _)) ?_; intro u)) | ((with_reducible refine wp_region_later ?_ ?_ ?_); (· kernel_rfl); (· kernel_rfl); (try simp only [List.append_eq, List.cons_append, List.nil_append]); (repeat (go_big_quiet_step (fail))); refine wpQuiet_nil ?_; rintro _ ⟨u, rfl⟩))
                  all_goals
                    go_roundw
                    case rel => exact ⟨i + 1, _, by go_num, rfl, by rw [Hn.out], by omega, by rw [Hn.out]; exact (HW.out _ gw).1, hnr, by rw [Hx0.out, Hx1.out]; exact (HW.out _ gw).2, gw⟩
                    case measure => simp [intOf]; omega
            have hi1 : i + 1 < d.length := by omega
            obtain ⟨_, _, _, e5, i5, hd4, -, -⟩ := HId.out (i + 1) hi1
            obtain ⟨⟨rfl, rfl⟩, -⟩ : (b4 = _ ∧ o4 = _) ∧ _ := by simpa using e5
            clear e5
            have q1 : (i : Int) + 1 < d.length := by omega
            have hls := lastB_is d i hi1
            by_cases heq : d[i + 1].1 = d[i].1
            · skip
              have Hn := Lib.hid (stI_more d is i (by rw [hls]; simp [heq]))
              have heq' : (d[i + 1].1 == d[i].1) = true := by simp [heq]
              clear hls heq hx0 hx1 hof
              generalize d[i + 1].1 = at1 at *
              generalize d[i].1 = at0 at *
              generalize d[i].2.2 = bg at *
              generalize onOf (d.take i) 0 = x0 at *
              generalize onOf (d.take i) 1 = x1 at *
              go_wp2_with (first | ((with_reducible refine wp_region_later ?_ ?_ ?_); (· kernel_rfl); (· kernel_rfl); (try simp only [List.append_eq, List.cons_append, List.nil_append]); (repeat (go_big_quiet_step (fail))); refine wpQuiet_nil ?_; rintro _ ⟨u, rfl⟩))
              go_roundw
              case rel => exact ⟨i + 1, _, by go_num, rfl, by rw [Hn.out], by omega, by rw [Hn.out]; exact (HW.out _ gw).1, hnr, by rw [Hx0.out, Hx1.out]; exact (HW.out _ gw).2, gw⟩
              case measure => simp [intOf]; omega
            · have hl : lastB d i = true := by rw [hls]; simp [heq]
              have heq' : (d[i + 1].1 == d[i].1) = false := by simp [heq]
              clear hls heq
              generalize d[i + 1].1 = at1 at *
              have hSt := stI_last d is i hlt hl Hx0.out Hx1.out
              have Hg := Lib.hid (fun w' => hg ((onOf (d.take i) 0)) (d[i].2.2) w')
              have hlen := stI_len d is i
              have hlen2 : (stI d is i).1.length ≤ 1099511627776 := by omega
              clear hl hx0 hx1 hof
              cases hop : (stI d is i).2
              · cases hnow : is ((onOf (d.take i) 0)) (d[i].2.2)
                · have Hn := Lib.hid (show stI d is (i + 1) = ((stI d is i).1, false) from by rw [hSt, hnow]; simp [stepW, hop])
                  clear hSt
                  generalize d[i].1 = at0 at *
                  generalize d[i].2.2 = bg at *
                  generalize onOf (d.take i) 0 = x0 at *
                  generalize onOf (d.take i) 1 = x1 at *
                  go_wp2_with (first | (go_at_fn g; go_loud (refine call_later (is_bool hnow (Hg.out _)) ?_; intro u)) | ((with_reducible refine wp_region_later ?_ ?_ ?_); (· kernel_rfl); (· kernel_rfl); (try simp only [List.append_eq, List.cons_append, List.nil_append]); (repeat (go_big_quiet_step (fail))); refine wpQuiet_nil ?_; rintro _ ⟨u, rfl⟩))
                  all_goals
                    go_roundw
                    case rel => exact ⟨i + 1, _, by go_num, rfl, by rw [Hn.out], by omega, by rw [Hn.out]; exact (HW.out _ gw).1, hnr, by rw [Hx0.out, Hx1.out]; exact (HW.out _ gw).2, gw⟩
                    case measure => simp [intOf]; omega
                · have Hn := Lib.hid (show stI d is (i + 1) = ((stI d is i).1 ++ [(d[i].1, 0)], true) from by rw [hSt, hnow]; simp [stepW, hop])
                  clear hSt
                  generalize d[i].1 = at0 at *
                  generalize d[i].2.2 = bg at *
                  generalize onOf (d.take i) 0 = x0 at *
                  generalize onOf (d.take i) 1 = x1 at *
                  go_wp2_with (first | (first | (go_at_fn g; go_loud (refine call_later (is_bool hnow (Hg.out _)) ?_; intro u)) | (at_builtin; go_loud (refine wpList_app_slot _ bo (show bo ≤ _ from hbo ▸ (show Grew yS.world _ from gw).size) rfl _ _ rfl v (stI d is i).1 (HW.out _ gw).1 rfl at0 0 _ rfl hlen2 ?_; intro g8 n8 c8 w1 hown' hgrow hat; have bx1 := box_far hgrow bo _ (BoxAt.grewS (HW.out _ gw).2 ((Grew.refl _).alloc _)) hnr; have gr1 : Grew yS.world w1 := (show Grew yS.world _ from gw).grown hgrow (fun c hc => hbo ▸ owns_base hown c hc); have nr1 : NotRow bo (.slice (some ⟨g8, 0, none⟩) n8 c8) := notRow_grown (show bo < _ from Nat.lt_of_lt_of_le ibo.lt (HGy.out _ gw)) hat))) | ((with_reducible refine wp_region_later ?_ ?_ ?_); (· kernel_rfl); (· kernel_rfl); (try simp only [List.append_eq, List.cons_append, List.nil_append]); (repeat (go_big_quiet_step (fail))); refine wpQuiet_nil ?_; rintro _ ⟨u, rfl⟩))
                  all_goals
                    go_roundw
                    case rel => exact ⟨i + 1, _, by go_num, rfl, by rw [Hn.out], by omega, by rw [Hn.out]; exact hown', nr1, by rw [Hx0.out, Hx1.out]; exact bx1, gr1⟩
                    case measure => simp [intOf]; omega
              · cases hnow : is ((onOf (d.take i) 0)) (d[i].2.2)
                · obtain ⟨M, q, hM⟩ := stI_open d is i hop
                  have Hn := Lib.hid (show stI d is (i + 1) = (M ++ [(q.1, d[i].1)], false) from by rw [hSt, hnow]; simp [stepW, hop, hM, setLast_snoc])
                  have hml : (stI d is i).1.length = M.length + 1 := by rw [hM]; simp
                  obtain ⟨gr, cg, e11, hg2, hg3⟩ := hown.form (by omega)
                  rw [hml] at e11
                  subst e11
                  have hownM : ∀ W', Grew ((y2.world.alloc (.cells #[.int .i64 d[i].1, .int .i64 1, .bool d[i].2.2] 95)).setCell ⟨bo, 1, none⟩ (.bool d[i].2.2)) W' → W'.ownsRow bo 66 2 (.slice (some ⟨gr, 0, none⟩) (M.length + 1) cg) (M.length + 1) ((M ++ [q]).flatMap slC) := fun W' g => by
                    have := (HW.out W' g).1
                    rw [hM] at this
                    simpa using this
                  have Hcl := Lib.hid (fun W' (g : Grew ((y2.world.alloc (.cells #[.int .i64 d[i].1, .int .i64 1, .bool d[i].2.2] 95)).setCell ⟨bo, 1, none⟩ (.bool d[i].2.2)) W') => show W'.cell? ⟨gr, M.length * 2 + 1, none⟩ = some (.int .i64 q.2) from by
                    rw [(hownM W' g).cellAt (M.length * 2 + 1) (by omega), List.flatMap_append, List.getElem?_append_right (by rw [slC_len]; omega), slC_len, show M.length * 2 + 1 - M.length * 2 = 1 by omega]
                    rfl)
                  have Hfr := Lib.hid (fun W' (g : Grew ((y2.world.alloc (.cells #[.int .i64 d[i].1, .int .i64 1, .bool d[i].2.2] 95)).setCell ⟨bo, 1, none⟩ (.bool d[i].2.2)) W') => (hownM W' g).frozenAt (M.length * 2 + 1))
                  have Hst := Lib.hid (fun W' (g : Grew ((y2.world.alloc (.cells #[.int .i64 d[i].1, .int .i64 1, .bool d[i].2.2] 95)).setCell ⟨bo, 1, none⟩ (.bool d[i].2.2)) W') => ((hownM W' g).stored (M.length * 2 + 1) (.int .i64 d[i].1)).1)
                  have Hn1 := Lib.hid (show (stI d is (i + 1)).1.length = M.length + 1 by rw [Hn.out]; simp)
                  have Hn2 := Lib.hid (show (stI d is (i + 1)).1.flatMap slC = ((M ++ [q]).flatMap slC).set (M.length * 2 + 1) (.int .i64 d[i].1) by rw [Hn.out, slC_last])
                  have Hn3 := Lib.hid (show (stI d is (i + 1)).2 = false by rw [Hn.out])
                  have hgb : gr ≠ bo := fun e => hnr.ne (by rw [e]; rfl)
                  have ngr : NewFor yS.world gr := ⟨by omega⟩
                  have q3 : (0 : Int) < (M.length : Int) + 1 := by omega
                  have hmm : M.length < M.length + 1 := by omega
                  have hmi : (M.length : Int) < (M.length : Int) + 1 := by omega
                  have hM240 : M.length ≤ 240 := by omega
                  clear hSt hM hml hownM hown
                  generalize d[i].1 = at0 at *
                  generalize d[i].2.2 = bg at *
                  generalize onOf (d.take i) 0 = x0 at *
                  generalize onOf (d.take i) 1 = x1 at *
                  go_wp2_with (first | (go_at_fn g; go_loud (refine call_later (is_bool hnow (Hg.out _)) ?_; intro u; have k1 := Hcl.out u.world gw; have k2 := Hfr.out u.world gw)) | ((with_reducible refine wp_region_later ?_ ?_ ?_); (· kernel_rfl); (· kernel_rfl); (try simp only [List.append_eq, List.cons_append, List.nil_append]); (repeat (go_big_quiet_step (fail))); refine wpQuiet_nil ?_; rintro _ ⟨u, rfl⟩))
                  all_goals
                    go_roundw
                    case rel => exact ⟨i + 1, _, by go_num, rfl, by rw [Hn3.out], by omega, by rw [Hn1.out, Hn2.out]; exact Hst.out _ gw, hnr, by rw [Hx0.out, Hx1.out]; exact boxAt_setFar (HW.out _ gw).2 hgb, gw⟩
                    case measure => simp [intOf]; omega
                · have Hn := Lib.hid (show stI d is (i + 1) = ((stI d is i).1, true) from by rw [hSt, hnow]; simp [stepW, hop])
                  clear hSt
                  generalize d[i].1 = at0 at *
                  generalize d[i].2.2 = bg at *
                  generalize onOf (d.take i) 0 = x0 at *
                  generalize onOf (d.take i) 1 = x1 at *
                  go_wp2_with (first | (go_at_fn g; go_loud (refine call_later (is_bool hnow (Hg.out _)) ?_; intro u)) | ((with_reducible refine wp_region_later ?_ ?_ ?_); (· kernel_rfl); (· kernel_rfl); (try simp only [List.append_eq, List.cons_append, List.nil_append]); (repeat (go_big_quiet_step (fail))); refine wpQuiet_nil ?_; rintro _ ⟨u, rfl⟩))
                  all_goals
                    go_roundw
                    case rel => exact ⟨i + 1, _, by go_num, rfl, by rw [Hn.out], by omega, by rw [Hn.out]; exact (HW.out _ gw).1, hnr, by rw [Hx0.out, Hx1.out]; exact (HW.out _ gw).2, gw⟩
                    case measure => simp [intOf]; omega
        · obtain rfl : i = d.length := by omega
          rw [Hfin.out] at hown
          have Hs := Lib.hid (SlAt.of_owns hown)
          rw [Hfin.out]
          go_wp2
          go_ret
          exact ⟨_, rfl, Hs.out, gw⟩
end Go.Proofs.Ytffbipcdlnfihaa
