/-
  The slots of the silent nodes of a flight: plain law.
-/
import Derived.Test.YtgjikdhidakloaaNodeReports
namespace Go.Proofs.Ytgjikdhidakloaa
open Go.RowKit
/-- The slots of the numbers below a bound of which f is true. -/
def silAt (f : Nat → Bool) : Nat → List (Int × Int)
  | 0 => []
  | i + 1 => if f i = true then (if 0 < i ∧ f (i - 1) = true then (silAt f i).dropLast ++ [(((silAt f i).getLast?.getD (0, 0)).1, (i : Int) + 1)] else silAt f i ++ [((i : Int), (i : Int) + 1)]) else silAt f i
theorem sil_no {f : Nat → Bool} {i : Nat} (h : f i = false) : silAt f (i + 1) = silAt f i := by rw [silAt, if_neg (by simp [h])]
theorem sil_new {f : Nat → Bool} {i : Nat} (h : f i = true) (h2 : i = 0 ∨ f (i - 1) = false) : silAt f (i + 1) = silAt f i ++ [((i : Int), (i : Int) + 1)] := by
  rw [silAt, if_pos h, if_neg (by rintro ⟨h3, h4⟩; rcases h2 with rfl | h2; · exact absurd h3 (by omega)
                                  · rw [h4] at h2; cases h2)]
theorem sil_ext {f : Nat → Bool} {i : Nat} (h : f i = true) (h2 : 0 < i) (h3 : f (i - 1) = true) {M : List (Int × Int)} {q : Int × Int} (hM : silAt f i = M ++ [q]) : silAt f (i + 1) = M ++ [(q.1, (i : Int) + 1)] := by
  rw [silAt, if_pos h, if_pos ⟨h2, h3⟩, hM]
  simp
theorem sil_le (f : Nat → Bool) : ∀ i, silAt f i = [] ∨ ∃ M q, silAt f i = M ++ [q] ∧ q.2 ≤ (i : Int)
  | 0 => .inl rfl
  | i + 1 => by
    by_cases h : f i = true
    · rw [silAt, if_pos h]
      split
      · exact .inr ⟨_, _, rfl, by simp⟩
      · exact .inr ⟨_, _, rfl, by simp⟩
    · rw [silAt, if_neg h]
      rcases sil_le f i with h2 | ⟨M, q, h2, h3⟩
      · exact .inl h2
      · exact .inr ⟨M, q, h2, by omega⟩
theorem sil_far {f : Nat → Bool} {i : Nat} (h : i = 0 ∨ f (i - 1) = false) : silAt f i = [] ∨ ∃ M q, silAt f i = M ++ [q] ∧ q.2 < (i : Int) := by
  cases i with
  | zero => exact .inl rfl
  | succ j =>
    have h : f j = false := by rcases h with h | h; · omega
                               · simpa using h
    rw [sil_no h]
    rcases sil_le f j with h2 | ⟨M, q, h2, h3⟩
    · exact .inl h2
    · exact .inr ⟨M, q, h2, by omega⟩
theorem sil_near {f : Nat → Bool} {i : Nat} (h : 0 < i) (h2 : f (i - 1) = true) : ∃ M q, silAt f i = M ++ [q] ∧ q.2 = (i : Int) := by
  cases i with
  | zero => omega
  | succ j =>
    have h2 : f j = true := by simpa using h2
    rw [silAt, if_pos h2]
    split
    · exact ⟨_, _, rfl, by simp⟩
    · exact ⟨_, _, rfl, by simp⟩
theorem sil_len (f : Nat → Bool) : ∀ i, (silAt f i).length ≤ i
  | 0 => Nat.le_refl _
  | i + 1 => by
    have ih := sil_len f i
    by_cases h : f i = true
    · by_cases h2 : 0 < i ∧ f (i - 1) = true
      · obtain ⟨M, q, hM, -⟩ := sil_near h2.1 h2.2
        rw [sil_ext h h2.1 h2.2 hM]
        rw [hM] at ih
        simp at ih ⊢
        omega
      · rw [silAt, if_pos h, if_neg h2, List.length_append]
        simp
        omega
    · rw [silAt, if_neg h]
      omega
/-- Is a node among those of reports? -/
def heardB (R : List Report) (i : Nat) : Bool := R.any fun r => r.node == (i : Int)
def silentL (L : Arcs) (R : List Report) : List (Int × Int) := if arcsCode L = 0 ∧ reportsCode (sumZ L) R = 0 then silAt (fun i => !heardB R i) ((legsL L).length + 1) else []
def silentCode (L : Arcs) (R : List Report) : Int := if arcsCode L = 0 then reportsCode (sumZ L) R else arcsCode L
def slC (s : Int × Int) : List Value := [.int .i64 s.1, .int .i64 s.2]
theorem sl_two {w : World} {v : Value} {l : List (Int × Int)} (h : SlAt w v l.length (l.flatMap slC)) (k : Nat) (hk : k < l.length) :
    ∃ b o c, v = .slice (some ⟨b, o, none⟩) l.length c ∧ BlockIn w b ∧ w.cell? ⟨b, o + k * 2, none⟩ = some (.int .i64 l[k].1) ∧ w.cell? ⟨b, o + k * 2 + 1, none⟩ = some (.int .i64 l[k].2) := by
  obtain ⟨ao, cap, rfl, hm, hc⟩ := h
  obtain ⟨b, off, rfl, hb, h1, h2⟩ := SlAt.elem (f := slC) (c := 2) (fun _ => rfl) (by omega) hc k hk
  exact ⟨b, off, cap, rfl, ⟨hb⟩, h1 _ rfl, h2 1 _ rfl⟩
theorem sl2_form {w : World} {v : Value} {n : Nat} {xs : List Value} (h : SlAt w v n xs) : ∃ ao cap, v = .slice ao n cap ∧ n ≤ 2 ^ 63 - 1 := by
  obtain ⟨ao, cap, rfl, hm, -⟩ := h
  exact ⟨ao, cap, rfl, by unfold maxLen at hm; exact hm⟩
theorem slC_snoc (l : List (Int × Int)) (a z : Int) : l.flatMap slC ++ [.int .i64 a, .int .i64 z] = (l ++ [(a, z)]).flatMap slC := by simp [slC]
theorem slC_len (l : List (Int × Int)) : (l.flatMap slC).length = l.length * 2 := flat_len slC 2 (fun _ => rfl) l
theorem slC_last (l : List (Int × Int)) (q : Int × Int) (z : Int) : ((l ++ [q]).flatMap slC).set (l.length * 2 + 1) (.int .i64 z) = (l ++ [(q.1, z)]).flatMap slC := by
  have hl := slC_len l
  rw [List.flatMap_append, List.flatMap_append, List.set_append_right _ _ (by omega), hl, show l.length * 2 + 1 - l.length * 2 = 1 by omega]
  rfl
theorem infoSl2 : (Try.prog.info? 87).map (fun i => (i.zero, i.size, i.bytes)) = some (some (.agg #[.int .i64 0, .int .i64 0]), 2, 16) := by kernel_rfl
/-- What a function hands back that returns a set and a code. -/
def RetSlC (l : List (Int × Int)) (c : Int) (w : World) (e : Ending) (w' : World) : Prop :=
  ∃ v, e = .returned (.tuple #[v, .int .i64 c]) ∧ SlAt w' v l.length (l.flatMap slC) ∧ Grew w w'
theorem RetSlC.full {l l' : List (Int × Int)} {c c' : Int} {w w' : World} {v : Value} (h1 : l = l') (h2 : c = c') (h : SlAt w' v l'.length (l'.flatMap slC)) (g : Grew w w') : RetSlC l c w (.returned (.tuple #[v, .int .i64 c'])) w' := by
  subst h1 h2
  exact ⟨v, rfl, h, g⟩
/-- A slot is appended to a row of one's own: where the new slice lies. -/
theorem wpList_app_slot {ops : Array Oper} {rest : List Oper} {o : Oper} {a : Act} {Q : Exit → Act → World → Prop} (w : World) (base : Nat) (hbase : base ≤ w.heap.size) {m : Nat} [hm : SizeAt w m] (hgd : o.guard = none) (s x : Operand)
    (ho : o.op = .call { callee := .builtin .append, args := #[s, x], argTypes := #[41, 41] }) (v : Value) (l : List (Int × Int)) (hown : w.ownsRow base 87 2 v l.length (l.flatMap slC)) (hs : a.eval s = v) (p : Int × Int) (ty : TypeId)
    (hx : a.eval x = .slice (some ⟨m, 0, none⟩) 1 1) (hn : l.length ≤ 268435456)
    (h : ∀ g n cap w', w'.ownsRow base 87 2 (.slice (some ⟨g, 0, none⟩) n cap) (l ++ [p]).length ((l ++ [p]).flatMap slC) → (w.alloc (.cells (slC p).toArray ty)).grownBy w' v.ownBlock → (v.ownBlock = some g ∨ g = m + 1) → wpList Try.prog ops Q rest (a.put o.dst (.slice (some ⟨g, 0, none⟩) n cap)) w') :
    wpList Try.prog ops Q (o :: rest) a (w.alloc (.cells (slC p).toArray ty)) := by
  obtain rfl := hm.eq
  obtain ⟨i0, hi, hz0, hzz1, hzz2⟩ := info_parts infoSl2
  refine wpList_append_lies _ hgd s x 41 ho base 87 i0 _ 2 16 Try.underlying41 hi hz0 hzz1 hzz2 rfl (by decide) v _ _ hs (hown.alloc _) ⟨w.heap.size, 0, none⟩ 1 1 (slC p) hx rfl (cells_new w (slC p) ty) (by simp [slC, Value.oneCell']) (by decide) (by simp [maxLen]; omega) (by omega) (by simp; omega) (w.heap.size + 1) (by simp) ?_
  intro g cap w1 hown' hgrow hat _
  refine h g _ cap w1 ?_ hgrow hat
  rw [List.length_append, List.flatMap_append]
  simpa using hown'
theorem wpList_app_slotG {ops : Array Oper} {rest : List Oper} {o : Oper} {a : Act} {Q : Exit → Act → World → Prop} (a0 w : World) (g0 : Grew a0 w) {m : Nat} [hm : SizeAt w m] (hgd : o.guard = none) (s x : Operand)
    (ho : o.op = .call { callee := .builtin .append, args := #[s, x], argTypes := #[41, 41] }) (v : Value) (l : List (Int × Int)) (hown : w.ownsRow a0.heap.size 87 2 v l.length (l.flatMap slC)) (hs : a.eval s = v) (p : Int × Int) (ty : TypeId)
    (hx : a.eval x = .slice (some ⟨m, 0, none⟩) 1 1) (hn : l.length ≤ 268435456)
    (h : ∀ v' (y : Later a0), y.world.ownsRow a0.heap.size 87 2 v' (l ++ [p]).length ((l ++ [p]).flatMap slC) → wpList Try.prog ops Q rest (a.put o.dst v') y.world) :
    wpList Try.prog ops Q (o :: rest) a (w.alloc (.cells (slC p).toArray ty)) := by
  obtain rfl := hm.eq
  obtain ⟨i0, hi, hz0, hzz1, hzz2⟩ := info_parts infoSl2
  refine wpList_append_own _ hgd s x 41 ho a0.heap.size 87 i0 _ 2 16 Try.underlying41 hi hz0 hzz1 hzz2 rfl (by decide) v _ _ hs (hown.alloc _) ⟨w.heap.size, 0, none⟩ 1 1 (slC p) hx rfl (cells_new w (slC p) ty) (by simp [slC, Value.oneCell']) (by simp [maxLen]; omega) (by omega) (by have := g0.size; simp; omega) ?_
  intro v' w1 hown' hgrow _
  obtain ⟨y, rfl⟩ := later_of (Grew.append (g0.alloc (.cells (slC p).toArray ty)) (hown.alloc (.cells (slC p).toArray ty)) (Nat.le_refl _) hgrow)
  refine h v' y ?_
  rw [List.length_append, List.flatMap_append]
  simpa using hown'
end Go.Proofs.Ytgjikdhidakloaa
