/-
  Arguments opened: a value whose cells are all integers (structs of structs, arrays of structs); and the last step of every law's row: what a law that only makes new memory leaves.
  The arguments of api's types, opened. (Written by wip/gen_open.py.)
-/
import Derived.Test.YtffbipcdlnfihaaCore
import Derived.ProofKit
import Derived.OpenShut
import Derived.Deep.Slices
import Derived.Test.YtffbipcdlnfihaaProg
namespace Go.Proofs.Ytffbipcdlnfihaa
open Go.RowKit Go.ChangeShapes Go.WideShapes Go.ChangeAt Go.Deep

/-- All cells of the type are of int's kind; n of them. -/
def flatInt (P : Program) : Nat → TypeId → Nat → Bool
  | 0, _, _ => false
  | f + 1, t, n =>
    match P.underlying t with
    | some (.int .i64) => n == 1
    | some (.struct fs) => P.cellsOf t == n && (fs.toList.foldl (fun (a : Option Nat) (x : Field) => a.bind fun o => if x.offset == o && flatInt P f x.type (P.cellsOf x.type) then some (o + P.cellsOf x.type) else none) (some 0) == some n)
    | some (.array m e) => P.cellsOf t == n && flatInt P f e (P.cellsOf e) && n == m * P.cellsOf e
    | _ => false

def AllInt (cs : List Value) : Prop := ∀ (i : Nat) v, cs[i]? = some v → ∃ k : Int, v = .int .i64 k ∧ (Lit.int .i64 k).wf = true
theorem AllInt.nil : AllInt [] := fun i v h => by simp at h
theorem AllInt.append {a b : List Value} (ha : AllInt a) (hb : AllInt b) : AllInt (a ++ b) := fun i v h => by
  rw [List.getElem?_append] at h
  split at h
  · exact ha _ _ h
  · exact hb _ _ h

section
variable {H : Type} {enc : TypeId × Value → H} {P : Program} {w : World} {base : Nat} {spare : Nat → Bool} {held : Bool}

theorem flat_fold (P : Program) (f : Nat) (l : List Field) : ∀ (o n : Nat),
    l.foldl (fun (a : Option Nat) (x : Field) => a.bind fun o => if x.offset == o && flatInt P f x.type (P.cellsOf x.type) then some (o + P.cellsOf x.type) else none) (some o) = some n →
    o ≤ n ∧ ∀ (cs : List Value), (∀ x ∈ l, flatInt P f x.type (P.cellsOf x.type) = true → AllInt ((cs.drop x.offset).take (P.cellsOf x.type))) → AllInt ((cs.drop o).take (n - o)) := by
  have hnone : ∀ (l : List Field), l.foldl (fun (a : Option Nat) (x : Field) => a.bind fun o => if x.offset == o && flatInt P f x.type (P.cellsOf x.type) then some (o + P.cellsOf x.type) else none) none = none := by
    intro l
    induction l with
    | nil => rfl
    | cons x l ih => simpa using ih
  induction l with
  | nil =>
    intro o n h
    simp at h
    subst h
    exact ⟨Nat.le_refl _, fun cs _ => by simp [AllInt.nil]⟩
  | cons x l ih =>
    intro o n h
    simp only [List.foldl_cons, Option.bind_some] at h
    by_cases hx : (x.offset == o && flatInt P f x.type (P.cellsOf x.type)) = true
    · rw [if_pos hx] at h
      obtain ⟨h1, h2⟩ := ih _ _ h
      simp only [Bool.and_eq_true, beq_iff_eq] at hx
      refine ⟨by omega, fun cs hc => ?_⟩
      have ha := hc x (by simp) hx.2
      rw [hx.1] at ha
      have hb := h2 cs (fun y hy => hc y (by simp [hy]))
      have e : (cs.drop o).take (n - o) = (cs.drop o).take (P.cellsOf x.type) ++ (cs.drop (o + P.cellsOf x.type)).take (n - (o + P.cellsOf x.type)) := by
        rw [← List.drop_drop, show n - o = P.cellsOf x.type + (n - (o + P.cellsOf x.type)) by omega, List.take_add]
      rw [e]
      exact ha.append hb
    · rw [if_neg hx, hnone] at h
      cases h

theorem flat_trod (P : Program) : ∀ (f : Nat) (t : TypeId) (n fuel : Nat) (cs : List Value) (x : DataW H × List MemPlace), flatInt P f t n = true →
    DataW.trod enc P w base spare held fuel t cs = some x → cs.length = n ∧ AllInt cs
  | 0, _, _, _, _, _, h, _ => by simp [flatInt] at h
  | f + 1, t, n, fuel, cs, x, h, ht => by
    unfold flatInt at h
    split at h
    · rename_i hu
      obtain ⟨k, rfl, -, hw⟩ := DataW.trod_int hu ht
      simp at h
      subst h
      refine ⟨rfl, fun i v hi => ?_⟩
      match i, hi with
      | 0, hi => simp at hi; exact ⟨k, hi.symm, hw⟩
    · rename_i fs hu
      obtain ⟨xs, m, rfl, -, hl, hxl, hf⟩ := DataW.trod_struct hu ht
      have h1 := beq_iff_eq.1 (Bool.and_eq_true_iff.1 h).1
      have h2 := beq_iff_eq.1 (Bool.and_eq_true_iff.1 h).2
      obtain ⟨-, h3⟩ := flat_fold P f fs.toList 0 n h2
      have hn : cs.length = n := hl.trans h1
      refine ⟨hn, ?_⟩
      have := h3 cs (fun y hy hfl => by
        obtain ⟨i, hi⟩ := List.mem_iff_getElem?.1 hy
        have hi' : fs[i]? = some y := by simpa using hi
        have hlt : i < fs.size := (Array.getElem?_eq_some_iff.1 hi').1
        have e := hf i y hi'
        rw [List.getElem?_eq_getElem (by omega)] at e
        exact (flat_trod P f _ _ _ _ _ hfl e).2)
      simpa [← hn] using this
    · rename_i m e hu
      obtain ⟨xs, k, rfl, -, hl, hxl, hf⟩ := DataW.trod_array hu ht
      simp only [Bool.and_eq_true, beq_iff_eq] at h
      obtain ⟨⟨h1, h2⟩, h3⟩ := h
      have hn : cs.length = n := hl.trans h1
      refine ⟨hn, ?_⟩
      have key : ∀ j, j ≤ m → AllInt (cs.take (j * P.cellsOf e)) := by
        intro j
        induction j with
        | zero => intro _; simp [AllInt.nil]
        | succ j ih =>
          intro hj
          rw [Nat.succ_mul, List.take_add]
          refine (ih (by omega)).append ?_
          have e1 := hf j (by omega)
          rw [List.getElem?_eq_getElem (by omega)] at e1
          exact (flat_trod P f _ _ _ _ _ h2 e1).2
      have := key m (Nat.le_refl _)
      rwa [← h3, ← hn, List.take_length] at this
    · cases h

/-- The integers of cells that are all integers. -/
theorem allInt_list (cs : List Value) (h : AllInt cs) : ∃ ns : List Int, cs = ns.map (.int .i64) ∧ ∀ k ∈ ns, -9223372036854775808 ≤ k ∧ k ≤ 9223372036854775807 := by
  induction cs with
  | nil => exact ⟨[], rfl, by simp⟩
  | cons v cs ih =>
    obtain ⟨k, rfl, hw⟩ := h 0 v rfl
    obtain ⟨ns, rfl, hb⟩ := ih (fun i v hi => h (i + 1) v (by simpa using hi))
    refine ⟨k :: ns, rfl, fun j hj => ?_⟩
    rcases List.mem_cons.1 hj with rfl | hj
    · simpa [Lit.wf, IntKind.min, IntKind.max, IntKind.signed, IntKind.bits] using hw
    · exact hb j hj

/-- A struct or array argument of integers alone. -/
theorem open_flat {r : Reach} {b0 : Nat} {t : TypeId} {v : Value} {d : DataW H} {p : List MemPlace} (n : Nat) (hfl : flatInt P 12 t n = true) {fs : Array Field} (hs : P.underlying t = some (.struct fs))
    (hv : Value.okWide P w r b0 t v) (h : DataW.Trod enc P w base spare held t v d p) :
    ∃ ns : List Int, v = .agg (ns.map (Value.int .i64)).toArray ∧ ns.length = n ∧ ∀ k ∈ ns, -9223372036854775808 ≤ k ∧ k ≤ 9223372036854775807 := by
  obtain ⟨cs, rfl, hsz⟩ := okWide_struct hs hv
  obtain ⟨fuel, hf⟩ := h
  obtain ⟨h1, h2⟩ := flat_trod P 12 t n fuel _ _ hfl hf
  obtain ⟨ns, e, hb⟩ := allInt_list _ h2
  refine ⟨ns, ?_, ?_, hb⟩
  · congr 1
    apply Array.ext'
    simpa [Value.cells] using e
  · rw [← h1, e]; simp
theorem open_num {r : Reach} {b0 : Nat} {t : TypeId} {v : Value} {d : DataW H} {p : List MemPlace} (hs : P.underlying t = some (.int .i64))
    (hv : Value.okWide P w r b0 t v) (h : DataW.Trod enc P w base spare held t v d p) : ∃ k : Int, v = .int .i64 k ∧ -9223372036854775808 ≤ k ∧ k ≤ 9223372036854775807 := by
  obtain ⟨k, rfl, -, -, hw⟩ := open_int hs hv h
  exact ⟨k, rfl, by simpa [Lit.wf, IntKind.min, IntKind.max, IntKind.signed, IntKind.bits] using hw⟩
end

theorem list3 {l : List Int} (h : l.length = 3) : ∃ a b c, l = [a, b, c] := by
  match l, h with | [a, b, c], _ => exact ⟨a, b, c, rfl⟩
theorem trodAll_grew {H : Type} {enc : TypeId × Value → H} {P : Program} (hl : laidOutB P = true) {W W' : World} (hb : Grew W W') (sp : Nat → Bool) :
    ∀ (ts : List TypeId) (vs : List Value) (ds : List (DataW H)) (ps : List MemPlace), ts.all (fun t => P.readableRec t && decide (t < P.types.size)) = true → (∀ x ∈ ps, x.block < W.heap.size) → (∀ x ∈ ps, sp x.block = true) →
      DataW.TrodAll enc P W 0 (fun _ => true) true ts vs ds ps → DataW.TrodAll enc P W' 0 sp true ts vs ds ps
  | [], vs, ds, ps, _, _, _, h => by
    obtain ⟨rfl, rfl, rfl⟩ := trodAll_nil h
    exact trodAll_mk0
  | t :: ts, vs, ds, ps, hr, hp, hs, h => by
    obtain ⟨v, vs', d, ds', p, q, rfl, rfl, rfl, h0, r0⟩ := trodAll_cons h
    simp only [List.all_cons, Bool.and_eq_true, decide_eq_true_eq] at hr
    exact trodAll_cons_mk (WideElems.Trod_stays hl hr.1.1 hr.1.2 h0 (fun x hx => Below.same hb (hp x (by simp [hx]))) (fun x hx => hs x (by simp [hx])))
      (trodAll_grew hl hb sp ts vs' ds' q hr.2 (fun x hx => hp x (by simp [hx])) (fun x hx => hs x (by simp [hx])) r0)

/-- The last step of a law's row: the law returned true and only made new memory: its arguments read as they did. -/
theorem law_post {H : Type} {enc : TypeId × Value → H} {P : Program} {f : Func} {s : ChangeSpec} {W W' : World} {args : Array Value} {ds gs : List (DataW H)} {before : List MemPlace} {tb : TypeId}
    (hl : laidOutB P = true) (hr : f.params.toList.all (fun t => P.readableRec t && decide (t < P.types.size)) = true) (hvars : s.vars = []) (hrt : f.resultTypes = #[tb]) (htb : P.underlying tb = some .bool)
    (hW : DataW.Whole enc P f.params.toList s.vars false W args.toList ds gs before) (hs : s.fn H (ds ++ []) = { results := [.lit (.bool true)], args := ds }) (hg : Grew W W') :
    s.post enc P f false true false false W args (.bool true) W' := by
  have hlt : ∀ p ∈ before, p.block < W.heap.size := fun p hp => hW.lt p hp
  have hW0 := hW
  obtain ⟨p, q, hA0, hV, hpq, hz, hn⟩ := hW
  rw [hvars] at hV
  obtain ⟨rfl, rfl⟩ := trodVars_none hV
  rw [List.append_nil] at hpq
  subst hpq
  have hargs : ∀ sp : Nat → Bool, (∀ p' ∈ before, sp p'.block = true) → DataW.TrodAll enc P W' 0 sp true f.params.toList args.toList ds before := fun sp h => trodAll_grew hl hg sp _ _ _ _ hr hlt h hA0
  have hres : ∀ (b : Nat) (sp : Nat → Bool) (hd : Bool), DataW.TrodAll enc P W' b sp hd f.resultTypes.toList ((Value.bool true).resultList f.resultTypes.size) [.lit (.bool true)] [] := by
    intro b sp hd
    rw [hrt]
    exact trodAll_cons_mk (shut_bool htb true) trodAll_mk0
  refine ⟨ds, [], before, [], before, [], hW0, ?_, ?_, ?_, ?_, fun h => by cases h⟩
  · rw [hs]; exact hres _ _ _
  · rw [hs]; exact hargs _ (fun p' hp' => by simpa using hlt p' hp')
  · rw [hs, hvars]; exact rfl
  · exact World.keptBut_mono (fun p' hp' => ⟨hp', .inr (by simpa using hp')⟩) (Below.frame hg (· ∈ before))
end Go.Proofs.Ytffbipcdlnfihaa
namespace Go.Proofs.Ytffbipcdlnfihaa
open Go.RowKit Go.ChangeShapes Go.WideShapes Go.ChangeAt Go.Deep
set_option maxRecDepth 100000

theorem vals2 {l : List Value} (h : l.length = 2) : ∃ c0 c1, l = [c0, c1] := by
  match l, h with | [c0, c1], _ => exact ⟨c0, c1, rfl⟩
theorem vals3 {l : List Value} (h : l.length = 3) : ∃ c0 c1 c2, l = [c0, c1, c2] := by
  match l, h with | [c0, c1, c2], _ => exact ⟨c0, c1, c2, rfl⟩
theorem vals14 {l : List Value} (h : l.length = 14) : ∃ c0 c1 c2 c3 c4 c5 c6 c7 c8 c9 c10 c11 c12 c13, l = [c0, c1, c2, c3, c4, c5, c6, c7, c8, c9, c10, c11, c12, c13] := by
  match l, h with | [c0, c1, c2, c3, c4, c5, c6, c7, c8, c9, c10, c11, c12, c13], _ => exact ⟨c0, c1, c2, c3, c4, c5, c6, c7, c8, c9, c10, c11, c12, c13, rfl⟩
theorem vals15 {l : List Value} (h : l.length = 15) : ∃ c0 c1 c2 c3 c4 c5 c6 c7 c8 c9 c10 c11 c12 c13 c14, l = [c0, c1, c2, c3, c4, c5, c6, c7, c8, c9, c10, c11, c12, c13, c14] := by
  match l, h with | [c0, c1, c2, c3, c4, c5, c6, c7, c8, c9, c10, c11, c12, c13, c14], _ => exact ⟨c0, c1, c2, c3, c4, c5, c6, c7, c8, c9, c10, c11, c12, c13, c14, rfl⟩
theorem vals16 {l : List Value} (h : l.length = 16) : ∃ c0 c1 c2 c3 c4 c5 c6 c7 c8 c9 c10 c11 c12 c13 c14 c15, l = [c0, c1, c2, c3, c4, c5, c6, c7, c8, c9, c10, c11, c12, c13, c14, c15] := by
  match l, h with | [c0, c1, c2, c3, c4, c5, c6, c7, c8, c9, c10, c11, c12, c13, c14, c15], _ => exact ⟨c0, c1, c2, c3, c4, c5, c6, c7, c8, c9, c10, c11, c12, c13, c14, c15, rfl⟩
theorem i64_of {k : Int} (h : (Lit.int .i64 k).wf = true) : I64 k := by
  simpa [I64, Lit.wf, IntKind.min, IntKind.max, IntKind.signed, IntKind.bits] using h

section
variable {H : Type} {enc : TypeId × Value → H} {w : World} {base : Nat} {spare : Nat → Bool} {held : Bool}
theorem pt_trod {fuel : Nat} {cs : List Value} {x : DataW H × List MemPlace} (h : DataW.trod enc Try.prog w base spare held fuel 107 cs = some x) :
    ∃ (a : Pt), cs = a.cells ∧ I64 a.place ∧ I64 a.value.lo ∧ I64 a.value.hi := by
  obtain ⟨xs, n, rfl, -, hl, hxl, hf⟩ := DataW.trod_struct Try.underlying107 h
  have hxl : xs.length = 2 := hxl
  have hC : Try.prog.cellsOf 107 = 3 := by kernel_rfl
  obtain ⟨c0, c1, c2, rfl⟩ := vals3 (hl.trans hC)
  have f0 : DataW.trod enc Try.prog w base spare held n 38 (([c0, c1, c2].drop 0).take (Try.prog.cellsOf 38)) = xs[0]? := hf 0 _ rfl
  rw [List.getElem?_eq_getElem (by omega)] at f0
  simp only [show Try.prog.cellsOf 38 = 1 by kernel_rfl] at f0
  have f1 : DataW.trod enc Try.prog w base spare held n 40 (([c0, c1, c2].drop 1).take (Try.prog.cellsOf 40)) = xs[1]? := hf 1 _ rfl
  rw [List.getElem?_eq_getElem (by omega)] at f1
  simp only [show Try.prog.cellsOf 40 = 2 by kernel_rfl] at f1
  have s0 := (flat_trod Try.prog 12 38 1 _ _ _ (by kernel_rfl) f0).2
  obtain ⟨k0, rfl, b0⟩ := s0 0 c0 rfl
  have s1 := (flat_trod Try.prog 12 40 2 _ _ _ (by kernel_rfl) f1).2
  obtain ⟨k1, rfl, b1⟩ := s1 0 c1 rfl
  obtain ⟨k2, rfl, b2⟩ := s1 1 c2 rfl
  exact ⟨⟨k0, ⟨k1, k2⟩⟩, rfl, i64_of b0, i64_of b1, i64_of b2⟩
/-- A slice whose elements are opened one by one. -/
theorem slice_trod {α : Type} {P : Program} {t e c : Nat} (f : α → List Value) (hf : ∀ a, (f a).length = c) (Q : α → Prop) (ht : P.underlying t = some (.slice e)) (hC : P.cellsOf e = c)
    (hel : ∀ (m : Nat) (cs' : List Value) (x' : DataW H × List MemPlace), DataW.trod enc P w base spare held m e cs' = some x' → ∃ a, cs' = f a ∧ Q a)
    {fuel : Nat} {cs : List Value} {x : DataW H × List MemPlace} (h : DataW.trod enc P w base spare held fuel t cs = some x) :
    ∃ (ao : Option Addr) (n cap : Nat) (l : List α), cs = [.slice ao n cap] ∧ n = l.length ∧ SlAt w (.slice ao n cap) l.length (l.flatMap f) ∧ ∀ a ∈ l, Q a := by
  rcases open_slice ht h with ⟨rfl, -⟩ | ⟨a, len, cap, m, n, D, Pl, rfl, hb, hl, hm, hmm, -, hi⟩
  · exact ⟨none, 0, 0, [], rfl, rfl, SlAt.nil w, by simp⟩
  · have hlen : len ≤ m := by rw [hmm]; split <;> omega
    have hspot : 0 < len → 0 < c → a.spot = none := fun h1 h2 => by
      obtain ⟨cs', hc, -⟩ := hi 0 (by omega)
      obtain ⟨_, _, hat⟩ := World.cells?_some hc
      have := hat (i := 0) (by rw [hC]; exact h2)
      have : (w.cell? ((a.add (0 * P.cellsOf e)).add 0)).isSome = true := by
        rw [this, List.getElem?_eq_getElem (by omega)]; rfl
      cases hs : a.spot with
      | none => rfl
      | some s => simp [World.cell?, Addr.add, hs] at this; split at this <;> simp at this
    have key : ∀ k, k ≤ len → ∃ l : List α, l.length = k ∧ (∀ x ∈ l, Q x) ∧ ∀ i v, (l.flatMap f)[i]? = some v → w.cell? (a.add i) = some v := by
      intro k
      induction k with
      | zero => intro _; exact ⟨[], rfl, by simp, fun i v h => by simp at h⟩
      | succ k ih =>
        intro hk
        obtain ⟨l, h1, h2, h3⟩ := ih (by omega)
        obtain ⟨cs', hc, ht'⟩ := hi k (by omega)
        obtain ⟨b, rfl, hq⟩ := hel _ _ _ ht'
        obtain ⟨_, hcl, hat⟩ := World.cells?_some hc
        refine ⟨l ++ [b], by simp [h1], fun x hx => ?_, fun i v hv => ?_⟩
        · rcases List.mem_append.1 hx with hx | hx
          · exact h2 x hx
          · simp at hx; rw [hx]; exact hq
        · rw [List.flatMap_append] at hv
          simp only [List.flatMap_cons, List.flatMap_nil, List.append_nil] at hv
          have hll : (l.flatMap f).length = k * c := by rw [flat_len f c hf, h1]
          rw [List.getElem?_append] at hv
          split at hv
          · exact h3 i v hv
          · rename_i hge
            rw [hll] at hge hv
            have hj : i - k * c < c := by have := (List.getElem?_eq_some_iff.1 hv).1; rw [hf] at this; exact this
            have := hat (i := i - k * c) (by rw [hC]; exact hj)
            rw [hv, Go.Deep.add_add, hC, show k * c + (i - k * c) = i by omega] at this
            exact this
    obtain ⟨l, h1, h2, h3⟩ := key len (Nat.le_refl _)
    refine ⟨some a, len, cap, l, rfl, h1.symm, ⟨some a, cap, by rw [h1], by omega, fun i v hv => ?_⟩, h2⟩
    have hv' := h3 i v hv
    have hl0 : 0 < len := by
      rcases Nat.eq_zero_or_pos len with h0 | h0
      · have : l = [] := List.eq_nil_of_length_eq_zero (by omega)
        subst this; simp at hv
      · exact h0
    have hc0 : 0 < c := by
      rcases Nat.eq_zero_or_pos c with h0 | h0
      · have := flat_len f c hf l
        rw [h0, Nat.mul_zero] at this
        rw [List.eq_nil_of_length_eq_zero this] at hv; simp at hv
      · exact h0
    have hs := hspot hl0 hc0
    obtain ⟨ab, ao, sp⟩ := a
    simp only at hs
    subst hs
    exact ⟨ab, ao, rfl, by rw [Addr.add_lit] at hv'; exact hv'⟩
theorem points_trod {fuel : Nat} {cs : List Value} {x : DataW H × List MemPlace} (h : DataW.trod enc Try.prog w base spare held fuel 48 cs = some x) :
    ∃ (ao : Option Addr) (m cap : Nat) (l : List Pt), cs = [.slice ao m cap] ∧ SlAt w (.slice ao m cap) l.length (l.flatMap Pt.cells) := by
  obtain ⟨ao, n, cap, l, e, -, h1, -⟩ := slice_trod Pt.cells (c := 3) (fun _ => rfl) (fun _ => True) Try.underlying48 (by kernel_rfl) (fun m cs' x' h' => by obtain ⟨a, e, -⟩ := pt_trod h'; exact ⟨a, e, trivial⟩) h
  exact ⟨ao, n, cap, l, e, h1⟩
theorem arc_trod {fuel : Nat} {cs : List Value} {x : DataW H × List MemPlace} (h : DataW.trod enc Try.prog w base spare held fuel 72 cs = some x) :
    ∃ (a : Arc) (l0 : List Pt), cs = a.cells ∧ DragAt w a l0 ∧ I64 a.time ∧ I64 a.step ∧ I64 a.thrust.lo ∧ I64 a.thrust.hi ∧ I64 a.flow.lo ∧ I64 a.flow.hi ∧ I64 a.dir.x.lo ∧ I64 a.dir.x.hi ∧ I64 a.dir.y.lo ∧ I64 a.dir.y.hi ∧ I64 a.dir.z.lo ∧ I64 a.dir.z.hi ∧ I64 a.drop.lo ∧ I64 a.drop.hi := by
  obtain ⟨xs, n, rfl, -, hl, hxl, hf⟩ := DataW.trod_struct Try.underlying72 h
  have hxl : xs.length = 7 := hxl
  have hC : Try.prog.cellsOf 72 = 15 := by kernel_rfl
  obtain ⟨c0, c1, c2, c3, c4, c5, c6, c7, c8, c9, c10, c11, c12, c13, c14, rfl⟩ := vals15 (hl.trans hC)
  have f0 : DataW.trod enc Try.prog w base spare held n 38 (([c0, c1, c2, c3, c4, c5, c6, c7, c8, c9, c10, c11, c12, c13, c14].drop 0).take (Try.prog.cellsOf 38)) = xs[0]? := hf 0 _ rfl
  rw [List.getElem?_eq_getElem (by omega)] at f0
  simp only [show Try.prog.cellsOf 38 = 1 by kernel_rfl] at f0
  have f1 : DataW.trod enc Try.prog w base spare held n 38 (([c0, c1, c2, c3, c4, c5, c6, c7, c8, c9, c10, c11, c12, c13, c14].drop 1).take (Try.prog.cellsOf 38)) = xs[1]? := hf 1 _ rfl
  rw [List.getElem?_eq_getElem (by omega)] at f1
  simp only [show Try.prog.cellsOf 38 = 1 by kernel_rfl] at f1
  have f2 : DataW.trod enc Try.prog w base spare held n 40 (([c0, c1, c2, c3, c4, c5, c6, c7, c8, c9, c10, c11, c12, c13, c14].drop 2).take (Try.prog.cellsOf 40)) = xs[2]? := hf 2 _ rfl
  rw [List.getElem?_eq_getElem (by omega)] at f2
  simp only [show Try.prog.cellsOf 40 = 2 by kernel_rfl] at f2
  have f3 : DataW.trod enc Try.prog w base spare held n 40 (([c0, c1, c2, c3, c4, c5, c6, c7, c8, c9, c10, c11, c12, c13, c14].drop 4).take (Try.prog.cellsOf 40)) = xs[3]? := hf 3 _ rfl
  rw [List.getElem?_eq_getElem (by omega)] at f3
  simp only [show Try.prog.cellsOf 40 = 2 by kernel_rfl] at f3
  have f4 : DataW.trod enc Try.prog w base spare held n 42 (([c0, c1, c2, c3, c4, c5, c6, c7, c8, c9, c10, c11, c12, c13, c14].drop 6).take (Try.prog.cellsOf 42)) = xs[4]? := hf 4 _ rfl
  rw [List.getElem?_eq_getElem (by omega)] at f4
  simp only [show Try.prog.cellsOf 42 = 6 by kernel_rfl] at f4
  have f5 : DataW.trod enc Try.prog w base spare held n 48 (([c0, c1, c2, c3, c4, c5, c6, c7, c8, c9, c10, c11, c12, c13, c14].drop 12).take (Try.prog.cellsOf 48)) = xs[5]? := hf 5 _ rfl
  rw [List.getElem?_eq_getElem (by omega)] at f5
  simp only [show Try.prog.cellsOf 48 = 1 by kernel_rfl] at f5
  have f6 : DataW.trod enc Try.prog w base spare held n 40 (([c0, c1, c2, c3, c4, c5, c6, c7, c8, c9, c10, c11, c12, c13, c14].drop 13).take (Try.prog.cellsOf 40)) = xs[6]? := hf 6 _ rfl
  rw [List.getElem?_eq_getElem (by omega)] at f6
  simp only [show Try.prog.cellsOf 40 = 2 by kernel_rfl] at f6
  have s0 := (flat_trod Try.prog 12 38 1 _ _ _ (by kernel_rfl) f0).2
  obtain ⟨k0, rfl, b0⟩ := s0 0 c0 rfl
  have s1 := (flat_trod Try.prog 12 38 1 _ _ _ (by kernel_rfl) f1).2
  obtain ⟨k1, rfl, b1⟩ := s1 0 c1 rfl
  have s2 := (flat_trod Try.prog 12 40 2 _ _ _ (by kernel_rfl) f2).2
  obtain ⟨k2, rfl, b2⟩ := s2 0 c2 rfl
  obtain ⟨k3, rfl, b3⟩ := s2 1 c3 rfl
  have s3 := (flat_trod Try.prog 12 40 2 _ _ _ (by kernel_rfl) f3).2
  obtain ⟨k4, rfl, b4⟩ := s3 0 c4 rfl
  obtain ⟨k5, rfl, b5⟩ := s3 1 c5 rfl
  have s4 := (flat_trod Try.prog 12 42 6 _ _ _ (by kernel_rfl) f4).2
  obtain ⟨k6, rfl, b6⟩ := s4 0 c6 rfl
  obtain ⟨k7, rfl, b7⟩ := s4 1 c7 rfl
  obtain ⟨k8, rfl, b8⟩ := s4 2 c8 rfl
  obtain ⟨k9, rfl, b9⟩ := s4 3 c9 rfl
  obtain ⟨k10, rfl, b10⟩ := s4 4 c10 rfl
  obtain ⟨k11, rfl, b11⟩ := s4 5 c11 rfl
  obtain ⟨ao0, m0, cap0, l0, e0, at0⟩ := points_trod f5
  obtain rfl : c12 = .slice ao0 m0 cap0 := by simpa using e0
  have s6 := (flat_trod Try.prog 12 40 2 _ _ _ (by kernel_rfl) f6).2
  obtain ⟨k13, rfl, b13⟩ := s6 0 c13 rfl
  obtain ⟨k14, rfl, b14⟩ := s6 1 c14 rfl
  exact ⟨⟨k0, k1, ⟨k2, k3⟩, ⟨k4, k5⟩, ⟨⟨k6, k7⟩, ⟨k8, k9⟩, ⟨k10, k11⟩⟩, ⟨ao0, m0, cap0⟩, ⟨k13, k14⟩⟩, l0, rfl, at0, i64_of b0, i64_of b1, i64_of b2, i64_of b3, i64_of b4, i64_of b5, i64_of b6, i64_of b7, i64_of b8, i64_of b9, i64_of b10, i64_of b11, i64_of b13, i64_of b14⟩
theorem planet_trod {fuel : Nat} {cs : List Value} {x : DataW H × List MemPlace} (h : DataW.trod enc Try.prog w base spare held fuel 44 cs = some x) :
    ∃ (a : Planet), cs = a.cells ∧ I64 a.mu.lo ∧ I64 a.mu.hi ∧ I64 a.radius.lo ∧ I64 a.radius.hi ∧ I64 a.oblate.lo ∧ I64 a.oblate.hi ∧ I64 a.spin.lo ∧ I64 a.spin.hi ∧ I64 a.pull.x.lo ∧ I64 a.pull.x.hi ∧ I64 a.pull.y.lo ∧ I64 a.pull.y.hi ∧ I64 a.pull.z.lo ∧ I64 a.pull.z.hi := by
  obtain ⟨xs, n, rfl, -, hl, hxl, hf⟩ := DataW.trod_struct Try.underlying44 h
  have hxl : xs.length = 5 := hxl
  have hC : Try.prog.cellsOf 44 = 14 := by kernel_rfl
  obtain ⟨c0, c1, c2, c3, c4, c5, c6, c7, c8, c9, c10, c11, c12, c13, rfl⟩ := vals14 (hl.trans hC)
  have f0 : DataW.trod enc Try.prog w base spare held n 40 (([c0, c1, c2, c3, c4, c5, c6, c7, c8, c9, c10, c11, c12, c13].drop 0).take (Try.prog.cellsOf 40)) = xs[0]? := hf 0 _ rfl
  rw [List.getElem?_eq_getElem (by omega)] at f0
  simp only [show Try.prog.cellsOf 40 = 2 by kernel_rfl] at f0
  have f1 : DataW.trod enc Try.prog w base spare held n 40 (([c0, c1, c2, c3, c4, c5, c6, c7, c8, c9, c10, c11, c12, c13].drop 2).take (Try.prog.cellsOf 40)) = xs[1]? := hf 1 _ rfl
  rw [List.getElem?_eq_getElem (by omega)] at f1
  simp only [show Try.prog.cellsOf 40 = 2 by kernel_rfl] at f1
  have f2 : DataW.trod enc Try.prog w base spare held n 40 (([c0, c1, c2, c3, c4, c5, c6, c7, c8, c9, c10, c11, c12, c13].drop 4).take (Try.prog.cellsOf 40)) = xs[2]? := hf 2 _ rfl
  rw [List.getElem?_eq_getElem (by omega)] at f2
  simp only [show Try.prog.cellsOf 40 = 2 by kernel_rfl] at f2
  have f3 : DataW.trod enc Try.prog w base spare held n 40 (([c0, c1, c2, c3, c4, c5, c6, c7, c8, c9, c10, c11, c12, c13].drop 6).take (Try.prog.cellsOf 40)) = xs[3]? := hf 3 _ rfl
  rw [List.getElem?_eq_getElem (by omega)] at f3
  simp only [show Try.prog.cellsOf 40 = 2 by kernel_rfl] at f3
  have f4 : DataW.trod enc Try.prog w base spare held n 42 (([c0, c1, c2, c3, c4, c5, c6, c7, c8, c9, c10, c11, c12, c13].drop 8).take (Try.prog.cellsOf 42)) = xs[4]? := hf 4 _ rfl
  rw [List.getElem?_eq_getElem (by omega)] at f4
  simp only [show Try.prog.cellsOf 42 = 6 by kernel_rfl] at f4
  have s0 := (flat_trod Try.prog 12 40 2 _ _ _ (by kernel_rfl) f0).2
  obtain ⟨k0, rfl, b0⟩ := s0 0 c0 rfl
  obtain ⟨k1, rfl, b1⟩ := s0 1 c1 rfl
  have s1 := (flat_trod Try.prog 12 40 2 _ _ _ (by kernel_rfl) f1).2
  obtain ⟨k2, rfl, b2⟩ := s1 0 c2 rfl
  obtain ⟨k3, rfl, b3⟩ := s1 1 c3 rfl
  have s2 := (flat_trod Try.prog 12 40 2 _ _ _ (by kernel_rfl) f2).2
  obtain ⟨k4, rfl, b4⟩ := s2 0 c4 rfl
  obtain ⟨k5, rfl, b5⟩ := s2 1 c5 rfl
  have s3 := (flat_trod Try.prog 12 40 2 _ _ _ (by kernel_rfl) f3).2
  obtain ⟨k6, rfl, b6⟩ := s3 0 c6 rfl
  obtain ⟨k7, rfl, b7⟩ := s3 1 c7 rfl
  have s4 := (flat_trod Try.prog 12 42 6 _ _ _ (by kernel_rfl) f4).2
  obtain ⟨k8, rfl, b8⟩ := s4 0 c8 rfl
  obtain ⟨k9, rfl, b9⟩ := s4 1 c9 rfl
  obtain ⟨k10, rfl, b10⟩ := s4 2 c10 rfl
  obtain ⟨k11, rfl, b11⟩ := s4 3 c11 rfl
  obtain ⟨k12, rfl, b12⟩ := s4 4 c12 rfl
  obtain ⟨k13, rfl, b13⟩ := s4 5 c13 rfl
  exact ⟨⟨⟨k0, k1⟩, ⟨k2, k3⟩, ⟨k4, k5⟩, ⟨k6, k7⟩, ⟨⟨k8, k9⟩, ⟨k10, k11⟩, ⟨k12, k13⟩⟩⟩, rfl, i64_of b0, i64_of b1, i64_of b2, i64_of b3, i64_of b4, i64_of b5, i64_of b6, i64_of b7, i64_of b8, i64_of b9, i64_of b10, i64_of b11, i64_of b12, i64_of b13⟩
theorem state_trod {fuel : Nat} {cs : List Value} {x : DataW H × List MemPlace} (h : DataW.trod enc Try.prog w base spare held fuel 46 cs = some x) :
    ∃ (a : State), cs = a.cells ∧ I64 a.t ∧ I64 a.p.x.lo ∧ I64 a.p.x.hi ∧ I64 a.p.y.lo ∧ I64 a.p.y.hi ∧ I64 a.p.z.lo ∧ I64 a.p.z.hi ∧ I64 a.v.x.lo ∧ I64 a.v.x.hi ∧ I64 a.v.y.lo ∧ I64 a.v.y.hi ∧ I64 a.v.z.lo ∧ I64 a.v.z.hi ∧ I64 a.m.lo ∧ I64 a.m.hi := by
  obtain ⟨xs, n, rfl, -, hl, hxl, hf⟩ := DataW.trod_struct Try.underlying46 h
  have hxl : xs.length = 4 := hxl
  have hC : Try.prog.cellsOf 46 = 15 := by kernel_rfl
  obtain ⟨c0, c1, c2, c3, c4, c5, c6, c7, c8, c9, c10, c11, c12, c13, c14, rfl⟩ := vals15 (hl.trans hC)
  have f0 : DataW.trod enc Try.prog w base spare held n 38 (([c0, c1, c2, c3, c4, c5, c6, c7, c8, c9, c10, c11, c12, c13, c14].drop 0).take (Try.prog.cellsOf 38)) = xs[0]? := hf 0 _ rfl
  rw [List.getElem?_eq_getElem (by omega)] at f0
  simp only [show Try.prog.cellsOf 38 = 1 by kernel_rfl] at f0
  have f1 : DataW.trod enc Try.prog w base spare held n 42 (([c0, c1, c2, c3, c4, c5, c6, c7, c8, c9, c10, c11, c12, c13, c14].drop 1).take (Try.prog.cellsOf 42)) = xs[1]? := hf 1 _ rfl
  rw [List.getElem?_eq_getElem (by omega)] at f1
  simp only [show Try.prog.cellsOf 42 = 6 by kernel_rfl] at f1
  have f2 : DataW.trod enc Try.prog w base spare held n 42 (([c0, c1, c2, c3, c4, c5, c6, c7, c8, c9, c10, c11, c12, c13, c14].drop 7).take (Try.prog.cellsOf 42)) = xs[2]? := hf 2 _ rfl
  rw [List.getElem?_eq_getElem (by omega)] at f2
  simp only [show Try.prog.cellsOf 42 = 6 by kernel_rfl] at f2
  have f3 : DataW.trod enc Try.prog w base spare held n 40 (([c0, c1, c2, c3, c4, c5, c6, c7, c8, c9, c10, c11, c12, c13, c14].drop 13).take (Try.prog.cellsOf 40)) = xs[3]? := hf 3 _ rfl
  rw [List.getElem?_eq_getElem (by omega)] at f3
  simp only [show Try.prog.cellsOf 40 = 2 by kernel_rfl] at f3
  have s0 := (flat_trod Try.prog 12 38 1 _ _ _ (by kernel_rfl) f0).2
  obtain ⟨k0, rfl, b0⟩ := s0 0 c0 rfl
  have s1 := (flat_trod Try.prog 12 42 6 _ _ _ (by kernel_rfl) f1).2
  obtain ⟨k1, rfl, b1⟩ := s1 0 c1 rfl
  obtain ⟨k2, rfl, b2⟩ := s1 1 c2 rfl
  obtain ⟨k3, rfl, b3⟩ := s1 2 c3 rfl
  obtain ⟨k4, rfl, b4⟩ := s1 3 c4 rfl
  obtain ⟨k5, rfl, b5⟩ := s1 4 c5 rfl
  obtain ⟨k6, rfl, b6⟩ := s1 5 c6 rfl
  have s2 := (flat_trod Try.prog 12 42 6 _ _ _ (by kernel_rfl) f2).2
  obtain ⟨k7, rfl, b7⟩ := s2 0 c7 rfl
  obtain ⟨k8, rfl, b8⟩ := s2 1 c8 rfl
  obtain ⟨k9, rfl, b9⟩ := s2 2 c9 rfl
  obtain ⟨k10, rfl, b10⟩ := s2 3 c10 rfl
  obtain ⟨k11, rfl, b11⟩ := s2 4 c11 rfl
  obtain ⟨k12, rfl, b12⟩ := s2 5 c12 rfl
  have s3 := (flat_trod Try.prog 12 40 2 _ _ _ (by kernel_rfl) f3).2
  obtain ⟨k13, rfl, b13⟩ := s3 0 c13 rfl
  obtain ⟨k14, rfl, b14⟩ := s3 1 c14 rfl
  exact ⟨⟨k0, ⟨⟨k1, k2⟩, ⟨k3, k4⟩, ⟨k5, k6⟩⟩, ⟨⟨k7, k8⟩, ⟨k9, k10⟩, ⟨k11, k12⟩⟩, ⟨k13, k14⟩⟩, rfl, i64_of b0, i64_of b1, i64_of b2, i64_of b3, i64_of b4, i64_of b5, i64_of b6, i64_of b7, i64_of b8, i64_of b9, i64_of b10, i64_of b11, i64_of b12, i64_of b13, i64_of b14⟩
end
end Go.Proofs.Ytffbipcdlnfihaa
