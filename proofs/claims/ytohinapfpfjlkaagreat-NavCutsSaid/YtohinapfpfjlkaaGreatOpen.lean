/-
  Arguments opened: a value whose cells are all integers (structs of structs, arrays of structs); and the last step of every law's row: what a law that only makes new memory leaves.
-/
import Derived.Test.YtohinapfpfjlkaaGreatCore
import Derived.ProofKit
import Derived.OpenShut
import Derived.Deep.Slices
namespace Go.Proofs.YtohinapfpfjlkaaGreat
open Go.RowKit Go.ChangeShapes Go.WideShapes Go.ChangeAt Go.Deep

/-- All cells of the type are of int's kind; n of them. -/
def flatInt (P : Program) : Nat → TypeId → Nat → Bool
  | 0, _, _ => false
  | f + 1, t, n =>
    match P.underlying t with
    | some (.int .i64) => n == 1
    | some (.struct fs) => P.cellsOf t == n && (fs.toList.foldl (fun (a : Option Nat) (x : Field) => a.bind fun o => if x.offset == o && flatInt P f x.type (P.cellsOf x.type) then some (o + P.cellsOf x.type) else none) (some 0) == some n)
    | some (.array m e) => P.cellsOf t == n && flatInt P f e (P.cellsOf e) && n == m * P.cellsOf e
    | _ => false

def AllInt (cs : List Value) : Prop := ∀ (i : Nat) v, cs[i]? = some v → ∃ k : Int, v = .int .i64 k ∧ (Lit.int .i64 k).wf = true
theorem AllInt.nil : AllInt [] := fun i v h => by simp at h
theorem AllInt.append {a b : List Value} (ha : AllInt a) (hb : AllInt b) : AllInt (a ++ b) := fun i v h => by
  rw [List.getElem?_append] at h
  split at h
  · exact ha _ _ h
  · exact hb _ _ h

section
variable {H : Type} {enc : TypeId × Value → H} {P : Program} {w : World} {base : Nat} {spare : Nat → Bool} {held : Bool}

theorem flat_fold (P : Program) (f : Nat) (l : List Field) : ∀ (o n : Nat),
    l.foldl (fun (a : Option Nat) (x : Field) => a.bind fun o => if x.offset == o && flatInt P f x.type (P.cellsOf x.type) then some (o + P.cellsOf x.type) else none) (some o) = some n →
    o ≤ n ∧ ∀ (cs : List Value), (∀ x ∈ l, flatInt P f x.type (P.cellsOf x.type) = true → AllInt ((cs.drop x.offset).take (P.cellsOf x.type))) → AllInt ((cs.drop o).take (n - o)) := by
  have hnone : ∀ (l : List Field), l.foldl (fun (a : Option Nat) (x : Field) => a.bind fun o => if x.offset == o && flatInt P f x.type (P.cellsOf x.type) then some (o + P.cellsOf x.type) else none) none = none := by
    intro l
    induction l with
    | nil => rfl
    | cons x l ih => simpa using ih
  induction l with
  | nil =>
    intro o n h
    simp at h
    subst h
    exact ⟨Nat.le_refl _, fun cs _ => by simp [AllInt.nil]⟩
  | cons x l ih =>
    intro o n h
    simp only [List.foldl_cons, Option.bind_some] at h
    by_cases hx : (x.offset == o && flatInt P f x.type (P.cellsOf x.type)) = true
    · rw [if_pos hx] at h
      obtain ⟨h1, h2⟩ := ih _ _ h
      simp only [Bool.and_eq_true, beq_iff_eq] at hx
      refine ⟨by omega, fun cs hc => ?_⟩
      have ha := hc x (by simp) hx.2
      rw [hx.1] at ha
      have hb := h2 cs (fun y hy => hc y (by simp [hy]))
      have e : (cs.drop o).take (n - o) = (cs.drop o).take (P.cellsOf x.type) ++ (cs.drop (o + P.cellsOf x.type)).take (n - (o + P.cellsOf x.type)) := by
        rw [← List.drop_drop, show n - o = P.cellsOf x.type + (n - (o + P.cellsOf x.type)) by omega, List.take_add]
      rw [e]
      exact ha.append hb
    · rw [if_neg hx, hnone] at h
      cases h

theorem flat_trod (P : Program) : ∀ (f : Nat) (t : TypeId) (n fuel : Nat) (cs : List Value) (x : DataW H × List MemPlace), flatInt P f t n = true →
    DataW.trod enc P w base spare held fuel t cs = some x → cs.length = n ∧ AllInt cs
  | 0, _, _, _, _, _, h, _ => by simp [flatInt] at h
  | f + 1, t, n, fuel, cs, x, h, ht => by
    unfold flatInt at h
    split at h
    · rename_i hu
      obtain ⟨k, rfl, -, hw⟩ := DataW.trod_int hu ht
      simp at h
      subst h
      refine ⟨rfl, fun i v hi => ?_⟩
      match i, hi with
      | 0, hi => simp at hi; exact ⟨k, hi.symm, hw⟩
    · rename_i fs hu
      obtain ⟨xs, m, rfl, -, hl, hxl, hf⟩ := DataW.trod_struct hu ht
      have h1 := beq_iff_eq.1 (Bool.and_eq_true_iff.1 h).1
      have h2 := beq_iff_eq.1 (Bool.and_eq_true_iff.1 h).2
      obtain ⟨-, h3⟩ := flat_fold P f fs.toList 0 n h2
      have hn : cs.length = n := hl.trans h1
      refine ⟨hn, ?_⟩
      have := h3 cs (fun y hy hfl => by
        obtain ⟨i, hi⟩ := List.mem_iff_getElem?.1 hy
        have hi' : fs[i]? = some y := by simpa using hi
        have hlt : i < fs.size := (Array.getElem?_eq_some_iff.1 hi').1
        have e := hf i y hi'
        rw [List.getElem?_eq_getElem (by omega)] at e
        exact (flat_trod P f _ _ _ _ _ hfl e).2)
      simpa [← hn] using this
    · rename_i m e hu
      obtain ⟨xs, k, rfl, -, hl, hxl, hf⟩ := DataW.trod_array hu ht
      simp only [Bool.and_eq_true, beq_iff_eq] at h
      obtain ⟨⟨h1, h2⟩, h3⟩ := h
      have hn : cs.length = n := hl.trans h1
      refine ⟨hn, ?_⟩
      have key : ∀ j, j ≤ m → AllInt (cs.take (j * P.cellsOf e)) := by
        intro j
        induction j with
        | zero => intro _; simp [AllInt.nil]
        | succ j ih =>
          intro hj
          rw [Nat.succ_mul, List.take_add]
          refine (ih (by omega)).append ?_
          have e1 := hf j (by omega)
          rw [List.getElem?_eq_getElem (by omega)] at e1
          exact (flat_trod P f _ _ _ _ _ h2 e1).2
      have := key m (Nat.le_refl _)
      rwa [← h3, ← hn, List.take_length] at this
    · cases h

/-- The integers of cells that are all integers. -/
theorem allInt_list (cs : List Value) (h : AllInt cs) : ∃ ns : List Int, cs = ns.map (.int .i64) ∧ ∀ k ∈ ns, -9223372036854775808 ≤ k ∧ k ≤ 9223372036854775807 := by
  induction cs with
  | nil => exact ⟨[], rfl, by simp⟩
  | cons v cs ih =>
    obtain ⟨k, rfl, hw⟩ := h 0 v rfl
    obtain ⟨ns, rfl, hb⟩ := ih (fun i v hi => h (i + 1) v (by simpa using hi))
    refine ⟨k :: ns, rfl, fun j hj => ?_⟩
    rcases List.mem_cons.1 hj with rfl | hj
    · simpa [Lit.wf, IntKind.min, IntKind.max, IntKind.signed, IntKind.bits] using hw
    · exact hb j hj

/-- A struct or array argument of integers alone. -/
theorem open_flat {r : Reach} {b0 : Nat} {t : TypeId} {v : Value} {d : DataW H} {p : List MemPlace} (n : Nat) (hfl : flatInt P 12 t n = true) {fs : Array Field} (hs : P.underlying t = some (.struct fs))
    (hv : Value.okWide P w r b0 t v) (h : DataW.Trod enc P w base spare held t v d p) :
    ∃ ns : List Int, v = .agg (ns.map (Value.int .i64)).toArray ∧ ns.length = n ∧ ∀ k ∈ ns, -9223372036854775808 ≤ k ∧ k ≤ 9223372036854775807 := by
  obtain ⟨cs, rfl, hsz⟩ := okWide_struct hs hv
  obtain ⟨fuel, hf⟩ := h
  obtain ⟨h1, h2⟩ := flat_trod P 12 t n fuel _ _ hfl hf
  obtain ⟨ns, e, hb⟩ := allInt_list _ h2
  refine ⟨ns, ?_, ?_, hb⟩
  · congr 1
    apply Array.ext'
    simpa [Value.cells] using e
  · rw [← h1, e]; simp
theorem open_num {r : Reach} {b0 : Nat} {t : TypeId} {v : Value} {d : DataW H} {p : List MemPlace} (hs : P.underlying t = some (.int .i64))
    (hv : Value.okWide P w r b0 t v) (h : DataW.Trod enc P w base spare held t v d p) : ∃ k : Int, v = .int .i64 k ∧ -9223372036854775808 ≤ k ∧ k ≤ 9223372036854775807 := by
  obtain ⟨k, rfl, -, -, hw⟩ := open_int hs hv h
  exact ⟨k, rfl, by simpa [Lit.wf, IntKind.min, IntKind.max, IntKind.signed, IntKind.bits] using hw⟩
end

theorem list3 {l : List Int} (h : l.length = 3) : ∃ a b c, l = [a, b, c] := by
  match l, h with | [a, b, c], _ => exact ⟨a, b, c, rfl⟩
theorem trodAll_grew {H : Type} {enc : TypeId × Value → H} {P : Program} (hl : laidOutB P = true) {W W' : World} (hb : Grew W W') (sp : Nat → Bool) :
    ∀ (ts : List TypeId) (vs : List Value) (ds : List (DataW H)) (ps : List MemPlace), ts.all (fun t => P.readableRec t && decide (t < P.types.size)) = true → (∀ x ∈ ps, x.block < W.heap.size) → (∀ x ∈ ps, sp x.block = true) →
      DataW.TrodAll enc P W 0 (fun _ => true) true ts vs ds ps → DataW.TrodAll enc P W' 0 sp true ts vs ds ps
  | [], vs, ds, ps, _, _, _, h => by
    obtain ⟨rfl, rfl, rfl⟩ := trodAll_nil h
    exact trodAll_mk0
  | t :: ts, vs, ds, ps, hr, hp, hs, h => by
    obtain ⟨v, vs', d, ds', p, q, rfl, rfl, rfl, h0, r0⟩ := trodAll_cons h
    simp only [List.all_cons, Bool.and_eq_true, decide_eq_true_eq] at hr
    exact trodAll_cons_mk (WideElems.Trod_stays hl hr.1.1 hr.1.2 h0 (fun x hx => Below.same hb (hp x (by simp [hx]))) (fun x hx => hs x (by simp [hx])))
      (trodAll_grew hl hb sp ts vs' ds' q hr.2 (fun x hx => hp x (by simp [hx])) (fun x hx => hs x (by simp [hx])) r0)

/-- The last step of a law's row: the law returned true and only made new memory: its arguments read as they did. -/
theorem law_post {H : Type} {enc : TypeId × Value → H} {P : Program} {f : Func} {s : ChangeSpec} {W W' : World} {args : Array Value} {ds gs : List (DataW H)} {before : List MemPlace} {tb : TypeId}
    (hl : laidOutB P = true) (hr : f.params.toList.all (fun t => P.readableRec t && decide (t < P.types.size)) = true) (hvars : s.vars = []) (hrt : f.resultTypes = #[tb]) (htb : P.underlying tb = some .bool)
    (hW : DataW.Whole enc P f.params.toList s.vars false W args.toList ds gs before) (hs : s.fn H (ds ++ []) = { results := [.lit (.bool true)], args := ds }) (hg : Grew W W') :
    s.post enc P f false true false false W args (.bool true) W' := by
  have hlt : ∀ p ∈ before, p.block < W.heap.size := fun p hp => hW.lt p hp
  have hW0 := hW
  obtain ⟨p, q, hA0, hV, hpq, hz, hn⟩ := hW
  rw [hvars] at hV
  obtain ⟨rfl, rfl⟩ := trodVars_none hV
  rw [List.append_nil] at hpq
  subst hpq
  have hargs : ∀ sp : Nat → Bool, (∀ p' ∈ before, sp p'.block = true) → DataW.TrodAll enc P W' 0 sp true f.params.toList args.toList ds before := fun sp h => trodAll_grew hl hg sp _ _ _ _ hr hlt h hA0
  have hres : ∀ (b : Nat) (sp : Nat → Bool) (hd : Bool), DataW.TrodAll enc P W' b sp hd f.resultTypes.toList ((Value.bool true).resultList f.resultTypes.size) [.lit (.bool true)] [] := by
    intro b sp hd
    rw [hrt]
    exact trodAll_cons_mk (shut_bool htb true) trodAll_mk0
  refine ⟨ds, [], before, [], before, [], hW0, ?_, ?_, ?_, ?_, fun h => by cases h⟩
  · rw [hs]; exact hres _ _ _
  · rw [hs]; exact hargs _ (fun p' hp' => by simpa using hlt p' hp')
  · rw [hs, hvars]; exact rfl
  · exact World.keptBut_mono (fun p' hp' => ⟨hp', .inr (by simpa using hp')⟩) (Below.frame hg (· ∈ before))
end Go.Proofs.YtohinapfpfjlkaaGreat
