/-
  The True struct of layer 6's outright statements, and a list of measurements, opened.
  NavKeeps: of any true place and velocity, any list of measurements and any number of rounds: no condition.
-/
import Derived.Test.YtehllellaecfbaaNavKeptW
import Derived.Test.YtehllellaecfbaaOpenAll
import Derived.Test.YtehllellaecfbaaRows
namespace Go.Proofs.Ytehllellaecfbaa
open Go.RowKit Go.ChangeShapes Go.WideShapes Go.ChangeAt Go.Deep
set_option maxRecDepth 100000
set_option maxHeartbeats 8000000
section
variable {H : Type} {enc : TypeId × Value → H} {P : Program} {w : World} {base : Nat} {spare : Nat → Bool} {held : Bool}
theorem ints_trod {fuel : Nat} {cs : List Value} {x : DataW H × List MemPlace} {t e : TypeId} {n : Nat} {k : IntKind} (ht : P.underlying t = some (.array n e)) (he : P.underlying e = some (.int k)) (hc : P.cellsOf t = n) (h1 : P.cellsOf e = 1)
    (h0 : (Lit.int k 0).wf = true) (h : DataW.trod enc P w base spare held fuel t cs = some x) : ∃ f : Nat → Int, cs = (List.range n).map (fun j => .int k (f j)) ∧ ∀ j, (Lit.int k (f j)).wf = true := by
  obtain ⟨xs, m, rfl, -, hl, hxl, hf⟩ := DataW.trod_array ht h
  rw [hc] at hl
  have H : ∀ j, ∃ y : Int, (j < n → cs[j]? = some (.int k y)) ∧ (Lit.int k y).wf = true := by
    intro j
    by_cases hj : j < n
    · have hj' := hf j hj
      rw [h1, Nat.mul_one, List.getElem?_eq_getElem (by omega)] at hj'
      obtain ⟨y, e1, -, hw⟩ := DataW.trod_int he hj'
      refine ⟨y, fun _ => ?_, hw⟩
      have : ((cs.drop j).take 1)[0]? = some (.int k y) := by rw [e1]; rfl
      simpa [List.getElem?_take, List.getElem?_drop] using this
    · exact ⟨0, fun h => absurd h hj, h0⟩
  refine ⟨fun j => Classical.choose (H j), ?_, fun j => (Classical.choose_spec (H j)).2⟩
  apply List.ext_getElem?
  intro i
  by_cases hi : i < n
  · rw [(Classical.choose_spec (H i)).1 hi]
    simp [hi]
  · rw [List.getElem?_eq_none (by omega), List.getElem?_eq_none (by simp; omega)]
end
theorem b64_of {b : Bx} (h1 : I64 b.x.lo) (h2 : I64 b.x.hi) (h3 : I64 b.y.lo) (h4 : I64 b.y.hi) (h5 : I64 b.z.lo) (h6 : I64 b.z.hi) : B64 b := ⟨⟨h1, h2⟩, ⟨h3, h4⟩, ⟨h5, h6⟩⟩
section
variable {H : Type} {enc : TypeId × Value → H} {w : World} {base : Nat} {spare : Nat → Bool} {held : Bool}
theorem vals12 {cs : List Value} (h : cs.length = 12) : ∃ c0 c1 c2 c3 c4 c5 c6 c7 c8 c9 c10 c11, cs = [c0, c1, c2, c3, c4, c5, c6, c7, c8, c9, c10, c11] := by
  match cs, h with | [c0, c1, c2, c3, c4, c5, c6, c7, c8, c9, c10, c11], _ => exact ⟨c0, c1, c2, c3, c4, c5, c6, c7, c8, c9, c10, c11, rfl⟩
theorem true_trod {fuel : Nat} {cs : List Value} {x : DataW H × List MemPlace} (h : DataW.trod enc Try.prog w base spare held fuel 35 cs = some x) :
    ∃ x : Tr, cs = x.cells ∧ x.Ok := by
  obtain ⟨xs, n, rfl, -, hl, hxl, hf⟩ := DataW.trod_struct Try.underlying35 h
  have hxl : xs.length = 3 := hxl
  have hC : Try.prog.cellsOf 35 = 12 := by kernel_rfl
  have hA : Try.prog.cellsOf 31 = 3 := by kernel_rfl
  have hB : Try.prog.cellsOf 33 = 6 := by kernel_rfl
  obtain ⟨c0, c1, c2, c3, c4, c5, c6, c7, c8, c9, c10, c11, rfl⟩ := vals12 (hl.trans hC)
  have f0 : DataW.trod enc Try.prog w base spare held n 31 (([c0, c1, c2, c3, c4, c5, c6, c7, c8, c9, c10, c11].drop 0).take (Try.prog.cellsOf 31)) = xs[0]? := hf 0 _ rfl
  have f1 : DataW.trod enc Try.prog w base spare held n 31 (([c0, c1, c2, c3, c4, c5, c6, c7, c8, c9, c10, c11].drop 3).take (Try.prog.cellsOf 31)) = xs[1]? := hf 1 _ rfl
  have f2 : DataW.trod enc Try.prog w base spare held n 33 (([c0, c1, c2, c3, c4, c5, c6, c7, c8, c9, c10, c11].drop 6).take (Try.prog.cellsOf 33)) = xs[2]? := hf 2 _ rfl
  rw [List.getElem?_eq_getElem (by omega), hA] at f0 f1
  rw [List.getElem?_eq_getElem (by omega), hB] at f2
  obtain ⟨p, e0, b0⟩ := ints_trod Try.underlying31 Try.underlying21 hA (by kernel_rfl) (by decide) f0
  obtain ⟨v, e1, b1⟩ := ints_trod Try.underlying31 Try.underlying21 hA (by kernel_rfl) (by decide) f1
  obtain ⟨d, e2, b2⟩ := ints_trod Try.underlying33 Try.underlying32 hB (by kernel_rfl) (by decide) f2
  simp [List.range, List.range.loop] at e0 e1 e2
  refine ⟨⟨p, v, d⟩, ?_, ?_, ?_, ?_⟩
  · simp [Tr.cells, e0, e1, e2]
  · intro i
    simpa [Lit.wf, IntKind.min, IntKind.max, IntKind.signed, IntKind.bits] using b0 i
  · intro i
    simpa [Lit.wf, IntKind.min, IntKind.max, IntKind.signed, IntKind.bits] using b1 i
  · intro i
    simpa [Lit.wf, IntKind.min, IntKind.max, IntKind.signed, IntKind.bits] using b2 i
theorem radios_trod {fuel : Nat} {cs : List Value} {x : DataW H × List MemPlace} (h : DataW.trod enc Try.prog w base spare held fuel 36 cs = some x) :
    ∃ (ao : Option Addr) (cap : Nat) (l : List Radio), cs = [.slice ao l.length cap] ∧ SlAt w (.slice ao l.length cap) l.length (l.flatMap Radio.cells) ∧ ∀ m ∈ l, Ra64 m := by
  obtain ⟨ao, n, cap, l, e, hn, h1, h2⟩ := slice_trod Radio.cells (c := 15) (fun _ => rfl) Ra64 Try.underlying36 (by kernel_rfl) (fun m cs' x' h' => by
    obtain ⟨hl, hi⟩ := flat_trod Try.prog 12 43 15 m cs' x' (by kernel_rfl) h'
    obtain ⟨ns, e, hb⟩ := allInt_list cs' hi
    rw [e, List.length_map] at hl
    obtain ⟨c0, c1, c2, c3, c4, c5, c6, c7, c8, c9, c10, c11, c12, c13, c14, rfl⟩ : ∃ c0 c1 c2 c3 c4 c5 c6 c7 c8 c9 c10 c11 c12 c13 c14, ns = [c0, c1, c2, c3, c4, c5, c6, c7, c8, c9, c10, c11, c12, c13, c14] := by
      match ns, hl with | [c0, c1, c2, c3, c4, c5, c6, c7, c8, c9, c10, c11, c12, c13, c14], _ => exact ⟨c0, c1, c2, c3, c4, c5, c6, c7, c8, c9, c10, c11, c12, c13, c14, rfl⟩
    exact ⟨⟨c0, ⟨⟨c1, c2⟩, ⟨c3, c4⟩, ⟨c5, c6⟩⟩, ⟨⟨c7, c8⟩, ⟨c9, c10⟩, ⟨c11, c12⟩⟩, ⟨c13, c14⟩⟩, e, ⟨b64_of (hb c1 (by simp)) (hb c2 (by simp)) (hb c3 (by simp)) (hb c4 (by simp)) (hb c5 (by simp)) (hb c6 (by simp)), b64_of (hb c7 (by simp)) (hb c8 (by simp)) (hb c9 (by simp)) (hb c10 (by simp)) (hb c11 (by simp)) (hb c12 (by simp)), ⟨hb c13 (by simp), hb c14 (by simp)⟩⟩⟩) h
  subst hn
  exact ⟨ao, cap, l, e, h1, h2⟩
end
theorem open_byte {H : Type} {enc : TypeId × Value → H} {P : Program} {w : World} {base : Nat} {spare : Nat → Bool} {held : Bool} {r : Reach} {b0 : Nat} {t : TypeId} {v : Value} {d : DataW H} {p : List MemPlace} (hs : P.underlying t = some (.int .u8))
    (hv : Value.okWide P w r b0 t v) (h : DataW.Trod enc P w base spare held t v d p) : ∃ k : Int, v = .int .u8 k ∧ 0 ≤ k ∧ k ≤ 255 := by
  obtain ⟨k, rfl, -, -, hw⟩ := open_int hs hv h
  exact ⟨k, rfl, by simpa [Lit.wf, IntKind.min, IntKind.max, IntKind.signed, IntKind.bits] using hw⟩
end Go.Proofs.Ytehllellaecfbaa
namespace Go.Proofs.Ytehllellaecfbaa
open Go.RowKit Go.ChangeShapes Go.WideShapes Go.ChangeAt Go.Deep
set_option maxRecDepth 100000
set_option maxHeartbeats 8000000
namespace navKeepsRow
open Go.ChangeShapes Go.WideShapes Go.ChangeAt Go.RowKit
theorem own : ownKnob Try.prog.godebug = none := by kernel_rfl
theorem lifted (os : Os) (started : os.Started) (H : Type) (enc : TypeId × Value → H) :
    ReturnsInHanded {} Try.checked os 6 .any (Rows.navKeepsSpec.pre6 enc Try.prog Try.f6 Rows.navKeepsRow.domain false) (Rows.navKeepsSpec.post enc Try.prog Try.f6 false true false false) := by
  refine returnsInHanded_of_change (C := Try.checked) own started (by kernel_rfl) Try.func6
    (ChangeSpec.witness6 (enc := enc) (C := Try.checked) false ⟨#[], #[.agg #[.int .i32 0, .int .i32 0, .int .i32 0, .int .i32 0, .int .i32 0, .int .i32 0, .int .u16 0, .int .u16 0, .int .u16 0, .int .u16 0, .int .u16 0, .int .u16 0], .slice none 0 0, .int .u8 0], []⟩ 8 (by as_aux_lemma => kernel_rfl) (by as_aux_lemma => kernel_rfl) (by as_aux_lemma => kernel_rfl) (by as_aux_lemma => kernel_rfl)) ?_
  intro W base args ds gs before hval0 hW _ _
  have hval : ∀ (j : Nat) t v, Try.f6.params[j]? = some t → args[j]? = some v → Value.okWide Try.prog W .any base t v := hval0
  have hW' := hW
  obtain ⟨p, q, hA0, hV, rfl, hfz, hnd⟩ := hW
  have hA : DataW.TrodAll enc Try.prog W 0 (fun _ => true) true Try.f6.params.toList args.toList ds p := hA0
  rw [Try.params6] at hA hval
  obtain ⟨v0, vs0, d0, ds0, p0, q0, hargs, rfl, rfl, h0, r0⟩ := trodAll_cons hA
  obtain ⟨v1, vs1, d1, ds1, p1, q1, rfl, rfl, rfl, h1, r1⟩ := trodAll_cons r0
  obtain ⟨v2, vs2, d2, ds2, p2, q2, rfl, rfl, rfl, h2, r2⟩ := trodAll_cons r1
  obtain ⟨rfl, rfl, rfl⟩ := trodAll_nil r2
  obtain rfl : args = #[v0, v1, v2] := by cases args; simp_all
  obtain ⟨rfl, rfl⟩ := trodVars_none hV
  obtain ⟨cs0, rfl, -⟩ := okWide_struct Try.underlying35 (hval 0 35 v0 rfl rfl)
  obtain ⟨ao1, n1, cap1, rfl⟩ := okWide_slice Try.underlying36 (hval 1 36 v1 rfl rfl)
  obtain ⟨a2, rfl, g0, g1⟩ := open_byte Try.underlying5 (hval 2 5 v2 rfl rfl) h2
  obtain ⟨_, h0⟩ := h0
  obtain ⟨_, h1⟩ := h1
  obtain ⟨x, e3, hx⟩ := true_trod h0
  obtain ⟨ao, cap, l, e1, hl, hT⟩ := radios_trod h1
  obtain rfl : cs0 = x.cells.toArray := Array.ext' (by simpa [Value.cells] using e3)
  obtain ⟨rfl, rfl, rfl⟩ : ao1 = ao ∧ n1 = l.length ∧ cap1 = cap := by simpa [Value.cells] using e1
  refine (keeps_walk x hx l a2 g0 g1 hT ao1 cap1 W hl).mono fun e W' ⟨he, hg⟩ => ?_
  subst he
  exact ⟨_, rfl, law_post (by kernel_rfl) (by kernel_rfl) rfl rfl Try.underlying4 hW' rfl hg⟩
theorem proved : Rows.NavKeepsSaid :=
  OpenClaim.holds_of_wide 6 Try.f6 rfl rfl rfl rfl rfl rfl rfl ⟨rfl, rfl, rfl, rfl, rfl⟩ rfl rfl rfl rfl rfl (by as_aux_lemma => kernel_rfl) Try.func6 (by as_aux_lemma => kernel_rfl)
    (of_decide_eq_true (by as_aux_lemma => kernel_rfl)) (by unfold Func.isWrapper; first | (rw [if_pos (by decide +kernel)]; kernel_rfl) | (rw [if_neg (by decide +kernel)]; exact ⟨rfl, rfl⟩))
    (fun os started H enc _ => lifted os started H enc)
end navKeepsRow
end Go.Proofs.Ytehllellaecfbaa
