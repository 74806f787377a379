/-
  nav.Fuse and nav.fuse alone (the first half of FuseWalks), for claims that need no reference.
-/
import Derived.Test.YtdkfkalplmgoeaaFuseAll
import Derived.Test.YtdkfkalplmgoeaaRowMid
namespace Go.Proofs.Ytdkfkalplmgoeaa
open Go.RowKit Go.Shelf
set_option maxRecDepth 100000
set_option maxHeartbeats 8000000
instance : StructTy 49 15 := ⟨⟨_, Try.underlying49, rfl⟩, by kernel_rfl⟩
instance cLen_state (s : State) : CLen s.cells 15 := ⟨rfl⟩
instance cLen_radio (m : Radio) : CLen m.cells 15 := ⟨rfl⟩
theorem one_of {l : List Value} (h : l.all Value.oneCell' = true) : ∀ v ∈ l, v.oneCell' = true := List.all_eq_true.1 h
instance oneCells_state (s : State) : OneCells s.cells 15 := ⟨rfl, one_of rfl⟩
instance oneCells_radio (m : Radio) : OneCells m.cells 15 := ⟨rfl, one_of rfl⟩
instance rowOf_is (w : World) (b : Nat) (t : TypeId) (l : List Value) (n : Nat) [h : RowIs w b t l] [k : CLen l n] : RowOf w b t n := ⟨_, h.is, by simp [k.len]⟩
abbrev zeros15 : List Value := [.int .i64 0, .int .i64 0, .int .i64 0, .int .i64 0, .int .i64 0, .int .i64 0, .int .i64 0, .int .i64 0, .int .i64 0, .int .i64 0, .int .i64 0, .int .i64 0, .int .i64 0, .int .i64 0, .int .i64 0]
theorem res_three {fn : Func} {tmps : Array Value} {W : World} {p q r : Tmp} {ty t : TypeId} {b n : Nat} {l : List Value} {v v2 : Value} (h : fn.results = #[.cell p ty, .tmp q, .tmp r]) (hp : tmps.getD p undef = .pointer (some ⟨b, 0, none⟩)) (hq : tmps.getD q undef = v) (hr2 : tmps.getD r undef = v2) (hs : StructTy ty n) (hr : RowIs W b t l) (hl : CLen l n) :
    (results fn tmps).run Try.prog W = .ok (.tuple #[.agg l.toArray, v, v2]) W := by
  have h3 := loadVar_is (ty := ty) hs hr hl.len
  simp only [Array.getD_eq_getD_getElem?] at hp hq hr2
  simp [results, h, asAddr, hp, hq, hr2, h3]
structure FuseAt (w : World) (q4 q8 : Nat) (S : State) (z : World) : Prop where
  grew : Grew w z
  r4 : RowIs z q4 43 S.cells
  r8 : RowIs z q8 43 zeros15
structure InAt (w : World) (q4 q8 q11 : Nat) (S S' : State) (z : World) : Prop where
  on : FuseAt w q4 q8 S' z
  was : RowIs z q11 43 S.cells
section
variable {s : State} {m : Radio} [hp : Pv64 s] [hm : Ra64 m]
theorem navCut_yes (hk : m.okB = true) (h : cutE s m = 0) (w : World) : Calls Try.prog 48 #[.agg s.cells.toArray, .agg m.cells.toArray] w fun e w' => e = .returned (.tuple #[.agg (cutS s m).cells.toArray, .int .i64 0]) ∧ Grew w w' := by
  have := navCut_any s m (radio_kind hk).1 (radio_kind hk).2 w
  rw [← cutR_ok h] at this
  exact this
theorem navCut_not (hk : m.okB = true) (h : cutE s m ≠ 0) (w : World) : Calls Try.prog 48 #[.agg s.cells.toArray, .agg m.cells.toArray] w fun e w' => e = .returned (.tuple #[.agg State.zero.cells.toArray, .int .i64 (cutE s m)]) ∧ Grew w w' := by
  have := navCut_any s m (radio_kind hk).1 (radio_kind hk).2 w
  rw [← cutR_no h] at this
  exact this
end
def RetF (r : ResF) (w : World) (e : Ending) (w' : World) : Prop := e = .returned (.tuple #[.agg r.s.cells.toArray, .int .i64 r.n, .bool (decide (r.e = 0))]) ∧ Grew w w'
theorem ret_f {s : State} {n e : Int} {b : Bool} {r : ResF} (h : r = ⟨s, n, e⟩) (hb : b = decide (e = 0)) : Ending.returned (.tuple #[.agg s.cells.toArray, .int .i64 n, .bool b]) = .returned (.tuple #[.agg r.s.cells.toArray, .int .i64 r.n, .bool (decide (r.e = 0))]) := by subst h; subst hb; rfl
/-- A measurement is kept whose bit is not set. -/
def keepG (gone : Int) (k : Nat) : Bool := !(bits .and .i64 (gone / 2 ^ k) 1 == 1)
/-- Two states are the same. -/
def sameSt (a b : State) : Bool := decide (a.t = b.t) && sameBx a.p b.p && sameBx a.v b.v && decide (a.m.lo = b.m.lo) && decide (a.m.hi = b.m.hi)
theorem sameSt_iff {a b : State} : sameSt a b = true ↔ a = b := by
  obtain ⟨t, p, v, ⟨m, n⟩⟩ := a
  obtain ⟨t', p', v', ⟨m', n'⟩⟩ := b
  unfold sameSt
  simp [and_assoc, sameBx_iff]
theorem eqState (a b : State) (w : World) : (Op.equalIn 10000 43 (.agg a.cells.toArray) (.agg b.cells.toArray)).run Try.prog w = .ok (sameSt a b) w := by
  have h1 := fun w => eqBox2 a.p b.p w
  have h2 := fun w => eqBox2 a.v b.v w
  unfold State.cells sameSt
  simp [go_sem, h1, h2]
  (repeat' split) <;> simp_all
theorem navFuse_any (s : State) (l : List Radio) (n gone : Int) [hp : Pv64 s] (hT : ∀ m ∈ l, Ra64 m) (hK : ∀ m ∈ l, m.okB = true) (hn : 0 ≤ n) (hn2 : n ≤ 16) (hl : l.length ≤ 16) (ao : Option Addr) (cap : Nat) (w : World) (hs : SlAt w (.slice ao l.length cap) l.length (l.flatMap Radio.cells)) :
    Calls Try.prog 35 #[.agg s.cells.toArray, .slice ao l.length cap, .int .i64 n, .int .i64 gone] w (RetF (fuseR (keepG gone) l n.toNat 0 s) w) := by
  obtain ⟨ao', cap', e1, -, hx⟩ := hs
  cases e1
  have HE := Lib.hid (SlAt.elem (f := Radio.cells) (c := 15) (fun _ => rfl) (by omega) hx)
  have HT := Lib.hid hT
  have HK := Lib.hid hK
  clear hx hT hK
  generalize hkeep : keepG gone = keep at *
  have Hkeep := Lib.hid hkeep
  clear hkeep
  generalize hF : fuseR keep l n.toNat 0 s = F at *
  have HF := Lib.hid hF
  clear hF
  have hEq := eqState
  have B1 := fun W => (inferInstance : RowIs (World.alloc W (.cells s.cells.toArray 43)) W.heap.size 43 s.cells)
  go_enter Try.func35, Try.ntmps35
  go_wp2
  go_loopw [9] (fun t wr => ∃ (u : Nat) (S : State) (z : World), z = wr ∧ t = .int .i64 u ∧ (u : Int) ≤ n ∧ Pv64 S ∧ Hid (FuseAt w w.heap.size (w.heap.size + 1) S z) ∧ Hid (fuseR keep l (n.toNat - u) u S = F)) (fun t _ => n.toNat - (intOf t).toNat)
  case atStart => exact ⟨0, s, _, rfl, rfl, hn, hp, Lib.hid ⟨gwr, inferInstance, inferInstance⟩, HF⟩
  case round =>
    obtain ⟨u, S, z, rfl, rfl, hu, hS, HS, HR⟩ := hrel
    clear hp
    have n4 : NewFor w w.heap.size := inferInstance
    have n8 : NewFor w (w.heap.size + 1) := inferInstance
    have r4 := HS.out.r4
    have r8 := HS.out.r8
    have l8 : w.heap.size + 1 < z.heap.size := r8.lt
    have l4 : w.heap.size < z.heap.size := by omega
    generalize h4 : w.heap.size = q4 at *
    generalize h8 : q4 + 1 = q8 at *
    have ib4 : BlockIn z q4 := ⟨l4⟩
    have ib8 : BlockIn z q8 := ⟨l8⟩
    by_cases hlt : (u : Int) < n
    · have HR0 := Lib.hid (show n.toNat - u = (n.toNat - (u + 1)) + 1 by omega)
      go_wp2_with (first | (with_reducible refine wLr ?_) | (with_reducible refine wLi ?_) | (with_reducible refine wSf ?_) | (with_reducible refine wSi ?_))
      go_loopw [9, 24] (fun m t wr => ∃ (k : Nat) (S' : State) (y : World), y = wr ∧ m = .int .i64 ((u : Int) + 1) ∧ t = .int .i64 k ∧ k ≤ l.length ∧ Pv64 S' ∧ Hid (InAt w q4 q8 z.heap.size S S' y) ∧ Hid (passR keep l 0 S = passR keep (l.drop k) k S')) (fun _ t _ => l.length - (intOf t).toNat)
      case atStart => exact ⟨0, S, _, rfl, rfl, rfl, by omega, hS, Lib.hid ⟨⟨HS.out.grew.trans gwr, inferInstance, inferInstance⟩, inferInstance⟩, Lib.hid rfl⟩
      case round =>
        obtain ⟨k, S', y, rfl, rfl, rfl, hk, hS', HI, HQ⟩ := hrel
        have n11 : NewFor w z.heap.size := ⟨Grew.size HS.out.grew⟩
        clear r4 r8 ib4 ib8 HS hS
        generalize z.heap.size = q11 at *
        obtain ⟨y', hy⟩ := later_of HI.out.on.grew
        subst hy
        have r4 := HI.out.on.r4
        have r8 := HI.out.on.r8
        have r11 := HI.out.was
        have ib4 : BlockIn y'.world q4 := r4.blockIn
        have ib8 : BlockIn y'.world q8 := r8.blockIn
        have ib11 : BlockIn y'.world q11 := r11.blockIn
        have : Apart (q4) (q8) := ⟨by omega⟩
        have : Apart (q4) (q11) := ⟨by omega⟩
        have : Apart (q8) (q4) := ⟨by omega⟩
        have : Apart (q8) (q11) := ⟨by omega⟩
        have : Apart (q11) (q4) := ⟨by omega⟩
        have : Apart (q11) (q8) := ⟨by omega⟩
        by_cases hkl : k < l.length
        · obtain ⟨b1, o1, e1, i1, hd1, hd2⟩ := HE.out k hkl
          cases e1
          have rg : RangeIs w b1 (o1 + k * 15) 15 l[k].cells := ⟨fun j v hv => hd2 j v hv, rfl⟩
          have j1 : BlockIn w b1 := ⟨by omega⟩
          clear hd1 hd2
          have hk16 : k ≤ 64 := by omega
          have G1 := Lib.hid (fun h => pass_skip (keep := keep) (s := S') hkl h)
          have G2 := Lib.hid (fun h h0 => pass_cut (keep := keep) (s := S') hkl h h0)
          have G3 := Lib.hid (fun h h7 => pass_none (keep := keep) (s := S') hkl h h7)
          have G4 := Lib.hid (fun h h0 h7 => pass_stay (keep := keep) (s := S') hkl h h0 h7)
          have hT := HT.out _ (List.getElem_mem hkl)
          have hK := HK.out _ (List.getElem_mem hkl)
          generalize l[k] = m at *
          have hbit : (bits .and .i64 (gone / 2 ^ k) 1 == 1) = !keep k := by rw [← Hkeep.out]; unfold keepG; rw [Bool.not_not]
          cases hb : keep k
          · rw [hb] at hbit
            have HQ2 := Lib.hid (HQ.out.trans (G1.out hb))
            simp only [Bool.not_false] at hbit
            clear G1 G2 G3 G4 hb hT hK
            go_wp2_with (first | (with_reducible refine wLr ?_) | (with_reducible refine wLi ?_) | (with_reducible refine wSf ?_) | (with_reducible refine wSi ?_))
            go_roundw
            case rel => exact ⟨k + 1, S', _, rfl, rfl, by go_num, by omega, hS', Lib.hid ⟨⟨gwr, inferInstance, inferInstance⟩, inferInstance⟩, HQ2⟩
            case measure => simp [intOf]; omega
          · rw [hb] at hbit
            simp only [Bool.not_true] at hbit
            by_cases h0 : cutE S' m = 0
            · have HQ2 := Lib.hid (HQ.out.trans (G2.out hb h0))
              have hS2 : Pv64 (cutS S' m) := pv64_cut S' m
              have HC := Lib.hid (fun w => navCut_yes (s := S') (m := m) hK h0 w)
              clear h0 G1 G2 G3 G4 hb hT hK
              generalize cutS S' m = S2 at *
              go_wp2_with (first | (go_at_call 48; (with_reducible refine call_later (HC.out _) ?_); intro u) | (with_reducible refine wLr ?_) | (with_reducible refine wLi ?_) | (with_reducible refine wSf ?_) | (with_reducible refine wSi ?_))
              go_roundw
              case rel => exact ⟨k + 1, S2, _, rfl, rfl, by go_num, by omega, hS2, Lib.hid ⟨⟨gwr, inferInstance, inferInstance⟩, inferInstance⟩, HQ2⟩
              case measure => simp [intOf]; omega
            · have HC := Lib.hid (fun w => navCut_not (s := S') (m := m) hK h0 w)
              by_cases h7 : cutE S' m = 7
              · have hq7 := HQ.out.trans (G3.out hb h7)
                have hF7 := HR.out
                rw [HR0.out, fuse_none hq7] at hF7
                have HF7 := Lib.hid hF7
                rw [h7] at HC
                clear hq7 hF7 h0 h7 G1 G2 G3 G4 hb hT hK HQ
                go_wp2_with (first | (go_at_call 48; (with_reducible refine call_later (HC.out _) ?_); intro u) | (with_reducible refine wLr ?_) | (with_reducible refine wLi ?_) | (with_reducible refine wSf ?_) | (with_reducible refine wSi ?_))
                refine bodyPost_ret (res_three Try.results35 rfl rfl rfl inferInstance inferInstance inferInstance) rfl ?_
                exact ⟨ret_f (s := State.zero) HF7.out.symm (by decide), gwr⟩
              · have HQ2 := Lib.hid (HQ.out.trans (G4.out hb h0 h7))
                have t0 : (cutE S' m == 0) = false := by simp [h0]
                have t7 : (cutE S' m == 7) = false := by simp [h7]
                clear h0 h7 G1 G2 G3 G4 hb hT hK
                generalize cutE S' m = E at *
                go_wp2_with (first | (go_at_call 48; (with_reducible refine call_later (HC.out _) ?_); intro u) | (with_reducible refine wLr ?_) | (with_reducible refine wLi ?_) | (with_reducible refine wSf ?_) | (with_reducible refine wSi ?_))
                go_roundw
                case rel => exact ⟨k + 1, S', _, rfl, rfl, by go_num, by omega, hS', Lib.hid ⟨⟨gwr, inferInstance, inferInstance⟩, inferInstance⟩, HQ2⟩
                case measure => simp [intOf]; omega
        · obtain rfl : k = l.length := by omega
          have hQ := HQ.out.trans pass_end
          have hF2 := HR.out
          rw [HR0.out] at hF2
          cases hsame : sameSt S' S
          · have hne : S' ≠ S := fun e => by rw [sameSt_iff.2 e] at hsame; cases hsame
            rw [fuse_next hQ hne] at hF2
            have HF2 := Lib.hid hF2
            clear hF2 hQ hne
            go_wp2_with (first | (with_reducible refine wLr ?_) | (with_reducible refine wLi ?_) | (with_reducible refine wSf ?_) | (with_reducible refine wSi ?_))
            go_roundw
            case rel => exact ⟨u + 1, S', _, rfl, by go_num, by omega, hS', Lib.hid ⟨gwr, inferInstance, inferInstance⟩, HF2⟩
            case measure => simp [intOf]; omega
          · rw [fuse_same (by rw [hQ, sameSt_iff.1 hsame])] at hF2
            rw [← sameSt_iff.1 hsame] at hF2
            have HF2 := Lib.hid hF2
            clear hF2 hQ
            go_wp2_with (first | (with_reducible refine wLr ?_) | (with_reducible refine wLi ?_) | (with_reducible refine wSf ?_) | (with_reducible refine wSi ?_))
            refine bodyPost_ret (res_three Try.results35 rfl rfl rfl inferInstance inferInstance inferInstance) rfl ?_
            exact ⟨ret_f HF2.out.symm (by decide), gwr⟩
    · have hu2 : n = u := by omega
      subst hu2
      have hF2 := HR.out
      rw [show (u : Int).toNat - u = 0 by simp] at hF2
      have HF2 := Lib.hid hF2
      clear hF2 HR
      have hg := HS.out.grew
      have : Apart (q4) (q8) := ⟨by omega⟩
      have : Apart (q8) (q4) := ⟨by omega⟩
      go_wp2_with (first | (with_reducible refine wLr ?_) | (with_reducible refine wLi ?_) | (with_reducible refine wSf ?_) | (with_reducible refine wSi ?_))
      refine bodyPost_ret (res_three Try.results35 rfl rfl rfl inferInstance inferInstance inferInstance) rfl ?_
      exact ⟨ret_f HF2.out.symm (by decide), gwr⟩
end Go.Proofs.Ytdkfkalplmgoeaa
namespace Go.Proofs.Ytdkfkalplmgoeaa
open Go.RowKit Go.Shelf
set_option maxRecDepth 100000
set_option maxHeartbeats 8000000
theorem store_is (W : World) (b : Nat) (l l0 : List Value) [h : OneCells l 15] [k : OneCells l0 15] [r : RowIs W b 43 l0] : (storeCells ⟨b, 0, none⟩ l).run Try.prog W = .ok () (W.setRow b l.toArray) := by
  have hs := @storeAt_whole Try.prog W b 43 15 l ⟨_, r.is, by simp [k.len]⟩ h (by kernel_rfl)
  obtain ⟨i, hi⟩ := Option.isSome_iff_exists.1 (show (Try.prog.info? 43).isSome = true by kernel_rfl)
  have hsz : i.size = 15 := by
    have : (Try.prog.info? 43).map (·.size) = some 15 := by kernel_rfl
    rw [hi] at this
    simpa using this
  have hl := h.len
  simp only [Instr.storeAt, Instr.sureAddr, storeVar, Sem.run_bind, Sem.run_pure, Result.andThen_ok, sizeOf, typeInfo, Value.cells, List.size_toArray, hl] at hs
  simpa [hi, hsz] using hs
def RetF6 (r : ResF) (w : World) (e : Ending) (w' : World) : Prop := e = .returned (.tuple #[.agg r.s.cells.toArray, .int .i64 r.n, .int .i64 r.e]) ∧ Grew w w'
theorem ret_f6 {s : State} {n e : Int} {r : ResF} (h : r = ⟨s, n, e⟩) : Ending.returned (.tuple #[.agg s.cells.toArray, .int .i64 n, .int .i64 e]) = .returned (.tuple #[.agg r.s.cells.toArray, .int .i64 r.n, .int .i64 r.e]) := by subst h; rfl
abbrev allKept : Nat → Bool := fun _ => true
end Go.Proofs.Ytdkfkalplmgoeaa
namespace Go.Proofs.Ytdkfkalplmgoeaa
open Go.RowKit Go.Shelf
set_option maxRecDepth 100000
set_option maxHeartbeats 8000000
theorem keepG_zero : keepG 0 = allKept := by
  funext k
  unfold keepG
  rw [Int.zero_ediv]
  show (!(bits .and .i64 0 1 == 1)) = true
  decide
theorem fuse_end (keep : Nat → Bool) (l : List Radio) : ∀ (n : Nat) (u : Int) (s : State), (fuseR keep l n u s).e = 0 ∨ fuseR keep l n u s = badF 7
  | 0, u, s => .inl (by unfold fuseR; rfl)
  | n + 1, u, s => by
    cases h : passR keep l 0 s with
    | none => exact .inr (fuse_none h)
    | some s' =>
      by_cases hs : s' = s
      · subst hs
        rw [fuse_same h]
        exact .inl rfl
      · rw [fuse_next h hs]
        exact fuse_end keep l n (u + 1) s'
theorem fuse_valid {s : State} {l : List Radio} {n : Int} (h : fuseE s l n = 0) : l.length ≤ 16 ∧ 0 ≤ n ∧ n ≤ 16 ∧ ∀ m ∈ l, m.okB = true := by
  unfold fuseE at h
  split at h
  · exact absurd h (by decide)
  · rename_i h1
    split at h
    · exact absurd h (by decide)
    · rename_i h2
      refine ⟨by omega, by omega, by omega, ?_⟩
      cases hc : l.all Radio.okB
      · rw [hc] at h
        exact absurd h (by decide)
      · exact List.all_eq_true.1 hc
end Go.Proofs.Ytdkfkalplmgoeaa
