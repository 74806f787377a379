/-
  Contract: ullagelaw06.heard.
  A struct that is stored into an element of a row of one's own.
  Plain law of NavTrustsTruth.
  NavTrustsTruth: of any true place and velocity, any lists of measurements, right ones and wrong ones, and any number of rounds: the walk of ullagelaw06.NavTrustsTruth.
  Arguments opened: a value whose cells are all integers (structs of structs, arrays of structs); and the last step of every law's row: what a law that only makes new memory leaves.
  The arguments of api's types, opened. (Written by wip/gen_open.py.)
  The True struct of layer 6's outright statements, and a list of measurements, opened.
  NavTrustsTruth: of any true place and velocity, any lists of measurements, right ones and wrong ones, and any number of rounds: no condition.
-/
import Derived.Test.YtdkfkalplmgoeaaNavOuts
import Derived.Test.YtdkfkalplmgoeaaNavTruly
import Derived.Test.YtdkfkalplmgoeaaTrustAll
import Derived.Deep.DeepCutAuto
import Derived.Deep.CutBlock
import Derived.Test.YtdkfkalplmgoeaaCore
import Derived.ProofKit
import Derived.OpenShut
import Derived.Deep.Slices
import Derived.Test.YtdkfkalplmgoeaaProg
import Derived.Test.YtdkfkalplmgoeaaRows
namespace Go.Proofs.Ytdkfkalplmgoeaa
open Go.RowKit Go.Shelf
set_option maxRecDepth 100000
set_option maxHeartbeats 8000000
theorem infoRad : (Try.prog.info? 49).map (fun i => (i.zero, i.size, i.bytes)) = some (some (.agg zeros15.toArray), 15, 120) := by kernel_rfl
@[go_sem] theorem raGet13 (m : Radio) : m.cells[13]? = some (.int .i64 m.value.lo) := rfl
@[go_sem] theorem raGet14 (m : Radio) : m.cells[14]? = some (.int .i64 m.value.hi) := rfl
theorem s64_read (s : State) (m : Radio) : S64 (readR s m).s := by
  unfold readR
  split
  · unfold normAway
    split
    · infer_instance
    · exact s64_err _
  · split
    · unfold rateR
      split
      · unfold divsR
        split
        · split
          · infer_instance
          · exact s64_err _
        · exact s64_err _
      · exact s64_err _
    · split <;> infer_instance
theorem s64_reading (s : State) (m : Radio) : S64 (readingR s m).s := by
  unfold readingR
  split
  · unfold clean
    split
    · exact s64_read s m
    · exact s64_err _
  · exact s64_err _
theorem k_world {K : Act → World → Prop} {a : Act} {w : World} (h : ∀ z, z = w → K a z) : K a w := h w rfl
theorem radC_snoc (l : List Radio) (y : Radio) : l.flatMap Radio.cells ++ y.cells = (l ++ [y]).flatMap Radio.cells := by simp
theorem radio_one (y : Radio) : ∀ u ∈ y.cells, u.oneCell' = true := (oneCells_radio y).one
/-- A measurement is appended to a row of one's own. -/
theorem wpList_app_radio {ops : Array Oper} {rest : List Oper} {o : Oper} {a : Act} {Q : Exit → Act → World → Prop} (a0 w : World) (g0 : Grew a0 w) {m : Nat} [hm : SizeAt w m] (hgd : o.guard = none) (s x : Operand)
    (ho : o.op = .call { callee := .builtin .append, args := #[s, x], argTypes := #[36, 36] }) (v : Value) (l : List Radio) (hown : w.ownsRow a0.heap.size 49 15 v l.length (l.flatMap Radio.cells)) (hs : a.eval s = v) (y : Radio) (ty : TypeId)
    (hx : a.eval x = .slice (some ⟨m, 0, none⟩) 1 1) (hn : l.length ≤ 1099511627)
    (h : ∀ v' (u : Later a0), u.world.ownsRow a0.heap.size 49 15 v' (l ++ [y]).length ((l ++ [y]).flatMap Radio.cells) → wpList Try.prog ops Q rest (a.put o.dst v') u.world) :
    wpList Try.prog ops Q (o :: rest) a (w.alloc (.cells y.cells.toArray ty)) := by
  obtain rfl := hm.eq
  obtain ⟨i0, hi, hz0, hzz1, hzz2⟩ := info_parts infoRad
  refine wpList_append_own _ hgd s x 36 ho a0.heap.size 49 i0 _ 15 120 Try.underlying36 hi hz0 hzz1 hzz2 rfl (by decide) v _ _ hs (hown.alloc _) ⟨w.heap.size, 0, none⟩ 1 1 y.cells hx rfl (by simpa using cells_new w y.cells ty) (radio_one y) (by simp [maxLen]; omega) (by omega) (by have := g0.size; simp; omega) ?_
  intro v' w1 hown' hgrow _
  obtain ⟨u, rfl⟩ := later_of (Grew.append (g0.alloc (.cells y.cells.toArray ty)) (hown.alloc (.cells y.cells.toArray ty)) (Nat.le_refl _) hgrow)
  refine h v' u ?_
  rw [← radC_snoc, List.length_append]
  exact hown'
theorem ra64_heard (t : State) (m : Radio) (i : Nat) [h : Ra64 m] (hv : S64 (heardM t m i).value) : Ra64 (heardM t m i) := ⟨h.place, h.dir, hv⟩
theorem sl_len {w : World} {v : Value} {n : Nat} {xs : List Value} (h : SlAt w v n xs) : ∃ ao cap, v = .slice ao n cap := by
  obtain ⟨ao, cap, e, -⟩ := h
  exact ⟨ao, cap, e⟩
def RetHd (L : List Radio) (w : World) (e : Ending) (w' : World) : Prop := ∃ (ao : Option Addr) (cap : Nat), e = .returned (.slice ao L.length cap) ∧ SlAt w' (.slice ao L.length cap) L.length (L.flatMap Radio.cells) ∧ Grew w w'
/-- As RetHd; the slice's capacity is no less than its length. -/
def RetHdC (L : List Radio) (w : World) (e : Ending) (w' : World) : Prop := ∃ (ao : Option Addr) (cap : Nat), e = .returned (.slice ao L.length cap) ∧ L.length ≤ cap ∧ SlAt w' (.slice ao L.length cap) L.length (L.flatMap Radio.cells) ∧ Grew w w'
theorem own_cap {w : World} {base : Nat} {e : TypeId} {size : Nat} {ao : Option Addr} {n m cap : Nat} {xs : List Value} (h : w.ownsRow base e size (.slice ao m cap) n xs) : n ≤ cap := by
  rcases h.2 with ⟨h1, h2⟩ | ⟨g, cap', cur, h1, -, -, h2, -⟩
  · subst h2
    omega
  · cases h1
    exact h2
/-- What is heard lies in a row of one's own. -/
def RetHdO (L : List Radio) (w : World) (e : Ending) (w' : World) : Prop := ∃ v, e = .returned v ∧ w'.ownsRow w.heap.size 49 15 v L.length (L.flatMap Radio.cells) ∧ Grew w w'
theorem owns_down {w : World} {b c size n : Nat} {e : TypeId} {v : Value} {xs : List Value} (h : c ≤ b) (k : w.ownsRow b e size v n xs) : w.ownsRow c e size v n xs := ⟨k.1, k.2.imp id fun ⟨g, cap, cur, h1, h2, r⟩ => ⟨g, cap, cur, h1, Nat.le_trans h h2, r⟩⟩
theorem l6HeardO_any (t : State) (l : List Radio) [ht : Pv64 t] (hT : ∀ m ∈ l, Ra64 m) (hl : l.length ≤ 6) (ao : Option Addr) (cap : Nat) (w : World) (hs : SlAt w (.slice ao l.length cap) l.length (l.flatMap Radio.cells)) :
    Calls Try.prog 11 #[.agg t.cells.toArray, .slice ao l.length cap] w (RetHdO (heardL t l) w) := by
  obtain ⟨ao', cap', e1, -, hx⟩ := hs
  cases e1
  have HE := Lib.hid (SlAt.elem (f := Radio.cells) (c := 15) (fun _ => rfl) (by omega) hx)
  have HT := Lib.hid hT
  have HL := Lib.hid (heard_len t l)
  have HS := Lib.hid (heard_step t l)
  have HF := Lib.hid (show heardTo t l l.length = heardL t l from rfl)
  clear hx hT
  have H0 := Lib.hid (show heardTo t l 0 = [] from rfl)
  generalize heardL t l = L at *
  generalize heardTo t l = hd at *
  go_enter Try.func11, Try.ntmps11
  go_wp2
  refine wp_to_later (z := w) gw ?_
  intro y hy
  have r2 : RowIs y.world w.heap.size 43 t.cells := by rw [hy]; infer_instance
  have i2 := r2.blockIn
  clear hy
  go_loopw [5, 13] (fun q j wr => ∃ (k : Nat) (v : Value), j = .int .i64 k ∧ v = q ∧ k ≤ l.length ∧ wr.ownsRow y.world.heap.size 49 15 v (hd k).length ((hd k).flatMap Radio.cells) ∧ Grew y.world wr) (fun _ j _ => l.length - (intOf j).toNat)
  case atStart => exact ⟨0, _, rfl, rfl, by omega, by rw [H0.out]; exact World.ownsRow_nil _ _ _ _, gw⟩
  case round =>
    obtain ⟨k, v, rfl, rfl, hk, hown, hg⟩ := hrel
    obtain ⟨z, rfl⟩ := later_of hg
    clear hg
    by_cases hlt : k < l.length
    · obtain ⟨b1, o1, e1, i1, hd1, hd2⟩ := HE.out k hlt
      cases e1
      have rg : RangeIs w b1 (o1 + k * 15) 15 l[k].cells := ⟨fun j v hv => hd2 j v hv, rfl⟩
      have j1 : BlockIn w b1 := ⟨i1⟩
      clear hd1 hd2
      have hT := HT.out _ (List.getElem_mem hlt)
      have hS := HS.out k hlt
      have hlen := HL.out k
      generalize l[k] = m at *
      have HR := Lib.hid (fun w => show Calls Try.prog 29 #[.agg t.cells.toArray, .agg m.cells.toArray] w fun e w' => e = .returned (.tuple #[.agg #[.int .i64 (readingR t m).s.lo, .int .i64 (readingR t m).s.hi], .int .i64 (readingR t m).e]) ∧ Grew w w' from navReading_any t m w)
      have HV := Lib.hid (show (heardM t m k).cells = [.int .i64 m.kind, .int .i64 m.place.x.lo, .int .i64 m.place.x.hi, .int .i64 m.place.y.lo, .int .i64 m.place.y.hi, .int .i64 m.place.z.lo, .int .i64 m.place.z.hi, .int .i64 m.dir.x.lo, .int .i64 m.dir.x.hi, .int .i64 m.dir.y.lo, .int .i64 m.dir.y.hi, .int .i64 m.dir.z.lo, .int .i64 m.dir.z.hi, .int .i64 ((readingR t m).s.lo - heardFar m / (1 + (k : Int))), .int .i64 ((readingR t m).s.hi + heardFar m)] from rfl)
      have HO := Lib.hid (show heardOk t m = (decide ((readingR t m).e = 0) && (decide ((readingR t m).s.hi ≤ 9223372036854775807 - heardFar m) && decide (heardFar m - 9223372036854775807 ≤ (readingR t m).s.lo))) from rfl)
      have fb := far_bd m
      have sR := s64_reading t m
      have hRa := fun h => ra64_heard t m k h
      have fd := far_div m k
      have HFar := Lib.hid (show heardFar m = m.value.lo % 18446744073709551616 / 1099511627776 from rfl)
      generalize heardFar m = far at *
      generalize heardM t m k = hm at *
      generalize readingR t m = R at *
      obtain ⟨fb1, fb2⟩ := fb
      obtain ⟨fd1, fd2⟩ := fd
      by_cases he : R.e = 0
      · have he' : (R.e != 0) = false := by simp [he]
        have HE0 := Lib.hid he
        clear he
        have hfar : wrap64 (IntKind.u64.wrap m.value.lo / 1099511627776) = far := by
          rw [HFar.out, IntKind.wrap_u64]
          unfold wrap64
          omega
        by_cases c1 : R.s.hi ≤ 9223372036854775807 - far
        · by_cases c2 : far - 9223372036854775807 ≤ R.s.lo
          · rw [if_pos (by rw [HO.out]; simp [HE0.out, c1, c2])] at hS
            have HS2 := Lib.hid hS
            clear hS HO
            go_wp2_with (first | (go_at_call 29; (with_reducible refine call_later (HR.out _) ?_); intro u1) | (with_reducible refine wLr ?_) | (with_reducible refine wLi ?_) | (with_reducible refine wSf ?_) | (with_reducible refine wSi ?_))
            have lo2 := sR.lo.2
            have hi1 := sR.hi.1
            have x1 : IntKind.i64.wrap (1 + (k : Int)) = 1 + (k : Int) := by rw [IntKind.wrap_i64]; omega
            have x2 : far.tdiv (1 + (k : Int)) = far / (1 + (k : Int)) := Int.tdiv_eq_ediv_of_nonneg fb1
            have x3 : IntKind.i64.wrap (far / (1 + (k : Int))) = far / (1 + (k : Int)) := by rw [IntKind.wrap_i64]; omega
            have x4 : IntKind.i64.wrap (R.s.lo - far / (1 + (k : Int))) = R.s.lo - far / (1 + (k : Int)) := by rw [IntKind.wrap_i64]; omega
            have x5 : IntKind.i64.wrap (R.s.hi + far) = R.s.hi + far := by rw [IntKind.wrap_i64]; omega
            have x6 : ¬ (1 + (k : Int) = 0) := by omega
            refine wp_region_grown 13 [] [] [] (fun W0 => []) [] [13] (by rfl) (fun _ x hx => absurd hx (List.not_mem_nil)) (by kernel_rfl) (by kernel_rfl) (by kernel_rfl) ?_
            intro p
            apply Exists.intro
            apply And.intro
            iterate 13 (apply lexg_pure (by kernel_rfl); (· intro u; unfold opPure; go_simp; rfl))
            apply lexg_end
            rotate_left
            · rfl
            intro u hR hD
            clear hR hD
            refine tail_store (by rfl) ?_; unfold opStore; go_simp
            refine tail_end ?_
            clear x1 x2 x3 x4 x5 x6
            refine k_world (w := _) fun z1 hz1 => ?_
            have g1 : Grew y.world z1 := by rw [hz1]; exact gw
            have ho1 : z1.ownsRow y.world.heap.size 49 15 v (hd k).length ((hd k).flatMap Radio.cells) := by rw [hz1]; exact owns_grew hown gw
            have r7 : RowIs z1 z.world.heap.size 49 [.int .i64 hm.kind, .int .i64 hm.place.x.lo, .int .i64 hm.place.x.hi, .int .i64 hm.place.y.lo, .int .i64 hm.place.y.hi, .int .i64 hm.place.z.lo, .int .i64 hm.place.z.hi, .int .i64 hm.dir.x.lo, .int .i64 hm.dir.x.hi, .int .i64 hm.dir.y.lo, .int .i64 hm.dir.y.hi, .int .i64 hm.dir.z.lo, .int .i64 hm.dir.z.hi, .int .i64 hm.value.lo, .int .i64 hm.value.hi] := by show RowIs z1 z.world.heap.size 49 hm.cells; rw [hz1, HV.out]; exact row_cast inferInstance rfl
            clear hz1
            have i7 := r7.blockIn
            obtain ⟨z2, rfl⟩ := later_of g1
            clear g1
            go_wp2_with (first | (with_reducible refine wLi ?_) | (at_builtin; go_loud (refine wpList_app_radio y.world _ gw rfl _ _ rfl _ (hd k) (owns_grew ho1 gw) rfl hm _ rfl (by omega) ?_; intro v' y1 hown')))
            go_roundw
            case rel => exact ⟨k + 1, v', by go_num, rfl, by omega, by rw [HS2.out]; exact hown', gw⟩
            case measure => simp [intOf]; omega
          · rw [if_neg (by rw [HO.out]; simp [c2])] at hS
            have HS2 := Lib.hid hS
            have c2' : R.s.lo < far - 9223372036854775807 := by omega
            clear c2 hS HO HV
            go_wp2_with (first | (go_at_call 29; (with_reducible refine call_later (HR.out _) ?_); intro u1) | (with_reducible refine wLr ?_) | (with_reducible refine wLi ?_) | (with_reducible refine wSf ?_) | (with_reducible refine wSi ?_))
            go_roundw
            case rel => exact ⟨k + 1, v, by go_num, rfl, by omega, by rw [HS2.out]; exact owns_grew hown gw, gw⟩
            case measure => simp [intOf]; omega
        · rw [if_neg (by rw [HO.out]; simp [c1])] at hS
          have HS2 := Lib.hid hS
          have c1' : 9223372036854775807 - far < R.s.hi := by omega
          clear c1 hS HO HV
          go_wp2_with (first | (go_at_call 29; (with_reducible refine call_later (HR.out _) ?_); intro u1) | (with_reducible refine wLr ?_) | (with_reducible refine wLi ?_) | (with_reducible refine wSf ?_) | (with_reducible refine wSi ?_))
          go_roundw
          case rel => exact ⟨k + 1, v, by go_num, rfl, by omega, by rw [HS2.out]; exact owns_grew hown gw, gw⟩
          case measure => simp [intOf]; omega
      · have he' : (R.e != 0) = true := by simp [he]
        rw [if_neg (by rw [HO.out]; simp [he])] at hS
        have HS2 := Lib.hid hS
        clear he hS HO HV
        go_wp2_with (first | (go_at_call 29; (with_reducible refine call_later (HR.out _) ?_); intro u1) | (with_reducible refine wLr ?_) | (with_reducible refine wLi ?_) | (with_reducible refine wSf ?_) | (with_reducible refine wSi ?_))
        go_roundw
        case rel => exact ⟨k + 1, v, by go_num, rfl, by omega, by rw [HS2.out]; exact owns_grew hown gw, gw⟩
        case measure => simp [intOf]; omega
    · obtain rfl : k = l.length := by omega
      rw [HF.out] at hown
      have hs := SlAt.of_owns hown
      obtain ⟨ao2, cap2, rfl⟩ := sl_len hs
      have Hown := Lib.hid (owns_down y.grew.size hown)
      clear hown hs
      go_wp2
      go_ret
      exact ⟨_, rfl, Hown.out, gw⟩
theorem l6HeardC_any (t : State) (l : List Radio) [ht : Pv64 t] (hT : ∀ m ∈ l, Ra64 m) (hl : l.length ≤ 6) (ao : Option Addr) (cap : Nat) (w : World) (hs : SlAt w (.slice ao l.length cap) l.length (l.flatMap Radio.cells)) :
    Calls Try.prog 11 #[.agg t.cells.toArray, .slice ao l.length cap] w (RetHdC (heardL t l) w) :=
  (l6HeardO_any t l hT hl ao cap w hs).mono fun _ _ ⟨v, h1, h2, h3⟩ => by
    obtain ⟨ao2, cap2, rfl⟩ := sl_len (SlAt.of_owns h2)
    exact ⟨ao2, cap2, h1, own_cap h2, SlAt.of_owns h2, h3⟩
theorem l6Heard_any (t : State) (l : List Radio) [ht : Pv64 t] (hT : ∀ m ∈ l, Ra64 m) (hl : l.length ≤ 6) (ao : Option Addr) (cap : Nat) (w : World) (hs : SlAt w (.slice ao l.length cap) l.length (l.flatMap Radio.cells)) :
    Calls Try.prog 11 #[.agg t.cells.toArray, .slice ao l.length cap] w (RetHd (heardL t l) w) :=
  (l6HeardC_any t l hT hl ao cap w hs).mono fun _ _ ⟨a, c, h1, _, h2, h3⟩ => ⟨a, c, h1, h2, h3⟩
end Go.Proofs.Ytdkfkalplmgoeaa
namespace Go.Proofs.Ytdkfkalplmgoeaa
open Go.RowKit Go.Shelf
set_option maxRecDepth 100000
/-- A measurement is stored into an element of a row of one's own. -/
theorem store_elem {w : World} {base : Nat} {g cap : Nat} {L : List Radio} (h : w.ownsRow base 49 15 (.slice (some ⟨g, 0, none⟩) L.length cap) L.length (L.flatMap Radio.cells)) (j : Nat) (hj : j < L.length) (m : Radio) :
    (Instr.storeAt 49 (.pointer (some ⟨g, j * 15, none⟩)) (.agg m.cells.toArray)).run Try.prog w = .ok () (w.setCells g (j * 15) m.cells) ∧ (w.setCells g (j * 15) m.cells).ownsRow base 49 15 (.slice (some ⟨g, 0, none⟩) L.length cap) L.length ((L.set j m).flatMap Radio.cells) ∧ w.grownBy (w.setCells g (j * 15) m.cells) (some g) := by
  rcases h.2 with ⟨h1, h2⟩ | ⟨g', cap', cur, h1, hb, hg, hn, hm, hz, ht⟩
  · cases h1
  cases h1
  have hr : RowIs w g 49 cur.toList := ⟨by rw [hg]⟩
  have hl := h.1
  obtain ⟨B, hB⟩ : ∃ B, B = cur.toList.drop (L.length * 15) := ⟨_, rfl⟩
  have hcl : cur.toList = L.flatMap Radio.cells ++ B := by rw [hB, ← ht, List.take_append_drop]
  have hL : L = L.take j ++ (L[j] :: L.drop (j + 1)) := by rw [List.getElem_cons_drop, List.take_append_drop]
  have hLs : L.set j m = L.take j ++ (m :: L.drop (j + 1)) := List.set_eq_take_append_cons_drop.trans (by rw [if_pos hj])
  have hA : ((L.take j).flatMap Radio.cells).length = j * 15 := by
    rw [flat_len Radio.cells 15 (fun _ => rfl), List.length_take]
    congr 1
    omega
  have hsz : cur.toList.length = cap * 15 := by simpa using hz
  have hno := rowIs_over g 49 m.cells cur.toList (j * 15) w hr
  have e1 : L.flatMap Radio.cells = (L.take j).flatMap Radio.cells ++ (L[j].cells ++ (L.drop (j + 1)).flatMap Radio.cells) := by
    conv => lhs; rw [hL]
    rw [List.flatMap_append, List.flatMap_cons]
  have e2 : (L.set j m).flatMap Radio.cells = (L.take j).flatMap Radio.cells ++ (m.cells ++ (L.drop (j + 1)).flatMap Radio.cells) := by rw [hLs, List.flatMap_append, List.flatMap_cons]
  have hov : overL cur.toList (j * 15) m.cells = (L.set j m).flatMap Radio.cells ++ B := by
    rw [hcl, e1, e2, List.append_assoc, List.append_assoc, List.append_assoc, List.append_assoc, ← hA]
    exact over_mid _ _ _ _ rfl
  have hBl : B.length = (cap - L.length) * 15 := by rw [hB, List.length_drop, hsz, Nat.sub_mul]
  refine ⟨?_, ⟨?_, .inr ⟨g, cap, (overL cur.toList (j * 15) m.cells).toArray, rfl, hb, hno.is, hn, hm, ?_, ?_⟩⟩, grownBy_setCells g _ _ w⟩
  · refine run_storeAt_mid w g (j * 15) 49 m.cells.toArray (fun i hi => ?_) (by kernel_rfl) (all_oneCell_toArray (radio_one m))
    have hi2 : i < 15 := hi
    refine ⟨?_, frozen_rowIs w g _ _ _ (h := hr)⟩
    rw [cell_rowIs w g _ _ _ (h := hr), List.getElem?_eq_getElem (by rw [hsz]; omega)]
    rfl
  · rw [flat_len Radio.cells 15 (fun _ => rfl), List.length_set]
  · rw [hov]
    rw [List.size_toArray, List.length_append, flat_len Radio.cells 15 (fun _ => rfl), List.length_set, hBl, ← Nat.add_mul]
    congr 1
    omega
  · rw [hov]
    show List.take (L.length * 15) ((L.set j m).flatMap Radio.cells ++ _) = _
    rw [List.take_append_of_le_length (by rw [flat_len Radio.cells 15 (fun _ => rfl), List.length_set]; exact Nat.le_refl _)]
    exact List.take_of_length_le (by rw [flat_len Radio.cells 15 (fun _ => rfl), List.length_set]; exact Nat.le_refl _)
end Go.Proofs.Ytdkfkalplmgoeaa
namespace Go.Proofs.Ytdkfkalplmgoeaa
set_option maxRecDepth 100000
theorem hull_l {a b : Sp} (ha : a.okB = true) : Nw a (hullS a b) := by
  refine ⟨ha, ?_, ?_⟩
  · show (if b.lo < a.lo then b.lo else a.lo) ≤ a.lo
    split <;> omega
  · show a.hi ≤ (if a.hi < b.hi then b.hi else a.hi)
    split <;> omega
theorem hull_r {a b : Sp} (hb : b.okB = true) : Nw b (hullS a b) := by
  refine ⟨hb, ?_, ?_⟩
  · show (if b.lo < a.lo then b.lo else a.lo) ≤ b.lo
    split <;> omega
  · show b.hi ≤ (if a.hi < b.hi then b.hi else a.hi)
    split <;> omega
theorem hull_okS {a b : Sp} (ha : a.okB = true) (hb : b.okB = true) : (hullS a b).okB = true := by
  have h1 := okB_num ha
  have h2 := okB_num hb
  have h3 := nw_le ⟨ha, Wi.refl a⟩
  have h4 := nw_le ⟨hb, Wi.refl b⟩
  refine nw_ok ?_ ?_
  · show _ ≤ (if b.lo < a.lo then b.lo else a.lo)
    split <;> omega
  · show (if b.lo < a.lo then b.lo else a.lo) ≤ (if a.hi < b.hi then b.hi else a.hi)
    split <;> split <;> omega
theorem hull_in {a b c : Sp} (h : Nw a c) (k : Nw b c) : Nw (hullS a b) c := by
  refine ⟨hull_okS h.1 k.1, ?_, ?_⟩
  · have h1 := h.2.1
    have h2 := k.2.1
    show c.lo ≤ (if b.lo < a.lo then b.lo else a.lo)
    split <;> omega
  · have h1 := h.2.2
    have h2 := k.2.2
    show (if a.hi < b.hi then b.hi else a.hi) ≤ c.hi
    split <;> omega
theorem okB_three {b : Bx} (h : b.okB = true) : b.x.okB = true ∧ b.y.okB = true ∧ b.z.okB = true := by
  unfold Bx.okB at h
  simp only [Bool.and_eq_true] at h
  exact ⟨h.1.1, h.1.2, h.2⟩
theorem okB_of {b : Bx} (h : b.x.okB = true ∧ b.y.okB = true ∧ b.z.okB = true) : b.okB = true := by
  unfold Bx.okB
  rw [h.1, h.2.1, h.2.2]
  rfl
theorem hullT_l {a b : State} (ha : OkS a) : NwS a (hullT a b) := by
  obtain ⟨h1, h2⟩ := ha
  have h1 := okB_three h1
  have h2 := okB_three h2
  exact ⟨⟨hull_l h1.1, hull_l h1.2.1, hull_l h1.2.2⟩, hull_l h2.1, hull_l h2.2.1, hull_l h2.2.2⟩
theorem hullT_r {a b : State} (hb : OkS b) : NwS b (hullT a b) := by
  obtain ⟨h1, h2⟩ := hb
  have h1 := okB_three h1
  have h2 := okB_three h2
  exact ⟨⟨hull_r h1.1, hull_r h1.2.1, hull_r h1.2.2⟩, hull_r h2.1, hull_r h2.2.1, hull_r h2.2.2⟩
theorem hullT_in {a b c : State} (h : NwS a c) (k : NwS b c) : NwS (hullT a b) c :=
  ⟨⟨hull_in h.1.1 k.1.1, hull_in h.1.2.1 k.1.2.1, hull_in h.1.2.2 k.1.2.2⟩, hull_in h.2.1 k.2.1, hull_in h.2.2.1 k.2.2.1, hull_in h.2.2.2 k.2.2.2⟩
theorem hullT_ok {a b : State} (h : OkS a) (k : OkS b) : OkS (hullT a b) := by
  have h1 := okB_three h.1
  have h2 := okB_three h.2
  have k1 := okB_three k.1
  have k2 := okB_three k.2
  exact ⟨okB_of ⟨hull_okS h1.1 k1.1, hull_okS h1.2.1 k1.2.1, hull_okS h1.2.2 k1.2.2⟩, okB_of ⟨hull_okS h2.1 k2.1, hull_okS h2.2.1 k2.2.1, hull_okS h2.2.2 k2.2.2⟩⟩
/-- The choices one after another. -/
def foldJ (F : Nat → ResF) (gs : List Nat) (o : Option State) : Option State := gs.foldl (fun o g => joinR o (F g)) o
theorem fold_dn {F : Nat → ResF} {c : State} : ∀ (gs : List Nat) (o : Option State), (∀ x, o = some x → NwS x c ∧ SameTM x c) → (∀ g ∈ gs, (F g).e = 0 → NwS (F g).s c ∧ SameTM (F g).s c) → ∀ x, foldJ F gs o = some x → NwS x c ∧ SameTM x c
  | [], o, ho, _, x, h => ho x h
  | g :: gs, o, ho, hg, x, h => by
    refine fold_dn gs (joinR o (F g)) (fun y hy => ?_) (fun k hk => hg k (List.mem_cons_of_mem _ hk)) x h
    by_cases e : (F g).e = 0
    · obtain ⟨h1, h2⟩ := hg g List.mem_cons_self e
      cases o with
      | none =>
        rw [join_new e] at hy
        cases hy
        exact ⟨h1, h2⟩
      | some a =>
        rw [join_more e] at hy
        cases hy
        obtain ⟨k1, k2⟩ := ho a rfl
        exact ⟨hullT_in k1 h1, k2⟩
    · rw [join_bad e] at hy
      exact ho y hy
theorem fold_up {F : Nat → ResF} {a : State} : ∀ (gs : List Nat) (o : Option State), (∃ x, o = some x ∧ OkS x ∧ NwS a x) → (∀ g ∈ gs, (F g).e = 0 → OkS (F g).s) → ∃ x, foldJ F gs o = some x ∧ OkS x ∧ NwS a x
  | [], o, ho, _ => ho
  | g :: gs, o, ho, hg => by
    refine fold_up gs (joinR o (F g)) ?_ (fun k hk => hg k (List.mem_cons_of_mem _ hk))
    obtain ⟨x, rfl, h1, h2⟩ := ho
    by_cases e : (F g).e = 0
    · have h3 := hg g List.mem_cons_self e
      exact ⟨_, join_more e, hullT_ok h1 h3, nwS_trans h2 (hullT_l h1)⟩
    · exact ⟨x, join_bad e, h1, h2⟩
theorem fold_some {F : Nat → ResF} {g : Nat} : ∀ (gs : List Nat) (o : Option State), (∀ x, o = some x → OkS x) → (∀ g ∈ gs, (F g).e = 0 → OkS (F g).s) → g ∈ gs → (F g).e = 0 → ∃ x, foldJ F gs o = some x ∧ OkS x ∧ NwS (F g).s x
  | [], _, _, _, h, _ => absurd h List.not_mem_nil
  | k :: gs, o, ho, hg, h, e => by
    have hr := fun k hk => hg k (List.mem_cons_of_mem _ hk)
    have hk := hg k List.mem_cons_self
    by_cases c : g = k
    · subst c
      refine fold_up gs (joinR o (F g)) ?_ hr
      cases o with
      | none => exact ⟨_, join_new e, hk e, nwS_refl (hk e)⟩
      | some a => exact ⟨_, join_more e, hullT_ok (ho a rfl) (hk e), hullT_r (hk e)⟩
    · refine fold_some gs (joinR o (F k)) (fun x hx => ?_) hr (by rcases List.mem_cons.1 h with h | h; exact absurd h c; exact h) e
      by_cases c : (F k).e = 0
      · cases o with
        | none =>
          rw [join_new c] at hx
          cases hx
          exact hk c
        | some a =>
          rw [join_more c] at hx
          cases hx
          exact hullT_ok (ho a rfl) (hk c)
      · rw [join_bad c] at hx
        exact ho x hx
theorem fold_has {F : Nat → ResF} : ∀ (gs : List Nat) (o : Option State) (x : State), foldJ F gs o = some x → (∃ a, o = some a) ∨ ∃ g ∈ gs, (F g).e = 0
  | [], o, x, h => .inl ⟨x, h⟩
  | g :: gs, o, x, h => by
    by_cases c : (F g).e = 0
    · exact .inr ⟨g, List.mem_cons_self, c⟩
    · rcases fold_has gs (joinR o (F g)) x h with h | ⟨k, h1, h2⟩
      · rw [join_bad c] at h
        exact .inl h
      · exact .inr ⟨k, List.mem_cons_of_mem _ h1, h2⟩
section
variable {s : State} {M : List Radio} {n : Int}
theorem fuse_in (h : OkS s) (g : Nat) (e : (fuseR (keepG (g : Nat)) M n.toNat 0 s).e = 0) : NwS (fuseR (keepG (g : Nat)) M n.toNat 0 s).s s ∧ SameTM (fuseR (keepG (g : Nat)) M n.toNat 0 s).s s := by
  rcases fuse_e (keepG (g : Nat)) M n.toNat 0 s with k | k
  · exact iter_sub _ s _ h k.2
  · omega
theorem trust_in (h : OkS s) (gs : List Nat) (x : State) (hx : trustTo s M n gs = some x) : NwS x s ∧ SameTM x s :=
  fold_dn (F := fun g => fuseR (keepG (g : Nat)) M n.toNat 0 s) gs none (fun _ h => by cases h) (fun g _ e => fuse_in h g e) x hx
/-- A choice that leaves out all that may be wrong: what is true stays. -/
theorem trust_true {t : State} {u v : V3} (ha : About s t u v) {gs : List Nat} {g : Nat} (hg : g ∈ gs) (hk : ∀ j (hj : j < M.length), keepG (g : Nat) j = true → Heard t M[j]) : ∃ x, trustTo s M n gs = some x ∧ hasB x t = true ∧ withinB x s = true := by
  obtain ⟨e, -, -, -, -, -, hs⟩ := fuse_true ha (keepG (g : Nat)) M hk n.toNat 0
  obtain ⟨x, hx, ho, hn⟩ := fold_some (F := fun g => fuseR (keepG (g : Nat)) M n.toNat 0 s) gs none (fun _ h => by cases h) (fun g _ e => (fuse_in ha.ok g e).1.ok) hg e
  obtain ⟨h1, h2⟩ := trust_in ha.ok gs x hx
  refine ⟨x, hx, has_of (nwS_trans ?_ hn) ho, within_of h1 ha.ok h2⟩
  rw [ha.tt]
  exact ⟨pts_nw hs.1 ha.nu, pts_nw hs.2 ha.nv⟩
/-- With more choices that leave out more: no less is left. -/
theorem trust_more (h : OkS s) (hM : M.all Radio.okB = true) {gs gs' : List Nat} (hg : ∀ g ∈ gs, ∃ g' ∈ gs', ∀ i, keepG (g' : Nat) i = true → keepG (g : Nat) i = true) {x : State} (hx : trustTo s M n gs = some x) : ∃ y, trustTo s M n gs' = some y ∧ withinB x y = true := by
  have up : ∀ g ∈ gs, (fuseR (keepG (g : Nat)) M n.toNat 0 s).e = 0 → ∃ y, trustTo s M n gs' = some y ∧ OkS y ∧ NwS (fuseR (keepG (g : Nat)) M n.toNat 0 s).s y := fun g hm e => by
    obtain ⟨g', hm', hk⟩ := hg g hm
    have hi := iter_mono hk hM n.toNat s s (nwS_refl h) h
    rcases fuse_e (keepG (g : Nat)) M n.toNat 0 s with k | k
    · rw [k.2] at hi
      rcases fuse_e (keepG (g' : Nat)) M n.toNat 0 s with k' | k'
      · rw [k'.2] at hi
        obtain ⟨y, hy, ho, hn⟩ := fold_some (F := fun g => fuseR (keepG (g : Nat)) M n.toNat 0 s) gs' none (fun _ h => by cases h) (fun g _ e => (fuse_in h g e).1.ok) hm' k'.1
        exact ⟨y, hy, ho, nwS_trans hi hn⟩
      · rw [k'.2] at hi
        exact hi.elim
    · omega
  rcases fold_has (F := fun g => fuseR (keepG (g : Nat)) M n.toNat 0 s) gs none x hx with ⟨a, h⟩ | ⟨g, hm, e⟩
  · cases h
  · obtain ⟨y, hy, ho, -⟩ := up g hm e
    obtain ⟨-, ht⟩ := trust_in h gs' y hy
    refine ⟨y, hy, ?_⟩
    have hd := fold_dn (F := fun g => fuseR (keepG (g : Nat)) M n.toNat 0 s) (c := y) gs none (fun _ h => by cases h) (fun k hk e => ?_) x hx
    · exact within_of hd.1 ho hd.2
    · obtain ⟨y', hy', -, hn⟩ := up k hk e
      rw [hy] at hy'
      cases hy'
      obtain ⟨-, kt⟩ := fuse_in (M := M) (n := n) h k e
      exact ⟨hn, kt.1.trans ht.1.symm, kt.2.trans ht.2.symm⟩
end
/-! Where the wrong ones lie. -/
/-- One more, which changes its place with the j-th. -/
def plantL (m : List Radio) (b : Radio) (j : Nat) : List Radio := match (m ++ [b])[j]? with
  | some a => ((m ++ [b]).set m.length a).set j b
  | none => m ++ [b]
theorem plant_len (m : List Radio) (b : Radio) (j : Nat) : (plantL m b j).length = m.length + 1 := by
  unfold plantL
  split <;> simp
theorem plant_get {m : List Radio} {b : Radio} {j : Nat} (hj : j < m.length + 1) (i : Nat) (hi : i < (plantL m b j).length) (hij : i ≠ j) : ∃ (k : Nat) (hk : k < m.length), (plantL m b j)[i] = m[k] ∧ k = if i = m.length then j else i := by
  have hl := plant_len m b j
  rw [hl] at hi
  have hjl : j < (m ++ [b]).length := by simpa using hj
  have e : plantL m b j = ((m ++ [b]).set m.length (m ++ [b])[j]).set j b := by
    unfold plantL
    rw [List.getElem?_eq_getElem hjl]
  have e2 : ∀ h, (plantL m b j)[i]'h = (((m ++ [b]).set m.length (m ++ [b])[j]).set j b)[i]'(by simp; omega) := fun h => by congr 1
  rw [e2]
  rw [List.getElem_set_ne (by omega)]
  by_cases c : i = m.length
  · have hjm : j < m.length := by omega
    refine ⟨j, hjm, ?_, by rw [if_pos c]⟩
    subst c
    rw [List.getElem_set_self, List.getElem_append_left hjm]
  · refine ⟨i, by omega, ?_, by rw [if_neg c]⟩
    rw [List.getElem_set_ne (by omega), List.getElem_append_left (by omega)]
/-- So many of the wrong ones are planted. -/
def plantTo (L : Nat) (m bad : List Radio) : Nat → List Radio
  | 0 => m
  | i + 1 => match bad[i]? with
    | some b => plantL (plantTo L m bad i) b ((L + 3 * i) % ((plantTo L m bad i).length + 1))
    | none => plantTo L m bad i
theorem plantTo_len (L : Nat) (m bad : List Radio) : ∀ i, i ≤ bad.length → (plantTo L m bad i).length = m.length + i
  | 0, _ => rfl
  | i + 1, h => by
    have ih := plantTo_len L m bad i (by omega)
    unfold plantTo
    rw [List.getElem?_eq_getElem (by omega)]
    show (plantL _ _ _).length = _
    rw [plant_len, ih]
    omega
theorem plant_all {p : Radio → Prop} {m : List Radio} {b : Radio} {j : Nat} (hm : ∀ x ∈ m, p x) (hb : p b) : ∀ x ∈ plantL m b j, p x := by
  intro x hx
  unfold plantL at hx
  have h1 : ∀ x ∈ m ++ [b], p x := fun x hx => by
    rcases List.mem_append.1 hx with h | h
    · exact hm x h
    · rw [List.mem_singleton.1 h]
      exact hb
  split at hx
  · rename_i a ha
    have ha := h1 a (List.mem_of_getElem? ha)
    rcases List.mem_or_eq_of_mem_set hx with h | h
    · rcases List.mem_or_eq_of_mem_set h with h | h
      · exact h1 x h
      · rw [h]; exact ha
    · rw [h]; exact hb
  · exact h1 x hx
theorem plantTo_all {p : Radio → Prop} {L : Nat} {m bad : List Radio} (hm : ∀ x ∈ m, p x) (hb : ∀ x ∈ bad, p x) : ∀ i, ∀ x ∈ plantTo L m bad i, p x
  | 0 => hm
  | i + 1 => by
    unfold plantTo
    split
    · rename_i b h
      exact plant_all (plantTo_all hm hb i) (hb b (List.mem_of_getElem? h))
    · exact plantTo_all hm hb i
theorem mask_none : ∀ n, n < 4 → 0 ∈ masksTo 0 (2 ^ n) := by decide +kernel
theorem mask_one : ∀ n, n < 4 → ∀ j, j < n + 1 → 2 ^ j ∈ masksTo 1 (2 ^ (n + 1)) ∧ ∀ i, i < n + 1 → keepG ((2 ^ j : Nat) : Int) i = true → i ≠ j := by decide +kernel
/-- Where the first wrong one lies at last. -/
def otherAt (n j k : Nat) : Nat := if k = j then n + 1 else j
theorem mask_two1 : ∀ n, n < 4 → ∀ j, j < n + 1 → ∀ k, k < n + 2 → 2 ^ k + 2 ^ otherAt n j k ∈ masksTo 2 (2 ^ (n + 2)) := by decide +kernel
theorem mask_two2 : ∀ n, n < 4 → ∀ j, j < n + 1 → ∀ k, k < n + 2 → ∀ i, i < n + 2 → (!keepG ((2 ^ k + 2 ^ otherAt n j k : Nat) : Int) i || (i != k && i != otherAt n j k)) = true := by decide +kernel
theorem mask_upB : ∀ n, n < 6 → ∀ k, k < 2 → k < n → ((masksTo k (2 ^ n)).all fun g => (masksTo (k + 1) (2 ^ n)).any fun g' => (List.range 6).all fun i => !keepG (g' : Nat) i || keepG (g : Nat) i) = true := by decide +kernel
theorem mask_up (n : Nat) (hn : n < 6) (k : Nat) (hk : k < 2) (h : k < n) (g : Nat) (hg : g ∈ masksTo k (2 ^ n)) : ∃ g' ∈ masksTo (k + 1) (2 ^ n), ∀ i, i < 6 → keepG (g' : Nat) i = true → keepG (g : Nat) i = true := by
  have h1 := List.all_eq_true.1 (mask_upB n hn k hk h) g hg
  obtain ⟨g', h2, h3⟩ := List.any_eq_true.1 h1
  refine ⟨g', h2, fun i hi hb => ?_⟩
  have h4 := List.all_eq_true.1 h3 i (List.mem_range.2 hi)
  rw [hb] at h4
  simpa using h4
/-- There is a choice that leaves out the wrong ones. -/
theorem plant_mask {t : State} {H bad : List Radio} {L : Nat} (hH : ∀ m ∈ H, Heard t m) (h4 : H.length < 4) (h2 : bad.length ≤ 2) : ∃ g ∈ masksTo bad.length (2 ^ (plantTo L H bad bad.length).length), ∀ j (hj : j < (plantTo L H bad bad.length).length), keepG (g : Nat) j = true → Heard t (plantTo L H bad bad.length)[j] := by
  match bad, h2 with
  | [], _ => exact ⟨0, mask_none _ h4, fun j hj _ => hH _ (List.getElem_mem hj)⟩
  | [b], _ =>
    have e : plantTo L H [b] [b].length = plantL H b (L % (H.length + 1)) := rfl
    have hj : L % (H.length + 1) < H.length + 1 := Nat.mod_lt _ (by omega)
    rw [e]
    generalize L % (H.length + 1) = j at *
    obtain ⟨h1, h2⟩ := mask_one _ h4 j hj
    refine ⟨2 ^ j, by rw [plant_len]; exact h1, fun i hi hk => ?_⟩
    obtain ⟨k, hk, e, -⟩ := plant_get hj i hi (h2 i (by rw [plant_len] at hi; exact hi) hk)
    rw [e]
    exact hH _ (List.getElem_mem hk)
  | [b, c], _ =>
    have e : plantTo L H [b, c] [b, c].length = plantL (plantL H b (L % (H.length + 1))) c ((L + 3) % ((plantL H b (L % (H.length + 1))).length + 1)) := rfl
    have hj : L % (H.length + 1) < H.length + 1 := Nat.mod_lt _ (by omega)
    have hk : (L + 3) % ((plantL H b (L % (H.length + 1))).length + 1) < (plantL H b (L % (H.length + 1))).length + 1 := Nat.mod_lt _ (by omega)
    rw [e]
    generalize L % (H.length + 1) = j at *
    generalize (L + 3) % ((plantL H b j).length + 1) = k at *
    have hk2 := hk
    rw [plant_len] at hk2
    have h1 := mask_two1 _ h4 j hj k hk2
    have h2 : ∀ i, i < H.length + 2 → keepG ((2 ^ k + 2 ^ otherAt H.length j k : Nat) : Int) i = true → i ≠ k ∧ i ≠ otherAt H.length j k := fun i hi hb => by
      have := mask_two2 _ h4 j hj k hk2 i hi
      rw [hb] at this
      simpa using this
    refine ⟨_, by rw [plant_len, plant_len]; exact h1, fun i hi hkp => ?_⟩
    rw [plant_len, plant_len] at hi
    obtain ⟨n1, n2⟩ := h2 i hi hkp
    obtain ⟨x, hx, ex, qx⟩ := plant_get (b := c) hk i (by rw [plant_len, plant_len]; exact hi) n1
    rw [ex]
    rw [plant_len] at qx
    have hxj : x ≠ j := by
      unfold otherAt at n2
      rw [qx]
      split at n2 <;> split <;> omega
    obtain ⟨y, hy, ey, -⟩ := plant_get hj x hx hxj
    rw [ey]
    exact hH _ (List.getElem_mem hy)
  | _ :: _ :: _ :: _, h => exact absurd h (by simp)
theorem keepG_far {g i : Nat} (hg : g < 64) (hi : 6 ≤ i) : keepG (g : Nat) i = true := by
  have h : (64 : Nat) ≤ 2 ^ i := Nat.pow_le_pow_right (n := 2) (by decide) hi
  have e : ((g : Nat) : Int) / 2 ^ i = 0 := Int.ediv_eq_zero_of_lt (by omega) (by
    have : ((2 ^ i : Nat) : Int) = 2 ^ i := by simp
    rw [← this]
    omega)
  unfold keepG
  rw [e]
  decide
/-- The law of Trust beside what is true. -/
theorem trusts_law {s t : State} {u v : V3} (ha : About s t u v) {H bad : List Radio} {L : Nat} (hH : ∀ m ∈ H, Heard t m) (hO : ∀ m ∈ H, m.okB = true) (hb : ∀ m ∈ bad, m.okB = true) (h4 : H.length < 4) (h2 : bad.length ≤ 2) {n : Int} (h0 : 0 ≤ n) (h1 : n ≤ 16) :
    ((trustR s (plantTo L H bad bad.length) bad.length n).e = 0 ∧ hasB (trustR s (plantTo L H bad bad.length) bad.length n).s t = true ∧ withinB (trustR s (plantTo L H bad bad.length) bad.length n).s s = true)
      ∧ (bad.length < 2 → bad.length < (plantTo L H bad bad.length).length → (trustR s (plantTo L H bad bad.length) (bad.length + 1 : Nat) n).e = 0 ∧ withinB (trustR s (plantTo L H bad bad.length) bad.length n).s (trustR s (plantTo L H bad bad.length) (bad.length + 1 : Nat) n).s = true) := by
  have hl := plantTo_len L H bad bad.length (Nat.le_refl _)
  have hall := plantTo_all (p := fun m => m.okB = true) (L := L) hO hb bad.length
  have hE := fuseE_zero ha.sokB (by rw [hl]; omega) hall h0 h1
  obtain ⟨g, hg, hk⟩ := plant_mask (L := L) hH h4 h2
  generalize plantTo L H bad bad.length = M at *
  obtain ⟨x, hx, x1, x2⟩ := trust_true (n := n) ha hg hk
  have e1 : trustR s M bad.length n = ⟨x, 0⟩ := by
    unfold trustR
    rw [if_pos hE, if_neg (by omega), Int.toNat_natCast, hx]
    rfl
  rw [e1]
  refine ⟨⟨rfl, x1, x2⟩, fun h3 h5 => ?_⟩
  have hup : ∀ g ∈ masksTo bad.length (2 ^ M.length), ∃ g' ∈ masksTo (bad.length + 1) (2 ^ M.length), ∀ i, keepG (g' : Nat) i = true → keepG (g : Nat) i = true := fun g hg => by
    obtain ⟨g', hg', hs⟩ := mask_up M.length (by omega) bad.length h3 h5 g hg
    refine ⟨g', hg', fun i hi => ?_⟩
    by_cases c : i < 6
    · exact hs i c hi
    · refine keepG_far (Nat.lt_of_lt_of_le (masks_lt hg) ?_) (by omega)
      exact Nat.pow_le_pow_right (n := 2) (by decide) (show M.length ≤ 6 by omega)
  obtain ⟨y, hy, y1⟩ := trust_more (n := n) ha.ok (all_of hall) hup hx
  have e2 : trustR s M (bad.length + 1 : Nat) n = ⟨y, 0⟩ := by
    unfold trustR
    rw [if_pos hE, if_neg (by omega), Int.toNat_natCast, hy]
    rfl
  rw [e2]
  exact ⟨rfl, y1⟩
end Go.Proofs.Ytdkfkalplmgoeaa
namespace Go.Proofs.Ytdkfkalplmgoeaa
open Go.RowKit Go.Shelf
set_option maxRecDepth 100000
set_option maxHeartbeats 16000000
set_option linter.unusedSimpArgs false
/-- A whole struct is read under a guard that is met. -/
theorem wLg {ops : Array Oper} {rest : List Oper} {o : Oper} {a : Act} {w : World} {Q : Exit → Act → World → Prop} {ty : TypeId} {x : Operand} {b n : Nat} {t : TypeId} {l : List Value} (k : wpList Try.prog ops Q rest (a.put o.dst (.agg l.toArray)) w) (hw : Region.wanted o (yielded ops a.tmps) = true := by with_unfolding_all rfl) (ho : o.op = .load ty x := by with_unfolding_all rfl) (hx : a.eval x = .pointer (some ⟨b, 0, none⟩) := by with_unfolding_all rfl) (hs : StructTy ty n := by infer_instance) (hr : RowIs w b t l := by infer_instance) (hl : l.length = n := by with_unfolding_all rfl) : wpList Try.prog ops Q (o :: rest) a w := by
  unfold wpList
  rw [if_pos hw]
  refine .inl ?_
  obtain ⟨⟨d, hd1, hd2⟩, hz⟩ := hs
  have hc : w.rangeAt b 0 l := fun i v hv => by rw [Nat.zero_add, cell_rowIs, hv]
  exact wp_load_mid ty x ho b 0 hx l d hc hd1 (by cases d <;> first | rfl | cases hd2) (by rw [hz, ← hl]) k
theorem ra64_heardL {t : State} {l : List Radio} (hT : ∀ m ∈ l, Ra64 m) (h2 : ∀ m ∈ heardL t l, Heard t m) : ∀ m ∈ heardL t l, Ra64 m := fun m hm => by
  obtain ⟨j, hj, e⟩ := heard_from t l l.length m hm
  have hx := (h2 m hm).ok
  have hr := hT _ (List.getElem_mem hj)
  have hv := okB_num (okB_list hx.1).2.2
  have hh := hx.2
  subst e
  exact ra64_heard t l[j] j ⟨⟨by omega, by omega⟩, ⟨by omega, by omega⟩⟩
theorem owns_some {w : World} {base n : Nat} {e : TypeId} {v : Value} {xs : List Value} {size : Nat} (h : w.ownsRow base e size v n xs) (h0 : 0 < n) : ∃ g cap, v = .slice (some ⟨g, 0, none⟩) n cap ∧ base ≤ g ∧ g < w.heap.size := by
  rcases h.2 with ⟨_, h2⟩ | ⟨g, cap, cur, h1, hb, hg, -⟩
  · omega
  · exact ⟨g, cap, h1, hb, (Array.getElem?_eq_some_iff.1 hg).1⟩
section
variable {ops : Array Oper} {o : Oper} {a : Act} {w : World} {K : Act → World → Prop} {Q : Exit → Act → World → Prop} {E : Prop}
theorem step_store_run (hgd : o.guard = none) (hd : o.dst = none) (ty : TypeId) (x y : Operand) (ho : o.op = .store ty x y) {p v : Value} (hx : a.eval x = p) (hy : a.eval y = v) {w' : World} (h : (Instr.storeAt ty p v).run Try.prog w = .ok () w') (k : K a w') : if Region.wanted o (yielded ops a.tmps) = true then Oper.wp Try.prog o a w K Q else E := by
  have hw : Region.wanted o (yielded ops a.tmps) = true := by simp [Region.wanted, hgd]
  rw [if_pos hw]
  unfold Oper.wp execOp
  simp only [ho, hx, hy, Sem.run_bind, h, Result.andThen_ok, Sem.run_pure]
  have k2 : K (a.put o.dst undef) w' := by rw [hd]; exact k
  exact k2
end
/-- A store that alone is ready. -/
theorem tailSto {md : Region.Mode} {ops : Array Oper} {Q : Exit → Act → World → Prop} {S : World → Prop} {T : List Nat} {o : Oper} {n : Nat} {listed : Array Bool} {a : Act} {w : World} (i : Nat) (hr : Region.ready md ops listed = [i]) (ho : ops[i]? = some o) (hgd : o.guard = none) (hd : o.dst = none) (ty : TypeId) (x y : Operand) (ho2 : o.op = .store ty x y) {p v : Value} (hx : a.eval x = p) (hy : a.eval y = v) {w' : World} (h : (Instr.storeAt ty p v).run Try.prog w = .ok () w')
    (hS : T.contains i = false → S w') (k : wpTail Try.prog md ops Q S T n (listed.setIfInBounds i true) a w') : wpTail Try.prog md ops Q S T (n + 1) listed a w :=
  wpTail_one i hr ho fun _ hK => step_store_run hgd hd ty x y ho2 hx hy h (hK.out _ _ hS k)
theorem truth_walk (x : Tr) (hx : x.Ok) (l bad : List Radio) (r : Int) (r0 : 0 ≤ r) (r1 : r ≤ 255) (hT : ∀ m ∈ l, Ra64 m) (hB : ∀ m ∈ bad, Ra64 m) (ao : Option Addr) (cap : Nat) (ao2 : Option Addr) (cap2 : Nat) (w : World) (hs : SlAt w (.slice ao l.length cap) l.length (l.flatMap Radio.cells)) (hs2 : SlAt w (.slice ao2 bad.length cap2) bad.length (bad.flatMap Radio.cells)) :
    Calls Try.prog 4 #[.agg x.cells.toArray, .slice ao l.length cap, .slice ao2 bad.length cap2, .int .u8 r] w fun e w' => e = .returned (.bool true) ∧ Grew w w' := by
  have hm := hs.len_le
  have hm2 := hs2.len_le
  unfold maxLen at hm hm2
  have Hs := Lib.hid hs
  have HA := Lib.hid (fun w => l6About_any x hx w)
  clear hx
  by_cases hl : 3 < l.length
  · have hl' : decide ((3 : Int) < l.length) = true := by simp; omega
    clear hl hs hs2
    go_enter Try.func4, Try.ntmps4
    go_wp2_with (first | (go_at_call 9; (with_reducible refine call_later (l6Alive_any _) ?_); intro u) | (with_reducible refine wLr ?_) | (with_reducible refine wLi ?_) | (with_reducible refine wSf ?_) | (with_reducible refine wSi ?_) | ((with_reducible refine wp_region_later ?_ ?_ ?_); (· kernel_rfl); (· kernel_rfl); (try simp only [List.append_eq, List.cons_append, List.nil_append]); (repeat (go_big_quiet_step ((first | (go_at_call 9; (with_reducible exact call_quiet (l6Alive_any _))))))); refine wpQuiet_nil ?_; rintro _ ⟨u, rfl⟩))
    go_ret
    exact ⟨rfl, gw⟩
  have hl' : decide ((3 : Int) < l.length) = false := by simp; omega
  by_cases hb : 2 < bad.length
  · have hb' : decide ((2 : Int) < bad.length) = true := by simp; omega
    clear hl hb hs hs2
    go_enter Try.func4, Try.ntmps4
    go_wp2_with (first | (go_at_call 9; (with_reducible refine call_later (l6Alive_any _) ?_); intro u) | (with_reducible refine wLr ?_) | (with_reducible refine wLi ?_) | (with_reducible refine wSf ?_) | (with_reducible refine wSi ?_) | ((with_reducible refine wp_region_later ?_ ?_ ?_); (· kernel_rfl); (· kernel_rfl); (try simp only [List.append_eq, List.cons_append, List.nil_append]); (repeat (go_big_quiet_step ((first | (go_at_call 9; (with_reducible exact call_quiet (l6Alive_any _))))))); refine wpQuiet_nil ?_; rintro _ ⟨u, rfl⟩))
    go_ret
    exact ⟨rfl, gw⟩
  have hb' : decide ((2 : Int) < bad.length) = false := by simp; omega
  have HT := Lib.hid hT
  have HB := Lib.hid hB
  have hH := Lib.hid (fun (t : State) (ht : Pv64 t) w' (g : Grew w w') => l6HeardO_any t l (ht := ht) hT (by omega) ao cap w' (Hs.out.grew g))
  have HL := Lib.hid (show l.length ≤ 3 by omega)
  have HBL := Lib.hid (show bad.length ≤ 2 by omega)
  obtain ⟨ao2', cap2', e2, -, hx2⟩ := hs2
  cases e2
  have HE := Lib.hid (SlAt.elem (f := Radio.cells) (c := 15) (fun _ => rfl) (by omega) hx2)
  clear hs hx2 hl hb hT hB
  go_enter Try.func4, Try.ntmps4
  go_upto_region 5 with (first | (go_at_call 9; (with_reducible refine call_later (l6Alive_any _) ?_); intro ua) | (go_at_call 10; refine (HA.out _).mono ?_; rintro e w' ⟨s, t, u, v, hA, hs64, ht64, rfl, hg1⟩; obtain ⟨z1, rfl⟩ := later_of hg1; have hA' := Lib.hid hA; have ap1 : Apart z1.world.heap.size (z1.world.heap.size + 1) := ⟨by omega⟩; have ap2 : Apart (z1.world.heap.size + 1) z1.world.heap.size := ⟨by omega⟩; clear hg1 hA) | (with_reducible refine wLr ?_) | (with_reducible refine wLi ?_) | (with_reducible refine wSf ?_) | (with_reducible refine wSi ?_))
  refine wp_to_later (z := w) gwr ?_
  intro W hW
  have rs : RowIs W.world z1.world.heap.size 43 s.cells := by rw [hW]; infer_instance
  have rt : RowIs W.world (z1.world.heap.size + 1) 43 t.cells := by rw [hW]; infer_instance
  clear hW ap1 ap2
  have is := rs.blockIn
  have it := rt.blockIn
  generalize z1.world.heap.size = q at *
  have hHt := Lib.hid (hH.out t ht64 W.world W.grew)
  have hh : ∀ m ∈ heardL t l, Heard t m := heard_all hA'.out l l.length
  have hra := ra64_heardL HT.out hh
  have hln : (heardL t l).length ≤ 3 := Nat.le_trans (heard_len t l l.length) HL.out
  clear hH HA
  generalize heardL t l = L at *
  go_upto_block 0 with (first | (go_at_call 11; refine hHt.out.mono ?_; rintro e w' ⟨v2, rfl, hown0, hg2⟩; obtain ⟨z2, rfl⟩ := later_of hg2; clear hg2) | (with_reducible refine wLr ?_) | (with_reducible refine wLi ?_) | (with_reducible refine wSf ?_) | (with_reducible refine wSi ?_))
  have P0 := Lib.hid (show plantTo l.length L bad 0 = L from rfl)
  have PS := Lib.hid (fun (i : Nat) (h : i < bad.length) => show plantTo l.length L bad (i + 1) = plantL (plantTo l.length L bad i) bad[i] ((l.length + 3 * i) % ((plantTo l.length L bad i).length + 1)) by
    conv => lhs; unfold plantTo
    rw [List.getElem?_eq_getElem h])
  have PL := Lib.hid (plantTo_len l.length L bad)
  have HBo := Lib.hid (fun (i : Nat) (x : Radio) (hx : x.okB = false) => hx)
  have hlaw := Lib.hid (fun (hb : ∀ m ∈ bad, m.okB = true) => trusts_law (L := l.length) hA'.out (H := L) (bad := bad) hh (fun m hm => (hh m hm).ok.1) hb (by omega) HBL.out (n := r % 5) (by omega) (by omega))
  have HMR := Lib.hid (plantTo_all (p := Ra64) (L := l.length) (m := L) (bad := bad) hra HB.out bad.length)
  clear HBo
  generalize plantTo l.length L bad = P at *
  go_wp2
  go_loopw [12, 45] (fun v iv wr => ∃ i : Nat, iv = .int .i64 i ∧ i ≤ bad.length ∧ wr.ownsRow W.world.heap.size 49 15 v (P i).length ((P i).flatMap Radio.cells) ∧ Grew W.world wr ∧ Hid (∀ j (hj : j < bad.length), j < i → bad[j].okB = true)) (fun _ iv _ => bad.length - (intOf iv).toNat)
  case atStart => exact ⟨0, rfl, by omega, by rw [P0.out]; exact hown0, gw, Lib.hid (fun j _ h => absurd h (by omega))⟩
  case round =>
    obtain ⟨i, rfl, hi, hown, hg, hok⟩ := hrel
    obtain ⟨z, rfl⟩ := later_of hg
    clear hg
    by_cases hlt : i < bad.length
    · obtain ⟨b1, o1, e1, i1, hd1, hd2⟩ := HE.out i hlt
      cases e1
      have rg : RangeIs w b1 (o1 + i * 15) 15 bad[i].cells := ⟨fun j v hv => hd2 j v hv, rfl⟩
      have j1 : BlockIn w b1 := ⟨i1⟩
      have hps := PS.out i hlt
      have hpl := PL.out i hi
      have hok2 : bad[i].okB = true → ∀ j (hj : j < bad.length), j < i + 1 → bad[j].okB = true := fun h j hj hji => by
        by_cases e : j = i
        · subst e; exact h
        · exact hok.out j hj (by omega)
      have HOK := Lib.hid hok2
      clear hd1 hd2 hok2
      generalize bad[i] = b at *
      have HC := Lib.hid (fun w => show Calls Try.prog 12 #[.agg b.cells.toArray] w fun e w' => e = .returned (.int .i64 (codeB b.okB 2)) ∧ Grew w w' from navRadio_any b w)
      cases hbo : b.okB
      · rw [hbo] at HC
        clear hps hpl HOK hlaw HMR PS PL P0 HE
        go_wp2_with (first | (go_at_call 12; (with_reducible refine call_later (HC.out _) ?_); intro u) | (with_reducible refine wLr ?_) | (with_reducible refine wLi ?_) | (with_reducible refine wSf ?_) | (with_reducible refine wSi ?_) | ((with_reducible refine wp_region_later ?_ ?_ ?_); (· kernel_rfl); (· kernel_rfl); (try simp only [List.append_eq, List.cons_append, List.nil_append]); (repeat (go_big_quiet_step ((first | (go_at_call 12; (with_reducible exact call_quiet (HC.out _))))))); refine wpQuiet_nil ?_; rintro _ ⟨u, rfl⟩))
        go_ret
        exact ⟨rfl, W.grew.trans gwr⟩
      · rw [hbo] at HC
        obtain ⟨Pn, hpn⟩ : ∃ X, X = P (i + 1) := ⟨_, rfl⟩
        rw [← hpn] at hps
        have HPN := Lib.hid hpn
        have HPS := Lib.hid hps
        clear hpn
        clear hps hlaw HMR PS PL P0 HE
        generalize P i = A at *
        have HEL := Lib.hid (show (A ++ [b]).length = A.length + 1 by simp)
        obtain ⟨j, hj⟩ : ∃ j, j = (l.length + 3 * i) % (A.length + 1) := ⟨_, rfl⟩
        have hjl : j < A.length + 1 := by rw [hj]; exact Nat.mod_lt _ (by omega)
        have hL3 := HL.out
        have hb2 := HBL.out
        have q1 : ((l.length : Int) + 3 * (i : Int)) % ((A.length : Int) + 1) = (j : Int) := by
          rw [hj]
          simp
        have q2 : ¬ ((A.length : Int) + 1 = 0) := by omega
        have hjI : (j : Int) < (A.length : Int) + 1 := by omega
        have hn5 : (A.length : Int) ≤ 5 := by omega
        have HJJ := Lib.hid hj
        have hn5' : A.length ≤ 5 := by omega
        clear hj hpl
        go_upto_region 11 with (first | (go_at_call 12; (with_reducible refine call_later (HC.out _) ?_); intro uc) | (with_reducible refine wLr ?_))
        have rg2 : RangeIs w b1 (o1 + i * 15) 15 [.int .i64 b.kind, .int .i64 b.place.x.lo, .int .i64 b.place.x.hi, .int .i64 b.place.y.lo, .int .i64 b.place.y.hi, .int .i64 b.place.z.lo, .int .i64 b.place.z.hi, .int .i64 b.dir.x.lo, .int .i64 b.dir.x.hi, .int .i64 b.dir.y.lo, .int .i64 b.dir.y.hi, .int .i64 b.dir.z.lo, .int .i64 b.dir.z.hi, .int .i64 b.value.lo, .int .i64 b.value.hi] := rg
        clear rg
        go_upto_region 14 with (first | (with_reducible refine wLr ?_) | (at_builtin; go_loud (refine wpList_app_radio W.world _ gw rfl _ _ rfl _ A (owns_grew hown gw) rfl b _ rfl (by omega) ?_; intro v' y1 hown'; rw [HEL.out] at hown'; obtain ⟨g, cap5, rfl, hgb, hgl⟩ := owns_some hown' (by omega))) | (with_reducible refine wLi ?_) | (with_reducible refine wSf ?_) | (with_reducible refine wSi ?_))
        obtain ⟨aoo, capp, e0, hml, hxx⟩ := SlAt.of_owns (owns_grew hown' (show Grew y1.world y1.world.drew from gw))
        cases e0
        have HE1 := Lib.hid (SlAt.elem (f := Radio.cells) (c := 15) (fun _ => rfl) (by omega) hxx)
        have hlA : (A ++ [b]).length = A.length + 1 := HEL.out
        obtain ⟨_, _, e0, -, hd1, hd2⟩ := HE1.out j (by omega)
        cases e0
        have rgj : RangeIs y1.world.drew g (j * 15) 15 (A ++ [b])[j].cells := ⟨fun k u hu => by have := hd2 k u hu; rwa [Nat.zero_add] at this, rfl⟩
        clear hd1 hd2
        obtain ⟨_, _, e0, -, hd1, hd2⟩ := HE1.out A.length (by omega)
        cases e0
        have hAb : (A ++ [b])[A.length] = b := by simp
        have rgn : RangeIs y1.world.drew g (A.length * 15) 15 b.cells := ⟨fun k u hu => by have := hd2 k u (by rw [hAb]; exact hu); rwa [Nat.zero_add] at this, rfl⟩
        clear hd1 hd2 HE1 hxx
        have hpl2 : Pn = ((A ++ [b]).set A.length (A ++ [b])[j]).set j b := by
          rw [HPS.out, ← HJJ.out]
          unfold plantL
          rw [List.getElem?_eq_getElem (show j < (A ++ [b]).length by omega)]
        obtain ⟨c, hc⟩ : ∃ c, c = (A ++ [b])[j] := ⟨_, rfl⟩
        rw [← hc] at rgj hpl2
        clear hc
        have hown1 : y1.world.drew.ownsRow W.world.heap.size 49 15 (.slice (some ⟨g, 0, none⟩) (A ++ [b]).length cap5) (A ++ [b]).length ((A ++ [b]).flatMap Radio.cells) := by
          rw [hlA]
          exact owns_grew hown' (show Grew y1.world y1.world.drew from gw)
        obtain ⟨st1, ow1, gb1⟩ := store_elem hown1 A.length (by omega) c
        have hl1 : ((A ++ [b]).set A.length c).length = (A ++ [b]).length := List.length_set
        have hPn : Pn.length = A.length + 1 := by rw [hpl2, List.length_set, List.length_set, hlA]
        generalize (A ++ [b]).set A.length c = S at *
        rw [← hl1] at ow1
        obtain ⟨st2, ow2, gb2⟩ := store_elem ow1 j (by omega) b
        rw [hl1, hlA, ← hpl2] at ow2
        have gA := ((show Grew W.world y1.world.drew from gw).grown gb1 (fun k e => by cases e; exact hgb)).grown gb2 (fun k e => by cases e; exact hgb)
        have HO2 := Lib.hid (show World.ownsRow _ W.world.heap.size 49 15 (.slice (some ⟨g, 0, none⟩) (A.length + 1) cap5) Pn.length (Pn.flatMap Radio.cells) by rw [hPn]; exact ow2)
        clear ow1 ow2 gb1 gb2 hown1 hpl2 hown'
        refine wp_region_tail (fun _ => True) [] rfl ?_
        refine wpTail_take 0 [] (v := .slice (some ⟨g, 0, none⟩) (A.length + 1) cap5) rfl (by kernel_rfl) (by kernel_rfl) (by kernel_rfl) (by kernel_rfl) (fun _ _ _ h => h) (by rfl) trivial (fun w' _ => by go_simp; try (intro h; omega)) ?_
        try simp only [List.getElem_toArray, List.getElem_cons_succ, List.getElem_cons_zero, Act.put, List.setIfInBounds_toArray, List.set_cons_zero, List.set_cons_succ]
        refine wpTail_take 1 [] (v := .int .i64 A.length) rfl (by kernel_rfl) (by kernel_rfl) (by kernel_rfl) (by kernel_rfl) (fun _ _ _ h => h) (by rfl) trivial (fun w' _ => by go_simp; try (intro h; omega)) ?_
        try simp only [List.getElem_toArray, List.getElem_cons_succ, List.getElem_cons_zero, Act.put, List.setIfInBounds_toArray, List.set_cons_zero, List.set_cons_succ]
        refine wpTail_take 2 [] (v := .slice (some ⟨g, 0, none⟩) (A.length + 1) cap5) rfl (by kernel_rfl) (by kernel_rfl) (by kernel_rfl) (by kernel_rfl) (fun _ _ _ h => h) (by rfl) trivial (fun w' _ => by go_simp; try (intro h; omega)) ?_
        try simp only [List.getElem_toArray, List.getElem_cons_succ, List.getElem_cons_zero, Act.put, List.setIfInBounds_toArray, List.set_cons_zero, List.set_cons_succ]
        refine wpTail_take 3 [] (v := .int .i64 j) rfl (by kernel_rfl) (by kernel_rfl) (by kernel_rfl) (by kernel_rfl) (fun _ _ _ h => h) (by rfl) trivial (fun w' _ => by go_simp; try (intro h; omega)) ?_
        try simp only [List.getElem_toArray, List.getElem_cons_succ, List.getElem_cons_zero, Act.put, List.setIfInBounds_toArray, List.set_cons_zero, List.set_cons_succ]
        refine wpTail_take 4 [] (v := .slice (some ⟨g, 0, none⟩) (A.length + 1) cap5) rfl (by kernel_rfl) (by kernel_rfl) (by kernel_rfl) (by kernel_rfl) (fun _ _ _ h => h) (by rfl) trivial (fun w' _ => by go_simp; try (intro h; omega)) ?_
        try simp only [List.getElem_toArray, List.getElem_cons_succ, List.getElem_cons_zero, Act.put, List.setIfInBounds_toArray, List.set_cons_zero, List.set_cons_succ]
        refine wpTail_take 5 [] (v := .int .i64 j) rfl (by kernel_rfl) (by kernel_rfl) (by kernel_rfl) (by kernel_rfl) (fun _ _ _ h => h) (by rfl) trivial (fun w' _ => by go_simp; try (intro h; omega)) ?_
        try simp only [List.getElem_toArray, List.getElem_cons_succ, List.getElem_cons_zero, Act.put, List.setIfInBounds_toArray, List.set_cons_zero, List.set_cons_succ]
        refine wpTail_take 6 [] (v := .pointer (some ⟨g, j * 15, none⟩)) rfl (by kernel_rfl) (by kernel_rfl) (by kernel_rfl) (by kernel_rfl) (fun _ _ _ h => h) (by rfl) trivial (fun w' _ => by go_simp; try (intro h; omega)) ?_
        try simp only [List.getElem_toArray, List.getElem_cons_succ, List.getElem_cons_zero, Act.put, List.setIfInBounds_toArray, List.set_cons_zero, List.set_cons_succ]
        refine wpTail_take 8 [] (v := .slice (some ⟨g, 0, none⟩) (A.length + 1) cap5) rfl (by kernel_rfl) (by kernel_rfl) (by kernel_rfl) (by kernel_rfl) (fun _ _ _ h => h) (by rfl) trivial (fun w' _ => by go_simp; try (intro h; omega)) ?_
        try simp only [List.getElem_toArray, List.getElem_cons_succ, List.getElem_cons_zero, Act.put, List.setIfInBounds_toArray, List.set_cons_zero, List.set_cons_succ]
        refine wpTail_take 9 [] (v := .int .i64 A.length) rfl (by kernel_rfl) (by kernel_rfl) (by kernel_rfl) (by kernel_rfl) (fun _ _ _ h => h) (by rfl) trivial (fun w' _ => by go_simp; try (intro h; omega)) ?_
        try simp only [List.getElem_toArray, List.getElem_cons_succ, List.getElem_cons_zero, Act.put, List.setIfInBounds_toArray, List.set_cons_zero, List.set_cons_succ]
        refine wpTail_take 10 [] (v := .pointer (some ⟨g, A.length * 15, none⟩)) rfl (by kernel_rfl) (by kernel_rfl) (by kernel_rfl) (by kernel_rfl) (fun _ _ _ h => h) (by rfl) trivial (fun w' _ => by go_simp; try (intro h; omega)) ?_
        try simp only [List.getElem_toArray, List.getElem_cons_succ, List.getElem_cons_zero, Act.put, List.setIfInBounds_toArray, List.set_cons_zero, List.set_cons_succ]
        refine wpTail_two 7 11 (by kernel_rfl) rfl rfl (fun K hK => ?_) (fun K hK => ?_)
        · refine step_load_rng rfl _ _ rfl (b := g) (p := j * 15) (n := 15) (cs := c.cells) (hr := rgj) rfl ?_
          refine hK.out _ _ (fun _ => trivial) ?_
          clear hK K
          try simp only [List.getElem_toArray, List.getElem_cons_succ, List.getElem_cons_zero, Act.put, List.setIfInBounds_toArray, List.set_cons_zero, List.set_cons_succ]
          refine wpTail_one 11 (by kernel_rfl) rfl fun K hK => ?_
          refine step_load_rng rfl _ _ rfl (b := g) (p := A.length * 15) (n := 15) (cs := b.cells) (hr := rgn) rfl ?_
          refine hK.out _ _ (fun _ => trivial) ?_
          clear hK K
          try simp only [List.getElem_toArray, List.getElem_cons_succ, List.getElem_cons_zero, Act.put, List.setIfInBounds_toArray, List.set_cons_zero, List.set_cons_succ]
          refine wpTail_take 12 [] (v := .pointer (some ⟨g, A.length * 15, none⟩)) rfl (by kernel_rfl) (by kernel_rfl) (by kernel_rfl) (by kernel_rfl) (fun _ _ _ h => h) (by rfl) trivial (fun w' _ => by go_simp; try (intro h; omega)) ?_
          try simp only [List.getElem_toArray, List.getElem_cons_succ, List.getElem_cons_zero, Act.put, List.setIfInBounds_toArray, List.set_cons_zero, List.set_cons_succ]
          refine tailSto (p := .pointer (some ⟨g, A.length * 15, none⟩)) (v := .agg c.cells.toArray) 13 (by kernel_rfl) rfl rfl rfl 49 _ _ rfl rfl rfl st1 (fun _ => trivial) ?_
          refine wpTail_take 14 [] (v := .pointer (some ⟨g, j * 15, none⟩)) rfl (by kernel_rfl) (by kernel_rfl) (by kernel_rfl) (by kernel_rfl) (fun _ _ _ h => h) (by rfl) trivial (fun w' _ => by go_simp; try (intro h; omega)) ?_
          try simp only [List.getElem_toArray, List.getElem_cons_succ, List.getElem_cons_zero, Act.put, List.setIfInBounds_toArray, List.set_cons_zero, List.set_cons_succ]
          refine tailSto (p := .pointer (some ⟨g, j * 15, none⟩)) (v := .agg b.cells.toArray) 15 (by kernel_rfl) rfl rfl rfl 49 _ _ rfl rfl rfl st2 (fun _ => trivial) ?_
          refine wpTail_done (by kernel_rfl) ?_
          go_wp2
          go_roundw
          case rel => exact ⟨i + 1, by go_num, by omega, by rw [← HPN.out]; exact HO2.out, gA, Lib.hid (HOK.out hbo)⟩
          case measure => simp [intOf]; omega
        · refine step_load_rng rfl _ _ rfl (b := g) (p := A.length * 15) (n := 15) (cs := b.cells) (hr := rgn) rfl ?_
          refine hK.out _ _ (fun _ => trivial) ?_
          clear hK K
          try simp only [List.getElem_toArray, List.getElem_cons_succ, List.getElem_cons_zero, Act.put, List.setIfInBounds_toArray, List.set_cons_zero, List.set_cons_succ]
          refine wpTail_one 7 (by kernel_rfl) rfl fun K hK => ?_
          refine step_load_rng rfl _ _ rfl (b := g) (p := j * 15) (n := 15) (cs := c.cells) (hr := rgj) rfl ?_
          refine hK.out _ _ (fun _ => trivial) ?_
          clear hK K
          try simp only [List.getElem_toArray, List.getElem_cons_succ, List.getElem_cons_zero, Act.put, List.setIfInBounds_toArray, List.set_cons_zero, List.set_cons_succ]
          refine wpTail_take 12 [] (v := .pointer (some ⟨g, A.length * 15, none⟩)) rfl (by kernel_rfl) (by kernel_rfl) (by kernel_rfl) (by kernel_rfl) (fun _ _ _ h => h) (by rfl) trivial (fun w' _ => by go_simp; try (intro h; omega)) ?_
          try simp only [List.getElem_toArray, List.getElem_cons_succ, List.getElem_cons_zero, Act.put, List.setIfInBounds_toArray, List.set_cons_zero, List.set_cons_succ]
          refine tailSto (p := .pointer (some ⟨g, A.length * 15, none⟩)) (v := .agg c.cells.toArray) 13 (by kernel_rfl) rfl rfl rfl 49 _ _ rfl rfl rfl st1 (fun _ => trivial) ?_
          refine wpTail_take 14 [] (v := .pointer (some ⟨g, j * 15, none⟩)) rfl (by kernel_rfl) (by kernel_rfl) (by kernel_rfl) (by kernel_rfl) (fun _ _ _ h => h) (by rfl) trivial (fun w' _ => by go_simp; try (intro h; omega)) ?_
          try simp only [List.getElem_toArray, List.getElem_cons_succ, List.getElem_cons_zero, Act.put, List.setIfInBounds_toArray, List.set_cons_zero, List.set_cons_succ]
          refine tailSto (p := .pointer (some ⟨g, j * 15, none⟩)) (v := .agg b.cells.toArray) 15 (by kernel_rfl) rfl rfl rfl 49 _ _ rfl rfl rfl st2 (fun _ => trivial) ?_
          refine wpTail_done (by kernel_rfl) ?_
          go_wp2
          go_roundw
          case rel => exact ⟨i + 1, by go_num, by omega, by rw [← HPN.out]; exact HO2.out, gA, Lib.hid (HOK.out hbo)⟩
          case measure => simp [intOf]; omega
    · obtain rfl : i = bad.length := by omega
      have hbok : ∀ m ∈ bad, m.okB = true := fun m hm => by
        obtain ⟨j, hj, rfl⟩ := List.getElem_of_mem hm
        exact hok.out j hj hj
      have hLW := hlaw.out hbok
      have hMl := PL.out bad.length (Nat.le_refl _)
      have hMR := HMR.out
      clear hlaw HMR PS PL P0 HE hok hbok hHt hh hra
      generalize P bad.length = M at *
      obtain ⟨ao5, cap5, rfl⟩ := owns_form hown
      have Hsl := Lib.hid (SlAt.of_owns hown)
      obtain ⟨⟨l1, l2, l3⟩, l4⟩ := hLW
      have HT1 := Lib.hid (fun w' (g : Grew z.world w') => show Calls Try.prog 13 #[.agg s.cells.toArray, .slice ao5 M.length cap5, .int .i64 bad.length, .int .i64 (r % 5)] w' (fun e1 w'' => e1 = .returned (.tuple #[.agg (trustR s M bad.length (r % 5)).s.cells.toArray, .int .i64 0]) ∧ Grew w' w'') from by
        have := navTrust_any s M bad.length (r % 5) hMR ao5 cap5 w' (Hsl.out.grew g)
        unfold RetTr at this
        rw [l1] at this
        exact this)
      have HT2 := Lib.hid (fun (l5 : (trustR s M (bad.length + 1 : Nat) (r % 5)).e = 0) w' (g : Grew z.world w') => show Calls Try.prog 13 #[.agg s.cells.toArray, .slice ao5 M.length cap5, .int .i64 ((bad.length : Int) + 1), .int .i64 (r % 5)] w' (fun e1 w'' => e1 = .returned (.tuple #[.agg (trustR s M (bad.length + 1 : Nat) (r % 5)).s.cells.toArray, .int .i64 0]) ∧ Grew w' w'') from by
        have := navTrust_any s M (bad.length + 1 : Nat) (r % 5) hMR ao5 cap5 w' (Hsl.out.grew g)
        unfold RetTr at this
        rw [l5] at this
        exact this)
      generalize trustR s M bad.length (r % 5) = R1 at *
      generalize trustR s M (bad.length + 1 : Nat) (r % 5) = R2 at *
      have HH := Lib.hid (fun w => show Calls Try.prog 14 #[.agg R1.s.cells.toArray, .agg t.cells.toArray] w fun e w' => e = .returned (.bool true) ∧ Grew w w' from is_bool l2 (l6Has_any _ _ w))
      have HW1 := Lib.hid (fun w => show Calls Try.prog 15 #[.agg R1.s.cells.toArray, .agg s.cells.toArray] w fun e w' => e = .returned (.bool true) ∧ Grew w w' from is_bool l3 (l6Within_any _ _ w))
      have hMl2 : (M.length : Int) = (L.length : Int) + bad.length := by omega
      by_cases c : bad.length < 2 ∧ bad.length < M.length
      · obtain ⟨l5, l6⟩ := l4 c.1 c.2
        have HT2' := Lib.hid (HT2.out l5)
        have HW2 := Lib.hid (fun w => show Calls Try.prog 15 #[.agg R1.s.cells.toArray, .agg R2.s.cells.toArray] w fun e w' => e = .returned (.bool true) ∧ Grew w w' from is_bool l6 (l6Within_any _ _ w))
        obtain ⟨c1, c2⟩ := c
        have c3 : (bad.length : Int) < 2 := by omega
        have c4 : (bad.length : Int) < M.length := by omega
        clear hMl hMl2 hMR l1 l2 l3 l4 l5 l6 hown HT2
        go_upto_region 22 with (first | (go_at_call 13; (with_reducible refine call_later (HT1.out _ gwr) ?_); intro u1) | (go_at_call 14; (with_reducible refine call_later (HH.out _) ?_); intro u2) | (go_at_call 15; (with_reducible refine call_later (HW1.out _) ?_); intro u3) | (with_reducible refine wLr ?_) | (with_reducible refine wLi ?_) | (with_reducible refine wLg ?_) | (with_reducible refine wSf ?_) | (with_reducible refine wSi ?_))
        go_wp2_with (first | (go_at_call 13; (with_reducible refine call_later (HT2'.out _ gwr) ?_); intro u4) | (go_at_call 15; (with_reducible refine call_later (HW2.out _) ?_); intro u5) | (with_reducible refine wLr ?_) | (with_reducible refine wLi ?_) | (with_reducible refine wLg ?_) | (with_reducible refine wSf ?_) | (with_reducible refine wSi ?_))
        go_ret
        exact ⟨rfl, W.grew.trans (z.grew.trans gwr)⟩
      · have c2 : (2 ≤ (bad.length : Int)) ∨ (¬ (2 ≤ (bad.length : Int)) ∧ (M.length : Int) ≤ bad.length) := by omega
        clear l4 c hMl hMl2 hMR l1 l2 l3 hown HT2
        rcases c2 with c2 | ⟨c2, c3⟩
        all_goals
          go_wp2_with (first | (go_at_call 13; (with_reducible refine call_later (HT1.out _ gwr) ?_); intro u1) | (go_at_call 14; (with_reducible refine call_later (HH.out _) ?_); intro u2) | (go_at_call 15; (with_reducible refine call_later (HW1.out _) ?_); intro u3) | (with_reducible refine wLr ?_) | (with_reducible refine wLi ?_) | (with_reducible refine wLg ?_) | (with_reducible refine wSf ?_) | (with_reducible refine wSi ?_))
          go_ret
          exact ⟨rfl, W.grew.trans (z.grew.trans gwr)⟩
end Go.Proofs.Ytdkfkalplmgoeaa
namespace Go.Proofs.Ytdkfkalplmgoeaa
open Go.RowKit Go.ChangeShapes Go.WideShapes Go.ChangeAt Go.Deep

/-- All cells of the type are of int's kind; n of them. -/
def flatInt (P : Program) : Nat → TypeId → Nat → Bool
  | 0, _, _ => false
  | f + 1, t, n =>
    match P.underlying t with
    | some (.int .i64) => n == 1
    | some (.struct fs) => P.cellsOf t == n && (fs.toList.foldl (fun (a : Option Nat) (x : Field) => a.bind fun o => if x.offset == o && flatInt P f x.type (P.cellsOf x.type) then some (o + P.cellsOf x.type) else none) (some 0) == some n)
    | some (.array m e) => P.cellsOf t == n && flatInt P f e (P.cellsOf e) && n == m * P.cellsOf e
    | _ => false

def AllInt (cs : List Value) : Prop := ∀ (i : Nat) v, cs[i]? = some v → ∃ k : Int, v = .int .i64 k ∧ (Lit.int .i64 k).wf = true
theorem AllInt.nil : AllInt [] := fun i v h => by simp at h
theorem AllInt.append {a b : List Value} (ha : AllInt a) (hb : AllInt b) : AllInt (a ++ b) := fun i v h => by
  rw [List.getElem?_append] at h
  split at h
  · exact ha _ _ h
  · exact hb _ _ h

section
variable {H : Type} {enc : TypeId × Value → H} {P : Program} {w : World} {base : Nat} {spare : Nat → Bool} {held : Bool}

theorem flat_fold (P : Program) (f : Nat) (l : List Field) : ∀ (o n : Nat),
    l.foldl (fun (a : Option Nat) (x : Field) => a.bind fun o => if x.offset == o && flatInt P f x.type (P.cellsOf x.type) then some (o + P.cellsOf x.type) else none) (some o) = some n →
    o ≤ n ∧ ∀ (cs : List Value), (∀ x ∈ l, flatInt P f x.type (P.cellsOf x.type) = true → AllInt ((cs.drop x.offset).take (P.cellsOf x.type))) → AllInt ((cs.drop o).take (n - o)) := by
  have hnone : ∀ (l : List Field), l.foldl (fun (a : Option Nat) (x : Field) => a.bind fun o => if x.offset == o && flatInt P f x.type (P.cellsOf x.type) then some (o + P.cellsOf x.type) else none) none = none := by
    intro l
    induction l with
    | nil => rfl
    | cons x l ih => simpa using ih
  induction l with
  | nil =>
    intro o n h
    simp at h
    subst h
    exact ⟨Nat.le_refl _, fun cs _ => by simp [AllInt.nil]⟩
  | cons x l ih =>
    intro o n h
    simp only [List.foldl_cons, Option.bind_some] at h
    by_cases hx : (x.offset == o && flatInt P f x.type (P.cellsOf x.type)) = true
    · rw [if_pos hx] at h
      obtain ⟨h1, h2⟩ := ih _ _ h
      simp only [Bool.and_eq_true, beq_iff_eq] at hx
      refine ⟨by omega, fun cs hc => ?_⟩
      have ha := hc x (by simp) hx.2
      rw [hx.1] at ha
      have hb := h2 cs (fun y hy => hc y (by simp [hy]))
      have e : (cs.drop o).take (n - o) = (cs.drop o).take (P.cellsOf x.type) ++ (cs.drop (o + P.cellsOf x.type)).take (n - (o + P.cellsOf x.type)) := by
        rw [← List.drop_drop, show n - o = P.cellsOf x.type + (n - (o + P.cellsOf x.type)) by omega, List.take_add]
      rw [e]
      exact ha.append hb
    · rw [if_neg hx, hnone] at h
      cases h

theorem flat_trod (P : Program) : ∀ (f : Nat) (t : TypeId) (n fuel : Nat) (cs : List Value) (x : DataW H × List MemPlace), flatInt P f t n = true →
    DataW.trod enc P w base spare held fuel t cs = some x → cs.length = n ∧ AllInt cs
  | 0, _, _, _, _, _, h, _ => by simp [flatInt] at h
  | f + 1, t, n, fuel, cs, x, h, ht => by
    unfold flatInt at h
    split at h
    · rename_i hu
      obtain ⟨k, rfl, -, hw⟩ := DataW.trod_int hu ht
      simp at h
      subst h
      refine ⟨rfl, fun i v hi => ?_⟩
      match i, hi with
      | 0, hi => simp at hi; exact ⟨k, hi.symm, hw⟩
    · rename_i fs hu
      obtain ⟨xs, m, rfl, -, hl, hxl, hf⟩ := DataW.trod_struct hu ht
      have h1 := beq_iff_eq.1 (Bool.and_eq_true_iff.1 h).1
      have h2 := beq_iff_eq.1 (Bool.and_eq_true_iff.1 h).2
      obtain ⟨-, h3⟩ := flat_fold P f fs.toList 0 n h2
      have hn : cs.length = n := hl.trans h1
      refine ⟨hn, ?_⟩
      have := h3 cs (fun y hy hfl => by
        obtain ⟨i, hi⟩ := List.mem_iff_getElem?.1 hy
        have hi' : fs[i]? = some y := by simpa using hi
        have hlt : i < fs.size := (Array.getElem?_eq_some_iff.1 hi').1
        have e := hf i y hi'
        rw [List.getElem?_eq_getElem (by omega)] at e
        exact (flat_trod P f _ _ _ _ _ hfl e).2)
      simpa [← hn] using this
    · rename_i m e hu
      obtain ⟨xs, k, rfl, -, hl, hxl, hf⟩ := DataW.trod_array hu ht
      simp only [Bool.and_eq_true, beq_iff_eq] at h
      obtain ⟨⟨h1, h2⟩, h3⟩ := h
      have hn : cs.length = n := hl.trans h1
      refine ⟨hn, ?_⟩
      have key : ∀ j, j ≤ m → AllInt (cs.take (j * P.cellsOf e)) := by
        intro j
        induction j with
        | zero => intro _; simp [AllInt.nil]
        | succ j ih =>
          intro hj
          rw [Nat.succ_mul, List.take_add]
          refine (ih (by omega)).append ?_
          have e1 := hf j (by omega)
          rw [List.getElem?_eq_getElem (by omega)] at e1
          exact (flat_trod P f _ _ _ _ _ h2 e1).2
      have := key m (Nat.le_refl _)
      rwa [← h3, ← hn, List.take_length] at this
    · cases h

/-- The integers of cells that are all integers. -/
theorem allInt_list (cs : List Value) (h : AllInt cs) : ∃ ns : List Int, cs = ns.map (.int .i64) ∧ ∀ k ∈ ns, -9223372036854775808 ≤ k ∧ k ≤ 9223372036854775807 := by
  induction cs with
  | nil => exact ⟨[], rfl, by simp⟩
  | cons v cs ih =>
    obtain ⟨k, rfl, hw⟩ := h 0 v rfl
    obtain ⟨ns, rfl, hb⟩ := ih (fun i v hi => h (i + 1) v (by simpa using hi))
    refine ⟨k :: ns, rfl, fun j hj => ?_⟩
    rcases List.mem_cons.1 hj with rfl | hj
    · simpa [Lit.wf, IntKind.min, IntKind.max, IntKind.signed, IntKind.bits] using hw
    · exact hb j hj

/-- A struct or array argument of integers alone. -/
theorem open_flat {r : Reach} {b0 : Nat} {t : TypeId} {v : Value} {d : DataW H} {p : List MemPlace} (n : Nat) (hfl : flatInt P 12 t n = true) {fs : Array Field} (hs : P.underlying t = some (.struct fs))
    (hv : Value.okWide P w r b0 t v) (h : DataW.Trod enc P w base spare held t v d p) :
    ∃ ns : List Int, v = .agg (ns.map (Value.int .i64)).toArray ∧ ns.length = n ∧ ∀ k ∈ ns, -9223372036854775808 ≤ k ∧ k ≤ 9223372036854775807 := by
  obtain ⟨cs, rfl, hsz⟩ := okWide_struct hs hv
  obtain ⟨fuel, hf⟩ := h
  obtain ⟨h1, h2⟩ := flat_trod P 12 t n fuel _ _ hfl hf
  obtain ⟨ns, e, hb⟩ := allInt_list _ h2
  refine ⟨ns, ?_, ?_, hb⟩
  · congr 1
    apply Array.ext'
    simpa [Value.cells] using e
  · rw [← h1, e]; simp
theorem open_num {r : Reach} {b0 : Nat} {t : TypeId} {v : Value} {d : DataW H} {p : List MemPlace} (hs : P.underlying t = some (.int .i64))
    (hv : Value.okWide P w r b0 t v) (h : DataW.Trod enc P w base spare held t v d p) : ∃ k : Int, v = .int .i64 k ∧ -9223372036854775808 ≤ k ∧ k ≤ 9223372036854775807 := by
  obtain ⟨k, rfl, -, -, hw⟩ := open_int hs hv h
  exact ⟨k, rfl, by simpa [Lit.wf, IntKind.min, IntKind.max, IntKind.signed, IntKind.bits] using hw⟩
end

theorem list3 {l : List Int} (h : l.length = 3) : ∃ a b c, l = [a, b, c] := by
  match l, h with | [a, b, c], _ => exact ⟨a, b, c, rfl⟩
theorem trodAll_grew {H : Type} {enc : TypeId × Value → H} {P : Program} (hl : laidOutB P = true) {W W' : World} (hb : Grew W W') (sp : Nat → Bool) :
    ∀ (ts : List TypeId) (vs : List Value) (ds : List (DataW H)) (ps : List MemPlace), ts.all (fun t => P.readableRec t && decide (t < P.types.size)) = true → (∀ x ∈ ps, x.block < W.heap.size) → (∀ x ∈ ps, sp x.block = true) →
      DataW.TrodAll enc P W 0 (fun _ => true) true ts vs ds ps → DataW.TrodAll enc P W' 0 sp true ts vs ds ps
  | [], vs, ds, ps, _, _, _, h => by
    obtain ⟨rfl, rfl, rfl⟩ := trodAll_nil h
    exact trodAll_mk0
  | t :: ts, vs, ds, ps, hr, hp, hs, h => by
    obtain ⟨v, vs', d, ds', p, q, rfl, rfl, rfl, h0, r0⟩ := trodAll_cons h
    simp only [List.all_cons, Bool.and_eq_true, decide_eq_true_eq] at hr
    exact trodAll_cons_mk (WideElems.Trod_stays hl hr.1.1 hr.1.2 h0 (fun x hx => Below.same hb (hp x (by simp [hx]))) (fun x hx => hs x (by simp [hx])))
      (trodAll_grew hl hb sp ts vs' ds' q hr.2 (fun x hx => hp x (by simp [hx])) (fun x hx => hs x (by simp [hx])) r0)

/-- The last step of a law's row: the law returned true and only made new memory: its arguments read as they did. -/
theorem law_post {H : Type} {enc : TypeId × Value → H} {P : Program} {f : Func} {s : ChangeSpec} {W W' : World} {args : Array Value} {ds gs : List (DataW H)} {before : List MemPlace} {tb : TypeId}
    (hl : laidOutB P = true) (hr : f.params.toList.all (fun t => P.readableRec t && decide (t < P.types.size)) = true) (hvars : s.vars = []) (hrt : f.resultTypes = #[tb]) (htb : P.underlying tb = some .bool)
    (hW : DataW.Whole enc P f.params.toList s.vars false W args.toList ds gs before) (hs : s.fn H (ds ++ []) = { results := [.lit (.bool true)], args := ds }) (hg : Grew W W') :
    s.post enc P f false true false false W args (.bool true) W' := by
  have hlt : ∀ p ∈ before, p.block < W.heap.size := fun p hp => hW.lt p hp
  have hW0 := hW
  obtain ⟨p, q, hA0, hV, hpq, hz, hn⟩ := hW
  rw [hvars] at hV
  obtain ⟨rfl, rfl⟩ := trodVars_none hV
  rw [List.append_nil] at hpq
  subst hpq
  have hargs : ∀ sp : Nat → Bool, (∀ p' ∈ before, sp p'.block = true) → DataW.TrodAll enc P W' 0 sp true f.params.toList args.toList ds before := fun sp h => trodAll_grew hl hg sp _ _ _ _ hr hlt h hA0
  have hres : ∀ (b : Nat) (sp : Nat → Bool) (hd : Bool), DataW.TrodAll enc P W' b sp hd f.resultTypes.toList ((Value.bool true).resultList f.resultTypes.size) [.lit (.bool true)] [] := by
    intro b sp hd
    rw [hrt]
    exact trodAll_cons_mk (shut_bool htb true) trodAll_mk0
  refine ⟨ds, [], before, [], before, [], hW0, ?_, ?_, ?_, ?_, fun h => by cases h⟩
  · rw [hs]; exact hres _ _ _
  · rw [hs]; exact hargs _ (fun p' hp' => by simpa using hlt p' hp')
  · rw [hs, hvars]; exact rfl
  · exact World.keptBut_mono (fun p' hp' => ⟨hp', .inr (by simpa using hp')⟩) (Below.frame hg (· ∈ before))
end Go.Proofs.Ytdkfkalplmgoeaa
namespace Go.Proofs.Ytdkfkalplmgoeaa
open Go.RowKit Go.ChangeShapes Go.WideShapes Go.ChangeAt Go.Deep
set_option maxRecDepth 100000

theorem vals2 {l : List Value} (h : l.length = 2) : ∃ c0 c1, l = [c0, c1] := by
  match l, h with | [c0, c1], _ => exact ⟨c0, c1, rfl⟩
theorem vals3 {l : List Value} (h : l.length = 3) : ∃ c0 c1 c2, l = [c0, c1, c2] := by
  match l, h with | [c0, c1, c2], _ => exact ⟨c0, c1, c2, rfl⟩
theorem vals14 {l : List Value} (h : l.length = 14) : ∃ c0 c1 c2 c3 c4 c5 c6 c7 c8 c9 c10 c11 c12 c13, l = [c0, c1, c2, c3, c4, c5, c6, c7, c8, c9, c10, c11, c12, c13] := by
  match l, h with | [c0, c1, c2, c3, c4, c5, c6, c7, c8, c9, c10, c11, c12, c13], _ => exact ⟨c0, c1, c2, c3, c4, c5, c6, c7, c8, c9, c10, c11, c12, c13, rfl⟩
theorem vals15 {l : List Value} (h : l.length = 15) : ∃ c0 c1 c2 c3 c4 c5 c6 c7 c8 c9 c10 c11 c12 c13 c14, l = [c0, c1, c2, c3, c4, c5, c6, c7, c8, c9, c10, c11, c12, c13, c14] := by
  match l, h with | [c0, c1, c2, c3, c4, c5, c6, c7, c8, c9, c10, c11, c12, c13, c14], _ => exact ⟨c0, c1, c2, c3, c4, c5, c6, c7, c8, c9, c10, c11, c12, c13, c14, rfl⟩
theorem vals16 {l : List Value} (h : l.length = 16) : ∃ c0 c1 c2 c3 c4 c5 c6 c7 c8 c9 c10 c11 c12 c13 c14 c15, l = [c0, c1, c2, c3, c4, c5, c6, c7, c8, c9, c10, c11, c12, c13, c14, c15] := by
  match l, h with | [c0, c1, c2, c3, c4, c5, c6, c7, c8, c9, c10, c11, c12, c13, c14, c15], _ => exact ⟨c0, c1, c2, c3, c4, c5, c6, c7, c8, c9, c10, c11, c12, c13, c14, c15, rfl⟩
theorem i64_of {k : Int} (h : (Lit.int .i64 k).wf = true) : I64 k := by
  simpa [I64, Lit.wf, IntKind.min, IntKind.max, IntKind.signed, IntKind.bits] using h

section
variable {H : Type} {enc : TypeId × Value → H} {w : World} {base : Nat} {spare : Nat → Bool} {held : Bool}
theorem pt_trod {fuel : Nat} {cs : List Value} {x : DataW H × List MemPlace} (h : DataW.trod enc Try.prog w base spare held fuel 135 cs = some x) :
    ∃ (a : Pt), cs = a.cells ∧ I64 a.place ∧ I64 a.value.lo ∧ I64 a.value.hi := by
  obtain ⟨xs, n, rfl, -, hl, hxl, hf⟩ := DataW.trod_struct Try.underlying135 h
  have hxl : xs.length = 2 := hxl
  have hC : Try.prog.cellsOf 135 = 3 := by kernel_rfl
  obtain ⟨c0, c1, c2, rfl⟩ := vals3 (hl.trans hC)
  have f0 : DataW.trod enc Try.prog w base spare held n 37 (([c0, c1, c2].drop 0).take (Try.prog.cellsOf 37)) = xs[0]? := hf 0 _ rfl
  rw [List.getElem?_eq_getElem (by omega)] at f0
  simp only [show Try.prog.cellsOf 37 = 1 by kernel_rfl] at f0
  have f1 : DataW.trod enc Try.prog w base spare held n 39 (([c0, c1, c2].drop 1).take (Try.prog.cellsOf 39)) = xs[1]? := hf 1 _ rfl
  rw [List.getElem?_eq_getElem (by omega)] at f1
  simp only [show Try.prog.cellsOf 39 = 2 by kernel_rfl] at f1
  have s0 := (flat_trod Try.prog 12 37 1 _ _ _ (by kernel_rfl) f0).2
  obtain ⟨k0, rfl, b0⟩ := s0 0 c0 rfl
  have s1 := (flat_trod Try.prog 12 39 2 _ _ _ (by kernel_rfl) f1).2
  obtain ⟨k1, rfl, b1⟩ := s1 0 c1 rfl
  obtain ⟨k2, rfl, b2⟩ := s1 1 c2 rfl
  exact ⟨⟨k0, ⟨k1, k2⟩⟩, rfl, i64_of b0, i64_of b1, i64_of b2⟩
/-- A slice whose elements are opened one by one. -/
theorem slice_trod {α : Type} {P : Program} {t e c : Nat} (f : α → List Value) (hf : ∀ a, (f a).length = c) (Q : α → Prop) (ht : P.underlying t = some (.slice e)) (hC : P.cellsOf e = c)
    (hel : ∀ (m : Nat) (cs' : List Value) (x' : DataW H × List MemPlace), DataW.trod enc P w base spare held m e cs' = some x' → ∃ a, cs' = f a ∧ Q a)
    {fuel : Nat} {cs : List Value} {x : DataW H × List MemPlace} (h : DataW.trod enc P w base spare held fuel t cs = some x) :
    ∃ (ao : Option Addr) (n cap : Nat) (l : List α), cs = [.slice ao n cap] ∧ n = l.length ∧ SlAt w (.slice ao n cap) l.length (l.flatMap f) ∧ ∀ a ∈ l, Q a := by
  rcases open_slice ht h with ⟨rfl, -⟩ | ⟨a, len, cap, m, n, D, Pl, rfl, hb, hl, hm, hmm, -, hi⟩
  · exact ⟨none, 0, 0, [], rfl, rfl, SlAt.nil w, by simp⟩
  · have hlen : len ≤ m := by rw [hmm]; split <;> omega
    have hspot : 0 < len → 0 < c → a.spot = none := fun h1 h2 => by
      obtain ⟨cs', hc, -⟩ := hi 0 (by omega)
      obtain ⟨_, _, hat⟩ := World.cells?_some hc
      have := hat (i := 0) (by rw [hC]; exact h2)
      have : (w.cell? ((a.add (0 * P.cellsOf e)).add 0)).isSome = true := by
        rw [this, List.getElem?_eq_getElem (by omega)]; rfl
      cases hs : a.spot with
      | none => rfl
      | some s => simp [World.cell?, Addr.add, hs] at this; split at this <;> simp at this
    have key : ∀ k, k ≤ len → ∃ l : List α, l.length = k ∧ (∀ x ∈ l, Q x) ∧ ∀ i v, (l.flatMap f)[i]? = some v → w.cell? (a.add i) = some v := by
      intro k
      induction k with
      | zero => intro _; exact ⟨[], rfl, by simp, fun i v h => by simp at h⟩
      | succ k ih =>
        intro hk
        obtain ⟨l, h1, h2, h3⟩ := ih (by omega)
        obtain ⟨cs', hc, ht'⟩ := hi k (by omega)
        obtain ⟨b, rfl, hq⟩ := hel _ _ _ ht'
        obtain ⟨_, hcl, hat⟩ := World.cells?_some hc
        refine ⟨l ++ [b], by simp [h1], fun x hx => ?_, fun i v hv => ?_⟩
        · rcases List.mem_append.1 hx with hx | hx
          · exact h2 x hx
          · simp at hx; rw [hx]; exact hq
        · rw [List.flatMap_append] at hv
          simp only [List.flatMap_cons, List.flatMap_nil, List.append_nil] at hv
          have hll : (l.flatMap f).length = k * c := by rw [flat_len f c hf, h1]
          rw [List.getElem?_append] at hv
          split at hv
          · exact h3 i v hv
          · rename_i hge
            rw [hll] at hge hv
            have hj : i - k * c < c := by have := (List.getElem?_eq_some_iff.1 hv).1; rw [hf] at this; exact this
            have := hat (i := i - k * c) (by rw [hC]; exact hj)
            rw [hv, Go.Deep.add_add, hC, show k * c + (i - k * c) = i by omega] at this
            exact this
    obtain ⟨l, h1, h2, h3⟩ := key len (Nat.le_refl _)
    refine ⟨some a, len, cap, l, rfl, h1.symm, ⟨some a, cap, by rw [h1], by omega, fun i v hv => ?_⟩, h2⟩
    have hv' := h3 i v hv
    have hl0 : 0 < len := by
      rcases Nat.eq_zero_or_pos len with h0 | h0
      · have : l = [] := List.eq_nil_of_length_eq_zero (by omega)
        subst this; simp at hv
      · exact h0
    have hc0 : 0 < c := by
      rcases Nat.eq_zero_or_pos c with h0 | h0
      · have := flat_len f c hf l
        rw [h0, Nat.mul_zero] at this
        rw [List.eq_nil_of_length_eq_zero this] at hv; simp at hv
      · exact h0
    have hs := hspot hl0 hc0
    obtain ⟨ab, ao, sp⟩ := a
    simp only at hs
    subst hs
    exact ⟨ab, ao, rfl, by rw [Addr.add_lit] at hv'; exact hv'⟩
theorem points_trod {fuel : Nat} {cs : List Value} {x : DataW H × List MemPlace} (h : DataW.trod enc Try.prog w base spare held fuel 57 cs = some x) :
    ∃ (ao : Option Addr) (m cap : Nat) (l : List Pt), cs = [.slice ao m cap] ∧ SlAt w (.slice ao m cap) l.length (l.flatMap Pt.cells) := by
  obtain ⟨ao, n, cap, l, e, -, h1, -⟩ := slice_trod Pt.cells (c := 3) (fun _ => rfl) (fun _ => True) Try.underlying57 (by kernel_rfl) (fun m cs' x' h' => by obtain ⟨a, e, -⟩ := pt_trod h'; exact ⟨a, e, trivial⟩) h
  exact ⟨ao, n, cap, l, e, h1⟩
theorem arc_trod {fuel : Nat} {cs : List Value} {x : DataW H × List MemPlace} (h : DataW.trod enc Try.prog w base spare held fuel 91 cs = some x) :
    ∃ (a : Arc) (l0 : List Pt), cs = a.cells ∧ DragAt w a l0 ∧ I64 a.time ∧ I64 a.step ∧ I64 a.thrust.lo ∧ I64 a.thrust.hi ∧ I64 a.flow.lo ∧ I64 a.flow.hi ∧ I64 a.dir.x.lo ∧ I64 a.dir.x.hi ∧ I64 a.dir.y.lo ∧ I64 a.dir.y.hi ∧ I64 a.dir.z.lo ∧ I64 a.dir.z.hi ∧ I64 a.drop.lo ∧ I64 a.drop.hi := by
  obtain ⟨xs, n, rfl, -, hl, hxl, hf⟩ := DataW.trod_struct Try.underlying91 h
  have hxl : xs.length = 7 := hxl
  have hC : Try.prog.cellsOf 91 = 15 := by kernel_rfl
  obtain ⟨c0, c1, c2, c3, c4, c5, c6, c7, c8, c9, c10, c11, c12, c13, c14, rfl⟩ := vals15 (hl.trans hC)
  have f0 : DataW.trod enc Try.prog w base spare held n 37 (([c0, c1, c2, c3, c4, c5, c6, c7, c8, c9, c10, c11, c12, c13, c14].drop 0).take (Try.prog.cellsOf 37)) = xs[0]? := hf 0 _ rfl
  rw [List.getElem?_eq_getElem (by omega)] at f0
  simp only [show Try.prog.cellsOf 37 = 1 by kernel_rfl] at f0
  have f1 : DataW.trod enc Try.prog w base spare held n 37 (([c0, c1, c2, c3, c4, c5, c6, c7, c8, c9, c10, c11, c12, c13, c14].drop 1).take (Try.prog.cellsOf 37)) = xs[1]? := hf 1 _ rfl
  rw [List.getElem?_eq_getElem (by omega)] at f1
  simp only [show Try.prog.cellsOf 37 = 1 by kernel_rfl] at f1
  have f2 : DataW.trod enc Try.prog w base spare held n 39 (([c0, c1, c2, c3, c4, c5, c6, c7, c8, c9, c10, c11, c12, c13, c14].drop 2).take (Try.prog.cellsOf 39)) = xs[2]? := hf 2 _ rfl
  rw [List.getElem?_eq_getElem (by omega)] at f2
  simp only [show Try.prog.cellsOf 39 = 2 by kernel_rfl] at f2
  have f3 : DataW.trod enc Try.prog w base spare held n 39 (([c0, c1, c2, c3, c4, c5, c6, c7, c8, c9, c10, c11, c12, c13, c14].drop 4).take (Try.prog.cellsOf 39)) = xs[3]? := hf 3 _ rfl
  rw [List.getElem?_eq_getElem (by omega)] at f3
  simp only [show Try.prog.cellsOf 39 = 2 by kernel_rfl] at f3
  have f4 : DataW.trod enc Try.prog w base spare held n 41 (([c0, c1, c2, c3, c4, c5, c6, c7, c8, c9, c10, c11, c12, c13, c14].drop 6).take (Try.prog.cellsOf 41)) = xs[4]? := hf 4 _ rfl
  rw [List.getElem?_eq_getElem (by omega)] at f4
  simp only [show Try.prog.cellsOf 41 = 6 by kernel_rfl] at f4
  have f5 : DataW.trod enc Try.prog w base spare held n 57 (([c0, c1, c2, c3, c4, c5, c6, c7, c8, c9, c10, c11, c12, c13, c14].drop 12).take (Try.prog.cellsOf 57)) = xs[5]? := hf 5 _ rfl
  rw [List.getElem?_eq_getElem (by omega)] at f5
  simp only [show Try.prog.cellsOf 57 = 1 by kernel_rfl] at f5
  have f6 : DataW.trod enc Try.prog w base spare held n 39 (([c0, c1, c2, c3, c4, c5, c6, c7, c8, c9, c10, c11, c12, c13, c14].drop 13).take (Try.prog.cellsOf 39)) = xs[6]? := hf 6 _ rfl
  rw [List.getElem?_eq_getElem (by omega)] at f6
  simp only [show Try.prog.cellsOf 39 = 2 by kernel_rfl] at f6
  have s0 := (flat_trod Try.prog 12 37 1 _ _ _ (by kernel_rfl) f0).2
  obtain ⟨k0, rfl, b0⟩ := s0 0 c0 rfl
  have s1 := (flat_trod Try.prog 12 37 1 _ _ _ (by kernel_rfl) f1).2
  obtain ⟨k1, rfl, b1⟩ := s1 0 c1 rfl
  have s2 := (flat_trod Try.prog 12 39 2 _ _ _ (by kernel_rfl) f2).2
  obtain ⟨k2, rfl, b2⟩ := s2 0 c2 rfl
  obtain ⟨k3, rfl, b3⟩ := s2 1 c3 rfl
  have s3 := (flat_trod Try.prog 12 39 2 _ _ _ (by kernel_rfl) f3).2
  obtain ⟨k4, rfl, b4⟩ := s3 0 c4 rfl
  obtain ⟨k5, rfl, b5⟩ := s3 1 c5 rfl
  have s4 := (flat_trod Try.prog 12 41 6 _ _ _ (by kernel_rfl) f4).2
  obtain ⟨k6, rfl, b6⟩ := s4 0 c6 rfl
  obtain ⟨k7, rfl, b7⟩ := s4 1 c7 rfl
  obtain ⟨k8, rfl, b8⟩ := s4 2 c8 rfl
  obtain ⟨k9, rfl, b9⟩ := s4 3 c9 rfl
  obtain ⟨k10, rfl, b10⟩ := s4 4 c10 rfl
  obtain ⟨k11, rfl, b11⟩ := s4 5 c11 rfl
  obtain ⟨ao0, m0, cap0, l0, e0, at0⟩ := points_trod f5
  obtain rfl : c12 = .slice ao0 m0 cap0 := by simpa using e0
  have s6 := (flat_trod Try.prog 12 39 2 _ _ _ (by kernel_rfl) f6).2
  obtain ⟨k13, rfl, b13⟩ := s6 0 c13 rfl
  obtain ⟨k14, rfl, b14⟩ := s6 1 c14 rfl
  exact ⟨⟨k0, k1, ⟨k2, k3⟩, ⟨k4, k5⟩, ⟨⟨k6, k7⟩, ⟨k8, k9⟩, ⟨k10, k11⟩⟩, ⟨ao0, m0, cap0⟩, ⟨k13, k14⟩⟩, l0, rfl, at0, i64_of b0, i64_of b1, i64_of b2, i64_of b3, i64_of b4, i64_of b5, i64_of b6, i64_of b7, i64_of b8, i64_of b9, i64_of b10, i64_of b11, i64_of b13, i64_of b14⟩
theorem planet_trod {fuel : Nat} {cs : List Value} {x : DataW H × List MemPlace} (h : DataW.trod enc Try.prog w base spare held fuel 55 cs = some x) :
    ∃ (a : Planet), cs = a.cells ∧ I64 a.mu.lo ∧ I64 a.mu.hi ∧ I64 a.radius.lo ∧ I64 a.radius.hi ∧ I64 a.oblate.lo ∧ I64 a.oblate.hi ∧ I64 a.spin.lo ∧ I64 a.spin.hi ∧ I64 a.pull.x.lo ∧ I64 a.pull.x.hi ∧ I64 a.pull.y.lo ∧ I64 a.pull.y.hi ∧ I64 a.pull.z.lo ∧ I64 a.pull.z.hi := by
  obtain ⟨xs, n, rfl, -, hl, hxl, hf⟩ := DataW.trod_struct Try.underlying55 h
  have hxl : xs.length = 5 := hxl
  have hC : Try.prog.cellsOf 55 = 14 := by kernel_rfl
  obtain ⟨c0, c1, c2, c3, c4, c5, c6, c7, c8, c9, c10, c11, c12, c13, rfl⟩ := vals14 (hl.trans hC)
  have f0 : DataW.trod enc Try.prog w base spare held n 39 (([c0, c1, c2, c3, c4, c5, c6, c7, c8, c9, c10, c11, c12, c13].drop 0).take (Try.prog.cellsOf 39)) = xs[0]? := hf 0 _ rfl
  rw [List.getElem?_eq_getElem (by omega)] at f0
  simp only [show Try.prog.cellsOf 39 = 2 by kernel_rfl] at f0
  have f1 : DataW.trod enc Try.prog w base spare held n 39 (([c0, c1, c2, c3, c4, c5, c6, c7, c8, c9, c10, c11, c12, c13].drop 2).take (Try.prog.cellsOf 39)) = xs[1]? := hf 1 _ rfl
  rw [List.getElem?_eq_getElem (by omega)] at f1
  simp only [show Try.prog.cellsOf 39 = 2 by kernel_rfl] at f1
  have f2 : DataW.trod enc Try.prog w base spare held n 39 (([c0, c1, c2, c3, c4, c5, c6, c7, c8, c9, c10, c11, c12, c13].drop 4).take (Try.prog.cellsOf 39)) = xs[2]? := hf 2 _ rfl
  rw [List.getElem?_eq_getElem (by omega)] at f2
  simp only [show Try.prog.cellsOf 39 = 2 by kernel_rfl] at f2
  have f3 : DataW.trod enc Try.prog w base spare held n 39 (([c0, c1, c2, c3, c4, c5, c6, c7, c8, c9, c10, c11, c12, c13].drop 6).take (Try.prog.cellsOf 39)) = xs[3]? := hf 3 _ rfl
  rw [List.getElem?_eq_getElem (by omega)] at f3
  simp only [show Try.prog.cellsOf 39 = 2 by kernel_rfl] at f3
  have f4 : DataW.trod enc Try.prog w base spare held n 41 (([c0, c1, c2, c3, c4, c5, c6, c7, c8, c9, c10, c11, c12, c13].drop 8).take (Try.prog.cellsOf 41)) = xs[4]? := hf 4 _ rfl
  rw [List.getElem?_eq_getElem (by omega)] at f4
  simp only [show Try.prog.cellsOf 41 = 6 by kernel_rfl] at f4
  have s0 := (flat_trod Try.prog 12 39 2 _ _ _ (by kernel_rfl) f0).2
  obtain ⟨k0, rfl, b0⟩ := s0 0 c0 rfl
  obtain ⟨k1, rfl, b1⟩ := s0 1 c1 rfl
  have s1 := (flat_trod Try.prog 12 39 2 _ _ _ (by kernel_rfl) f1).2
  obtain ⟨k2, rfl, b2⟩ := s1 0 c2 rfl
  obtain ⟨k3, rfl, b3⟩ := s1 1 c3 rfl
  have s2 := (flat_trod Try.prog 12 39 2 _ _ _ (by kernel_rfl) f2).2
  obtain ⟨k4, rfl, b4⟩ := s2 0 c4 rfl
  obtain ⟨k5, rfl, b5⟩ := s2 1 c5 rfl
  have s3 := (flat_trod Try.prog 12 39 2 _ _ _ (by kernel_rfl) f3).2
  obtain ⟨k6, rfl, b6⟩ := s3 0 c6 rfl
  obtain ⟨k7, rfl, b7⟩ := s3 1 c7 rfl
  have s4 := (flat_trod Try.prog 12 41 6 _ _ _ (by kernel_rfl) f4).2
  obtain ⟨k8, rfl, b8⟩ := s4 0 c8 rfl
  obtain ⟨k9, rfl, b9⟩ := s4 1 c9 rfl
  obtain ⟨k10, rfl, b10⟩ := s4 2 c10 rfl
  obtain ⟨k11, rfl, b11⟩ := s4 3 c11 rfl
  obtain ⟨k12, rfl, b12⟩ := s4 4 c12 rfl
  obtain ⟨k13, rfl, b13⟩ := s4 5 c13 rfl
  exact ⟨⟨⟨k0, k1⟩, ⟨k2, k3⟩, ⟨k4, k5⟩, ⟨k6, k7⟩, ⟨⟨k8, k9⟩, ⟨k10, k11⟩, ⟨k12, k13⟩⟩⟩, rfl, i64_of b0, i64_of b1, i64_of b2, i64_of b3, i64_of b4, i64_of b5, i64_of b6, i64_of b7, i64_of b8, i64_of b9, i64_of b10, i64_of b11, i64_of b12, i64_of b13⟩
theorem state_trod {fuel : Nat} {cs : List Value} {x : DataW H × List MemPlace} (h : DataW.trod enc Try.prog w base spare held fuel 43 cs = some x) :
    ∃ (a : State), cs = a.cells ∧ I64 a.t ∧ I64 a.p.x.lo ∧ I64 a.p.x.hi ∧ I64 a.p.y.lo ∧ I64 a.p.y.hi ∧ I64 a.p.z.lo ∧ I64 a.p.z.hi ∧ I64 a.v.x.lo ∧ I64 a.v.x.hi ∧ I64 a.v.y.lo ∧ I64 a.v.y.hi ∧ I64 a.v.z.lo ∧ I64 a.v.z.hi ∧ I64 a.m.lo ∧ I64 a.m.hi := by
  obtain ⟨xs, n, rfl, -, hl, hxl, hf⟩ := DataW.trod_struct Try.underlying43 h
  have hxl : xs.length = 4 := hxl
  have hC : Try.prog.cellsOf 43 = 15 := by kernel_rfl
  obtain ⟨c0, c1, c2, c3, c4, c5, c6, c7, c8, c9, c10, c11, c12, c13, c14, rfl⟩ := vals15 (hl.trans hC)
  have f0 : DataW.trod enc Try.prog w base spare held n 37 (([c0, c1, c2, c3, c4, c5, c6, c7, c8, c9, c10, c11, c12, c13, c14].drop 0).take (Try.prog.cellsOf 37)) = xs[0]? := hf 0 _ rfl
  rw [List.getElem?_eq_getElem (by omega)] at f0
  simp only [show Try.prog.cellsOf 37 = 1 by kernel_rfl] at f0
  have f1 : DataW.trod enc Try.prog w base spare held n 41 (([c0, c1, c2, c3, c4, c5, c6, c7, c8, c9, c10, c11, c12, c13, c14].drop 1).take (Try.prog.cellsOf 41)) = xs[1]? := hf 1 _ rfl
  rw [List.getElem?_eq_getElem (by omega)] at f1
  simp only [show Try.prog.cellsOf 41 = 6 by kernel_rfl] at f1
  have f2 : DataW.trod enc Try.prog w base spare held n 41 (([c0, c1, c2, c3, c4, c5, c6, c7, c8, c9, c10, c11, c12, c13, c14].drop 7).take (Try.prog.cellsOf 41)) = xs[2]? := hf 2 _ rfl
  rw [List.getElem?_eq_getElem (by omega)] at f2
  simp only [show Try.prog.cellsOf 41 = 6 by kernel_rfl] at f2
  have f3 : DataW.trod enc Try.prog w base spare held n 39 (([c0, c1, c2, c3, c4, c5, c6, c7, c8, c9, c10, c11, c12, c13, c14].drop 13).take (Try.prog.cellsOf 39)) = xs[3]? := hf 3 _ rfl
  rw [List.getElem?_eq_getElem (by omega)] at f3
  simp only [show Try.prog.cellsOf 39 = 2 by kernel_rfl] at f3
  have s0 := (flat_trod Try.prog 12 37 1 _ _ _ (by kernel_rfl) f0).2
  obtain ⟨k0, rfl, b0⟩ := s0 0 c0 rfl
  have s1 := (flat_trod Try.prog 12 41 6 _ _ _ (by kernel_rfl) f1).2
  obtain ⟨k1, rfl, b1⟩ := s1 0 c1 rfl
  obtain ⟨k2, rfl, b2⟩ := s1 1 c2 rfl
  obtain ⟨k3, rfl, b3⟩ := s1 2 c3 rfl
  obtain ⟨k4, rfl, b4⟩ := s1 3 c4 rfl
  obtain ⟨k5, rfl, b5⟩ := s1 4 c5 rfl
  obtain ⟨k6, rfl, b6⟩ := s1 5 c6 rfl
  have s2 := (flat_trod Try.prog 12 41 6 _ _ _ (by kernel_rfl) f2).2
  obtain ⟨k7, rfl, b7⟩ := s2 0 c7 rfl
  obtain ⟨k8, rfl, b8⟩ := s2 1 c8 rfl
  obtain ⟨k9, rfl, b9⟩ := s2 2 c9 rfl
  obtain ⟨k10, rfl, b10⟩ := s2 3 c10 rfl
  obtain ⟨k11, rfl, b11⟩ := s2 4 c11 rfl
  obtain ⟨k12, rfl, b12⟩ := s2 5 c12 rfl
  have s3 := (flat_trod Try.prog 12 39 2 _ _ _ (by kernel_rfl) f3).2
  obtain ⟨k13, rfl, b13⟩ := s3 0 c13 rfl
  obtain ⟨k14, rfl, b14⟩ := s3 1 c14 rfl
  exact ⟨⟨k0, ⟨⟨k1, k2⟩, ⟨k3, k4⟩, ⟨k5, k6⟩⟩, ⟨⟨k7, k8⟩, ⟨k9, k10⟩, ⟨k11, k12⟩⟩, ⟨k13, k14⟩⟩, rfl, i64_of b0, i64_of b1, i64_of b2, i64_of b3, i64_of b4, i64_of b5, i64_of b6, i64_of b7, i64_of b8, i64_of b9, i64_of b10, i64_of b11, i64_of b12, i64_of b13, i64_of b14⟩
end
end Go.Proofs.Ytdkfkalplmgoeaa
namespace Go.Proofs.Ytdkfkalplmgoeaa
open Go.RowKit Go.ChangeShapes Go.WideShapes Go.ChangeAt Go.Deep
set_option maxRecDepth 100000
set_option maxHeartbeats 8000000
section
variable {H : Type} {enc : TypeId × Value → H} {P : Program} {w : World} {base : Nat} {spare : Nat → Bool} {held : Bool}
theorem ints_trod {fuel : Nat} {cs : List Value} {x : DataW H × List MemPlace} {t e : TypeId} {n : Nat} {k : IntKind} (ht : P.underlying t = some (.array n e)) (he : P.underlying e = some (.int k)) (hc : P.cellsOf t = n) (h1 : P.cellsOf e = 1)
    (h0 : (Lit.int k 0).wf = true) (h : DataW.trod enc P w base spare held fuel t cs = some x) : ∃ f : Nat → Int, cs = (List.range n).map (fun j => .int k (f j)) ∧ ∀ j, (Lit.int k (f j)).wf = true := by
  obtain ⟨xs, m, rfl, -, hl, hxl, hf⟩ := DataW.trod_array ht h
  rw [hc] at hl
  have H : ∀ j, ∃ y : Int, (j < n → cs[j]? = some (.int k y)) ∧ (Lit.int k y).wf = true := by
    intro j
    by_cases hj : j < n
    · have hj' := hf j hj
      rw [h1, Nat.mul_one, List.getElem?_eq_getElem (by omega)] at hj'
      obtain ⟨y, e1, -, hw⟩ := DataW.trod_int he hj'
      refine ⟨y, fun _ => ?_, hw⟩
      have : ((cs.drop j).take 1)[0]? = some (.int k y) := by rw [e1]; rfl
      simpa [List.getElem?_take, List.getElem?_drop] using this
    · exact ⟨0, fun h => absurd h hj, h0⟩
  refine ⟨fun j => Classical.choose (H j), ?_, fun j => (Classical.choose_spec (H j)).2⟩
  apply List.ext_getElem?
  intro i
  by_cases hi : i < n
  · rw [(Classical.choose_spec (H i)).1 hi]
    simp [hi]
  · rw [List.getElem?_eq_none (by omega), List.getElem?_eq_none (by simp; omega)]
end
theorem b64_of {b : Bx} (h1 : I64 b.x.lo) (h2 : I64 b.x.hi) (h3 : I64 b.y.lo) (h4 : I64 b.y.hi) (h5 : I64 b.z.lo) (h6 : I64 b.z.hi) : B64 b := ⟨⟨h1, h2⟩, ⟨h3, h4⟩, ⟨h5, h6⟩⟩
section
variable {H : Type} {enc : TypeId × Value → H} {w : World} {base : Nat} {spare : Nat → Bool} {held : Bool}
theorem vals12 {cs : List Value} (h : cs.length = 12) : ∃ c0 c1 c2 c3 c4 c5 c6 c7 c8 c9 c10 c11, cs = [c0, c1, c2, c3, c4, c5, c6, c7, c8, c9, c10, c11] := by
  match cs, h with | [c0, c1, c2, c3, c4, c5, c6, c7, c8, c9, c10, c11], _ => exact ⟨c0, c1, c2, c3, c4, c5, c6, c7, c8, c9, c10, c11, rfl⟩
theorem true_trod {fuel : Nat} {cs : List Value} {x : DataW H × List MemPlace} (h : DataW.trod enc Try.prog w base spare held fuel 35 cs = some x) :
    ∃ x : Tr, cs = x.cells ∧ x.Ok := by
  obtain ⟨xs, n, rfl, -, hl, hxl, hf⟩ := DataW.trod_struct Try.underlying35 h
  have hxl : xs.length = 3 := hxl
  have hC : Try.prog.cellsOf 35 = 12 := by kernel_rfl
  have hA : Try.prog.cellsOf 31 = 3 := by kernel_rfl
  have hB : Try.prog.cellsOf 33 = 6 := by kernel_rfl
  obtain ⟨c0, c1, c2, c3, c4, c5, c6, c7, c8, c9, c10, c11, rfl⟩ := vals12 (hl.trans hC)
  have f0 : DataW.trod enc Try.prog w base spare held n 31 (([c0, c1, c2, c3, c4, c5, c6, c7, c8, c9, c10, c11].drop 0).take (Try.prog.cellsOf 31)) = xs[0]? := hf 0 _ rfl
  have f1 : DataW.trod enc Try.prog w base spare held n 31 (([c0, c1, c2, c3, c4, c5, c6, c7, c8, c9, c10, c11].drop 3).take (Try.prog.cellsOf 31)) = xs[1]? := hf 1 _ rfl
  have f2 : DataW.trod enc Try.prog w base spare held n 33 (([c0, c1, c2, c3, c4, c5, c6, c7, c8, c9, c10, c11].drop 6).take (Try.prog.cellsOf 33)) = xs[2]? := hf 2 _ rfl
  rw [List.getElem?_eq_getElem (by omega), hA] at f0 f1
  rw [List.getElem?_eq_getElem (by omega), hB] at f2
  obtain ⟨p, e0, b0⟩ := ints_trod Try.underlying31 Try.underlying21 hA (by kernel_rfl) (by decide) f0
  obtain ⟨v, e1, b1⟩ := ints_trod Try.underlying31 Try.underlying21 hA (by kernel_rfl) (by decide) f1
  obtain ⟨d, e2, b2⟩ := ints_trod Try.underlying33 Try.underlying32 hB (by kernel_rfl) (by decide) f2
  simp [List.range, List.range.loop] at e0 e1 e2
  refine ⟨⟨p, v, d⟩, ?_, ?_, ?_, ?_⟩
  · simp [Tr.cells, e0, e1, e2]
  · intro i
    simpa [Lit.wf, IntKind.min, IntKind.max, IntKind.signed, IntKind.bits] using b0 i
  · intro i
    simpa [Lit.wf, IntKind.min, IntKind.max, IntKind.signed, IntKind.bits] using b1 i
  · intro i
    simpa [Lit.wf, IntKind.min, IntKind.max, IntKind.signed, IntKind.bits] using b2 i
theorem radios_trod {fuel : Nat} {cs : List Value} {x : DataW H × List MemPlace} (h : DataW.trod enc Try.prog w base spare held fuel 36 cs = some x) :
    ∃ (ao : Option Addr) (cap : Nat) (l : List Radio), cs = [.slice ao l.length cap] ∧ SlAt w (.slice ao l.length cap) l.length (l.flatMap Radio.cells) ∧ ∀ m ∈ l, Ra64 m := by
  obtain ⟨ao, n, cap, l, e, hn, h1, h2⟩ := slice_trod Radio.cells (c := 15) (fun _ => rfl) Ra64 Try.underlying36 (by kernel_rfl) (fun m cs' x' h' => by
    obtain ⟨hl, hi⟩ := flat_trod Try.prog 12 49 15 m cs' x' (by kernel_rfl) h'
    obtain ⟨ns, e, hb⟩ := allInt_list cs' hi
    rw [e, List.length_map] at hl
    obtain ⟨c0, c1, c2, c3, c4, c5, c6, c7, c8, c9, c10, c11, c12, c13, c14, rfl⟩ : ∃ c0 c1 c2 c3 c4 c5 c6 c7 c8 c9 c10 c11 c12 c13 c14, ns = [c0, c1, c2, c3, c4, c5, c6, c7, c8, c9, c10, c11, c12, c13, c14] := by
      match ns, hl with | [c0, c1, c2, c3, c4, c5, c6, c7, c8, c9, c10, c11, c12, c13, c14], _ => exact ⟨c0, c1, c2, c3, c4, c5, c6, c7, c8, c9, c10, c11, c12, c13, c14, rfl⟩
    exact ⟨⟨c0, ⟨⟨c1, c2⟩, ⟨c3, c4⟩, ⟨c5, c6⟩⟩, ⟨⟨c7, c8⟩, ⟨c9, c10⟩, ⟨c11, c12⟩⟩, ⟨c13, c14⟩⟩, e, ⟨b64_of (hb c1 (by simp)) (hb c2 (by simp)) (hb c3 (by simp)) (hb c4 (by simp)) (hb c5 (by simp)) (hb c6 (by simp)), b64_of (hb c7 (by simp)) (hb c8 (by simp)) (hb c9 (by simp)) (hb c10 (by simp)) (hb c11 (by simp)) (hb c12 (by simp)), ⟨hb c13 (by simp), hb c14 (by simp)⟩⟩⟩) h
  subst hn
  exact ⟨ao, cap, l, e, h1, h2⟩
end
theorem open_byte {H : Type} {enc : TypeId × Value → H} {P : Program} {w : World} {base : Nat} {spare : Nat → Bool} {held : Bool} {r : Reach} {b0 : Nat} {t : TypeId} {v : Value} {d : DataW H} {p : List MemPlace} (hs : P.underlying t = some (.int .u8))
    (hv : Value.okWide P w r b0 t v) (h : DataW.Trod enc P w base spare held t v d p) : ∃ k : Int, v = .int .u8 k ∧ 0 ≤ k ∧ k ≤ 255 := by
  obtain ⟨k, rfl, -, -, hw⟩ := open_int hs hv h
  exact ⟨k, rfl, by simpa [Lit.wf, IntKind.min, IntKind.max, IntKind.signed, IntKind.bits] using hw⟩
end Go.Proofs.Ytdkfkalplmgoeaa
namespace Go.Proofs.Ytdkfkalplmgoeaa
open Go.RowKit Go.ChangeShapes Go.WideShapes Go.ChangeAt Go.Deep
set_option maxRecDepth 100000
set_option maxHeartbeats 8000000
namespace navTrustsTruthRow
open Go.ChangeShapes Go.WideShapes Go.ChangeAt Go.RowKit
theorem own : ownKnob Try.prog.godebug = none := by kernel_rfl
theorem lifted (os : Os) (started : os.Started) (H : Type) (enc : TypeId × Value → H) :
    ReturnsInHanded {} Try.checked os 4 .any (Rows.navTrustsTruthSpec.pre6 enc Try.prog Try.f4 Rows.navTrustsTruthRow.domain false) (Rows.navTrustsTruthSpec.post enc Try.prog Try.f4 false true false false) := by
  refine returnsInHanded_of_change (C := Try.checked) own started (by kernel_rfl) Try.func4
    (ChangeSpec.witness6 (enc := enc) (C := Try.checked) false ⟨#[], #[.agg #[.int .i32 0, .int .i32 0, .int .i32 0, .int .i32 0, .int .i32 0, .int .i32 0, .int .u16 0, .int .u16 0, .int .u16 0, .int .u16 0, .int .u16 0, .int .u16 0], .slice none 0 0, .slice none 0 0, .int .u8 0], []⟩ 8 (by as_aux_lemma => kernel_rfl) (by as_aux_lemma => kernel_rfl) (by as_aux_lemma => kernel_rfl) (by as_aux_lemma => kernel_rfl)) ?_
  intro W base args ds gs before hval0 hW _ _
  have hval : ∀ (j : Nat) t v, Try.f4.params[j]? = some t → args[j]? = some v → Value.okWide Try.prog W .any base t v := hval0
  have hW' := hW
  obtain ⟨p, q, hA0, hV, rfl, hfz, hnd⟩ := hW
  have hA : DataW.TrodAll enc Try.prog W 0 (fun _ => true) true Try.f4.params.toList args.toList ds p := hA0
  rw [Try.params4] at hA hval
  obtain ⟨v0, vs0, d0, ds0, p0, q0, hargs, rfl, rfl, h0, r0⟩ := trodAll_cons hA
  obtain ⟨v1, vs1, d1, ds1, p1, q1, rfl, rfl, rfl, h1, r1⟩ := trodAll_cons r0
  obtain ⟨v2, vs2, d2, ds2, p2, q2, rfl, rfl, rfl, h2, r2⟩ := trodAll_cons r1
  obtain ⟨v3, vs3, d3, ds3, p3, q3, rfl, rfl, rfl, h3, r3⟩ := trodAll_cons r2
  obtain ⟨rfl, rfl, rfl⟩ := trodAll_nil r3
  obtain rfl : args = #[v0, v1, v2, v3] := by cases args; simp_all
  obtain ⟨rfl, rfl⟩ := trodVars_none hV
  obtain ⟨cs0, rfl, -⟩ := okWide_struct Try.underlying35 (hval 0 35 v0 rfl rfl)
  obtain ⟨ao1, n1, cap1, rfl⟩ := okWide_slice Try.underlying36 (hval 1 36 v1 rfl rfl)
  obtain ⟨ao2, n2, cap2, rfl⟩ := okWide_slice Try.underlying36 (hval 2 36 v2 rfl rfl)
  obtain ⟨a3, rfl, g0, g1⟩ := open_byte Try.underlying5 (hval 3 5 v3 rfl rfl) h3
  obtain ⟨_, h0⟩ := h0
  obtain ⟨_, h1⟩ := h1
  obtain ⟨_, h2⟩ := h2
  obtain ⟨x, e3, hx⟩ := true_trod h0
  obtain ⟨ao, cap, l, e1, hl, hT⟩ := radios_trod h1
  obtain ⟨ao', cap', bad, e2, hb, hB⟩ := radios_trod h2
  obtain rfl : cs0 = x.cells.toArray := Array.ext' (by simpa [Value.cells] using e3)
  obtain ⟨rfl, rfl, rfl⟩ : ao1 = ao ∧ n1 = l.length ∧ cap1 = cap := by simpa [Value.cells] using e1
  obtain ⟨rfl, rfl, rfl⟩ : ao2 = ao' ∧ n2 = bad.length ∧ cap2 = cap' := by simpa [Value.cells] using e2
  refine (truth_walk x hx l bad a3 g0 g1 hT hB ao1 cap1 ao2 cap2 W hl hb).mono fun e W' ⟨he, hg⟩ => ?_
  subst he
  exact ⟨_, rfl, law_post (by kernel_rfl) (by kernel_rfl) rfl rfl Try.underlying4 hW' rfl hg⟩
theorem proved : Rows.NavTrustsTruthSaid :=
  OpenClaim.holds_of_wide 4 Try.f4 rfl rfl rfl rfl rfl rfl rfl ⟨rfl, rfl, rfl, rfl, rfl⟩ rfl rfl rfl rfl rfl (by as_aux_lemma => kernel_rfl) Try.func4 (by as_aux_lemma => kernel_rfl)
    (of_decide_eq_true (by as_aux_lemma => kernel_rfl)) (by unfold Func.isWrapper; first | (rw [if_pos (by decide +kernel)]; kernel_rfl) | (rw [if_neg (by decide +kernel)]; exact ⟨rfl, rfl⟩))
    (fun os started H enc _ => lifted os started H enc)
end navTrustsTruthRow
end Go.Proofs.Ytdkfkalplmgoeaa
