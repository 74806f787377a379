/-
  Contracts: slices.IndexFunc, slices.ContainsFunc and abort.every at lists of int.
-/
import Derived.Shelf.Abstract
import Derived.Test.YtgjikdhidakloaaProg
import Derived.Test.YtgjikdhidakloaaVocab
namespace Go.Proofs.Ytgjikdhidakloaa
open Go.RowKit
set_option maxRecDepth 100000
set_option maxHeartbeats 2000000
def intC (a : Int) : List Value := [.int .i64 a]
/-- The place of the first element that a predicate takes, -1 for none. -/
def idxGo {α : Type} (p : α → Bool) : Nat → List α → Int
  | _, [] => -1
  | k, x :: r => if p x = true then k else idxGo p (k + 1) r
theorem idxGo_drop {α : Type} (p : α → Bool) (l : List α) (k : Nat) (h : k < l.length) : idxGo p k (l.drop k) = if p l[k] = true then (k : Int) else idxGo p (k + 1) (l.drop (k + 1)) := by
  rw [List.drop_eq_getElem_cons h]
  rfl
theorem idxGo_end {α : Type} (p : α → Bool) (l : List α) (k : Nat) (h : l.length ≤ k) : idxGo p k (l.drop k) = -1 := by
  rw [List.drop_of_length_le h]
  rfl
theorem idxGo_any {α : Type} (p : α → Bool) (l : List α) : ∀ k : Nat, decide (0 ≤ idxGo p k l) = l.any p ∧ idxGo p k l < k + l.length := by
  induction l with
  | nil => intro k; exact ⟨rfl, by unfold idxGo; simp; omega⟩
  | cons x r ih =>
    intro k
    unfold idxGo
    cases h : p x
    · rw [if_neg (by decide), List.any_cons, h]
      have := ih (k + 1)
      exact ⟨by rw [this.1]; rfl, by have := this.2; simp at this ⊢; omega⟩
    · rw [if_pos rfl, List.any_cons, h]
      exact ⟨by simp, by simp; omega⟩
theorem all_not_any {α : Type} (p : α → Bool) (l : List α) : l.all p = !l.any (fun x => !p x) := by
  induction l with
  | nil => rfl
  | cons x r ih => rw [List.all_cons, List.any_cons, ih]; simp
/-- A function value that tells what p tells, wherever it is called. -/
def PredOk (g : Nat) (lb : Array Value) (p : Int → Bool) (w0 : World) : Prop := ∀ (w : World) (x : Int), Grew w0 w → Calls Try.prog g (#[.int .i64 x] ++ lb) w fun e w' => e = .returned (.bool (p x)) ∧ Grew w w'
theorem PredOk.grew {g : Nat} {lb : Array Value} {p : Int → Bool} {w w' : World} (h : PredOk g lb p w) (k : Grew w w') : PredOk g lb p w' := fun W x hW => h W x (k.trans hW)
theorem idxInt_any (p : Int → Bool) (g : Nat) (lb : Array Value) (eg : ∀ args w, (callFunc g args).run Try.prog w = .ok (.enter g args) w) (l : List Int) (v : Value) (w : World) (h : SlAt w v l.length (l.flatMap intC)) (hp : PredOk g lb p w) :
    Calls Try.prog 52 #[v, .func (.func g) #[] lb] w fun e w' => e = .returned (.int .i64 (idxGo p 0 l)) ∧ Grew w w' := by
  obtain ⟨ao, cap, rfl, hm, hc⟩ := h
  unfold maxLen at hm
  have HE := Lib.hid (SlAt.elem (f := intC) (c := 1) (fun _ => rfl) (by omega) hc)
  have HP := Lib.hid hp
  clear hc hp
  go_enter Try.func52, Try.ntmps52
  go_wp2
  go_loopw [8] (fun t wr => ∃ k : Nat, t = .int .i64 k ∧ k ≤ l.length ∧ Hid (idxGo p 0 l = idxGo p k (l.drop k)) ∧ Grew w wr) (fun t _ => l.length - (intOf t).toNat)
  case atStart => exact ⟨0, rfl, by omega, Lib.hid rfl, (by repeat (first | with_reducible exact Grew.refl _ | with_reducible apply Grew.alloc | with_reducible apply Grew.later | with_reducible apply Grew.drew | with_reducible apply Grew.store | with_reducible assumption))⟩
  case round =>
    obtain ⟨k, rfl, hk, Hs, hg⟩ := hrel
    obtain ⟨x, rfl⟩ := later_of hg
    clear hg
    by_cases hlt : k < l.length
    · obtain ⟨b1, o1, rfl, i1, hd1, hd2⟩ := HE.out k hlt
      have hd := hd1 _ rfl
      clear hd1 hd2
      have i1 : BlockIn w b1 := ⟨i1⟩
      have Hd := Lib.hid (idxGo_drop p l k hlt)
      generalize l[k] = y at *
      simp only [Nat.mul_one] at hd
      cases hy : p y
      · have HC := Lib.hid (fun W h => is_bool hy (HP.out W y h))
        have Hn := Lib.hid (Hs.out.trans (Hd.out.trans (by rw [hy])))
        clear hy
        go_wp2_with (first | (go_at_fn g; refine call_later (HC.out _ (by repeat (first | with_reducible exact Grew.refl _ | with_reducible apply Grew.alloc | with_reducible apply Grew.later | with_reducible apply Grew.drew | with_reducible apply Grew.store | with_reducible assumption))) ?_; intro u))
        go_roundw
        case rel => exact ⟨k + 1, by go_num, by omega, Hn, (by repeat (first | with_reducible exact Grew.refl _ | with_reducible apply Grew.alloc | with_reducible apply Grew.later | with_reducible apply Grew.drew | with_reducible apply Grew.store | with_reducible assumption))⟩
        case measure => simp [intOf]; omega
      · have HC := Lib.hid (fun W h => is_bool hy (HP.out W y h))
        have Hn := Lib.hid (Hs.out.trans (Hd.out.trans (by rw [hy])))
        clear hy
        go_wp2_with (first | (go_at_fn g; refine call_later (HC.out _ (by repeat (first | with_reducible exact Grew.refl _ | with_reducible apply Grew.alloc | with_reducible apply Grew.later | with_reducible apply Grew.drew | with_reducible apply Grew.store | with_reducible assumption))) ?_; intro u))
        go_ret
        exact ⟨ret_int Hn.out.symm, (by repeat (first | with_reducible exact Grew.refl _ | with_reducible apply Grew.alloc | with_reducible apply Grew.later | with_reducible apply Grew.drew | with_reducible apply Grew.store | with_reducible assumption))⟩
    · have Hn := Lib.hid (Hs.out.trans (idxGo_end p l k (by omega)))
      go_wp2
      go_ret
      exact ⟨ret_int Hn.out.symm, (by repeat (first | with_reducible exact Grew.refl _ | with_reducible apply Grew.alloc | with_reducible apply Grew.later | with_reducible apply Grew.drew | with_reducible apply Grew.store | with_reducible assumption))⟩
theorem containsInt_any (p : Int → Bool) (g : Nat) (lb : Array Value) (eg : ∀ args w, (callFunc g args).run Try.prog w = .ok (.enter g args) w) (l : List Int) (v : Value) (w : World) (h : SlAt w v l.length (l.flatMap intC)) (hp : PredOk g lb p w) :
    Calls Try.prog 79 #[v, .func (.func g) #[] lb] w fun e w' => e = .returned (.bool (l.any p)) ∧ Grew w w' := by
  have hb := idxGo_any p l 0
  have hI := idxInt_any p g lb eg l v w h hp
  obtain ⟨ao, cap, rfl, -, -⟩ := h
  generalize idxGo p 0 l = z at *
  have H1 := Lib.hid hb.1
  have HI := Lib.hid hI
  clear hb hI
  go_enter Try.func79, Try.ntmps79
  go_wp2_with (first | (go_at_call 52; refine call_later HI.out ?_; intro u))
  go_ret
  exact ⟨ret_bool H1.out, (by repeat (first | with_reducible exact Grew.refl _ | with_reducible apply Grew.alloc | with_reducible apply Grew.later | with_reducible apply Grew.drew | with_reducible apply Grew.store | with_reducible assumption))⟩
theorem everyInt1_any (p : Int → Bool) (g : Nat) (lb : Array Value) (eg : ∀ args w, (callFunc g args).run Try.prog w = .ok (.enter g args) w) (b : Nat) (w : World) (hb : w.cell? ⟨b, 0, none⟩ = some (.func (.func g) #[] lb)) (hp : PredOk g lb p w) (x : Int) :
    Calls Try.prog 80 #[.int .i64 x, .pointer (some ⟨b, 0, none⟩)] w fun e w' => e = .returned (.bool (!p x)) ∧ Grew w w' := by
  have HP := Lib.hid (hp w x (Grew.refl w))
  clear hp
  generalize p x = q at *
  go_enter Try.func80, Try.ntmps80
  go_wp2_with (first | (go_at_fn g; refine call_later HP.out ?_; intro u))
  go_ret
  exact ⟨rfl, (by repeat (first | with_reducible exact Grew.refl _ | with_reducible apply Grew.alloc | with_reducible apply Grew.later | with_reducible apply Grew.drew | with_reducible apply Grew.store | with_reducible assumption))⟩
theorem everyInt_any (p : Int → Bool) (g : Nat) (lb : Array Value) (eg : ∀ args w, (callFunc g args).run Try.prog w = .ok (.enter g args) w) (l : List Int) (v : Value) (w : World) (h : SlAt w v l.length (l.flatMap intC)) (hp : PredOk g lb p w) :
    Calls Try.prog 58 #[v, .func (.func g) #[] lb] w fun e w' => e = .returned (.bool (l.all p)) ∧ Grew w w' := by
  have Hall := Lib.hid (all_not_any p l)
  have hc : (w.alloc (.cells #[.func (.func g) #[] lb] 99)).cell? ⟨w.heap.size, 0, none⟩ = some (.func (.func g) #[] lb) := by simp
  have HC := Lib.hid (containsInt_any (fun x => !p x) 80 #[.pointer (some ⟨w.heap.size, 0, none⟩)] (enters_of Try.func80 (by kernel_rfl) rfl) l v _ (h.grew ((Grew.refl w).alloc (.cells #[.func (.func g) #[] lb] 99)))
    (fun W x hW => everyInt1_any p g lb eg w.heap.size W (hW.cell hc) (hp.grew (((Grew.refl w).alloc _).trans hW)) x))
  obtain ⟨ao, cap, rfl, -, -⟩ := h
  clear hc hp
  go_enter Try.func58, Try.ntmps58
  go_wp2_with (first | (go_at_call 79; refine call_later HC.out ?_; intro u))
  go_ret
  exact ⟨ret_bool Hall.out.symm, (by repeat (first | with_reducible exact Grew.refl _ | with_reducible apply Grew.alloc | with_reducible apply Grew.later | with_reducible apply Grew.drew | with_reducible apply Grew.store | with_reducible assumption))⟩
end Go.Proofs.Ytgjikdhidakloaa
