/-
  Contract: ullageref01's Dot of two boxes; its calculation's Dot.
-/
import Derived.Test.YtdkfkalplmgoeaaFolds2
import Derived.Deep.RegionHeld3
namespace Go.Proofs.Ytdkfkalplmgoeaa
open Go.RowKit Go.Shelf
set_option maxRecDepth 100000
set_option maxHeartbeats 2000000
/-- The sum of the first k terms. -/
def dotTo (a b : Bx) (k : Nat) : Res := foldR mul2 z0 ((a.terms b).take k)
theorem dot_step (a b : Bx) (k : Nat) (hk : k < 3) (s : Sp) (h : dotTo a b k = ⟨s, 0⟩) :
    dotTo a b (k + 1) = if (mulR (a.at k) (b.at k)).e = 0 then (if (addR s (mulR (a.at k) (b.at k)).s).e = 0 then ⟨(addR s (mulR (a.at k) (b.at k)).s).s, 0⟩ else errR (addR s (mulR (a.at k) (b.at k)).s).e) else errR (mulR (a.at k) (b.at k)).e := by
  have hl : k < (a.terms b).length := by simpa [Bx.terms] using hk
  have e : (a.terms b)[k] = (a.at k, b.at k) := by
    match k, hk with
    | 0, _ => rfl
    | 1, _ => rfl
    | 2, _ => rfl
  unfold dotTo at *
  rw [List.take_succ_eq_append_getElem hl, foldR_snoc, h, if_pos rfl, e]
  rfl
theorem dot_fail (a b : Bx) (k : Nat) (c : Int) (hc : c ≠ 0) (h : dotTo a b k = errR c) : foldR mul2 z0 (a.terms b) = errR c := by
  unfold dotTo at h
  have e : a.terms b = (a.terms b).take k ++ (a.terms b).drop k := (List.take_append_drop _ _).symm
  rw [e, foldR_err mul2 z0 _ _ (by rw [h]; exact hc), h]
def elemOf (a : Bx) : List Sp := a.list
theorem fewE_box (a : Bx) : fewE a.list = codeB a.okB 2 := by
  unfold fewE
  rw [if_pos (by simp [Bx.list]), list_ok]
theorem at_list (a : Bx) (k : Nat) (hk : k < a.list.length) : a.list[k] = a.at k := by
  have : k < 3 := by simpa [Bx.list] using hk
  match k, this with
  | 0, _ => rfl
  | 1, _ => rfl
  | 2, _ => rfl
theorem SlAt.fresh2 {w : World} {m : Nat} [h : SizeAt w m] (l : List Value) (t : TypeId) (n cap : Nat) (o : Obj) (hn : n ≤ maxLen) : SlAt ((w.alloc (.cells l.toArray t)).alloc o) (.slice (some ⟨m, 0, none⟩) n cap) n l := (SlAt.fresh l t n cap hn).grew ((Grew.refl _).alloc _)
end Go.Proofs.Ytdkfkalplmgoeaa
