/-
  Contract: ullageref04's Mixed.
-/
import Derived.Test.YtffbipcdlnfihaaSetsRef
namespace Go.Proofs.Ytffbipcdlnfihaa
open Go.RowKit
set_option maxRecDepth 100000
set_option maxHeartbeats 8000000
def andB (a b : Bool) : Bool := a && b
def orB (a b : Bool) : Bool := a || b
def butB (a b : Bool) : Bool := a && !b
theorem infoSl2 : (Try.prog.info? 66).map (fun i => (i.zero, i.size, i.bytes)) = some (some (.agg #[.int .i64 0, .int .i64 0]), 2, 16) := by kernel_rfl
def mixCode (A B : List (Int × Int)) : Int := codeB (setB A && setB B) 2
def mixR (is : Bool → Bool → Bool) (A B : List (Int × Int)) : List (Int × Int) := if setB A = true ∧ setB B = true then mixL is A B else []
/-- What a function hands back that returns a set and a code. -/
def RetSlC (l : List (Int × Int)) (c : Int) (w : World) (e : Ending) (w' : World) : Prop :=
  ∃ v, e = .returned (.tuple #[v, .int .i64 c]) ∧ SlAt w' v l.length (l.flatMap slC) ∧ Grew w w'
theorem RetSlC.full {l l' : List (Int × Int)} {c c' : Int} {w w' : World} {v : Value} (h1 : l = l') (h2 : c = c') (h : SlAt w' v l'.length (l'.flatMap slC)) (g : Grew w w') : RetSlC l c w (.returned (.tuple #[v, .int .i64 c'])) w' := by
  subst h1 h2
  exact ⟨v, rfl, h, g⟩
theorem slC_snoc (l : List (Int × Int)) (a z : Int) : l.flatMap slC ++ [.int .i64 a, .int .i64 z] = (l ++ [(a, z)]).flatMap slC := by simp [slC]
theorem slC_len (l : List (Int × Int)) : (l.flatMap slC).length = l.length * 2 := flat_len slC 2 (fun _ => rfl) l
theorem slC_last (l : List (Int × Int)) (q : Int × Int) (z : Int) : ((l ++ [q]).flatMap slC).set (l.length * 2 + 1) (.int .i64 z) = (l ++ [(q.1, z)]).flatMap slC := by
  have hl := slC_len l
  rw [List.flatMap_append, List.flatMap_append, List.set_append_right _ _ (by omega), hl, show l.length * 2 + 1 - l.length * 2 = 1 by omega]
  rfl
theorem mixAt_no (f : Int → Bool) (P : List Int) (i : Nat) (hi : i < P.length) (h : f P[i] = false) : mixAt f P (i + 1) = mixAt f P i := by
  rw [mixAt, List.getElem?_eq_getElem hi]
  simp [h]
theorem mixAt_app (f : Int → Bool) (P : List Int) (i : Nat) (hi : i + 1 < P.length) (h : f P[i] = true) (h2 : mixAt f P i = [] ∨ ∃ M q, mixAt f P i = M ++ [q] ∧ q.2 ≠ P[i]) : mixAt f P (i + 1) = mixAt f P i ++ [(P[i], P[i + 1])] := by
  rw [mixAt, List.getElem?_eq_getElem (show i < P.length by omega), List.getElem?_eq_getElem hi]
  rcases h2 with h2 | ⟨M, q, h2, h3⟩
  · simp [h, h2]
  · rw [h2]; simp [h, h3]
theorem mixAt_ext (f : Int → Bool) (P : List Int) (i : Nat) (hi : i + 1 < P.length) (h : f P[i] = true) {M : List (Int × Int)} {q : Int × Int} (h2 : mixAt f P i = M ++ [q]) (h3 : q.2 = P[i]) : mixAt f P (i + 1) = M ++ [(q.1, P[i + 1])] := by
  rw [mixAt, List.getElem?_eq_getElem (show i < P.length by omega), List.getElem?_eq_getElem hi, h2]
  simp [h, h3, setLast_snoc]
end Go.Proofs.Ytffbipcdlnfihaa
