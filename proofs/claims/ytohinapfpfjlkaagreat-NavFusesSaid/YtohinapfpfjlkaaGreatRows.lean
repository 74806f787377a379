/-
  No cell of these rows narrows 'for every input' (looked for: loops, veiled, ifaces, maps, wideKeys, modest, calm, conditions, laid).
  DERIVED. THE GIVEN ROWS OF THIS SEAT. 4 by the template 'for every input the law returns true; each argument reads behind the call as it read before'; 0 by the template 'total and deterministic' (their statements: YtohinapfpfjlkaaGreatTotals.lean).
  GIVEN WITH THE SEED: the statements are not yours to turn. If you find one false, say at which input.
  Laid BY PROGRAM, IN A SANDBOX (cutbox-rows.mjs): the forced cells as the released guide's own fill.sh prints them over the translation cb594d9d629562ca… (all of the seat's roots in one cut). By AI agents, Wed Nov 11 2026. No macro, syntax, notation, axiom, sorry.
-/
import Derived.Test.YtohinapfpfjlkaaGreatChecked
import GoSem.Claim
import GoSem.ClaimJoined
import GoSem.ClaimMapViews
import Derived.JoinedTies
import Derived.KernelRfl
namespace Go.Proofs.YtohinapfpfjlkaaGreat
/- THE CELL 'sum', in the pinned program and in every row, IS THE sha256 OF THE DUMP (.gsa) THAT YtohinapfpfjlkaaGreatProg.lean LOADS. Nothing in Lean hashes anything: it is a label: what it is worth is what the hold of that sum in a sandbox is worth. -/
noncomputable def Tryz.pinned : Pinned := { name := "ytohinapfpfjlkaagreat", sum := "cb594d9d629562cab5a91cf3fc6e0e9498fbd563b7a5c14b6cca3f9a70638d2f", checked := Tryz.checked }
namespace Rows
def none {H : Type} : Left H := { results := [], args := [] }

/-- 'ullagelaw06.NavCuts': WHATEVER THE INPUT: true; the input reads as it did. -/
def navCutsSpec : ChangeSpec := { name := "navCuts", fn := fun _ => fun
  | [d1, d2] => { results := [.lit (.bool true)], args := [d1, d2] }
  | _ => none }
def navCutsRow : OpenClaim := { program := "ytohinapfpfjlkaagreat", sum := "cb594d9d629562cab5a91cf3fc6e0e9498fbd563b7a5c14b6cca3f9a70638d2f", func := "ullage/ullagelaw06.NavCuts", spec := "navCuts", inPlace := ["math/bits.Add64", "math/bits.Sub64"], unfollowed := true, recurses := true, named := ["math/bits.divideError", "math/bits.overflowError"], apart := false }
def NavCutsSaid : Prop := navCutsRow.holds Tryz.pinned (OpenSpec.ofChange navCutsSpec)

/-- ITS FALSE NEIGHBOUR: 'it returns false'. Refute it at one input. -/
def navCutsWrong : ChangeSpec := { name := "navCuts", fn := fun _ => fun
  | [d1, d2] => { results := [.lit (.bool false)], args := [d1, d2] }
  | _ => none }
def NavCutsWrongFalsely : Prop := navCutsRow.holds Tryz.pinned (OpenSpec.ofChange navCutsWrong)

/-- 'ullagelaw03.FlightAsks': WHATEVER THE INPUT: true; the input reads as it did. -/
def flightAsksSpec : ChangeSpec := { name := "flightAsks", fn := fun _ => fun
  | [d1, d2, d3, d4] => { results := [.lit (.bool true)], args := [d1, d2, d3, d4] }
  | _ => none }
def flightAsksRow : OpenClaim := { program := "ytohinapfpfjlkaagreat", sum := "cb594d9d629562cab5a91cf3fc6e0e9498fbd563b7a5c14b6cca3f9a70638d2f", func := "ullage/ullagelaw03.FlightAsks", spec := "flightAsks", inPlace := ["math/bits.Add64", "math/bits.Sub64"], unfollowed := true, recurses := true, named := ["math/bits.divideError", "math/bits.overflowError"], apart := false }
def FlightAsksSaid : Prop := flightAsksRow.holds Tryz.pinned (OpenSpec.ofChange flightAsksSpec)

/-- ITS FALSE NEIGHBOUR: 'it returns false'. Refute it at one input. -/
def flightAsksWrong : ChangeSpec := { name := "flightAsks", fn := fun _ => fun
  | [d1, d2, d3, d4] => { results := [.lit (.bool false)], args := [d1, d2, d3, d4] }
  | _ => none }
def FlightAsksWrongFalsely : Prop := flightAsksRow.holds Tryz.pinned (OpenSpec.ofChange flightAsksWrong)

/-- 'ullagelaw06.NavFuses': WHATEVER THE INPUT: true; the input reads as it did. -/
def navFusesSpec : ChangeSpec := { name := "navFuses", fn := fun _ => fun
  | [d1, d2, d3] => { results := [.lit (.bool true)], args := [d1, d2, d3] }
  | _ => none }
def navFusesRow : OpenClaim := { program := "ytohinapfpfjlkaagreat", sum := "cb594d9d629562cab5a91cf3fc6e0e9498fbd563b7a5c14b6cca3f9a70638d2f", func := "ullage/ullagelaw06.NavFuses", spec := "navFuses", inPlace := ["math/bits.Add64", "math/bits.Sub64"], unfollowed := true, recurses := true, named := ["math/bits.divideError", "math/bits.overflowError"], apart := false }
def NavFusesSaid : Prop := navFusesRow.holds Tryz.pinned (OpenSpec.ofChange navFusesSpec)

/-- ITS FALSE NEIGHBOUR: 'it returns false'. Refute it at one input. -/
def navFusesWrong : ChangeSpec := { name := "navFuses", fn := fun _ => fun
  | [d1, d2, d3] => { results := [.lit (.bool false)], args := [d1, d2, d3] }
  | _ => none }
def NavFusesWrongFalsely : Prop := navFusesRow.holds Tryz.pinned (OpenSpec.ofChange navFusesWrong)

/-- 'ullagelaw06.NavTrusts': WHATEVER THE INPUT: true; the input reads as it did. -/
def navTrustsSpec : ChangeSpec := { name := "navTrusts", fn := fun _ => fun
  | [d1, d2, d3, d4] => { results := [.lit (.bool true)], args := [d1, d2, d3, d4] }
  | _ => none }
def navTrustsRow : OpenClaim := { program := "ytohinapfpfjlkaagreat", sum := "cb594d9d629562cab5a91cf3fc6e0e9498fbd563b7a5c14b6cca3f9a70638d2f", func := "ullage/ullagelaw06.NavTrusts", spec := "navTrusts", inPlace := ["math/bits.Add64", "math/bits.Sub64"], unfollowed := true, recurses := true, named := ["math/bits.divideError", "math/bits.overflowError"], apart := false }
def NavTrustsSaid : Prop := navTrustsRow.holds Tryz.pinned (OpenSpec.ofChange navTrustsSpec)

/-- ITS FALSE NEIGHBOUR: 'it returns false'. Refute it at one input. -/
def navTrustsWrong : ChangeSpec := { name := "navTrusts", fn := fun _ => fun
  | [d1, d2, d3, d4] => { results := [.lit (.bool false)], args := [d1, d2, d3, d4] }
  | _ => none }
def NavTrustsWrongFalsely : Prop := navTrustsRow.holds Tryz.pinned (OpenSpec.ofChange navTrustsWrong)

/- THE SECOND FORM. 'bulk': how many values and letters a reading holds, each counted each time it is reached (what is shared counts as often as it is met; a slice's spare places count too). A statement '..UptoSaid' is the law's where the arguments, and the package variables that the reading takes, are together of bulk at most 1048576: NARROWER than '..Said'. Prove '..Said' where nothing that the law and all that it calls make is longer than what came in: it says more and counts as full. Else prove '..UptoSaid'. A law counts once. -/
mutual
def uptoBulk {H : Type} : DataW H → Nat
  | .lit (.string bytes) => bytes.length + 1
  | .lit _ => 1
  | .nil => 1
  | .ptr d => uptoBulk d + 1
  | .slice elems spare => uptoBulkAll elems + uptoBulkAll spare + 1
  | .agg parts => uptoBulkAll parts + 1
  | .iface _ d => uptoBulk d + 1
  | .map entries => uptoBulkEntries entries + 1
  | .held _ => 1
def uptoBulkAll {H : Type} : List (DataW H) → Nat
  | [] => 0
  | d :: r => uptoBulk d + uptoBulkAll r
def uptoBulkEntries {H : Type} : List (Lit × DataW H) → Nat
  | [] => 0
  | x :: r => uptoBulkEntry x + uptoBulkEntries r
def uptoBulkEntry {H : Type} : Lit × DataW H → Nat
  | (.string bytes, d) => bytes.length + uptoBulk d + 1
  | (_, d) => uptoBulk d + 1
 end
def uptoSmall : (H : Type) → List (DataW H) → Bool := fun _ ds => decide (uptoBulkAll ds ≤ 1048576)
def OpenSpec.upto (s : _root_.Go.ChangeSpec) : _root_.Go.OpenSpec := { _root_.Go.OpenSpec.ofChange s with cond := some uptoSmall }

/-- 'ullagelaw06.NavCuts', WHERE WHAT IT READS IS OF BULK AT MOST 1048576: true; the input reads as it did. -/
def navCutsUptoRow : OpenClaim := { program := "ytohinapfpfjlkaagreat", sum := "cb594d9d629562cab5a91cf3fc6e0e9498fbd563b7a5c14b6cca3f9a70638d2f", func := "ullage/ullagelaw06.NavCuts", spec := "navCuts", inPlace := ["math/bits.Add64", "math/bits.Sub64"], unfollowed := true, recurses := true, named := ["math/bits.divideError", "math/bits.overflowError"], apart := false, narrowed := true }
def NavCutsUptoSaid : Prop := navCutsUptoRow.holds Tryz.pinned (OpenSpec.upto navCutsSpec)

/-- 'ullagelaw03.FlightAsks', WHERE WHAT IT READS IS OF BULK AT MOST 1048576: true; the input reads as it did. -/
def flightAsksUptoRow : OpenClaim := { program := "ytohinapfpfjlkaagreat", sum := "cb594d9d629562cab5a91cf3fc6e0e9498fbd563b7a5c14b6cca3f9a70638d2f", func := "ullage/ullagelaw03.FlightAsks", spec := "flightAsks", inPlace := ["math/bits.Add64", "math/bits.Sub64"], unfollowed := true, recurses := true, named := ["math/bits.divideError", "math/bits.overflowError"], apart := false, narrowed := true }
def FlightAsksUptoSaid : Prop := flightAsksUptoRow.holds Tryz.pinned (OpenSpec.upto flightAsksSpec)

/-- 'ullagelaw06.NavFuses', WHERE WHAT IT READS IS OF BULK AT MOST 1048576: true; the input reads as it did. -/
def navFusesUptoRow : OpenClaim := { program := "ytohinapfpfjlkaagreat", sum := "cb594d9d629562cab5a91cf3fc6e0e9498fbd563b7a5c14b6cca3f9a70638d2f", func := "ullage/ullagelaw06.NavFuses", spec := "navFuses", inPlace := ["math/bits.Add64", "math/bits.Sub64"], unfollowed := true, recurses := true, named := ["math/bits.divideError", "math/bits.overflowError"], apart := false, narrowed := true }
def NavFusesUptoSaid : Prop := navFusesUptoRow.holds Tryz.pinned (OpenSpec.upto navFusesSpec)

/-- 'ullagelaw06.NavTrusts', WHERE WHAT IT READS IS OF BULK AT MOST 1048576: true; the input reads as it did. -/
def navTrustsUptoRow : OpenClaim := { program := "ytohinapfpfjlkaagreat", sum := "cb594d9d629562cab5a91cf3fc6e0e9498fbd563b7a5c14b6cca3f9a70638d2f", func := "ullage/ullagelaw06.NavTrusts", spec := "navTrusts", inPlace := ["math/bits.Add64", "math/bits.Sub64"], unfollowed := true, recurses := true, named := ["math/bits.divideError", "math/bits.overflowError"], apart := false, narrowed := true }
def NavTrustsUptoSaid : Prop := navTrustsUptoRow.holds Tryz.pinned (OpenSpec.upto navTrustsSpec)

end Rows
end Go.Proofs.YtohinapfpfjlkaaGreat
