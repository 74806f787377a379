/-
  No cell of these rows narrows 'for every input' (looked for: loops, veiled, ifaces, maps, wideKeys, modest, calm, conditions, laid).
  DERIVED. THE GIVEN ROWS OF THIS SEAT. 4 by the template 'for every input the law returns true; each argument reads behind the call as it read before'; 0 by the template 'total and deterministic' (their statements: YtfcdpilkcinnjaaTotals.lean).
  GIVEN WITH THE SEED: the statements are not yours to turn. If you find one false, say at which input.
  Laid BY PROGRAM, IN A SANDBOX (cutbox-rows.mjs): the forced cells as the released guide's own fill.sh prints them over the translation 1e9323813eba9d8e… (all of the seat's roots in one cut). By AI agents, Wed Nov 11 2026. No macro, syntax, notation, axiom, sorry.
-/
import Derived.Test.YtfcdpilkcinnjaaChecked
import GoSem.Claim
import GoSem.ClaimJoined
import GoSem.ClaimMapViews
import Derived.JoinedTies
import Derived.KernelRfl
namespace Go.Proofs.Ytfcdpilkcinnjaa
/- THE CELL 'sum', in the pinned program and in every row, IS THE sha256 OF THE DUMP (.gsa) THAT YtfcdpilkcinnjaaProg.lean LOADS. Nothing in Lean hashes anything: it is a label: what it is worth is what the hold of that sum in a sandbox is worth. -/
noncomputable def Try.pinned : Pinned := { name := "ytfcdpilkcinnjaa", sum := "1e9323813eba9d8efc39f57db080a2b03b28c94db76cbcb21415da1dac91ae96", checked := Try.checked }
namespace Rows
def none {H : Type} : Left H := { results := [], args := [] }

/-- 'ullagelaw03.FlightBack': WHATEVER THE INPUT: true; the input reads as it did. -/
def flightBackSpec : ChangeSpec := { name := "flightBack", fn := fun _ => fun
  | [d1, d2, d3] => { results := [.lit (.bool true)], args := [d1, d2, d3] }
  | _ => none }
def flightBackRow : OpenClaim := { program := "ytfcdpilkcinnjaa", sum := "1e9323813eba9d8efc39f57db080a2b03b28c94db76cbcb21415da1dac91ae96", func := "ullage/ullagelaw03.FlightBack", spec := "flightBack", inPlace := ["math/bits.Add64", "math/bits.Sub64"], unfollowed := true, recurses := true, named := ["math/bits.divideError", "math/bits.overflowError"], apart := false }
def FlightBackSaid : Prop := flightBackRow.holds Try.pinned (OpenSpec.ofChange flightBackSpec)

/-- ITS FALSE NEIGHBOUR: 'it returns false'. Refute it at one input. -/
def flightBackWrong : ChangeSpec := { name := "flightBack", fn := fun _ => fun
  | [d1, d2, d3] => { results := [.lit (.bool false)], args := [d1, d2, d3] }
  | _ => none }
def FlightBackWrongFalsely : Prop := flightBackRow.holds Try.pinned (OpenSpec.ofChange flightBackWrong)

/-- 'ullagelaw03.FlightMeets': WHATEVER THE INPUT: true; the input reads as it did. -/
def flightMeetsSpec : ChangeSpec := { name := "flightMeets", fn := fun _ => fun
  | [d1, d2, d3, d4] => { results := [.lit (.bool true)], args := [d1, d2, d3, d4] }
  | _ => none }
def flightMeetsRow : OpenClaim := { program := "ytfcdpilkcinnjaa", sum := "1e9323813eba9d8efc39f57db080a2b03b28c94db76cbcb21415da1dac91ae96", func := "ullage/ullagelaw03.FlightMeets", spec := "flightMeets", inPlace := ["math/bits.Add64", "math/bits.Sub64"], unfollowed := true, recurses := true, named := ["math/bits.divideError", "math/bits.overflowError"], apart := false }
def FlightMeetsSaid : Prop := flightMeetsRow.holds Try.pinned (OpenSpec.ofChange flightMeetsSpec)

/-- ITS FALSE NEIGHBOUR: 'it returns false'. Refute it at one input. -/
def flightMeetsWrong : ChangeSpec := { name := "flightMeets", fn := fun _ => fun
  | [d1, d2, d3, d4] => { results := [.lit (.bool false)], args := [d1, d2, d3, d4] }
  | _ => none }
def FlightMeetsWrongFalsely : Prop := flightMeetsRow.holds Try.pinned (OpenSpec.ofChange flightMeetsWrong)

/-- 'ullagelaw03.FlightMasses': WHATEVER THE INPUT: true; the input reads as it did. -/
def flightMassesSpec : ChangeSpec := { name := "flightMasses", fn := fun _ => fun
  | [d1, d2, d3] => { results := [.lit (.bool true)], args := [d1, d2, d3] }
  | _ => none }
def flightMassesRow : OpenClaim := { program := "ytfcdpilkcinnjaa", sum := "1e9323813eba9d8efc39f57db080a2b03b28c94db76cbcb21415da1dac91ae96", func := "ullage/ullagelaw03.FlightMasses", spec := "flightMasses", inPlace := ["math/bits.Add64", "math/bits.Sub64"], unfollowed := true, recurses := true, named := ["math/bits.divideError", "math/bits.overflowError"], apart := false }
def FlightMassesSaid : Prop := flightMassesRow.holds Try.pinned (OpenSpec.ofChange flightMassesSpec)

/-- ITS FALSE NEIGHBOUR: 'it returns false'. Refute it at one input. -/
def flightMassesWrong : ChangeSpec := { name := "flightMasses", fn := fun _ => fun
  | [d1, d2, d3] => { results := [.lit (.bool false)], args := [d1, d2, d3] }
  | _ => none }
def FlightMassesWrongFalsely : Prop := flightMassesRow.holds Try.pinned (OpenSpec.ofChange flightMassesWrong)

/-- 'ullagelaw03.FlightNames': WHATEVER THE INPUT: true; the input reads as it did. -/
def flightNamesSpec : ChangeSpec := { name := "flightNames", fn := fun _ => fun
  | [] => { results := [.lit (.bool true)], args := [] }
  | _ => none }
def flightNamesRow : OpenClaim := { program := "ytfcdpilkcinnjaa", sum := "1e9323813eba9d8efc39f57db080a2b03b28c94db76cbcb21415da1dac91ae96", func := "ullage/ullagelaw03.FlightNames", spec := "flightNames", inPlace := ["math/bits.Add64", "math/bits.Sub64"], unfollowed := true, recurses := true, named := ["math/bits.divideError", "math/bits.overflowError"], apart := false }
def FlightNamesSaid : Prop := flightNamesRow.holds Try.pinned (OpenSpec.ofChange flightNamesSpec)

/-- ITS FALSE NEIGHBOUR: 'it returns false'. Refute it at one input. -/
def flightNamesWrong : ChangeSpec := { name := "flightNames", fn := fun _ => fun
  | [] => { results := [.lit (.bool false)], args := [] }
  | _ => none }
def FlightNamesWrongFalsely : Prop := flightNamesRow.holds Try.pinned (OpenSpec.ofChange flightNamesWrong)

/- THE SECOND FORM. 'bulk': how many values and letters a reading holds, each counted each time it is reached (what is shared counts as often as it is met; a slice's spare places count too). A statement '..UptoSaid' is the law's where the arguments, and the package variables that the reading takes, are together of bulk at most 1048576: NARROWER than '..Said'. Prove '..Said' where nothing that the law and all that it calls make is longer than what came in: it says more and counts as full. Else prove '..UptoSaid'. A law counts once. -/
mutual
def uptoBulk {H : Type} : DataW H → Nat
  | .lit (.string bytes) => bytes.length + 1
  | .lit _ => 1
  | .nil => 1
  | .ptr d => uptoBulk d + 1
  | .slice elems spare => uptoBulkAll elems + uptoBulkAll spare + 1
  | .agg parts => uptoBulkAll parts + 1
  | .iface _ d => uptoBulk d + 1
  | .map entries => uptoBulkEntries entries + 1
  | .held _ => 1
def uptoBulkAll {H : Type} : List (DataW H) → Nat
  | [] => 0
  | d :: r => uptoBulk d + uptoBulkAll r
def uptoBulkEntries {H : Type} : List (Lit × DataW H) → Nat
  | [] => 0
  | x :: r => uptoBulkEntry x + uptoBulkEntries r
def uptoBulkEntry {H : Type} : Lit × DataW H → Nat
  | (.string bytes, d) => bytes.length + uptoBulk d + 1
  | (_, d) => uptoBulk d + 1
 end
def uptoSmall : (H : Type) → List (DataW H) → Bool := fun _ ds => decide (uptoBulkAll ds ≤ 1048576)
def OpenSpec.upto (s : _root_.Go.ChangeSpec) : _root_.Go.OpenSpec := { _root_.Go.OpenSpec.ofChange s with cond := some uptoSmall }

/-- 'ullagelaw03.FlightBack', WHERE WHAT IT READS IS OF BULK AT MOST 1048576: true; the input reads as it did. -/
def flightBackUptoRow : OpenClaim := { program := "ytfcdpilkcinnjaa", sum := "1e9323813eba9d8efc39f57db080a2b03b28c94db76cbcb21415da1dac91ae96", func := "ullage/ullagelaw03.FlightBack", spec := "flightBack", inPlace := ["math/bits.Add64", "math/bits.Sub64"], unfollowed := true, recurses := true, named := ["math/bits.divideError", "math/bits.overflowError"], apart := false, narrowed := true }
def FlightBackUptoSaid : Prop := flightBackUptoRow.holds Try.pinned (OpenSpec.upto flightBackSpec)

/-- 'ullagelaw03.FlightMeets', WHERE WHAT IT READS IS OF BULK AT MOST 1048576: true; the input reads as it did. -/
def flightMeetsUptoRow : OpenClaim := { program := "ytfcdpilkcinnjaa", sum := "1e9323813eba9d8efc39f57db080a2b03b28c94db76cbcb21415da1dac91ae96", func := "ullage/ullagelaw03.FlightMeets", spec := "flightMeets", inPlace := ["math/bits.Add64", "math/bits.Sub64"], unfollowed := true, recurses := true, named := ["math/bits.divideError", "math/bits.overflowError"], apart := false, narrowed := true }
def FlightMeetsUptoSaid : Prop := flightMeetsUptoRow.holds Try.pinned (OpenSpec.upto flightMeetsSpec)

/-- 'ullagelaw03.FlightMasses', WHERE WHAT IT READS IS OF BULK AT MOST 1048576: true; the input reads as it did. -/
def flightMassesUptoRow : OpenClaim := { program := "ytfcdpilkcinnjaa", sum := "1e9323813eba9d8efc39f57db080a2b03b28c94db76cbcb21415da1dac91ae96", func := "ullage/ullagelaw03.FlightMasses", spec := "flightMasses", inPlace := ["math/bits.Add64", "math/bits.Sub64"], unfollowed := true, recurses := true, named := ["math/bits.divideError", "math/bits.overflowError"], apart := false, narrowed := true }
def FlightMassesUptoSaid : Prop := flightMassesUptoRow.holds Try.pinned (OpenSpec.upto flightMassesSpec)

/-- 'ullagelaw03.FlightNames', WHERE WHAT IT READS IS OF BULK AT MOST 1048576: true; the input reads as it did. -/
def flightNamesUptoRow : OpenClaim := { program := "ytfcdpilkcinnjaa", sum := "1e9323813eba9d8efc39f57db080a2b03b28c94db76cbcb21415da1dac91ae96", func := "ullage/ullagelaw03.FlightNames", spec := "flightNames", inPlace := ["math/bits.Add64", "math/bits.Sub64"], unfollowed := true, recurses := true, named := ["math/bits.divideError", "math/bits.overflowError"], apart := false, narrowed := true }
def FlightNamesUptoSaid : Prop := flightNamesUptoRow.holds Try.pinned (OpenSpec.upto flightNamesSpec)

end Rows
end Go.Proofs.Ytfcdpilkcinnjaa
