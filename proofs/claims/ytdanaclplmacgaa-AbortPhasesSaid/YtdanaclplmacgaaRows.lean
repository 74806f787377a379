/-
  No cell of these rows narrows 'for every input' (looked for: loops, veiled, ifaces, maps, wideKeys, modest, calm, conditions, laid).
  DERIVED. THE GIVEN ROWS OF THIS SEAT. 11 by the template 'for every input the law returns true; each argument reads behind the call as it read before'; 0 by the template 'total and deterministic' (their statements: YtdanaclplmacgaaTotals.lean).
  GIVEN WITH THE SEED: the statements are not yours to turn. If you find one false, say at which input.
  Laid BY PROGRAM, IN A SANDBOX (cutbox-rows.mjs): the forced cells as the released guide's own fill.sh prints them over the translation b62d65f74f1e636f… (all of the seat's roots in one cut). By AI agents, Wed Nov 11 2026. No macro, syntax, notation, axiom, sorry.
-/
import Derived.Test.YtdanaclplmacgaaChecked
import GoSem.Claim
import GoSem.ClaimJoined
import GoSem.ClaimMapViews
import Derived.JoinedTies
import Derived.KernelRfl
namespace Go.Proofs.Ytdanaclplmacgaa
/- THE CELL 'sum', in the pinned program and in every row, IS THE sha256 OF THE DUMP (.gsa) THAT YtdanaclplmacgaaProg.lean LOADS. Nothing in Lean hashes anything: it is a label: what it is worth is what the hold of that sum in a sandbox is worth. -/
noncomputable def Try.pinned : Pinned := { name := "ytdanaclplmacgaa", sum := "b62d65f74f1e636f4e6fd7dc63622c89b59716b83abd780eac0a220eaa38d1ef", checked := Try.checked }
namespace Rows
def none {H : Type} : Left H := { results := [], args := [] }

/-- 'ullagelaw04.AscentWindows': WHATEVER THE INPUT: true; the input reads as it did. -/
def ascentWindowsSpec : ChangeSpec := { name := "ascentWindows", fn := fun _ => fun
  | [d1, d2, d3, d4] => { results := [.lit (.bool true)], args := [d1, d2, d3, d4] }
  | _ => none }
def ascentWindowsRow : OpenClaim := { program := "ytdanaclplmacgaa", sum := "b62d65f74f1e636f4e6fd7dc63622c89b59716b83abd780eac0a220eaa38d1ef", func := "ullage/ullagelaw04.AscentWindows", spec := "ascentWindows", plainKeys := false, apart := false }
def AscentWindowsSaid : Prop := ascentWindowsRow.holds Try.pinned (OpenSpec.ofChange ascentWindowsSpec)

/-- ITS FALSE NEIGHBOUR: 'it returns false'. Refute it at one input. -/
def ascentWindowsWrong : ChangeSpec := { name := "ascentWindows", fn := fun _ => fun
  | [d1, d2, d3, d4] => { results := [.lit (.bool false)], args := [d1, d2, d3, d4] }
  | _ => none }
def AscentWindowsWrongFalsely : Prop := ascentWindowsRow.holds Try.pinned (OpenSpec.ofChange ascentWindowsWrong)

/-- 'ullagelaw04.AscentMeets': WHATEVER THE INPUT: true; the input reads as it did. -/
def ascentMeetsSpec : ChangeSpec := { name := "ascentMeets", fn := fun _ => fun
  | [d1, d2, d3] => { results := [.lit (.bool true)], args := [d1, d2, d3] }
  | _ => none }
def ascentMeetsRow : OpenClaim := { program := "ytdanaclplmacgaa", sum := "b62d65f74f1e636f4e6fd7dc63622c89b59716b83abd780eac0a220eaa38d1ef", func := "ullage/ullagelaw04.AscentMeets", spec := "ascentMeets", recurses := true, plainKeys := false, apart := false }
def AscentMeetsSaid : Prop := ascentMeetsRow.holds Try.pinned (OpenSpec.ofChange ascentMeetsSpec)

/-- ITS FALSE NEIGHBOUR: 'it returns false'. Refute it at one input. -/
def ascentMeetsWrong : ChangeSpec := { name := "ascentMeets", fn := fun _ => fun
  | [d1, d2, d3] => { results := [.lit (.bool false)], args := [d1, d2, d3] }
  | _ => none }
def AscentMeetsWrongFalsely : Prop := ascentMeetsRow.holds Try.pinned (OpenSpec.ofChange ascentMeetsWrong)

/-- 'ullagelaw11.AbortPlans': WHATEVER THE INPUT: true; the input reads as it did. -/
def abortPlansSpec : ChangeSpec := { name := "abortPlans", fn := fun _ => fun
  | [d] => { results := [.lit (.bool true)], args := [d] }
  | _ => none }
def abortPlansRow : OpenClaim := { program := "ytdanaclplmacgaa", sum := "b62d65f74f1e636f4e6fd7dc63622c89b59716b83abd780eac0a220eaa38d1ef", func := "ullage/ullagelaw11.AbortPlans", spec := "abortPlans", unfollowed := true, recurses := true, plainKeys := false, apart := false }
def AbortPlansSaid : Prop := abortPlansRow.holds Try.pinned (OpenSpec.ofChange abortPlansSpec)

/-- ITS FALSE NEIGHBOUR: 'it returns false'. Refute it at one input. -/
def abortPlansWrong : ChangeSpec := { name := "abortPlans", fn := fun _ => fun
  | [d] => { results := [.lit (.bool false)], args := [d] }
  | _ => none }
def AbortPlansWrongFalsely : Prop := abortPlansRow.holds Try.pinned (OpenSpec.ofChange abortPlansWrong)

/-- 'ullagelaw11.AbortLimits': WHATEVER THE INPUT: true; the input reads as it did. -/
def abortLimitsSpec : ChangeSpec := { name := "abortLimits", fn := fun _ => fun
  | [d] => { results := [.lit (.bool true)], args := [d] }
  | _ => none }
def abortLimitsRow : OpenClaim := { program := "ytdanaclplmacgaa", sum := "b62d65f74f1e636f4e6fd7dc63622c89b59716b83abd780eac0a220eaa38d1ef", func := "ullage/ullagelaw11.AbortLimits", spec := "abortLimits", plainKeys := false, apart := false }
def AbortLimitsSaid : Prop := abortLimitsRow.holds Try.pinned (OpenSpec.ofChange abortLimitsSpec)

/-- ITS FALSE NEIGHBOUR: 'it returns false'. Refute it at one input. -/
def abortLimitsWrong : ChangeSpec := { name := "abortLimits", fn := fun _ => fun
  | [d] => { results := [.lit (.bool false)], args := [d] }
  | _ => none }
def AbortLimitsWrongFalsely : Prop := abortLimitsRow.holds Try.pinned (OpenSpec.ofChange abortLimitsWrong)

/-- 'ullagelaw03.FlightChecks': WHATEVER THE INPUT: true; the input reads as it did. -/
def flightChecksSpec : ChangeSpec := { name := "flightChecks", fn := fun _ => fun
  | [d1, d2, d3] => { results := [.lit (.bool true)], args := [d1, d2, d3] }
  | _ => none }
def flightChecksRow : OpenClaim := { program := "ytdanaclplmacgaa", sum := "b62d65f74f1e636f4e6fd7dc63622c89b59716b83abd780eac0a220eaa38d1ef", func := "ullage/ullagelaw03.FlightChecks", spec := "flightChecks", plainKeys := false, apart := false }
def FlightChecksSaid : Prop := flightChecksRow.holds Try.pinned (OpenSpec.ofChange flightChecksSpec)

/-- ITS FALSE NEIGHBOUR: 'it returns false'. Refute it at one input. -/
def flightChecksWrong : ChangeSpec := { name := "flightChecks", fn := fun _ => fun
  | [d1, d2, d3] => { results := [.lit (.bool false)], args := [d1, d2, d3] }
  | _ => none }
def FlightChecksWrongFalsely : Prop := flightChecksRow.holds Try.pinned (OpenSpec.ofChange flightChecksWrong)

/-- 'ullagelaw11.AbortPhases': WHATEVER THE INPUT: true; the input reads as it did. -/
def abortPhasesSpec : ChangeSpec := { name := "abortPhases", fn := fun _ => fun
  | [d1, d2] => { results := [.lit (.bool true)], args := [d1, d2] }
  | _ => none }
def abortPhasesRow : OpenClaim := { program := "ytdanaclplmacgaa", sum := "b62d65f74f1e636f4e6fd7dc63622c89b59716b83abd780eac0a220eaa38d1ef", func := "ullage/ullagelaw11.AbortPhases", spec := "abortPhases", unfollowed := true, recurses := true, plainKeys := false, apart := false }
def AbortPhasesSaid : Prop := abortPhasesRow.holds Try.pinned (OpenSpec.ofChange abortPhasesSpec)

/-- ITS FALSE NEIGHBOUR: 'it returns false'. Refute it at one input. -/
def abortPhasesWrong : ChangeSpec := { name := "abortPhases", fn := fun _ => fun
  | [d1, d2] => { results := [.lit (.bool false)], args := [d1, d2] }
  | _ => none }
def AbortPhasesWrongFalsely : Prop := abortPhasesRow.holds Try.pinned (OpenSpec.ofChange abortPhasesWrong)

/-- 'ullagelaw13.PostNodes': WHATEVER THE INPUT: true; the input reads as it did. -/
def postNodesSpec : ChangeSpec := { name := "postNodes", fn := fun _ => fun
  | [d1, d2] => { results := [.lit (.bool true)], args := [d1, d2] }
  | _ => none }
def postNodesRow : OpenClaim := { program := "ytdanaclplmacgaa", sum := "b62d65f74f1e636f4e6fd7dc63622c89b59716b83abd780eac0a220eaa38d1ef", func := "ullage/ullagelaw13.PostNodes", spec := "postNodes", unfollowed := true, recurses := true, plainKeys := false, apart := false }
def PostNodesSaid : Prop := postNodesRow.holds Try.pinned (OpenSpec.ofChange postNodesSpec)

/-- ITS FALSE NEIGHBOUR: 'it returns false'. Refute it at one input. -/
def postNodesWrong : ChangeSpec := { name := "postNodes", fn := fun _ => fun
  | [d1, d2] => { results := [.lit (.bool false)], args := [d1, d2] }
  | _ => none }
def PostNodesWrongFalsely : Prop := postNodesRow.holds Try.pinned (OpenSpec.ofChange postNodesWrong)

/-- 'ullagelaw04.AscentSets': WHATEVER THE INPUT: true; the input reads as it did. -/
def ascentSetsSpec : ChangeSpec := { name := "ascentSets", fn := fun _ => fun
  | [d1, d2] => { results := [.lit (.bool true)], args := [d1, d2] }
  | _ => none }
def ascentSetsRow : OpenClaim := { program := "ytdanaclplmacgaa", sum := "b62d65f74f1e636f4e6fd7dc63622c89b59716b83abd780eac0a220eaa38d1ef", func := "ullage/ullagelaw04.AscentSets", spec := "ascentSets", unfollowed := true, recurses := true, plainKeys := false, apart := false }
def AscentSetsSaid : Prop := ascentSetsRow.holds Try.pinned (OpenSpec.ofChange ascentSetsSpec)

/-- ITS FALSE NEIGHBOUR: 'it returns false'. Refute it at one input. -/
def ascentSetsWrong : ChangeSpec := { name := "ascentSets", fn := fun _ => fun
  | [d1, d2] => { results := [.lit (.bool false)], args := [d1, d2] }
  | _ => none }
def AscentSetsWrongFalsely : Prop := ascentSetsRow.holds Try.pinned (OpenSpec.ofChange ascentSetsWrong)

/-- 'ullagelaw13.PostCauses': WHATEVER THE INPUT: true; the input reads as it did. -/
def postCausesSpec : ChangeSpec := { name := "postCauses", fn := fun _ => fun
  | [d1, d2] => { results := [.lit (.bool true)], args := [d1, d2] }
  | _ => none }
def postCausesRow : OpenClaim := { program := "ytdanaclplmacgaa", sum := "b62d65f74f1e636f4e6fd7dc63622c89b59716b83abd780eac0a220eaa38d1ef", func := "ullage/ullagelaw13.PostCauses", spec := "postCauses", unfollowed := true, recurses := true, plainKeys := false, apart := false }
def PostCausesSaid : Prop := postCausesRow.holds Try.pinned (OpenSpec.ofChange postCausesSpec)

/-- ITS FALSE NEIGHBOUR: 'it returns false'. Refute it at one input. -/
def postCausesWrong : ChangeSpec := { name := "postCauses", fn := fun _ => fun
  | [d1, d2] => { results := [.lit (.bool false)], args := [d1, d2] }
  | _ => none }
def PostCausesWrongFalsely : Prop := postCausesRow.holds Try.pinned (OpenSpec.ofChange postCausesWrong)

/-- 'ullagelaw03.FlightRises': WHATEVER THE INPUT: true; the input reads as it did. -/
def flightRisesSpec : ChangeSpec := { name := "flightRises", fn := fun _ => fun
  | [d1, d2, d3, d4, d5] => { results := [.lit (.bool true)], args := [d1, d2, d3, d4, d5] }
  | _ => none }
def flightRisesRow : OpenClaim := { program := "ytdanaclplmacgaa", sum := "b62d65f74f1e636f4e6fd7dc63622c89b59716b83abd780eac0a220eaa38d1ef", func := "ullage/ullagelaw03.FlightRises", spec := "flightRises", inPlace := ["math/bits.Add64", "math/bits.Sub64"], unfollowed := true, recurses := true, named := ["math/bits.divideError", "math/bits.overflowError"], plainKeys := false, apart := false }
def FlightRisesSaid : Prop := flightRisesRow.holds Try.pinned (OpenSpec.ofChange flightRisesSpec)

/-- ITS FALSE NEIGHBOUR: 'it returns false'. Refute it at one input. -/
def flightRisesWrong : ChangeSpec := { name := "flightRises", fn := fun _ => fun
  | [d1, d2, d3, d4, d5] => { results := [.lit (.bool false)], args := [d1, d2, d3, d4, d5] }
  | _ => none }
def FlightRisesWrongFalsely : Prop := flightRisesRow.holds Try.pinned (OpenSpec.ofChange flightRisesWrong)

/-- 'ullagelaw11.AbortClears': WHATEVER THE INPUT: true; the input reads as it did. -/
def abortClearsSpec : ChangeSpec := { name := "abortClears", fn := fun _ => fun
  | [d1, d2, d3] => { results := [.lit (.bool true)], args := [d1, d2, d3] }
  | _ => none }
def abortClearsRow : OpenClaim := { program := "ytdanaclplmacgaa", sum := "b62d65f74f1e636f4e6fd7dc63622c89b59716b83abd780eac0a220eaa38d1ef", func := "ullage/ullagelaw11.AbortClears", spec := "abortClears", inPlace := ["math/bits.Sub64", "math/bits.Add64"], unfollowed := true, recurses := true, named := ["math/bits.divideError", "math/bits.overflowError"], plainKeys := false, apart := false }
def AbortClearsSaid : Prop := abortClearsRow.holds Try.pinned (OpenSpec.ofChange abortClearsSpec)

/-- ITS FALSE NEIGHBOUR: 'it returns false'. Refute it at one input. -/
def abortClearsWrong : ChangeSpec := { name := "abortClears", fn := fun _ => fun
  | [d1, d2, d3] => { results := [.lit (.bool false)], args := [d1, d2, d3] }
  | _ => none }
def AbortClearsWrongFalsely : Prop := abortClearsRow.holds Try.pinned (OpenSpec.ofChange abortClearsWrong)

/- THE SECOND FORM. 'bulk': how many values and letters a reading holds, each counted each time it is reached (what is shared counts as often as it is met; a slice's spare places count too). A statement '..UptoSaid' is the law's where the arguments, and the package variables that the reading takes, are together of bulk at most 1048576: NARROWER than '..Said'. Prove '..Said' where nothing that the law and all that it calls make is longer than what came in: it says more and counts as full. Else prove '..UptoSaid'. A law counts once. -/
mutual
def uptoBulk {H : Type} : DataW H → Nat
  | .lit (.string bytes) => bytes.length + 1
  | .lit _ => 1
  | .nil => 1
  | .ptr d => uptoBulk d + 1
  | .slice elems spare => uptoBulkAll elems + uptoBulkAll spare + 1
  | .agg parts => uptoBulkAll parts + 1
  | .iface _ d => uptoBulk d + 1
  | .map entries => uptoBulkEntries entries + 1
  | .held _ => 1
def uptoBulkAll {H : Type} : List (DataW H) → Nat
  | [] => 0
  | d :: r => uptoBulk d + uptoBulkAll r
def uptoBulkEntries {H : Type} : List (Lit × DataW H) → Nat
  | [] => 0
  | x :: r => uptoBulkEntry x + uptoBulkEntries r
def uptoBulkEntry {H : Type} : Lit × DataW H → Nat
  | (.string bytes, d) => bytes.length + uptoBulk d + 1
  | (_, d) => uptoBulk d + 1
 end
def uptoSmall : (H : Type) → List (DataW H) → Bool := fun _ ds => decide (uptoBulkAll ds ≤ 1048576)
def OpenSpec.upto (s : _root_.Go.ChangeSpec) : _root_.Go.OpenSpec := { _root_.Go.OpenSpec.ofChange s with cond := some uptoSmall }

/-- 'ullagelaw04.AscentWindows', WHERE WHAT IT READS IS OF BULK AT MOST 1048576: true; the input reads as it did. -/
def ascentWindowsUptoRow : OpenClaim := { program := "ytdanaclplmacgaa", sum := "b62d65f74f1e636f4e6fd7dc63622c89b59716b83abd780eac0a220eaa38d1ef", func := "ullage/ullagelaw04.AscentWindows", spec := "ascentWindows", plainKeys := false, apart := false, narrowed := true }
def AscentWindowsUptoSaid : Prop := ascentWindowsUptoRow.holds Try.pinned (OpenSpec.upto ascentWindowsSpec)

/-- 'ullagelaw04.AscentMeets', WHERE WHAT IT READS IS OF BULK AT MOST 1048576: true; the input reads as it did. -/
def ascentMeetsUptoRow : OpenClaim := { program := "ytdanaclplmacgaa", sum := "b62d65f74f1e636f4e6fd7dc63622c89b59716b83abd780eac0a220eaa38d1ef", func := "ullage/ullagelaw04.AscentMeets", spec := "ascentMeets", recurses := true, plainKeys := false, apart := false, narrowed := true }
def AscentMeetsUptoSaid : Prop := ascentMeetsUptoRow.holds Try.pinned (OpenSpec.upto ascentMeetsSpec)

/-- 'ullagelaw11.AbortPlans', WHERE WHAT IT READS IS OF BULK AT MOST 1048576: true; the input reads as it did. -/
def abortPlansUptoRow : OpenClaim := { program := "ytdanaclplmacgaa", sum := "b62d65f74f1e636f4e6fd7dc63622c89b59716b83abd780eac0a220eaa38d1ef", func := "ullage/ullagelaw11.AbortPlans", spec := "abortPlans", unfollowed := true, recurses := true, plainKeys := false, apart := false, narrowed := true }
def AbortPlansUptoSaid : Prop := abortPlansUptoRow.holds Try.pinned (OpenSpec.upto abortPlansSpec)

/-- 'ullagelaw11.AbortLimits', WHERE WHAT IT READS IS OF BULK AT MOST 1048576: true; the input reads as it did. -/
def abortLimitsUptoRow : OpenClaim := { program := "ytdanaclplmacgaa", sum := "b62d65f74f1e636f4e6fd7dc63622c89b59716b83abd780eac0a220eaa38d1ef", func := "ullage/ullagelaw11.AbortLimits", spec := "abortLimits", plainKeys := false, apart := false, narrowed := true }
def AbortLimitsUptoSaid : Prop := abortLimitsUptoRow.holds Try.pinned (OpenSpec.upto abortLimitsSpec)

/-- 'ullagelaw03.FlightChecks', WHERE WHAT IT READS IS OF BULK AT MOST 1048576: true; the input reads as it did. -/
def flightChecksUptoRow : OpenClaim := { program := "ytdanaclplmacgaa", sum := "b62d65f74f1e636f4e6fd7dc63622c89b59716b83abd780eac0a220eaa38d1ef", func := "ullage/ullagelaw03.FlightChecks", spec := "flightChecks", plainKeys := false, apart := false, narrowed := true }
def FlightChecksUptoSaid : Prop := flightChecksUptoRow.holds Try.pinned (OpenSpec.upto flightChecksSpec)

/-- 'ullagelaw11.AbortPhases', WHERE WHAT IT READS IS OF BULK AT MOST 1048576: true; the input reads as it did. -/
def abortPhasesUptoRow : OpenClaim := { program := "ytdanaclplmacgaa", sum := "b62d65f74f1e636f4e6fd7dc63622c89b59716b83abd780eac0a220eaa38d1ef", func := "ullage/ullagelaw11.AbortPhases", spec := "abortPhases", unfollowed := true, recurses := true, plainKeys := false, apart := false, narrowed := true }
def AbortPhasesUptoSaid : Prop := abortPhasesUptoRow.holds Try.pinned (OpenSpec.upto abortPhasesSpec)

/-- 'ullagelaw13.PostNodes', WHERE WHAT IT READS IS OF BULK AT MOST 1048576: true; the input reads as it did. -/
def postNodesUptoRow : OpenClaim := { program := "ytdanaclplmacgaa", sum := "b62d65f74f1e636f4e6fd7dc63622c89b59716b83abd780eac0a220eaa38d1ef", func := "ullage/ullagelaw13.PostNodes", spec := "postNodes", unfollowed := true, recurses := true, plainKeys := false, apart := false, narrowed := true }
def PostNodesUptoSaid : Prop := postNodesUptoRow.holds Try.pinned (OpenSpec.upto postNodesSpec)

/-- 'ullagelaw04.AscentSets', WHERE WHAT IT READS IS OF BULK AT MOST 1048576: true; the input reads as it did. -/
def ascentSetsUptoRow : OpenClaim := { program := "ytdanaclplmacgaa", sum := "b62d65f74f1e636f4e6fd7dc63622c89b59716b83abd780eac0a220eaa38d1ef", func := "ullage/ullagelaw04.AscentSets", spec := "ascentSets", unfollowed := true, recurses := true, plainKeys := false, apart := false, narrowed := true }
def AscentSetsUptoSaid : Prop := ascentSetsUptoRow.holds Try.pinned (OpenSpec.upto ascentSetsSpec)

/-- 'ullagelaw13.PostCauses', WHERE WHAT IT READS IS OF BULK AT MOST 1048576: true; the input reads as it did. -/
def postCausesUptoRow : OpenClaim := { program := "ytdanaclplmacgaa", sum := "b62d65f74f1e636f4e6fd7dc63622c89b59716b83abd780eac0a220eaa38d1ef", func := "ullage/ullagelaw13.PostCauses", spec := "postCauses", unfollowed := true, recurses := true, plainKeys := false, apart := false, narrowed := true }
def PostCausesUptoSaid : Prop := postCausesUptoRow.holds Try.pinned (OpenSpec.upto postCausesSpec)

/-- 'ullagelaw03.FlightRises', WHERE WHAT IT READS IS OF BULK AT MOST 1048576: true; the input reads as it did. -/
def flightRisesUptoRow : OpenClaim := { program := "ytdanaclplmacgaa", sum := "b62d65f74f1e636f4e6fd7dc63622c89b59716b83abd780eac0a220eaa38d1ef", func := "ullage/ullagelaw03.FlightRises", spec := "flightRises", inPlace := ["math/bits.Add64", "math/bits.Sub64"], unfollowed := true, recurses := true, named := ["math/bits.divideError", "math/bits.overflowError"], plainKeys := false, apart := false, narrowed := true }
def FlightRisesUptoSaid : Prop := flightRisesUptoRow.holds Try.pinned (OpenSpec.upto flightRisesSpec)

/-- 'ullagelaw11.AbortClears', WHERE WHAT IT READS IS OF BULK AT MOST 1048576: true; the input reads as it did. -/
def abortClearsUptoRow : OpenClaim := { program := "ytdanaclplmacgaa", sum := "b62d65f74f1e636f4e6fd7dc63622c89b59716b83abd780eac0a220eaa38d1ef", func := "ullage/ullagelaw11.AbortClears", spec := "abortClears", inPlace := ["math/bits.Sub64", "math/bits.Add64"], unfollowed := true, recurses := true, named := ["math/bits.divideError", "math/bits.overflowError"], plainKeys := false, apart := false, narrowed := true }
def AbortClearsUptoSaid : Prop := abortClearsUptoRow.holds Try.pinned (OpenSpec.upto abortClearsSpec)

end Rows
end Go.Proofs.Ytdanaclplmacgaa
