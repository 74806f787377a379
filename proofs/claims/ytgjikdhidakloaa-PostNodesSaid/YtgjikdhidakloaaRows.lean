/-
  No cell of these rows narrows 'for every input' (looked for: loops, veiled, ifaces, maps, wideKeys, modest, calm, conditions, laid).
  DERIVED. THE GIVEN ROWS OF THIS SEAT. 4 by the template 'for every input the law returns true; each argument reads behind the call as it read before'; 0 by the template 'total and deterministic' (their statements: YtgjikdhidakloaaTotals.lean).
  GIVEN WITH THE SEED: the statements are not yours to turn. If you find one false, say at which input.
  Laid BY PROGRAM, IN A SANDBOX (cutbox-rows.mjs): the forced cells as the released guide's own fill.sh prints them over the translation 2d8ef1f6f68dd52c… (all of the seat's roots in one cut). By AI agents, Wed Nov 11 2026. No macro, syntax, notation, axiom, sorry.
-/
import Derived.Test.YtgjikdhidakloaaChecked
import GoSem.Claim
import GoSem.ClaimJoined
import GoSem.ClaimMapViews
import Derived.JoinedTies
import Derived.KernelRfl
namespace Go.Proofs.Ytgjikdhidakloaa
/- THE CELL 'sum', in the pinned program and in every row, IS THE sha256 OF THE DUMP (.gsa) THAT YtgjikdhidakloaaProg.lean LOADS. Nothing in Lean hashes anything: it is a label: what it is worth is what the hold of that sum in a sandbox is worth. -/
noncomputable def Try.pinned : Pinned := { name := "ytgjikdhidakloaa", sum := "2d8ef1f6f68dd52c4b0a2fc6265587480c4d1a7b14ae7a4851d99c6b5107c7f6", checked := Try.checked }
namespace Rows
def none {H : Type} : Left H := { results := [], args := [] }

/-- 'ullagelaw11.AbortPlans': WHATEVER THE INPUT: true; the input reads as it did. -/
def abortPlansSpec : ChangeSpec := { name := "abortPlans", fn := fun _ => fun
  | [d] => { results := [.lit (.bool true)], args := [d] }
  | _ => none }
def abortPlansRow : OpenClaim := { program := "ytgjikdhidakloaa", sum := "2d8ef1f6f68dd52c4b0a2fc6265587480c4d1a7b14ae7a4851d99c6b5107c7f6", func := "ullage/ullagelaw11.AbortPlans", spec := "abortPlans", unfollowed := true, recurses := true, plainKeys := false, apart := false }
def AbortPlansSaid : Prop := abortPlansRow.holds Try.pinned (OpenSpec.ofChange abortPlansSpec)

/-- ITS FALSE NEIGHBOUR: 'it returns false'. Refute it at one input. -/
def abortPlansWrong : ChangeSpec := { name := "abortPlans", fn := fun _ => fun
  | [d] => { results := [.lit (.bool false)], args := [d] }
  | _ => none }
def AbortPlansWrongFalsely : Prop := abortPlansRow.holds Try.pinned (OpenSpec.ofChange abortPlansWrong)

/-- 'ullagelaw13.PostNodes': WHATEVER THE INPUT: true; the input reads as it did. -/
def postNodesSpec : ChangeSpec := { name := "postNodes", fn := fun _ => fun
  | [d1, d2] => { results := [.lit (.bool true)], args := [d1, d2] }
  | _ => none }
def postNodesRow : OpenClaim := { program := "ytgjikdhidakloaa", sum := "2d8ef1f6f68dd52c4b0a2fc6265587480c4d1a7b14ae7a4851d99c6b5107c7f6", func := "ullage/ullagelaw13.PostNodes", spec := "postNodes", unfollowed := true, recurses := true, plainKeys := false, apart := false }
def PostNodesSaid : Prop := postNodesRow.holds Try.pinned (OpenSpec.ofChange postNodesSpec)

/-- ITS FALSE NEIGHBOUR: 'it returns false'. Refute it at one input. -/
def postNodesWrong : ChangeSpec := { name := "postNodes", fn := fun _ => fun
  | [d1, d2] => { results := [.lit (.bool false)], args := [d1, d2] }
  | _ => none }
def PostNodesWrongFalsely : Prop := postNodesRow.holds Try.pinned (OpenSpec.ofChange postNodesWrong)

/-- 'ullagelaw04.AscentSets': WHATEVER THE INPUT: true; the input reads as it did. -/
def ascentSetsSpec : ChangeSpec := { name := "ascentSets", fn := fun _ => fun
  | [d1, d2] => { results := [.lit (.bool true)], args := [d1, d2] }
  | _ => none }
def ascentSetsRow : OpenClaim := { program := "ytgjikdhidakloaa", sum := "2d8ef1f6f68dd52c4b0a2fc6265587480c4d1a7b14ae7a4851d99c6b5107c7f6", func := "ullage/ullagelaw04.AscentSets", spec := "ascentSets", unfollowed := true, recurses := true, plainKeys := false, apart := false }
def AscentSetsSaid : Prop := ascentSetsRow.holds Try.pinned (OpenSpec.ofChange ascentSetsSpec)

/-- ITS FALSE NEIGHBOUR: 'it returns false'. Refute it at one input. -/
def ascentSetsWrong : ChangeSpec := { name := "ascentSets", fn := fun _ => fun
  | [d1, d2] => { results := [.lit (.bool false)], args := [d1, d2] }
  | _ => none }
def AscentSetsWrongFalsely : Prop := ascentSetsRow.holds Try.pinned (OpenSpec.ofChange ascentSetsWrong)

/-- 'ullagelaw13.PostCauses': WHATEVER THE INPUT: true; the input reads as it did. -/
def postCausesSpec : ChangeSpec := { name := "postCauses", fn := fun _ => fun
  | [d1, d2] => { results := [.lit (.bool true)], args := [d1, d2] }
  | _ => none }
def postCausesRow : OpenClaim := { program := "ytgjikdhidakloaa", sum := "2d8ef1f6f68dd52c4b0a2fc6265587480c4d1a7b14ae7a4851d99c6b5107c7f6", func := "ullage/ullagelaw13.PostCauses", spec := "postCauses", unfollowed := true, recurses := true, plainKeys := false, apart := false }
def PostCausesSaid : Prop := postCausesRow.holds Try.pinned (OpenSpec.ofChange postCausesSpec)

/-- ITS FALSE NEIGHBOUR: 'it returns false'. Refute it at one input. -/
def postCausesWrong : ChangeSpec := { name := "postCauses", fn := fun _ => fun
  | [d1, d2] => { results := [.lit (.bool false)], args := [d1, d2] }
  | _ => none }
def PostCausesWrongFalsely : Prop := postCausesRow.holds Try.pinned (OpenSpec.ofChange postCausesWrong)

/- THE SECOND FORM. 'bulk': how many values and letters a reading holds, each counted each time it is reached (what is shared counts as often as it is met; a slice's spare places count too). A statement '..UptoSaid' is the law's where the arguments, and the package variables that the reading takes, are together of bulk at most 1048576: NARROWER than '..Said'. Prove '..Said' where nothing that the law and all that it calls make is longer than what came in: it says more and counts as full. Else prove '..UptoSaid'. A law counts once. -/
mutual
def uptoBulk {H : Type} : DataW H → Nat
  | .lit (.string bytes) => bytes.length + 1
  | .lit _ => 1
  | .nil => 1
  | .ptr d => uptoBulk d + 1
  | .slice elems spare => uptoBulkAll elems + uptoBulkAll spare + 1
  | .agg parts => uptoBulkAll parts + 1
  | .iface _ d => uptoBulk d + 1
  | .map entries => uptoBulkEntries entries + 1
  | .held _ => 1
def uptoBulkAll {H : Type} : List (DataW H) → Nat
  | [] => 0
  | d :: r => uptoBulk d + uptoBulkAll r
def uptoBulkEntries {H : Type} : List (Lit × DataW H) → Nat
  | [] => 0
  | x :: r => uptoBulkEntry x + uptoBulkEntries r
def uptoBulkEntry {H : Type} : Lit × DataW H → Nat
  | (.string bytes, d) => bytes.length + uptoBulk d + 1
  | (_, d) => uptoBulk d + 1
 end
def uptoSmall : (H : Type) → List (DataW H) → Bool := fun _ ds => decide (uptoBulkAll ds ≤ 1048576)
def OpenSpec.upto (s : _root_.Go.ChangeSpec) : _root_.Go.OpenSpec := { _root_.Go.OpenSpec.ofChange s with cond := some uptoSmall }

/-- 'ullagelaw11.AbortPlans', WHERE WHAT IT READS IS OF BULK AT MOST 1048576: true; the input reads as it did. -/
def abortPlansUptoRow : OpenClaim := { program := "ytgjikdhidakloaa", sum := "2d8ef1f6f68dd52c4b0a2fc6265587480c4d1a7b14ae7a4851d99c6b5107c7f6", func := "ullage/ullagelaw11.AbortPlans", spec := "abortPlans", unfollowed := true, recurses := true, plainKeys := false, apart := false, narrowed := true }
def AbortPlansUptoSaid : Prop := abortPlansUptoRow.holds Try.pinned (OpenSpec.upto abortPlansSpec)

/-- 'ullagelaw13.PostNodes', WHERE WHAT IT READS IS OF BULK AT MOST 1048576: true; the input reads as it did. -/
def postNodesUptoRow : OpenClaim := { program := "ytgjikdhidakloaa", sum := "2d8ef1f6f68dd52c4b0a2fc6265587480c4d1a7b14ae7a4851d99c6b5107c7f6", func := "ullage/ullagelaw13.PostNodes", spec := "postNodes", unfollowed := true, recurses := true, plainKeys := false, apart := false, narrowed := true }
def PostNodesUptoSaid : Prop := postNodesUptoRow.holds Try.pinned (OpenSpec.upto postNodesSpec)

/-- 'ullagelaw04.AscentSets', WHERE WHAT IT READS IS OF BULK AT MOST 1048576: true; the input reads as it did. -/
def ascentSetsUptoRow : OpenClaim := { program := "ytgjikdhidakloaa", sum := "2d8ef1f6f68dd52c4b0a2fc6265587480c4d1a7b14ae7a4851d99c6b5107c7f6", func := "ullage/ullagelaw04.AscentSets", spec := "ascentSets", unfollowed := true, recurses := true, plainKeys := false, apart := false, narrowed := true }
def AscentSetsUptoSaid : Prop := ascentSetsUptoRow.holds Try.pinned (OpenSpec.upto ascentSetsSpec)

/-- 'ullagelaw13.PostCauses', WHERE WHAT IT READS IS OF BULK AT MOST 1048576: true; the input reads as it did. -/
def postCausesUptoRow : OpenClaim := { program := "ytgjikdhidakloaa", sum := "2d8ef1f6f68dd52c4b0a2fc6265587480c4d1a7b14ae7a4851d99c6b5107c7f6", func := "ullage/ullagelaw13.PostCauses", spec := "postCauses", unfollowed := true, recurses := true, plainKeys := false, apart := false, narrowed := true }
def PostCausesUptoSaid : Prop := postCausesUptoRow.holds Try.pinned (OpenSpec.upto postCausesSpec)

end Rows
end Go.Proofs.Ytgjikdhidakloaa
