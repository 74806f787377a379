/-
  No cell of these rows narrows 'for every input' (looked for: loops, veiled, ifaces, maps, wideKeys, modest, calm, conditions, laid).
  DERIVED. THE GIVEN ROWS OF THIS SEAT. 3 by the template 'for every input the law returns true; each argument reads behind the call as it read before'; 0 by the template 'total and deterministic' (their statements: YtjnednehcjfkmaaTotals.lean).
  GIVEN WITH THE SEED: the statements are not yours to turn. If you find one false, say at which input.
  Laid BY PROGRAM, IN A SANDBOX (cutbox-rows.mjs): the forced cells as the released guide's own fill.sh prints them over the translation 31daeb72c06eca7a… (all of the seat's roots in one cut). By AI agents, Wed Nov 11 2026. No macro, syntax, notation, axiom, sorry.
-/
import Derived.Test.YtjnednehcjfkmaaChecked
import GoSem.Claim
import GoSem.ClaimJoined
import GoSem.ClaimMapViews
import Derived.JoinedTies
import Derived.KernelRfl
namespace Go.Proofs.Ytjnednehcjfkmaa
/- THE CELL 'sum', in the pinned program and in every row, IS THE sha256 OF THE DUMP (.gsa) THAT YtjnednehcjfkmaaProg.lean LOADS. Nothing in Lean hashes anything: it is a label: what it is worth is what the hold of that sum in a sandbox is worth. -/
noncomputable def Try.pinned : Pinned := { name := "ytjnednehcjfkmaa", sum := "31daeb72c06eca7aecf196274b4f2153c189ca6ff285d7fca82e0828a91cb7a0", checked := Try.checked }
namespace Rows
def none {H : Type} : Left H := { results := [], args := [] }

/-- 'ullagelaw11.AbortFewest': WHATEVER THE INPUT: true; the input reads as it did. -/
def abortFewestSpec : ChangeSpec := { name := "abortFewest", fn := fun _ => fun
  | [d1, d2] => { results := [.lit (.bool true)], args := [d1, d2] }
  | _ => none }
def abortFewestRow : OpenClaim := { program := "ytjnednehcjfkmaa", sum := "31daeb72c06eca7aecf196274b4f2153c189ca6ff285d7fca82e0828a91cb7a0", func := "ullage/ullagelaw11.AbortFewest", spec := "abortFewest", inPlace := ["math/bits.Sub64", "math/bits.Add64"], unfollowed := true, recurses := true, named := ["math/bits.divideError", "math/bits.overflowError"], plainKeys := false, apart := false }
def AbortFewestSaid : Prop := abortFewestRow.holds Try.pinned (OpenSpec.ofChange abortFewestSpec)

/-- ITS FALSE NEIGHBOUR: 'it returns false'. Refute it at one input. -/
def abortFewestWrong : ChangeSpec := { name := "abortFewest", fn := fun _ => fun
  | [d1, d2] => { results := [.lit (.bool false)], args := [d1, d2] }
  | _ => none }
def AbortFewestWrongFalsely : Prop := abortFewestRow.holds Try.pinned (OpenSpec.ofChange abortFewestWrong)

/-- 'ullagelaw11.AbortKeeps': WHATEVER THE INPUT: true; the input reads as it did. -/
def abortKeepsSpec : ChangeSpec := { name := "abortKeeps", fn := fun _ => fun
  | [d1, d2, d3, d4, d5] => { results := [.lit (.bool true)], args := [d1, d2, d3, d4, d5] }
  | _ => none }
def abortKeepsRow : OpenClaim := { program := "ytjnednehcjfkmaa", sum := "31daeb72c06eca7aecf196274b4f2153c189ca6ff285d7fca82e0828a91cb7a0", func := "ullage/ullagelaw11.AbortKeeps", spec := "abortKeeps", inPlace := ["math/bits.Sub64", "math/bits.Add64"], unfollowed := true, recurses := true, named := ["math/bits.divideError", "math/bits.overflowError"], plainKeys := false, apart := false }
def AbortKeepsSaid : Prop := abortKeepsRow.holds Try.pinned (OpenSpec.ofChange abortKeepsSpec)

/-- ITS FALSE NEIGHBOUR: 'it returns false'. Refute it at one input. -/
def abortKeepsWrong : ChangeSpec := { name := "abortKeeps", fn := fun _ => fun
  | [d1, d2, d3, d4, d5] => { results := [.lit (.bool false)], args := [d1, d2, d3, d4, d5] }
  | _ => none }
def AbortKeepsWrongFalsely : Prop := abortKeepsRow.holds Try.pinned (OpenSpec.ofChange abortKeepsWrong)

/-- 'ullagelaw11.AbortWhole': WHATEVER THE INPUT: true; the input reads as it did. -/
def abortWholeSpec : ChangeSpec := { name := "abortWhole", fn := fun _ => fun
  | [d1, d2] => { results := [.lit (.bool true)], args := [d1, d2] }
  | _ => none }
def abortWholeRow : OpenClaim := { program := "ytjnednehcjfkmaa", sum := "31daeb72c06eca7aecf196274b4f2153c189ca6ff285d7fca82e0828a91cb7a0", func := "ullage/ullagelaw11.AbortWhole", spec := "abortWhole", inPlace := ["math/bits.Sub64", "math/bits.Add64"], unfollowed := true, recurses := true, named := ["math/bits.divideError", "math/bits.overflowError"], plainKeys := false, apart := false }
def AbortWholeSaid : Prop := abortWholeRow.holds Try.pinned (OpenSpec.ofChange abortWholeSpec)

/-- ITS FALSE NEIGHBOUR: 'it returns false'. Refute it at one input. -/
def abortWholeWrong : ChangeSpec := { name := "abortWhole", fn := fun _ => fun
  | [d1, d2] => { results := [.lit (.bool false)], args := [d1, d2] }
  | _ => none }
def AbortWholeWrongFalsely : Prop := abortWholeRow.holds Try.pinned (OpenSpec.ofChange abortWholeWrong)

/- THE SECOND FORM. 'bulk': how many values and letters a reading holds, each counted each time it is reached (what is shared counts as often as it is met; a slice's spare places count too). A statement '..UptoSaid' is the law's where the arguments, and the package variables that the reading takes, are together of bulk at most 1048576: NARROWER than '..Said'. Prove '..Said' where nothing that the law and all that it calls make is longer than what came in: it says more and counts as full. Else prove '..UptoSaid'. A law counts once. -/
mutual
def uptoBulk {H : Type} : DataW H → Nat
  | .lit (.string bytes) => bytes.length + 1
  | .lit _ => 1
  | .nil => 1
  | .ptr d => uptoBulk d + 1
  | .slice elems spare => uptoBulkAll elems + uptoBulkAll spare + 1
  | .agg parts => uptoBulkAll parts + 1
  | .iface _ d => uptoBulk d + 1
  | .map entries => uptoBulkEntries entries + 1
  | .held _ => 1
def uptoBulkAll {H : Type} : List (DataW H) → Nat
  | [] => 0
  | d :: r => uptoBulk d + uptoBulkAll r
def uptoBulkEntries {H : Type} : List (Lit × DataW H) → Nat
  | [] => 0
  | x :: r => uptoBulkEntry x + uptoBulkEntries r
def uptoBulkEntry {H : Type} : Lit × DataW H → Nat
  | (.string bytes, d) => bytes.length + uptoBulk d + 1
  | (_, d) => uptoBulk d + 1
 end
def uptoSmall : (H : Type) → List (DataW H) → Bool := fun _ ds => decide (uptoBulkAll ds ≤ 1048576)
def OpenSpec.upto (s : _root_.Go.ChangeSpec) : _root_.Go.OpenSpec := { _root_.Go.OpenSpec.ofChange s with cond := some uptoSmall }

/-- 'ullagelaw11.AbortFewest', WHERE WHAT IT READS IS OF BULK AT MOST 1048576: true; the input reads as it did. -/
def abortFewestUptoRow : OpenClaim := { program := "ytjnednehcjfkmaa", sum := "31daeb72c06eca7aecf196274b4f2153c189ca6ff285d7fca82e0828a91cb7a0", func := "ullage/ullagelaw11.AbortFewest", spec := "abortFewest", inPlace := ["math/bits.Sub64", "math/bits.Add64"], unfollowed := true, recurses := true, named := ["math/bits.divideError", "math/bits.overflowError"], plainKeys := false, apart := false, narrowed := true }
def AbortFewestUptoSaid : Prop := abortFewestUptoRow.holds Try.pinned (OpenSpec.upto abortFewestSpec)

/-- 'ullagelaw11.AbortKeeps', WHERE WHAT IT READS IS OF BULK AT MOST 1048576: true; the input reads as it did. -/
def abortKeepsUptoRow : OpenClaim := { program := "ytjnednehcjfkmaa", sum := "31daeb72c06eca7aecf196274b4f2153c189ca6ff285d7fca82e0828a91cb7a0", func := "ullage/ullagelaw11.AbortKeeps", spec := "abortKeeps", inPlace := ["math/bits.Sub64", "math/bits.Add64"], unfollowed := true, recurses := true, named := ["math/bits.divideError", "math/bits.overflowError"], plainKeys := false, apart := false, narrowed := true }
def AbortKeepsUptoSaid : Prop := abortKeepsUptoRow.holds Try.pinned (OpenSpec.upto abortKeepsSpec)

/-- 'ullagelaw11.AbortWhole', WHERE WHAT IT READS IS OF BULK AT MOST 1048576: true; the input reads as it did. -/
def abortWholeUptoRow : OpenClaim := { program := "ytjnednehcjfkmaa", sum := "31daeb72c06eca7aecf196274b4f2153c189ca6ff285d7fca82e0828a91cb7a0", func := "ullage/ullagelaw11.AbortWhole", spec := "abortWhole", inPlace := ["math/bits.Sub64", "math/bits.Add64"], unfollowed := true, recurses := true, named := ["math/bits.divideError", "math/bits.overflowError"], plainKeys := false, apart := false, narrowed := true }
def AbortWholeUptoSaid : Prop := abortWholeUptoRow.holds Try.pinned (OpenSpec.upto abortWholeSpec)

end Rows
end Go.Proofs.Ytjnednehcjfkmaa
