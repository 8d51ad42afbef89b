/-
  No cell of these rows narrows 'for every input' (looked for: loops, veiled, ifaces, maps, wideKeys, modest, calm, conditions, laid).
  DERIVED. THE GIVEN ROWS OF THIS SEAT. 4 by the template 'for every input the law returns true; each argument reads behind the call as it read before'; 0 by the template 'total and deterministic' (their statements: YtknbjfefeeojlaaTotals.lean).
  GIVEN WITH THE SEED: the statements are not yours to turn. If you find one false, say at which input.
  Laid BY PROGRAM, IN A SANDBOX (cutbox-rows.mjs): the forced cells as the released guide's own fill.sh prints them over the translation 908cfe74f5c896e0… (all of the seat's roots in one cut). By AI agents, Wed Nov 11 2026. No macro, syntax, notation, axiom, sorry.
-/
import Derived.Test.YtknbjfefeeojlaaChecked
import GoSem.Claim
import GoSem.ClaimJoined
import GoSem.ClaimMapViews
import Derived.JoinedTies
import Derived.KernelRfl
namespace Go.Proofs.Ytknbjfefeeojlaa
/- THE CELL 'sum', in the pinned program and in every row, IS THE sha256 OF THE DUMP (.gsa) THAT YtknbjfefeeojlaaProg.lean LOADS. Nothing in Lean hashes anything: it is a label: what it is worth is what the hold of that sum in a sandbox is worth. -/
noncomputable def Try.pinned : Pinned := { name := "ytknbjfefeeojlaa", sum := "908cfe74f5c896e030616001338ba0e29106e16386d1cb1a028f6d5d36288c59", checked := Try.checked }
namespace Rows
def none {H : Type} : Left H := { results := [], args := [] }

/-- 'pylonlaw04.MatExamples': WHATEVER THE INPUT: true; the input reads as it did. -/
def matExamplesSpec : ChangeSpec := { name := "matExamples", fn := fun _ => fun
  | [] => { results := [.lit (.bool true)], args := [] }
  | _ => none }
def matExamplesRow : OpenClaim := { program := "ytknbjfefeeojlaa", sum := "908cfe74f5c896e030616001338ba0e29106e16386d1cb1a028f6d5d36288c59", func := "pylon/pylonlaw04.MatExamples", spec := "matExamples", unfollowed := true, recurses := true, apart := false }
def MatExamplesSaid : Prop := matExamplesRow.holds Try.pinned (OpenSpec.ofChange matExamplesSpec)

/-- ITS FALSE NEIGHBOUR: 'it returns false'. Refute it at one input. -/
def matExamplesWrong : ChangeSpec := { name := "matExamples", fn := fun _ => fun
  | [] => { results := [.lit (.bool false)], args := [] }
  | _ => none }
def MatExamplesWrongFalsely : Prop := matExamplesRow.holds Try.pinned (OpenSpec.ofChange matExamplesWrong)

/-- 'pylonlaw04.MatLimit': WHATEVER THE INPUT: true; the input reads as it did. -/
def matLimitSpec : ChangeSpec := { name := "matLimit", fn := fun _ => fun
  | [d1, d2] => { results := [.lit (.bool true)], args := [d1, d2] }
  | _ => none }
def matLimitRow : OpenClaim := { program := "ytknbjfefeeojlaa", sum := "908cfe74f5c896e030616001338ba0e29106e16386d1cb1a028f6d5d36288c59", func := "pylon/pylonlaw04.MatLimit", spec := "matLimit", unfollowed := true, recurses := true, apart := false }
def MatLimitSaid : Prop := matLimitRow.holds Try.pinned (OpenSpec.ofChange matLimitSpec)

/-- ITS FALSE NEIGHBOUR: 'it returns false'. Refute it at one input. -/
def matLimitWrong : ChangeSpec := { name := "matLimit", fn := fun _ => fun
  | [d1, d2] => { results := [.lit (.bool false)], args := [d1, d2] }
  | _ => none }
def MatLimitWrongFalsely : Prop := matLimitRow.holds Try.pinned (OpenSpec.ofChange matLimitWrong)

/-- 'pylonlaw04.MatColumns': WHATEVER THE INPUT: true; the input reads as it did. -/
def matColumnsSpec : ChangeSpec := { name := "matColumns", fn := fun _ => fun
  | [d1, d2, d3] => { results := [.lit (.bool true)], args := [d1, d2, d3] }
  | _ => none }
def matColumnsRow : OpenClaim := { program := "ytknbjfefeeojlaa", sum := "908cfe74f5c896e030616001338ba0e29106e16386d1cb1a028f6d5d36288c59", func := "pylon/pylonlaw04.MatColumns", spec := "matColumns", unfollowed := true, recurses := true, apart := false }
def MatColumnsSaid : Prop := matColumnsRow.holds Try.pinned (OpenSpec.ofChange matColumnsSpec)

/-- ITS FALSE NEIGHBOUR: 'it returns false'. Refute it at one input. -/
def matColumnsWrong : ChangeSpec := { name := "matColumns", fn := fun _ => fun
  | [d1, d2, d3] => { results := [.lit (.bool false)], args := [d1, d2, d3] }
  | _ => none }
def MatColumnsWrongFalsely : Prop := matColumnsRow.holds Try.pinned (OpenSpec.ofChange matColumnsWrong)

/-- 'pylonlaw07.TableauExamples': WHATEVER THE INPUT: true; the input reads as it did. -/
def tableauExamplesSpec : ChangeSpec := { name := "tableauExamples", fn := fun _ => fun
  | [] => { results := [.lit (.bool true)], args := [] }
  | _ => none }
def tableauExamplesRow : OpenClaim := { program := "ytknbjfefeeojlaa", sum := "908cfe74f5c896e030616001338ba0e29106e16386d1cb1a028f6d5d36288c59", func := "pylon/pylonlaw07.TableauExamples", spec := "tableauExamples", unfollowed := true, recurses := true, apart := false }
def TableauExamplesSaid : Prop := tableauExamplesRow.holds Try.pinned (OpenSpec.ofChange tableauExamplesSpec)

/-- ITS FALSE NEIGHBOUR: 'it returns false'. Refute it at one input. -/
def tableauExamplesWrong : ChangeSpec := { name := "tableauExamples", fn := fun _ => fun
  | [] => { results := [.lit (.bool false)], args := [] }
  | _ => none }
def TableauExamplesWrongFalsely : Prop := tableauExamplesRow.holds Try.pinned (OpenSpec.ofChange tableauExamplesWrong)

/- THE SECOND FORM. 'bulk': how many values and letters a reading holds, each counted each time it is reached (what is shared counts as often as it is met; a slice's spare places count too). A statement '..UptoSaid' is the law's where the arguments, and the package variables that the reading takes, are together of bulk at most 1048576: NARROWER than '..Said'. Prove '..Said' where nothing that the law and all that it calls make is longer than what came in: it says more and counts as full. Else prove '..UptoSaid'. A law counts once. -/
mutual
def uptoBulk {H : Type} : DataW H → Nat
  | .lit (.string bytes) => bytes.length + 1
  | .lit _ => 1
  | .nil => 1
  | .ptr d => uptoBulk d + 1
  | .slice elems spare => uptoBulkAll elems + uptoBulkAll spare + 1
  | .agg parts => uptoBulkAll parts + 1
  | .iface _ d => uptoBulk d + 1
  | .map entries => uptoBulkEntries entries + 1
  | .held _ => 1
def uptoBulkAll {H : Type} : List (DataW H) → Nat
  | [] => 0
  | d :: r => uptoBulk d + uptoBulkAll r
def uptoBulkEntries {H : Type} : List (Lit × DataW H) → Nat
  | [] => 0
  | x :: r => uptoBulkEntry x + uptoBulkEntries r
def uptoBulkEntry {H : Type} : Lit × DataW H → Nat
  | (.string bytes, d) => bytes.length + uptoBulk d + 1
  | (_, d) => uptoBulk d + 1
 end
def uptoSmall : (H : Type) → List (DataW H) → Bool := fun _ ds => decide (uptoBulkAll ds ≤ 1048576)
def OpenSpec.upto (s : _root_.Go.ChangeSpec) : _root_.Go.OpenSpec := { _root_.Go.OpenSpec.ofChange s with cond := some uptoSmall }

/-- 'pylonlaw04.MatExamples', WHERE WHAT IT READS IS OF BULK AT MOST 1048576: true; the input reads as it did. -/
def matExamplesUptoRow : OpenClaim := { program := "ytknbjfefeeojlaa", sum := "908cfe74f5c896e030616001338ba0e29106e16386d1cb1a028f6d5d36288c59", func := "pylon/pylonlaw04.MatExamples", spec := "matExamples", unfollowed := true, recurses := true, apart := false, narrowed := true }
def MatExamplesUptoSaid : Prop := matExamplesUptoRow.holds Try.pinned (OpenSpec.upto matExamplesSpec)

/-- 'pylonlaw04.MatLimit', WHERE WHAT IT READS IS OF BULK AT MOST 1048576: true; the input reads as it did. -/
def matLimitUptoRow : OpenClaim := { program := "ytknbjfefeeojlaa", sum := "908cfe74f5c896e030616001338ba0e29106e16386d1cb1a028f6d5d36288c59", func := "pylon/pylonlaw04.MatLimit", spec := "matLimit", unfollowed := true, recurses := true, apart := false, narrowed := true }
def MatLimitUptoSaid : Prop := matLimitUptoRow.holds Try.pinned (OpenSpec.upto matLimitSpec)

/-- 'pylonlaw04.MatColumns', WHERE WHAT IT READS IS OF BULK AT MOST 1048576: true; the input reads as it did. -/
def matColumnsUptoRow : OpenClaim := { program := "ytknbjfefeeojlaa", sum := "908cfe74f5c896e030616001338ba0e29106e16386d1cb1a028f6d5d36288c59", func := "pylon/pylonlaw04.MatColumns", spec := "matColumns", unfollowed := true, recurses := true, apart := false, narrowed := true }
def MatColumnsUptoSaid : Prop := matColumnsUptoRow.holds Try.pinned (OpenSpec.upto matColumnsSpec)

/-- 'pylonlaw07.TableauExamples', WHERE WHAT IT READS IS OF BULK AT MOST 1048576: true; the input reads as it did. -/
def tableauExamplesUptoRow : OpenClaim := { program := "ytknbjfefeeojlaa", sum := "908cfe74f5c896e030616001338ba0e29106e16386d1cb1a028f6d5d36288c59", func := "pylon/pylonlaw07.TableauExamples", spec := "tableauExamples", unfollowed := true, recurses := true, apart := false, narrowed := true }
def TableauExamplesUptoSaid : Prop := tableauExamplesUptoRow.holds Try.pinned (OpenSpec.upto tableauExamplesSpec)

end Rows
end Go.Proofs.Ytknbjfefeeojlaa
