/-
  No cell of these rows narrows 'for every input' (looked for: loops, veiled, ifaces, maps, wideKeys, modest, calm, conditions, laid).
  DERIVED. THE GIVEN ROWS OF THIS SEAT. 10 by the template 'for every input the law returns true; each argument reads behind the call as it read before'; 0 by the template 'total and deterministic' (their statements: YtknbjfefeeojlaaGreatTotals.lean).
  GIVEN WITH THE SEED: the statements are not yours to turn. If you find one false, say at which input.
  Laid BY PROGRAM, IN A SANDBOX (cutbox-rows.mjs): the forced cells as the released guide's own fill.sh prints them over the translation fc885aecfc0a1417… (all of the seat's roots in one cut). By AI agents, Wed Nov 11 2026. No macro, syntax, notation, axiom, sorry.
-/
import Derived.Test.YtknbjfefeeojlaaGreatChecked
import GoSem.Claim
import GoSem.ClaimJoined
import GoSem.ClaimMapViews
import Derived.JoinedTies
import Derived.KernelRfl
namespace Go.Proofs.YtknbjfefeeojlaaGreat
/- THE CELL 'sum', in the pinned program and in every row, IS THE sha256 OF THE DUMP (.gsa) THAT YtknbjfefeeojlaaGreatProg.lean LOADS. Nothing in Lean hashes anything: it is a label: what it is worth is what the hold of that sum in a sandbox is worth. -/
noncomputable def Tryz.pinned : Pinned := { name := "ytknbjfefeeojlaagreat", sum := "fc885aecfc0a1417521480eb84d68ff64582981ef4eee027ab846f2f6c88d59b", checked := Tryz.checked }
namespace Rows
def none {H : Type} : Left H := { results := [], args := [] }

/-- 'pylonlaw07.TableauEquations': WHATEVER THE INPUT: true; the input reads as it did. -/
def tableauEquationsSpec : ChangeSpec := { name := "tableauEquations", fn := fun _ => fun
  | [d1, d2, d3] => { results := [.lit (.bool true)], args := [d1, d2, d3] }
  | _ => none }
def tableauEquationsRow : OpenClaim := { program := "ytknbjfefeeojlaagreat", sum := "fc885aecfc0a1417521480eb84d68ff64582981ef4eee027ab846f2f6c88d59b", func := "pylon/pylonlaw07.TableauEquations", spec := "tableauEquations", unfollowed := true, recurses := true, apart := false }
def TableauEquationsSaid : Prop := tableauEquationsRow.holds Tryz.pinned (OpenSpec.ofChange tableauEquationsSpec)

/-- ITS FALSE NEIGHBOUR: 'it returns false'. Refute it at one input. -/
def tableauEquationsWrong : ChangeSpec := { name := "tableauEquations", fn := fun _ => fun
  | [d1, d2, d3] => { results := [.lit (.bool false)], args := [d1, d2, d3] }
  | _ => none }
def TableauEquationsWrongFalsely : Prop := tableauEquationsRow.holds Tryz.pinned (OpenSpec.ofChange tableauEquationsWrong)

/-- 'pylonlaw04.MatMatches': WHATEVER THE INPUT: true; the input reads as it did. -/
def matMatchesSpec : ChangeSpec := { name := "matMatches", fn := fun _ => fun
  | [d1, d2, d3, d4, d5, d6] => { results := [.lit (.bool true)], args := [d1, d2, d3, d4, d5, d6] }
  | _ => none }
def matMatchesRow : OpenClaim := { program := "ytknbjfefeeojlaagreat", sum := "fc885aecfc0a1417521480eb84d68ff64582981ef4eee027ab846f2f6c88d59b", func := "pylon/pylonlaw04.MatMatches", spec := "matMatches", unfollowed := true, recurses := true, apart := false }
def MatMatchesSaid : Prop := matMatchesRow.holds Tryz.pinned (OpenSpec.ofChange matMatchesSpec)

/-- ITS FALSE NEIGHBOUR: 'it returns false'. Refute it at one input. -/
def matMatchesWrong : ChangeSpec := { name := "matMatches", fn := fun _ => fun
  | [d1, d2, d3, d4, d5, d6] => { results := [.lit (.bool false)], args := [d1, d2, d3, d4, d5, d6] }
  | _ => none }
def MatMatchesWrongFalsely : Prop := matMatchesRow.holds Tryz.pinned (OpenSpec.ofChange matMatchesWrong)

/-- 'pylonlaw05.SolveMatches': WHATEVER THE INPUT: true; the input reads as it did. -/
def solveMatchesSpec : ChangeSpec := { name := "solveMatches", fn := fun _ => fun
  | [d1, d2] => { results := [.lit (.bool true)], args := [d1, d2] }
  | _ => none }
def solveMatchesRow : OpenClaim := { program := "ytknbjfefeeojlaagreat", sum := "fc885aecfc0a1417521480eb84d68ff64582981ef4eee027ab846f2f6c88d59b", func := "pylon/pylonlaw05.SolveMatches", spec := "solveMatches", unfollowed := true, recurses := true, apart := false }
def SolveMatchesSaid : Prop := solveMatchesRow.holds Tryz.pinned (OpenSpec.ofChange solveMatchesSpec)

/-- ITS FALSE NEIGHBOUR: 'it returns false'. Refute it at one input. -/
def solveMatchesWrong : ChangeSpec := { name := "solveMatches", fn := fun _ => fun
  | [d1, d2] => { results := [.lit (.bool false)], args := [d1, d2] }
  | _ => none }
def SolveMatchesWrongFalsely : Prop := solveMatchesRow.holds Tryz.pinned (OpenSpec.ofChange solveMatchesWrong)

/-- 'pylonlaw05.SolveExamples': WHATEVER THE INPUT: true; the input reads as it did. -/
def solveExamplesSpec : ChangeSpec := { name := "solveExamples", fn := fun _ => fun
  | [] => { results := [.lit (.bool true)], args := [] }
  | _ => none }
def solveExamplesRow : OpenClaim := { program := "ytknbjfefeeojlaagreat", sum := "fc885aecfc0a1417521480eb84d68ff64582981ef4eee027ab846f2f6c88d59b", func := "pylon/pylonlaw05.SolveExamples", spec := "solveExamples", unfollowed := true, recurses := true, apart := false }
def SolveExamplesSaid : Prop := solveExamplesRow.holds Tryz.pinned (OpenSpec.ofChange solveExamplesSpec)

/-- ITS FALSE NEIGHBOUR: 'it returns false'. Refute it at one input. -/
def solveExamplesWrong : ChangeSpec := { name := "solveExamples", fn := fun _ => fun
  | [] => { results := [.lit (.bool false)], args := [] }
  | _ => none }
def SolveExamplesWrongFalsely : Prop := solveExamplesRow.holds Tryz.pinned (OpenSpec.ofChange solveExamplesWrong)

/-- 'pylonlaw05.SolveReduceMatches': WHATEVER THE INPUT: true; the input reads as it did. -/
def solveReduceMatchesSpec : ChangeSpec := { name := "solveReduceMatches", fn := fun _ => fun
  | [d] => { results := [.lit (.bool true)], args := [d] }
  | _ => none }
def solveReduceMatchesRow : OpenClaim := { program := "ytknbjfefeeojlaagreat", sum := "fc885aecfc0a1417521480eb84d68ff64582981ef4eee027ab846f2f6c88d59b", func := "pylon/pylonlaw05.SolveReduceMatches", spec := "solveReduceMatches", unfollowed := true, recurses := true, apart := false }
def SolveReduceMatchesSaid : Prop := solveReduceMatchesRow.holds Tryz.pinned (OpenSpec.ofChange solveReduceMatchesSpec)

/-- ITS FALSE NEIGHBOUR: 'it returns false'. Refute it at one input. -/
def solveReduceMatchesWrong : ChangeSpec := { name := "solveReduceMatches", fn := fun _ => fun
  | [d] => { results := [.lit (.bool false)], args := [d] }
  | _ => none }
def SolveReduceMatchesWrongFalsely : Prop := solveReduceMatchesRow.holds Tryz.pinned (OpenSpec.ofChange solveReduceMatchesWrong)

/-- 'pylonlaw05.SolveEchelon': WHATEVER THE INPUT: true; the input reads as it did. -/
def solveEchelonSpec : ChangeSpec := { name := "solveEchelon", fn := fun _ => fun
  | [d] => { results := [.lit (.bool true)], args := [d] }
  | _ => none }
def solveEchelonRow : OpenClaim := { program := "ytknbjfefeeojlaagreat", sum := "fc885aecfc0a1417521480eb84d68ff64582981ef4eee027ab846f2f6c88d59b", func := "pylon/pylonlaw05.SolveEchelon", spec := "solveEchelon", unfollowed := true, recurses := true, apart := false }
def SolveEchelonSaid : Prop := solveEchelonRow.holds Tryz.pinned (OpenSpec.ofChange solveEchelonSpec)

/-- ITS FALSE NEIGHBOUR: 'it returns false'. Refute it at one input. -/
def solveEchelonWrong : ChangeSpec := { name := "solveEchelon", fn := fun _ => fun
  | [d] => { results := [.lit (.bool false)], args := [d] }
  | _ => none }
def SolveEchelonWrongFalsely : Prop := solveEchelonRow.holds Tryz.pinned (OpenSpec.ofChange solveEchelonWrong)

/-- 'pylonlaw05.SolveDeterminant': WHATEVER THE INPUT: true; the input reads as it did. -/
def solveDeterminantSpec : ChangeSpec := { name := "solveDeterminant", fn := fun _ => fun
  | [d1, d2, d3, d4, d5] => { results := [.lit (.bool true)], args := [d1, d2, d3, d4, d5] }
  | _ => none }
def solveDeterminantRow : OpenClaim := { program := "ytknbjfefeeojlaagreat", sum := "fc885aecfc0a1417521480eb84d68ff64582981ef4eee027ab846f2f6c88d59b", func := "pylon/pylonlaw05.SolveDeterminant", spec := "solveDeterminant", unfollowed := true, recurses := true, apart := false }
def SolveDeterminantSaid : Prop := solveDeterminantRow.holds Tryz.pinned (OpenSpec.ofChange solveDeterminantSpec)

/-- ITS FALSE NEIGHBOUR: 'it returns false'. Refute it at one input. -/
def solveDeterminantWrong : ChangeSpec := { name := "solveDeterminant", fn := fun _ => fun
  | [d1, d2, d3, d4, d5] => { results := [.lit (.bool false)], args := [d1, d2, d3, d4, d5] }
  | _ => none }
def SolveDeterminantWrongFalsely : Prop := solveDeterminantRow.holds Tryz.pinned (OpenSpec.ofChange solveDeterminantWrong)

/-- 'pylonlaw05.SolveGeneral': WHATEVER THE INPUT: true; the input reads as it did. -/
def solveGeneralSpec : ChangeSpec := { name := "solveGeneral", fn := fun _ => fun
  | [d1, d2] => { results := [.lit (.bool true)], args := [d1, d2] }
  | _ => none }
def solveGeneralRow : OpenClaim := { program := "ytknbjfefeeojlaagreat", sum := "fc885aecfc0a1417521480eb84d68ff64582981ef4eee027ab846f2f6c88d59b", func := "pylon/pylonlaw05.SolveGeneral", spec := "solveGeneral", unfollowed := true, recurses := true, apart := false }
def SolveGeneralSaid : Prop := solveGeneralRow.holds Tryz.pinned (OpenSpec.ofChange solveGeneralSpec)

/-- ITS FALSE NEIGHBOUR: 'it returns false'. Refute it at one input. -/
def solveGeneralWrong : ChangeSpec := { name := "solveGeneral", fn := fun _ => fun
  | [d1, d2] => { results := [.lit (.bool false)], args := [d1, d2] }
  | _ => none }
def SolveGeneralWrongFalsely : Prop := solveGeneralRow.holds Tryz.pinned (OpenSpec.ofChange solveGeneralWrong)

/-- 'pylonlaw05.SolveInverse': WHATEVER THE INPUT: true; the input reads as it did. -/
def solveInverseSpec : ChangeSpec := { name := "solveInverse", fn := fun _ => fun
  | [d1, d2] => { results := [.lit (.bool true)], args := [d1, d2] }
  | _ => none }
def solveInverseRow : OpenClaim := { program := "ytknbjfefeeojlaagreat", sum := "fc885aecfc0a1417521480eb84d68ff64582981ef4eee027ab846f2f6c88d59b", func := "pylon/pylonlaw05.SolveInverse", spec := "solveInverse", unfollowed := true, recurses := true, apart := false }
def SolveInverseSaid : Prop := solveInverseRow.holds Tryz.pinned (OpenSpec.ofChange solveInverseSpec)

/-- ITS FALSE NEIGHBOUR: 'it returns false'. Refute it at one input. -/
def solveInverseWrong : ChangeSpec := { name := "solveInverse", fn := fun _ => fun
  | [d1, d2] => { results := [.lit (.bool false)], args := [d1, d2] }
  | _ => none }
def SolveInverseWrongFalsely : Prop := solveInverseRow.holds Tryz.pinned (OpenSpec.ofChange solveInverseWrong)

/-- 'pylonlaw07.TableauOptimal': WHATEVER THE INPUT: true; the input reads as it did. -/
def tableauOptimalSpec : ChangeSpec := { name := "tableauOptimal", fn := fun _ => fun
  | [d1, d2, d3] => { results := [.lit (.bool true)], args := [d1, d2, d3] }
  | _ => none }
def tableauOptimalRow : OpenClaim := { program := "ytknbjfefeeojlaagreat", sum := "fc885aecfc0a1417521480eb84d68ff64582981ef4eee027ab846f2f6c88d59b", func := "pylon/pylonlaw07.TableauOptimal", spec := "tableauOptimal", unfollowed := true, recurses := true, apart := false }
def TableauOptimalSaid : Prop := tableauOptimalRow.holds Tryz.pinned (OpenSpec.ofChange tableauOptimalSpec)

/-- ITS FALSE NEIGHBOUR: 'it returns false'. Refute it at one input. -/
def tableauOptimalWrong : ChangeSpec := { name := "tableauOptimal", fn := fun _ => fun
  | [d1, d2, d3] => { results := [.lit (.bool false)], args := [d1, d2, d3] }
  | _ => none }
def TableauOptimalWrongFalsely : Prop := tableauOptimalRow.holds Tryz.pinned (OpenSpec.ofChange tableauOptimalWrong)

/- THE SECOND FORM. 'bulk': how many values and letters a reading holds, each counted each time it is reached (what is shared counts as often as it is met; a slice's spare places count too). A statement '..UptoSaid' is the law's where the arguments, and the package variables that the reading takes, are together of bulk at most 1048576: NARROWER than '..Said'. Prove '..Said' where nothing that the law and all that it calls make is longer than what came in: it says more and counts as full. Else prove '..UptoSaid'. A law counts once. -/
mutual
def uptoBulk {H : Type} : DataW H → Nat
  | .lit (.string bytes) => bytes.length + 1
  | .lit _ => 1
  | .nil => 1
  | .ptr d => uptoBulk d + 1
  | .slice elems spare => uptoBulkAll elems + uptoBulkAll spare + 1
  | .agg parts => uptoBulkAll parts + 1
  | .iface _ d => uptoBulk d + 1
  | .map entries => uptoBulkEntries entries + 1
  | .held _ => 1
def uptoBulkAll {H : Type} : List (DataW H) → Nat
  | [] => 0
  | d :: r => uptoBulk d + uptoBulkAll r
def uptoBulkEntries {H : Type} : List (Lit × DataW H) → Nat
  | [] => 0
  | x :: r => uptoBulkEntry x + uptoBulkEntries r
def uptoBulkEntry {H : Type} : Lit × DataW H → Nat
  | (.string bytes, d) => bytes.length + uptoBulk d + 1
  | (_, d) => uptoBulk d + 1
 end
def uptoSmall : (H : Type) → List (DataW H) → Bool := fun _ ds => decide (uptoBulkAll ds ≤ 1048576)
def OpenSpec.upto (s : _root_.Go.ChangeSpec) : _root_.Go.OpenSpec := { _root_.Go.OpenSpec.ofChange s with cond := some uptoSmall }

/-- 'pylonlaw07.TableauEquations', WHERE WHAT IT READS IS OF BULK AT MOST 1048576: true; the input reads as it did. -/
def tableauEquationsUptoRow : OpenClaim := { program := "ytknbjfefeeojlaagreat", sum := "fc885aecfc0a1417521480eb84d68ff64582981ef4eee027ab846f2f6c88d59b", func := "pylon/pylonlaw07.TableauEquations", spec := "tableauEquations", unfollowed := true, recurses := true, apart := false, narrowed := true }
def TableauEquationsUptoSaid : Prop := tableauEquationsUptoRow.holds Tryz.pinned (OpenSpec.upto tableauEquationsSpec)

/-- 'pylonlaw04.MatMatches', WHERE WHAT IT READS IS OF BULK AT MOST 1048576: true; the input reads as it did. -/
def matMatchesUptoRow : OpenClaim := { program := "ytknbjfefeeojlaagreat", sum := "fc885aecfc0a1417521480eb84d68ff64582981ef4eee027ab846f2f6c88d59b", func := "pylon/pylonlaw04.MatMatches", spec := "matMatches", unfollowed := true, recurses := true, apart := false, narrowed := true }
def MatMatchesUptoSaid : Prop := matMatchesUptoRow.holds Tryz.pinned (OpenSpec.upto matMatchesSpec)

/-- 'pylonlaw05.SolveMatches', WHERE WHAT IT READS IS OF BULK AT MOST 1048576: true; the input reads as it did. -/
def solveMatchesUptoRow : OpenClaim := { program := "ytknbjfefeeojlaagreat", sum := "fc885aecfc0a1417521480eb84d68ff64582981ef4eee027ab846f2f6c88d59b", func := "pylon/pylonlaw05.SolveMatches", spec := "solveMatches", unfollowed := true, recurses := true, apart := false, narrowed := true }
def SolveMatchesUptoSaid : Prop := solveMatchesUptoRow.holds Tryz.pinned (OpenSpec.upto solveMatchesSpec)

/-- 'pylonlaw05.SolveExamples', WHERE WHAT IT READS IS OF BULK AT MOST 1048576: true; the input reads as it did. -/
def solveExamplesUptoRow : OpenClaim := { program := "ytknbjfefeeojlaagreat", sum := "fc885aecfc0a1417521480eb84d68ff64582981ef4eee027ab846f2f6c88d59b", func := "pylon/pylonlaw05.SolveExamples", spec := "solveExamples", unfollowed := true, recurses := true, apart := false, narrowed := true }
def SolveExamplesUptoSaid : Prop := solveExamplesUptoRow.holds Tryz.pinned (OpenSpec.upto solveExamplesSpec)

/-- 'pylonlaw05.SolveReduceMatches', WHERE WHAT IT READS IS OF BULK AT MOST 1048576: true; the input reads as it did. -/
def solveReduceMatchesUptoRow : OpenClaim := { program := "ytknbjfefeeojlaagreat", sum := "fc885aecfc0a1417521480eb84d68ff64582981ef4eee027ab846f2f6c88d59b", func := "pylon/pylonlaw05.SolveReduceMatches", spec := "solveReduceMatches", unfollowed := true, recurses := true, apart := false, narrowed := true }
def SolveReduceMatchesUptoSaid : Prop := solveReduceMatchesUptoRow.holds Tryz.pinned (OpenSpec.upto solveReduceMatchesSpec)

/-- 'pylonlaw05.SolveEchelon', WHERE WHAT IT READS IS OF BULK AT MOST 1048576: true; the input reads as it did. -/
def solveEchelonUptoRow : OpenClaim := { program := "ytknbjfefeeojlaagreat", sum := "fc885aecfc0a1417521480eb84d68ff64582981ef4eee027ab846f2f6c88d59b", func := "pylon/pylonlaw05.SolveEchelon", spec := "solveEchelon", unfollowed := true, recurses := true, apart := false, narrowed := true }
def SolveEchelonUptoSaid : Prop := solveEchelonUptoRow.holds Tryz.pinned (OpenSpec.upto solveEchelonSpec)

/-- 'pylonlaw05.SolveDeterminant', WHERE WHAT IT READS IS OF BULK AT MOST 1048576: true; the input reads as it did. -/
def solveDeterminantUptoRow : OpenClaim := { program := "ytknbjfefeeojlaagreat", sum := "fc885aecfc0a1417521480eb84d68ff64582981ef4eee027ab846f2f6c88d59b", func := "pylon/pylonlaw05.SolveDeterminant", spec := "solveDeterminant", unfollowed := true, recurses := true, apart := false, narrowed := true }
def SolveDeterminantUptoSaid : Prop := solveDeterminantUptoRow.holds Tryz.pinned (OpenSpec.upto solveDeterminantSpec)

/-- 'pylonlaw05.SolveGeneral', WHERE WHAT IT READS IS OF BULK AT MOST 1048576: true; the input reads as it did. -/
def solveGeneralUptoRow : OpenClaim := { program := "ytknbjfefeeojlaagreat", sum := "fc885aecfc0a1417521480eb84d68ff64582981ef4eee027ab846f2f6c88d59b", func := "pylon/pylonlaw05.SolveGeneral", spec := "solveGeneral", unfollowed := true, recurses := true, apart := false, narrowed := true }
def SolveGeneralUptoSaid : Prop := solveGeneralUptoRow.holds Tryz.pinned (OpenSpec.upto solveGeneralSpec)

/-- 'pylonlaw05.SolveInverse', WHERE WHAT IT READS IS OF BULK AT MOST 1048576: true; the input reads as it did. -/
def solveInverseUptoRow : OpenClaim := { program := "ytknbjfefeeojlaagreat", sum := "fc885aecfc0a1417521480eb84d68ff64582981ef4eee027ab846f2f6c88d59b", func := "pylon/pylonlaw05.SolveInverse", spec := "solveInverse", unfollowed := true, recurses := true, apart := false, narrowed := true }
def SolveInverseUptoSaid : Prop := solveInverseUptoRow.holds Tryz.pinned (OpenSpec.upto solveInverseSpec)

/-- 'pylonlaw07.TableauOptimal', WHERE WHAT IT READS IS OF BULK AT MOST 1048576: true; the input reads as it did. -/
def tableauOptimalUptoRow : OpenClaim := { program := "ytknbjfefeeojlaagreat", sum := "fc885aecfc0a1417521480eb84d68ff64582981ef4eee027ab846f2f6c88d59b", func := "pylon/pylonlaw07.TableauOptimal", spec := "tableauOptimal", unfollowed := true, recurses := true, apart := false, narrowed := true }
def TableauOptimalUptoSaid : Prop := tableauOptimalUptoRow.holds Tryz.pinned (OpenSpec.upto tableauOptimalSpec)

end Rows
end Go.Proofs.YtknbjfefeeojlaaGreat
