/-
  No cell of these rows narrows 'for every input' (looked for: loops, veiled, ifaces, maps, wideKeys, modest, calm, conditions, laid).
  DERIVED. THE GIVEN ROWS OF THIS SEAT. 4 by the template 'for every input the law returns true; each argument reads behind the call as it read before'; 0 by the template 'total and deterministic' (their statements: YtnhipdbdolabkaaTotals.lean).
  GIVEN WITH THE SEED: the statements are not yours to turn. If you find one false, say at which input.
  Laid BY PROGRAM, IN A SANDBOX (cutbox-rows.mjs): the forced cells as the released guide's own fill.sh prints them over the translation 5e355fd2aacece66… (all of the seat's roots in one cut). By AI agents, Wed Nov 11 2026. No macro, syntax, notation, axiom, sorry.
-/
import Derived.Test.YtnhipdbdolabkaaChecked
import GoSem.Claim
import GoSem.ClaimJoined
import GoSem.ClaimMapViews
import Derived.JoinedTies
import Derived.KernelRfl
namespace Go.Proofs.Ytnhipdbdolabkaa
/- THE CELL 'sum', in the pinned program and in every row, IS THE sha256 OF THE DUMP (.gsa) THAT YtnhipdbdolabkaaProg.lean LOADS. Nothing in Lean hashes anything: it is a label: what it is worth is what the hold of that sum in a sandbox is worth. -/
noncomputable def Try.pinned : Pinned := { name := "ytnhipdbdolabkaa", sum := "5e355fd2aacece66ca29456adf417c3e57fa1b070d3221ab09d5b8c786aa736a", checked := Try.checked }
namespace Rows
def none {H : Type} : Left H := { results := [], args := [] }

/-- 'testlinertop.TopWebBlanks': WHATEVER THE INPUT: true; the input reads as it did. -/
def topWebBlanksSpec : ChangeSpec := { name := "topWebBlanks", fn := fun _ => fun
  | [d] => { results := [.lit (.bool true)], args := [d] }
  | _ => none }
def topWebBlanksRow : OpenClaim := { program := "ytnhipdbdolabkaa", sum := "5e355fd2aacece66ca29456adf417c3e57fa1b070d3221ab09d5b8c786aa736a", func := "testliner/testlinertop.TopWebBlanks", spec := "topWebBlanks", unfollowed := true, recurses := true, apart := false }
def TopWebBlanksSaid : Prop := topWebBlanksRow.holds Try.pinned (OpenSpec.ofChange topWebBlanksSpec)

/-- ITS FALSE NEIGHBOUR: 'it returns false'. Refute it at one input. -/
def topWebBlanksWrong : ChangeSpec := { name := "topWebBlanks", fn := fun _ => fun
  | [d] => { results := [.lit (.bool false)], args := [d] }
  | _ => none }
def TopWebBlanksWrongFalsely : Prop := topWebBlanksRow.holds Try.pinned (OpenSpec.ofChange topWebBlanksWrong)

/-- 'testlinertop.TopKnifeScores': WHATEVER THE INPUT: true; the input reads as it did. -/
def topKnifeScoresSpec : ChangeSpec := { name := "topKnifeScores", fn := fun _ => fun
  | [d] => { results := [.lit (.bool true)], args := [d] }
  | _ => none }
def topKnifeScoresRow : OpenClaim := { program := "ytnhipdbdolabkaa", sum := "5e355fd2aacece66ca29456adf417c3e57fa1b070d3221ab09d5b8c786aa736a", func := "testliner/testlinertop.TopKnifeScores", spec := "topKnifeScores", unfollowed := true, recurses := true, apart := false }
def TopKnifeScoresSaid : Prop := topKnifeScoresRow.holds Try.pinned (OpenSpec.ofChange topKnifeScoresSpec)

/-- ITS FALSE NEIGHBOUR: 'it returns false'. Refute it at one input. -/
def topKnifeScoresWrong : ChangeSpec := { name := "topKnifeScores", fn := fun _ => fun
  | [d] => { results := [.lit (.bool false)], args := [d] }
  | _ => none }
def TopKnifeScoresWrongFalsely : Prop := topKnifeScoresRow.holds Try.pinned (OpenSpec.ofChange topKnifeScoresWrong)

/-- 'testlinertop.TopPlanSheets': WHATEVER THE INPUT: true; the input reads as it did. -/
def topPlanSheetsSpec : ChangeSpec := { name := "topPlanSheets", fn := fun _ => fun
  | [d] => { results := [.lit (.bool true)], args := [d] }
  | _ => none }
def topPlanSheetsRow : OpenClaim := { program := "ytnhipdbdolabkaa", sum := "5e355fd2aacece66ca29456adf417c3e57fa1b070d3221ab09d5b8c786aa736a", func := "testliner/testlinertop.TopPlanSheets", spec := "topPlanSheets", unfollowed := true, recurses := true, apart := false }
def TopPlanSheetsSaid : Prop := topPlanSheetsRow.holds Try.pinned (OpenSpec.ofChange topPlanSheetsSpec)

/-- ITS FALSE NEIGHBOUR: 'it returns false'. Refute it at one input. -/
def topPlanSheetsWrong : ChangeSpec := { name := "topPlanSheets", fn := fun _ => fun
  | [d] => { results := [.lit (.bool false)], args := [d] }
  | _ => none }
def TopPlanSheetsWrongFalsely : Prop := topPlanSheetsRow.holds Try.pinned (OpenSpec.ofChange topPlanSheetsWrong)

/-- 'testlinertop.TopRestSheets': WHATEVER THE INPUT: true; the input reads as it did. -/
def topRestSheetsSpec : ChangeSpec := { name := "topRestSheets", fn := fun _ => fun
  | [d1, d2] => { results := [.lit (.bool true)], args := [d1, d2] }
  | _ => none }
def topRestSheetsRow : OpenClaim := { program := "ytnhipdbdolabkaa", sum := "5e355fd2aacece66ca29456adf417c3e57fa1b070d3221ab09d5b8c786aa736a", func := "testliner/testlinertop.TopRestSheets", spec := "topRestSheets", unfollowed := true, recurses := true, apart := false }
def TopRestSheetsSaid : Prop := topRestSheetsRow.holds Try.pinned (OpenSpec.ofChange topRestSheetsSpec)

/-- ITS FALSE NEIGHBOUR: 'it returns false'. Refute it at one input. -/
def topRestSheetsWrong : ChangeSpec := { name := "topRestSheets", fn := fun _ => fun
  | [d1, d2] => { results := [.lit (.bool false)], args := [d1, d2] }
  | _ => none }
def TopRestSheetsWrongFalsely : Prop := topRestSheetsRow.holds Try.pinned (OpenSpec.ofChange topRestSheetsWrong)

/- THE SECOND FORM. 'bulk': how many values and letters a reading holds, each counted each time it is reached (what is shared counts as often as it is met; a slice's spare places count too). A statement '..UptoSaid' is the law's where the arguments, and the package variables that the reading takes, are together of bulk at most 1048576: NARROWER than '..Said'. Prove '..Said' where nothing that the law and all that it calls make is longer than what came in: it says more and counts as full. Else prove '..UptoSaid'. A law counts once. -/
mutual
def uptoBulk {H : Type} : DataW H → Nat
  | .lit (.string bytes) => bytes.length + 1
  | .lit _ => 1
  | .nil => 1
  | .ptr d => uptoBulk d + 1
  | .slice elems spare => uptoBulkAll elems + uptoBulkAll spare + 1
  | .agg parts => uptoBulkAll parts + 1
  | .iface _ d => uptoBulk d + 1
  | .map entries => uptoBulkEntries entries + 1
  | .held _ => 1
def uptoBulkAll {H : Type} : List (DataW H) → Nat
  | [] => 0
  | d :: r => uptoBulk d + uptoBulkAll r
def uptoBulkEntries {H : Type} : List (Lit × DataW H) → Nat
  | [] => 0
  | x :: r => uptoBulkEntry x + uptoBulkEntries r
def uptoBulkEntry {H : Type} : Lit × DataW H → Nat
  | (.string bytes, d) => bytes.length + uptoBulk d + 1
  | (_, d) => uptoBulk d + 1
 end
def uptoSmall : (H : Type) → List (DataW H) → Bool := fun _ ds => decide (uptoBulkAll ds ≤ 1048576)
def OpenSpec.upto (s : _root_.Go.ChangeSpec) : _root_.Go.OpenSpec := { _root_.Go.OpenSpec.ofChange s with cond := some uptoSmall }

/-- 'testlinertop.TopWebBlanks', WHERE WHAT IT READS IS OF BULK AT MOST 1048576: true; the input reads as it did. -/
def topWebBlanksUptoRow : OpenClaim := { program := "ytnhipdbdolabkaa", sum := "5e355fd2aacece66ca29456adf417c3e57fa1b070d3221ab09d5b8c786aa736a", func := "testliner/testlinertop.TopWebBlanks", spec := "topWebBlanks", unfollowed := true, recurses := true, apart := false, narrowed := true }
def TopWebBlanksUptoSaid : Prop := topWebBlanksUptoRow.holds Try.pinned (OpenSpec.upto topWebBlanksSpec)

/-- 'testlinertop.TopKnifeScores', WHERE WHAT IT READS IS OF BULK AT MOST 1048576: true; the input reads as it did. -/
def topKnifeScoresUptoRow : OpenClaim := { program := "ytnhipdbdolabkaa", sum := "5e355fd2aacece66ca29456adf417c3e57fa1b070d3221ab09d5b8c786aa736a", func := "testliner/testlinertop.TopKnifeScores", spec := "topKnifeScores", unfollowed := true, recurses := true, apart := false, narrowed := true }
def TopKnifeScoresUptoSaid : Prop := topKnifeScoresUptoRow.holds Try.pinned (OpenSpec.upto topKnifeScoresSpec)

/-- 'testlinertop.TopPlanSheets', WHERE WHAT IT READS IS OF BULK AT MOST 1048576: true; the input reads as it did. -/
def topPlanSheetsUptoRow : OpenClaim := { program := "ytnhipdbdolabkaa", sum := "5e355fd2aacece66ca29456adf417c3e57fa1b070d3221ab09d5b8c786aa736a", func := "testliner/testlinertop.TopPlanSheets", spec := "topPlanSheets", unfollowed := true, recurses := true, apart := false, narrowed := true }
def TopPlanSheetsUptoSaid : Prop := topPlanSheetsUptoRow.holds Try.pinned (OpenSpec.upto topPlanSheetsSpec)

/-- 'testlinertop.TopRestSheets', WHERE WHAT IT READS IS OF BULK AT MOST 1048576: true; the input reads as it did. -/
def topRestSheetsUptoRow : OpenClaim := { program := "ytnhipdbdolabkaa", sum := "5e355fd2aacece66ca29456adf417c3e57fa1b070d3221ab09d5b8c786aa736a", func := "testliner/testlinertop.TopRestSheets", spec := "topRestSheets", unfollowed := true, recurses := true, apart := false, narrowed := true }
def TopRestSheetsUptoSaid : Prop := topRestSheetsUptoRow.holds Try.pinned (OpenSpec.upto topRestSheetsSpec)

end Rows
end Go.Proofs.Ytnhipdbdolabkaa
