/-
  No cell of these rows narrows 'for every input' (looked for: loops, veiled, ifaces, maps, wideKeys, modest, calm, conditions, laid).
  DERIVED. THE GIVEN ROWS OF THIS SEAT. 8 by the template 'for every input the law returns true; each argument reads behind the call as it read before'; 0 by the template 'total and deterministic' (their statements: YthnediamopehfaaGreatTotals.lean).
  GIVEN WITH THE SEED: the statements are not yours to turn. If you find one false, say at which input.
  Laid BY PROGRAM, IN A SANDBOX (cutbox-rows.mjs): the forced cells as the released guide's own fill.sh prints them over the translation bf7d00a08d5952d4… (all of the seat's roots in one cut). By AI agents, Wed Nov 11 2026. No macro, syntax, notation, axiom, sorry.
-/
import Derived.Test.YthnediamopehfaaGreatChecked
import GoSem.Claim
import GoSem.ClaimJoined
import GoSem.ClaimMapViews
import Derived.JoinedTies
import Derived.KernelRfl
namespace Go.Proofs.YthnediamopehfaaGreat
/- THE CELL 'sum', in the pinned program and in every row, IS THE sha256 OF THE DUMP (.gsa) THAT YthnediamopehfaaGreatProg.lean LOADS. Nothing in Lean hashes anything: it is a label: what it is worth is what the hold of that sum in a sandbox is worth. -/
noncomputable def Tryz.pinned : Pinned := { name := "ythnediamopehfaagreat", sum := "bf7d00a08d5952d4f32eaea68db9c6a40607f31216e86253514a0349c5e1160f", checked := Tryz.checked }
namespace Rows
def none {H : Type} : Left H := { results := [], args := [] }

/-- 'testlinerlaw02.ScoreInners': WHATEVER THE INPUT: true; the input reads as it did. -/
def scoreInnersSpec : ChangeSpec := { name := "scoreInners", fn := fun _ => fun
  | [d1, d2, d3] => { results := [.lit (.bool true)], args := [d1, d2, d3] }
  | _ => none }
def scoreInnersRow : OpenClaim := { program := "ythnediamopehfaagreat", sum := "bf7d00a08d5952d4f32eaea68db9c6a40607f31216e86253514a0349c5e1160f", func := "testliner/testlinerlaw02.ScoreInners", spec := "scoreInners", unfollowed := true, recurses := true, apart := false }
def ScoreInnersSaid : Prop := scoreInnersRow.holds Tryz.pinned (OpenSpec.ofChange scoreInnersSpec)

/-- ITS FALSE NEIGHBOUR: 'it returns false'. Refute it at one input. -/
def scoreInnersWrong : ChangeSpec := { name := "scoreInners", fn := fun _ => fun
  | [d1, d2, d3] => { results := [.lit (.bool false)], args := [d1, d2, d3] }
  | _ => none }
def ScoreInnersWrongFalsely : Prop := scoreInnersRow.holds Tryz.pinned (OpenSpec.ofChange scoreInnersWrong)

/-- 'testlinerlaw02.ScoreCloses': WHATEVER THE INPUT: true; the input reads as it did. -/
def scoreClosesSpec : ChangeSpec := { name := "scoreCloses", fn := fun _ => fun
  | [d1, d2, d3] => { results := [.lit (.bool true)], args := [d1, d2, d3] }
  | _ => none }
def scoreClosesRow : OpenClaim := { program := "ythnediamopehfaagreat", sum := "bf7d00a08d5952d4f32eaea68db9c6a40607f31216e86253514a0349c5e1160f", func := "testliner/testlinerlaw02.ScoreCloses", spec := "scoreCloses", unfollowed := true, recurses := true, apart := false }
def ScoreClosesSaid : Prop := scoreClosesRow.holds Tryz.pinned (OpenSpec.ofChange scoreClosesSpec)

/-- ITS FALSE NEIGHBOUR: 'it returns false'. Refute it at one input. -/
def scoreClosesWrong : ChangeSpec := { name := "scoreCloses", fn := fun _ => fun
  | [d1, d2, d3] => { results := [.lit (.bool false)], args := [d1, d2, d3] }
  | _ => none }
def ScoreClosesWrongFalsely : Prop := scoreClosesRow.holds Tryz.pinned (OpenSpec.ofChange scoreClosesWrong)

/-- 'testlinerlaw02.ScoreBlanks': WHATEVER THE INPUT: true; the input reads as it did. -/
def scoreBlanksSpec : ChangeSpec := { name := "scoreBlanks", fn := fun _ => fun
  | [d1, d2, d3] => { results := [.lit (.bool true)], args := [d1, d2, d3] }
  | _ => none }
def scoreBlanksRow : OpenClaim := { program := "ythnediamopehfaagreat", sum := "bf7d00a08d5952d4f32eaea68db9c6a40607f31216e86253514a0349c5e1160f", func := "testliner/testlinerlaw02.ScoreBlanks", spec := "scoreBlanks", unfollowed := true, recurses := true, apart := false }
def ScoreBlanksSaid : Prop := scoreBlanksRow.holds Tryz.pinned (OpenSpec.ofChange scoreBlanksSpec)

/-- ITS FALSE NEIGHBOUR: 'it returns false'. Refute it at one input. -/
def scoreBlanksWrong : ChangeSpec := { name := "scoreBlanks", fn := fun _ => fun
  | [d1, d2, d3] => { results := [.lit (.bool false)], args := [d1, d2, d3] }
  | _ => none }
def ScoreBlanksWrongFalsely : Prop := scoreBlanksRow.holds Tryz.pinned (OpenSpec.ofChange scoreBlanksWrong)

/-- 'testlinerlaw02.ScoreMays': WHATEVER THE INPUT: true; the input reads as it did. -/
def scoreMaysSpec : ChangeSpec := { name := "scoreMays", fn := fun _ => fun
  | [d1, d2, d3] => { results := [.lit (.bool true)], args := [d1, d2, d3] }
  | _ => none }
def scoreMaysRow : OpenClaim := { program := "ythnediamopehfaagreat", sum := "bf7d00a08d5952d4f32eaea68db9c6a40607f31216e86253514a0349c5e1160f", func := "testliner/testlinerlaw02.ScoreMays", spec := "scoreMays", unfollowed := true, recurses := true, apart := false }
def ScoreMaysSaid : Prop := scoreMaysRow.holds Tryz.pinned (OpenSpec.ofChange scoreMaysSpec)

/-- ITS FALSE NEIGHBOUR: 'it returns false'. Refute it at one input. -/
def scoreMaysWrong : ChangeSpec := { name := "scoreMays", fn := fun _ => fun
  | [d1, d2, d3] => { results := [.lit (.bool false)], args := [d1, d2, d3] }
  | _ => none }
def ScoreMaysWrongFalsely : Prop := scoreMaysRow.holds Tryz.pinned (OpenSpec.ofChange scoreMaysWrong)

/-- 'testlinerlaw02.ScoreFolds': WHATEVER THE INPUT: true; the input reads as it did. -/
def scoreFoldsSpec : ChangeSpec := { name := "scoreFolds", fn := fun _ => fun
  | [d1, d2, d3] => { results := [.lit (.bool true)], args := [d1, d2, d3] }
  | _ => none }
def scoreFoldsRow : OpenClaim := { program := "ythnediamopehfaagreat", sum := "bf7d00a08d5952d4f32eaea68db9c6a40607f31216e86253514a0349c5e1160f", func := "testliner/testlinerlaw02.ScoreFolds", spec := "scoreFolds", unfollowed := true, recurses := true, apart := false }
def ScoreFoldsSaid : Prop := scoreFoldsRow.holds Tryz.pinned (OpenSpec.ofChange scoreFoldsSpec)

/-- ITS FALSE NEIGHBOUR: 'it returns false'. Refute it at one input. -/
def scoreFoldsWrong : ChangeSpec := { name := "scoreFolds", fn := fun _ => fun
  | [d1, d2, d3] => { results := [.lit (.bool false)], args := [d1, d2, d3] }
  | _ => none }
def ScoreFoldsWrongFalsely : Prop := scoreFoldsRow.holds Tryz.pinned (OpenSpec.ofChange scoreFoldsWrong)

/-- 'testlinerlaw02.ScoreNamed': WHATEVER THE INPUT: true; the input reads as it did. -/
def scoreNamedSpec : ChangeSpec := { name := "scoreNamed", fn := fun _ => fun
  | [d1, d2] => { results := [.lit (.bool true)], args := [d1, d2] }
  | _ => none }
def scoreNamedRow : OpenClaim := { program := "ythnediamopehfaagreat", sum := "bf7d00a08d5952d4f32eaea68db9c6a40607f31216e86253514a0349c5e1160f", func := "testliner/testlinerlaw02.ScoreNamed", spec := "scoreNamed", unfollowed := true, recurses := true, apart := false }
def ScoreNamedSaid : Prop := scoreNamedRow.holds Tryz.pinned (OpenSpec.ofChange scoreNamedSpec)

/-- ITS FALSE NEIGHBOUR: 'it returns false'. Refute it at one input. -/
def scoreNamedWrong : ChangeSpec := { name := "scoreNamed", fn := fun _ => fun
  | [d1, d2] => { results := [.lit (.bool false)], args := [d1, d2] }
  | _ => none }
def ScoreNamedWrongFalsely : Prop := scoreNamedRow.holds Tryz.pinned (OpenSpec.ofChange scoreNamedWrong)

/-- 'testlinerlaw02.ScoreLeast': WHATEVER THE INPUT: true; the input reads as it did. -/
def scoreLeastSpec : ChangeSpec := { name := "scoreLeast", fn := fun _ => fun
  | [d1, d2] => { results := [.lit (.bool true)], args := [d1, d2] }
  | _ => none }
def scoreLeastRow : OpenClaim := { program := "ythnediamopehfaagreat", sum := "bf7d00a08d5952d4f32eaea68db9c6a40607f31216e86253514a0349c5e1160f", func := "testliner/testlinerlaw02.ScoreLeast", spec := "scoreLeast", unfollowed := true, recurses := true, apart := false }
def ScoreLeastSaid : Prop := scoreLeastRow.holds Tryz.pinned (OpenSpec.ofChange scoreLeastSpec)

/-- ITS FALSE NEIGHBOUR: 'it returns false'. Refute it at one input. -/
def scoreLeastWrong : ChangeSpec := { name := "scoreLeast", fn := fun _ => fun
  | [d1, d2] => { results := [.lit (.bool false)], args := [d1, d2] }
  | _ => none }
def ScoreLeastWrongFalsely : Prop := scoreLeastRow.holds Tryz.pinned (OpenSpec.ofChange scoreLeastWrong)

/-- 'testlinerlaw02.ScoreTruth': WHATEVER THE INPUT: true; the input reads as it did. -/
def scoreTruthSpec : ChangeSpec := { name := "scoreTruth", fn := fun _ => fun
  | [d1, d2, d3] => { results := [.lit (.bool true)], args := [d1, d2, d3] }
  | _ => none }
def scoreTruthRow : OpenClaim := { program := "ythnediamopehfaagreat", sum := "bf7d00a08d5952d4f32eaea68db9c6a40607f31216e86253514a0349c5e1160f", func := "testliner/testlinerlaw02.ScoreTruth", spec := "scoreTruth", unfollowed := true, recurses := true, apart := false }
def ScoreTruthSaid : Prop := scoreTruthRow.holds Tryz.pinned (OpenSpec.ofChange scoreTruthSpec)

/-- ITS FALSE NEIGHBOUR: 'it returns false'. Refute it at one input. -/
def scoreTruthWrong : ChangeSpec := { name := "scoreTruth", fn := fun _ => fun
  | [d1, d2, d3] => { results := [.lit (.bool false)], args := [d1, d2, d3] }
  | _ => none }
def ScoreTruthWrongFalsely : Prop := scoreTruthRow.holds Tryz.pinned (OpenSpec.ofChange scoreTruthWrong)

/- THE SECOND FORM. 'bulk': how many values and letters a reading holds, each counted each time it is reached (what is shared counts as often as it is met; a slice's spare places count too). A statement '..UptoSaid' is the law's where the arguments, and the package variables that the reading takes, are together of bulk at most 1048576: NARROWER than '..Said'. Prove '..Said' where nothing that the law and all that it calls make is longer than what came in: it says more and counts as full. Else prove '..UptoSaid'. A law counts once. -/
mutual
def uptoBulk {H : Type} : DataW H → Nat
  | .lit (.string bytes) => bytes.length + 1
  | .lit _ => 1
  | .nil => 1
  | .ptr d => uptoBulk d + 1
  | .slice elems spare => uptoBulkAll elems + uptoBulkAll spare + 1
  | .agg parts => uptoBulkAll parts + 1
  | .iface _ d => uptoBulk d + 1
  | .map entries => uptoBulkEntries entries + 1
  | .held _ => 1
def uptoBulkAll {H : Type} : List (DataW H) → Nat
  | [] => 0
  | d :: r => uptoBulk d + uptoBulkAll r
def uptoBulkEntries {H : Type} : List (Lit × DataW H) → Nat
  | [] => 0
  | x :: r => uptoBulkEntry x + uptoBulkEntries r
def uptoBulkEntry {H : Type} : Lit × DataW H → Nat
  | (.string bytes, d) => bytes.length + uptoBulk d + 1
  | (_, d) => uptoBulk d + 1
 end
def uptoSmall : (H : Type) → List (DataW H) → Bool := fun _ ds => decide (uptoBulkAll ds ≤ 1048576)
def OpenSpec.upto (s : _root_.Go.ChangeSpec) : _root_.Go.OpenSpec := { _root_.Go.OpenSpec.ofChange s with cond := some uptoSmall }

/-- 'testlinerlaw02.ScoreInners', WHERE WHAT IT READS IS OF BULK AT MOST 1048576: true; the input reads as it did. -/
def scoreInnersUptoRow : OpenClaim := { program := "ythnediamopehfaagreat", sum := "bf7d00a08d5952d4f32eaea68db9c6a40607f31216e86253514a0349c5e1160f", func := "testliner/testlinerlaw02.ScoreInners", spec := "scoreInners", unfollowed := true, recurses := true, apart := false, narrowed := true }
def ScoreInnersUptoSaid : Prop := scoreInnersUptoRow.holds Tryz.pinned (OpenSpec.upto scoreInnersSpec)

/-- 'testlinerlaw02.ScoreCloses', WHERE WHAT IT READS IS OF BULK AT MOST 1048576: true; the input reads as it did. -/
def scoreClosesUptoRow : OpenClaim := { program := "ythnediamopehfaagreat", sum := "bf7d00a08d5952d4f32eaea68db9c6a40607f31216e86253514a0349c5e1160f", func := "testliner/testlinerlaw02.ScoreCloses", spec := "scoreCloses", unfollowed := true, recurses := true, apart := false, narrowed := true }
def ScoreClosesUptoSaid : Prop := scoreClosesUptoRow.holds Tryz.pinned (OpenSpec.upto scoreClosesSpec)

/-- 'testlinerlaw02.ScoreBlanks', WHERE WHAT IT READS IS OF BULK AT MOST 1048576: true; the input reads as it did. -/
def scoreBlanksUptoRow : OpenClaim := { program := "ythnediamopehfaagreat", sum := "bf7d00a08d5952d4f32eaea68db9c6a40607f31216e86253514a0349c5e1160f", func := "testliner/testlinerlaw02.ScoreBlanks", spec := "scoreBlanks", unfollowed := true, recurses := true, apart := false, narrowed := true }
def ScoreBlanksUptoSaid : Prop := scoreBlanksUptoRow.holds Tryz.pinned (OpenSpec.upto scoreBlanksSpec)

/-- 'testlinerlaw02.ScoreMays', WHERE WHAT IT READS IS OF BULK AT MOST 1048576: true; the input reads as it did. -/
def scoreMaysUptoRow : OpenClaim := { program := "ythnediamopehfaagreat", sum := "bf7d00a08d5952d4f32eaea68db9c6a40607f31216e86253514a0349c5e1160f", func := "testliner/testlinerlaw02.ScoreMays", spec := "scoreMays", unfollowed := true, recurses := true, apart := false, narrowed := true }
def ScoreMaysUptoSaid : Prop := scoreMaysUptoRow.holds Tryz.pinned (OpenSpec.upto scoreMaysSpec)

/-- 'testlinerlaw02.ScoreFolds', WHERE WHAT IT READS IS OF BULK AT MOST 1048576: true; the input reads as it did. -/
def scoreFoldsUptoRow : OpenClaim := { program := "ythnediamopehfaagreat", sum := "bf7d00a08d5952d4f32eaea68db9c6a40607f31216e86253514a0349c5e1160f", func := "testliner/testlinerlaw02.ScoreFolds", spec := "scoreFolds", unfollowed := true, recurses := true, apart := false, narrowed := true }
def ScoreFoldsUptoSaid : Prop := scoreFoldsUptoRow.holds Tryz.pinned (OpenSpec.upto scoreFoldsSpec)

/-- 'testlinerlaw02.ScoreNamed', WHERE WHAT IT READS IS OF BULK AT MOST 1048576: true; the input reads as it did. -/
def scoreNamedUptoRow : OpenClaim := { program := "ythnediamopehfaagreat", sum := "bf7d00a08d5952d4f32eaea68db9c6a40607f31216e86253514a0349c5e1160f", func := "testliner/testlinerlaw02.ScoreNamed", spec := "scoreNamed", unfollowed := true, recurses := true, apart := false, narrowed := true }
def ScoreNamedUptoSaid : Prop := scoreNamedUptoRow.holds Tryz.pinned (OpenSpec.upto scoreNamedSpec)

/-- 'testlinerlaw02.ScoreLeast', WHERE WHAT IT READS IS OF BULK AT MOST 1048576: true; the input reads as it did. -/
def scoreLeastUptoRow : OpenClaim := { program := "ythnediamopehfaagreat", sum := "bf7d00a08d5952d4f32eaea68db9c6a40607f31216e86253514a0349c5e1160f", func := "testliner/testlinerlaw02.ScoreLeast", spec := "scoreLeast", unfollowed := true, recurses := true, apart := false, narrowed := true }
def ScoreLeastUptoSaid : Prop := scoreLeastUptoRow.holds Tryz.pinned (OpenSpec.upto scoreLeastSpec)

/-- 'testlinerlaw02.ScoreTruth', WHERE WHAT IT READS IS OF BULK AT MOST 1048576: true; the input reads as it did. -/
def scoreTruthUptoRow : OpenClaim := { program := "ythnediamopehfaagreat", sum := "bf7d00a08d5952d4f32eaea68db9c6a40607f31216e86253514a0349c5e1160f", func := "testliner/testlinerlaw02.ScoreTruth", spec := "scoreTruth", unfollowed := true, recurses := true, apart := false, narrowed := true }
def ScoreTruthUptoSaid : Prop := scoreTruthUptoRow.holds Tryz.pinned (OpenSpec.upto scoreTruthSpec)

end Rows
end Go.Proofs.YthnediamopehfaaGreat
