/-
  No cell of these rows narrows 'for every input' (looked for: loops, veiled, ifaces, maps, wideKeys, modest, calm, conditions, laid).
  DERIVED. THE GIVEN ROWS OF THIS SEAT. 4 by the template 'for every input the law returns true; each argument reads behind the call as it read before'; 0 by the template 'total and deterministic' (their statements: YthnediamopehfaaTotals.lean).
  GIVEN WITH THE SEED: the statements are not yours to turn. If you find one false, say at which input.
  Laid BY PROGRAM, IN A SANDBOX (cutbox-rows.mjs): the forced cells as the released guide's own fill.sh prints them over the translation 6cd267f0125ed1ef… (all of the seat's roots in one cut). By AI agents, Wed Nov 11 2026. No macro, syntax, notation, axiom, sorry.
-/
import Derived.Test.YthnediamopehfaaChecked
import GoSem.Claim
import GoSem.ClaimJoined
import GoSem.ClaimMapViews
import Derived.JoinedTies
import Derived.KernelRfl
namespace Go.Proofs.Ythnediamopehfaa
/- THE CELL 'sum', in the pinned program and in every row, IS THE sha256 OF THE DUMP (.gsa) THAT YthnediamopehfaaProg.lean LOADS. Nothing in Lean hashes anything: it is a label: what it is worth is what the hold of that sum in a sandbox is worth. -/
noncomputable def Try.pinned : Pinned := { name := "ythnediamopehfaa", sum := "6cd267f0125ed1efed127d55abbc439b53b4ee6fee7e8110daddb51d09a12aa3", checked := Try.checked }
namespace Rows
def none {H : Type} : Left H := { results := [], args := [] }

/-- 'testlinerlaw02.ScoreSizes': WHATEVER THE INPUT: true; the input reads as it did. -/
def scoreSizesSpec : ChangeSpec := { name := "scoreSizes", fn := fun _ => fun
  | [d] => { results := [.lit (.bool true)], args := [d] }
  | _ => none }
def scoreSizesRow : OpenClaim := { program := "ythnediamopehfaa", sum := "6cd267f0125ed1efed127d55abbc439b53b4ee6fee7e8110daddb51d09a12aa3", func := "testliner/testlinerlaw02.ScoreSizes", spec := "scoreSizes", unfollowed := true, recurses := true, apart := false }
def ScoreSizesSaid : Prop := scoreSizesRow.holds Try.pinned (OpenSpec.ofChange scoreSizesSpec)

/-- ITS FALSE NEIGHBOUR: 'it returns false'. Refute it at one input. -/
def scoreSizesWrong : ChangeSpec := { name := "scoreSizes", fn := fun _ => fun
  | [d] => { results := [.lit (.bool false)], args := [d] }
  | _ => none }
def ScoreSizesWrongFalsely : Prop := scoreSizesRow.holds Try.pinned (OpenSpec.ofChange scoreSizesWrong)

/-- 'testlinerlaw02.ScorePlays': WHATEVER THE INPUT: true; the input reads as it did. -/
def scorePlaysSpec : ChangeSpec := { name := "scorePlays", fn := fun _ => fun
  | [d1, d2, d3] => { results := [.lit (.bool true)], args := [d1, d2, d3] }
  | _ => none }
def scorePlaysRow : OpenClaim := { program := "ythnediamopehfaa", sum := "6cd267f0125ed1efed127d55abbc439b53b4ee6fee7e8110daddb51d09a12aa3", func := "testliner/testlinerlaw02.ScorePlays", spec := "scorePlays", unfollowed := true, recurses := true, apart := false }
def ScorePlaysSaid : Prop := scorePlaysRow.holds Try.pinned (OpenSpec.ofChange scorePlaysSpec)

/-- ITS FALSE NEIGHBOUR: 'it returns false'. Refute it at one input. -/
def scorePlaysWrong : ChangeSpec := { name := "scorePlays", fn := fun _ => fun
  | [d1, d2, d3] => { results := [.lit (.bool false)], args := [d1, d2, d3] }
  | _ => none }
def ScorePlaysWrongFalsely : Prop := scorePlaysRow.holds Try.pinned (OpenSpec.ofChange scorePlaysWrong)

/-- 'testlinerlaw02.ScoreHolds': WHATEVER THE INPUT: true; the input reads as it did. -/
def scoreHoldsSpec : ChangeSpec := { name := "scoreHolds", fn := fun _ => fun
  | [d1, d2, d3] => { results := [.lit (.bool true)], args := [d1, d2, d3] }
  | _ => none }
def scoreHoldsRow : OpenClaim := { program := "ythnediamopehfaa", sum := "6cd267f0125ed1efed127d55abbc439b53b4ee6fee7e8110daddb51d09a12aa3", func := "testliner/testlinerlaw02.ScoreHolds", spec := "scoreHolds", unfollowed := true, recurses := true, apart := false }
def ScoreHoldsSaid : Prop := scoreHoldsRow.holds Try.pinned (OpenSpec.ofChange scoreHoldsSpec)

/-- ITS FALSE NEIGHBOUR: 'it returns false'. Refute it at one input. -/
def scoreHoldsWrong : ChangeSpec := { name := "scoreHolds", fn := fun _ => fun
  | [d1, d2, d3] => { results := [.lit (.bool false)], args := [d1, d2, d3] }
  | _ => none }
def ScoreHoldsWrongFalsely : Prop := scoreHoldsRow.holds Try.pinned (OpenSpec.ofChange scoreHoldsWrong)

/-- 'testlinerlaw02.ScoreOver': WHATEVER THE INPUT: true; the input reads as it did. -/
def scoreOverSpec : ChangeSpec := { name := "scoreOver", fn := fun _ => fun
  | [d1, d2, d3] => { results := [.lit (.bool true)], args := [d1, d2, d3] }
  | _ => none }
def scoreOverRow : OpenClaim := { program := "ythnediamopehfaa", sum := "6cd267f0125ed1efed127d55abbc439b53b4ee6fee7e8110daddb51d09a12aa3", func := "testliner/testlinerlaw02.ScoreOver", spec := "scoreOver", unfollowed := true, recurses := true, apart := false }
def ScoreOverSaid : Prop := scoreOverRow.holds Try.pinned (OpenSpec.ofChange scoreOverSpec)

/-- ITS FALSE NEIGHBOUR: 'it returns false'. Refute it at one input. -/
def scoreOverWrong : ChangeSpec := { name := "scoreOver", fn := fun _ => fun
  | [d1, d2, d3] => { results := [.lit (.bool false)], args := [d1, d2, d3] }
  | _ => none }
def ScoreOverWrongFalsely : Prop := scoreOverRow.holds Try.pinned (OpenSpec.ofChange scoreOverWrong)

/- THE SECOND FORM. 'bulk': how many values and letters a reading holds, each counted each time it is reached (what is shared counts as often as it is met; a slice's spare places count too). A statement '..UptoSaid' is the law's where the arguments, and the package variables that the reading takes, are together of bulk at most 1048576: NARROWER than '..Said'. Prove '..Said' where nothing that the law and all that it calls make is longer than what came in: it says more and counts as full. Else prove '..UptoSaid'. A law counts once. -/
mutual
def uptoBulk {H : Type} : DataW H → Nat
  | .lit (.string bytes) => bytes.length + 1
  | .lit _ => 1
  | .nil => 1
  | .ptr d => uptoBulk d + 1
  | .slice elems spare => uptoBulkAll elems + uptoBulkAll spare + 1
  | .agg parts => uptoBulkAll parts + 1
  | .iface _ d => uptoBulk d + 1
  | .map entries => uptoBulkEntries entries + 1
  | .held _ => 1
def uptoBulkAll {H : Type} : List (DataW H) → Nat
  | [] => 0
  | d :: r => uptoBulk d + uptoBulkAll r
def uptoBulkEntries {H : Type} : List (Lit × DataW H) → Nat
  | [] => 0
  | x :: r => uptoBulkEntry x + uptoBulkEntries r
def uptoBulkEntry {H : Type} : Lit × DataW H → Nat
  | (.string bytes, d) => bytes.length + uptoBulk d + 1
  | (_, d) => uptoBulk d + 1
 end
def uptoSmall : (H : Type) → List (DataW H) → Bool := fun _ ds => decide (uptoBulkAll ds ≤ 1048576)
def OpenSpec.upto (s : _root_.Go.ChangeSpec) : _root_.Go.OpenSpec := { _root_.Go.OpenSpec.ofChange s with cond := some uptoSmall }

/-- 'testlinerlaw02.ScoreSizes', WHERE WHAT IT READS IS OF BULK AT MOST 1048576: true; the input reads as it did. -/
def scoreSizesUptoRow : OpenClaim := { program := "ythnediamopehfaa", sum := "6cd267f0125ed1efed127d55abbc439b53b4ee6fee7e8110daddb51d09a12aa3", func := "testliner/testlinerlaw02.ScoreSizes", spec := "scoreSizes", unfollowed := true, recurses := true, apart := false, narrowed := true }
def ScoreSizesUptoSaid : Prop := scoreSizesUptoRow.holds Try.pinned (OpenSpec.upto scoreSizesSpec)

/-- 'testlinerlaw02.ScorePlays', WHERE WHAT IT READS IS OF BULK AT MOST 1048576: true; the input reads as it did. -/
def scorePlaysUptoRow : OpenClaim := { program := "ythnediamopehfaa", sum := "6cd267f0125ed1efed127d55abbc439b53b4ee6fee7e8110daddb51d09a12aa3", func := "testliner/testlinerlaw02.ScorePlays", spec := "scorePlays", unfollowed := true, recurses := true, apart := false, narrowed := true }
def ScorePlaysUptoSaid : Prop := scorePlaysUptoRow.holds Try.pinned (OpenSpec.upto scorePlaysSpec)

/-- 'testlinerlaw02.ScoreHolds', WHERE WHAT IT READS IS OF BULK AT MOST 1048576: true; the input reads as it did. -/
def scoreHoldsUptoRow : OpenClaim := { program := "ythnediamopehfaa", sum := "6cd267f0125ed1efed127d55abbc439b53b4ee6fee7e8110daddb51d09a12aa3", func := "testliner/testlinerlaw02.ScoreHolds", spec := "scoreHolds", unfollowed := true, recurses := true, apart := false, narrowed := true }
def ScoreHoldsUptoSaid : Prop := scoreHoldsUptoRow.holds Try.pinned (OpenSpec.upto scoreHoldsSpec)

/-- 'testlinerlaw02.ScoreOver', WHERE WHAT IT READS IS OF BULK AT MOST 1048576: true; the input reads as it did. -/
def scoreOverUptoRow : OpenClaim := { program := "ythnediamopehfaa", sum := "6cd267f0125ed1efed127d55abbc439b53b4ee6fee7e8110daddb51d09a12aa3", func := "testliner/testlinerlaw02.ScoreOver", spec := "scoreOver", unfollowed := true, recurses := true, apart := false, narrowed := true }
def ScoreOverUptoSaid : Prop := scoreOverUptoRow.holds Try.pinned (OpenSpec.upto scoreOverSpec)

end Rows
end Go.Proofs.Ythnediamopehfaa
