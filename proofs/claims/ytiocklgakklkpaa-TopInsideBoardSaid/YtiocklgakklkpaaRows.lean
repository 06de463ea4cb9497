/-
  No cell of these rows narrows 'for every input' (looked for: loops, veiled, ifaces, maps, wideKeys, modest, calm, conditions, laid).
  DERIVED. THE GIVEN ROWS OF THIS SEAT. 3 by the template 'for every input the law returns true; each argument reads behind the call as it read before'; 0 by the template 'total and deterministic' (their statements: YtiocklgakklkpaaTotals.lean).
  GIVEN WITH THE SEED: the statements are not yours to turn. If you find one false, say at which input.
  Laid BY PROGRAM, IN A SANDBOX (cutbox-rows.mjs): the forced cells as the released guide's own fill.sh prints them over the translation 8d60df3e0c4af363… (all of the seat's roots in one cut). By AI agents, Wed Nov 11 2026. No macro, syntax, notation, axiom, sorry.
-/
import Derived.Test.YtiocklgakklkpaaChecked
import GoSem.Claim
import GoSem.ClaimJoined
import GoSem.ClaimMapViews
import Derived.JoinedTies
import Derived.KernelRfl
namespace Go.Proofs.Ytiocklgakklkpaa
/- THE CELL 'sum', in the pinned program and in every row, IS THE sha256 OF THE DUMP (.gsa) THAT YtiocklgakklkpaaProg.lean LOADS. Nothing in Lean hashes anything: it is a label: what it is worth is what the hold of that sum in a sandbox is worth. -/
noncomputable def Try.pinned : Pinned := { name := "ytiocklgakklkpaa", sum := "8d60df3e0c4af363764208caeb06d6adc2b8258fb32f75c3da0e830156e3ae31", checked := Try.checked }
namespace Rows
def none {H : Type} : Left H := { results := [], args := [] }

/-- 'testlinertop.TopLidBoard': WHATEVER THE INPUT: true; the input reads as it did. -/
def topLidBoardSpec : ChangeSpec := { name := "topLidBoard", fn := fun _ => fun
  | [d1, d2, d3] => { results := [.lit (.bool true)], args := [d1, d2, d3] }
  | _ => none }
def topLidBoardRow : OpenClaim := { program := "ytiocklgakklkpaa", sum := "8d60df3e0c4af363764208caeb06d6adc2b8258fb32f75c3da0e830156e3ae31", func := "testliner/testlinertop.TopLidBoard", spec := "topLidBoard", unfollowed := true, recurses := true, apart := false }
def TopLidBoardSaid : Prop := topLidBoardRow.holds Try.pinned (OpenSpec.ofChange topLidBoardSpec)

/-- ITS FALSE NEIGHBOUR: 'it returns false'. Refute it at one input. -/
def topLidBoardWrong : ChangeSpec := { name := "topLidBoard", fn := fun _ => fun
  | [d1, d2, d3] => { results := [.lit (.bool false)], args := [d1, d2, d3] }
  | _ => none }
def TopLidBoardWrongFalsely : Prop := topLidBoardRow.holds Try.pinned (OpenSpec.ofChange topLidBoardWrong)

/-- 'testlinertop.TopInsideBoard': WHATEVER THE INPUT: true; the input reads as it did. -/
def topInsideBoardSpec : ChangeSpec := { name := "topInsideBoard", fn := fun _ => fun
  | [d1, d2] => { results := [.lit (.bool true)], args := [d1, d2] }
  | _ => none }
def topInsideBoardRow : OpenClaim := { program := "ytiocklgakklkpaa", sum := "8d60df3e0c4af363764208caeb06d6adc2b8258fb32f75c3da0e830156e3ae31", func := "testliner/testlinertop.TopInsideBoard", spec := "topInsideBoard", unfollowed := true, recurses := true, apart := false }
def TopInsideBoardSaid : Prop := topInsideBoardRow.holds Try.pinned (OpenSpec.ofChange topInsideBoardSpec)

/-- ITS FALSE NEIGHBOUR: 'it returns false'. Refute it at one input. -/
def topInsideBoardWrong : ChangeSpec := { name := "topInsideBoard", fn := fun _ => fun
  | [d1, d2] => { results := [.lit (.bool false)], args := [d1, d2] }
  | _ => none }
def TopInsideBoardWrongFalsely : Prop := topInsideBoardRow.holds Try.pinned (OpenSpec.ofChange topInsideBoardWrong)

/-- 'testlinertop.TopThinnerBoard': WHATEVER THE INPUT: true; the input reads as it did. -/
def topThinnerBoardSpec : ChangeSpec := { name := "topThinnerBoard", fn := fun _ => fun
  | [d1, d2] => { results := [.lit (.bool true)], args := [d1, d2] }
  | _ => none }
def topThinnerBoardRow : OpenClaim := { program := "ytiocklgakklkpaa", sum := "8d60df3e0c4af363764208caeb06d6adc2b8258fb32f75c3da0e830156e3ae31", func := "testliner/testlinertop.TopThinnerBoard", spec := "topThinnerBoard", unfollowed := true, recurses := true, apart := false }
def TopThinnerBoardSaid : Prop := topThinnerBoardRow.holds Try.pinned (OpenSpec.ofChange topThinnerBoardSpec)

/-- ITS FALSE NEIGHBOUR: 'it returns false'. Refute it at one input. -/
def topThinnerBoardWrong : ChangeSpec := { name := "topThinnerBoard", fn := fun _ => fun
  | [d1, d2] => { results := [.lit (.bool false)], args := [d1, d2] }
  | _ => none }
def TopThinnerBoardWrongFalsely : Prop := topThinnerBoardRow.holds Try.pinned (OpenSpec.ofChange topThinnerBoardWrong)

/- THE SECOND FORM. 'bulk': how many values and letters a reading holds, each counted each time it is reached (what is shared counts as often as it is met; a slice's spare places count too). A statement '..UptoSaid' is the law's where the arguments, and the package variables that the reading takes, are together of bulk at most 1048576: NARROWER than '..Said'. Prove '..Said' where nothing that the law and all that it calls make is longer than what came in: it says more and counts as full. Else prove '..UptoSaid'. A law counts once. -/
mutual
def uptoBulk {H : Type} : DataW H → Nat
  | .lit (.string bytes) => bytes.length + 1
  | .lit _ => 1
  | .nil => 1
  | .ptr d => uptoBulk d + 1
  | .slice elems spare => uptoBulkAll elems + uptoBulkAll spare + 1
  | .agg parts => uptoBulkAll parts + 1
  | .iface _ d => uptoBulk d + 1
  | .map entries => uptoBulkEntries entries + 1
  | .held _ => 1
def uptoBulkAll {H : Type} : List (DataW H) → Nat
  | [] => 0
  | d :: r => uptoBulk d + uptoBulkAll r
def uptoBulkEntries {H : Type} : List (Lit × DataW H) → Nat
  | [] => 0
  | x :: r => uptoBulkEntry x + uptoBulkEntries r
def uptoBulkEntry {H : Type} : Lit × DataW H → Nat
  | (.string bytes, d) => bytes.length + uptoBulk d + 1
  | (_, d) => uptoBulk d + 1
 end
def uptoSmall : (H : Type) → List (DataW H) → Bool := fun _ ds => decide (uptoBulkAll ds ≤ 1048576)
def OpenSpec.upto (s : _root_.Go.ChangeSpec) : _root_.Go.OpenSpec := { _root_.Go.OpenSpec.ofChange s with cond := some uptoSmall }

/-- 'testlinertop.TopLidBoard', WHERE WHAT IT READS IS OF BULK AT MOST 1048576: true; the input reads as it did. -/
def topLidBoardUptoRow : OpenClaim := { program := "ytiocklgakklkpaa", sum := "8d60df3e0c4af363764208caeb06d6adc2b8258fb32f75c3da0e830156e3ae31", func := "testliner/testlinertop.TopLidBoard", spec := "topLidBoard", unfollowed := true, recurses := true, apart := false, narrowed := true }
def TopLidBoardUptoSaid : Prop := topLidBoardUptoRow.holds Try.pinned (OpenSpec.upto topLidBoardSpec)

/-- 'testlinertop.TopInsideBoard', WHERE WHAT IT READS IS OF BULK AT MOST 1048576: true; the input reads as it did. -/
def topInsideBoardUptoRow : OpenClaim := { program := "ytiocklgakklkpaa", sum := "8d60df3e0c4af363764208caeb06d6adc2b8258fb32f75c3da0e830156e3ae31", func := "testliner/testlinertop.TopInsideBoard", spec := "topInsideBoard", unfollowed := true, recurses := true, apart := false, narrowed := true }
def TopInsideBoardUptoSaid : Prop := topInsideBoardUptoRow.holds Try.pinned (OpenSpec.upto topInsideBoardSpec)

/-- 'testlinertop.TopThinnerBoard', WHERE WHAT IT READS IS OF BULK AT MOST 1048576: true; the input reads as it did. -/
def topThinnerBoardUptoRow : OpenClaim := { program := "ytiocklgakklkpaa", sum := "8d60df3e0c4af363764208caeb06d6adc2b8258fb32f75c3da0e830156e3ae31", func := "testliner/testlinertop.TopThinnerBoard", spec := "topThinnerBoard", unfollowed := true, recurses := true, apart := false, narrowed := true }
def TopThinnerBoardUptoSaid : Prop := topThinnerBoardUptoRow.holds Try.pinned (OpenSpec.upto topThinnerBoardSpec)

end Rows
end Go.Proofs.Ytiocklgakklkpaa
