/-
  No cell of these rows narrows 'for every input' (looked for: loops, veiled, ifaces, maps, wideKeys, modest, calm, conditions, laid).
  DERIVED. THE GIVEN ROWS OF THIS SEAT. 2 by the template 'for every input the law returns true; each argument reads behind the call as it read before'; 0 by the template 'total and deterministic' (their statements: YtolnpbpeifpbjaaTotals.lean).
  GIVEN WITH THE SEED: the statements are not yours to turn. If you find one false, say at which input.
  Laid BY PROGRAM, IN A SANDBOX (cutbox-rows.mjs): the forced cells as the released guide's own fill.sh prints them over the translation 0436e86b4b06420f… (all of the seat's roots in one cut). By AI agents, Wed Nov 11 2026. No macro, syntax, notation, axiom, sorry.
-/
import Derived.Test.YtolnpbpeifpbjaaChecked
import GoSem.Claim
import GoSem.ClaimJoined
import GoSem.ClaimMapViews
import Derived.JoinedTies
import Derived.KernelRfl
namespace Go.Proofs.Ytolnpbpeifpbjaa
/- THE CELL 'sum', in the pinned program and in every row, IS THE sha256 OF THE DUMP (.gsa) THAT YtolnpbpeifpbjaaProg.lean LOADS. Nothing in Lean hashes anything: it is a label: what it is worth is what the hold of that sum in a sandbox is worth. -/
noncomputable def Try.pinned : Pinned := { name := "ytolnpbpeifpbjaa", sum := "0436e86b4b06420f145f9ea778a9f8eafa92ded6b37f6ae92c48abf7e36a3379", checked := Try.checked }
namespace Rows
def none {H : Type} : Left H := { results := [], args := [] }

/-- 'testlinertop.TopQuoteBlank': WHATEVER THE INPUT: true; the input reads as it did. -/
def topQuoteBlankSpec : ChangeSpec := { name := "topQuoteBlank", fn := fun _ => fun
  | [d1, d2, d3] => { results := [.lit (.bool true)], args := [d1, d2, d3] }
  | _ => none }
def topQuoteBlankRow : OpenClaim := { program := "ytolnpbpeifpbjaa", sum := "0436e86b4b06420f145f9ea778a9f8eafa92ded6b37f6ae92c48abf7e36a3379", func := "testliner/testlinertop.TopQuoteBlank", spec := "topQuoteBlank", unfollowed := true, recurses := true, apart := false }
def TopQuoteBlankSaid : Prop := topQuoteBlankRow.holds Try.pinned (OpenSpec.ofChange topQuoteBlankSpec)

/-- ITS FALSE NEIGHBOUR: 'it returns false'. Refute it at one input. -/
def topQuoteBlankWrong : ChangeSpec := { name := "topQuoteBlank", fn := fun _ => fun
  | [d1, d2, d3] => { results := [.lit (.bool false)], args := [d1, d2, d3] }
  | _ => none }
def TopQuoteBlankWrongFalsely : Prop := topQuoteBlankRow.holds Try.pinned (OpenSpec.ofChange topQuoteBlankWrong)

/-- 'testlinertop.TopLidStack': WHATEVER THE INPUT: true; the input reads as it did. -/
def topLidStackSpec : ChangeSpec := { name := "topLidStack", fn := fun _ => fun
  | [d1, d2] => { results := [.lit (.bool true)], args := [d1, d2] }
  | _ => none }
def topLidStackRow : OpenClaim := { program := "ytolnpbpeifpbjaa", sum := "0436e86b4b06420f145f9ea778a9f8eafa92ded6b37f6ae92c48abf7e36a3379", func := "testliner/testlinertop.TopLidStack", spec := "topLidStack", unfollowed := true, recurses := true, apart := false }
def TopLidStackSaid : Prop := topLidStackRow.holds Try.pinned (OpenSpec.ofChange topLidStackSpec)

/-- ITS FALSE NEIGHBOUR: 'it returns false'. Refute it at one input. -/
def topLidStackWrong : ChangeSpec := { name := "topLidStack", fn := fun _ => fun
  | [d1, d2] => { results := [.lit (.bool false)], args := [d1, d2] }
  | _ => none }
def TopLidStackWrongFalsely : Prop := topLidStackRow.holds Try.pinned (OpenSpec.ofChange topLidStackWrong)

/- THE SECOND FORM. 'bulk': how many values and letters a reading holds, each counted each time it is reached (what is shared counts as often as it is met; a slice's spare places count too). A statement '..UptoSaid' is the law's where the arguments, and the package variables that the reading takes, are together of bulk at most 1048576: NARROWER than '..Said'. Prove '..Said' where nothing that the law and all that it calls make is longer than what came in: it says more and counts as full. Else prove '..UptoSaid'. A law counts once. -/
mutual
def uptoBulk {H : Type} : DataW H → Nat
  | .lit (.string bytes) => bytes.length + 1
  | .lit _ => 1
  | .nil => 1
  | .ptr d => uptoBulk d + 1
  | .slice elems spare => uptoBulkAll elems + uptoBulkAll spare + 1
  | .agg parts => uptoBulkAll parts + 1
  | .iface _ d => uptoBulk d + 1
  | .map entries => uptoBulkEntries entries + 1
  | .held _ => 1
def uptoBulkAll {H : Type} : List (DataW H) → Nat
  | [] => 0
  | d :: r => uptoBulk d + uptoBulkAll r
def uptoBulkEntries {H : Type} : List (Lit × DataW H) → Nat
  | [] => 0
  | x :: r => uptoBulkEntry x + uptoBulkEntries r
def uptoBulkEntry {H : Type} : Lit × DataW H → Nat
  | (.string bytes, d) => bytes.length + uptoBulk d + 1
  | (_, d) => uptoBulk d + 1
 end
def uptoSmall : (H : Type) → List (DataW H) → Bool := fun _ ds => decide (uptoBulkAll ds ≤ 1048576)
def OpenSpec.upto (s : _root_.Go.ChangeSpec) : _root_.Go.OpenSpec := { _root_.Go.OpenSpec.ofChange s with cond := some uptoSmall }

/-- 'testlinertop.TopQuoteBlank', WHERE WHAT IT READS IS OF BULK AT MOST 1048576: true; the input reads as it did. -/
def topQuoteBlankUptoRow : OpenClaim := { program := "ytolnpbpeifpbjaa", sum := "0436e86b4b06420f145f9ea778a9f8eafa92ded6b37f6ae92c48abf7e36a3379", func := "testliner/testlinertop.TopQuoteBlank", spec := "topQuoteBlank", unfollowed := true, recurses := true, apart := false, narrowed := true }
def TopQuoteBlankUptoSaid : Prop := topQuoteBlankUptoRow.holds Try.pinned (OpenSpec.upto topQuoteBlankSpec)

/-- 'testlinertop.TopLidStack', WHERE WHAT IT READS IS OF BULK AT MOST 1048576: true; the input reads as it did. -/
def topLidStackUptoRow : OpenClaim := { program := "ytolnpbpeifpbjaa", sum := "0436e86b4b06420f145f9ea778a9f8eafa92ded6b37f6ae92c48abf7e36a3379", func := "testliner/testlinertop.TopLidStack", spec := "topLidStack", unfollowed := true, recurses := true, apart := false, narrowed := true }
def TopLidStackUptoSaid : Prop := topLidStackUptoRow.holds Try.pinned (OpenSpec.upto topLidStackSpec)

end Rows
end Go.Proofs.Ytolnpbpeifpbjaa
