/- Part of the proof: what the claim leans on. -/
import Derived.Test.YthnediamopehfaaGreatVLEL2
set_option linter.unusedSimpArgs false
set_option linter.unusedVariables false
namespace Go.Proofs.YthnediamopehfaaGreat
open Go.RowKit
def spanR (lo hi least most : Int) : Bool := inB lo least hi && decide (hi ≤ most)
def panR (b : Bl) (k : Nat) (c : Int) : Int := 1000 * b.panels.getD k 0 - c
def heightR (b : Bl) (c : Int) : Int := if b.isOpen = true then 1000 * b.height - c else 1000 * b.height - c - c
end Go.Proofs.YthnediamopehfaaGreat
