/- Part of the proof: what the claim leans on. -/
import Derived.Test.YtcgccflcjejlhaaVAE
set_option linter.unusedSimpArgs false
set_option linter.unusedVariables false
namespace Go.Proofs.Ytcgccflcjejlhaa
open Go.RowKit
structure MoIn (lo hi : Int) : Prop where
  h : 0 ≤ lo ∧ lo ≤ hi ∧ hi ≤ 300
def SpR (W : World) (b o n : Nat) (ss : Nat → Int × Int) : Prop := b < W.heap.size ∧ ∀ i, i < n → W.cell? ⟨b, o + i * 2, none⟩ = some (.int .i64 (ss i).1) ∧ W.cell? ⟨b, o + i * 2 + 1, none⟩ = some (.int .i64 (ss i).2)
theorem SpR.below {W W' : World} {b o n : Nat} {ss : Nat → Int × Int} (h : SpR W b o n ss) (hb : Below W.heap.size W W') : SpR W' b o n ss :=
  ⟨Nat.lt_of_lt_of_le h.1 hb.size, fun i hi => ⟨(hb.cell (p := ⟨b, o + i * 2, none⟩) h.1).trans (h.2 i hi).1, (hb.cell (p := ⟨b, o + i * 2 + 1, none⟩) h.1).trans (h.2 i hi).2⟩⟩
structure Ds where
  lo : Int
  hi : Int
  hr : Int
structure DsIn (d : Ds) : Prop where
  m : 0 ≤ d.lo ∧ d.lo ≤ d.hi ∧ d.hi ≤ 300
  h : 0 ≤ d.hr ∧ d.hr ≤ 500
end Go.Proofs.Ytcgccflcjejlhaa
