/- Part of the proof: what the claim leans on. -/
import Derived.Test.YthnediamopehfaaWAU
set_option linter.unusedSimpArgs false
set_option linter.unusedVariables false
namespace Go.Proofs.Ythnediamopehfaa
open Go.RowKit
/-- Whether a blank can close with a caliper. -/
def closesOf (b : Bl) (w : Wi) (off c : Int) : Bool :=
  let us := if b.isOpen then [(b.bottom.getD 0 0, b.bottom.getD 1 0)] else [(b.bottom.getD 0 0, b.bottom.getD 1 0), (b.top.getD 0 0, b.top.getD 1 0)]
  let pan := fun i => someB 1 (b.panels.getD i 0) off fun p => okP w c off p us i
  (b.isOpen == w.isOpen) && (pan 0 && (pan 1 && (pan 2 && (pan 3 && (decide (c ≤ 1000 * min 20 (b.slot + off)) && someB 1 b.height off fun n => isInOf n (foldsOf b.isOpen) c w.height)))))
theorem not_f {x : Bool} (h : (!x) = false) : x = true := by cases x <;> simp_all
theorem not_t {x : Bool} (h : (!x) = true) : x = false := by cases x <;> simp_all
end Go.Proofs.Ythnediamopehfaa
