/- Part of the proof: what the claim leans on. -/
import Derived.Test.YtnhipdbdolabkaaWBO
import Derived.Test.YtnhipdbdolabkaaWBP
set_option linter.unusedSimpArgs false
set_option linter.unusedVariables false
namespace Go.Proofs.Ytnhipdbdolabkaa
open Go.RowKit
theorem sheets_law {p : Tp} {os : Nat → To} {n : Nat} {ys : Nat → List Int × Int} (hg : GetOk p os n ys) {ln : Int} (hl : 100 ≤ ln) {i : Nat} (hi : i < 3) : ∀ j, j ≤ n → shS ys ln i j * ln ≤ elT (gotK ys j) i * 100000 ∧ elT (gotK ys j) i * 100000 ≤ (shS ys ln i j + wbS ys i j) * ln
  | 0, _ => by rw [got_zero ys i hi]; show (0 : Int) * ln ≤ _ ∧ _ ≤ ((0 : Int) + 0) * ln; omega
  | j + 1, h => by
    have ih := sheets_law hg hl hi j (by omega)
    have hx := (getD_bd (hg.bd j (by omega)) (by decide) i).1
    rw [got_at ys j i hi, shS, wbS, Int.add_mul, Int.add_mul, Int.mul_assoc, Int.mul_assoc, show shS ys ln i j + elT (ys j).1 i * shF ln (ys j).2 + (wbS ys i j + elT (ys j).1 i) = (shS ys ln i j + wbS ys i j) + (elT (ys j).1 i * shF ln (ys j).2 + elT (ys j).1 i * 1) by omega, ← Int.mul_add, Int.add_mul, Int.mul_assoc]
    have h1 : shF ln (ys j).2 * ln ≤ (ys j).2 * 100000 := Int.ediv_mul_le _ (by omega)
    have h2 : (ys j).2 * 100000 ≤ (shF ln (ys j).2 + 1) * ln := by
      have := Int.lt_ediv_add_one_mul_self ((ys j).2 * 100000) (show 0 < ln by omega)
      unfold shF; omega
    have h3 := Int.mul_le_mul_of_nonneg_left h1 hx
    have h4 := Int.mul_le_mul_of_nonneg_left h2 hx
    omega
end Go.Proofs.Ytnhipdbdolabkaa
