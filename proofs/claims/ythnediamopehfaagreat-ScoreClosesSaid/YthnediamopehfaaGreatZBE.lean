/- Part of the proof: what the claim leans on. -/
import Derived.Test.YthnediamopehfaaGreatZBC
set_option linter.unusedSimpArgs false
set_option linter.unusedVariables false
namespace Go.Proofs.YthnediamopehfaaGreat
theorem spanR_eq (lo hi least most : Int) : spanR lo hi least most = isSpan (lo, hi) least most := by
  unfold spanR isSpan within inB
  rw [Bool.eq_iff_iff]
  simp
  omega
theorem isSpan_iff {lo hi : Int} : isSpan (lo, hi) 1 10000 = true ↔ 1 ≤ lo ∧ lo ≤ hi ∧ hi ≤ 10000 := by
  rw [← spanR_eq]; unfold spanR inB; simp [and_assoc]
theorem panels_in {b : Bl} (h : checkErr b = 0) {i : Nat} (hi : i < 4) : i < b.panels.length ∧ 1 ≤ b.panels.getD i 0 ∧ b.panels.getD i 0 ≤ 3000 := by
  obtain ⟨⟨l1, -, -⟩, -, -, -, ⟨p0, p1, p2, p3⟩, -⟩ := good_nums h
  refine ⟨by omega, ?_⟩
  match i, hi with
  | 0, _ => exact p0
  | 1, _ => exact p1
  | 2, _ => exact p2
  | 3, _ => exact p3
end Go.Proofs.YthnediamopehfaaGreat
