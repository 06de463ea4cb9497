/- Part of the proof: what the claim leans on. -/
import Derived.Test.YtnhipdbdolabkaaWAN
import Derived.Test.YtnhipdbdolabkaaWAZ
import Derived.Test.YtnhipdbdolabkaaWBB
import Derived.Test.YtnhipdbdolabkaaWAC
set_option linter.unusedSimpArgs false
set_option linter.unusedVariables false
namespace Go.Proofs.Ytnhipdbdolabkaa
open Go.RowKit
theorem sh_law {wb ln d r : Int} (hw : 0 ≤ wb) (hl : 100 ≤ ln) : (wb * (shF ln d)) + (wb * (shF ln (r - d))) ≤ (wb * (shF ln r)) ∧ ((wb * (shF ln r)) - wb) ≤ ((wb * (shF ln d)) + (wb * (shF ln (r - d)))) := by
  have h := floor_two (a := d * 100000) (b := (r - d) * 100000) (l := ln) (by omega)
  rw [show d * 100000 + (r - d) * 100000 = r * 100000 by omega] at h
  have h1 := Int.mul_le_mul_of_nonneg_left h.1 hw
  have h2 := Int.mul_le_mul_of_nonneg_left h.2 hw
  rw [Int.mul_add] at h1
  rw [Int.mul_add, Int.mul_add, Int.mul_one] at h2
  unfold shF; omega
theorem gv_law {p : Tp} {os : Nat → To} {xs : Nat → List Int × Int} (hg : GetOk p os 2 xs) {at_ : Nat} (hat : at_ < 2) {dn : Int} (hdn : 0 ≤ dn ∧ dn ≤ (xs at_).2) (hgot : ∀ i, i < 3 → (os i).lo ≤ elT (gotK xs 2) i ∧ elT (gotK xs 2) i ≤ (os i).hi) : ∀ k, k < 3 → (osL os (addK (gotK xs at_) (xs at_).1 dn 3) k).lo ≤ gvF xs at_ dn k (2 - (at_ + 1)) ∧ gvF xs at_ dn k (2 - (at_ + 1)) ≤ (osL os (addK (gotK xs at_) (xs at_).1 dn 3) k).hi := by
  intro k hk
  have e : elT (addK (gotK xs at_) (xs at_).1 dn 3) k = elT (gotK xs at_) k + elT (xs at_).1 k * dn := by rw [addK_at _ _ _ _ _ (by rw [gotK_len]; exact Nat.le_refl _), if_pos hk]
  have hb := gvF_bd hg hat hdn k (2 - (at_ + 1)) (by omega)
  have hs : elT (gotK xs 2) k = elT (gotK xs at_) k + elT (xs at_).1 k * dn + gvF xs at_ dn k (2 - (at_ + 1)) := by
    clear hb e hdn
    match at_, hat with
    | 0, _ =>
      show _ = elT (gotK xs 0) k + elT (xs 0).1 k * dn + (elT (xs 0).1 k * ((xs 0).2 - dn) + elT (xs 1).1 k * (xs 1).2)
      rw [got_at xs 1 k hk, got_at xs 0 k hk, Int.mul_sub]; omega
    | 1, _ =>
      show _ = elT (gotK xs 1) k + elT (xs 1).1 k * dn + elT (xs 1).1 k * ((xs 1).2 - dn)
      rw [got_at xs 1 k hk, Int.mul_sub]; omega
  have hq := hgot k hk
  show max 0 ((os k).lo - elT (addK (gotK xs at_) (xs at_).1 dn 3) k) ≤ _ ∧ _ ≤ max 0 ((os k).hi - elT (addK (gotK xs at_) (xs at_).1 dn 3) k)
  rw [e]; omega
theorem across_ge {fv : Nat → Int} (gfv : ∀ k, 0 ≤ fv k ∧ fv k ≤ 255) : 100 ≤ acrossOf (boxB fv 100) := by
  have g18 := gfv 18; have g19 := gfv 19; have g20 := gfv 20
  have e1 : ∀ m, acrossOf (boxB fv m) = fv 20 % 50 + ((60 + fv 18) + m) + ((50 + fv 19) + m) + ((60 + fv 18) + m) + ((50 + fv 19) + m) := fun _ => rfl
  rw [e1]; omega
theorem owI_isG {xs : List Int} {v : Value} {W : World} (h : OwI 0 xs 3 v W) (hl : xs.length = 3) : IsG xs v W := by
  obtain ⟨g, c, e, h⟩ := h
  exact ⟨g, c, e, hl ▸ h.ii, h.2.1⟩
end Go.Proofs.Ytnhipdbdolabkaa
namespace Go.Proofs.Ytnhipdbdolabkaa
open Go.RowKit
def tailC : Nat → Code → Code
  | n + 1, .seq _ b => tailC n b
  | _, c => c
def bodyC (f : Func) : Code := f.body.getD .skip
end Go.Proofs.Ytnhipdbdolabkaa
