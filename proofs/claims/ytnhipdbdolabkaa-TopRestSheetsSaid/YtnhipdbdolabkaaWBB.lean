/- Part of the proof: what the claim leans on. -/
import Derived.Test.YtnhipdbdolabkaaWAQ
import Derived.Test.YtnhipdbdolabkaaWAY
import Derived.Test.YtnhipdbdolabkaaWAM
import Derived.Test.YtnhipdbdolabkaaWBA
import Derived.Test.YtnhipdbdolabkaaWAG
import Derived.Test.YtnhipdbdolabkaaWAI
set_option linter.unusedSimpArgs false
set_option linter.unusedVariables false
namespace Go.Proofs.Ytnhipdbdolabkaa
open Go.RowKit
/-- Sheets of a length, and what a plan gives behind a break. -/
def shF (ln rn : Int) : Int := rn * 100000 / ln
theorem shF_bd {ln rn : Int} (h : 100 ≤ ln) (h2 : 0 ≤ rn ∧ rn ≤ 30) : 0 ≤ shF ln rn ∧ shF ln rn ≤ 30000 := by
  unfold shF
  constructor
  · exact Int.ediv_nonneg (by omega) (by omega)
  · refine Int.le_trans (Int.ediv_le_ediv (by omega) (show rn * 100000 ≤ 3000000 by omega)) ?_
    refine Int.ediv_le_of_le_mul (by omega) ?_
    omega
def gvF (xs : Nat → List Int × Int) (at_ : Nat) (dn : Int) (i : Nat) : Nat → Int
  | 0 => elT (xs at_).1 i * ((xs at_).2 - dn)
  | m + 1 => gvF xs at_ dn i m + elT (xs (at_ + 1 + m)).1 i * (xs (at_ + 1 + m)).2
theorem gvF_bd {p : Tp} {os : Nat → To} {n : Nat} {xs : Nat → List Int × Int} (hg : GetOk p os n xs) {at_ : Nat} (hat : at_ < n) {dn : Int} (hdn : 0 ≤ dn ∧ dn ≤ (xs at_).2) (i : Nat) : ∀ m, at_ + 1 + m ≤ n → 0 ≤ gvF xs at_ dn i m ∧ gvF xs at_ dn i m ≤ 120 * ((m : Int) + 1)
  | 0, _ => by
    have h := hg.rn at_ hat
    have := tr_mul (getD_bd (hg.bd at_ hat) (by decide) i) (show 0 ≤ (xs at_).2 - dn ∧ (xs at_).2 - dn ≤ 30 by omega)
    show 0 ≤ elT (xs at_).1 i * ((xs at_).2 - dn) ∧ elT (xs at_).1 i * ((xs at_).2 - dn) ≤ _
    omega
  | m + 1, hm => by
    have ih := gvF_bd hg hat hdn i m (by omega)
    have h := hg.rn (at_ + 1 + m) (by omega)
    have := tr_mul (getD_bd (hg.bd (at_ + 1 + m) (by omega)) (by decide) i) (show 0 ≤ (xs (at_ + 1 + m)).2 ∧ (xs (at_ + 1 + m)).2 ≤ 30 by omega)
    rw [gvF]
    omega
theorem gvF_next (xs : Nat → List Int × Int) {at_ j : Nat} (dn : Int) (i : Nat) (h : at_ + 1 ≤ j) : gvF xs at_ dn i (j + 1 - (at_ + 1)) = gvF xs at_ dn i (j - (at_ + 1)) + elT (xs j).1 i * (xs j).2 := by
  rw [show j + 1 - (at_ + 1) = (j - (at_ + 1)) + 1 by omega, gvF, show at_ + 1 + (j - (at_ + 1)) = j by omega]
theorem ii_addr {W : World} {a : Option Addr} {n c : Nat} {xs : List Int} (h : Ii W a n c xs) (h0 : 0 < n) : ∃ b o, a = some ⟨b, o, none⟩ := by
  obtain ⟨b, o, h1⟩ := h.open
  exact ⟨b, o, (h1 h0).1⟩
theorem ii_atn {W : World} {a : Option Addr} {b o n c k : Nat} {xs : List Int} (h : Ii W a n c xs) (e : a = some ⟨b, o, none⟩) (hk : k < n) : W.cell? ⟨b, o + k, none⟩ = some (.int .i64 (elT xs k)) := by
  obtain ⟨b', o', h1⟩ := h.open
  obtain ⟨e', h2⟩ := h1 (by omega)
  rw [e] at e'
  cases e'
  exact h2 W (Below.refl _ _) k hk
def IsAny2 (v : Value) (W : World) : Prop := True
end Go.Proofs.Ytnhipdbdolabkaa
