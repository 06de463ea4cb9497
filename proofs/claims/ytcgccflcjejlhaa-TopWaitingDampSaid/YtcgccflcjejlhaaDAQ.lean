/- Part of the proof: what the claim leans on. -/
import Derived.Test.YtcgccflcjejlhaaDAG
import Derived.Test.YtcgccflcjejlhaaDAC
set_option linter.unusedSimpArgs false
set_option linter.unusedVariables false
namespace Go.Proofs.Ytcgccflcjejlhaa
open Go.RowKit
/-- A board: the lists of its papers and of its flutes. -/
def BoV (B : Nat) (xs ys : List Int) (v : Value) (W : World) : Prop := ∃ g1 c1 g2 c2, v = .agg #[.slice (some ⟨g1, 0, none⟩) xs.length c1, .slice (some ⟨g2, 0, none⟩) ys.length c2] ∧ (Ii W (some ⟨g1, 0, none⟩) xs.length c1 xs ∧ B ≤ g1 ∧ g1 < W.heap.size) ∧ (Ii W (some ⟨g2, 0, none⟩) ys.length c2 ys ∧ B ≤ g2 ∧ g2 < W.heap.size)
theorem BoV.below {B : Nat} {xs ys : List Int} {v : Value} {W W' : World} (h : BoV B xs ys v W) (hb : Below W.heap.size W W') : BoV B xs ys v W' := by
  obtain ⟨g1, c1, g2, c2, e, ⟨h1, l1, m1⟩, ⟨h2, l2, m2⟩⟩ := h
  exact ⟨g1, c1, g2, c2, e, ⟨h1.below hb (Nat.le_refl _), l1, Nat.lt_of_lt_of_le m1 hb.size⟩, ⟨h2.below hb (Nat.le_refl _), l2, Nat.lt_of_lt_of_le m2 hb.size⟩⟩
/-- A board whose lists are one's own. -/
def BoO (B n m : Nat) (xs ys : List Int) (v : Value) (W : World) : Prop := ∃ g1 c1 g2 c2, v = .agg #[.slice (some ⟨g1, 0, none⟩) n c1, .slice (some ⟨g2, 0, none⟩) m c2] ∧ OwnI B xs g1 c1 W ∧ OwnI B ys g2 c2 W
theorem BoO.below {B n m : Nat} {xs ys : List Int} {v : Value} {W W' : World} (h : BoO B n m xs ys v W) (hb : Below W.heap.size W W') : BoO B n m xs ys v W' := by
  obtain ⟨g1, c1, g2, c2, e, h1, h2⟩ := h
  exact ⟨g1, c1, g2, c2, e, h1.below hb, h2.below hb⟩
/-- A board: the lists, with their lengths. -/
def BoL (n m : Nat) (xs ys : List Int) (v : Value) (W : World) : Prop := ∃ g1 c1 g2 c2, v = .agg #[.slice (some ⟨g1, 0, none⟩) n c1, .slice (some ⟨g2, 0, none⟩) m c2] ∧ Ii W (some ⟨g1, 0, none⟩) n c1 xs ∧ Ii W (some ⟨g2, 0, none⟩) m c2 ys
theorem BoL.below {n m : Nat} {xs ys : List Int} {v : Value} {W W' : World} (h : BoL n m xs ys v W) (hb : Below W.heap.size W W') : BoL n m xs ys v W' := by
  obtain ⟨g1, c1, g2, c2, e, h1, h2⟩ := h
  exact ⟨g1, c1, g2, c2, e, h1.below hb (Nat.le_refl _), h2.below hb (Nat.le_refl _)⟩
end Go.Proofs.Ytcgccflcjejlhaa
