/- Part of the proof: what the claim leans on. -/
import Derived.Test.YthnediamopehfaaWAK
import Derived.Test.YthnediamopehfaaWAV
import Derived.Test.YthnediamopehfaaWAW
set_option linter.unusedSimpArgs false
set_option linter.unusedVariables false
namespace Go.Proofs.Ythnediamopehfaa
open Go.RowKit
theorem Try.info22y : (Try.prog.info? 22).map (fun i => (i.zero, i.size, i.bytes)) = some (some (.slice none 0 0), 1, 24) := by kernel_rfl
/-- Two values one after another in a block. -/
def TwoAt (g : Nat) (v0 v1 : Value) (W : World) : Prop := g < W.heap.size ∧ W.cell? ⟨g, 0, none⟩ = some v0 ∧ W.cell? ⟨g, 1, none⟩ = some v1
theorem TwoAt.below {g : Nat} {v0 v1 : Value} {W W' : World} (h : TwoAt g v0 v1 W) (hb : Below W.heap.size W W') : TwoAt g v0 v1 W' :=
  ⟨Nat.lt_of_lt_of_le h.1 hb.size, (hb.cell (p := ⟨g, 0, none⟩) h.1).trans h.2.1, (hb.cell (p := ⟨g, 1, none⟩) h.1).trans h.2.2⟩
theorem TwoAt.other {g b : Nat} {v0 v1 : Value} {W W' : World} (h : TwoAt g v0 v1 W) (hot : ∀ k x, k ≠ b → W.heap[k]? = some x → W'.heap[k]? = some x) (hne : g ≠ b) (hz : W.heap.size ≤ W'.heap.size) : TwoAt g v0 v1 W' := by
  have hx : W.heap[g]? = some (W.heap[g]'h.1) := Array.getElem?_eq_getElem h.1
  have e : W'.heap[g]? = W.heap[g]? := by rw [hot g _ hne hx, hx]
  exact ⟨Nat.lt_of_lt_of_le h.1 hz, (World.cell?_of_block (w := W) (w' := W') (a := ⟨g, 0, none⟩) e).trans h.2.1, (World.cell?_of_block (w := W) (w' := W') (a := ⟨g, 1, none⟩) e).trans h.2.2⟩
def IsTwo (B : Nat) (v0 v1 v : Value) (W : World) : Prop := ∃ g c, v = .slice (some ⟨g, 0, none⟩) 2 c ∧ TwoAt g v0 v1 W ∧ B ≤ g
theorem IsTwo.below {B : Nat} {v0 v1 v : Value} {W W' : World} (h : IsTwo B v0 v1 v W) (hb : Below W.heap.size W W') : IsTwo B v0 v1 v W' := by
  obtain ⟨g, c, e, h, hB⟩ := h; exact ⟨g, c, e, h.below hb, hB⟩
theorem grow2_run (ty : TypeId) (W : World) (g0 g1 : Nat) (v0 v1 : Value) (h0 : W.heap[g0]? = some (.cells #[v0] 22 (0, 0))) (h1 : W.heap[g1]? = some (.cells #[v1] 22 (0, 0))) (B : Nat) (hB : B ≤ W.heap.size) :
    ∃ v W', (Builtin.append_ #[107, 107] ty #[.slice (some ⟨g0, 0, none⟩) 1 1, .slice (some ⟨g1, 0, none⟩) 1 1]).run Try.prog W = .ok v W' ∧ Below W.heap.size W W' ∧ IsTwo B v0 v1 v W' := by
  obtain ⟨i0, hi, hz0, hz1, hz2⟩ := info_parts Try.info22y
  have cl : ∀ (g : Nat) (x : Value), W.heap[g]? = some (.cells #[x] 22 (0, 0)) → ∀ j u, [x][j]? = some u → W.cell? ((⟨g, 0, none⟩ : Addr).add j) = some u := by
    intro g x hg j u hj
    match j, hj with
    | 0, hj =>
      simp at hj; subst hj
      rw [show ((⟨g, 0, none⟩ : Addr).add 0) = ⟨g, 0, none⟩ from by unfold Addr.add; split <;> simp_all]
      exact Joins.cell_of_block hg 0
  obtain ⟨v, W', hr, hown, hgr⟩ := run_append_arg_grows (P := Try.prog) W 107 ty 22 i0 (.slice none 0 0) 1 24 Try.underlying107 hi hz0 hz1 hz2 rfl (by decide) ⟨g0, 0, none⟩ 1 1 [v0] rfl (cl g0 v0 h0) ⟨g1, 0, none⟩ 1 1 [v1] rfl (cl g1 v1 h1) (by decide) (by decide) (by decide)
  obtain ⟨g2, cap2, rfl⟩ := Joins.ownsRow_form hown (by decide)
  have c0 := hown.cellAt 0 (by decide)
  have c1 := hown.cellAt 1 (by decide)
  refine ⟨_, W', hr, (Below.refl _ _).grown hgr (Nat.le_refl _) (fun k e => by cases e), g2, _, rfl, ⟨own_lt' hown, ?_, ?_⟩, Nat.le_trans hB (own_ge hown g2 rfl)⟩
  · simpa using c0
  · simpa using c1
end Go.Proofs.Ythnediamopehfaa
namespace Go.Proofs.Ythnediamopehfaa
open Go.RowKit
end Go.Proofs.Ythnediamopehfaa
