/- Part of the proof: what the claim leans on. -/
import Derived.Test.YtnhipdbdolabkaaWAQ
import Derived.Test.YtnhipdbdolabkaaWAY
set_option linter.unusedSimpArgs false
set_option linter.unusedVariables false
namespace Go.Proofs.Ytnhipdbdolabkaa
open Go.RowKit
theorem floor_two {a b l : Int} (hl : 0 < l) : a / l + b / l ≤ (a + b) / l ∧ (a + b) / l ≤ a / l + b / l + 1 := by
  have h1 := Int.ediv_mul_le a (show l ≠ 0 by omega)
  have h2 := Int.ediv_mul_le b (show l ≠ 0 by omega)
  have h3 := Int.lt_ediv_add_one_mul_self a hl
  have h4 := Int.lt_ediv_add_one_mul_self b hl
  rw [Int.add_mul, Int.one_mul] at h3 h4
  constructor
  · refine (Int.le_ediv_iff_mul_le hl).2 ?_
    rw [Int.add_mul]; omega
  · have h5 : (a + b) / l < a / l + b / l + 2 := by
      refine (Int.ediv_lt_iff_lt_mul hl).2 ?_
      rw [Int.add_mul, Int.add_mul]; omega
    omega
theorem got_at (xs : Nat → List Int × Int) (k i : Nat) (hi : i < 3) : elT (gotK xs (k + 1)) i = elT (gotK xs k) i + elT (xs k).1 i * (xs k).2 := by
  rw [gotK, addK_at _ _ _ _ _ (by rw [gotK_len]; exact Nat.le_refl _), if_pos hi]
theorem got_zero (xs : Nat → List Int × Int) (i : Nat) (hi : i < 3) : elT (gotK xs 0) i = 0 := by
  match i, hi with
  | 0, _ => rfl
  | 1, _ => rfl
  | 2, _ => rfl
/-- The plan. -/
structure RunB (os : Nat → To) (xs : Nat → List Int × Int) (al0 al1 al2 m1 m2 r0 r1 nl0 nl1 nl2 nh0 nh1 nh2 : Int) : Prop where
  x0 : xs 0 = ([0, 0, m2], r0)
  x1 : xs 1 = ([1, m1, 0], r1)
  o0 : os 0 = ⟨al0, nl0, nh0⟩
  o1 : os 1 = ⟨al1, nl1, nh1⟩
  o2 : os 2 = ⟨al2, nl2, nh2⟩
  a0 : 1 ≤ al0 ∧ al0 ≤ 900
  a1 : 1 ≤ al1 ∧ al1 ≤ 900
  a2 : 1 ≤ al2 ∧ al2 ≤ 900
  hm1 : 1 ≤ m1 ∧ m1 ≤ 2
  hm2 : 1 ≤ m2 ∧ m2 ≤ 2
  hr0 : 1 ≤ r0 ∧ r0 ≤ 9
  hr1 : 1 ≤ r1 ∧ r1 ≤ 9
  n0 : 0 ≤ nl0 ∧ nl0 ≤ r1 ∧ r1 ≤ nh0 ∧ nh0 ≤ 100
  n1 : 0 ≤ nl1 ∧ nl1 ≤ m1 * r1 ∧ m1 * r1 ≤ nh1 ∧ nh1 ≤ 100
  n2 : 0 ≤ nl2 ∧ nl2 ≤ m2 * r0 ∧ m2 * r0 ≤ nh2 ∧ nh2 ≤ 100
variable {os : Nat → To} {xs : Nat → List Int × Int} {al0 al1 al2 m1 m2 r0 r1 nl0 nl1 nl2 nh0 nh1 nh2 : Int}
theorem RunB.to (h : RunB os xs al0 al1 al2 m1 m2 r0 r1 nl0 nl1 nl2 nh0 nh1 nh2) : ∀ i, i < 3 → ToIn (os i) := by
  have a0 := h.a0; have a1 := h.a1; have a2 := h.a2; have n0 := h.n0; have n1 := h.n1; have n2 := h.n2
  intro i hi
  match i, hi with
  | 0, _ => rw [h.o0]; exact ⟨⟨a0.1, by show al0 ≤ 3000; omega⟩, ⟨n0.1, by show nl0 ≤ nh0; omega, n0.2.2.2⟩⟩
  | 1, _ => rw [h.o1]; exact ⟨⟨a1.1, by show al1 ≤ 3000; omega⟩, ⟨n1.1, by show nl1 ≤ nh1; omega, n1.2.2.2⟩⟩
  | 2, _ => rw [h.o2]; exact ⟨⟨a2.1, by show al2 ≤ 3000; omega⟩, ⟨n2.1, by show nl2 ≤ nh2; omega, n2.2.2.2⟩⟩
theorem RunB.got (h : RunB os xs al0 al1 al2 m1 m2 r0 r1 nl0 nl1 nl2 nh0 nh1 nh2) : ∀ i, i < 3 → (os i).lo ≤ elT (gotK xs 2) i ∧ elT (gotK xs 2) i ≤ (os i).hi := by
  have n0 := h.n0; have n1 := h.n1; have n2 := h.n2
  intro i hi
  rw [got_at xs 1 i hi, got_at xs 0 i hi, got_zero xs i hi, h.x0, h.x1]
  match i, hi with
  | 0, _ => rw [h.o0]; show nl0 ≤ 0 + 0 * r0 + 1 * r1 ∧ 0 + 0 * r0 + 1 * r1 ≤ nh0; omega
  | 1, _ => rw [h.o1]; show nl1 ≤ 0 + 0 * r0 + m1 * r1 ∧ 0 + 0 * r0 + m1 * r1 ≤ nh1; omega
  | 2, _ => rw [h.o2]; show nl2 ≤ 0 + m2 * r0 + 0 * r1 ∧ 0 + m2 * r0 + 0 * r1 ≤ nh2; omega
theorem RunB.wr (h : RunB os xs al0 al1 al2 m1 m2 r0 r1 nl0 nl1 nl2 nh0 nh1 nh2) : wrF os (gotK xs 2) 3 0 = -1 := by
  have hb : ∀ i, i < 3 → obdF os (gotK xs 2) i = false := fun i hi => by
    unfold obdF; rw [within1_iff.2 (h.got i hi)]; rfl
  rw [wrF, hb 0 (by decide), if_neg (by decide), wrF, hb 1 (by decide), if_neg (by decide), wrF, hb 2 (by decide), if_neg (by decide)]; rfl
theorem RunB.ok (h : RunB os xs al0 al1 al2 m1 m2 r0 r1 nl0 nl1 nl2 nh0 nh1 nh2) {plo phi : Int} (h0 : plo ≤ 2900 - m2 * al2 ∧ 2900 - m2 * al2 ≤ phi) (h1 : plo ≤ 2900 - al0 - m1 * al1 ∧ 2900 - al0 - m1 * al1 ≤ phi) : GetOk ⟨2900, plo, phi, 4⟩ os 2 xs := by
  have hm1 := h.hm1; have hm2 := h.hm2; have hr0 := h.hr0; have hr1 := h.hr1
  refine ⟨by decide, fun j hj => ?_, fun j hj => ?_, fun j hj => ?_, fun j hj => ?_, fun j hj hj2 => ?_⟩
  · match j, hj with
    | 0, _ => rw [h.x0]; rfl
    | 1, _ => rw [h.x1]; rfl
  · match j, hj with
    | 0, _ => rw [h.x0]; intro x hx; simp only [List.mem_cons, List.mem_nil_iff, or_false] at hx; rcases hx with rfl | rfl | rfl <;> omega
    | 1, _ => rw [h.x1]; intro x hx; simp only [List.mem_cons, List.mem_nil_iff, or_false] at hx; rcases hx with rfl | rfl | rfl <;> omega
  · match j, hj with
    | 0, _ =>
      rw [h.x0, patF, Bool.and_eq_true, Bool.and_eq_true, within1_iff, within1_iff, decide_eq_true_iff]
      refine ⟨⟨?_, ?_⟩, ?_⟩
      · show 1 ≤ 0 + 0 + 0 + m2 ∧ 0 + 0 + 0 + m2 ≤ 4; omega
      · show (if 0 < m2 then (0 : Int) + 1 else 0) ≤ 2; split <;> omega
      · show plo ≤ 2900 - 0 * (os 0).wd - 0 * (os 1).wd - m2 * (os 2).wd ∧ 2900 - 0 * (os 0).wd - 0 * (os 1).wd - m2 * (os 2).wd ≤ phi
        rw [h.o2]; show plo ≤ 2900 - 0 * (os 0).wd - 0 * (os 1).wd - m2 * al2 ∧ 2900 - 0 * (os 0).wd - 0 * (os 1).wd - m2 * al2 ≤ phi; omega
    | 1, _ =>
      rw [h.x1, patF, Bool.and_eq_true, Bool.and_eq_true, within1_iff, within1_iff, decide_eq_true_iff]
      refine ⟨⟨?_, ?_⟩, ?_⟩
      · show 1 ≤ 0 + 1 + m1 + 0 ∧ 0 + 1 + m1 + 0 ≤ 4; omega
      · show (if 0 < m1 then (0 : Int) + 1 + 1 else 0 + 1) ≤ 2; split <;> omega
      · show plo ≤ 2900 - 1 * (os 0).wd - m1 * (os 1).wd - 0 * (os 2).wd ∧ 2900 - 1 * (os 0).wd - m1 * (os 1).wd - 0 * (os 2).wd ≤ phi
        rw [h.o0, h.o1]; show plo ≤ 2900 - 1 * al0 - m1 * al1 - 0 * (os 2).wd ∧ 2900 - 1 * al0 - m1 * al1 - 0 * (os 2).wd ≤ phi; omega
  · match j, hj with
    | 0, _ => rw [h.x0]; show 1 ≤ r0 ∧ r0 ≤ 30; omega
    | 1, _ => rw [h.x1]; show 1 ≤ r1 ∧ r1 ≤ 30; omega
  · match j, hj, hj2 with
    | 1, _, _ => rw [h.x0, h.x1]; exact ⟨0, by decide, fun i hi => absurd hi (Nat.not_lt_zero _), by show (0 : Int) < 1; decide⟩
end Go.Proofs.Ytnhipdbdolabkaa
