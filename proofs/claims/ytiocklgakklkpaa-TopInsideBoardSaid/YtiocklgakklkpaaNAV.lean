/- Part of the proof: what the claim leans on. -/
import Derived.Test.YtiocklgakklkpaaNAH
import Derived.Test.YtiocklgakklkpaaNAJ
set_option linter.unusedSimpArgs false
set_option linter.unusedVariables false
namespace Go.Proofs.Ytiocklgakklkpaa
open Go.RowKit
/-- A row of one's own, in block g. -/
def OwnR (T : TypeId) (z B n : Nat) (cs : List Value) (g c : Nat) (W : World) : Prop := B ≤ g ∧ g < W.heap.size ∧ W.ownsRow B T z (.slice (some ⟨g, 0, none⟩) n c) n cs
theorem OwnR.lim {T : TypeId} {z B n g c : Nat} {cs : List Value} {W : World} (h : OwnR T z B n cs g c W) : B ≤ g ∧ g < W.heap.size := ⟨h.1, h.2.1⟩
theorem OwnR.below {T : TypeId} {z B n g c : Nat} {cs : List Value} {W W' : World} (h : OwnR T z B n cs g c W) (hb : Below W.heap.size W W') : OwnR T z B n cs g c W' := by
  refine ⟨h.1, Nat.lt_of_lt_of_le h.2.1 hb.size, h.2.2.1, ?_⟩
  rcases h.2.2.2 with h4 | ⟨g', cap, cur, e, h5, h6, h7⟩
  · exact .inl h4
  · exact .inr ⟨g', cap, cur, e, h5, blk_below h6 hb, h7⟩
theorem OwnR.other {T : TypeId} {z B n g c b : Nat} {cs : List Value} {W W' : World} (h : OwnR T z B n cs g c W) (hot : ∀ k x, k ≠ b → W.heap[k]? = some x → W'.heap[k]? = some x) (hne : g ≠ b) (hz : W.heap.size ≤ W'.heap.size) : OwnR T z B n cs g c W' := by
  refine ⟨h.1, Nat.lt_of_lt_of_le h.2.1 hz, h.2.2.1, ?_⟩
  rcases h.2.2.2 with h4 | ⟨g', cap, cur, e, h5, h6, h7⟩
  · exact .inl h4
  · cases e
    exact .inr ⟨g, c, cur, rfl, h5, hot _ _ hne h6, h7⟩
theorem OwnR.cell {T : TypeId} {z B n g c : Nat} {cs : List Value} {W : World} (h : OwnR T z B n cs g c W) (j : Nat) {u : Value} (hj : cs[j]? = some u) : W.cell? ⟨g, j, none⟩ = some u := by
  rcases h.2.2.2 with ⟨h4, -⟩ | ⟨g', cap, cur, e, h5, h6, h7, h8, h9, h10⟩
  · cases h4
  · cases e
    have e1 : cs[j]? = (cur.toList.take (n * z))[j]? := by rw [h10]
    rw [hj] at e1
    have hlt : j < n * z := by
      rcases Nat.lt_or_ge j (n * z) with h' | h'
      · exact h'
      · rw [List.getElem?_eq_none (by simp; omega)] at e1; cases e1
    rw [List.getElem?_take_of_lt hlt, Array.getElem?_toList] at e1
    rw [Joins.cell_of_block h6 j, ← e1]
/-- append(l, x..) at a region's end, l one's own. -/
theorem growR_tail {w W : World} (sl ty T : TypeId) (z by_ : Nat) (zero : Value) (hu : Try.prog.underlying sl = some (.slice T)) (hi : (Try.prog.info? T).map (fun i => (i.zero, i.size, i.bytes)) = some (some zero, z, by_)) (hzz : decide (0 < z ∧ zero.cells.size = z) = true)
    {n g c : Nat} {cs : List Value} (ys : List Value) (m : Nat) {b off k c' : Nat} (es : List Value) (hB : Below w.heap.size w W) (hown : OwnR T z w.heap.size n cs g c W) (hys : cs ++ es = ys) (hm : n + k = m)
    (hel : decide (es.length = k * z ∧ 0 < k) = true) (h1 : es.all (·.oneCell') = true) (hb : ∀ j u, es[j]? = some u → W.cell? ⟨b, off + j, none⟩ = some u) (hn : decide ((n + k) * (by_ + 1) ≤ 1000000000) = true) :
    ∃ g' c2 W', (Builtin.append_ #[sl, sl] ty #[.slice (some ⟨g, 0, none⟩) n c, .slice (some ⟨b, off, none⟩) k c']).run Try.prog W = .ok (.slice (some ⟨g', 0, none⟩) m c2) W' ∧
      OwnR T z w.heap.size m ys g' c2 W' ∧ (∀ k y, k ≠ g → W.heap[k]? = some y → W'.heap[k]? = some y) ∧ W.heap.size ≤ W'.heap.size ∧ (g' = g ∨ g' = W.heap.size) ∧ Below w.heap.size w W' := by
  subst hys hm
  have hn := of_decide_eq_true hn
  obtain ⟨hz0, hzs⟩ := of_decide_eq_true hzz
  obtain ⟨hel, hk⟩ := of_decide_eq_true hel
  obtain ⟨i0, hi, hz0', hz1, hz2⟩ := info_parts hi
  have hnk : n + k ≤ (n + k) * (by_ + 1) := Nat.le_mul_of_pos_right _ (Nat.succ_pos _)
  have hnb : (n + k) * by_ ≤ (n + k) * (by_ + 1) := Nat.mul_le_mul_left _ (Nat.le_succ _)
  obtain ⟨g', c2, W', hr, h2, h3, h4, h5⟩ := run_append_lies (P := Try.prog) W sl ty w.heap.size T i0 zero z by_ hu hi hz0' hz1 hz2 hzs hz0 _ n cs hown.2.2
    ⟨b, off, none⟩ k c' es hel (fun j u hj => by rw [add_plain']; exact hb j u hj) (fun u hu => List.all_eq_true.1 h1 u hu) hk (by unfold maxLen; omega) (by omega) hB.size _ rfl
  have h4' : g' = g ∨ g' = W.heap.size := by
    rcases h4 with h4 | h4
    · left; simpa [Value.ownBlock] using h4.symm
    · exact .inr h4
  refine ⟨g', c2, W', hr, ⟨?_, h5, h2⟩, fun k y hk hy => ?_, h3.size, h4', hB.grown h3 hB.size fun k e => ?_⟩
  · have := hown.1; have := hB.size; omega
  · rw [h3.block k (by
      rcases Nat.lt_or_ge k W.heap.size with h | h
      · exact h
      · rw [Array.getElem?_eq_none h] at hy; cases hy) (fun e => hk (by simpa [Value.ownBlock] using e))]
    exact hy
  · have : k = g := by simpa [Value.ownBlock] using e.symm
    have := hown.1; omega
/-- The same, where l is nil. -/
theorem growR_nil {w W : World} (sl ty T : TypeId) (z by_ : Nat) (zero : Value) (hu : Try.prog.underlying sl = some (.slice T)) (hi : (Try.prog.info? T).map (fun i => (i.zero, i.size, i.bytes)) = some (some zero, z, by_)) (hzz : decide (0 < z ∧ zero.cells.size = z) = true)
    (m : Nat) {b off k c' : Nat} (es : List Value) (hB : Below w.heap.size w W) (hm : 0 + k = m)
    (hel : decide (es.length = k * z ∧ 0 < k) = true) (h1 : es.all (·.oneCell') = true) (hb : ∀ j u, es[j]? = some u → W.cell? ⟨b, off + j, none⟩ = some u) (hn : decide ((0 + k) * (by_ + 1) ≤ 1000000000) = true) :
    ∃ g' c2 W', (Builtin.append_ #[sl, sl] ty #[.slice none 0 0, .slice (some ⟨b, off, none⟩) k c']).run Try.prog W = .ok (.slice (some ⟨g', 0, none⟩) m c2) W' ∧
      OwnR T z w.heap.size m es g' c2 W' ∧ (∀ k y, k ≠ W.heap.size → W.heap[k]? = some y → W'.heap[k]? = some y) ∧ W.heap.size ≤ W'.heap.size ∧ g' = W.heap.size ∧ Below w.heap.size w W' := by
  subst hm
  have hn := of_decide_eq_true hn
  obtain ⟨hz0, hzs⟩ := of_decide_eq_true hzz
  obtain ⟨hel, hk⟩ := of_decide_eq_true hel
  obtain ⟨i0, hi, hz0', hz1, hz2⟩ := info_parts hi
  have hnk : 0 + k ≤ (0 + k) * (by_ + 1) := Nat.le_mul_of_pos_right _ (Nat.succ_pos _)
  have hnb : (0 + k) * by_ ≤ (0 + k) * (by_ + 1) := Nat.mul_le_mul_left _ (Nat.le_succ _)
  obtain ⟨g', c2, W', hr, h2, h3, h4, h5⟩ := run_append_lies (P := Try.prog) W sl ty w.heap.size T i0 zero z by_ hu hi hz0' hz1 hz2 hzs hz0 _ 0 [] (World.ownsRow_nil _ _ _ _)
    ⟨b, off, none⟩ k c' es hel (fun j u hj => by rw [add_plain']; exact hb j u hj) (fun u hu => List.all_eq_true.1 h1 u hu) hk (by unfold maxLen; omega) (by omega) hB.size _ rfl
  have h4' : g' = W.heap.size := by
    rcases h4 with h4 | h4
    · cases h4
    · exact h4
  refine ⟨g', c2, W', hr, ⟨?_, h5, by rw [List.nil_append] at h2; exact h2⟩, fun k y hk hy => ?_, h3.size, h4', hB.grown h3 hB.size fun k e => (by cases e)⟩
  · have := hB.size; omega
  · rw [h3.block k (by
      rcases Nat.lt_or_ge k W.heap.size with h | h
      · exact h
      · rw [Array.getElem?_eq_none h] at hy; cases hy) (fun e => (by cases e))]
    exact hy
/-- append([]T{}, l...), where l is not empty: the copy is one's own. -/
theorem cloneR_run (sl ty T : TypeId) (z by_ : Nat) (zero : Value) (hu : Try.prog.underlying sl = some (.slice T)) (hi : (Try.prog.info? T).map (fun i => (i.zero, i.size, i.bytes)) = some (some zero, z, by_)) (hzz : decide (0 < z ∧ zero.cells.size = z) = true)
    (W : World) (g b off n c : Nat) (es : List Value) (hel : es.length = n * z) (h0 : 0 < n) (hb : ∀ j u, es[j]? = some u → W.cell? ⟨b, off + j, none⟩ = some u) (hn : n * (by_ + 1) ≤ 1000000000) :
    ∃ v W', (Builtin.append_ #[sl, sl] ty #[.slice (some ⟨g, 0, none⟩) 0 0, .slice (some ⟨b, off, none⟩) n c]).run Try.prog W = .ok v W' ∧ Below W.heap.size W W' ∧ ∃ g' c', v = .slice (some ⟨g', 0, none⟩) n c' ∧ OwnR T z W.heap.size n es g' c' W' := by
  obtain ⟨hz0, hzs⟩ := of_decide_eq_true hzz
  obtain ⟨i0, hi, hz0', hz1, hz2⟩ := info_parts hi
  have hnk : n ≤ n * (by_ + 1) := Nat.le_mul_of_pos_right _ (Nat.succ_pos _)
  have hnb : n * by_ ≤ n * (by_ + 1) := Nat.mul_le_mul_left _ (Nat.le_succ _)
  obtain ⟨v, W', hr, hown, hgr⟩ := run_append_arg_grows (P := Try.prog) W sl ty T i0 zero z by_ hu hi hz0' hz1 hz2 hzs hz0 ⟨g, 0, none⟩ 0 0 [] (by simp) (fun j u hj => by simp at hj) ⟨b, off, none⟩ n c es hel
    (fun j u hj => by rw [add_plain']; exact hb j u hj)
    (by omega) (by unfold maxLen; omega) (by rw [Nat.zero_add]; omega)
  obtain ⟨g2, cap2, rfl⟩ := Joins.ownsRow_form hown (by omega)
  simp only [Nat.zero_add, List.nil_append] at hown hr
  exact ⟨_, W', hr, (Below.refl _ _).grown hgr (Nat.le_refl _) (fun k e => by cases e), g2, cap2, rfl, own_ge hown g2 rfl, own_lt' hown, hown⟩
def paCells3 (ps : Nat → Pa) : List Value := [.int .i64 (ps 0).kind, .int .i64 (ps 0).weight, .int .i64 (ps 0).t1, .int .i64 (ps 0).t2, .int .i64 (ps 0).m1, .int .i64 (ps 0).m2, .int .i64 (ps 0).price, .int .i64 (ps 0).strong, .int .i64 (ps 1).kind, .int .i64 (ps 1).weight, .int .i64 (ps 1).t1, .int .i64 (ps 1).t2, .int .i64 (ps 1).m1, .int .i64 (ps 1).m2, .int .i64 (ps 1).price, .int .i64 (ps 1).strong, .int .i64 (ps 2).kind, .int .i64 (ps 2).weight, .int .i64 (ps 2).t1, .int .i64 (ps 2).t2, .int .i64 (ps 2).m1, .int .i64 (ps 2).m2, .int .i64 (ps 2).price, .int .i64 (ps 2).strong]
theorem PaR.cells3 {W : World} {b o : Nat} {ps : Nat → Pa} (h : PaR W b o 3 ps) : ∀ j u, (paCells3 ps)[j]? = some u → W.cell? ⟨b, o + j, none⟩ = some u := by
  obtain ⟨e0_0, e0_1, e0_2, e0_3, e0_4, e0_5, e0_6, e0_7⟩ := h.2 0 (by decide)
  obtain ⟨e1_0, e1_1, e1_2, e1_3, e1_4, e1_5, e1_6, e1_7⟩ := h.2 1 (by decide)
  obtain ⟨e2_0, e2_1, e2_2, e2_3, e2_4, e2_5, e2_6, e2_7⟩ := h.2 2 (by decide)
  intro j u hj
  match j, hj with
  | 0, hj => cases hj; exact e0_0
  | 1, hj => cases hj; exact e0_1
  | 2, hj => cases hj; exact e0_2
  | 3, hj => cases hj; exact e0_3
  | 4, hj => cases hj; exact e0_4
  | 5, hj => cases hj; exact e0_5
  | 6, hj => cases hj; exact e0_6
  | 7, hj => cases hj; exact e0_7
  | 8, hj => cases hj; exact e1_0
  | 9, hj => cases hj; exact e1_1
  | 10, hj => cases hj; exact e1_2
  | 11, hj => cases hj; exact e1_3
  | 12, hj => cases hj; exact e1_4
  | 13, hj => cases hj; exact e1_5
  | 14, hj => cases hj; exact e1_6
  | 15, hj => cases hj; exact e1_7
  | 16, hj => cases hj; exact e2_0
  | 17, hj => cases hj; exact e2_1
  | 18, hj => cases hj; exact e2_2
  | 19, hj => cases hj; exact e2_3
  | 20, hj => cases hj; exact e2_4
  | 21, hj => cases hj; exact e2_5
  | 22, hj => cases hj; exact e2_6
  | 23, hj => cases hj; exact e2_7
  | q + 24, hj => exact absurd hj (by simp [paCells3])
theorem OwnR.PaR3 {T : TypeId} {B g c : Nat} {ps : Nat → Pa} {W : World} (h : OwnR T 8 B 3 (paCells3 ps) g c W) : PaR W g 0 3 ps := by
  refine ⟨h.2.1, fun i hi => ?_⟩
  match i, hi with
  | 0, _ => exact ⟨h.cell 0 rfl, h.cell 1 rfl, h.cell 2 rfl, h.cell 3 rfl, h.cell 4 rfl, h.cell 5 rfl, h.cell 6 rfl, h.cell 7 rfl⟩
  | 1, _ => exact ⟨h.cell 8 rfl, h.cell 9 rfl, h.cell 10 rfl, h.cell 11 rfl, h.cell 12 rfl, h.cell 13 rfl, h.cell 14 rfl, h.cell 15 rfl⟩
  | 2, _ => exact ⟨h.cell 16 rfl, h.cell 17 rfl, h.cell 18 rfl, h.cell 19 rfl, h.cell 20 rfl, h.cell 21 rfl, h.cell 22 rfl, h.cell 23 rfl⟩
def fuCells2 (qs : Nat → Fu) : List Value := [.int .i64 (qs 0).pitch, .int .i64 (qs 0).draw, .int .i64 (qs 0).h1, .int .i64 (qs 0).h2, .int .i64 (qs 1).pitch, .int .i64 (qs 1).draw, .int .i64 (qs 1).h1, .int .i64 (qs 1).h2]
theorem FuR.cells2 {W : World} {b o : Nat} {qs : Nat → Fu} (h : FuR W b o 2 qs) : ∀ j u, (fuCells2 qs)[j]? = some u → W.cell? ⟨b, o + j, none⟩ = some u := by
  obtain ⟨e0_0, e0_1, e0_2, e0_3⟩ := h.2 0 (by decide)
  obtain ⟨e1_0, e1_1, e1_2, e1_3⟩ := h.2 1 (by decide)
  intro j u hj
  match j, hj with
  | 0, hj => cases hj; exact e0_0
  | 1, hj => cases hj; exact e0_1
  | 2, hj => cases hj; exact e0_2
  | 3, hj => cases hj; exact e0_3
  | 4, hj => cases hj; exact e1_0
  | 5, hj => cases hj; exact e1_1
  | 6, hj => cases hj; exact e1_2
  | 7, hj => cases hj; exact e1_3
  | q + 8, hj => exact absurd hj (by simp [fuCells2])
theorem OwnR.FuR2 {T : TypeId} {B g c : Nat} {qs : Nat → Fu} {W : World} (h : OwnR T 4 B 2 (fuCells2 qs) g c W) : FuR W g 0 2 qs := by
  refine ⟨h.2.1, fun i hi => ?_⟩
  match i, hi with
  | 0, _ => exact ⟨h.cell 0 rfl, h.cell 1 rfl, h.cell 2 rfl, h.cell 3 rfl⟩
  | 1, _ => exact ⟨h.cell 4 rfl, h.cell 5 rfl, h.cell 6 rfl, h.cell 7 rfl⟩
theorem Try.infoP : (Try.prog.info? 68).map (fun i => (i.zero, i.size, i.bytes)) = some (some (.agg #[.int .i64 0, .int .i64 0, .int .i64 0, .int .i64 0, .int .i64 0, .int .i64 0, .int .i64 0, .int .i64 0]), 8, 64) := by kernel_rfl
theorem Try.infoF : (Try.prog.info? 70).map (fun i => (i.zero, i.size, i.bytes)) = some (some (.agg #[.int .i64 0, .int .i64 0, .int .i64 0, .int .i64 0]), 4, 32) := by kernel_rfl
end Go.Proofs.Ytiocklgakklkpaa
