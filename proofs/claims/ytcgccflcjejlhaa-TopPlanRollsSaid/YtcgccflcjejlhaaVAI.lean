/- Part of the proof: what the claim leans on. -/
import Derived.Test.YtcgccflcjejlhaaVAC
import Derived.Test.YtcgccflcjejlhaaVAH
import Derived.Test.YtcgccflcjejlhaaVAB
import Derived.Test.YtcgccflcjejlhaaVAA
import Derived.Test.YtcgccflcjejlhaaVAD
import Derived.Test.YtcgccflcjejlhaaVAF
import Derived.Test.YtcgccflcjejlhaaVAE
set_option linter.unusedSimpArgs false
set_option linter.unusedVariables false
namespace Go.Proofs.Ytcgccflcjejlhaa
open Go.RowKit
def OwnR (T : TypeId) (z B n : Nat) (cs : List Value) (g c : Nat) (W : World) : Prop := B ≤ g ∧ g < W.heap.size ∧ W.ownsRow B T z (.slice (some ⟨g, 0, none⟩) n c) n cs
theorem OwnR.lim {T : TypeId} {z B n g c : Nat} {cs : List Value} {W : World} (h : OwnR T z B n cs g c W) : B ≤ g ∧ g < W.heap.size := ⟨h.1, h.2.1⟩
theorem OwnR.below {T : TypeId} {z B n g c : Nat} {cs : List Value} {W W' : World} (h : OwnR T z B n cs g c W) (hb : Below W.heap.size W W') : OwnR T z B n cs g c W' := by
  refine ⟨h.1, Nat.lt_of_lt_of_le h.2.1 hb.size, h.2.2.1, ?_⟩
  rcases h.2.2.2 with h4 | ⟨g', cap, cur, e, h5, h6, h7⟩
  · exact .inl h4
  · exact .inr ⟨g', cap, cur, e, h5, bwb h6 hb, h7⟩
theorem OwnR.other {T : TypeId} {z B n g c b : Nat} {cs : List Value} {W W' : World} (h : OwnR T z B n cs g c W) (hot : ∀ k x, k ≠ b → W.heap[k]? = some x → W'.heap[k]? = some x) (hne : g ≠ b) (hz : W.heap.size ≤ W'.heap.size) : OwnR T z B n cs g c W' := by
  refine ⟨h.1, Nat.lt_of_lt_of_le h.2.1 hz, h.2.2.1, ?_⟩
  rcases h.2.2.2 with h4 | ⟨g', cap, cur, e, h5, h6, h7⟩
  · exact .inl h4
  · cases e
    exact .inr ⟨g, c, cur, rfl, h5, hot _ _ hne h6, h7⟩
theorem OwnR.cell {T : TypeId} {z B n g c : Nat} {cs : List Value} {W : World} (h : OwnR T z B n cs g c W) (j : Nat) {u : Value} (hj : cs[j]? = some u) : W.cell? ⟨g, j, none⟩ = some u := by
  rcases h.2.2.2 with ⟨h4, -⟩ | ⟨g', cap, cur, e, h5, h6, h7, h8, h9, h10⟩
  · cases h4
  · cases e
    have e1 : cs[j]? = (cur.toList.take (n * z))[j]? := by rw [h10]
    rw [hj] at e1
    have hlt : j < n * z := by
      rcases Nat.lt_or_ge j (n * z) with h' | h'
      · exact h'
      · rw [List.getElem?_eq_none (by simp; omega)] at e1; cases e1
    rw [List.getElem?_take_of_lt hlt, Array.getElem?_toList] at e1
    rw [Joins.cell_of_block h6 j, ← e1]
theorem growR_tail {w W : World} (sl ty T : TypeId) (z by_ : Nat) (zero : Value) (hu : Try.prog.underlying sl = some (.slice T)) (hi : (Try.prog.info? T).map (fun i => (i.zero, i.size, i.bytes)) = some (some zero, z, by_)) (hzz : decide (0 < z ∧ zero.cells.size = z) = true)
    {n g c : Nat} {cs : List Value} (ys : List Value) (m : Nat) {b off k c' : Nat} (es : List Value) (hB : Below w.heap.size w W) (hown : OwnR T z w.heap.size n cs g c W) (hys : cs ++ es = ys) (hm : n + k = m)
    (hel : decide (es.length = k * z ∧ 0 < k) = true) (h1 : es.all (·.oneCell') = true) (hb : ∀ j u, es[j]? = some u → W.cell? ⟨b, off + j, none⟩ = some u) (hn : decide ((n + k) * (by_ + 1) ≤ 1000000000) = true) :
    ∃ g' c2 W', (Builtin.append_ #[sl, sl] ty #[.slice (some ⟨g, 0, none⟩) n c, .slice (some ⟨b, off, none⟩) k c']).run Try.prog W = .ok (.slice (some ⟨g', 0, none⟩) m c2) W' ∧
      OwnR T z w.heap.size m ys g' c2 W' ∧ (∀ k y, k ≠ g → W.heap[k]? = some y → W'.heap[k]? = some y) ∧ W.heap.size ≤ W'.heap.size ∧ (g' = g ∨ g' = W.heap.size) ∧ Below w.heap.size w W' := by
  subst hys hm
  have hn := of_decide_eq_true hn
  obtain ⟨hz0, hzs⟩ := of_decide_eq_true hzz
  obtain ⟨hel, hk⟩ := of_decide_eq_true hel
  obtain ⟨i0, hi, hz0', hz1, hz2⟩ := info_parts hi
  have hnk : n + k ≤ (n + k) * (by_ + 1) := Nat.le_mul_of_pos_right _ (Nat.succ_pos _)
  have hnb : (n + k) * by_ ≤ (n + k) * (by_ + 1) := Nat.mul_le_mul_left _ (Nat.le_succ _)
  obtain ⟨g', c2, W', hr, h2, h3, h4, h5⟩ := run_append_lies (P := Try.prog) W sl ty w.heap.size T i0 zero z by_ hu hi hz0' hz1 hz2 hzs hz0 _ n cs hown.2.2
    ⟨b, off, none⟩ k c' es hel (fun j u hj => by rw [add_plain']; exact hb j u hj) (fun u hu => List.all_eq_true.1 h1 u hu) hk (by unfold maxLen; omega) (by omega) hB.size _ rfl
  have h4' : g' = g ∨ g' = W.heap.size := by
    rcases h4 with h4 | h4
    · left; simpa [Value.ownBlock] using h4.symm
    · exact .inr h4
  refine ⟨g', c2, W', hr, ⟨?_, h5, h2⟩, fun k y hk hy => ?_, h3.size, h4', hB.grown h3 hB.size fun k e => ?_⟩
  · have := hown.1; have := hB.size; omega
  · rw [h3.block k (by
      rcases Nat.lt_or_ge k W.heap.size with h | h
      · exact h
      · rw [Array.getElem?_eq_none h] at hy; cases hy) (fun e => hk (by simpa [Value.ownBlock] using e))]
    exact hy
  · have : k = g := by simpa [Value.ownBlock] using e.symm
    have := hown.1; omega
theorem growR_nil {w W : World} (sl ty T : TypeId) (z by_ : Nat) (zero : Value) (hu : Try.prog.underlying sl = some (.slice T)) (hi : (Try.prog.info? T).map (fun i => (i.zero, i.size, i.bytes)) = some (some zero, z, by_)) (hzz : decide (0 < z ∧ zero.cells.size = z) = true)
    (m : Nat) {b off k c' : Nat} (es : List Value) (hB : Below w.heap.size w W) (hm : 0 + k = m)
    (hel : decide (es.length = k * z ∧ 0 < k) = true) (h1 : es.all (·.oneCell') = true) (hb : ∀ j u, es[j]? = some u → W.cell? ⟨b, off + j, none⟩ = some u) (hn : decide ((0 + k) * (by_ + 1) ≤ 1000000000) = true) :
    ∃ g' c2 W', (Builtin.append_ #[sl, sl] ty #[.slice none 0 0, .slice (some ⟨b, off, none⟩) k c']).run Try.prog W = .ok (.slice (some ⟨g', 0, none⟩) m c2) W' ∧
      OwnR T z w.heap.size m es g' c2 W' ∧ (∀ k y, k ≠ W.heap.size → W.heap[k]? = some y → W'.heap[k]? = some y) ∧ W.heap.size ≤ W'.heap.size ∧ g' = W.heap.size ∧ Below w.heap.size w W' := by
  subst hm
  have hn := of_decide_eq_true hn
  obtain ⟨hz0, hzs⟩ := of_decide_eq_true hzz
  obtain ⟨hel, hk⟩ := of_decide_eq_true hel
  obtain ⟨i0, hi, hz0', hz1, hz2⟩ := info_parts hi
  have hnk : 0 + k ≤ (0 + k) * (by_ + 1) := Nat.le_mul_of_pos_right _ (Nat.succ_pos _)
  have hnb : (0 + k) * by_ ≤ (0 + k) * (by_ + 1) := Nat.mul_le_mul_left _ (Nat.le_succ _)
  obtain ⟨g', c2, W', hr, h2, h3, h4, h5⟩ := run_append_lies (P := Try.prog) W sl ty w.heap.size T i0 zero z by_ hu hi hz0' hz1 hz2 hzs hz0 _ 0 [] (World.ownsRow_nil _ _ _ _)
    ⟨b, off, none⟩ k c' es hel (fun j u hj => by rw [add_plain']; exact hb j u hj) (fun u hu => List.all_eq_true.1 h1 u hu) hk (by unfold maxLen; omega) (by omega) hB.size _ rfl
  have h4' : g' = W.heap.size := by
    rcases h4 with h4 | h4
    · cases h4
    · exact h4
  refine ⟨g', c2, W', hr, ⟨?_, h5, by rw [List.nil_append] at h2; exact h2⟩, fun k y hk hy => ?_, h3.size, h4', hB.grown h3 hB.size fun k e => (by cases e)⟩
  · have := hB.size; omega
  · rw [h3.block k (by
      rcases Nat.lt_or_ge k W.heap.size with h | h
      · exact h
      · rw [Array.getElem?_eq_none h] at hy; cases hy) (fun e => (by cases e))]
    exact hy
theorem cloneR_run (sl ty T : TypeId) (z by_ : Nat) (zero : Value) (hu : Try.prog.underlying sl = some (.slice T)) (hi : (Try.prog.info? T).map (fun i => (i.zero, i.size, i.bytes)) = some (some zero, z, by_)) (hzz : decide (0 < z ∧ zero.cells.size = z) = true)
    (W : World) (g b off n c : Nat) (es : List Value) (hel : es.length = n * z) (h0 : 0 < n) (hb : ∀ j u, es[j]? = some u → W.cell? ⟨b, off + j, none⟩ = some u) (hn : n * (by_ + 1) ≤ 1000000000) :
    ∃ v W', (Builtin.append_ #[sl, sl] ty #[.slice (some ⟨g, 0, none⟩) 0 0, .slice (some ⟨b, off, none⟩) n c]).run Try.prog W = .ok v W' ∧ Below W.heap.size W W' ∧ ∃ g' c', v = .slice (some ⟨g', 0, none⟩) n c' ∧ OwnR T z W.heap.size n es g' c' W' := by
  obtain ⟨hz0, hzs⟩ := of_decide_eq_true hzz
  obtain ⟨i0, hi, hz0', hz1, hz2⟩ := info_parts hi
  have hnk : n ≤ n * (by_ + 1) := Nat.le_mul_of_pos_right _ (Nat.succ_pos _)
  have hnb : n * by_ ≤ n * (by_ + 1) := Nat.mul_le_mul_left _ (Nat.le_succ _)
  obtain ⟨v, W', hr, hown, hgr⟩ := run_append_arg_grows (P := Try.prog) W sl ty T i0 zero z by_ hu hi hz0' hz1 hz2 hzs hz0 ⟨g, 0, none⟩ 0 0 [] (by simp) (fun j u hj => by simp at hj) ⟨b, off, none⟩ n c es hel
    (fun j u hj => by rw [add_plain']; exact hb j u hj)
    (by omega) (by unfold maxLen; omega) (by rw [Nat.zero_add]; omega)
  obtain ⟨g2, cap2, rfl⟩ := Joins.ownsRow_form hown (by omega)
  simp only [Nat.zero_add, List.nil_append] at hown hr
  exact ⟨_, W', hr, (Below.refl _ _).grown hgr (Nat.le_refl _) (fun k e => by cases e), g2, cap2, rfl, own_ge hown g2 rfl, own_lt' hown, hown⟩
open Go.RowKit Go.Shelf
attribute [local go_sem] Oper.semAt_some
open Go.RowKit
open Go.RowKit
open Go.RowKit
open Go.RowKit
open Go.RowKit
open Go.RowKit
open Go.RowKit
structure LeY (b : Nat) (T : TypeId) (F : Array Value) (A C : World) : Prop where
  keep : KeepX b A C
  box : ∀ cs, A.heap[b]? = some (.cells cs T (0, 0)) → C.heap[b]? = some (.cells cs T (0, 0)) ∨ C.heap[b]? = some (.cells F T (0, 0))
section
variable {b : Nat} {T : TypeId} {F : Array Value}
end
open Go.RowKit
open Go.RowKit
open Go.RowKit
def ByR (W : World) (b o n : Nat) (bs : Nat → Int) : Prop := b < W.heap.size ∧ ∀ i, i < n → W.cell? ⟨b, o + i, none⟩ = some (.int .u8 (bs i))
theorem ByR.below {W W' : World} {b o n : Nat} {bs : Nat → Int} (h : ByR W b o n bs) (hb : Below W.heap.size W W') : ByR W' b o n bs :=
  ⟨Nat.lt_of_lt_of_le h.1 hb.size, fun i hi => (hb.cell (p := ⟨b, o + i, none⟩) h.1).trans (h.2 i hi)⟩
open Go.RowKit
def OwnN (T : TypeId) (z B n : Nat) (cs : List Value) (a : Option Addr) (c : Nat) (W : World) : Prop :=
  (a = none ∧ n = 0 ∧ c = 0 ∧ cs = []) ∨ ∃ g, a = some ⟨g, 0, none⟩ ∧ OwnR T z B n cs g c W
theorem ownN_nil {T : TypeId} {z B : Nat} {W : World} : OwnN T z B 0 [] none 0 W := .inl ⟨rfl, rfl, rfl, rfl⟩
theorem OwnN.below {T : TypeId} {z B n c : Nat} {cs : List Value} {a : Option Addr} {W W' : World} (h : OwnN T z B n cs a c W) (hb : Below W.heap.size W W') : OwnN T z B n cs a c W' := by
  rcases h with h | ⟨g, e, h⟩
  · exact .inl h
  · exact .inr ⟨g, e, h.below hb⟩
theorem OwnN.lim {T : TypeId} {z B n c : Nat} {cs : List Value} {a : Option Addr} {W : World} (h : OwnN T z B n cs a c W) : ∀ g, a = some ⟨g, 0, none⟩ → B ≤ g ∧ g < W.heap.size := by
  intro g e
  rcases h with ⟨e', -⟩ | ⟨g', e', h⟩
  · rw [e'] at e; cases e
  · rw [e'] at e; cases e; exact h.lim
theorem ownN_ne {T T' : TypeId} {z B n c b : Nat} {cs : List Value} {a : Option Addr} {cs0 : Array Value} {W : World} (h : OwnN T z B n cs a c W) (hb : W.heap[b]? = some (.cells cs0 T' (0, 0))) (hT : (T' != T) = true := by decide) : ∀ g, a = some ⟨g, 0, none⟩ → g ≠ b := by
  intro g e
  rcases h with ⟨e', -⟩ | ⟨g', e', h⟩
  · rw [e'] at e; cases e
  · rw [e'] at e; cases e
    rintro rfl
    have hT' : T' ≠ T := bne_iff_ne.1 hT
    rcases h.2.2.2 with ⟨e, -⟩ | ⟨g', cap, cur, e, -, h6, -⟩
    · cases e
    · cases e
      rw [hb] at h6
      simp only [Option.some.injEq, Obj.cells.injEq] at h6
      exact hT' h6.2.1
theorem OwnN.other {T : TypeId} {z B n c b : Nat} {cs : List Value} {a : Option Addr} {W W' : World} (h : OwnN T z B n cs a c W) (hot : ∀ k x, k ≠ b → W.heap[k]? = some x → W'.heap[k]? = some x) (hne : ∀ g, a = some ⟨g, 0, none⟩ → g ≠ b) (hz : W.heap.size ≤ W'.heap.size) : OwnN T z B n cs a c W' := by
  rcases h with h | ⟨g, e, h⟩
  · exact .inl h
  · exact .inr ⟨g, e, h.other hot (hne g e) hz⟩
theorem OwnR.same {T : TypeId} {z B n g c : Nat} {cs : List Value} {W W' : World} (h : OwnR T z B n cs g c W) (hz : W.heap.size ≤ W'.heap.size) (hb : ∀ x, W.heap[g]? = some x → W'.heap[g]? = some x) : OwnR T z B n cs g c W' := by
  refine ⟨h.1, Nat.lt_of_lt_of_le h.2.1 hz, h.2.2.1, ?_⟩
  rcases h.2.2.2 with h4 | ⟨g', cap, cur, e, h5, h6, h7⟩
  · exact .inl h4
  · cases e
    exact .inr ⟨g, c, cur, rfl, h5, hb _ h6, h7⟩
theorem OwnN.otherN {T T' : TypeId} {z z' B B' n n' c c' : Nat} {cs cs' : List Value} {a a' : Option Addr} {W W' : World} (h : OwnN T z B n cs a c W) (h' : OwnN T' z' B' n' cs' a' c' W) (hot : ∀ k y, (∀ g, a' = some ⟨g, 0, none⟩ → g ≠ k) → W.heap[k]? = some y → W'.heap[k]? = some y) (hz : W.heap.size ≤ W'.heap.size) (hT : (T != T') = true := by decide) : OwnN T z B n cs a c W' := by
  rcases h with h | ⟨g, e, h⟩
  · exact .inl h
  · refine .inr ⟨g, e, h.same hz fun x hx => ?_⟩
    have hx' := hx
    rcases h.2.2.2 with ⟨e, -⟩ | ⟨g', cap, cur, e, h5, h6, h7⟩
    · cases e
    · cases e
      exact hot g x (ownN_ne h' h6 hT) hx'
theorem growN_tail {w W : World} (sl ty T : TypeId) (z by_ : Nat) (zero : Value) (hu : Try.prog.underlying sl = some (.slice T)) (hi : (Try.prog.info? T).map (fun i => (i.zero, i.size, i.bytes)) = some (some zero, z, by_)) (hzz : decide (0 < z ∧ zero.cells.size = z) = true)
    {n c : Nat} {a : Option Addr} {cs : List Value} (ys : List Value) (m : Nat) {b off k c' : Nat} (es : List Value) (hB : Below w.heap.size w W) (hown : OwnN T z w.heap.size n cs a c W) (hys : cs ++ es = ys) (hm : n + k = m)
    (hel : decide (es.length = k * z ∧ 0 < k) = true) (h1 : es.all (·.oneCell') = true) (hb : ∀ j u, es[j]? = some u → W.cell? ⟨b, off + j, none⟩ = some u) (hn : (n + k) * (by_ + 1) ≤ 1000000000) :
    ∃ g' c2 W', (Builtin.append_ #[sl, sl] ty #[.slice a n c, .slice (some ⟨b, off, none⟩) k c']).run Try.prog W = .ok (.slice (some ⟨g', 0, none⟩) m c2) W' ∧
      OwnR T z w.heap.size m ys g' c2 W' ∧ (∀ k y, (∀ g, a = some ⟨g, 0, none⟩ → g ≠ k) → W.heap[k]? = some y → W'.heap[k]? = some y) ∧ W.heap.size ≤ W'.heap.size ∧ (a = some ⟨g', 0, none⟩ ∨ g' = W.heap.size) ∧ Below w.heap.size w W' := by
  rcases hown with ⟨rfl, rfl, rfl, rfl⟩ | ⟨g, rfl, hown⟩
  · obtain ⟨g', c2, W', hr, h1', h2, h3, h4, h5⟩ := growR_nil (w := w) (W := W) sl ty T z by_ zero hu hi hzz m (b := b) (off := off) (k := k) (c' := c') es hB hm hel h1 hb (decide_eq_true hn)
    refine ⟨g', c2, W', hr, by rw [← hys]; exact h1', fun k y _ hy => h2 k y (fun e => ?_) hy, h3, .inr h4, h5⟩
    have := ltb hy
    omega
  · obtain ⟨g', c2, W', hr, h1', h2, h3, h4, h5⟩ := growR_tail (w := w) (W := W) sl ty T z by_ zero hu hi hzz ys m (b := b) (off := off) (k := k) (c' := c') es hB hown hys hm hel h1 hb (decide_eq_true hn)
    exact ⟨g', c2, W', hr, h1', fun k y hk hy => h2 k y (fun e => hk g rfl e.symm) hy, h3, h4.imp (fun e => by rw [e]) id, h5⟩
def RowsB (W : World) (a : Option Addr) (n k : Nat) (pv : Nat → Nat → Int) : Prop := n = 0 ∨ ∃ b o, a = some ⟨b, o, none⟩ ∧ b < W.heap.size ∧ ∀ i j, i < n → j < k → W.cell? ⟨b, o + i * k + j, none⟩ = some (.int .u8 (pv i j))
theorem RowsB.below {W W' : World} {a : Option Addr} {n k : Nat} {pv : Nat → Nat → Int} (h : RowsB W a n k pv) (hb : Below W.heap.size W W') : RowsB W' a n k pv := by
  rcases h with h | ⟨b, o, e, hlt, h⟩
  · exact .inl h
  · exact .inr ⟨b, o, e, Nat.lt_of_lt_of_le hlt hb.size, fun i j hi hj => (hb.cell (p := ⟨b, o + i * k + j, none⟩) hlt).trans (h i j hi hj)⟩
theorem RowsB.at' {W : World} {a : Option Addr} {n k : Nat} {pv : Nat → Nat → Int} (h : RowsB W a n k pv) : ∃ b o, 0 < n → a = some ⟨b, o, none⟩ ∧ ∀ W', Below W.heap.size W W' → ∀ i j, i < n → j < k → W'.cell? ⟨b, o + i * k + j, none⟩ = some (.int .u8 (pv i j)) := by
  rcases h with h | ⟨b, o, e, hlt, h⟩
  · exact ⟨0, 0, fun h0 => by omega⟩
  · exact ⟨b, o, fun _ => ⟨e, fun W' hb i j hi hj => (hb.cell (p := ⟨b, o + i * k + j, none⟩) hlt).trans (h i j hi hj)⟩⟩
theorem OwnN.row {T : TypeId} {z B n g c : Nat} {cs : List Value} {W : World} (h : OwnN T z B n cs (some ⟨g, 0, none⟩) c W) : OwnR T z B n cs g c W := by
  rcases h with ⟨e, -⟩ | ⟨g', e, h⟩
  · cases e
  · cases e; exact h
theorem OwnN.low {T : TypeId} {z B B' n c : Nat} {cs : List Value} {a : Option Addr} {W : World} (h : OwnN T z B n cs a c W) (hB : B' ≤ B) : OwnN T z B' n cs a c W := by
  rcases h with h | ⟨g, e, h⟩
  · exact .inl h
  · exact .inr ⟨g, e, Nat.le_trans hB h.1, h.2.1, ownsRow_low h.2.2 hB⟩
open Go.RowKit
structure Qu where
  ar : Int
  bo : Int
  wa : Int
  tl : Int
  se : Int
  ru : Int
  wo : Int
  pl : Int
  fr : Int
  ma : Int
  sf : Int
  so : Int
structure QuIn (q : Qu) : Prop where
  ar : 1 ≤ q.ar ∧ q.ar ≤ 100000
  bo : 0 ≤ q.bo ∧ q.bo ≤ 100000
  wa : 0 ≤ q.wa ∧ q.wa ≤ 500
  tl : 0 ≤ q.tl ∧ q.tl ≤ 1000000
  se : 0 ≤ q.se ∧ q.se ≤ 1000000
  ru : 1 ≤ q.ru ∧ q.ru ≤ 100000
  wo : 0 ≤ q.wo ∧ q.wo ≤ 1000000
  pl : 1 ≤ q.pl ∧ q.pl ≤ 100000
  fr : 0 ≤ q.fr ∧ q.fr ≤ 1000000
  ma : 0 ≤ q.ma ∧ q.ma ≤ 1000
  sf : 1 ≤ q.sf ∧ q.sf ≤ 100000
  so : 0 ≤ q.so ∧ q.so ≤ 900
def upQ (n d : Int) : Int := (n + d - 1) / d
def b1Q (q : Qu) (n : Int) : Int := n * q.ar
def b2Q (q : Qu) (n : Int) : Int := b1Q q n * (1000 + q.wa)
def b3Q (q : Qu) (n : Int) : Int := b2Q q n * q.bo
def boardQ (q : Qu) (n : Int) : Int := upQ (b3Q q n) 10000000000
def setQ (q : Qu) (n : Int) : Int := q.se * upQ n q.ru
def workQ (q : Qu) (n : Int) : Int := upQ (q.wo * n) 1000
def frQ (q : Qu) (n : Int) : Int := q.fr * upQ n q.pl
def costQ (q : Qu) (n : Int) : Int := boardQ q n + q.tl + setQ q n + workQ q n + frQ q n
def offQ (q : Qu) (n : Int) : Int := if q.sf ≤ n then q.so else 0
def p1Q (q : Qu) (n : Int) : Int := costQ q n * (1000 + q.ma)
def p2Q (q : Qu) (n : Int) : Int := p1Q q n * (1000 - offQ q n)
def priceQ (q : Qu) (n : Int) : Int := upQ (p2Q q n) 1000000
structure QuNo (q : Qu) (n : Int) : Prop where
  b1 : 0 ≤ b1Q q n ∧ b1Q q n ≤ 10000000000
  b2 : 0 ≤ b2Q q n ∧ b2Q q n ≤ 15000000000000
  b3 : 0 ≤ b3Q q n ∧ b3Q q n ≤ 1500000000000000000
  bd : 0 ≤ boardQ q n ∧ boardQ q n ≤ 151000001
  ur : 0 ≤ upQ n q.ru ∧ upQ n q.ru ≤ 100001
  st : 0 ≤ setQ q n ∧ setQ q n ≤ 100001000000
  wn : 0 ≤ q.wo * n ∧ q.wo * n ≤ 100000000000
  wk : 0 ≤ workQ q n ∧ workQ q n ≤ 100000001
  up : 0 ≤ upQ n q.pl ∧ upQ n q.pl ≤ 100001
  fr : 0 ≤ frQ q n ∧ frQ q n ≤ 100001000000
  co : 0 ≤ costQ q n ∧ costQ q n ≤ 300000000000
  of : 0 ≤ offQ q n ∧ offQ q n ≤ 900
  p1 : 0 ≤ p1Q q n ∧ p1Q q n ≤ 600000000000000
  p2 : 0 ≤ p2Q q n ∧ p2Q q n ≤ 600000000000000000
  pr : 0 ≤ priceQ q n ∧ priceQ q n ≤ 600000000001
open Go.RowKit
theorem inP_value {n : Nat} {P : Program} {ops : Array Oper} {Q : Exit → Act → World → Prop} {i d N : Nat} {L : List Nat} {g : Nat → Value} {W : World} {o : Oper} {v : Value} (ho : ops[i]? = some o) (hg : o.guard = none) (hd : o.dst = some d) (hr : (execOp (fr N g).eval o).run P W = .ok (.value v) W)
    (h : wpOpsIn Fence.wide n P ops Q L (fr N (upd g d v)) W) : wpOpsIn Fence.wide n P ops Q (i :: L) (fr N g) W := by
  rw [wpOpsIn_cons]
  unfold wpOpIn
  simp only [ho, Region.wanted, hg, if_true]
  refine ⟨fun _ _ => trivial, ?_⟩
  show o.uponIn _ _ _ _ _ _ ((execOp (fr N g).eval o).run P W)
  rw [hr]
  show wpOpsIn _ _ _ _ _ _ ((fr N g).put o.dst v) W
  rw [hd, fr_put]; exact h
theorem inP_round {n : Nat} {P : Program} {ops : Array Oper} {Q : Exit → Act → World → Prop} {i d N l : Nat} {args : Array Value} {L : List Nat} {g : Nat → Value} {W : World} {o : Oper} {R : Ending → World → Prop} (ho : ops[i]? = some o) (hg : o.guard = none) (hd : o.dst = some d) (hr : (execOp (fr N g).eval o).run P W = (Instr.yield l args).run P W)
    (hy : YieldAt Fence.wide (n - 1) P l args W R) (hK : ∀ v W', R (.returned v) W' → wpOpsIn Fence.wide n P ops Q L (fr N (upd g d v)) W') (h1 : ∀ W', ¬ R .outgrown W') (h2 : ∀ c W', ¬ R (.panicked c) W') : wpOpsIn Fence.wide n P ops Q (i :: L) (fr N g) W := by
  rw [wpOpsIn_cons]
  unfold wpOpIn
  simp only [ho, Region.wanted, hg, if_true]
  refine ⟨fun _ _ => trivial, ?_⟩
  show o.uponIn _ _ _ _ _ _ ((execOp (fr N g).eval o).run P W)
  obtain ⟨fn, tmps, assign, body, h3, h4⟩ := hy
  rw [hr, h3, Oper.uponIn_round]
  refine ⟨fun h => by simp [Fence.wide] at h, h4.mono fun e W' he => ?_⟩
  cases e with
  | returned v =>
    show wpOpsIn _ _ _ _ _ _ ((fr N g).put o.dst v) W'
    rw [hd, fr_put]; exact hK v W' he
  | panicked c => exact absurd he (h2 c W')
  | outgrown => exact absurd he (h1 W')
theorem inQ_value {n : Nat} {P : Program} {ops : Array Oper} {Q : Exit → Act → World → Prop} {i d N l0 : Nat} {L : List Nat} {g : Nat → Value} {W : World} {o : Oper} {v : Value} (ho : ops[i]? = some o) (hg : o.guard = none) (hnd : ∀ c, o.op ≠ .defer c) (hd : o.dst = some d) (hr : (execOp (fr N g).eval o).run P W = .ok (.value v) W)
    (h : wpOpsIn (Fence.wide.inRound l0) n P ops Q L (fr N (upd g d v)) W) : wpOpsIn (Fence.wide.inRound l0) n P ops Q (i :: L) (fr N g) W := by
  rw [wpOpsIn_cons]
  unfold wpOpIn
  simp only [ho, Region.wanted, hg, if_true]
  refine ⟨fun _ _ => trivial, ?_⟩
  rw [Oper.semAt_eq _ _ _ hnd]
  show o.uponIn _ _ _ _ _ _ ((execOp (fr N g).eval o).run P W)
  rw [hr]
  show wpOpsIn _ _ _ _ _ _ ((fr N g).put o.dst v) W
  rw [hd, fr_put]; exact h
theorem inQ_round {n : Nat} {P : Program} {ops : Array Oper} {Q : Exit → Act → World → Prop} {i d N l l0 : Nat} {args : Array Value} {L : List Nat} {g : Nat → Value} {W : World} {o : Oper} {R : Ending → World → Prop} (ho : ops[i]? = some o) (hg : o.guard = none) (hnd : ∀ c, o.op ≠ .defer c) (hd : o.dst = some d) (hr : (execOp (fr N g).eval o).run P W = (Instr.yield l args).run P W)
    (hy : YieldAt Fence.wide (n - 1) P l args W R) (hK : ∀ v W', R (.returned v) W' → wpOpsIn (Fence.wide.inRound l0) n P ops Q L (fr N (upd g d v)) W') (h1 : ∀ W', ¬ R .outgrown W') (h2 : ∀ c W', ¬ R (.panicked c) W') : wpOpsIn (Fence.wide.inRound l0) n P ops Q (i :: L) (fr N g) W := by
  rw [wpOpsIn_cons]
  unfold wpOpIn
  simp only [ho, Region.wanted, hg, if_true]
  refine ⟨fun _ _ => trivial, ?_⟩
  rw [Oper.semAt_eq _ _ _ hnd]
  show o.uponIn _ _ _ _ _ _ ((execOp (fr N g).eval o).run P W)
  obtain ⟨fn, tmps, assign, body, h3, h4⟩ := hy
  rw [hr, h3, Oper.uponIn_round]
  refine ⟨fun h => by simp [Fence.wide, Fence.inRound] at h, h4.mono fun e W' he => ?_⟩
  cases e with
  | returned v =>
    show wpOpsIn _ _ _ _ _ _ ((fr N g).put o.dst v) W'
    rw [hd, fr_put]; exact hK v W' he
  | panicked c => exact absurd he (h2 c W')
  | outgrown => exact absurd he (h1 W')
theorem fr_set {N p : Nat} {g : Nat → Value} {v : Value} : ({ tmps := (fr N g).tmps.setIfInBounds p v, defers := [] } : Act) = fr N (upd g p v) := fr_put N g p v
theorem noOut_then {K : Act → World → Prop} {Q : Exit → Act → World → Prop} (h : ¬ LetsOut Q) : ¬ LetsOut (Exit.then K Q) := fun ⟨a, w, e⟩ => h ⟨a, w, e⟩
theorem noOut_block {i : Nat} {Q : Exit → Act → World → Prop} (h : ¬ LetsOut Q) : ¬ LetsOut (Exit.inBlock i Q) := fun ⟨a, w, e⟩ => h ⟨a, w, e⟩
theorem noOut_false {K : Act → World → Prop} : ¬ LetsOut (Exit.then K (fun _ _ _ => False)) := fun ⟨_, _, e⟩ => e
open Go.RowKit
def rowC (f : Nat → List Value) : Nat → List Value
  | 0 => []
  | i + 1 => rowC f i ++ f i
theorem rowC_len {f : Nat → List Value} {z : Nat} (hz : ∀ i, (f i).length = z) : ∀ i, (rowC f i).length = i * z
  | 0 => by simp [rowC]
  | i + 1 => by rw [rowC, List.length_append, rowC_len hz i, hz, Nat.add_mul, Nat.one_mul]
theorem rowC_at {f : Nat → List Value} {z : Nat} (hz : ∀ i, (f i).length = z) {j : Nat} (hj : j < z) : ∀ n i, i < n → (rowC f n)[i * z + j]? = (f i)[j]?
  | 0, i, h => absurd h (Nat.not_lt_zero _)
  | n + 1, i, h => by
    rw [rowC]
    rcases Nat.lt_or_ge i n with h1 | h1
    · rw [List.getElem?_append_left (by rw [rowC_len hz]; have : (i + 1) * z ≤ n * z := Nat.mul_le_mul_right _ h1; rw [Nat.add_mul, Nat.one_mul] at this; omega)]
      exact rowC_at hz hj n i h1
    · obtain rfl : i = n := by omega
      rw [List.getElem?_append_right (by rw [rowC_len hz]; omega), rowC_len hz, Nat.add_sub_cancel_left]
theorem ownN_keep {T : TypeId} {z B n c : Nat} {cs : List Value} {a : Option Addr} {S : Nat → Prop} {W W' : World} (h : OwnN T z B n cs a c W) (hk : KeepP S W W') (hn : ∀ g, a = some ⟨g, 0, none⟩ → ¬ S g) : OwnN T z B n cs a c W' := by
  rcases h with h | ⟨g, e, h⟩
  · exact .inl h
  · exact .inr ⟨g, e, h.same hk.size fun x hx => hk.block _ _ (hn g e) hx⟩
open Go.RowKit
theorem keepX_P {b : Nat} {S : Nat → Prop} {W W' : World} (h : KeepX b W W') (hs : S b) : KeepP S W W' := ⟨h.os, h.tape, h.output, h.size, fun k o hk hx => h.block k o (fun e => hk (by rw [e]; exact hs)) hx⟩
theorem keepX_row {b : Nat} {cs : Array Value} {W W' : World} (h : W' = W.setRow b cs) : KeepX b W W' := by
  subst h
  refine ⟨rfl, rfl, rfl, ?_, fun k o hk hx => ?_⟩
  · simp [World.setRow]
  · simp only [World.setRow]
    rw [Array.getElem?_modify, if_neg (fun e => hk e.symm)]; exact hx
end Go.Proofs.Ytcgccflcjejlhaa
