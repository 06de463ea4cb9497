/- Part of the proof: what the claim leans on. -/
import Derived.Test.YtolnpbpeifpbjaaVAS
import Derived.Test.YtolnpbpeifpbjaaVAI
set_option linter.unusedSimpArgs false
set_option linter.unusedVariables false
namespace Go.Proofs.Ytolnpbpeifpbjaa
open Go.RowKit
open Go.RowKit
def ByR (W : World) (b o n : Nat) (bs : Nat → Int) : Prop := b < W.heap.size ∧ ∀ i, i < n → W.cell? ⟨b, o + i, none⟩ = some (.int .u8 (bs i))
theorem ByR.below {W W' : World} {b o n : Nat} {bs : Nat → Int} (h : ByR W b o n bs) (hb : Below W.heap.size W W') : ByR W' b o n bs :=
  ⟨Nat.lt_of_lt_of_le h.1 hb.size, fun i hi => (hb.cell (p := ⟨b, o + i, none⟩) h.1).trans (h.2 i hi)⟩
open Go.RowKit
def OwnN (T : TypeId) (z B n : Nat) (cs : List Value) (a : Option Addr) (c : Nat) (W : World) : Prop :=
  (a = none ∧ n = 0 ∧ c = 0 ∧ cs = []) ∨ ∃ g, a = some ⟨g, 0, none⟩ ∧ OwnR T z B n cs g c W
theorem ownN_nil {T : TypeId} {z B : Nat} {W : World} : OwnN T z B 0 [] none 0 W := .inl ⟨rfl, rfl, rfl, rfl⟩
theorem OwnN.below {T : TypeId} {z B n c : Nat} {cs : List Value} {a : Option Addr} {W W' : World} (h : OwnN T z B n cs a c W) (hb : Below W.heap.size W W') : OwnN T z B n cs a c W' := by
  rcases h with h | ⟨g, e, h⟩
  · exact .inl h
  · exact .inr ⟨g, e, h.below hb⟩
theorem OwnN.lim {T : TypeId} {z B n c : Nat} {cs : List Value} {a : Option Addr} {W : World} (h : OwnN T z B n cs a c W) : ∀ g, a = some ⟨g, 0, none⟩ → B ≤ g ∧ g < W.heap.size := by
  intro g e
  rcases h with ⟨e', -⟩ | ⟨g', e', h⟩
  · rw [e'] at e; cases e
  · rw [e'] at e; cases e; exact h.lim
theorem ownN_ne {T T' : TypeId} {z B n c b : Nat} {cs : List Value} {a : Option Addr} {cs0 : Array Value} {W : World} (h : OwnN T z B n cs a c W) (hb : W.heap[b]? = some (.cells cs0 T' (0, 0))) (hT : (T' != T) = true := by decide) : ∀ g, a = some ⟨g, 0, none⟩ → g ≠ b := by
  intro g e
  rcases h with ⟨e', -⟩ | ⟨g', e', h⟩
  · rw [e'] at e; cases e
  · rw [e'] at e; cases e
    rintro rfl
    have hT' : T' ≠ T := bne_iff_ne.1 hT
    rcases h.2.2.2 with ⟨e, -⟩ | ⟨g', cap, cur, e, -, h6, -⟩
    · cases e
    · cases e
      rw [hb] at h6
      simp only [Option.some.injEq, Obj.cells.injEq] at h6
      exact hT' h6.2.1
theorem OwnN.other {T : TypeId} {z B n c b : Nat} {cs : List Value} {a : Option Addr} {W W' : World} (h : OwnN T z B n cs a c W) (hot : ∀ k x, k ≠ b → W.heap[k]? = some x → W'.heap[k]? = some x) (hne : ∀ g, a = some ⟨g, 0, none⟩ → g ≠ b) (hz : W.heap.size ≤ W'.heap.size) : OwnN T z B n cs a c W' := by
  rcases h with h | ⟨g, e, h⟩
  · exact .inl h
  · exact .inr ⟨g, e, h.other hot (hne g e) hz⟩
theorem OwnR.same {T : TypeId} {z B n g c : Nat} {cs : List Value} {W W' : World} (h : OwnR T z B n cs g c W) (hz : W.heap.size ≤ W'.heap.size) (hb : ∀ x, W.heap[g]? = some x → W'.heap[g]? = some x) : OwnR T z B n cs g c W' := by
  refine ⟨h.1, Nat.lt_of_lt_of_le h.2.1 hz, h.2.2.1, ?_⟩
  rcases h.2.2.2 with h4 | ⟨g', cap, cur, e, h5, h6, h7⟩
  · exact .inl h4
  · cases e
    exact .inr ⟨g, c, cur, rfl, h5, hb _ h6, h7⟩
theorem OwnN.otherN {T T' : TypeId} {z z' B B' n n' c c' : Nat} {cs cs' : List Value} {a a' : Option Addr} {W W' : World} (h : OwnN T z B n cs a c W) (h' : OwnN T' z' B' n' cs' a' c' W) (hot : ∀ k y, (∀ g, a' = some ⟨g, 0, none⟩ → g ≠ k) → W.heap[k]? = some y → W'.heap[k]? = some y) (hz : W.heap.size ≤ W'.heap.size) (hT : (T != T') = true := by decide) : OwnN T z B n cs a c W' := by
  rcases h with h | ⟨g, e, h⟩
  · exact .inl h
  · refine .inr ⟨g, e, h.same hz fun x hx => ?_⟩
    have hx' := hx
    rcases h.2.2.2 with ⟨e, -⟩ | ⟨g', cap, cur, e, h5, h6, h7⟩
    · cases e
    · cases e
      exact hot g x (ownN_ne h' h6 hT) hx'
theorem OwnN.some' {T : TypeId} {z B n c : Nat} {cs : List Value} {a : Option Addr} {W : World} (h : OwnN T z B n cs a c W) (hn : 1 ≤ n) : ∃ g, a = some ⟨g, 0, none⟩ ∧ OwnR T z B n cs g c W := by
  rcases h with ⟨-, h, -⟩ | h
  · omega
  · exact h
theorem growN_tail {w W : World} (sl ty T : TypeId) (z by_ : Nat) (zero : Value) (hu : Try.prog.underlying sl = some (.slice T)) (hi : (Try.prog.info? T).map (fun i => (i.zero, i.size, i.bytes)) = some (some zero, z, by_)) (hzz : decide (0 < z ∧ zero.cells.size = z) = true)
    {n c : Nat} {a : Option Addr} {cs : List Value} (ys : List Value) (m : Nat) {b off k c' : Nat} (es : List Value) (hB : Below w.heap.size w W) (hown : OwnN T z w.heap.size n cs a c W) (hys : cs ++ es = ys) (hm : n + k = m)
    (hel : decide (es.length = k * z ∧ 0 < k) = true) (h1 : es.all (·.oneCell') = true) (hb : ∀ j u, es[j]? = some u → W.cell? ⟨b, off + j, none⟩ = some u) (hn : (n + k) * (by_ + 1) ≤ 1000000000) :
    ∃ g' c2 W', (Builtin.append_ #[sl, sl] ty #[.slice a n c, .slice (some ⟨b, off, none⟩) k c']).run Try.prog W = .ok (.slice (some ⟨g', 0, none⟩) m c2) W' ∧
      OwnR T z w.heap.size m ys g' c2 W' ∧ (∀ k y, (∀ g, a = some ⟨g, 0, none⟩ → g ≠ k) → W.heap[k]? = some y → W'.heap[k]? = some y) ∧ W.heap.size ≤ W'.heap.size ∧ (a = some ⟨g', 0, none⟩ ∨ g' = W.heap.size) ∧ Below w.heap.size w W' := by
  rcases hown with ⟨rfl, rfl, rfl, rfl⟩ | ⟨g, rfl, hown⟩
  · obtain ⟨g', c2, W', hr, h1', h2, h3, h4, h5⟩ := growR_nil (w := w) (W := W) sl ty T z by_ zero hu hi hzz m (b := b) (off := off) (k := k) (c' := c') es hB hm hel h1 hb (decide_eq_true hn)
    refine ⟨g', c2, W', hr, by rw [← hys]; exact h1', fun k y _ hy => h2 k y (fun e => ?_) hy, h3, .inr h4, h5⟩
    have := ltb hy
    omega
  · obtain ⟨g', c2, W', hr, h1', h2, h3, h4, h5⟩ := growR_tail (w := w) (W := W) sl ty T z by_ zero hu hi hzz ys m (b := b) (off := off) (k := k) (c' := c') es hB hown hys hm hel h1 hb (decide_eq_true hn)
    exact ⟨g', c2, W', hr, h1', fun k y hk hy => h2 k y (fun e => hk g rfl e.symm) hy, h3, h4.imp (fun e => by rw [e]) id, h5⟩
def RowsB (W : World) (a : Option Addr) (n k : Nat) (pv : Nat → Nat → Int) : Prop := n = 0 ∨ ∃ b o, a = some ⟨b, o, none⟩ ∧ b < W.heap.size ∧ ∀ i j, i < n → j < k → W.cell? ⟨b, o + i * k + j, none⟩ = some (.int .u8 (pv i j))
theorem RowsB.below {W W' : World} {a : Option Addr} {n k : Nat} {pv : Nat → Nat → Int} (h : RowsB W a n k pv) (hb : Below W.heap.size W W') : RowsB W' a n k pv := by
  rcases h with h | ⟨b, o, e, hlt, h⟩
  · exact .inl h
  · exact .inr ⟨b, o, e, Nat.lt_of_lt_of_le hlt hb.size, fun i j hi hj => (hb.cell (p := ⟨b, o + i * k + j, none⟩) hlt).trans (h i j hi hj)⟩
theorem RowsB.at' {W : World} {a : Option Addr} {n k : Nat} {pv : Nat → Nat → Int} (h : RowsB W a n k pv) : ∃ b o, 0 < n → a = some ⟨b, o, none⟩ ∧ ∀ W', Below W.heap.size W W' → ∀ i j, i < n → j < k → W'.cell? ⟨b, o + i * k + j, none⟩ = some (.int .u8 (pv i j)) := by
  rcases h with h | ⟨b, o, e, hlt, h⟩
  · exact ⟨0, 0, fun h0 => by omega⟩
  · exact ⟨b, o, fun _ => ⟨e, fun W' hb i j hi hj => (hb.cell (p := ⟨b, o + i * k + j, none⟩) hlt).trans (h i j hi hj)⟩⟩
def kdW (bv : Nat → Nat → Int) (i : Nat) : Int := if 1 < i then 1 + bv i 0 % 2 else 1 + (i : Int)
def paZ (bv : Nat → Nat → Int) (i : Nat) : Pa := ⟨kdW bv i, 50 + bv i 1, 50 + bv i 2, (50 + bv i 2) + bv i 0 / 8, bv i 3 % 100, bv i 3 % 100 + bv i 3 / 16, 1000 * bv i 4, 10 * bv i 5⟩
def fuW (fb : Nat → Nat → Int) (i : Nat) : Fu := ⟨1000 + 35 * fb i 0, (1000 + 35 * fb i 0) + (1000 + 35 * fb i 0) * fb i 1 / 255, 500 + 10 * fb i 2, (500 + 10 * fb i 2) + fb i 1 % 90⟩
def paC (p : Pa) : List Value := [.int .i64 p.kind, .int .i64 p.weight, .int .i64 p.t1, .int .i64 p.t2, .int .i64 p.m1, .int .i64 p.m2, .int .i64 p.price, .int .i64 p.strong]
def fuC (q : Fu) : List Value := [.int .i64 q.pitch, .int .i64 q.draw, .int .i64 q.h1, .int .i64 q.h2]
def paL (ps : Nat → Pa) : Nat → List Value
  | 0 => []
  | n + 1 => paL ps n ++ paC (ps n)
def fuL (qs : Nat → Fu) : Nat → List Value
  | 0 => []
  | n + 1 => fuL qs n ++ fuC (qs n)
theorem paL_len (ps : Nat → Pa) : ∀ n, (paL ps n).length = n * 8
  | 0 => rfl
  | n + 1 => by rw [paL, List.length_append, paL_len ps n]; show n * 8 + 8 = _; omega
theorem fuL_len (qs : Nat → Fu) : ∀ n, (fuL qs n).length = n * 4
  | 0 => rfl
  | n + 1 => by rw [fuL, List.length_append, fuL_len qs n]; show n * 4 + 4 = _; omega
theorem paL_at (ps : Nat → Pa) : ∀ (n i j : Nat), i < n → j < 8 → (paL ps n)[i * 8 + j]? = (paC (ps i))[j]?
  | 0, _, _, h, _ => absurd h (Nat.not_lt_zero _)
  | n + 1, i, j, h, hj => by
    rw [paL]
    by_cases e : i = n
    · subst e
      rw [List.getElem?_append_right (by rw [paL_len]; omega), paL_len, show i * 8 + j - i * 8 = j by omega]
    · rw [List.getElem?_append_left (by rw [paL_len]; omega)]
      exact paL_at ps n i j (by omega) hj
theorem fuL_at (qs : Nat → Fu) : ∀ (n i j : Nat), i < n → j < 4 → (fuL qs n)[i * 4 + j]? = (fuC (qs i))[j]?
  | 0, _, _, h, _ => absurd h (Nat.not_lt_zero _)
  | n + 1, i, j, h, hj => by
    rw [fuL]
    by_cases e : i = n
    · subst e
      rw [List.getElem?_append_right (by rw [fuL_len]; omega), fuL_len, show i * 4 + j - i * 4 = j by omega]
    · rw [List.getElem?_append_left (by rw [fuL_len]; omega)]
      exact fuL_at qs n i j (by omega) hj
theorem OwnR.paR {T : TypeId} {B n g c : Nat} {ps : Nat → Pa} {W : World} (h : OwnR T 8 B n (paL ps n) g c W) : PaR W g 0 n ps := by
  refine ⟨h.lim.2, fun i hi => ?_⟩
  have k : ∀ j u, j < 8 → (paC (ps i))[j]? = some u → W.cell? ⟨g, 0 + i * 8 + j, none⟩ = some u := fun j u hj hu => by
    rw [Nat.zero_add]
    exact h.cell (i * 8 + j) ((paL_at ps n i j hi hj).trans hu)
  exact ⟨k 0 _ (by decide) rfl, k 1 _ (by decide) rfl, k 2 _ (by decide) rfl, k 3 _ (by decide) rfl, k 4 _ (by decide) rfl, k 5 _ (by decide) rfl, k 6 _ (by decide) rfl, k 7 _ (by decide) rfl⟩
theorem OwnR.fuR {T : TypeId} {B n g c : Nat} {qs : Nat → Fu} {W : World} (h : OwnR T 4 B n (fuL qs n) g c W) : FuR W g 0 n qs := by
  refine ⟨h.lim.2, fun i hi => ?_⟩
  have k : ∀ j u, j < 4 → (fuC (qs i))[j]? = some u → W.cell? ⟨g, 0 + i * 4 + j, none⟩ = some u := fun j u hj hu => by
    rw [Nat.zero_add]
    exact h.cell (i * 4 + j) ((fuL_at qs n i j hi hj).trans hu)
  exact ⟨k 0 _ (by decide) rfl, k 1 _ (by decide) rfl, k 2 _ (by decide) rfl, k 3 _ (by decide) rfl⟩
def StoN (B n m : Nat) (ps : Nat → Pa) (qs : Nat → Fu) (v : Value) (W : World) : Prop := ∃ g1 c1 g2 c2, v = .agg #[.slice (some ⟨g1, 0, none⟩) n c1, .slice (some ⟨g2, 0, none⟩) m c2] ∧ OwnN 103 8 B n (paL ps n) (some ⟨g1, 0, none⟩) c1 W ∧ OwnN 105 4 B m (fuL qs m) (some ⟨g2, 0, none⟩) c2 W
theorem OwnN.row {T : TypeId} {z B n g c : Nat} {cs : List Value} {W : World} (h : OwnN T z B n cs (some ⟨g, 0, none⟩) c W) : OwnR T z B n cs g c W := by
  rcases h with ⟨e, -⟩ | ⟨g', e, h⟩
  · cases e
  · cases e; exact h
theorem OwnN.low {T : TypeId} {z B B' n c : Nat} {cs : List Value} {a : Option Addr} {W : World} (h : OwnN T z B n cs a c W) (hB : B' ≤ B) : OwnN T z B' n cs a c W := by
  rcases h with h | ⟨g, e, h⟩
  · exact .inl h
  · exact .inr ⟨g, e, Nat.le_trans hB h.1, h.2.1, ownsRow_low h.2.2 hB⟩
theorem StoN.low {B B' n m : Nat} {ps : Nat → Pa} {qs : Nat → Fu} {v : Value} {W : World} (h : StoN B n m ps qs v W) (hB : B' ≤ B) : StoN B' n m ps qs v W := by
  obtain ⟨g1, c1, g2, c2, e, h1, h2⟩ := h; exact ⟨g1, c1, g2, c2, e, h1.low hB, h2.low hB⟩
theorem StoN.below {B n m : Nat} {ps : Nat → Pa} {qs : Nat → Fu} {v : Value} {W W' : World} (h : StoN B n m ps qs v W) (hb : Below W.heap.size W W') : StoN B n m ps qs v W' := by
  obtain ⟨g1, c1, g2, c2, e, h1, h2⟩ := h; exact ⟨g1, c1, g2, c2, e, h1.below hb, h2.below hb⟩
def StoNP (n m : Nat) (ps : Nat → Pa) (qs : Nat → Fu) (w : World) (e : Ending) (w' : World) : Prop := ∃ v, e = .returned v ∧ StoN w.heap.size n m ps qs v w' ∧ Below w.heap.size w w'
def WareB (np nf : Nat) (bv fb : Nat → Nat → Int) : Prop :=
  (∀ i j, 0 ≤ bv i j ∧ bv i j ≤ 255) ∧ (∀ i j, 0 ≤ fb i j ∧ fb i j ≤ 255) ∧
  (∀ i, np ≤ i → i < 5 → bv i 0 = (i : Int) ∧ bv i 1 = 120 ∧ bv i 2 = 20 ∧ bv i 3 = 7 ∧ bv i 4 = 30 ∧ bv i 5 = 20) ∧ (∀ i, nf ≤ i → fb i 0 = 80 ∧ fb i 1 = 128 ∧ fb i 2 = 36)
theorem paZ_in {bv : Nat → Nat → Int} (h : ∀ i j, 0 ≤ bv i j ∧ bv i j ≤ 255) (i : Nat) : PaIn (paZ bv i) := by
  have g0 := h i 0; have g1 := h i 1; have g2 := h i 2; have g3 := h i 3; have g4 := h i 4; have g5 := h i 5
  refine ⟨?_, ?_, ?_, ?_, ?_, ?_⟩
  · show kdW bv i = 1 ∨ kdW bv i = 2
    unfold kdW
    split <;> omega
  · show 1 ≤ 50 + bv i 1 ∧ 50 + bv i 1 ≤ 1000; omega
  · show 1 ≤ 50 + bv i 2 ∧ 50 + bv i 2 ≤ (50 + bv i 2) + bv i 0 / 8 ∧ (50 + bv i 2) + bv i 0 / 8 ≤ 1000; omega
  · show 0 ≤ bv i 3 % 100 ∧ bv i 3 % 100 ≤ bv i 3 % 100 + bv i 3 / 16 ∧ bv i 3 % 100 + bv i 3 / 16 ≤ 200; omega
  · show 0 ≤ 1000 * bv i 4 ∧ 1000 * bv i 4 ≤ 1000000; omega
  · show 0 ≤ 10 * bv i 5 ∧ 10 * bv i 5 ≤ 10000; omega
theorem fuW_mul {fb : Nat → Nat → Int} (h : ∀ i j, 0 ≤ fb i j ∧ fb i j ≤ 255) (i : Nat) : 0 ≤ (1000 + 35 * fb i 0) * fb i 1 ∧ (1000 + 35 * fb i 0) * fb i 1 ≤ (1000 + 35 * fb i 0) * 255 := by
  have g0 := h i 0; have g1 := h i 1
  exact ⟨Int.mul_nonneg (by omega) g1.1, Int.mul_le_mul_of_nonneg_left g1.2 (by omega)⟩
theorem fuW_in {fb : Nat → Nat → Int} (h : ∀ i j, 0 ≤ fb i j ∧ fb i j ≤ 255) (i : Nat) : FuIn (fuW fb i) := by
  have g0 := h i 0; have g1 := h i 1; have g2 := h i 2; have g3 := fuW_mul h i
  refine ⟨?_, ?_, ?_⟩
  · show 1000 ≤ 1000 + 35 * fb i 0 ∧ 1000 + 35 * fb i 0 ≤ 10000; omega
  · show 1000 + 35 * fb i 0 ≤ (1000 + 35 * fb i 0) + (1000 + 35 * fb i 0) * fb i 1 / 255 ∧ (1000 + 35 * fb i 0) + (1000 + 35 * fb i 0) * fb i 1 / 255 ≤ 2 * (1000 + 35 * fb i 0)
    generalize (1000 + 35 * fb i 0) * fb i 1 = x at *
    omega
  · show 1 ≤ 500 + 10 * fb i 2 ∧ 500 + 10 * fb i 2 ≤ (500 + 10 * fb i 2) + fb i 1 % 90 ∧ (500 + 10 * fb i 2) + fb i 1 % 90 ≤ 10000; omega
open Go.RowKit
end Go.Proofs.Ytolnpbpeifpbjaa
