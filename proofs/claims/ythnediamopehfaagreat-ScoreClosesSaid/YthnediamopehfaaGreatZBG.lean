/- Part of the proof: what the claim leans on. -/
import Derived.Test.YthnediamopehfaaGreatZBC
import Derived.Test.YthnediamopehfaaGreatZAC
import Derived.Test.YthnediamopehfaaGreatZAJ
set_option linter.unusedSimpArgs false
set_option linter.unusedVariables false
namespace Go.Proofs.YthnediamopehfaaGreat
open Go.RowKit
/-- The slice (a, n, c) is a row of one's own with the cells cs, from block B on, or nil. -/
def OwnV (T : TypeId) (z B : Nat) (cs : List Value) (n : Nat) (a : Option Addr) (c : Nat) (W : World) : Prop :=
  B ≤ W.heap.size ∧ (∀ x, a = some x → B ≤ x.block ∧ x.block < W.heap.size) ∧ W.ownsRow B T z (.slice a n c) n cs
theorem OwnV.below {T : TypeId} {z B n c : Nat} {cs : List Value} {a : Option Addr} {W W' : World} (h : OwnV T z B cs n a c W) (hb : Below W.heap.size W W') : OwnV T z B cs n a c W' :=
  ⟨Nat.le_trans h.1 hb.size, fun x e => ⟨(h.2.1 x e).1, Nat.lt_of_lt_of_le (h.2.1 x e).2 hb.size⟩, own_below h.2.2 hb⟩
theorem ownV_block {T : TypeId} {z B b : Nat} {W : World} (h : W.heap[b]? = some (.cells #[] T (0, 0))) (hb : B ≤ b) : OwnV T z B [] 0 (some ⟨b, 0, none⟩) 0 W := by
  have := lt_of_blk h
  exact ⟨by omega, fun x e => by cases e; exact ⟨hb, this⟩, by simp, .inr ⟨b, 0, #[], rfl, hb, h, Nat.le_refl _, by unfold maxLen; omega, by simp, by simp⟩⟩
theorem add_plain' (b o k : Nat) : ((⟨b, o, none⟩ : Addr).add k) = ⟨b, o + k, none⟩ := by unfold Addr.add; split <;> simp_all
/-- append(l, x), or append(l, x..), where l is one's own or nil. -/
theorem growV_tail {w W : World} (sl ty T : TypeId) (z by_ : Nat) (zero : Value) (hu : Tryz.prog.underlying sl = some (.slice T)) (hi : (Tryz.prog.info? T).map (fun i => (i.zero, i.size, i.bytes)) = some (some zero, z, by_)) (hzz : decide (0 < z ∧ zero.cells.size = z) = true)
    {B n c : Nat} {cs : List Value} {a : Option Addr} (ys : List Value) (m : Nat) {b off k c' : Nat} (es : List Value) (hB : Below w.heap.size w W) (hown : OwnV T z B cs n a c W) (hys : cs ++ es = ys) (hm : n + k = m) (hBw : w.heap.size ≤ B)
    (hel : decide (es.length = k * z ∧ 0 < k) = true) (h1 : es.all (·.oneCell') = true) (hb : ∀ j u, es[j]? = some u → W.cell? ⟨b, off + j, none⟩ = some u) (hn : (n + k) * (by_ + 1) ≤ 1000000000) :
    ∃ g' c2 W', (Builtin.append_ #[sl, sl] ty #[.slice a n c, .slice (some ⟨b, off, none⟩) k c']).run Tryz.prog W = .ok (.slice (some ⟨g', 0, none⟩) m c2) W' ∧
      OwnV T z B ys m (some ⟨g', 0, none⟩) c2 W' ∧ (∀ k y, k < B → W.heap[k]? = some y → W'.heap[k]? = some y) ∧ W.heap.size ≤ W'.heap.size ∧ Below w.heap.size w W' := by
  subst hys hm
  obtain ⟨hz0, hzs⟩ := of_decide_eq_true hzz
  obtain ⟨hel, hk⟩ := of_decide_eq_true hel
  obtain ⟨i0, hi, hz0', hz1, hz2⟩ := info_parts hi
  have hnk : n + k ≤ (n + k) * (by_ + 1) := Nat.le_mul_of_pos_right _ (Nat.succ_pos _)
  have hnb : (n + k) * by_ ≤ (n + k) * (by_ + 1) := Nat.mul_le_mul_left _ (Nat.le_succ _)
  obtain ⟨g', c2, W', hr, h2, h3, h4, h5⟩ := run_append_lies (P := Tryz.prog) W sl ty B T i0 zero z by_ hu hi hz0' hz1 hz2 hzs hz0 _ n cs hown.2.2
    ⟨b, off, none⟩ k c' es hel (fun j u hj => by rw [add_plain']; exact hb j u hj) (fun u hu => List.all_eq_true.1 h1 u hu) hk (by unfold maxLen; omega) (by omega) hown.1 _ rfl
  have hle : B ≤ g' := by
    rcases h4 with h4 | h4
    · cases a with
      | none => cases h4
      | some x =>
        have := hown.2.1 x rfl
        have e : x.block = g' := by simpa [Value.ownBlock] using h4
        omega
    · have := hown.1; omega
  refine ⟨g', c2, W', hr, ⟨Nat.le_trans hown.1 h3.size, fun x e => by cases e; exact ⟨hle, h5⟩, h2⟩, fun k y hk hy => ?_, h3.size, hB.grown h3 hB.size fun k e => ?_⟩
  · rw [h3.block k (by
      rcases Nat.lt_or_ge k W.heap.size with h | h
      · exact h
      · rw [Array.getElem?_eq_none h] at hy; cases hy) (fun e => by
        cases a with
        | none => cases e
        | some x =>
          have := hown.2.1 x rfl
          have e' : k = x.block := by simpa [Value.ownBlock] using e
          omega)]
    exact hy
  · cases a with
    | none => cases e
    | some x =>
      have := hown.2.1 x rfl
      have e' : x.block = k := by simpa [Value.ownBlock] using e
      omega
/-- The cells of a list of pairs. -/
def pps (l : List (Int × Int)) : List Value := l.flatMap fun x => [Value.int .i64 x.1, Value.int .i64 x.2]
theorem pps_snoc (l : List (Int × Int)) (x y : Int) : pps l ++ [.int .i64 x, .int .i64 y] = pps (l ++ [(x, y)]) := by simp [pps]
theorem OwnV.pp {T : TypeId} {B c : Nat} {L : List (Int × Int)} {a : Option Addr} {W : World} (h : OwnV T 2 B (pps L) L.length a c W) : Pp W a L.length c L := by
  obtain ⟨a', c', e, hp⟩ := owns_pp_any h.2.2
  obtain ⟨e1, -, e2⟩ := Value.slice.inj e
  rw [e1, e2]; exact hp
/-- A cell of a block, for what is appended. -/
theorem cells_at {W : World} {b : Nat} {cs : Array Value} {T : TypeId} (h : W.heap[b]? = some (.cells cs T (0, 0))) : ∀ j u, cs.toList[j]? = some u → W.cell? ⟨b, 0 + j, none⟩ = some u := by
  intro j u hj
  rw [Joins.cell_of_block h (0 + j), Nat.zero_add]
  simpa using hj
end Go.Proofs.YthnediamopehfaaGreat
