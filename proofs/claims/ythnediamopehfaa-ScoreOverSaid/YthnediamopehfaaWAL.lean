/- Part of the proof: what the claim leans on. -/
import Derived.Deep.AppendLies
import Derived.Test.YthnediamopehfaaWAK
import Derived.Test.YthnediamopehfaaWAD
import Derived.Test.YthnediamopehfaaWAJ
set_option linter.unusedSimpArgs false
set_option linter.unusedVariables false
namespace Go.Proofs.Ythnediamopehfaa
open Go.RowKit
theorem Try.info3y : (Try.prog.info? 3).map (fun i => (i.zero, i.size, i.bytes)) = some (some (.int .i64 0), 1, 8) := by kernel_rfl
theorem tail_value2 {P : Program} {ops : Array Oper} {Q : Exit → Act → World → Prop} {i m N d : Nat} {g : Nat → Value} {W W' : World} {o : Oper} {v : Value} (ho : ops[i]? = some o) (hg : o.guard = none) (hd : o.dst = some d) (hr : (execOp (fr N g).eval o).run P W = .ok (.value v) W')
    (h : wpOps P ops Q (List.range' (i + 1) m) (fr N (upd g d v)) W') : wpOps P ops Q (List.range' i (m + 1)) (fr N g) W := by
  rw [List.range'_succ, wpOps_cons]
  unfold wpOp
  simp only [ho, Region.wanted, hg, if_true]
  refine .inl ?_
  unfold Oper.wp
  rw [hr]
  simp only [Oper.upon, hd]
  rw [fr_put]; exact h
/-- A list of one's own: it lies from block B on. -/
def OwnI (B : Nat) (xs : List Int) (g c : Nat) (W : World) : Prop := B ≤ g ∧ g < W.heap.size ∧ W.ownsRow B 3 1 (.slice (some ⟨g, 0, none⟩) xs.length c) xs.length (xs.map (Value.int .i64))
theorem OwnI.ii {B : Nat} {xs : List Int} {g c : Nat} {W : World} (h : OwnI B xs g c W) : Ii W (some ⟨g, 0, none⟩) xs.length c xs := owns_ii h.2.2
theorem OwnI.below {B : Nat} {xs : List Int} {g c : Nat} {W W' : World} (h : OwnI B xs g c W) (hb : Below W.heap.size W W') : OwnI B xs g c W' := by
  refine ⟨h.1, Nat.lt_of_lt_of_le h.2.1 hb.size, h.2.2.1, ?_⟩
  rcases h.2.2.2 with h4 | ⟨g', cap, cur, e, h5, h6, h7⟩
  · exact .inl h4
  · exact .inr ⟨g', cap, cur, e, h5, blk_below h6 hb, h7⟩
theorem OwnI.other {B b : Nat} {xs : List Int} {g c : Nat} {W W' : World} (h : OwnI B xs g c W) (hot : ∀ k x, k ≠ b → W.heap[k]? = some x → W'.heap[k]? = some x) (hne : g ≠ b) (hz : W.heap.size ≤ W'.heap.size) : OwnI B xs g c W' := by
  refine ⟨h.1, Nat.lt_of_lt_of_le h.2.1 hz, h.2.2.1, ?_⟩
  rcases h.2.2.2 with h4 | ⟨g', cap, cur, e, h5, h6, h7⟩
  · exact .inl h4
  · cases e
    exact .inr ⟨g, c, cur, rfl, h5, hot _ _ hne h6, h7⟩
end Go.Proofs.Ythnediamopehfaa
namespace Go.Proofs.Ythnediamopehfaa
open Go.RowKit
/-- The slice (a, n, c) is a row of one's own with the cells cs, from block B on, or nil. -/
def OwnV (T : TypeId) (z B : Nat) (cs : List Value) (n : Nat) (a : Option Addr) (c : Nat) (W : World) : Prop :=
  B ≤ W.heap.size ∧ (∀ x, a = some x → B ≤ x.block ∧ x.block < W.heap.size) ∧ W.ownsRow B T z (.slice a n c) n cs
theorem OwnV.below {T : TypeId} {z B n c : Nat} {cs : List Value} {a : Option Addr} {W W' : World} (h : OwnV T z B cs n a c W) (hb : Below W.heap.size W W') : OwnV T z B cs n a c W' :=
  ⟨Nat.le_trans h.1 hb.size, fun x e => ⟨(h.2.1 x e).1, Nat.lt_of_lt_of_le (h.2.1 x e).2 hb.size⟩, own_below h.2.2 hb⟩
theorem OwnV.otherV {T : TypeId} {z B n c : Nat} {cs : List Value} {a : Option Addr} {W W' : World} {b : Nat} (h : OwnV T z B cs n a c W) (hot : ∀ k x, k ≠ b → W.heap[k]? = some x → W'.heap[k]? = some x) (hb : b < B) (hz : W.heap.size ≤ W'.heap.size) : OwnV T z B cs n a c W' := by
  refine ⟨Nat.le_trans h.1 hz, fun x e => ⟨(h.2.1 x e).1, Nat.lt_of_lt_of_le (h.2.1 x e).2 hz⟩, h.2.2.1, ?_⟩
  rcases h.2.2.2 with h4 | ⟨g', cap, cur, e, h5, h6, h7⟩
  · exact .inl h4
  · exact .inr ⟨g', cap, cur, e, h5, hot _ _ (by omega) h6, h7⟩
theorem ownV_nil {T : TypeId} {z B : Nat} {W : World} (h : B ≤ W.heap.size) : OwnV T z B [] 0 none 0 W := ⟨h, fun x e => (by cases e), World.ownsRow_nil _ _ _ _⟩
theorem add_plain' (b o k : Nat) : ((⟨b, o, none⟩ : Addr).add k) = ⟨b, o + k, none⟩ := by unfold Addr.add; split <;> simp_all
/-- append(l, x), or append(l, x..), where l is one's own or nil. -/
theorem growV_tail {w W : World} (sl ty T : TypeId) (z by_ : Nat) (zero : Value) (hu : Try.prog.underlying sl = some (.slice T)) (hi : (Try.prog.info? T).map (fun i => (i.zero, i.size, i.bytes)) = some (some zero, z, by_)) (hzz : decide (0 < z ∧ zero.cells.size = z) = true)
    {B n c : Nat} {cs : List Value} {a : Option Addr} (ys : List Value) (m : Nat) {b off k c' : Nat} (es : List Value) (hB : Below w.heap.size w W) (hown : OwnV T z B cs n a c W) (hys : cs ++ es = ys) (hm : n + k = m) (hBw : w.heap.size ≤ B)
    (hel : decide (es.length = k * z ∧ 0 < k) = true) (h1 : es.all (·.oneCell') = true) (hb : ∀ j u, es[j]? = some u → W.cell? ⟨b, off + j, none⟩ = some u) (hn : (n + k) * (by_ + 1) ≤ 1000000000) :
    ∃ g' c2 W', (Builtin.append_ #[sl, sl] ty #[.slice a n c, .slice (some ⟨b, off, none⟩) k c']).run Try.prog W = .ok (.slice (some ⟨g', 0, none⟩) m c2) W' ∧
      OwnV T z B ys m (some ⟨g', 0, none⟩) c2 W' ∧ (∀ k y, k < B → W.heap[k]? = some y → W'.heap[k]? = some y) ∧ W.heap.size ≤ W'.heap.size ∧ Below w.heap.size w W' := by
  subst hys hm
  obtain ⟨hz0, hzs⟩ := of_decide_eq_true hzz
  obtain ⟨hel, hk⟩ := of_decide_eq_true hel
  obtain ⟨i0, hi, hz0', hz1, hz2⟩ := info_parts hi
  have hnk : n + k ≤ (n + k) * (by_ + 1) := Nat.le_mul_of_pos_right _ (Nat.succ_pos _)
  have hnb : (n + k) * by_ ≤ (n + k) * (by_ + 1) := Nat.mul_le_mul_left _ (Nat.le_succ _)
  obtain ⟨g', c2, W', hr, h2, h3, h4, h5⟩ := run_append_lies (P := Try.prog) W sl ty B T i0 zero z by_ hu hi hz0' hz1 hz2 hzs hz0 _ n cs hown.2.2
    ⟨b, off, none⟩ k c' es hel (fun j u hj => by rw [add_plain']; exact hb j u hj) (fun u hu => List.all_eq_true.1 h1 u hu) hk (by unfold maxLen; omega) (by omega) hown.1 _ rfl
  have hle : B ≤ g' := by
    rcases h4 with h4 | h4
    · cases a with
      | none => cases h4
      | some x =>
        have := hown.2.1 x rfl
        have e : x.block = g' := by simpa [Value.ownBlock] using h4
        omega
    · have := hown.1; omega
  refine ⟨g', c2, W', hr, ⟨Nat.le_trans hown.1 h3.size, fun x e => by cases e; exact ⟨hle, h5⟩, h2⟩, fun k y hk hy => ?_, h3.size, hB.grown h3 hB.size fun k e => ?_⟩
  · rw [h3.block k (by
      rcases Nat.lt_or_ge k W.heap.size with h | h
      · exact h
      · rw [Array.getElem?_eq_none h] at hy; cases hy) (fun e => by
        cases a with
        | none => cases e
        | some x =>
          have := hown.2.1 x rfl
          have e' : k = x.block := by simpa [Value.ownBlock] using e
          omega)]
    exact hy
  · cases a with
    | none => cases e
    | some x =>
      have := hown.2.1 x rfl
      have e' : x.block = k := by simpa [Value.ownBlock] using e
      omega
/-- The cells of a list of whole numbers. -/
def iis (l : List Int) : List Value := l.map (Value.int .i64)
theorem iis_snoc (l : List Int) (x : Int) : iis l ++ [.int .i64 x] = iis (l ++ [x]) := by simp [iis]
theorem OwnV.ii {B c : Nat} {L : List Int} {a : Option Addr} {W : World} (h : OwnV 3 1 B (iis L) L.length a c W) : Ii W a L.length c L := by
  rcases Joins.ownsRow_forms h.2.2 with ⟨e, h0⟩ | ⟨g, cap, e⟩
  · obtain ⟨rfl, -, rfl⟩ := Value.slice.inj e
    have : L = [] := List.length_eq_zero_iff.1 h0
    subst this
    exact ⟨rfl, Nat.le_refl _, by unfold maxLen; omega, by simp, .inl rfl⟩
  · obtain ⟨rfl, -, rfl⟩ := Value.slice.inj e
    exact owns_ii h.2.2
/-- A cell of a block, for what is appended. -/
theorem cells_at {W : World} {b : Nat} {cs : Array Value} {T : TypeId} (h : W.heap[b]? = some (.cells cs T (0, 0))) : ∀ j u, cs.toList[j]? = some u → W.cell? ⟨b, 0 + j, none⟩ = some u := by
  intro j u hj
  rw [Joins.cell_of_block h (0 + j), Nat.zero_add]
  simpa using hj
end Go.Proofs.Ythnediamopehfaa
namespace Go.Proofs.Ythnediamopehfaa
open Go.RowKit
/-- A list whose block is the call's own, from B on. -/
def OwI (B : Nat) (xs : List Int) (n : Nat) (v : Value) (W : World) : Prop := ∃ g c, v = .slice (some ⟨g, 0, none⟩) n c ∧ OwnI B xs g c W
theorem OwI.below {B n : Nat} {xs : List Int} {v : Value} {W W' : World} (h : OwI B xs n v W) (hb : Below W.heap.size W W') : OwI B xs n v W' := by
  obtain ⟨g, c, e, h⟩ := h
  exact ⟨g, c, e, h.below hb⟩
theorem OwI.lt {B n : Nat} {xs : List Int} {v : Value} {W : World} (h : OwI B xs n v W) {g m c : Nat} (e : v = .slice (some ⟨g, 0, none⟩) m c) : g < W.heap.size := by
  obtain ⟨g', c', e', h⟩ := h
  rw [e] at e'
  simp only [Value.slice.injEq, Option.some.injEq, Addr.mk.injEq, and_true] at e'
  obtain ⟨rfl, -⟩ := e'
  exact h.2.1
theorem OwnI.lim {B : Nat} {xs : List Int} {g c : Nat} {W : World} (h : OwnI B xs g c W) : B ≤ g ∧ g < W.heap.size := ⟨h.1, h.2.1⟩
theorem OwnI.cell {B : Nat} {xs : List Int} {g c : Nat} {W : World} (h : OwnI B xs g c W) {i : Nat} (hi : i < xs.length) : W.cell? ⟨g, i, none⟩ = some (.int .i64 (xs.getD i 0)) := by
  obtain ⟨b, off, e, -, hc⟩ := h.ii.at (by omega)
  cases e
  have := hc i hi
  rwa [Nat.zero_add] at this
/-- What two operations made lies apart. -/
theorem Behind.two {R : Nat → Value → (Nat → Nat) → World → Prop} {w : World} {n : Nat} {f : Nat → Value} {s : Nat → Nat} {W : World} (h : Behind R w n f s W) (i j : Nat) (hi : i < n) (hj : j < n) (hij : i ≠ j) {g g' : Nat}
    (hg : s i ≤ g) (hg' : s j ≤ g') (h1 : ∀ W, R i (f i) s W → g < W.heap.size) (h2 : ∀ W, R j (f j) s W → g' < W.heap.size) : g ≠ g' := by
  obtain ⟨t, ht, hd⟩ := h.apart
  obtain ⟨a, b, W1, r1, z1⟩ := ht i hi
  obtain ⟨c, d, W2, r2, z2⟩ := ht j hj
  have := h1 _ r1; have := h2 _ r2
  have := hd i j hi hj hij
  omega
theorem ownsRow_low {W : World} {B B' : Nat} {T : TypeId} {z n : Nat} {v : Value} {xs : List Value} (h : W.ownsRow B T z v n xs) (hB : B' ≤ B) : W.ownsRow B' T z v n xs := by
  refine ⟨h.1, ?_⟩
  rcases h.2 with h | ⟨g, cap, cur, e, h1, h2⟩
  · exact .inl h
  · exact .inr ⟨g, cap, cur, e, Nat.le_trans hB h1, h2⟩
theorem OwnI.low {B B' : Nat} {xs : List Int} {g c : Nat} {W : World} (h : OwnI B xs g c W) (hB : B' ≤ B) : OwnI B' xs g c W := ⟨Nat.le_trans hB h.1, h.2.1, ownsRow_low h.2.2 hB⟩
/-- append([]int{}, l...), where l is not empty: the copy is one's own, in a new block. -/
theorem cloneO_run (ty : TypeId) (W : World) (g : Nat) (a : Option Addr) (c : Nat) (xs : List Int) (n : Nat) (h : Ii W a n c xs) (hn : n ≤ 1000) (hne : 0 < n) (hg : W.heap[g]? = some (.cells #[] 3 (0, 0))) :
    ∃ v W', (Builtin.append_ #[22, 22] ty #[.slice (some ⟨g, 0, none⟩) 0 0, .slice a n c]).run Try.prog W = .ok v W' ∧ Below W.heap.size W W' ∧ OwI W.heap.size xs n v W' := by
  obtain ⟨i0, hi, hz0, hz1, hz2⟩ := info_parts Try.info3x
  have hg' : g < W.heap.size := lt_of_blk hg
  obtain rfl := h.1
  obtain ⟨b, off, rfl, hb, hc⟩ := h.at hne
  obtain ⟨v, W', hr, hown, hgr⟩ := run_append_arg_grows (P := Try.prog) W 22 ty 3 i0 (.int .i64 0) 1 8 Try.underlying22 hi hz0 hz1 hz2 rfl (by decide) ⟨g, 0, none⟩ 0 0 [] rfl (fun j u hj => by simp at hj) ⟨b, off, none⟩ xs.length c (xs.map (Value.int .i64)) (by simp)
    (fun j u hj => by
      have hj' : j < xs.length := by
        rcases Nat.lt_or_ge j xs.length with h' | h'
        · exact h'
        · rw [List.getElem?_eq_none (by simpa using h')] at hj; cases hj
      rw [show ((⟨b, off, none⟩ : Addr).add j) = ⟨b, off + j, none⟩ from by unfold Addr.add; split <;> simp_all, hc j hj']
      simp [List.getElem?_map, hj'] at hj
      subst hj
      simp [List.getD_eq_getElem?_getD, hj'])
    (by omega) (by unfold maxLen; omega) (by omega)
  obtain ⟨g2, cap2, rfl⟩ := Joins.ownsRow_form hown (by omega)
  simp only [Nat.zero_add, List.nil_append] at hown hr
  exact ⟨_, W', hr, (Below.refl _ _).grown hgr (Nat.le_refl _) (fun k e => by cases e), g2, cap2, rfl, own_ge hown g2 rfl, own_lt' hown, hown⟩
theorem take_set_cells {cs : List Value} {xs : List Int} (h : cs.take xs.length = xs.map (Value.int .i64)) (i : Nat) (hi : i < xs.length) (x : Int) (hl : xs.length ≤ cs.length) :
    (cs.take i ++ [Value.int .i64 x] ++ cs.drop (i + 1)).take xs.length = (xs.set i x).map (Value.int .i64) := by
  have e : cs.take i ++ [Value.int .i64 x] ++ cs.drop (i + 1) = cs.set i (Value.int .i64 x) := by
    rw [List.set_eq_take_append_cons_drop, if_pos (by omega)]; simp
  rw [e, List.take_set, h, List.map_set]
/-- A blank whose lists are one's own, from B on. -/
def OwBlk (B : Nat) (b : Bl) (v : Value) (W : World) : Prop :=
  ∃ g1 c1 g2 c2 g3 c3, v = .agg #[.int .i64 b.tab, .slice (some ⟨g1, 0, none⟩) b.panels.length c1, .int .i64 b.height, .slice (some ⟨g2, 0, none⟩) b.top.length c2, .slice (some ⟨g3, 0, none⟩) b.bottom.length c3, .int .i64 b.slot, .bool b.isOpen] ∧
    OwnI B b.panels g1 c1 W ∧ OwnI B b.top g2 c2 W ∧ OwnI B b.bottom g3 c3 W ∧ g1 ≠ g2 ∧ g1 ≠ g3 ∧ g2 ≠ g3
theorem OwBlk.below {B : Nat} {b : Bl} {v : Value} {W W' : World} (h : OwBlk B b v W) (hb : Below W.heap.size W W') : OwBlk B b v W' := by
  obtain ⟨g1, c1, g2, c2, g3, c3, e, h1, h2, h3, hn⟩ := h
  exact ⟨g1, c1, g2, c2, g3, c3, e, h1.below hb, h2.below hb, h3.below hb, hn⟩
theorem OwBlk.lt {B : Nat} {b : Bl} {v : Value} {W : World} (h : OwBlk B b v W) {x1 x2 x3 x4 : Value} {g1 g2 g3 n1 n2 n3 c1 c2 c3 : Nat} (e : v = .agg #[x1, .slice (some ⟨g1, 0, none⟩) n1 c1, x2, .slice (some ⟨g2, 0, none⟩) n2 c2, .slice (some ⟨g3, 0, none⟩) n3 c3, x3, x4]) : g1 < W.heap.size ∧ g2 < W.heap.size ∧ g3 < W.heap.size := by
  obtain ⟨h1, d1, h2, d2, h3, d3, e', m1, m2, m3, -⟩ := h
  rw [e] at e'
  simp only [Value.agg.injEq, Array.mk.injEq, List.cons.injEq, Value.slice.injEq, Option.some.injEq, Addr.mk.injEq, and_true] at e'
  obtain ⟨-, ⟨rfl, -⟩, -, ⟨rfl, -⟩, ⟨rfl, -⟩, -, -⟩ := e'
  exact ⟨m1.2.1, m2.2.1, m3.2.1⟩
def OwBlkP (b : Bl) (w : World) (e : Ending) (w' : World) : Prop := ∃ v, e = .returned v ∧ OwBlk w.heap.size b v w' ∧ Below w.heap.size w w'
end Go.Proofs.Ythnediamopehfaa
namespace Go.Proofs.Ythnediamopehfaa
open Go.RowKit
section
variable {P : Program} {ops : Array Oper} {Q : Exit → Act → World → Prop}
/-- One operation, with the relation Le between the worlds before and behind it. -/
def OpDoL (Le : World → World → Prop) (P : Program) (ops : Array Oper) (Q : Exit → Act → World → Prop) (i : Nat) (a : Act) (W : World) (R : Value → World → Prop) : Prop :=
  ∀ K : Act → World → Prop, (∀ v W', Le W W' → R v W' → K (a.put ((ops[i]?).bind (·.dst)) v) W') → wpOp P ops Q i K a W
theorem OpDo.l {Le : World → World → Prop} (hle : ∀ a b, Below a.heap.size a b → Le a b) {i : Nat} {a : Act} {W : World} {R : Value → World → Prop} (h : OpDo P ops Q i a W R) : OpDoL Le P ops Q i a W R :=
  fun K hK => h K fun v W' hb hR => hK v W' (hle _ _ hb) hR
theorem opDoL_value {Le : World → World → Prop} {i : Nat} {a : Act} {W W' : World} {R : Value → World → Prop} {o : Oper} {v : Value} (ho : ops[i]? = some o) (hg : o.guard = none) (hr : (execOp a.eval o).run P W = .ok (.value v) W') (hb : Le W W') (hR : R v W') : OpDoL Le P ops Q i a W R := by
  intro K hK
  unfold wpOp
  simp only [ho, Region.wanted, hg, if_true]
  refine .inl ?_
  unfold Oper.wp
  rw [hr]
  have := hK v W' hb hR
  rw [ho] at this
  exact this
def OpsDoL (Le : World → World → Prop) (P : Program) (ops : Array Oper) (Q : Exit → Act → World → Prop) (N : Nat) (al : List (Nat × Nat)) (g : Nat → Value) (R : Nat → Value → (Nat → Nat) → World → Prop) (w : World) (ds : List (List Nat)) : Nat → Nat → Prop
  | _, 0 => True
  | i, n + 1 => (∀ (f : Nat → Value) (s : Nat → Nat) (W : World), Le w W → (∀ j, (ds.getD i []).contains j = true → R j (f j) s W) → (∀ j, (ds.getD i []).contains j = true → w.heap.size ≤ s j) → (∀ p d, (ds.getD p []).contains i = true → al.contains (d, p) = true → f p = g d) → ∀ a, Holds' ops N (ov al f g) a → OpDoL Le P ops Q i a W (fun v W' => R i v (upd s i W.heap.size) W')) ∧ OpsDoL Le P ops Q N al g R w ds (i + 1) n
theorem opsDoL_at {Le : World → World → Prop} {N : Nat} {al : List (Nat × Nat)} {g : Nat → Value} {R : Nat → Value → (Nat → Nat) → World → Prop} {w : World} {ds : List (List Nat)} : ∀ (n i : Nat), OpsDoL Le P ops Q N al g R w ds i n → ∀ j, j < n →
    ∀ (f : Nat → Value) (s : Nat → Nat) (W : World), Le w W → (∀ k, (ds.getD (i + j) []).contains k = true → R k (f k) s W) → (∀ k, (ds.getD (i + j) []).contains k = true → w.heap.size ≤ s k) → (∀ p d, (ds.getD p []).contains (i + j) = true → al.contains (d, p) = true → f p = g d) → ∀ a, Holds' ops N (ov al f g) a → OpDoL Le P ops Q (i + j) a W (fun v W' => R (i + j) v (upd s (i + j) W.heap.size) W')
  | 0, _, _, _, hj => absurd hj (Nat.not_lt_zero _)
  | n + 1, i, h, 0, _ => h.1
  | n + 1, i, h, j + 1, hj => by
    have := opsDoL_at n (i + 1) h.2 j (by omega)
    rw [show i + 1 + j = i + (j + 1) by omega] at this
    exact this
def KeepsL (Le : World → World → Prop) (ds : List (List Nat)) (i : Nat) (r : Rl) : Prop :=
  (∀ v k W W', Le W W' → r v k W → r v k W') ∧ (∀ v s s' W, (∀ j ∈ i :: ds.getD i [], s j = s' j) → r v s W → r v s' W)
def StaysL (Le : World → World → Prop) (R : Nat → Rl) (ds : List (List Nat)) : Nat → Nat → Prop
  | _, 0 => True
  | i, n + 1 => KeepsL Le ds i (R i) ∧ StaysL Le R ds (i + 1) n
theorem staysL_at {Le : World → World → Prop} {R : Nat → Rl} {ds : List (List Nat)} : ∀ (n i : Nat), StaysL Le R ds i n → ∀ j, j < n → KeepsL Le ds (i + j) (R (i + j))
  | 0, _, _, _, hj => absurd hj (Nat.not_lt_zero _)
  | n + 1, i, h, 0, _ => h.1
  | n + 1, i, h, j + 1, hj => by
    have := staysL_at n (i + 1) h.2 j (by omega)
    rw [show i + 1 + j = i + (j + 1) by omega] at this
    exact this
structure BehindL (Le : World → World → Prop) (R : Nat → Value → (Nat → Nat) → World → Prop) (w : World) (n : Nat) (f : Nat → Value) (s : Nat → Nat) (W : World) : Prop where
  le : Le w W
  told : ∀ i, i < n → R i (f i) s W
  from' : ∀ i, i < n → w.heap.size ≤ s i
  apart : ∃ t : Nat → Nat, (∀ i, i < n → s i ≤ t i ∧ t i ≤ W.heap.size ∧ ∃ Wi : World, R i (f i) s Wi ∧ Wi.heap.size = t i) ∧ ∀ i j, i < n → j < n → i ≠ j → t i ≤ s j ∨ t j ≤ s i
theorem BehindL.is {Le : World → World → Prop} {l : List Rl} {w : World} {n : Nat} {f : Nat → Value} {s : Nat → Nat} {W : World} (h : BehindL Le (rel l) w n f s W) (i : Nat) (hi : decide (i < n) = true := by rfl) : rel l i (f i) s W := h.told i (of_decide_eq_true hi)
theorem BehindL.two {Le : World → World → Prop} {R : Nat → Value → (Nat → Nat) → World → Prop} {w : World} {n : Nat} {f : Nat → Value} {s : Nat → Nat} {W : World} (h : BehindL Le R w n f s W) (i j : Nat) (hi : i < n) (hj : j < n) (hij : i ≠ j) {g g' : Nat}
    (hg : s i ≤ g) (hg' : s j ≤ g') (h1 : ∀ W, R i (f i) s W → g < W.heap.size) (h2 : ∀ W, R j (f j) s W → g' < W.heap.size) : g ≠ g' := by
  obtain ⟨t, ht, hd⟩ := h.apart
  obtain ⟨a, b, W1, r1, z1⟩ := ht i hi
  obtain ⟨c, d, W2, r2, z2⟩ := ht j hj
  have := h1 _ r1; have := h2 _ r2
  have := hd i j hi hj hij
  omega
theorem region_doL {id : Nat} {draw : Bool} {N : Nat} {g : Nat → Value} {w : World} (Le : World → World → Prop) (hrefl : ∀ a, Le a a) (hdrew : ∀ a, Le a a.drew) (htrans : ∀ a b c, Le a b → Le b c → Le a c) (hsize : ∀ a b, Le a b → a.heap.size ≤ b.heap.size)
    (n : Nat) (al : List (Nat × Nat)) (ds : List (List Nat)) (R : Nat → Value → (Nat → Nat) → World → Prop)
    (hm : P.follows .mixedOrders = true) (hal : okSlots ops al = true) (hok : okWaits ops ds (if draw then n else ops.size) = true) (hn : decide (n ≤ ops.size) = true) (hst : StaysL Le R ds 0 n) (steps : OpsDoL Le P ops Q N al g R w ds 0 n)
    (fin : ∀ f s W, BehindL Le R w n f s W → wpOps P ops Q (List.range' n (ops.size - n)) (fr N (ov al f g)) W) :
    (Code.region id ops draw).wp P Q (fr N g) w := by
  obtain ⟨f0, hf0, hf1⟩ := ov_start (g := g) hal
  have h := wp_region_adds (P := P) (Q := Q) (id := id) (draw := draw) (w := w) (Le := Le) (R := fun i v s W => i < n → R i v s W) (mk := fun f => fr N (ov al f g)) n ds f0 hm hok hn
    hrefl hdrew htrans hsize
    (fun i v k W W' hle h hi => by have := (staysL_at n 0 hst i hi).1 v k W W' hle; rw [Nat.zero_add] at this; exact this (h hi))
    (fun i v s s' W he h hi => by have := (staysL_at n 0 hst i hi).2 v s s' W; rw [Nat.zero_add] at this; exact this he (h hi))
    ?_ ?_
  · simp only [hf0] at h; exact h
  · have key : ∀ m i, i + m = n → AddSteps P ops Q Le (fun i v k W => i < n → R i v k W) (fun f => fr N (ov al f g)) w f0 ds i m := by
      intro m
      induction m with
      | zero => intro i _; exact True.intro
      | succ m ih =>
        intro i him
        refine ⟨fun f s W hle hd hlate K hK => ?_, ih (i + 1) (by omega)⟩
        have hsz : i < ops.size := by have := of_decide_eq_true hn; omega
        have ho := Array.getElem?_eq_getElem hsz
        have hdo := opsDoL_at n 0 steps i (by omega) f s W hle
        rw [Nat.zero_add] at hdo
        have hdd : ∀ k, (ds.getD i []).contains k = true → R k (f k) s W ∧ w.heap.size ≤ s k := fun k hk => by
          have hk' : k ∈ ds.getD i [] := by simpa using hk
          have hlt := ((okWaits_at hok ho).1 k hk').1
          have := allIn_mem hd k hk'
          exact ⟨this.1 (by omega), this.2⟩
        refine hdo (fun k hk => (hdd k hk).1) (fun k hk => (hdd k hk).2) (fun p d hp hd' => (hlate p (by simpa using hp)).trans (hf1 (d, p) (by simpa using hd'))) _ (holds_fr _ _ _ _ _) K fun v W' hb hR => ?_
        have := hK v W' hb fun _ => hR
        rw [ho]
        simp only [Option.bind_some]
        rw [okSlots_at hal ho]
        exact this
    exact key n 0 (by omega)
  · rintro f s t W ⟨h1, h2, h3⟩
    exact fin f s W ⟨h1, fun i hi => (h2 i hi).1 hi, fun i hi => (h2 i hi).2.1, t, fun i hi => ⟨(h2 i hi).2.2.1, (h2 i hi).2.2.2.1, (h2 i hi).2.2.2.2.imp fun _ h => ⟨h.1 hi, h.2⟩⟩, fun i j hi hj => h3 i j hi hj⟩
end
/-- Nothing is changed but blocks of S, and what Ps says stays true. -/
structure LeX (S : Nat → Prop) (Ps : List (World → Prop)) (a b : World) : Prop where
  os : b.os = a.os
  tape : b.tape = a.tape
  output : b.output = a.output
  size : a.heap.size ≤ b.heap.size
  block : ∀ k, k < a.heap.size → ¬ S k → b.heap[k]? = a.heap[k]?
  stay : ∀ p ∈ Ps, p a → p b
def StayB (Ps : List (World → Prop)) : Prop := ∀ p ∈ Ps, ∀ a b, Below a.heap.size a b → p a → p b
section
variable {S : Nat → Prop} {Ps : List (World → Prop)}
theorem LeX.refl (a : World) : LeX S Ps a a := ⟨rfl, rfl, rfl, Nat.le_refl _, fun _ _ _ => rfl, fun _ _ h => h⟩
theorem LeX.trans (a b c : World) (h : LeX S Ps a b) (k : LeX S Ps b c) : LeX S Ps a c :=
  ⟨k.os.trans h.os, k.tape.trans h.tape, k.output.trans h.output, Nat.le_trans h.size k.size, fun i hi hn => (k.block i (Nat.lt_of_lt_of_le hi h.size) hn).trans (h.block i hi hn), fun p hp hx => k.stay p hp (h.stay p hp hx)⟩
theorem LeX.of_below (hP : StayB Ps) (a b : World) (h : Below a.heap.size a b) : LeX S Ps a b := ⟨h.os, h.tape, h.output, h.size, fun k hk _ => h.block k hk, fun p hp hx => hP p hp a b h hx⟩
theorem LeX.drew (hP : StayB Ps) (a : World) : LeX S Ps a a.drew := LeX.of_below hP _ _ (Below.refl _ _).drew
theorem LeX.below {a b : World} (h : LeX S Ps a b) {B : Nat} (hB : B ≤ a.heap.size) (hS : ∀ k, S k → B ≤ k) : Below B a b :=
  ⟨h.os, h.tape, h.output, h.size, fun k hk => h.block k (by omega) fun e => by have := hS k e; omega⟩
theorem blk_x {w W : World} {b : Nat} {o : Obj} (hb : w.heap[b]? = some o) (h : LeX S Ps w W) (hn : ¬ S b) : W.heap[b]? = some o := (h.block b (lt_of_blk hb) hn).trans hb
theorem is_kl {Le : World → World → Prop} {ds : List (List Nat)} {i : Nat} {x : Value} : KeepsL Le ds i (is x) := ⟨fun _ _ _ _ _ h => h, fun _ _ _ _ _ h => h⟩
/-- A row that is made, beside the blocks of S. -/
def rowX (S : Nat → Prop) (i n : Nat) (cs : Array Value) (T : TypeId) : Rl := fun v s W => ¬ S (s i) ∧ row i n cs T v s W
theorem rowX_k {ds : List (List Nat)} {i n : Nat} {cs : Array Value} {T : TypeId} : KeepsL (LeX S Ps) ds i (rowX S i n cs T) :=
  ⟨fun _ _ _ _ hb h => ⟨h.1, h.2.1, blk_x h.2.2 hb h.1⟩, fun v s s' W e h => by have := e i (by simp); unfold rowX row at *; rw [← this]; exact h⟩
end
/-- The block of a slice's address. -/
def blkOf (a : Option Addr) (k : Nat) : Prop := ∃ x, a = some x ∧ x.block = k
abbrev Ro (B : Nat) (xs : List Int) (a : Option Addr) (c : Nat) (W : World) : Prop := OwnV 3 1 B (iis xs) xs.length a c W
theorem Ro.plain {B : Nat} {xs : List Int} {x : Addr} {c : Nat} {W : World} (h : Ro B xs (some x) c W) : ∃ g, x = ⟨g, 0, none⟩ ∧ B ≤ g ∧ g < W.heap.size ∧ ∃ cur, W.heap[g]? = some (.cells cur 3 (0, 0)) ∧ xs.length ≤ c ∧ c ≤ maxLen ∧ cur.size = c ∧ cur.toList.take xs.length = iis xs := by
  obtain ⟨h1, h2, h3, h4⟩ := h
  rcases h4 with ⟨e, -⟩ | ⟨g, cap, cur, e, k1, k2, k3, k4, k5, k6⟩
  · exact absurd (Value.slice.inj e).1 (by simp)
  · obtain ⟨e1, -, rfl⟩ := Value.slice.inj e
    exact ⟨g, Option.some.inj e1, k1, lt_of_blk k2, cur, k2, k3, k4, by simpa using k5, by simpa using k6⟩
theorem Ro.mk {B : Nat} {xs : List Int} {g c : Nat} {W : World} {cur : Array Value} (hB : B ≤ g) (h : W.heap[g]? = some (.cells cur 3 (0, 0))) (h1 : xs.length ≤ c) (h2 : c ≤ maxLen) (h3 : cur.size = c) (h4 : cur.toList.take xs.length = iis xs) : Ro B xs (some ⟨g, 0, none⟩) c W := by
  have hl := lt_of_blk h
  exact ⟨by omega, fun x e => by cases e; exact ⟨hB, hl⟩, by simp [iis], .inr ⟨g, c, cur, rfl, hB, h, h1, h2, by simpa using h3, by simpa using h4⟩⟩
theorem setCell_row {W : World} {g i : Nat} {cur : Array Value} {T : TypeId} {v : Value} (h : W.heap[g]? = some (.cells cur T (0, 0))) : W.setCell ⟨g, i, none⟩ v = W.setRow g (cur.setIfInBounds i v) := by
  unfold World.setCell World.setRow
  congr 1
  apply Array.ext_getElem?
  intro k
  rw [Array.getElem?_modify, Array.getElem?_modify]
  by_cases hk : g = k
  · subst hk
    simp [h]
  · simp [hk]
/-- append(l, x): into the row that is there, or into a new one. -/
theorem grow_x {B : Nat} {W : World} (ty : TypeId) {xs : List Int} {c : Nat} {a : Option Addr} {b : Nat} {x : Int} (hn : xs.length ≤ 1000) (hown : Ro B xs a c W) (hb : W.heap[b]? = some (.cells #[.int .i64 x] 3 (0, 0))) :
    ∃ g c' W', (Builtin.append_ #[22, 22] ty #[.slice a xs.length c, .slice (some ⟨b, 0, none⟩) 1 1]).run Try.prog W = .ok (.slice (some ⟨g, 0, none⟩) (xs.length + 1) c') W' ∧ Ro B (xs ++ [x]) (some ⟨g, 0, none⟩) c' W' ∧
      ((a = some ⟨g, 0, none⟩ ∧ c' = c ∧ W'.os = W.os ∧ W'.tape = W.tape ∧ W'.output = W.output ∧ W'.heap.size = W.heap.size ∧ (∀ k, k ≠ g → W'.heap[k]? = W.heap[k]?) ∧ Ro B xs a c W') ∨ (W.heap.size ≤ g ∧ Below W.heap.size W W')) := by
  obtain ⟨i0, hi, hz0, hz1, hz2⟩ := info_parts Try.info3y
  by_cases hroom : xs.length + 1 ≤ c
  · cases a with
    | none =>
      rcases hown.2.2.2 with ⟨e, -⟩ | ⟨g, cap, cur, e, -⟩
      · have := (Value.slice.inj e).2.2; omega
      · exact absurd (Value.slice.inj e).1 (by simp)
    | some ad =>
      obtain ⟨g, rfl, hBg, hgW, cur, h2, h3, h4, h5, h6⟩ := Ro.plain hown
      have hr := run_append_room_cells (P := Try.prog) W 22 ty 3 i0 Try.underlying22 hi g 0 xs.length c ⟨b, 0, none⟩ 1 1 [.int .i64 x] (by rw [hz1]; rfl) (World.news_of_block (fr := (0, 0)) (t := 3) (cs := #[.int .i64 x]) hb) (by simp [Value.oneCell']) hroom
        (by
          intro j hj
          have hj0 : j = 0 := by simpa using hj
          subst hj0
          rw [hz1, Joins.cell_of_block h2]
          simp; omega)
        (by intro j hj; simp [World.frozen?, h2])
      have hset : W.setCells g (0 + xs.length * i0.size) [Value.int .i64 x] = W.setRow g (cur.toList.take xs.length ++ [Value.int .i64 x] ++ cur.toList.drop (xs.length + 1)).toArray := by
        have e : (cur.toList.take xs.length ++ [Value.int .i64 x] ++ cur.toList.drop (xs.length + 1)).toArray = cur.setIfInBounds xs.length (Value.int .i64 x) := by
          apply Array.ext'
          rw [Array.toList_setIfInBounds, List.set_eq_take_append_cons_drop, if_pos (by show xs.length < cur.size; rw [h5]; exact hroom)]
          simp
        rw [e, hz1, Nat.zero_add, Nat.mul_one]
        exact setCell_row h2
      rw [hset] at hr
      have hblk : (W.setRow g (cur.toList.take xs.length ++ [Value.int .i64 x] ++ cur.toList.drop (xs.length + 1)).toArray).heap[g]? = some (.cells (cur.toList.take xs.length ++ [Value.int .i64 x] ++ cur.toList.drop (xs.length + 1)).toArray 3 (0, 0)) := setRow_heap W g cur _ _ (0, 0) h2
      have hsz : (cur.toList.take xs.length ++ [Value.int .i64 x] ++ cur.toList.drop (xs.length + 1)).toArray.size = c := by
        simp; omega
      have hl : (iis xs).length = xs.length := by simp [iis]
      refine ⟨g, c, _, hr, Ro.mk hBg hblk (by simpa using hroom) h4 hsz ?_, .inl ⟨rfl, rfl, rfl, rfl, rfl, by rw [setRow_size], fun k hk => setRow_other W g k _ hk, Ro.mk hBg hblk h3 h4 hsz ?_⟩⟩
      · rw [h6]
        show List.take (xs ++ [x]).length (iis xs ++ [Value.int .i64 x] ++ _) = _
        rw [List.take_append_of_le_length (by simp [hl]), List.take_of_length_le (by simp [hl]), iis_snoc]
      · rw [h6]
        show List.take xs.length (iis xs ++ [Value.int .i64 x] ++ _) = _
        rw [List.append_assoc, List.take_append_of_le_length (by simp [hl]), List.take_of_length_le (by simp [hl])]
  · cases a with
    | none =>
      obtain ⟨h1, h2, h3, h4⟩ := hown
      rcases h4 with ⟨e, h0⟩ | ⟨g, cap, cur, e, -⟩
      · obtain ⟨-, -, rfl⟩ := Value.slice.inj e
        have hx0 : xs = [] := List.length_eq_zero_iff.1 h0
        subst hx0
        obtain ⟨g', c2, W', hr, k2, k3, k4, k5⟩ := run_append_lies (P := Try.prog) W 22 ty B 3 i0 (.int .i64 0) 1 8 Try.underlying22 hi hz0 hz1 hz2 rfl (by omega) (.slice none 0 0) 0 [] (World.ownsRow_nil _ _ _ _)
          ⟨b, 0, none⟩ 1 1 [.int .i64 x] rfl (World.news_of_block (fr := (0, 0)) (t := 3) (cs := #[.int .i64 x]) hb) (by simp [Value.oneCell']) (by omega) (by unfold maxLen; omega) (by omega) h1 _ rfl
        have hg' : g' = W.heap.size := by
          rcases k4 with k4 | k4
          · cases k4
          · exact k4
        refine ⟨g', c2, W', hr, ⟨Nat.le_trans h1 k3.size, fun y e => by cases e; exact ⟨(by rw [hg']; exact h1 : B ≤ g'), k5⟩, k2⟩, .inr ⟨by omega, (Below.refl _ _).grown k3 (Nat.le_refl _) (fun k e => by cases e)⟩⟩
      · exact absurd (Value.slice.inj e).1 (by simp)
    | some ad =>
      obtain ⟨g, rfl, hBg, hgW, cur, h2, h3, h4, h5, h6⟩ := Ro.plain hown
      obtain ⟨v, W', hr, k2, k3⟩ := run_append_arg_grows (P := Try.prog) W 22 ty 3 i0 (.int .i64 0) 1 8 Try.underlying22 hi hz0 hz1 hz2 rfl (by decide) ⟨g, 0, none⟩ xs.length c (iis xs) (by simp [iis])
        (fun j u hj => by
          have hj' : j < xs.length := by
            rcases Nat.lt_or_ge j xs.length with h' | h'
            · exact h'
            · rw [List.getElem?_eq_none (by simpa [iis] using h')] at hj; cases hj
          rw [add_plain', Nat.zero_add, Joins.cell_of_block h2]
          rw [← h6, List.getElem?_take_of_lt hj'] at hj
          simpa using hj)
        ⟨b, 0, none⟩ 1 1 [.int .i64 x] rfl (World.news_of_block (fr := (0, 0)) (t := 3) (cs := #[.int .i64 x]) hb) (by omega) (by unfold maxLen; omega) (by omega)
      obtain ⟨g2, cap2, rfl⟩ := Joins.ownsRow_form k2 (by omega)
      have hge := own_ge k2 g2 rfl
      rw [iis_snoc] at k2
      have hlow : W'.ownsRow B 3 1 (.slice (some ⟨g2, 0, none⟩) (xs.length + 1) cap2) (xs.length + 1) (iis (xs ++ [x])) := ownsRow_low k2 hown.1
      have hl' : (xs ++ [x]).length = xs.length + 1 := by simp
      refine ⟨g2, cap2, W', hr, ⟨Nat.le_trans hown.1 k3.size, fun y e => by cases e; exact ⟨Nat.le_trans hown.1 hge, own_lt' k2⟩, by rw [hl']; exact hlow⟩, .inr ⟨hge, (Below.refl _ _).grown k3 (Nat.le_refl _) (fun k e => by cases e)⟩⟩
theorem Ro.below {B : Nat} {xs : List Int} {a : Option Addr} {c : Nat} {W W' : World} (h : Ro B xs a c W) (hb : Below W.heap.size W W') : Ro B xs a c W' := OwnV.below h hb
/-- It stays where its block stays. -/
theorem OwnV.same {T : TypeId} {z B n c : Nat} {cs : List Value} {a : Option Addr} {W W' : World} (h : OwnV T z B cs n a c W) (hz : W.heap.size ≤ W'.heap.size) (hb : ∀ x, a = some x → W'.heap[x.block]? = W.heap[x.block]?) : OwnV T z B cs n a c W' := by
  refine ⟨Nat.le_trans h.1 hz, fun x e => ⟨(h.2.1 x e).1, Nat.lt_of_lt_of_le (h.2.1 x e).2 hz⟩, h.2.2.1, ?_⟩
  rcases h.2.2.2 with h4 | ⟨g', cap, cur, e, h5, h6, h7⟩
  · exact .inl h4
  · obtain ⟨e1, -, -⟩ := Value.slice.inj e
    exact .inr ⟨g', cap, cur, e, h5, (hb _ e1).trans h6, h7⟩
theorem OwnI.same {B : Nat} {xs : List Int} {g c : Nat} {W W' : World} (h : OwnI B xs g c W) (hz : W.heap.size ≤ W'.heap.size) (hb : W'.heap[g]? = W.heap[g]?) : OwnI B xs g c W' := by
  refine ⟨h.1, Nat.lt_of_lt_of_le h.2.1 hz, h.2.2.1, ?_⟩
  rcases h.2.2.2 with h4 | ⟨g', cap, cur, e, h5, h6, h7⟩
  · exact .inl h4
  · obtain ⟨e1, -, -⟩ := Value.slice.inj e
    cases e1
    exact .inr ⟨g, cap, cur, e, h5, hb.trans h6, h7⟩
/-- Two rows of one's own, each of which one number is appended to in one region. -/
def twoS (a b : Option Addr) (k : Nat) : Prop := blkOf a k ∨ blkOf b k
def twoP (B : Nat) (xs xs' ys ys' : List Int) (a b : Option Addr) (c d : Nat) : List (World → Prop) := [Ro B xs a c, Ro B xs' a c, Ro B ys b d, Ro B ys' b d]
theorem twoP_stay (B : Nat) (xs xs' ys ys' : List Int) (a b : Option Addr) (c d : Nat) : StayB (twoP B xs xs' ys ys' a b c d) := by
  intro p hp x y hb h
  simp only [twoP, List.mem_cons, List.not_mem_nil, or_false] at hp
  rcases hp with rfl | rfl | rfl | rfl <;> exact Ro.below h hb
/-- What an append leaves: the row that was there, or a new one. -/
def rowA (B w0 i : Nat) (zs : List Int) (a : Option Addr) (c : Nat) : Rl := fun v s W => ∃ g c', v = .slice (some ⟨g, 0, none⟩) zs.length c' ∧ Ro B zs (some ⟨g, 0, none⟩) c' W ∧ (a = some ⟨g, 0, none⟩ ∧ c' = c ∨ w0 ≤ s i ∧ s i ≤ g)
theorem rowA_k {S : Nat → Prop} {Ps : List (World → Prop)} {ds : List (List Nat)} {B w0 i : Nat} {zs : List Int} {a : Option Addr} {c : Nat} (hS : ∀ k, S k → k < w0) (hp : Ro B zs a c ∈ Ps) : KeepsL (LeX S Ps) ds i (rowA B w0 i zs a c) := by
  refine ⟨fun v k W W' hb ⟨g, c', e, h, hc⟩ => ⟨g, c', e, ?_, hc⟩, fun v s s' W e h => by have := e i (by simp); unfold rowA at *; rw [← this]; exact h⟩
  rcases hc with ⟨rfl, rfl⟩ | ⟨h1, h2⟩
  · exact hb.stay _ hp h
  · exact OwnV.same h hb.size fun x ex => by
      cases ex
      exact hb.block g (h.2.1 _ rfl).2 fun hs => by have := hS g hs; omega
theorem rowA_lt {B w0 i : Nat} {zs : List Int} {a : Option Addr} {c g n c' : Nat} {v : Value} {s : Nat → Nat} {W : World} (h : rowA B w0 i zs a c v s W) (e : v = .slice (some ⟨g, 0, none⟩) n c') : g < W.heap.size := by
  obtain ⟨g', c2, e', h, -⟩ := h
  rw [e] at e'
  obtain ⟨e1, -, -⟩ := Value.slice.inj e'
  cases e1
  exact (h.2.1 _ rfl).2
theorem app_x {i : Nat} {S : Nat → Prop} {Ps : List (World → Prop)} {B w0 : Nat} {W : World} (ty : TypeId) {xs zs : List Int} {n c : Nat} {al : Option Addr} {b : Nat} {x : Int} (hl : xs.length = n) (hn : n ≤ 1000) (hown : Ro B xs al c W) (hb : W.heap[b]? = some (.cells #[.int .i64 x] 3 (0, 0))) (hz : xs ++ [x] = zs)
    (hw0 : w0 ≤ W.heap.size) (hP : StayB Ps) (hS : ∀ g, al = some ⟨g, 0, none⟩ → S g)
    (hin : ∀ (W' : World) (g : Nat), al = some ⟨g, 0, none⟩ → W'.heap.size = W.heap.size → (∀ k, k ≠ g → W'.heap[k]? = W.heap[k]?) → Ro B xs al c W' → Ro B zs al c W' → ∀ p ∈ Ps, p W → p W') :
    ∃ v W', (Builtin.append_ #[22, 22] ty #[.slice al n c, .slice (some ⟨b, 0, none⟩) 1 1]).run Try.prog W = .ok v W' ∧ LeX S Ps W W' ∧ ∀ s : Nat → Nat, s i = W.heap.size → rowA B w0 i zs al c v s W' := by
  subst hz hl
  obtain ⟨g, c', W', hr, hro, hc⟩ := grow_x ty hn hown hb
  have e : (xs ++ [x]).length = xs.length + 1 := by simp
  refine ⟨_, W', hr, ?_, fun s hs => ⟨g, c', by rw [e], hro, ?_⟩⟩
  · rcases hc with ⟨h1, h2, k1, k2, k3, k4, k5, k6⟩ | ⟨h1, h2⟩
    · refine ⟨k1, k2, k3, by omega, fun k hk hn => k5 k fun e => hn (e ▸ hS g h1), hin W' g h1 k4 k5 k6 ?_⟩
      rw [h1, ← h2]; exact hro
    · exact LeX.of_below hP _ _ h2
  · rcases hc with ⟨h1, h2, -⟩ | ⟨h1, h2⟩
    · exact .inl ⟨h1, h2⟩
    · exact .inr ⟨by omega, by omega⟩
theorem two_in1 {B : Nat} {xs xs' ys ys' : List Int} {a b : Option Addr} {c d : Nat} {W W' : World} {g : Nat} (hne : ∀ x y, a = some x → b = some y → x.block ≠ y.block) (ha : a = some ⟨g, 0, none⟩) (hz : W'.heap.size = W.heap.size) (ho : ∀ k, k ≠ g → W'.heap[k]? = W.heap[k]?) (h1 : Ro B xs a c W') (h2 : Ro B xs' a c W') :
    ∀ p ∈ twoP B xs xs' ys ys' a b c d, p W → p W' := by
  intro p hp h
  simp only [twoP, List.mem_cons, List.not_mem_nil, or_false] at hp
  rcases hp with rfl | rfl | rfl | rfl
  · exact h1
  · exact h2
  · exact OwnV.same h (by omega) fun x e => ho _ fun e' => hne _ _ ha e e'.symm
  · exact OwnV.same h (by omega) fun x e => ho _ fun e' => hne _ _ ha e e'.symm
theorem two_in2 {B : Nat} {xs xs' ys ys' : List Int} {a b : Option Addr} {c d : Nat} {W W' : World} {g : Nat} (hne : ∀ x y, a = some x → b = some y → x.block ≠ y.block) (hb : b = some ⟨g, 0, none⟩) (hz : W'.heap.size = W.heap.size) (ho : ∀ k, k ≠ g → W'.heap[k]? = W.heap[k]?) (h1 : Ro B ys b d W') (h2 : Ro B ys' b d W') :
    ∀ p ∈ twoP B xs xs' ys ys' a b c d, p W → p W' := by
  intro p hp h
  simp only [twoP, List.mem_cons, List.not_mem_nil, or_false] at hp
  rcases hp with rfl | rfl | rfl | rfl
  · exact OwnV.same h (by omega) fun x e => ho _ fun e' => hne _ _ e hb e'
  · exact OwnV.same h (by omega) fun x e => ho _ fun e' => hne _ _ e hb e'
  · exact h1
  · exact h2
theorem OpDo.rowx {P : Program} {ops : Array Oper} {Q : Exit → Act → World → Prop} {S : Nat → Prop} {Ps : List (World → Prop)} {i n : Nat} {a : Act} {W : World} {s : Nat → Nat} {cs : Array Value} {T : TypeId} (hP : StayB Ps) (hn : ¬ S W.heap.size) (h : OpDo P ops Q i a W (fun v W' => row i n cs T v (upd s i W.heap.size) W')) : OpDoL (LeX S Ps) P ops Q i a W (fun v W' => rowX S i n cs T v (upd s i W.heap.size) W') :=
  fun K hK => h K fun v W' hb hR => hK v W' (LeX.of_below hP _ _ hb) ⟨by rw [upd_at]; exact hn, hR⟩
end Go.Proofs.Ythnediamopehfaa
namespace Go.Proofs.Ythnediamopehfaa
open Go.RowKit
theorem ownI_lit {B b n : Nat} {xs : List Int} {W : World} (h : W.heap[b]? = some (.cells (xs.map (Value.int .i64)).toArray 3 (0, 0))) (hb : B ≤ b) (hn : n = xs.length) (hm : decide (n ≤ 1000) = true) : OwnI B xs b n W := by
  subst hn
  have hm' := of_decide_eq_true hm
  refine ⟨hb, lt_of_blk h, by simp, .inr ⟨b, xs.length, _, rfl, hb, h, Nat.le_refl _, by unfold maxLen; omega, by simp, by simp; rw [List.take_of_length_le (by simp)]⟩⟩
theorem own_row {B B' c : Nat} {xs : List Int} {g : Nat} {W : World} (h : Ro B xs (some ⟨g, 0, none⟩) c W) (hB : B' ≤ B) : OwnI B' xs g c W :=
  ⟨Nat.le_trans hB (h.2.1 _ rfl).1, (h.2.1 _ rfl).2, ownsRow_low h.2.2 hB⟩
/-- A list of one's own and a block of something else. -/
theorem own_ne {B : Nat} {xs : List Int} {g c b : Nat} {W : World} {cs : Array Value} {T : TypeId} (h : OwnI B xs g c W) (hb : W.heap[b]? = some (.cells cs T (0, 0))) (hT : (T != 3) = true := by decide) : g ≠ b := by
  rintro rfl
  have hT' : T ≠ 3 := bne_iff_ne.1 hT
  rcases h.2.2.2 with ⟨e, -⟩ | ⟨g', cap, cur, e, -, h6, -⟩
  · cases e
  · cases e
    rw [hb] at h6
    simp only [Option.some.injEq, Obj.cells.injEq] at h6
    exact hT' h6.2.1
/-- A blank whose lists lie in blocks of whole numbers. -/
def TyBlk (B : Nat) (b : Bl) (v : Value) (W : World) : Prop :=
  ∃ g1 c1 g2 c2 g3 c3, v = .agg #[.int .i64 b.tab, .slice (some ⟨g1, 0, none⟩) b.panels.length c1, .int .i64 b.height, .slice (some ⟨g2, 0, none⟩) b.top.length c2, .slice (some ⟨g3, 0, none⟩) b.bottom.length c3, .int .i64 b.slot, .bool b.isOpen] ∧
    OwnI B b.panels g1 c1 W ∧ OwnI B b.top g2 c2 W ∧ OwnI B b.bottom g3 c3 W
theorem TyBlk.below {B : Nat} {b : Bl} {v : Value} {W W' : World} (h : TyBlk B b v W) (hb : Below W.heap.size W W') : TyBlk B b v W' := by
  obtain ⟨g1, c1, g2, c2, g3, c3, e, h1, h2, h3⟩ := h
  exact ⟨g1, c1, g2, c2, g3, c3, e, h1.below hb, h2.below hb, h3.below hb⟩
theorem TyBlk.low {B B' : Nat} {b : Bl} {v : Value} {W : World} (h : TyBlk B b v W) (hB : B' ≤ B) : TyBlk B' b v W := by
  obtain ⟨g1, c1, g2, c2, g3, c3, e, h1, h2, h3⟩ := h
  exact ⟨g1, c1, g2, c2, g3, c3, e, h1.low hB, h2.low hB, h3.low hB⟩
def TyBlkP (b : Bl) (w : World) (e : Ending) (w' : World) : Prop := ∃ v, e = .returned v ∧ TyBlk w.heap.size b v w' ∧ Below w.heap.size w w'
end Go.Proofs.Ythnediamopehfaa
