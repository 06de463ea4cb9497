/- Part of the proof: what the claim leans on. -/
import Derived.Test.YthnediamopehfaaGreatVMAX
import Derived.Deep.AppendLies
set_option maxHeartbeats 2000000
set_option maxRecDepth 100000
set_option linter.unusedSimpArgs false
set_option linter.unusedVariables false
namespace Go.Proofs.YthnediamopehfaaGreat
open Go.RowKit
theorem tail_value2 {P : Program} {ops : Array Oper} {Q : Exit → Act → World → Prop} {i m N d : Nat} {g : Nat → Value} {W W' : World} {o : Oper} {v : Value} (ho : ops[i]? = some o) (hg : o.guard = none) (hd : o.dst = some d) (hr : (execOp (fr N g).eval o).run P W = .ok (.value v) W')
    (h : wpOps P ops Q (List.range' (i + 1) m) (fr N (upd g d v)) W') : wpOps P ops Q (List.range' i (m + 1)) (fr N g) W := by
  rw [List.range'_succ, wpOps_cons]
  unfold wpOp
  simp only [ho, Region.wanted, hg, if_true]
  refine .inl ?_
  unfold Oper.wp
  rw [hr]
  simp only [Oper.upon, hd]
  rw [fr_put]; exact h
def OwnI (B : Nat) (xs : List Int) (g c : Nat) (W : World) : Prop := B ≤ g ∧ g < W.heap.size ∧ W.ownsRow B 3 1 (.slice (some ⟨g, 0, none⟩) xs.length c) xs.length (xs.map (Value.int .i64))
theorem OwnI.ii {B : Nat} {xs : List Int} {g c : Nat} {W : World} (h : OwnI B xs g c W) : Ii W (some ⟨g, 0, none⟩) xs.length c xs := owns_ii h.2.2
theorem OwnI.below {B : Nat} {xs : List Int} {g c : Nat} {W W' : World} (h : OwnI B xs g c W) (hb : Below W.heap.size W W') : OwnI B xs g c W' := by
  refine ⟨h.1, Nat.lt_of_lt_of_le h.2.1 hb.size, h.2.2.1, ?_⟩
  rcases h.2.2.2 with h4 | ⟨g', cap, cur, e, h5, h6, h7⟩
  · exact .inl h4
  · exact .inr ⟨g', cap, cur, e, h5, bwb h6 hb, h7⟩
theorem OwnI.other {B b : Nat} {xs : List Int} {g c : Nat} {W W' : World} (h : OwnI B xs g c W) (hot : ∀ k x, k ≠ b → W.heap[k]? = some x → W'.heap[k]? = some x) (hne : g ≠ b) (hz : W.heap.size ≤ W'.heap.size) : OwnI B xs g c W' := by
  refine ⟨h.1, Nat.lt_of_lt_of_le h.2.1 hz, h.2.2.1, ?_⟩
  rcases h.2.2.2 with h4 | ⟨g', cap, cur, e, h5, h6, h7⟩
  · exact .inl h4
  · cases e
    exact .inr ⟨g, c, cur, rfl, h5, hot _ _ hne h6, h7⟩
open Go.RowKit
def OwI (B : Nat) (xs : List Int) (n : Nat) (v : Value) (W : World) : Prop := ∃ g c, v = .slice (some ⟨g, 0, none⟩) n c ∧ OwnI B xs g c W
theorem OwI.below {B n : Nat} {xs : List Int} {v : Value} {W W' : World} (h : OwI B xs n v W) (hb : Below W.heap.size W W') : OwI B xs n v W' := by
  obtain ⟨g, c, e, h⟩ := h
  exact ⟨g, c, e, h.below hb⟩
theorem OwI.lt {B n : Nat} {xs : List Int} {v : Value} {W : World} (h : OwI B xs n v W) {g m c : Nat} (e : v = .slice (some ⟨g, 0, none⟩) m c) : g < W.heap.size := by
  obtain ⟨g', c', e', h⟩ := h
  rw [e] at e'
  simp only [Value.slice.injEq, Option.some.injEq, Addr.mk.injEq, and_true] at e'
  obtain ⟨rfl, -⟩ := e'
  exact h.2.1
def OwIP (xs : List Int) (n : Nat) (w : World) (e : Ending) (w' : World) : Prop := ∃ v, e = .returned v ∧ OwI w.heap.size xs n v w' ∧ Below w.heap.size w w'
theorem OwnI.lim {B : Nat} {xs : List Int} {g c : Nat} {W : World} (h : OwnI B xs g c W) : B ≤ g ∧ g < W.heap.size := ⟨h.1, h.2.1⟩
theorem OwnI.cell {B : Nat} {xs : List Int} {g c : Nat} {W : World} (h : OwnI B xs g c W) {i : Nat} (hi : i < xs.length) : W.cell? ⟨g, i, none⟩ = some (.int .i64 (xs.getD i 0)) := by
  obtain ⟨b, off, e, -, hc⟩ := h.ii.at (by omega)
  cases e
  have := hc i hi
  rwa [Nat.zero_add] at this
theorem Behind.two {R : Nat → Value → (Nat → Nat) → World → Prop} {w : World} {n : Nat} {f : Nat → Value} {s : Nat → Nat} {W : World} (h : Behind R w n f s W) (i j : Nat) (hi : i < n) (hj : j < n) (hij : i ≠ j) {g g' : Nat}
    (hg : s i ≤ g) (hg' : s j ≤ g') (h1 : ∀ W, R i (f i) s W → g < W.heap.size) (h2 : ∀ W, R j (f j) s W → g' < W.heap.size) : g ≠ g' := by
  obtain ⟨t, ht, hd⟩ := h.apart
  obtain ⟨a, b, W1, r1, z1⟩ := ht i hi
  obtain ⟨c, d, W2, r2, z2⟩ := ht j hj
  have := h1 _ r1; have := h2 _ r2
  have := hd i j hi hj hij
  omega
theorem ownsRow_low {W : World} {B B' : Nat} {T : TypeId} {z n : Nat} {v : Value} {xs : List Value} (h : W.ownsRow B T z v n xs) (hB : B' ≤ B) : W.ownsRow B' T z v n xs := by
  refine ⟨h.1, ?_⟩
  rcases h.2 with h | ⟨g, cap, cur, e, h1, h2⟩
  · exact .inl h
  · exact .inr ⟨g, cap, cur, e, Nat.le_trans hB h1, h2⟩
theorem OwnI.low {B B' : Nat} {xs : List Int} {g c : Nat} {W : World} (h : OwnI B xs g c W) (hB : B' ≤ B) : OwnI B' xs g c W := ⟨Nat.le_trans hB h.1, h.2.1, ownsRow_low h.2.2 hB⟩
theorem cloneO_run (ty : TypeId) (W : World) (g : Nat) (a : Option Addr) (c : Nat) (xs : List Int) (n : Nat) (h : Ii W a n c xs) (hn : n ≤ 1000) (hne : 0 < n) (hg : W.heap[g]? = some (.cells #[] 3 (0, 0))) :
    ∃ v W', (Builtin.append_ #[22, 22] ty #[.slice (some ⟨g, 0, none⟩) 0 0, .slice a n c]).run Tryz.prog W = .ok v W' ∧ Below W.heap.size W W' ∧ OwI W.heap.size xs n v W' := by
  obtain ⟨i0, hi, hz0, hz1, hz2⟩ := info_parts Tryz.info3x
  have hg' : g < W.heap.size := ltb hg
  obtain rfl := h.1
  obtain ⟨b, off, rfl, hb, hc⟩ := h.at hne
  obtain ⟨v, W', hr, hown, hgr⟩ := run_append_arg_grows (P := Tryz.prog) W 22 ty 3 i0 (.int .i64 0) 1 8 Tryz.underlying22 hi hz0 hz1 hz2 rfl (by decide) ⟨g, 0, none⟩ 0 0 [] rfl (fun j u hj => by simp at hj) ⟨b, off, none⟩ xs.length c (xs.map (Value.int .i64)) (by simp)
    (fun j u hj => by
      have hj' : j < xs.length := by
        rcases Nat.lt_or_ge j xs.length with h' | h'
        · exact h'
        · rw [List.getElem?_eq_none (by simpa using h')] at hj; cases hj
      rw [show ((⟨b, off, none⟩ : Addr).add j) = ⟨b, off + j, none⟩ from by unfold Addr.add; split <;> simp_all, hc j hj']
      simp [List.getElem?_map, hj'] at hj
      subst hj
      simp [List.getD_eq_getElem?_getD, hj'])
    (by omega) (by unfold maxLen; omega) (by omega)
  obtain ⟨g2, cap2, rfl⟩ := Joins.ownsRow_form hown (by omega)
  simp only [Nat.zero_add, List.nil_append] at hown hr
  exact ⟨_, W', hr, (Below.refl _ _).grown hgr (Nat.le_refl _) (fun k e => by cases e), g2, cap2, rfl, own_ge hown g2 rfl, own_lt' hown, hown⟩
theorem take_set_cells {cs : List Value} {xs : List Int} (h : cs.take xs.length = xs.map (Value.int .i64)) (i : Nat) (hi : i < xs.length) (x : Int) (hl : xs.length ≤ cs.length) :
    (cs.take i ++ [Value.int .i64 x] ++ cs.drop (i + 1)).take xs.length = (xs.set i x).map (Value.int .i64) := by
  have e : cs.take i ++ [Value.int .i64 x] ++ cs.drop (i + 1) = cs.set i (Value.int .i64 x) := by
    rw [List.set_eq_take_append_cons_drop, if_pos (by omega)]; simp
  rw [e, List.take_set, h, List.map_set]
theorem storeI_tail {w W : World} {xs : List Int} (ys : List Int) {g c : Nat} {i : Nat} {x : Int} (hi : i < xs.length) (hys : xs.set i x = ys) (hB : Below w.heap.size w W) (hown : OwnI w.heap.size xs g c W) :
    ∃ W', (∀ {a : Act} {dst : Option Nat} {tt : TypeId} {X Y : Operand} {pos : String} {af : Array Edge} {gd : Option (Nat × Bool)}, a.eval X = .pointer (some ⟨g, i, none⟩) → a.eval Y = .int .i64 x → (execOp a.eval { dst := dst, op := .store 3 X Y, type := tt, pos := pos, after := af, guard := gd }).run Tryz.prog W = .ok .skip W') ∧
      OwnI w.heap.size ys g c W' ∧ (∀ k y, k ≠ g → W.heap[k]? = some y → W'.heap[k]? = some y) ∧ W.heap.size ≤ W'.heap.size ∧ Below w.heap.size w W' := by
  subst hys
  obtain ⟨hg, hlt, hl, hr⟩ := hown
  rcases hr with ⟨h, -⟩ | ⟨g', cap, cur, e, h1, h2, h3, h4, h5, h6⟩
  · cases h
  · cases e
    simp only [Nat.mul_one] at h5 h6
    have hsz : i + 1 ≤ cur.size := by omega
    refine ⟨W.setRow g (cur.toList.take i ++ [Value.int .i64 x] ++ cur.toList.drop (i + 1)).toArray, fun hX hY => ?_, ⟨hg, ?_, ?_, .inr ⟨g, _, _, ?_, h1, setRow_heap W g cur _ _ (0, 0) h2, ?_, h4, ?_, ?_⟩⟩, fun k y hk hy => by rw [setRow_other W g k _ hk]; exact hy, by rw [setRow_size]; exact Nat.le_refl _, below_setRow hB hg _⟩
    · exact run_seg (v := .int .i64 x) rfl hX hY h2 (by kernel_rfl) (by simpa [Value.cells] using hsz) rfl (by simp [Value.cells])
    · rw [setRow_size]; exact hlt
    · simp
    · simp
    · simpa using h3
    · simp; omega
    · simp only [Nat.mul_one, List.length_set]
      rw [List.toList_toArray]
      exact take_set_cells h6 i hi x (by show xs.length ≤ cur.size; rw [h5]; exact h3)
def OwBlk (B : Nat) (b : Bl) (v : Value) (W : World) : Prop :=
  ∃ g1 c1 g2 c2 g3 c3, v = .agg #[.int .i64 b.tab, .slice (some ⟨g1, 0, none⟩) b.panels.length c1, .int .i64 b.height, .slice (some ⟨g2, 0, none⟩) b.top.length c2, .slice (some ⟨g3, 0, none⟩) b.bottom.length c3, .int .i64 b.slot, .bool b.isOpen] ∧
    OwnI B b.panels g1 c1 W ∧ OwnI B b.top g2 c2 W ∧ OwnI B b.bottom g3 c3 W ∧ g1 ≠ g2 ∧ g1 ≠ g3 ∧ g2 ≠ g3
theorem OwBlk.below {B : Nat} {b : Bl} {v : Value} {W W' : World} (h : OwBlk B b v W) (hb : Below W.heap.size W W') : OwBlk B b v W' := by
  obtain ⟨g1, c1, g2, c2, g3, c3, e, h1, h2, h3, hn⟩ := h
  exact ⟨g1, c1, g2, c2, g3, c3, e, h1.below hb, h2.below hb, h3.below hb, hn⟩
theorem OwBlk.lt {B : Nat} {b : Bl} {v : Value} {W : World} (h : OwBlk B b v W) {x1 x2 x3 x4 : Value} {g1 g2 g3 n1 n2 n3 c1 c2 c3 : Nat} (e : v = .agg #[x1, .slice (some ⟨g1, 0, none⟩) n1 c1, x2, .slice (some ⟨g2, 0, none⟩) n2 c2, .slice (some ⟨g3, 0, none⟩) n3 c3, x3, x4]) : g1 < W.heap.size ∧ g2 < W.heap.size ∧ g3 < W.heap.size := by
  obtain ⟨h1, d1, h2, d2, h3, d3, e', m1, m2, m3, -⟩ := h
  rw [e] at e'
  simp only [Value.agg.injEq, Array.mk.injEq, List.cons.injEq, Value.slice.injEq, Option.some.injEq, Addr.mk.injEq, and_true] at e'
  obtain ⟨-, ⟨rfl, -⟩, -, ⟨rfl, -⟩, ⟨rfl, -⟩, -, -⟩ := e'
  exact ⟨m1.2.1, m2.2.1, m3.2.1⟩
def OwBlkP (b : Bl) (w : World) (e : Ending) (w' : World) : Prop := ∃ v, e = .returned v ∧ OwBlk w.heap.size b v w' ∧ Below w.heap.size w w'
open Go.RowKit
def OwnV (T : TypeId) (z B : Nat) (cs : List Value) (n : Nat) (a : Option Addr) (c : Nat) (W : World) : Prop :=
  B ≤ W.heap.size ∧ (∀ x, a = some x → B ≤ x.block ∧ x.block < W.heap.size) ∧ W.ownsRow B T z (.slice a n c) n cs
theorem OwnV.below {T : TypeId} {z B n c : Nat} {cs : List Value} {a : Option Addr} {W W' : World} (h : OwnV T z B cs n a c W) (hb : Below W.heap.size W W') : OwnV T z B cs n a c W' :=
  ⟨Nat.le_trans h.1 hb.size, fun x e => ⟨(h.2.1 x e).1, Nat.lt_of_lt_of_le (h.2.1 x e).2 hb.size⟩, own_below h.2.2 hb⟩
theorem ownV_block {T : TypeId} {z B b : Nat} {W : World} (h : W.heap[b]? = some (.cells #[] T (0, 0))) (hb : B ≤ b) : OwnV T z B [] 0 (some ⟨b, 0, none⟩) 0 W := by
  have := ltb h
  exact ⟨by omega, fun x e => by cases e; exact ⟨hb, this⟩, by simp, .inr ⟨b, 0, #[], rfl, hb, h, Nat.le_refl _, by unfold maxLen; omega, by simp, by simp⟩⟩
theorem add_plain' (b o k : Nat) : ((⟨b, o, none⟩ : Addr).add k) = ⟨b, o + k, none⟩ := by unfold Addr.add; split <;> simp_all
theorem growV_tail {w W : World} (sl ty T : TypeId) (z by_ : Nat) (zero : Value) (hu : Tryz.prog.underlying sl = some (.slice T)) (hi : (Tryz.prog.info? T).map (fun i => (i.zero, i.size, i.bytes)) = some (some zero, z, by_)) (hzz : decide (0 < z ∧ zero.cells.size = z) = true)
    {B n c : Nat} {cs : List Value} {a : Option Addr} (ys : List Value) (m : Nat) {b off k c' : Nat} (es : List Value) (hB : Below w.heap.size w W) (hown : OwnV T z B cs n a c W) (hys : cs ++ es = ys) (hm : n + k = m) (hBw : w.heap.size ≤ B)
    (hel : decide (es.length = k * z ∧ 0 < k) = true) (h1 : es.all (·.oneCell') = true) (hb : ∀ j u, es[j]? = some u → W.cell? ⟨b, off + j, none⟩ = some u) (hn : (n + k) * (by_ + 1) ≤ 1000000000) :
    ∃ g' c2 W', (Builtin.append_ #[sl, sl] ty #[.slice a n c, .slice (some ⟨b, off, none⟩) k c']).run Tryz.prog W = .ok (.slice (some ⟨g', 0, none⟩) m c2) W' ∧
      OwnV T z B ys m (some ⟨g', 0, none⟩) c2 W' ∧ (∀ k y, k < B → W.heap[k]? = some y → W'.heap[k]? = some y) ∧ W.heap.size ≤ W'.heap.size ∧ Below w.heap.size w W' := by
  subst hys hm
  obtain ⟨hz0, hzs⟩ := of_decide_eq_true hzz
  obtain ⟨hel, hk⟩ := of_decide_eq_true hel
  obtain ⟨i0, hi, hz0', hz1, hz2⟩ := info_parts hi
  have hnk : n + k ≤ (n + k) * (by_ + 1) := Nat.le_mul_of_pos_right _ (Nat.succ_pos _)
  have hnb : (n + k) * by_ ≤ (n + k) * (by_ + 1) := Nat.mul_le_mul_left _ (Nat.le_succ _)
  obtain ⟨g', c2, W', hr, h2, h3, h4, h5⟩ := run_append_lies (P := Tryz.prog) W sl ty B T i0 zero z by_ hu hi hz0' hz1 hz2 hzs hz0 _ n cs hown.2.2
    ⟨b, off, none⟩ k c' es hel (fun j u hj => by rw [add_plain']; exact hb j u hj) (fun u hu => List.all_eq_true.1 h1 u hu) hk (by unfold maxLen; omega) (by omega) hown.1 _ rfl
  have hle : B ≤ g' := by
    rcases h4 with h4 | h4
    · cases a with
      | none => cases h4
      | some x =>
        have := hown.2.1 x rfl
        have e : x.block = g' := by simpa [Value.ownBlock] using h4
        omega
    · have := hown.1; omega
  refine ⟨g', c2, W', hr, ⟨Nat.le_trans hown.1 h3.size, fun x e => by cases e; exact ⟨hle, h5⟩, h2⟩, fun k y hk hy => ?_, h3.size, hB.grown h3 hB.size fun k e => ?_⟩
  · rw [h3.block k (by
      rcases Nat.lt_or_ge k W.heap.size with h | h
      · exact h
      · rw [Array.getElem?_eq_none h] at hy; cases hy) (fun e => by
        cases a with
        | none => cases e
        | some x =>
          have := hown.2.1 x rfl
          have e' : k = x.block := by simpa [Value.ownBlock] using e
          omega)]
    exact hy
  · cases a with
    | none => cases e
    | some x =>
      have := hown.2.1 x rfl
      have e' : x.block = k := by simpa [Value.ownBlock] using e
      omega
def iis (l : List Int) : List Value := l.map (Value.int .i64)
theorem iis_snoc (l : List Int) (x : Int) : iis l ++ [.int .i64 x] = iis (l ++ [x]) := by simp [iis]
theorem OwnV.ii {B c : Nat} {L : List Int} {a : Option Addr} {W : World} (h : OwnV 3 1 B (iis L) L.length a c W) : Ii W a L.length c L := by
  rcases Joins.ownsRow_forms h.2.2 with ⟨e, h0⟩ | ⟨g, cap, e⟩
  · obtain ⟨rfl, -, rfl⟩ := Value.slice.inj e
    have : L = [] := List.length_eq_zero_iff.1 h0
    subst this
    exact ⟨rfl, Nat.le_refl _, by unfold maxLen; omega, by simp, .inl rfl⟩
  · obtain ⟨rfl, -, rfl⟩ := Value.slice.inj e
    exact owns_ii h.2.2
theorem cells_at {W : World} {b : Nat} {cs : Array Value} {T : TypeId} (h : W.heap[b]? = some (.cells cs T (0, 0))) : ∀ j u, cs.toList[j]? = some u → W.cell? ⟨b, 0 + j, none⟩ = some u := by
  intro j u hj
  rw [Joins.cell_of_block h (0 + j), Nat.zero_add]
  simpa using hj
open Go.RowKit
def spanR (lo hi least most : Int) : Bool := inB lo least hi && decide (hi ≤ most)
theorem spanR_any (lo hi least most : Int) (w : World) :
  Calls Tryz.prog 17 #[.agg #[.int .i64 lo, .int .i64 hi], .int .i64 least, .int .i64 most] w (fun e w' => e = .returned (.bool (spanR lo hi least most)) ∧ Below w.heap.size w w') := by
 refine calls_fr Tryz.func17 Tryz.ntmps17 rfl rfl fun g hg => ?_
 have k0 : g 0 = .agg #[.int .i64 lo, .int .i64 hi] := hg 0
 have k1 : g 1 = .int .i64 least := hg 1
 have k2 : g 2 = .int .i64 most := hg 2
 clear hg
 have fB0 : Below w.heap.size w w := Below.refl _ _
 refine rw_ 2 [(3, 0), (6, 1)] [[], []] (rel [bx 0 #[.int .i64 lo, .int .i64 hi] 26, iB false])
  ⟨fun f s W h i j k l a => opb rfl rfl (by simp [go_sem, a.e 0 k0]),
  fun f s W h i j k l a => opz, trivial⟩ ?_
 intro f1 s1 W1 hB1 g1 hg1 z1
 obtain ⟨r1_0, br1_0⟩ := hB1.is 0
 have lr1_0 := hB1.lr 0 br1_0
 have k1_1 := kt hg1 1 k1
 have k1_2 := kt hg1 2 k2
 have k1_3 := kt hg1 3 r1_0
 refine rw_ 13 [(7, 0), (8, 1), (9, 2), (10, 3), (11, 4), (12, 5), (13, 6), (14, 7), (15, 8), (16, 9), (17, 10), (18, 11), (6, 12)] [[], [0], [], [], [3], [1, 2, 4], [5], [6], [6, 7], [6], [6, 8, 9], [6, 10], [11]] (rel [is (.pointer (some ⟨(s1 0), 0, none⟩)), iI lo, iI least, is (.pointer (some ⟨(s1 0), 1, none⟩)), iI hi, iB (inB lo least hi), iB (inB lo least hi), gd (inB lo least hi) true (is (.pointer (some ⟨(s1 0), 1, none⟩))), gd (inB lo least hi) true (iI hi), gd (inB lo least hi) true (iI most), gd (inB lo least hi) true (iB (decide (hi ≤ most))), iB ((inB lo least hi) && (decide (hi ≤ most))), iB ((inB lo least hi) && (decide (hi ≤ most)))])
  ⟨fun f s W h i j k l a => opv rfl rfl (by simp [go_sem, a.e 3 k1_3]) rfl,
  fun f s W h i j k l a => opv rfl rfl (by simp [go_sem, a.e 7 (i 0 rfl), cb br1_0 h 0]) rfl,
  fun f s W h i j k l a => opm (a.v 1 k1_1),
  fun f s W h i j k l a => opv rfl rfl (by simp [go_sem, a.e 3 k1_3]) rfl,
  fun f s W h i j k l a => opv rfl rfl (by simp [go_sem, a.e 10 (i 3 rfl), cb br1_0 h 1]) rfl,
  fun f s W h i j k l a => opc rfl rfl (by simp [go_sem, a.e 8 (i 1 rfl), a.e 9 (i 2 rfl), a.e 11 (i 4 rfl)]) (in_any lo least hi W),
  fun f s W h i j k l a => opm (a.v 12 (i 5 rfl)),
  fun f s W h i j k l a => gdo rfl rfl (a.says (d := 13) rfl rfl (i 6 rfl)) fun hgd0 => gv (by simp [go_sem, a.e 3 k1_3]) rfl,
  fun f s W h i j k l a => gdo rfl rfl (a.says (d := 13) rfl rfl (i 6 rfl)) fun hgd0 => gv (by simp [go_sem, a.e 14 ((i 7 rfl).1 hgd0), cb br1_0 h 1]) rfl,
  fun f s W h i j k l a => gdo rfl rfl (a.says (d := 13) rfl rfl (i 6 rfl)) fun hgd0 => gv (by simp [go_sem, a.e 2 k1_2]) rfl,
  fun f s W h i j k l a => gdo rfl rfl (a.says (d := 13) rfl rfl (i 6 rfl)) fun hgd0 => gv (by simp [go_sem, a.e 15 ((i 8 rfl).1 hgd0), a.e 16 ((i 9 rfl).1 hgd0)]) rfl,
  fun f s W h i j k l a => opk (c := inB lo least hi) rfl rfl (fun hpk => by simp [go_sem, hpk, a.e 13 (i 6 rfl)]) (fun hpk => by simp [go_sem, hpk, a.e 13 (i 6 rfl), a.e 17 ((i 10 rfl).1 hpk)]),
  fun f s W h i j k l a => opm (a.v 18 (i 11 rfl)), trivial⟩ ?_
 intro f2 s2 W2 hB2 g2 hg2 z2
 have fB2 := hB2.f (hB1.f fB0)
 have k2_6 := kt hg2 6 (hB2.is 12)
 refine wp_ret ?_
 refine leave_one (N := 19) (.inr rfl) Tryz.results17 rfl k2_6 ?_
 exact ⟨rfl, fB2⟩
def panR (b : Bl) (k : Nat) (c : Int) : Int := 1000 * b.panels.getD k 0 - c
theorem panR_any (a1 a2 a3 : Option Addr) (c1 c2 c3 : Nat) (b : Bl) (k : Nat) (ki x cal : Int) (w : World) (h1 : Ii w a1 b.panels.length c1 b.panels) (h2 : Ii w a2 b.top.length c2 b.top) (h3 : Ii w a3 b.bottom.length c3 b.bottom) (hki : ki = (k : Int)) (hk : k < b.panels.length) (hx : b.panels.getD k 0 = x) (hx1 : -100000 ≤ x) (hx2 : x ≤ 100000) (hy1 : -100000000 ≤ cal) (hy2 : cal ≤ 100000000) :
  Calls Tryz.prog 56 #[.agg #[.int .i64 b.tab, .slice a1 (b.panels.length) c1, .int .i64 b.height, .slice a2 (b.top.length) c2, .slice a3 (b.bottom.length) c3, .int .i64 b.slot, .bool b.isOpen], .int .i64 ki, .int .i64 cal] w (fun e w' => e = .returned (.int .i64 (panR b k cal)) ∧ Below w.heap.size w w') := by
 have hm1 := h1.len_le
 obtain ⟨q1, o1, hq1, hql1, hqc1⟩ := h1.at (by omega)
 refine calls_fr Tryz.func56 Tryz.ntmps56 rfl rfl fun g hg => ?_
 have k0 : g 0 = .agg #[.int .i64 b.tab, .slice a1 (b.panels.length) c1, .int .i64 b.height, .slice a2 (b.top.length) c2, .slice a3 (b.bottom.length) c3, .int .i64 b.slot, .bool b.isOpen] := hg 0
 have k1 : g 1 = .int .i64 ki := hg 1
 have k2 : g 2 = .int .i64 cal := hg 2
 clear hg
 have fB0 : Below w.heap.size w w := Below.refl _ _
 refine rw_ 2 [(3, 0), (6, 1)] [[], []] (rel [bx 0 #[.int .i64 b.tab, .slice a1 (b.panels.length) c1, .int .i64 b.height, .slice a2 (b.top.length) c2, .slice a3 (b.bottom.length) c3, .int .i64 b.slot, .bool b.isOpen] 24, iI 0])
  ⟨fun f s W c d h i j a => opb rfl rfl (by simp [go_sem, a.e 0 k0]),
  fun f s W c d h i j a => opz, trivial⟩ ?_
 intro f1 s1 W1 hB1 g1 hg1 z1
 have fB1 := hB1.f fB0
 obtain ⟨r1_0, br1_0⟩ := hB1.is 0
 have lr1_0 := hB1.lr 0 br1_0
 have k1_1 := kt hg1 1 k1
 have k1_2 := kt hg1 2 k2
 have k1_3 := kt hg1 3 r1_0
 refine rw_ 9 [(7, 0), (8, 1), (9, 2), (10, 3), (11, 4), (12, 5), (13, 6), (14, 7), (6, 8)] [[], [0], [], [1, 2], [3], [4], [], [5, 6], [7]] (rel [is (.pointer (some ⟨(s1 0), 1, none⟩)), is (.slice a1 (b.panels.length) c1), iI ki, is (.pointer (some ⟨q1, o1 + k, none⟩)), iI x, iI (1000 * x), iI cal, iI ((1000 * x) - cal), iI ((1000 * x) - cal)])
  ⟨fun f s W c d h i j a => opv rfl rfl (by simp [go_sem, a.e 3 k1_3]) rfl,
  fun f s W c d h i j a => opv rfl rfl (by simp [go_sem, a.e 7 (d 0 rfl), cb br1_0 c 1]) rfl,
  fun f s W c d h i j a => opm (a.v 1 k1_1),
  fun f s W c d h i j a => opv rfl rfl (by simp [go_sem, a.e 8 (d 1 rfl), a.e 9 (d 2 rfl), hq1, hki, hk]) rfl,
  fun f s W c d h i j a => by have l := bwt fB1 c; have u1 : W.cell? ⟨q1, o1 + k, none⟩ = some (.int .i64 x) := (l.cell (p := ⟨q1, o1 + k, none⟩) hql1).trans (by rw [hqc1 k hk, hx]); exact opv rfl rfl (by simp [go_sem, a.e 10 (d 3 rfl), u1]) rfl,
  fun f s W c d h i j a => opv rfl rfl (by simp [go_sem, a.e 11 (d 4 rfl), IntWalk.i64_in (1000 * x) (by omega)]) rfl,
  fun f s W c d h i j a => opm (a.v 2 k1_2),
  fun f s W c d h i j a => opv rfl rfl (by simp [go_sem, a.e 12 (d 5 rfl), a.e 13 (d 6 rfl), IntWalk.i64_in ((1000 * x) - cal) (by omega)]) rfl,
  fun f s W c d h i j a => opm (a.v 14 (d 7 rfl)), trivial⟩ ?_
 intro f2 s2 W2 hB2 g2 hg2 z2
 have fB2 := hB2.f fB1
 have k2_6 := kt hg2 6 (hB2.is 8)
 refine wp_ret ?_
 refine leave_one (N := 15) (.inr rfl) Tryz.results56 rfl k2_6 ?_
 exact ⟨by rw [panR, hx], fB2⟩
def heightR (b : Bl) (c : Int) : Int := if b.isOpen = true then 1000 * b.height - c else 1000 * b.height - c - c
theorem heightR_any (a1 a2 a3 : Option Addr) (c1 c2 c3 : Nat) (b : Bl) (cal : Int) (w : World) (h1 : Ii w a1 b.panels.length c1 b.panels) (h2 : Ii w a2 b.top.length c2 b.top) (h3 : Ii w a3 b.bottom.length c3 b.bottom) (hx1 : -100000 ≤ b.height) (hx2 : b.height ≤ 100000) (hy1 : -100000000 ≤ cal) (hy2 : cal ≤ 100000000) :
  Calls Tryz.prog 57 #[.agg #[.int .i64 b.tab, .slice a1 (b.panels.length) c1, .int .i64 b.height, .slice a2 (b.top.length) c2, .slice a3 (b.bottom.length) c3, .int .i64 b.slot, .bool b.isOpen], .int .i64 cal] w (fun e w' => e = .returned (.int .i64 (heightR b cal)) ∧ Below w.heap.size w w') := by
 refine calls_fr Tryz.func57 Tryz.ntmps57 rfl rfl fun g hg => ?_
 have k0 : g 0 = .agg #[.int .i64 b.tab, .slice a1 (b.panels.length) c1, .int .i64 b.height, .slice a2 (b.top.length) c2, .slice a3 (b.bottom.length) c3, .int .i64 b.slot, .bool b.isOpen] := hg 0
 have k1 : g 1 = .int .i64 cal := hg 1
 clear hg
 have fB0 : Below w.heap.size w w := Below.refl _ _
 refine rw_ 2 [(2, 0), (4, 1)] [[], []] (rel [bx 0 #[.int .i64 b.tab, .slice a1 (b.panels.length) c1, .int .i64 b.height, .slice a2 (b.top.length) c2, .slice a3 (b.bottom.length) c3, .int .i64 b.slot, .bool b.isOpen] 24, iI 0])
  ⟨fun f s W c d h i j a => opb rfl rfl (by simp [go_sem, a.e 0 k0]),
  fun f s W c d h i j a => opz, trivial⟩ ?_
 intro f1 s1 W1 hB1 g1 hg1 z1
 obtain ⟨r1_0, br1_0⟩ := hB1.is 0
 have lr1_0 := hB1.lr 0 br1_0
 have k1_2 := kt hg1 2 r1_0
 refine wp_seq_k fun K2 hK2 => ?_
 refine rw_ 2 [(5, 0), (6, 1)] [[], [0]] (rel [is (.pointer (some ⟨(s1 0), 6, none⟩)), iB b.isOpen])
  ⟨fun f s W c d h i j a => opv rfl rfl (by simp [go_sem, a.e 2 k1_2]) rfl,
  fun f s W c d h i j a => opv rfl rfl (by simp [go_sem, a.e 5 (d 0 rfl), cb br1_0 c 6]) rfl, trivial⟩ ?_
 intro f2 s2 W2 hB2 g2 hg2 z2
 have fB2 := hB2.f (hB1.f fB0)
 have b2_0 := hB2.b br1_0
 have k2_1 := kt hg2 1 (kt hg1 1 k1)
 have k2_2 := kt hg2 2 k1_2
 have k2_6 := kt hg2 6 (hB2.is 1)
 refine wp_cond_split (t := b.isOpen) ((fr_eval rfl).trans k2_6) (fun hc4 => ?_) (fun hc4 => ?_)
 ·
  have hc4' := hc4; try simp only [ba] at hc4'
  refine rw_ 6 [(7, 0), (8, 1), (9, 2), (10, 3), (11, 4), (4, 5)] [[], [0], [1], [], [2, 3], [4]] (rel [is (.pointer (some ⟨(s1 0), 2, none⟩)), iI b.height, iI (1000 * b.height), iI cal, iI ((1000 * b.height) - cal), iI ((1000 * b.height) - cal)])
   ⟨fun f s W c d h i j a => opv rfl rfl (by simp [go_sem, a.e 2 k2_2]) rfl,
  fun f s W c d h i j a => opv rfl rfl (by simp [go_sem, a.e 7 (d 0 rfl), cb b2_0 c 2]) rfl,
  fun f s W c d h i j a => opv rfl rfl (by simp [go_sem, a.e 8 (d 1 rfl), IntWalk.i64_in (1000 * b.height) (by omega)]) rfl,
  fun f s W c d h i j a => opm (a.v 1 k2_1),
  fun f s W c d h i j a => opv rfl rfl (by simp [go_sem, a.e 9 (d 2 rfl), a.e 10 (d 3 rfl), IntWalk.i64_in ((1000 * b.height) - cal) (by omega)]) rfl,
  fun f s W c d h i j a => opm (a.v 11 (d 4 rfl)), trivial⟩ ?_
  intro f3 s3 W3 hB3 g3 hg3 z3
  have fB3 := hB3.f fB2
  have k3_4 := kt hg3 4 (hB3.is 5)
  refine wp_ret ?_
  refine then_ret ?_
  refine leave_one (N := 19) (.inr rfl) Tryz.results57 rfl k3_4 ?_
  exact ⟨by rw [heightR, if_pos hc4], fB3⟩
 ·
  have hc4' := hc4; try simp only [ba] at hc4'
  refine wp_skip ?_
  refine hK2 _ _ ?_
  refine rw_ 8 [(12, 0), (13, 1), (14, 2), (15, 3), (16, 4), (17, 5), (18, 6), (4, 7)] [[], [0], [1], [], [2, 3], [], [4, 5], [6]] (rel [is (.pointer (some ⟨(s1 0), 2, none⟩)), iI b.height, iI (1000 * b.height), iI cal, iI ((1000 * b.height) - cal), iI cal, iI (((1000 * b.height) - cal) - cal), iI (((1000 * b.height) - cal) - cal)])
   ⟨fun f s W c d h i j a => opv rfl rfl (by simp [go_sem, a.e 2 k2_2]) rfl,
  fun f s W c d h i j a => opv rfl rfl (by simp [go_sem, a.e 12 (d 0 rfl), cb b2_0 c 2]) rfl,
  fun f s W c d h i j a => opv rfl rfl (by simp [go_sem, a.e 13 (d 1 rfl), IntWalk.i64_in (1000 * b.height) (by omega)]) rfl,
  fun f s W c d h i j a => opm (a.v 1 k2_1),
  fun f s W c d h i j a => opv rfl rfl (by simp [go_sem, a.e 14 (d 2 rfl), a.e 15 (d 3 rfl), IntWalk.i64_in ((1000 * b.height) - cal) (by omega)]) rfl,
  fun f s W c d h i j a => opm (a.v 1 k2_1),
  fun f s W c d h i j a => opv rfl rfl (by simp [go_sem, a.e 16 (d 4 rfl), a.e 17 (d 5 rfl), IntWalk.i64_in (((1000 * b.height) - cal) - cal) (by omega)]) rfl,
  fun f s W c d h i j a => opm (a.v 18 (d 6 rfl)), trivial⟩ ?_
  intro f4 s4 W4 hB4 g4 hg4 z4
  have fB4 := hB4.f fB2
  have k4_4 := kt hg4 4 (hB4.is 7)
  refine wp_ret ?_
  refine leave_one (N := 19) (.inr rfl) Tryz.results57 rfl k4_4 ?_
  exact ⟨by rw [heightR, if_neg (by rw [hc4]; decide)], fB4⟩
theorem longB_eq (xs : List Int) (least : Int) : longB xs least = areLong least xs := by
  unfold longB areLong within
  induction xs with
  | nil => rfl
  | cons x r ih => 
    simp only [List.all_cons, List.any_cons, Bool.not_or, inB]
    congr 1
    rw [Bool.eq_iff_iff]; simp
theorem within_one (lo hi n : Int) : within lo hi [n] = inB n lo hi := by
  unfold within inB
  rw [Bool.eq_iff_iff]; simp
theorem areLong_one (lo n : Int) : areLong lo [n] = inB n lo 3000 := within_one lo 3000 n
theorem within_append (lo hi : Int) (a b : List Int) : within lo hi (a ++ b) = (within lo hi a && within lo hi b) := by
  unfold within; simp [List.any_append, Bool.not_or]
theorem areLong_append (lo : Int) (a b : List Int) : areLong lo (a ++ b) = (areLong lo a && areLong lo b) := within_append lo 3000 a b
theorem refCheck_eq (b : Bl) : refCheck b = checkErr b := by
  have e1 : refLens b = !(lensOk b) := by
    rw [Bool.eq_iff_iff]
    simp [refLens, lensOk]
    omega
  have e2 : refNums b = !(numsOk b) := by
    simp only [refNums, numsOk, longB_eq, within_one, areLong_one, areLong_append]
    cases inB b.tab 0 100 <;> cases areLong 1 b.panels <;> cases inB b.height 1 3000 <;> cases areLong 0 b.top <;> cases areLong 0 b.bottom <;> cases inB b.slot 0 20 <;> rfl
  unfold refCheck checkErr
  rw [e1, e2]
  cases hl : lensOk b with
  | false => rfl
  | true =>
    have h2 : b.top.length = 2 := by simp [lensOk] at hl; exact hl.2.1
    have e3 : refOpen b = (b.isOpen && !within 0 0 b.top) := by
      obtain ⟨t, p, h, top, u, s, o⟩ := b
      match top, h2 with
      | [x, y], _ =>
        rw [Bool.eq_iff_iff]
        simp [refOpen, within]
        omega
    rw [e3]
    cases numsOk b <;> rfl
theorem good_nums {b : Bl} (h : checkErr b = 0) : (b.panels.length = 4 ∧ b.top.length = 2 ∧ b.bottom.length = 2) ∧ (0 ≤ b.tab ∧ b.tab ≤ 100) ∧ (0 ≤ b.slot ∧ b.slot ≤ 20) ∧ (1 ≤ b.height ∧ b.height ≤ 3000) ∧
    ((1 ≤ b.panels.getD 0 0 ∧ b.panels.getD 0 0 ≤ 3000) ∧ (1 ≤ b.panels.getD 1 0 ∧ b.panels.getD 1 0 ≤ 3000) ∧ (1 ≤ b.panels.getD 2 0 ∧ b.panels.getD 2 0 ≤ 3000) ∧ (1 ≤ b.panels.getD 3 0 ∧ b.panels.getD 3 0 ≤ 3000)) ∧
    ((0 ≤ b.top.getD 0 0 ∧ b.top.getD 0 0 ≤ 3000) ∧ (0 ≤ b.top.getD 1 0 ∧ b.top.getD 1 0 ≤ 3000) ∧ (0 ≤ b.bottom.getD 0 0 ∧ b.bottom.getD 0 0 ≤ 3000) ∧ (0 ≤ b.bottom.getD 1 0 ∧ b.bottom.getD 1 0 ≤ 3000)) := by
  obtain ⟨hF, ht, hs, hp, hh, -⟩ := fine_of_check h
  obtain ⟨p0, p1, p2, p3, t0, t1, u0, u1, e1, e2, e3, r0, r1, r2, r3, s0, s1, q0, q1, rh⟩ := hF
  rw [e1] at hp
  have a0 := hp p0 (by simp); have a1 := hp p1 (by simp); have a2 := hp p2 (by simp); have a3 := hp p3 (by simp)
  rw [e1, e2, e3]
  simp only [List.length_cons, List.length_nil, List.getD_cons_zero, List.getD_cons_succ, true_and]
  refine ⟨ht, hs, hh, ⟨a0, a1, a2, a3⟩, s0, s1, q0, q1⟩
theorem large_false {b : Bl} (h : largeB b = false) : b.panels.length ≤ 10 ∧ b.top.length ≤ 10 ∧ b.bottom.length ≤ 10 := by
  simp only [largeB, Bool.or_eq_false_iff, decide_eq_false_iff_not] at h
  omega
open Go.RowKit
def fitsR (n lo hi : Int) : Bool := inB n (1000 * lo) (1000 * hi)
theorem fitsR_any (n lo hi : Int) (w : World) (g1 : -100000 ≤ lo) (g2 : lo ≤ 100000) (g3 : -100000 ≤ hi) (g4 : hi ≤ 100000) :
  Calls Tryz.prog 88 #[.int .i64 n, .agg #[.int .i64 lo, .int .i64 hi]] w (fun e w' => e = .returned (.bool (fitsR n lo hi)) ∧ Below w.heap.size w w') := by
 refine calls_fr Tryz.func88 Tryz.ntmps88 rfl rfl fun g hg => ?_
 have k0 : g 0 = .int .i64 n := hg 0
 have k1 : g 1 = .agg #[.int .i64 lo, .int .i64 hi] := hg 1
 clear hg
 have fB0 : Below w.heap.size w w := Below.refl _ _
 refine rw_ 2 [(3, 0), (4, 1)] [[], []] (rel [bx 0 #[.int .i64 lo, .int .i64 hi] 26, iB false])
  ⟨fun f s W c d h i j a => opb rfl rfl (by simp [go_sem, a.e 1 k1]),
  fun f s W c d h i j a => opz, trivial⟩ ?_
 intro f1 s1 W1 hB1 g1 hg1 z1
 obtain ⟨r1_0, br1_0⟩ := hB1.is 0
 have lr1_0 := hB1.lr 0 br1_0
 have k1_0 := kt hg1 0 k0
 have k1_3 := kt hg1 3 r1_0
 refine rw_ 9 [(5, 0), (6, 1), (7, 2), (8, 3), (9, 4), (10, 5), (11, 6), (12, 7), (4, 8)] [[], [], [1], [2], [], [4], [5], [0, 3, 6], [7]] (rel [iI n, is (.pointer (some ⟨(s1 0), 0, none⟩)), iI lo, iI (1000 * lo), is (.pointer (some ⟨(s1 0), 1, none⟩)), iI hi, iI (1000 * hi), iB (inB (n) (1000 * lo) (1000 * hi)), iB (inB (n) (1000 * lo) (1000 * hi))])
  ⟨fun f s W c d h i j a => opm (a.v 0 k1_0),
  fun f s W c d h i j a => opv rfl rfl (by simp [go_sem, a.e 3 k1_3]) rfl,
  fun f s W c d h i j a => opv rfl rfl (by simp [go_sem, a.e 6 (d 1 rfl), cb br1_0 c 0]) rfl,
  fun f s W c d h i j a => opv rfl rfl (by simp [go_sem, a.e 7 (d 2 rfl), IntWalk.i64_in (1000 * lo) (by omega)]) rfl,
  fun f s W c d h i j a => opv rfl rfl (by simp [go_sem, a.e 3 k1_3]) rfl,
  fun f s W c d h i j a => opv rfl rfl (by simp [go_sem, a.e 9 (d 4 rfl), cb br1_0 c 1]) rfl,
  fun f s W c d h i j a => opv rfl rfl (by simp [go_sem, a.e 10 (d 5 rfl), IntWalk.i64_in (1000 * hi) (by omega)]) rfl,
  fun f s W c d h i j a => opc rfl rfl (by simp [go_sem, a.e 5 (d 0 rfl), a.e 8 (d 3 rfl), a.e 11 (d 6 rfl)]) (in_any (n) (1000 * lo) (1000 * hi) W),
  fun f s W c d h i j a => opm (a.v 12 (d 7 rfl)), trivial⟩ ?_
 intro f2 s2 W2 hB2 g2 hg2 z2
 have fB2 := hB2.f (hB1.f fB0)
 have k2_4 := kt hg2 4 (hB2.is 8)
 refine wp_ret ?_
 refine leave_one (N := 13) (.inr rfl) Tryz.results88 rfl k2_4 ?_
 exact ⟨rfl, fB2⟩
def flapR (b : Bl) (top outer : Bool) : Int := (if top = true then b.top else b.bottom).getD (if outer = true then 0 else 1) 0
def gapR (b : Bl) (top outer : Bool) (c : Int) : Int := (panR b (if outer = true then 1 else 0) c - 1000 * flapR b top outer) - 1000 * flapR b top outer
theorem gapR_any (a1 a2 a3 : Option Addr) (c1 c2 c3 : Nat) (b : Bl) (top outer : Bool) (cal : Int) (w : World) (h1 : Ii w a1 b.panels.length c1 b.panels) (h2 : Ii w a2 b.top.length c2 b.top) (h3 : Ii w a3 b.bottom.length c3 b.bottom) (hck : checkErr b = 0) (gc : 0 ≤ cal ∧ cal ≤ 100000) :
  Calls Tryz.prog 58 #[.agg #[.int .i64 b.tab, .slice a1 (b.panels.length) c1, .int .i64 b.height, .slice a2 (b.top.length) c2, .slice a3 (b.bottom.length) c3, .int .i64 b.slot, .bool b.isOpen], .bool top, .bool outer, .int .i64 cal] w (fun e w' => e = .returned (.int .i64 (gapR b top outer cal)) ∧ Below w.heap.size w w') := by
 have hm1 := h1.len_le
 have hm2 := h2.len_le
 have hm3 := h3.len_le
 obtain ⟨⟨hl1, hl2, hl3⟩, gt, gs, gh, ⟨gp0, gp1, gp2, gp3⟩, gt0, gt1, gu0, gu1⟩ := good_nums hck
 obtain ⟨q2, o2, hq2, hql2, hqc2⟩ := h2.at (by omega)
 obtain ⟨q3, o3, hq3, hql3, hqc3⟩ := h3.at (by omega)
 obtain ⟨t0, ht0⟩ : ∃ y, b.top.getD 0 0 = y := ⟨_, rfl⟩
 obtain ⟨t1, ht1⟩ : ∃ y, b.top.getD 1 0 = y := ⟨_, rfl⟩
 obtain ⟨u0, hu0⟩ : ∃ y, b.bottom.getD 0 0 = y := ⟨_, rfl⟩
 obtain ⟨u1, hu1⟩ : ∃ y, b.bottom.getD 1 0 = y := ⟨_, rfl⟩
 rw [ht0] at gt0; rw [ht1] at gt1; rw [hu0] at gu0; rw [hu1] at gu1
 have wp0 : panR b 0 cal = 1000 * b.panels.getD 0 0 - cal := rfl
 have wp1 : panR b 1 cal = 1000 * b.panels.getD 1 0 - cal := rfl
 refine calls_fr Tryz.func58 Tryz.ntmps58 rfl rfl fun g hg => ?_
 have k0 : g 0 = .agg #[.int .i64 b.tab, .slice a1 (b.panels.length) c1, .int .i64 b.height, .slice a2 (b.top.length) c2, .slice a3 (b.bottom.length) c3, .int .i64 b.slot, .bool b.isOpen] := hg 0
 have k1 : g 1 = .bool top := hg 1
 have k2 : g 2 = .bool outer := hg 2
 have k3 : g 3 = .int .i64 cal := hg 3
 clear hg
 have fB0 : Below w.heap.size w w := Below.refl _ _
 refine rw_ 2 [(4, 0), (8, 1)] [[], []] (rel [bx 0 #[.int .i64 b.tab, .slice a1 (b.panels.length) c1, .int .i64 b.height, .slice a2 (b.top.length) c2, .slice a3 (b.bottom.length) c3, .int .i64 b.slot, .bool b.isOpen] 24, iI 0])
  ⟨fun f s W c d h i j a => opb rfl rfl (by simp [go_sem, a.e 0 k0]),
  fun f s W c d h i j a => opz, trivial⟩ ?_
 intro f1 s1 W1 hB1 g1 hg1 z1
 obtain ⟨r1_0, br1_0⟩ := hB1.is 0
 have lr1_0 := hB1.lr 0 br1_0
 have k1_4 := kt hg1 4 r1_0
 refine rw_ 3 [(10, 0), (11, 1), (9, 2)] [[], [0], [1]] (rel [is (.pointer (some ⟨(s1 0), 4, none⟩)), is (.slice a3 (b.bottom.length) c3), is (.slice a3 (b.bottom.length) c3)])
  ⟨fun f s W c d h i j a => opv rfl rfl (by simp [go_sem, a.e 4 k1_4]) rfl,
  fun f s W c d h i j a => opv rfl rfl (by simp [go_sem, a.e 10 (d 0 rfl), cb br1_0 c 4]) rfl,
  fun f s W c d h i j a => opm (a.v 11 (d 1 rfl)), trivial⟩ ?_
 intro f2 s2 W2 hB2 g2 hg2 z2
 have k2_1 := kt hg2 1 (kt hg1 1 k1)
 refine wp_seq_k fun K3 hK3 => ?_
 refine rw_ 1 [(12, 0)] [[]] (rel [iB top])
  ⟨fun f s W c d h i j a => opm (a.v 1 k2_1), trivial⟩ ?_
 intro f3 s3 W3 hB3 g3 hg3 z3
 have fB3 := hB3.f (hB2.f (hB1.f fB0))
 have b3_0 := hB3.b (hB2.b br1_0)
 have k3_2 := kt hg3 2 (kt hg2 2 (kt hg1 2 k2))
 have k3_3 := kt hg3 3 (kt hg2 3 (kt hg1 3 k3))
 have k3_4 := kt hg3 4 (kt hg2 4 k1_4)
 have k3_12 := kt hg3 12 (hB3.is 0)
 refine wp_cond_split (t := top) ((fr_eval rfl).trans k3_12) (fun hc5 => ?_) (fun hc5 => ?_)
 ·
  have hc5' := hc5; try simp only [ba] at hc5'
  refine ry 3 [(13, 0), (14, 1), (9, 2)] [[], [0], [1]] (rel [is (.pointer (some ⟨(s1 0), 3, none⟩)), is (.slice a2 (b.top.length) c2), is (.slice a2 (b.top.length) c2)])
   ⟨fun f s W c d h i j a => opv rfl rfl (by simp [go_sem, a.e 4 k3_4]) rfl,
  fun f s W c d h i j a => opv rfl rfl (by simp [go_sem, a.e 13 (d 0 rfl), cb b3_0 c 3]) rfl,
  fun f s W c d h i j a => opm (a.v 14 (d 1 rfl)), trivial⟩ ?_
  intro f4 s4 W4 hB4 g4 hg4 z4
  refine hK3 _ _ ?_
  have k4_2 := kt hg4 2 k3_2
  refine wp_seq_k fun K6 hK6 => ?_
  refine rw_ 1 [(15, 0)] [[]] (rel [iB outer])
   ⟨fun f s W c d h i j a => opm (a.v 2 k4_2), trivial⟩ ?_
  intro f5 s5 W5 hB5 g5 hg5 z5
  have fB5 := hB5.f (hB4.f fB3)
  have b5_0 := hB5.b (hB4.b b3_0)
  have k5_3 := kt hg5 3 (kt hg4 3 k3_3)
  have k5_4 := kt hg5 4 (kt hg4 4 k3_4)
  have k5_9 := kt hg5 9 (kt hg4 9 (hB4.is 2))
  have k5_15 := kt hg5 15 (hB5.is 0)
  refine wp_cond_split (t := outer) ((fr_eval rfl).trans k5_15) (fun hc8 => ?_) (fun hc8 => ?_)
  ·
   have hc8' := hc8; try simp only [ba] at hc8'
   refine rw_ 14 [(16, 0), (17, 1), (18, 2), (19, 3), (20, 4), (21, 5), (22, 6), (23, 7), (24, 8), (25, 9), (26, 10), (27, 11), (28, 12), (8, 13)] [[], [], [0, 1], [], [3], [4], [5], [2, 6], [], [8], [9], [10], [7, 11], [12]] (rel [is (.agg #[.int .i64 b.tab, .slice a1 (b.panels.length) c1, .int .i64 b.height, .slice a2 (b.top.length) c2, .slice a3 (b.bottom.length) c3, .int .i64 b.slot, .bool b.isOpen]), iI cal, iI ((panR b 1 cal)), is (.slice a2 (b.top.length) c2), is (.pointer (some ⟨q2, o2, none⟩)), iI t0, iI (1000 * t0), iI ((panR b 1 cal) - (1000 * t0)), is (.slice a2 (b.top.length) c2), is (.pointer (some ⟨q2, o2, none⟩)), iI t0, iI (1000 * t0), iI (((panR b 1 cal) - (1000 * t0)) - (1000 * t0)), iI (((panR b 1 cal) - (1000 * t0)) - (1000 * t0))])
    ⟨fun f s W c d h i j a => opv rfl rfl (by simp [go_sem, a.e 4 k5_4, cb b5_0 c 0, cb b5_0 c 1, cb b5_0 c 2, cb b5_0 c 3, cb b5_0 c 4, cb b5_0 c 5, cb b5_0 c 6]) rfl,
  fun f s W c d h i j a => opm (a.v 3 k5_3),
  fun f s W c d h i j a => by have k := bwt fB5 c; exact opc (args := #[.agg #[.int .i64 b.tab, .slice a1 (b.panels.length) c1, .int .i64 b.height, .slice a2 (b.top.length) c2, .slice a3 (b.bottom.length) c3, .int .i64 b.slot, .bool b.isOpen], .int .i64 1, .int .i64 cal]) rfl rfl (by simp [go_sem, a.e 16 (d 0 rfl), a.e 17 (d 1 rfl)]) (panR_any a1 a2 a3 c1 c2 c3 b 1 1 _ cal W (h1.below k (Nat.le_refl _)) (h2.below k (Nat.le_refl _)) (h3.below k (Nat.le_refl _)) rfl (by omega) rfl (by omega) (by omega) (by omega) (by omega)),
  fun f s W c d h i j a => opm (a.v 9 k5_9),
  fun f s W c d h i j a => opv rfl rfl (by simp [go_sem, a.e 19 (d 3 rfl), hq2, hl2]) rfl,
  fun f s W c d h i j a => by have k := bwt fB5 c; have u2_0 : W.cell? ⟨q2, o2, none⟩ = some (.int .i64 t0) := (k.cell (p := ⟨q2, o2, none⟩) hql2).trans (by have hq_ := hqc2 0 (by omega); rw [ht0] at hq_; exact hq_); exact opv rfl rfl (by simp [go_sem, a.e 20 (d 4 rfl), u2_0]) rfl,
  fun f s W c d h i j a => opv rfl rfl (by simp [go_sem, a.e 21 (d 5 rfl), IntWalk.i64_in (1000 * t0) (by omega)]) rfl,
  fun f s W c d h i j a => opv rfl rfl (by simp [go_sem, a.e 18 (d 2 rfl), a.e 22 (d 6 rfl), IntWalk.i64_in ((panR b 1 cal) - (1000 * t0)) (by omega)]) rfl,
  fun f s W c d h i j a => opm (a.v 9 k5_9),
  fun f s W c d h i j a => opv rfl rfl (by simp [go_sem, a.e 24 (d 8 rfl), hq2, hl2]) rfl,
  fun f s W c d h i j a => by have k := bwt fB5 c; have u2_0 : W.cell? ⟨q2, o2, none⟩ = some (.int .i64 t0) := (k.cell (p := ⟨q2, o2, none⟩) hql2).trans (by have hq_ := hqc2 0 (by omega); rw [ht0] at hq_; exact hq_); exact opv rfl rfl (by simp [go_sem, a.e 25 (d 9 rfl), u2_0]) rfl,
  fun f s W c d h i j a => opv rfl rfl (by simp [go_sem, a.e 26 (d 10 rfl), IntWalk.i64_in (1000 * t0) (by omega)]) rfl,
  fun f s W c d h i j a => opv rfl rfl (by simp [go_sem, a.e 23 (d 7 rfl), a.e 27 (d 11 rfl), IntWalk.i64_in (((panR b 1 cal) - (1000 * t0)) - (1000 * t0)) (by omega)]) rfl,
  fun f s W c d h i j a => opm (a.v 28 (d 12 rfl)), trivial⟩ ?_
   intro f6 s6 W6 hB6 g6 hg6 z6
   have fB6 := hB6.f fB5
   have k6_8 := kt hg6 8 (hB6.is 13)
   refine wp_ret ?_
   refine then_ret ?_
   refine leave_one (N := 42) (.inr rfl) Tryz.results58 rfl k6_8 ?_
   exact ⟨by rw [hc5, hc8]; show _ = Ending.returned (.int .i64 ((panR b 1 cal - 1000 * (b.top).getD 0 0) - 1000 * (b.top).getD 0 0)); rw [ht0], fB6⟩
  ·
   have hc8' := hc8; try simp only [ba] at hc8'
   refine wp_skip ?_
   refine hK6 _ _ ?_
   refine rw_ 14 [(29, 0), (30, 1), (31, 2), (32, 3), (33, 4), (34, 5), (35, 6), (36, 7), (37, 8), (38, 9), (39, 10), (40, 11), (41, 12), (8, 13)] [[], [], [0, 1], [], [3], [4], [5], [2, 6], [], [8], [9], [10], [7, 11], [12]] (rel [is (.agg #[.int .i64 b.tab, .slice a1 (b.panels.length) c1, .int .i64 b.height, .slice a2 (b.top.length) c2, .slice a3 (b.bottom.length) c3, .int .i64 b.slot, .bool b.isOpen]), iI cal, iI ((panR b 0 cal)), is (.slice a2 (b.top.length) c2), is (.pointer (some ⟨q2, o2 + 1, none⟩)), iI t1, iI (1000 * t1), iI ((panR b 0 cal) - (1000 * t1)), is (.slice a2 (b.top.length) c2), is (.pointer (some ⟨q2, o2 + 1, none⟩)), iI t1, iI (1000 * t1), iI (((panR b 0 cal) - (1000 * t1)) - (1000 * t1)), iI (((panR b 0 cal) - (1000 * t1)) - (1000 * t1))])
    ⟨fun f s W c d h i j a => opv rfl rfl (by simp [go_sem, a.e 4 k5_4, cb b5_0 c 0, cb b5_0 c 1, cb b5_0 c 2, cb b5_0 c 3, cb b5_0 c 4, cb b5_0 c 5, cb b5_0 c 6]) rfl,
  fun f s W c d h i j a => opm (a.v 3 k5_3),
  fun f s W c d h i j a => by have k := bwt fB5 c; exact opc (args := #[.agg #[.int .i64 b.tab, .slice a1 (b.panels.length) c1, .int .i64 b.height, .slice a2 (b.top.length) c2, .slice a3 (b.bottom.length) c3, .int .i64 b.slot, .bool b.isOpen], .int .i64 0, .int .i64 cal]) rfl rfl (by simp [go_sem, a.e 29 (d 0 rfl), a.e 30 (d 1 rfl)]) (panR_any a1 a2 a3 c1 c2 c3 b 0 0 _ cal W (h1.below k (Nat.le_refl _)) (h2.below k (Nat.le_refl _)) (h3.below k (Nat.le_refl _)) rfl (by omega) rfl (by omega) (by omega) (by omega) (by omega)),
  fun f s W c d h i j a => opm (a.v 9 k5_9),
  fun f s W c d h i j a => opv rfl rfl (by simp [go_sem, a.e 32 (d 3 rfl), hq2, hl2]) rfl,
  fun f s W c d h i j a => by have k := bwt fB5 c; have u2_1 : W.cell? ⟨q2, o2 + 1, none⟩ = some (.int .i64 t1) := (k.cell (p := ⟨q2, o2 + 1, none⟩) hql2).trans (by have hq_ := hqc2 1 (by omega); rw [ht1] at hq_; exact hq_); exact opv rfl rfl (by simp [go_sem, a.e 33 (d 4 rfl), u2_1]) rfl,
  fun f s W c d h i j a => opv rfl rfl (by simp [go_sem, a.e 34 (d 5 rfl), IntWalk.i64_in (1000 * t1) (by omega)]) rfl,
  fun f s W c d h i j a => opv rfl rfl (by simp [go_sem, a.e 31 (d 2 rfl), a.e 35 (d 6 rfl), IntWalk.i64_in ((panR b 0 cal) - (1000 * t1)) (by omega)]) rfl,
  fun f s W c d h i j a => opm (a.v 9 k5_9),
  fun f s W c d h i j a => opv rfl rfl (by simp [go_sem, a.e 37 (d 8 rfl), hq2, hl2]) rfl,
  fun f s W c d h i j a => by have k := bwt fB5 c; have u2_1 : W.cell? ⟨q2, o2 + 1, none⟩ = some (.int .i64 t1) := (k.cell (p := ⟨q2, o2 + 1, none⟩) hql2).trans (by have hq_ := hqc2 1 (by omega); rw [ht1] at hq_; exact hq_); exact opv rfl rfl (by simp [go_sem, a.e 38 (d 9 rfl), u2_1]) rfl,
  fun f s W c d h i j a => opv rfl rfl (by simp [go_sem, a.e 39 (d 10 rfl), IntWalk.i64_in (1000 * t1) (by omega)]) rfl,
  fun f s W c d h i j a => opv rfl rfl (by simp [go_sem, a.e 36 (d 7 rfl), a.e 40 (d 11 rfl), IntWalk.i64_in (((panR b 0 cal) - (1000 * t1)) - (1000 * t1)) (by omega)]) rfl,
  fun f s W c d h i j a => opm (a.v 41 (d 12 rfl)), trivial⟩ ?_
   intro f7 s7 W7 hB7 g7 hg7 z7
   have fB7 := hB7.f fB5
   have k7_8 := kt hg7 8 (hB7.is 13)
   refine wp_ret ?_
   refine leave_one (N := 42) (.inr rfl) Tryz.results58 rfl k7_8 ?_
   exact ⟨by rw [hc5, hc8]; show _ = Ending.returned (.int .i64 ((panR b 0 cal - 1000 * (b.top).getD 1 0) - 1000 * (b.top).getD 1 0)); rw [ht1], fB7⟩
 ·
  have hc5' := hc5; try simp only [ba] at hc5'
  refine wp_skip ?_
  refine hK3 _ _ ?_
  refine wp_seq_k fun K11 hK11 => ?_
  refine rw_ 1 [(15, 0)] [[]] (rel [iB outer])
   ⟨fun f s W c d h i j a => opm (a.v 2 k3_2), trivial⟩ ?_
  intro f8 s8 W8 hB8 g8 hg8 z8
  have fB8 := hB8.f fB3
  have b8_0 := hB8.b b3_0
  have k8_3 := kt hg8 3 k3_3
  have k8_4 := kt hg8 4 k3_4
  have k8_9 := kt hg8 9 (kt hg3 9 (kt hg2 9 (hB2.is 2)))
  have k8_15 := kt hg8 15 (hB8.is 0)
  refine wp_cond_split (t := outer) ((fr_eval rfl).trans k8_15) (fun hc13 => ?_) (fun hc13 => ?_)
  ·
   have hc13' := hc13; try simp only [ba] at hc13'
   refine rw_ 14 [(16, 0), (17, 1), (18, 2), (19, 3), (20, 4), (21, 5), (22, 6), (23, 7), (24, 8), (25, 9), (26, 10), (27, 11), (28, 12), (8, 13)] [[], [], [0, 1], [], [3], [4], [5], [2, 6], [], [8], [9], [10], [7, 11], [12]] (rel [is (.agg #[.int .i64 b.tab, .slice a1 (b.panels.length) c1, .int .i64 b.height, .slice a2 (b.top.length) c2, .slice a3 (b.bottom.length) c3, .int .i64 b.slot, .bool b.isOpen]), iI cal, iI ((panR b 1 cal)), is (.slice a3 (b.bottom.length) c3), is (.pointer (some ⟨q3, o3, none⟩)), iI u0, iI (1000 * u0), iI ((panR b 1 cal) - (1000 * u0)), is (.slice a3 (b.bottom.length) c3), is (.pointer (some ⟨q3, o3, none⟩)), iI u0, iI (1000 * u0), iI (((panR b 1 cal) - (1000 * u0)) - (1000 * u0)), iI (((panR b 1 cal) - (1000 * u0)) - (1000 * u0))])
    ⟨fun f s W c d h i j a => opv rfl rfl (by simp [go_sem, a.e 4 k8_4, cb b8_0 c 0, cb b8_0 c 1, cb b8_0 c 2, cb b8_0 c 3, cb b8_0 c 4, cb b8_0 c 5, cb b8_0 c 6]) rfl,
  fun f s W c d h i j a => opm (a.v 3 k8_3),
  fun f s W c d h i j a => by have k := bwt fB8 c; exact opc (args := #[.agg #[.int .i64 b.tab, .slice a1 (b.panels.length) c1, .int .i64 b.height, .slice a2 (b.top.length) c2, .slice a3 (b.bottom.length) c3, .int .i64 b.slot, .bool b.isOpen], .int .i64 1, .int .i64 cal]) rfl rfl (by simp [go_sem, a.e 16 (d 0 rfl), a.e 17 (d 1 rfl)]) (panR_any a1 a2 a3 c1 c2 c3 b 1 1 _ cal W (h1.below k (Nat.le_refl _)) (h2.below k (Nat.le_refl _)) (h3.below k (Nat.le_refl _)) rfl (by omega) rfl (by omega) (by omega) (by omega) (by omega)),
  fun f s W c d h i j a => opm (a.v 9 k8_9),
  fun f s W c d h i j a => opv rfl rfl (by simp [go_sem, a.e 19 (d 3 rfl), hq3, hl3]) rfl,
  fun f s W c d h i j a => by have k := bwt fB8 c; have u3_0 : W.cell? ⟨q3, o3, none⟩ = some (.int .i64 u0) := (k.cell (p := ⟨q3, o3, none⟩) hql3).trans (by have hq_ := hqc3 0 (by omega); rw [hu0] at hq_; exact hq_); exact opv rfl rfl (by simp [go_sem, a.e 20 (d 4 rfl), u3_0]) rfl,
  fun f s W c d h i j a => opv rfl rfl (by simp [go_sem, a.e 21 (d 5 rfl), IntWalk.i64_in (1000 * u0) (by omega)]) rfl,
  fun f s W c d h i j a => opv rfl rfl (by simp [go_sem, a.e 18 (d 2 rfl), a.e 22 (d 6 rfl), IntWalk.i64_in ((panR b 1 cal) - (1000 * u0)) (by omega)]) rfl,
  fun f s W c d h i j a => opm (a.v 9 k8_9),
  fun f s W c d h i j a => opv rfl rfl (by simp [go_sem, a.e 24 (d 8 rfl), hq3, hl3]) rfl,
  fun f s W c d h i j a => by have k := bwt fB8 c; have u3_0 : W.cell? ⟨q3, o3, none⟩ = some (.int .i64 u0) := (k.cell (p := ⟨q3, o3, none⟩) hql3).trans (by have hq_ := hqc3 0 (by omega); rw [hu0] at hq_; exact hq_); exact opv rfl rfl (by simp [go_sem, a.e 25 (d 9 rfl), u3_0]) rfl,
  fun f s W c d h i j a => opv rfl rfl (by simp [go_sem, a.e 26 (d 10 rfl), IntWalk.i64_in (1000 * u0) (by omega)]) rfl,
  fun f s W c d h i j a => opv rfl rfl (by simp [go_sem, a.e 23 (d 7 rfl), a.e 27 (d 11 rfl), IntWalk.i64_in (((panR b 1 cal) - (1000 * u0)) - (1000 * u0)) (by omega)]) rfl,
  fun f s W c d h i j a => opm (a.v 28 (d 12 rfl)), trivial⟩ ?_
   intro f9 s9 W9 hB9 g9 hg9 z9
   have fB9 := hB9.f fB8
   have k9_8 := kt hg9 8 (hB9.is 13)
   refine wp_ret ?_
   refine then_ret ?_
   refine leave_one (N := 42) (.inr rfl) Tryz.results58 rfl k9_8 ?_
   exact ⟨by rw [hc5, hc13]; show _ = Ending.returned (.int .i64 ((panR b 1 cal - 1000 * (b.bottom).getD 0 0) - 1000 * (b.bottom).getD 0 0)); rw [hu0], fB9⟩
  ·
   have hc13' := hc13; try simp only [ba] at hc13'
   refine wp_skip ?_
   refine hK11 _ _ ?_
   refine rw_ 14 [(29, 0), (30, 1), (31, 2), (32, 3), (33, 4), (34, 5), (35, 6), (36, 7), (37, 8), (38, 9), (39, 10), (40, 11), (41, 12), (8, 13)] [[], [], [0, 1], [], [3], [4], [5], [2, 6], [], [8], [9], [10], [7, 11], [12]] (rel [is (.agg #[.int .i64 b.tab, .slice a1 (b.panels.length) c1, .int .i64 b.height, .slice a2 (b.top.length) c2, .slice a3 (b.bottom.length) c3, .int .i64 b.slot, .bool b.isOpen]), iI cal, iI ((panR b 0 cal)), is (.slice a3 (b.bottom.length) c3), is (.pointer (some ⟨q3, o3 + 1, none⟩)), iI u1, iI (1000 * u1), iI ((panR b 0 cal) - (1000 * u1)), is (.slice a3 (b.bottom.length) c3), is (.pointer (some ⟨q3, o3 + 1, none⟩)), iI u1, iI (1000 * u1), iI (((panR b 0 cal) - (1000 * u1)) - (1000 * u1)), iI (((panR b 0 cal) - (1000 * u1)) - (1000 * u1))])
    ⟨fun f s W c d h i j a => opv rfl rfl (by simp [go_sem, a.e 4 k8_4, cb b8_0 c 0, cb b8_0 c 1, cb b8_0 c 2, cb b8_0 c 3, cb b8_0 c 4, cb b8_0 c 5, cb b8_0 c 6]) rfl,
  fun f s W c d h i j a => opm (a.v 3 k8_3),
  fun f s W c d h i j a => by have k := bwt fB8 c; exact opc (args := #[.agg #[.int .i64 b.tab, .slice a1 (b.panels.length) c1, .int .i64 b.height, .slice a2 (b.top.length) c2, .slice a3 (b.bottom.length) c3, .int .i64 b.slot, .bool b.isOpen], .int .i64 0, .int .i64 cal]) rfl rfl (by simp [go_sem, a.e 29 (d 0 rfl), a.e 30 (d 1 rfl)]) (panR_any a1 a2 a3 c1 c2 c3 b 0 0 _ cal W (h1.below k (Nat.le_refl _)) (h2.below k (Nat.le_refl _)) (h3.below k (Nat.le_refl _)) rfl (by omega) rfl (by omega) (by omega) (by omega) (by omega)),
  fun f s W c d h i j a => opm (a.v 9 k8_9),
  fun f s W c d h i j a => opv rfl rfl (by simp [go_sem, a.e 32 (d 3 rfl), hq3, hl3]) rfl,
  fun f s W c d h i j a => by have k := bwt fB8 c; have u3_1 : W.cell? ⟨q3, o3 + 1, none⟩ = some (.int .i64 u1) := (k.cell (p := ⟨q3, o3 + 1, none⟩) hql3).trans (by have hq_ := hqc3 1 (by omega); rw [hu1] at hq_; exact hq_); exact opv rfl rfl (by simp [go_sem, a.e 33 (d 4 rfl), u3_1]) rfl,
  fun f s W c d h i j a => opv rfl rfl (by simp [go_sem, a.e 34 (d 5 rfl), IntWalk.i64_in (1000 * u1) (by omega)]) rfl,
  fun f s W c d h i j a => opv rfl rfl (by simp [go_sem, a.e 31 (d 2 rfl), a.e 35 (d 6 rfl), IntWalk.i64_in ((panR b 0 cal) - (1000 * u1)) (by omega)]) rfl,
  fun f s W c d h i j a => opm (a.v 9 k8_9),
  fun f s W c d h i j a => opv rfl rfl (by simp [go_sem, a.e 37 (d 8 rfl), hq3, hl3]) rfl,
  fun f s W c d h i j a => by have k := bwt fB8 c; have u3_1 : W.cell? ⟨q3, o3 + 1, none⟩ = some (.int .i64 u1) := (k.cell (p := ⟨q3, o3 + 1, none⟩) hql3).trans (by have hq_ := hqc3 1 (by omega); rw [hu1] at hq_; exact hq_); exact opv rfl rfl (by simp [go_sem, a.e 38 (d 9 rfl), u3_1]) rfl,
  fun f s W c d h i j a => opv rfl rfl (by simp [go_sem, a.e 39 (d 10 rfl), IntWalk.i64_in (1000 * u1) (by omega)]) rfl,
  fun f s W c d h i j a => opv rfl rfl (by simp [go_sem, a.e 36 (d 7 rfl), a.e 40 (d 11 rfl), IntWalk.i64_in (((panR b 0 cal) - (1000 * u1)) - (1000 * u1)) (by omega)]) rfl,
  fun f s W c d h i j a => opm (a.v 41 (d 12 rfl)), trivial⟩ ?_
   intro f10 s10 W10 hB10 g10 hg10 z10
   have fB10 := hB10.f fB8
   have k10_8 := kt hg10 8 (hB10.is 13)
   refine wp_ret ?_
   refine leave_one (N := 42) (.inr rfl) Tryz.results58 rfl k10_8 ?_
   exact ⟨by rw [hc5, hc13]; show _ = Ending.returned (.int .i64 ((panR b 0 cal - 1000 * (b.bottom).getD 1 0) - 1000 * (b.bottom).getD 1 0)); rw [hu1], fB10⟩
theorem spanR_eq (lo hi least most : Int) : spanR lo hi least most = isSpan (lo, hi) least most := by
  unfold spanR isSpan within inB
  rw [Bool.eq_iff_iff]
  simp
  omega
theorem isSpan_iff {lo hi : Int} : isSpan (lo, hi) 1 10000 = true ↔ 1 ≤ lo ∧ lo ≤ hi ∧ hi ≤ 10000 := by
  rw [← spanR_eq]; unfold spanR inB; simp [and_assoc]
theorem panels_in {b : Bl} (h : checkErr b = 0) {i : Nat} (hi : i < 4) : i < b.panels.length ∧ 1 ≤ b.panels.getD i 0 ∧ b.panels.getD i 0 ≤ 3000 := by
  obtain ⟨⟨l1, -, -⟩, -, -, -, ⟨p0, p1, p2, p3⟩, -⟩ := good_nums h
  refine ⟨by omega, ?_⟩
  match i, hi with
  | 0, _ => exact p0
  | 1, _ => exact p1
  | 2, _ => exact p2
  | 3, _ => exact p3
open Go.RowKit
def rangeL (lo hi : Int) : List Int := (List.range (hi + 1 - lo).toNat).map fun (k : Nat) => lo + (k : Int)
theorem rangeL_len (lo hi : Int) : (rangeL lo hi).length = (hi + 1 - lo).toNat := by simp [rangeL]
theorem rangeL_get {lo hi : Int} {i : Nat} (h : i < (rangeL lo hi).length) : (rangeL lo hi).getD i 0 = lo + (i : Int) := by
  rw [rangeL_len] at h
  simp [rangeL, List.getD_eq_getElem?_getD, h]
theorem rangeL_snoc {lo x : Int} (h : lo ≤ x) : rangeL lo (x - 1) ++ [x] = rangeL lo x := by
  unfold rangeL
  rw [show (x + 1 - lo).toNat = (x - 1 + 1 - lo).toNat + 1 from by omega, List.range_succ, List.map_append]
  congr 1
  simp; omega
theorem rangeL_nil {lo hi : Int} (h : hi < lo) : rangeL lo hi = [] := by
  have : (hi + 1 - lo).toNat = 0 := by omega
  simp [rangeL, this]
def aroundL (n off least : Int) : List Int := rangeL (max least (n - off)) (min 3000 (n + off))
theorem around_hit {n off least x : Int} (h1 : n - off ≤ x) (h : inB x least 3000 = true) : rangeL (max least (n - off)) (min 3000 (x - 1)) ++ [x] = rangeL (max least (n - off)) (min 3000 (x + 1 - 1)) := by
  simp only [inB, Bool.and_eq_true, decide_eq_true_eq] at h
  rw [show min 3000 (x - 1) = x - 1 from by omega, show min 3000 (x + 1 - 1) = x from by omega]
  exact rangeL_snoc (by omega)
theorem around_miss {n off least x : Int} (h1 : n - off ≤ x) (hl : least ≤ 3000) (h : inB x least 3000 = false) : rangeL (max least (n - off)) (min 3000 (x - 1)) = rangeL (max least (n - off)) (min 3000 (x + 1 - 1)) := by
  simp only [inB, Bool.and_eq_false_iff, decide_eq_false_iff_not] at h
  rcases h with h | h
  · rw [rangeL_nil (by omega), rangeL_nil (by omega)]
  · rw [show min 3000 (x - 1) = min 3000 (x + 1 - 1) from by omega]
def NwA (B : Nat) (xs : List Int) (v : Value) (W : World) : Prop := ∃ a c, v = .slice a xs.length c ∧ Ii W a xs.length c xs ∧ ∀ g o, a = some ⟨g, o, none⟩ → B ≤ g ∧ g < W.heap.size
theorem NwA.below {B : Nat} {xs : List Int} {v : Value} {W W' : World} (h : NwA B xs v W) (hb : Below W.heap.size W W') : NwA B xs v W' := by
  obtain ⟨a, c, e, h, l⟩ := h
  exact ⟨a, c, e, h.below hb (Nat.le_refl _), fun g o e => ⟨(l g o e).1, Nat.lt_of_lt_of_le (l g o e).2 hb.size⟩⟩
theorem open_top {b : Bl} (h : checkErr b = 0) (ho : b.isOpen = true) : b.top.getD 0 0 = 0 ∧ b.top.getD 1 0 = 0 := by
  obtain ⟨⟨-, h2, -⟩, -⟩ := good_nums h
  unfold checkErr at h
  split at h
  · cases h
  · split at h
    · cases h
    · split at h
      · cases h
      · rename_i hn
        obtain ⟨t, p, hh, top, u, s, o⟩ := b
        simp only at ho h2 hn
        match top, h2 with
        | [x, y], _ =>
          simp [ho, within] at hn
          simp; omega
end Go.Proofs.YthnediamopehfaaGreat
