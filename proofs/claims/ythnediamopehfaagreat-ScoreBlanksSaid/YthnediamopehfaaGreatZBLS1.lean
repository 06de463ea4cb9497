/- Part of the proof: what the claim leans on. -/
import Derived.Test.YthnediamopehfaaGreatZBLX
import Derived.Deep.AppendLies
set_option linter.unusedSimpArgs false
set_option linter.unusedVariables false
namespace Go.Proofs.YthnediamopehfaaGreat
open Go.RowKit
/-- A list of one's own: it lies from block B on. -/
def OwnI (B : Nat) (xs : List Int) (g c : Nat) (W : World) : Prop := B ≤ g ∧ g < W.heap.size ∧ W.ownsRow B 3 1 (.slice (some ⟨g, 0, none⟩) xs.length c) xs.length (xs.map (Value.int .i64))
theorem OwnI.ii {B : Nat} {xs : List Int} {g c : Nat} {W : World} (h : OwnI B xs g c W) : Ii W (some ⟨g, 0, none⟩) xs.length c xs := owns_ii h.2.2
theorem OwnI.below {B : Nat} {xs : List Int} {g c : Nat} {W W' : World} (h : OwnI B xs g c W) (hb : Below W.heap.size W W') : OwnI B xs g c W' := by
  refine ⟨h.1, Nat.lt_of_lt_of_le h.2.1 hb.size, h.2.2.1, ?_⟩
  rcases h.2.2.2 with h4 | ⟨g', cap, cur, e, h5, h6, h7⟩
  · exact .inl h4
  · exact .inr ⟨g', cap, cur, e, h5, blk_below h6 hb, h7⟩
theorem OwnI.other {B b : Nat} {xs : List Int} {g c : Nat} {W W' : World} (h : OwnI B xs g c W) (hot : ∀ k x, k ≠ b → W.heap[k]? = some x → W'.heap[k]? = some x) (hne : g ≠ b) (hz : W.heap.size ≤ W'.heap.size) : OwnI B xs g c W' := by
  refine ⟨h.1, Nat.lt_of_lt_of_le h.2.1 hz, h.2.2.1, ?_⟩
  rcases h.2.2.2 with h4 | ⟨g', cap, cur, e, h5, h6, h7⟩
  · exact .inl h4
  · cases e
    exact .inr ⟨g, c, cur, rfl, h5, hot _ _ hne h6, h7⟩
end Go.Proofs.YthnediamopehfaaGreat
namespace Go.Proofs.YthnediamopehfaaGreat
open Go.RowKit
/-- A list whose block is the call's own, from B on. -/
def OwI (B : Nat) (xs : List Int) (n : Nat) (v : Value) (W : World) : Prop := ∃ g c, v = .slice (some ⟨g, 0, none⟩) n c ∧ OwnI B xs g c W
theorem OwI.below {B n : Nat} {xs : List Int} {v : Value} {W W' : World} (h : OwI B xs n v W) (hb : Below W.heap.size W W') : OwI B xs n v W' := by
  obtain ⟨g, c, e, h⟩ := h
  exact ⟨g, c, e, h.below hb⟩
theorem OwI.lt {B n : Nat} {xs : List Int} {v : Value} {W : World} (h : OwI B xs n v W) {g m c : Nat} (e : v = .slice (some ⟨g, 0, none⟩) m c) : g < W.heap.size := by
  obtain ⟨g', c', e', h⟩ := h
  rw [e] at e'
  simp only [Value.slice.injEq, Option.some.injEq, Addr.mk.injEq, and_true] at e'
  obtain ⟨rfl, -⟩ := e'
  exact h.2.1
theorem OwnI.lim {B : Nat} {xs : List Int} {g c : Nat} {W : World} (h : OwnI B xs g c W) : B ≤ g ∧ g < W.heap.size := ⟨h.1, h.2.1⟩
/-- What two operations made lies apart. -/
theorem Behind.two {R : Nat → Value → (Nat → Nat) → World → Prop} {w : World} {n : Nat} {f : Nat → Value} {s : Nat → Nat} {W : World} (h : Behind R w n f s W) (i j : Nat) (hi : i < n) (hj : j < n) (hij : i ≠ j) {g g' : Nat}
    (hg : s i ≤ g) (hg' : s j ≤ g') (h1 : ∀ W, R i (f i) s W → g < W.heap.size) (h2 : ∀ W, R j (f j) s W → g' < W.heap.size) : g ≠ g' := by
  obtain ⟨t, ht, hd⟩ := h.apart
  obtain ⟨a, b, W1, r1, z1⟩ := ht i hi
  obtain ⟨c, d, W2, r2, z2⟩ := ht j hj
  have := h1 _ r1; have := h2 _ r2
  have := hd i j hi hj hij
  omega
theorem ownsRow_low {W : World} {B B' : Nat} {T : TypeId} {z n : Nat} {v : Value} {xs : List Value} (h : W.ownsRow B T z v n xs) (hB : B' ≤ B) : W.ownsRow B' T z v n xs := by
  refine ⟨h.1, ?_⟩
  rcases h.2 with h | ⟨g, cap, cur, e, h1, h2⟩
  · exact .inl h
  · exact .inr ⟨g, cap, cur, e, Nat.le_trans hB h1, h2⟩
theorem OwnI.low {B B' : Nat} {xs : List Int} {g c : Nat} {W : World} (h : OwnI B xs g c W) (hB : B' ≤ B) : OwnI B' xs g c W := ⟨Nat.le_trans hB h.1, h.2.1, ownsRow_low h.2.2 hB⟩
/-- append([]int{}, l...), where l is not empty: the copy is one's own, in a new block. -/
theorem cloneO_run (ty : TypeId) (W : World) (g : Nat) (a : Option Addr) (c : Nat) (xs : List Int) (n : Nat) (h : Ii W a n c xs) (hn : n ≤ 1000) (hne : 0 < n) (hg : W.heap[g]? = some (.cells #[] 3 (0, 0))) :
    ∃ v W', (Builtin.append_ #[22, 22] ty #[.slice (some ⟨g, 0, none⟩) 0 0, .slice a n c]).run Tryz.prog W = .ok v W' ∧ Below W.heap.size W W' ∧ OwI W.heap.size xs n v W' := by
  obtain ⟨i0, hi, hz0, hz1, hz2⟩ := info_parts Tryz.info3x
  have hg' : g < W.heap.size := lt_of_blk hg
  obtain rfl := h.1
  obtain ⟨b, off, rfl, hb, hc⟩ := h.at hne
  obtain ⟨v, W', hr, hown, hgr⟩ := run_append_arg_grows (P := Tryz.prog) W 22 ty 3 i0 (.int .i64 0) 1 8 Tryz.underlying22 hi hz0 hz1 hz2 rfl (by decide) ⟨g, 0, none⟩ 0 0 [] rfl (fun j u hj => by simp at hj) ⟨b, off, none⟩ xs.length c (xs.map (Value.int .i64)) (by simp)
    (fun j u hj => by
      have hj' : j < xs.length := by
        rcases Nat.lt_or_ge j xs.length with h' | h'
        · exact h'
        · rw [List.getElem?_eq_none (by simpa using h')] at hj; cases hj
      rw [show ((⟨b, off, none⟩ : Addr).add j) = ⟨b, off + j, none⟩ from by unfold Addr.add; split <;> simp_all, hc j hj']
      simp [List.getElem?_map, hj'] at hj
      subst hj
      simp [List.getD_eq_getElem?_getD, hj'])
    (by omega) (by unfold maxLen; omega) (by omega)
  obtain ⟨g2, cap2, rfl⟩ := Joins.ownsRow_form hown (by omega)
  simp only [Nat.zero_add, List.nil_append] at hown hr
  exact ⟨_, W', hr, (Below.refl _ _).grown hgr (Nat.le_refl _) (fun k e => by cases e), g2, cap2, rfl, own_ge hown g2 rfl, own_lt' hown, hown⟩
theorem take_set_cells {cs : List Value} {xs : List Int} (h : cs.take xs.length = xs.map (Value.int .i64)) (i : Nat) (hi : i < xs.length) (x : Int) (hl : xs.length ≤ cs.length) :
    (cs.take i ++ [Value.int .i64 x] ++ cs.drop (i + 1)).take xs.length = (xs.set i x).map (Value.int .i64) := by
  have e : cs.take i ++ [Value.int .i64 x] ++ cs.drop (i + 1) = cs.set i (Value.int .i64 x) := by
    rw [List.set_eq_take_append_cons_drop, if_pos (by omega)]; simp
  rw [e, List.take_set, h, List.map_set]
/-- l[i] = x, at a region's end. -/
theorem storeI_tail {w W : World} {xs : List Int} (ys : List Int) {g c : Nat} {i : Nat} {x : Int} (hi : i < xs.length) (hys : xs.set i x = ys) (hB : Below w.heap.size w W) (hown : OwnI w.heap.size xs g c W) :
    ∃ W', (∀ {a : Act} {dst : Option Nat} {tt : TypeId} {X Y : Operand} {pos : String} {af : Array Edge} {gd : Option (Nat × Bool)}, a.eval X = .pointer (some ⟨g, i, none⟩) → a.eval Y = .int .i64 x → (execOp a.eval { dst := dst, op := .store 3 X Y, type := tt, pos := pos, after := af, guard := gd }).run Tryz.prog W = .ok .skip W') ∧
      OwnI w.heap.size ys g c W' ∧ (∀ k y, k ≠ g → W.heap[k]? = some y → W'.heap[k]? = some y) ∧ W.heap.size ≤ W'.heap.size ∧ Below w.heap.size w W' := by
  subst hys
  obtain ⟨hg, hlt, hl, hr⟩ := hown
  rcases hr with ⟨h, -⟩ | ⟨g', cap, cur, e, h1, h2, h3, h4, h5, h6⟩
  · cases h
  · cases e
    simp only [Nat.mul_one] at h5 h6
    have hsz : i + 1 ≤ cur.size := by omega
    refine ⟨W.setRow g (cur.toList.take i ++ [Value.int .i64 x] ++ cur.toList.drop (i + 1)).toArray, fun hX hY => ?_, ⟨hg, ?_, ?_, .inr ⟨g, _, _, ?_, h1, setRow_heap W g cur _ _ (0, 0) h2, ?_, h4, ?_, ?_⟩⟩, fun k y hk hy => by rw [setRow_other W g k _ hk]; exact hy, by rw [setRow_size]; exact Nat.le_refl _, below_setRow hB hg _⟩
    · exact run_seg (v := .int .i64 x) rfl hX hY h2 (by kernel_rfl) (by simpa [Value.cells] using hsz) rfl (by simp [Value.cells])
    · rw [setRow_size]; exact hlt
    · simp
    · simp
    · simpa using h3
    · simp; omega
    · simp only [Nat.mul_one, List.length_set]
      rw [List.toList_toArray]
      exact take_set_cells h6 i hi x (by show xs.length ≤ cur.size; rw [h5]; exact h3)
/-- A blank whose lists are one's own, from B on. -/
def OwBlk (B : Nat) (b : Bl) (v : Value) (W : World) : Prop :=
  ∃ g1 c1 g2 c2 g3 c3, v = .agg #[.int .i64 b.tab, .slice (some ⟨g1, 0, none⟩) b.panels.length c1, .int .i64 b.height, .slice (some ⟨g2, 0, none⟩) b.top.length c2, .slice (some ⟨g3, 0, none⟩) b.bottom.length c3, .int .i64 b.slot, .bool b.isOpen] ∧
    OwnI B b.panels g1 c1 W ∧ OwnI B b.top g2 c2 W ∧ OwnI B b.bottom g3 c3 W ∧ g1 ≠ g2 ∧ g1 ≠ g3 ∧ g2 ≠ g3
theorem OwBlk.below {B : Nat} {b : Bl} {v : Value} {W W' : World} (h : OwBlk B b v W) (hb : Below W.heap.size W W') : OwBlk B b v W' := by
  obtain ⟨g1, c1, g2, c2, g3, c3, e, h1, h2, h3, hn⟩ := h
  exact ⟨g1, c1, g2, c2, g3, c3, e, h1.below hb, h2.below hb, h3.below hb, hn⟩
theorem OwBlk.lt {B : Nat} {b : Bl} {v : Value} {W : World} (h : OwBlk B b v W) {x1 x2 x3 x4 : Value} {g1 g2 g3 n1 n2 n3 c1 c2 c3 : Nat} (e : v = .agg #[x1, .slice (some ⟨g1, 0, none⟩) n1 c1, x2, .slice (some ⟨g2, 0, none⟩) n2 c2, .slice (some ⟨g3, 0, none⟩) n3 c3, x3, x4]) : g1 < W.heap.size ∧ g2 < W.heap.size ∧ g3 < W.heap.size := by
  obtain ⟨h1, d1, h2, d2, h3, d3, e', m1, m2, m3, -⟩ := h
  rw [e] at e'
  simp only [Value.agg.injEq, Array.mk.injEq, List.cons.injEq, Value.slice.injEq, Option.some.injEq, Addr.mk.injEq, and_true] at e'
  obtain ⟨-, ⟨rfl, -⟩, -, ⟨rfl, -⟩, ⟨rfl, -⟩, -, -⟩ := e'
  exact ⟨m1.2.1, m2.2.1, m3.2.1⟩
def OwBlkP (b : Bl) (w : World) (e : Ending) (w' : World) : Prop := ∃ v, e = .returned v ∧ OwBlk w.heap.size b v w' ∧ Below w.heap.size w w'
end Go.Proofs.YthnediamopehfaaGreat
namespace Go.Proofs.YthnediamopehfaaGreat
open Go.RowKit
section
variable {P : Program} {ops : Array Oper} {Q : Exit → Act → World → Prop}
structure BehindL (Le : World → World → Prop) (R : Nat → Value → (Nat → Nat) → World → Prop) (w : World) (n : Nat) (f : Nat → Value) (s : Nat → Nat) (W : World) : Prop where
  le : Le w W
  told : ∀ i, i < n → R i (f i) s W
  from' : ∀ i, i < n → w.heap.size ≤ s i
  apart : ∃ t : Nat → Nat, (∀ i, i < n → s i ≤ t i ∧ t i ≤ W.heap.size ∧ ∃ Wi : World, R i (f i) s Wi ∧ Wi.heap.size = t i) ∧ ∀ i j, i < n → j < n → i ≠ j → t i ≤ s j ∨ t j ≤ s i
end
/-- Nothing is changed but blocks of S, and what Ps says stays true. -/
structure LeX (S : Nat → Prop) (Ps : List (World → Prop)) (a b : World) : Prop where
  os : b.os = a.os
  tape : b.tape = a.tape
  output : b.output = a.output
  size : a.heap.size ≤ b.heap.size
  block : ∀ k, k < a.heap.size → ¬ S k → b.heap[k]? = a.heap[k]?
  stay : ∀ p ∈ Ps, p a → p b
section
variable {S : Nat → Prop} {Ps : List (World → Prop)}
end
end Go.Proofs.YthnediamopehfaaGreat
namespace Go.Proofs.YthnediamopehfaaGreat
open Go.RowKit
/-- A blank in bytes, with calipers, and how wide the spans of a wish are around it. -/
structure Sh where
  x0 : Int
  x1 : Int
  x2 : Int
  x3 : Int
  xh : Int
  y0 : Int
  y1 : Int
  y2 : Int
  y3 : Int
  xo : Bool
  ca : Int
  cb : Int
  v0 : Int
  v1 : Int
  v2 : Int
  v3 : Int
  v4 : Int
end Go.Proofs.YthnediamopehfaaGreat
namespace Go.Proofs.YthnediamopehfaaGreat
open Go.RowKit
def spanR (lo hi least most : Int) : Bool := inB lo least hi && decide (hi ≤ most)
set_option maxRecDepth 100000 in
set_option maxHeartbeats 400000 in
theorem spanR_any (lo hi least most : Int) (w : World) :
  Calls Tryz.prog 17 #[.agg #[.int .i64 lo, .int .i64 hi], .int .i64 least, .int .i64 most] w (fun e w' => e = .returned (.bool (spanR lo hi least most)) ∧ Below w.heap.size w w') := by
 refine calls_fr Tryz.func17 Tryz.ntmps17 rfl rfl fun g hg => ?_
 have k0 : g 0 = .agg #[.int .i64 lo, .int .i64 hi] := hg 0
 have k1 : g 1 = .int .i64 least := hg 1
 have k2 : g 2 = .int .i64 most := hg 2
 clear hg
 have fB0 : Below w.heap.size w w := Below.refl _ _
 refine wp_seq_k fun K1 hK1 => ?_
 refine region_dk 2 [(3, 0), (6, 1)] [[], []] (rel [bx 0 #[.int .i64 lo, .int .i64 hi] 26,
   is (.bool false)])
  ⟨bx_k, is_k, trivial⟩
  ⟨fun f s W h i j k l a => opb rfl rfl (by simp [go_sem, a.e 0 k0]),
  fun f s W h i j k l a => opv rfl rfl (by simp [go_sem]) rfl, trivial⟩ ?_
 intro f1 s1 W1 hB1 g1 hg1
 have fB1 := hB1.f fB0
 have z1 := hB1.below.size
 obtain ⟨r1_0, br1_0⟩ := hB1.is 0
 have lr1_0 := hB1.lr 0 br1_0
 refine hK1 _ _ ?_
 have k1_1 := kt hg1 1 k1
 have k1_2 := kt hg1 2 k2
 have k1_3 := kt hg1 3 r1_0
 have k1_6 := kt hg1 6 (hB1.is 1)
 refine wp_seq_k fun K2 hK2 => ?_
 refine region_dk 13 [(7, 0), (8, 1), (9, 2), (10, 3), (11, 4), (12, 5), (13, 6), (14, 7), (15, 8), (16, 9), (17, 10), (18, 11), (6, 12)] [[], [0], [], [], [3], [0, 1, 2, 3, 4], [0, 1, 2, 3, 4, 5], [0, 1, 2, 3, 4, 5, 6], [0, 1, 2, 3, 4, 5, 6, 7], [0, 1, 2, 3, 4, 5, 6], [0, 1, 2, 3, 4, 5, 6, 7, 8, 9], [0, 1, 2, 3, 4, 5, 6, 7, 8, 9, 10], [0, 1, 2, 3, 4, 5, 6, 7, 8, 9, 10, 11]] (rel [is (.pointer (some ⟨(s1 0), 0, none⟩)),
   is (.int .i64 lo),
   is (.int .i64 least),
   is (.pointer (some ⟨(s1 0), 1, none⟩)),
   is (.int .i64 hi),
   is (.bool (inB lo least hi)),
   is (.bool (inB lo least hi)),
   gd (inB lo least hi) true (is (.pointer (some ⟨(s1 0), 1, none⟩))),
   gd (inB lo least hi) true (is (.int .i64 hi)),
   gd (inB lo least hi) true (is (.int .i64 most)),
   gd (inB lo least hi) true (is (.bool (decide (hi ≤ most)))),
   is (.bool ((inB lo least hi) && (decide (hi ≤ most)))),
   is (.bool ((inB lo least hi) && (decide (hi ≤ most))))])
  ⟨is_k, is_k, is_k, is_k, is_k, is_k, is_k, gd_k (is_k), gd_k (is_k), gd_k (is_k), gd_k (is_k), is_k, is_k, trivial⟩
  ⟨fun f s W h i j k l a => opv rfl rfl (by simp [go_sem, a.e 3 k1_3]) rfl,
  fun f s W h i j k l a => opv rfl rfl (by simp [go_sem, a.e 7 (i 0 rfl), cb br1_0 h 0]) rfl,
  fun f s W h i j k l a => opv rfl rfl (by simp [go_sem, a.e 1 k1_1]) rfl,
  fun f s W h i j k l a => opv rfl rfl (by simp [go_sem, a.e 3 k1_3]) rfl,
  fun f s W h i j k l a => opv rfl rfl (by simp [go_sem, a.e 10 (i 3 rfl), cb br1_0 h 1]) rfl,
  fun f s W h i j k l a => opc rfl rfl (by simp [go_sem, a.e 8 (i 1 rfl), a.e 9 (i 2 rfl), a.e 11 (i 4 rfl)]) (in_any lo least hi W),
  fun f s W h i j k l a => opv rfl rfl (by simp [go_sem, a.e 12 (i 5 rfl)]) rfl,
  fun f s W h i j k l a => gdo rfl rfl (a.says (d := 13) rfl rfl (i 6 rfl)) fun hgd0 => gv (by simp [go_sem, a.e 3 k1_3]) rfl,
  fun f s W h i j k l a => gdo rfl rfl (a.says (d := 13) rfl rfl (i 6 rfl)) fun hgd0 => gv (by simp [go_sem, a.e 14 ((i 7 rfl).1 hgd0), cb br1_0 h 1]) rfl,
  fun f s W h i j k l a => gdo rfl rfl (a.says (d := 13) rfl rfl (i 6 rfl)) fun hgd0 => gv (by simp [go_sem, a.e 2 k1_2]) rfl,
  fun f s W h i j k l a => gdo rfl rfl (a.says (d := 13) rfl rfl (i 6 rfl)) fun hgd0 => gv (by simp [go_sem, a.e 15 ((i 8 rfl).1 hgd0), a.e 16 ((i 9 rfl).1 hgd0)]) rfl,
  fun f s W h i j k l a => opk (c := inB lo least hi) rfl rfl (fun hpk => by simp [go_sem, hpk, a.e 13 (i 6 rfl)]) (fun hpk => by simp [go_sem, hpk, a.e 13 (i 6 rfl), a.e 17 ((i 10 rfl).1 hpk)]),
  fun f s W h i j k l a => opv rfl rfl (by simp [go_sem, a.e 18 (i 11 rfl)]) rfl, trivial⟩ ?_
 intro f2 s2 W2 hB2 g2 hg2
 have fB2 := hB2.f fB1
 have z2 := hB2.below.size
 have b2_0 := hB2.b br1_0
 refine hK2 _ _ ?_
 have k2_6 := kt hg2 6 (hB2.is 12)
 refine wp_ret ?_
 refine leave_one (N := 19) (v := .bool ((inB lo least hi) && (decide (hi ≤ most)))) (.inr rfl) Tryz.results17 rfl k2_6 ?_
 exact ⟨rfl, fB2⟩
def panR (b : Bl) (k : Nat) (c : Int) : Int := 1000 * b.panels.getD k 0 - c
set_option maxRecDepth 100000 in
set_option maxHeartbeats 400000 in
theorem panR_any (a1 a2 a3 : Option Addr) (c1 c2 c3 : Nat) (b : Bl) (k : Nat) (ki x cal : Int) (w : World) (h1 : Ii w a1 b.panels.length c1 b.panels) (h2 : Ii w a2 b.top.length c2 b.top) (h3 : Ii w a3 b.bottom.length c3 b.bottom) (hki : ki = (k : Int)) (hk : k < b.panels.length) (hx : b.panels.getD k 0 = x) (hx1 : -100000 ≤ x) (hx2 : x ≤ 100000) (hy1 : -100000000 ≤ cal) (hy2 : cal ≤ 100000000) :
  Calls Tryz.prog 56 #[.agg #[.int .i64 b.tab, .slice (a1) (b.panels.length) (c1), .int .i64 b.height, .slice (a2) (b.top.length) (c2), .slice (a3) (b.bottom.length) (c3), .int .i64 b.slot, .bool b.isOpen], .int .i64 ki, .int .i64 cal] w (fun e w' => e = .returned (.int .i64 (panR b k cal)) ∧ Below w.heap.size w w') := by
 have hm1 := h1.len_le
 obtain ⟨q1, o1, hq1, hql1, hqc1⟩ := h1.at (by omega)
 refine calls_fr Tryz.func56 Tryz.ntmps56 rfl rfl fun g hg => ?_
 have k0 : g 0 = .agg #[.int .i64 b.tab, .slice (a1) (b.panels.length) (c1), .int .i64 b.height, .slice (a2) (b.top.length) (c2), .slice (a3) (b.bottom.length) (c3), .int .i64 b.slot, .bool b.isOpen] := hg 0
 have k1 : g 1 = .int .i64 ki := hg 1
 have k2 : g 2 = .int .i64 cal := hg 2
 clear hg
 have fB0 : Below w.heap.size w w := Below.refl _ _
 refine wp_seq_k fun K1 hK1 => ?_
 refine region_dk 2 [(3, 0), (6, 1)] [[], []] (rel [bx 0 #[.int .i64 b.tab, .slice (a1) (b.panels.length) (c1), .int .i64 b.height, .slice (a2) (b.top.length) (c2), .slice (a3) (b.bottom.length) (c3), .int .i64 b.slot, .bool b.isOpen] 24,
   is (.int .i64 0)])
  ⟨bx_k, is_k, trivial⟩
  ⟨fun f s W c d h i j a => opb rfl rfl (by simp [go_sem, a.e 0 k0]),
  fun f s W c d h i j a => opv rfl rfl (by simp [go_sem]) rfl, trivial⟩ ?_
 intro f1 s1 W1 hB1 g1 hg1
 have fB1 := hB1.f fB0
 have z1 := hB1.below.size
 obtain ⟨r1_0, br1_0⟩ := hB1.is 0
 have lr1_0 := hB1.lr 0 br1_0
 refine hK1 _ _ ?_
 have k1_1 := kt hg1 1 k1
 have k1_2 := kt hg1 2 k2
 have k1_3 := kt hg1 3 r1_0
 have k1_6 := kt hg1 6 (hB1.is 1)
 refine wp_seq_k fun K2 hK2 => ?_
 refine region_dk 9 [(7, 0), (8, 1), (9, 2), (10, 3), (11, 4), (12, 5), (13, 6), (14, 7), (6, 8)] [[], [0], [], [0, 1, 2], [0, 1, 2, 3], [0, 1, 2, 3, 4], [], [0, 1, 2, 3, 4, 5, 6], [0, 1, 2, 3, 4, 5, 6, 7]] (rel [is (.pointer (some ⟨(s1 0), 1, none⟩)),
   is (.slice (a1) (b.panels.length) (c1)),
   is (.int .i64 ki),
   is (.pointer (some ⟨q1, o1 + k, none⟩)),
   is (.int .i64 x),
   is (.int .i64 (1000 * x)),
   is (.int .i64 cal),
   is (.int .i64 ((1000 * x) - cal)),
   is (.int .i64 ((1000 * x) - cal))])
  ⟨is_k, is_k, is_k, is_k, is_k, is_k, is_k, is_k, is_k, trivial⟩
  ⟨fun f s W c d h i j a => opv rfl rfl (by simp [go_sem, a.e 3 k1_3]) rfl,
  fun f s W c d h i j a => opv rfl rfl (by simp [go_sem, a.e 7 (d 0 rfl), cb br1_0 c 1]) rfl,
  fun f s W c d h i j a => opv rfl rfl (by simp [go_sem, a.e 1 k1_1]) rfl,
  fun f s W c d h i j a => opv rfl rfl (by simp [go_sem, a.e 8 (d 1 rfl), a.e 9 (d 2 rfl), hq1, hki, hk]) rfl,
  fun f s W c d h i j a => by have l := below_trans fB1 c; have u1 : W.cell? ⟨q1, o1 + k, none⟩ = some (.int .i64 x) := (l.cell (p := ⟨q1, o1 + k, none⟩) hql1).trans (by rw [hqc1 k hk, hx]); exact opv rfl rfl (by simp [go_sem, a.e 10 (d 3 rfl), u1]) rfl,
  fun f s W c d h i j a => opv rfl rfl (by simp [go_sem, a.e 11 (d 4 rfl), IntWalk.i64_in (1000 * x) (by omega)]) rfl,
  fun f s W c d h i j a => opv rfl rfl (by simp [go_sem, a.e 2 k1_2]) rfl,
  fun f s W c d h i j a => opv rfl rfl (by simp [go_sem, a.e 12 (d 5 rfl), a.e 13 (d 6 rfl), IntWalk.i64_in ((1000 * x) - cal) (by omega)]) rfl,
  fun f s W c d h i j a => opv rfl rfl (by simp [go_sem, a.e 14 (d 7 rfl)]) rfl, trivial⟩ ?_
 intro f2 s2 W2 hB2 g2 hg2
 have fB2 := hB2.f fB1
 have z2 := hB2.below.size
 have b2_0 := hB2.b br1_0
 refine hK2 _ _ ?_
 have k2_6 := kt hg2 6 (hB2.is 8)
 refine wp_ret ?_
 refine leave_one (N := 15) (v := .int .i64 ((1000 * x) - cal)) (.inr rfl) Tryz.results56 rfl k2_6 ?_
 exact ⟨by rw [panR, hx], fB2⟩
def heightR (b : Bl) (c : Int) : Int := if b.isOpen = true then 1000 * b.height - c else 1000 * b.height - c - c
set_option maxRecDepth 100000 in
set_option maxHeartbeats 400000 in
theorem heightR_any (a1 a2 a3 : Option Addr) (c1 c2 c3 : Nat) (b : Bl) (cal : Int) (w : World) (h1 : Ii w a1 b.panels.length c1 b.panels) (h2 : Ii w a2 b.top.length c2 b.top) (h3 : Ii w a3 b.bottom.length c3 b.bottom) (hx1 : -100000 ≤ b.height) (hx2 : b.height ≤ 100000) (hy1 : -100000000 ≤ cal) (hy2 : cal ≤ 100000000) :
  Calls Tryz.prog 57 #[.agg #[.int .i64 b.tab, .slice (a1) (b.panels.length) (c1), .int .i64 b.height, .slice (a2) (b.top.length) (c2), .slice (a3) (b.bottom.length) (c3), .int .i64 b.slot, .bool b.isOpen], .int .i64 cal] w (fun e w' => e = .returned (.int .i64 (heightR b cal)) ∧ Below w.heap.size w w') := by
 refine calls_fr Tryz.func57 Tryz.ntmps57 rfl rfl fun g hg => ?_
 have k0 : g 0 = .agg #[.int .i64 b.tab, .slice (a1) (b.panels.length) (c1), .int .i64 b.height, .slice (a2) (b.top.length) (c2), .slice (a3) (b.bottom.length) (c3), .int .i64 b.slot, .bool b.isOpen] := hg 0
 have k1 : g 1 = .int .i64 cal := hg 1
 clear hg
 have fB0 : Below w.heap.size w w := Below.refl _ _
 refine wp_seq_k fun K1 hK1 => ?_
 refine region_dk 2 [(2, 0), (4, 1)] [[], []] (rel [bx 0 #[.int .i64 b.tab, .slice (a1) (b.panels.length) (c1), .int .i64 b.height, .slice (a2) (b.top.length) (c2), .slice (a3) (b.bottom.length) (c3), .int .i64 b.slot, .bool b.isOpen] 24,
   is (.int .i64 0)])
  ⟨bx_k, is_k, trivial⟩
  ⟨fun f s W c d h i j a => opb rfl rfl (by simp [go_sem, a.e 0 k0]),
  fun f s W c d h i j a => opv rfl rfl (by simp [go_sem]) rfl, trivial⟩ ?_
 intro f1 s1 W1 hB1 g1 hg1
 have fB1 := hB1.f fB0
 have z1 := hB1.below.size
 obtain ⟨r1_0, br1_0⟩ := hB1.is 0
 have lr1_0 := hB1.lr 0 br1_0
 refine hK1 _ _ ?_
 have k1_1 := kt hg1 1 k1
 have k1_2 := kt hg1 2 r1_0
 have k1_4 := kt hg1 4 (hB1.is 1)
 refine wp_seq_k fun K2 hK2 => ?_
 refine wp_seq_k fun K3 hK3 => ?_
 refine region_dk 2 [(5, 0), (6, 1)] [[], [0]] (rel [is (.pointer (some ⟨(s1 0), 6, none⟩)),
   is (.bool b.isOpen)])
  ⟨is_k, is_k, trivial⟩
  ⟨fun f s W c d h i j a => opv rfl rfl (by simp [go_sem, a.e 2 k1_2]) rfl,
  fun f s W c d h i j a => opv rfl rfl (by simp [go_sem, a.e 5 (d 0 rfl), cb br1_0 c 6]) rfl, trivial⟩ ?_
 intro f2 s2 W2 hB2 g2 hg2
 have fB2 := hB2.f fB1
 have z2 := hB2.below.size
 have b2_0 := hB2.b br1_0
 refine hK3 _ _ ?_
 have k2_1 := kt hg2 1 k1_1
 have k2_2 := kt hg2 2 k1_2
 have k2_4 := kt hg2 4 k1_4
 have k2_6 := kt hg2 6 (hB2.is 1)
 refine wp_cond_split (t := b.isOpen) ((fr_eval rfl).trans k2_6) (fun hc4 => ?_) (fun hc4 => ?_)
 ·
  have hc4' := hc4; try simp only [ba] at hc4'
  refine wp_seq_k fun K5 hK5 => ?_
  refine region_dk 6 [(7, 0), (8, 1), (9, 2), (10, 3), (11, 4), (4, 5)] [[], [0], [0, 1], [], [0, 1, 2, 3], [0, 1, 2, 3, 4]] (rel [is (.pointer (some ⟨(s1 0), 2, none⟩)),
   is (.int .i64 b.height),
   is (.int .i64 (1000 * b.height)),
   is (.int .i64 cal),
   is (.int .i64 ((1000 * b.height) - cal)),
   is (.int .i64 ((1000 * b.height) - cal))])
   ⟨is_k, is_k, is_k, is_k, is_k, is_k, trivial⟩
   ⟨fun f s W c d h i j a => opv rfl rfl (by simp [go_sem, a.e 2 k2_2]) rfl,
  fun f s W c d h i j a => opv rfl rfl (by simp [go_sem, a.e 7 (d 0 rfl), cb b2_0 c 2]) rfl,
  fun f s W c d h i j a => opv rfl rfl (by simp [go_sem, a.e 8 (d 1 rfl), IntWalk.i64_in (1000 * b.height) (by omega)]) rfl,
  fun f s W c d h i j a => opv rfl rfl (by simp [go_sem, a.e 1 k2_1]) rfl,
  fun f s W c d h i j a => opv rfl rfl (by simp [go_sem, a.e 9 (d 2 rfl), a.e 10 (d 3 rfl), IntWalk.i64_in ((1000 * b.height) - cal) (by omega)]) rfl,
  fun f s W c d h i j a => opv rfl rfl (by simp [go_sem, a.e 11 (d 4 rfl)]) rfl, trivial⟩ ?_
  intro f3 s3 W3 hB3 g3 hg3
  have fB3 := hB3.f fB2
  have z3 := hB3.below.size
  have b3_0 := hB3.b b2_0
  refine hK5 _ _ ?_
  have k3_1 := kt hg3 1 k2_1
  have k3_2 := kt hg3 2 k2_2
  have k3_4 := kt hg3 4 (hB3.is 5)
  refine wp_ret ?_
  refine then_ret ?_
  refine leave_one (N := 19) (v := .int .i64 ((1000 * b.height) - cal)) (.inr rfl) Tryz.results57 rfl k3_4 ?_
  exact ⟨by rw [heightR, if_pos hc4], fB3⟩
 ·
  have hc4' := hc4; try simp only [ba] at hc4'
  refine wp_skip ?_
  refine hK2 _ _ ?_
  refine wp_seq_k fun K6 hK6 => ?_
  refine region_dk 8 [(12, 0), (13, 1), (14, 2), (15, 3), (16, 4), (17, 5), (18, 6), (4, 7)] [[], [0], [0, 1], [], [0, 1, 2, 3], [], [0, 1, 2, 3, 4, 5], [0, 1, 2, 3, 4, 5, 6]] (rel [is (.pointer (some ⟨(s1 0), 2, none⟩)),
   is (.int .i64 b.height),
   is (.int .i64 (1000 * b.height)),
   is (.int .i64 cal),
   is (.int .i64 ((1000 * b.height) - cal)),
   is (.int .i64 cal),
   is (.int .i64 (((1000 * b.height) - cal) - cal)),
   is (.int .i64 (((1000 * b.height) - cal) - cal))])
   ⟨is_k, is_k, is_k, is_k, is_k, is_k, is_k, is_k, trivial⟩
   ⟨fun f s W c d h i j a => opv rfl rfl (by simp [go_sem, a.e 2 k2_2]) rfl,
  fun f s W c d h i j a => opv rfl rfl (by simp [go_sem, a.e 12 (d 0 rfl), cb b2_0 c 2]) rfl,
  fun f s W c d h i j a => opv rfl rfl (by simp [go_sem, a.e 13 (d 1 rfl), IntWalk.i64_in (1000 * b.height) (by omega)]) rfl,
  fun f s W c d h i j a => opv rfl rfl (by simp [go_sem, a.e 1 k2_1]) rfl,
  fun f s W c d h i j a => opv rfl rfl (by simp [go_sem, a.e 14 (d 2 rfl), a.e 15 (d 3 rfl), IntWalk.i64_in ((1000 * b.height) - cal) (by omega)]) rfl,
  fun f s W c d h i j a => opv rfl rfl (by simp [go_sem, a.e 1 k2_1]) rfl,
  fun f s W c d h i j a => opv rfl rfl (by simp [go_sem, a.e 16 (d 4 rfl), a.e 17 (d 5 rfl), IntWalk.i64_in (((1000 * b.height) - cal) - cal) (by omega)]) rfl,
  fun f s W c d h i j a => opv rfl rfl (by simp [go_sem, a.e 18 (d 6 rfl)]) rfl, trivial⟩ ?_
  intro f4 s4 W4 hB4 g4 hg4
  have fB4 := hB4.f fB2
  have z4 := hB4.below.size
  have b4_0 := hB4.b b2_0
  refine hK6 _ _ ?_
  have k4_4 := kt hg4 4 (hB4.is 7)
  refine wp_ret ?_
  refine leave_one (N := 19) (v := .int .i64 (((1000 * b.height) - cal) - cal)) (.inr rfl) Tryz.results57 rfl k4_4 ?_
  exact ⟨by rw [heightR, if_neg (by rw [hc4]; decide)], fB4⟩
end Go.Proofs.YthnediamopehfaaGreat
namespace Go.Proofs.YthnediamopehfaaGreat
theorem within_one (lo hi n : Int) : within lo hi [n] = inB n lo hi := by
  unfold within inB
  rw [Bool.eq_iff_iff]; simp
theorem good_nums {b : Bl} (h : checkErr b = 0) : (b.panels.length = 4 ∧ b.top.length = 2 ∧ b.bottom.length = 2) ∧ (0 ≤ b.tab ∧ b.tab ≤ 100) ∧ (0 ≤ b.slot ∧ b.slot ≤ 20) ∧ (1 ≤ b.height ∧ b.height ≤ 3000) ∧
    ((1 ≤ b.panels.getD 0 0 ∧ b.panels.getD 0 0 ≤ 3000) ∧ (1 ≤ b.panels.getD 1 0 ∧ b.panels.getD 1 0 ≤ 3000) ∧ (1 ≤ b.panels.getD 2 0 ∧ b.panels.getD 2 0 ≤ 3000) ∧ (1 ≤ b.panels.getD 3 0 ∧ b.panels.getD 3 0 ≤ 3000)) ∧
    ((0 ≤ b.top.getD 0 0 ∧ b.top.getD 0 0 ≤ 3000) ∧ (0 ≤ b.top.getD 1 0 ∧ b.top.getD 1 0 ≤ 3000) ∧ (0 ≤ b.bottom.getD 0 0 ∧ b.bottom.getD 0 0 ≤ 3000) ∧ (0 ≤ b.bottom.getD 1 0 ∧ b.bottom.getD 1 0 ≤ 3000)) := by
  obtain ⟨hF, ht, hs, hp, hh, -⟩ := fine_of_check h
  obtain ⟨p0, p1, p2, p3, t0, t1, u0, u1, e1, e2, e3, r0, r1, r2, r3, s0, s1, q0, q1, rh⟩ := hF
  rw [e1] at hp
  have a0 := hp p0 (by simp); have a1 := hp p1 (by simp); have a2 := hp p2 (by simp); have a3 := hp p3 (by simp)
  rw [e1, e2, e3]
  simp only [List.length_cons, List.length_nil, List.getD_cons_zero, List.getD_cons_succ, true_and]
  refine ⟨ht, hs, hh, ⟨a0, a1, a2, a3⟩, s0, s1, q0, q1⟩
end Go.Proofs.YthnediamopehfaaGreat
namespace Go.Proofs.YthnediamopehfaaGreat
theorem spanR_eq (lo hi least most : Int) : spanR lo hi least most = isSpan (lo, hi) least most := by
  unfold spanR isSpan within inB
  rw [Bool.eq_iff_iff]
  simp
  omega
theorem isSpan_iff {lo hi : Int} : isSpan (lo, hi) 1 10000 = true ↔ 1 ≤ lo ∧ lo ≤ hi ∧ hi ≤ 10000 := by
  rw [← spanR_eq]; unfold spanR inB; simp [and_assoc]
theorem panels_in {b : Bl} (h : checkErr b = 0) {i : Nat} (hi : i < 4) : i < b.panels.length ∧ 1 ≤ b.panels.getD i 0 ∧ b.panels.getD i 0 ≤ 3000 := by
  obtain ⟨⟨l1, -, -⟩, -, -, -, ⟨p0, p1, p2, p3⟩, -⟩ := good_nums h
  refine ⟨by omega, ?_⟩
  match i, hi with
  | 0, _ => exact p0
  | 1, _ => exact p1
  | 2, _ => exact p2
  | 3, _ => exact p3
end Go.Proofs.YthnediamopehfaaGreat
namespace Go.Proofs.YthnediamopehfaaGreat
open Go.RowKit
theorem osure {P : Program} {ops : Array Oper} {Q : Exit → Act → World → Prop} {i j : Nat} {want : Bool} {a : Act} {W : World} {r : Value → World → Prop} {o : Oper} (ho : ops[i]? = some o) (hg : o.guard = some (j, want)) (hy : yielded ops a.tmps j = some want)
    (h : ∀ K : Act → World → Prop, (∀ v W', Below W.heap.size W W' → r v W' → K (a.put o.dst v) W') → o.wp P a W K Q) : OpDo P ops Q i a W r := by
  intro K hK
  unfold wpOp
  simp only [ho, Region.wanted, hg, hy]
  rw [ho] at hK
  rw [if_pos (by simp)]
  exact .inl (h K hK)
end Go.Proofs.YthnediamopehfaaGreat
namespace Go.Proofs.YthnediamopehfaaGreat
open Go.RowKit
set_option maxRecDepth 100000 in
set_option maxHeartbeats 2000000 in
theorem copy_own (a1 a2 a3 : Option Addr) (c1 c2 c3 : Nat) (tab p0 p1 p2 p3 hh t0 t1 u0 u1 sl : Int) (op : Bool) (w : World) (h1 : Ii w a1 4 c1 [p0, p1, p2, p3]) (h2 : Ii w a2 2 c2 [t0, t1]) (h3 : Ii w a3 2 c3 [u0, u1]) :
  Calls Tryz.prog 48 #[.agg #[.int .i64 tab, .slice (a1) (4) (c1), .int .i64 hh, .slice (a2) (2) (c2), .slice (a3) (2) (c3), .int .i64 sl, .bool op]] w (OwBlkP ⟨tab, [p0, p1, p2, p3], hh, [t0, t1], [u0, u1], sl, op⟩ w) := by
 refine calls_fr Tryz.func48 Tryz.ntmps48 rfl rfl fun g hg => ?_
 have k0 : g 0 = .agg #[.int .i64 tab, .slice (a1) (4) (c1), .int .i64 hh, .slice (a2) (2) (c2), .slice (a3) (2) (c3), .int .i64 sl, .bool op] := hg 0
 clear hg
 have fB0 : Below w.heap.size w w := Below.refl _ _
 refine wp_seq_k fun K1 hK1 => ?_
 refine region_dk 2 [(1, 0), (2, 1)] [[], []] (rel [bx 0 #[.int .i64 tab, .slice (a1) (4) (c1), .int .i64 hh, .slice (a2) (2) (c2), .slice (a3) (2) (c3), .int .i64 sl, .bool op] 24,
   bx 1 #[.int .i64 0, .slice (none) (0) (0), .int .i64 0, .slice (none) (0) (0), .slice (none) (0) (0), .int .i64 0, .bool false] 24])
  ⟨bx_k, bx_k, trivial⟩
  ⟨fun f s W c d i j l a => opb rfl rfl (by simp [go_sem, a.e 0 k0]),
  fun f s W c d i j l a => opb rfl rfl (by simp [go_sem]), trivial⟩ ?_
 intro f1 s1 W1 hB1 g1 hg1
 have fB1 := hB1.f fB0
 have z1 := hB1.below.size
 obtain ⟨r1_0, br1_0⟩ := hB1.is 0
 have lr1_0 := hB1.lr 0 br1_0
 obtain ⟨r1_1, br1_1⟩ := hB1.is 1
 have lr1_1 := hB1.lr 1 br1_1
 have ne1_0_1 := hB1.nb 0 1
 refine hK1 _ _ ?_
 have k1_1 := kt hg1 1 r1_0
 have k1_2 := kt hg1 2 r1_1
 refine wp_seq_k fun K2 hK2 => ?_
 refine region_dk 13 [(3, 0), (4, 1), (5, 2), (6, 3), (7, 4), (8, 5), (9, 6), (10, 7), (11, 8), (12, 9), (13, 10), (14, 11), (15, 12), (16, 14), (17, 16)] [[], [], [1], [0, 1, 2], [], [], [5], [0, 1, 2, 3, 4, 5, 6], [], [], [9], [0, 1, 2, 3, 4, 5, 6, 7, 8, 9, 10], [0, 1, 2, 3, 5, 6, 9, 10], [0, 1, 2, 3, 4, 5, 6, 7, 8, 9, 10, 11, 12], [0, 1, 2, 3, 4, 5, 6, 7, 8, 9, 10, 11, 12, 13], [0, 1, 2, 3, 4, 5, 6, 7, 8, 9, 10, 11, 12, 13, 14], [0, 1, 2, 3, 4, 5, 6, 7, 8, 9, 10, 11, 12, 13, 14, 15], [0, 1, 2, 3, 4, 5, 6, 7, 8, 9, 10, 11, 12, 13, 14, 15, 16]] (rel [row 0 0 #[] 3,
   is (.pointer (some ⟨(s1 0), 1, none⟩)),
   is (.slice (a1) (4) (c1)),
   fun v s W => OwI (s 3) ([p0, p1, p2, p3]) 4 v W,
   row 4 0 #[] 3,
   is (.pointer (some ⟨(s1 0), 3, none⟩)),
   is (.slice (a2) (2) (c2)),
   fun v s W => OwI (s 7) ([t0, t1]) 2 v W,
   row 8 0 #[] 3,
   is (.pointer (some ⟨(s1 0), 4, none⟩)),
   is (.slice (a3) (2) (c3)),
   fun v s W => OwI (s 11) ([u0, u1]) 2 v W,
   is (.pointer (some ⟨(s1 0), 1, none⟩))])
  ⟨row_k, is_k, is_k, ⟨fun v k W W' hb h => h.below hb, fun v s s' W e h => by have h' : OwI (s 3) ([p0, p1, p2, p3]) 4 v W := h; show OwI (s' 3) ([p0, p1, p2, p3]) 4 v W; rw [← e 3 (by simp)]; exact h'⟩, row_k, is_k, is_k, ⟨fun v k W W' hb h => h.below hb, fun v s s' W e h => by have h' : OwI (s 7) ([t0, t1]) 2 v W := h; show OwI (s' 7) ([t0, t1]) 2 v W; rw [← e 7 (by simp)]; exact h'⟩, row_k, is_k, is_k, ⟨fun v k W W' hb h => h.below hb, fun v s s' W e h => by have h' : OwI (s 11) ([u0, u1]) 2 v W := h; show OwI (s' 11) ([u0, u1]) 2 v W; rw [← e 11 (by simp)]; exact h'⟩, is_k, trivial⟩
  ⟨fun f s W c d i j l a => opr rfl rfl (by simp [go_sem]),
  fun f s W c d i j l a => opv rfl rfl (by simp [go_sem, a.e 1 k1_1]) rfl,
  fun f s W c d i j l a => opv rfl rfl (by simp [go_sem, a.e 4 (d 1 rfl), cb br1_0 c 1]) rfl,
  fun f s W c d i j l a => by have m := below_trans fB1 c; obtain ⟨v_, W_, r_, b_, i_⟩ := cloneO_run 22 W (s 0) (a1) (c1) ([p0, p1, p2, p3]) 4 ((h1.below m (Nat.le_refl _))) ((by decide)) ((by decide)) (d 0 rfl).2; exact opDo_value rfl rfl (run_appendOp (a.v 3 (d 0 rfl).1) (a.v 5 (d 2 rfl)) r_) b_ (show OwI (upd s 3 W.heap.size 3) ([p0, p1, p2, p3]) 4 v_ W_ from by rw [upd_at]; exact i_),
  fun f s W c d i j l a => opr rfl rfl (by simp [go_sem]),
  fun f s W c d i j l a => opv rfl rfl (by simp [go_sem, a.e 1 k1_1]) rfl,
  fun f s W c d i j l a => opv rfl rfl (by simp [go_sem, a.e 8 (d 5 rfl), cb br1_0 c 3]) rfl,
  fun f s W c d i j l a => by have m := below_trans fB1 c; obtain ⟨v_, W_, r_, b_, i_⟩ := cloneO_run 22 W (s 4) (a2) (c2) ([t0, t1]) 2 ((h2.below m (Nat.le_refl _))) ((by decide)) ((by decide)) (d 4 rfl).2; exact opDo_value rfl rfl (run_appendOp (a.v 7 (d 4 rfl).1) (a.v 9 (d 6 rfl)) r_) b_ (show OwI (upd s 7 W.heap.size 7) ([t0, t1]) 2 v_ W_ from by rw [upd_at]; exact i_),
  fun f s W c d i j l a => opr rfl rfl (by simp [go_sem]),
  fun f s W c d i j l a => opv rfl rfl (by simp [go_sem, a.e 1 k1_1]) rfl,
  fun f s W c d i j l a => opv rfl rfl (by simp [go_sem, a.e 12 (d 9 rfl), cb br1_0 c 4]) rfl,
  fun f s W c d i j l a => by have m := below_trans fB1 c; obtain ⟨v_, W_, r_, b_, i_⟩ := cloneO_run 22 W (s 8) (a3) (c3) ([u0, u1]) 2 ((h3.below m (Nat.le_refl _))) ((by decide)) ((by decide)) (d 8 rfl).2; exact opDo_value rfl rfl (run_appendOp (a.v 11 (d 8 rfl).1) (a.v 13 (d 10 rfl)) r_) b_ (show OwI (upd s 11 W.heap.size 11) ([u0, u1]) 2 v_ W_ from by rw [upd_at]; exact i_),
  fun f s W c d i j l a => opv rfl rfl (by simp [go_sem, a.e 1 k1_1]) rfl, trivial⟩ ?_
 intro f2 s2 W2 hB2 g2 hg2
 have fB2 := hB2.f fB1
 have z2 := hB2.below.size
 have b2_0 := hB2.b br1_0
 have b2_1 := hB2.b br1_1
 obtain ⟨r2_0, br2_0⟩ := hB2.is 0
 have lr2_0 := hB2.lr 0 br2_0
 obtain ⟨g1', c2', r2_3, q3'⟩ := hB2.is 3
 have la2_3 := hB2.from' 3 (by decide)
 have lo2_3_o := q3'.lim
 have q4' := q3'.low (B' := w.heap.size) (Nat.le_trans fB1.size (la2_3))
 obtain ⟨r2_4, br2_4⟩ := hB2.is 4
 have lr2_4 := hB2.lr 4 br2_4
 obtain ⟨g5', c6', r2_7, q7'⟩ := hB2.is 7
 have la2_7 := hB2.from' 7 (by decide)
 have lo2_7_o := q7'.lim
 have q8' := q7'.low (B' := w.heap.size) (Nat.le_trans fB1.size (la2_7))
 obtain ⟨r2_8, br2_8⟩ := hB2.is 8
 have lr2_8 := hB2.lr 8 br2_8
 obtain ⟨g9', c10', r2_11, q11'⟩ := hB2.is 11
 have la2_11 := hB2.from' 11 (by decide)
 have lo2_11_o := q11'.lim
 have q12' := q11'.low (B' := w.heap.size) (Nat.le_trans fB1.size (la2_11))
 have oo2_3_o_0 := hB2.off 3 0 (by decide) (by decide) (by decide) lo2_3_o.1 (fun W h => OwI.lt h r2_3) (fun _ _ _ h => lt_of_blk h.2)
 have oo2_3_o_4 := hB2.off 3 4 (by decide) (by decide) (by decide) lo2_3_o.1 (fun W h => OwI.lt h r2_3) (fun _ _ _ h => lt_of_blk h.2)
 have oo2_3_o_8 := hB2.off 3 8 (by decide) (by decide) (by decide) lo2_3_o.1 (fun W h => OwI.lt h r2_3) (fun _ _ _ h => lt_of_blk h.2)
 have oo2_7_o_0 := hB2.off 7 0 (by decide) (by decide) (by decide) lo2_7_o.1 (fun W h => OwI.lt h r2_7) (fun _ _ _ h => lt_of_blk h.2)
 have oo2_7_o_4 := hB2.off 7 4 (by decide) (by decide) (by decide) lo2_7_o.1 (fun W h => OwI.lt h r2_7) (fun _ _ _ h => lt_of_blk h.2)
 have oo2_7_o_8 := hB2.off 7 8 (by decide) (by decide) (by decide) lo2_7_o.1 (fun W h => OwI.lt h r2_7) (fun _ _ _ h => lt_of_blk h.2)
 have ow2_7_o_3_o := hB2.two 7 3 (by decide) (by decide) (by decide) lo2_7_o.1 lo2_3_o.1 (fun W h => OwI.lt h r2_7) (fun W h => OwI.lt h r2_3)
 have oo2_11_o_0 := hB2.off 11 0 (by decide) (by decide) (by decide) lo2_11_o.1 (fun W h => OwI.lt h r2_11) (fun _ _ _ h => lt_of_blk h.2)
 have oo2_11_o_4 := hB2.off 11 4 (by decide) (by decide) (by decide) lo2_11_o.1 (fun W h => OwI.lt h r2_11) (fun _ _ _ h => lt_of_blk h.2)
 have oo2_11_o_8 := hB2.off 11 8 (by decide) (by decide) (by decide) lo2_11_o.1 (fun W h => OwI.lt h r2_11) (fun _ _ _ h => lt_of_blk h.2)
 have ow2_11_o_3_o := hB2.two 11 3 (by decide) (by decide) (by decide) lo2_11_o.1 lo2_3_o.1 (fun W h => OwI.lt h r2_11) (fun W h => OwI.lt h r2_3)
 have ow2_11_o_7_o := hB2.two 11 7 (by decide) (by decide) (by decide) lo2_11_o.1 lo2_7_o.1 (fun W h => OwI.lt h r2_11) (fun W h => OwI.lt h r2_7)
 have ne2_0_4 := hB2.nb 0 4
 have ne2_0_8 := hB2.nb 0 8
 have ne2_4_8 := hB2.nb 4 8
 have k2_1 := kt hg2 1 k1_1
 have k2_2 := kt hg2 2 k1_2
 have k2_6 := kt hg2 6 r2_3
 have k2_10 := kt hg2 10 r2_7
 have k2_14 := kt hg2 14 r2_11
 have k2_15 := kt hg2 15 (hB2.is 12)
 obtain ⟨W3, hW3⟩ : ∃ W', W' = W2.setRow (s1 0) #[.int .i64 tab, .slice (some ⟨g1', 0, none⟩) (4) (c2'), .int .i64 hh, .slice (a2) (2) (c2), .slice (a3) (2) (c3), .int .i64 sl, .bool op] := ⟨_, rfl⟩
 refine tail_skip (o := _) rfl ⟨rfl, rfl⟩ (run_seg hW3 (fr_ev k2_15) (fr_ev k2_6) b2_0 rfl rfl rfl rfl) ?_
 obtain ⟨fB3, nb3, ot3, z3⟩ := seg_facts hW3 fB2 b2_0 (by omega)
 clear hW3
 have b3_1 := ot3 _ _ (by omega) b2_1
 have b3_2 := ot3 _ _ (by omega) br2_0
 have b3_3 := ot3 _ _ (by omega) br2_4
 have b3_4 := ot3 _ _ (by omega) br2_8
 have q13' := q4'.other ot3 (by omega) z3
 have q14' := q8'.other ot3 (by omega) z3
 have q15' := q12'.other ot3 (by omega) z3
 refine tail_value (o := _) rfl rfl rfl (v := .pointer (some ⟨(s1 0), 3, none⟩)) (by simp [go_sem, frv 19 k2_1]) ?_
 generalize hg4 : upd g2 16 (.pointer (some ⟨(s1 0), 3, none⟩)) = g4
 have k4_1 := ku hg4 1 k2_1
 have k4_2 := ku hg4 2 k2_2
 have k4_10 := ku hg4 10 k2_10
 have k4_14 := ku hg4 14 k2_14
 have k4_16 := kt hg4 16 (upd_same _ _ _)
 obtain ⟨W5, hW5⟩ : ∃ W', W' = W3.setRow (s1 0) #[.int .i64 tab, .slice (some ⟨g1', 0, none⟩) (4) (c2'), .int .i64 hh, .slice (some ⟨g5', 0, none⟩) (2) (c6'), .slice (a3) (2) (c3), .int .i64 sl, .bool op] := ⟨_, rfl⟩
 refine tail_skip (o := _) rfl ⟨rfl, rfl⟩ (run_seg hW5 (fr_ev k4_16) (fr_ev k4_10) nb3 rfl rfl rfl rfl) ?_
 obtain ⟨fB5, nb5, ot5, z5⟩ := seg_facts hW5 fB3 nb3 (by omega)
 clear hW5
 have b5_1 := ot5 _ _ (by omega) b3_1
 have b5_2 := ot5 _ _ (by omega) b3_2
 have b5_3 := ot5 _ _ (by omega) b3_3
 have b5_4 := ot5 _ _ (by omega) b3_4
 have q16' := q13'.other ot5 (by omega) z5
 have q17' := q14'.other ot5 (by omega) z5
 have q18' := q15'.other ot5 (by omega) z5
 refine tail_value (o := _) rfl rfl rfl (v := .pointer (some ⟨(s1 0), 4, none⟩)) (by simp [go_sem, frv 19 k4_1]) ?_
 generalize hg6 : upd g4 17 (.pointer (some ⟨(s1 0), 4, none⟩)) = g6
 have k6_1 := ku hg6 1 k4_1
 have k6_2 := ku hg6 2 k4_2
 have k6_14 := ku hg6 14 k4_14
 have k6_17 := kt hg6 17 (upd_same _ _ _)
 obtain ⟨W7, hW7⟩ : ∃ W', W' = W5.setRow (s1 0) #[.int .i64 tab, .slice (some ⟨g1', 0, none⟩) (4) (c2'), .int .i64 hh, .slice (some ⟨g5', 0, none⟩) (2) (c6'), .slice (some ⟨g9', 0, none⟩) (2) (c10'), .int .i64 sl, .bool op] := ⟨_, rfl⟩
 refine tail_skip (o := _) rfl ⟨rfl, rfl⟩ (run_seg hW7 (fr_ev k6_17) (fr_ev k6_14) nb5 rfl rfl rfl rfl) ?_
 obtain ⟨fB7, nb7, ot7, z7⟩ := seg_facts hW7 fB5 nb5 (by omega)
 clear hW7
 have b7_1 := ot7 _ _ (by omega) b5_1
 have b7_2 := ot7 _ _ (by omega) b5_2
 have b7_3 := ot7 _ _ (by omega) b5_3
 have b7_4 := ot7 _ _ (by omega) b5_4
 have q19' := q16'.other ot7 (by omega) z7
 have q20' := q17'.other ot7 (by omega) z7
 have q21' := q18'.other ot7 (by omega) z7
 refine wpOps_end ?_
 refine hK2 _ _ ?_
 refine wp_seq_k fun K3 hK3 => ?_
 refine region_dk 1 [(18, 0)] [[], [0]] (rel [is (.agg #[.int .i64 tab, .slice (some ⟨g1', 0, none⟩) (4) (c2'), .int .i64 hh, .slice (some ⟨g5', 0, none⟩) (2) (c6'), .slice (some ⟨g9', 0, none⟩) (2) (c10'), .int .i64 sl, .bool op])])
  ⟨is_k, trivial⟩
  ⟨fun f s W c d i j l a => opv rfl rfl (by simp [go_sem, a.e 1 k6_1, cb nb7 c 0, cb nb7 c 1, cb nb7 c 2, cb nb7 c 3, cb nb7 c 4, cb nb7 c 5, cb nb7 c 6]) rfl, trivial⟩ ?_
 intro f8 s8 W8 hB8 g8 hg8
 have fB8 := hB8.f fB7
 have z8 := hB8.below.size
 have b8_0 := hB8.b nb7
 have b8_1 := hB8.b b7_1
 have b8_2 := hB8.b b7_2
 have b8_3 := hB8.b b7_3
 have b8_4 := hB8.b b7_4
 have q22' := (q19'.below hB8.below)
 have q23' := (q20'.below hB8.below)
 have q24' := (q21'.below hB8.below)
 have k8_2 := kt hg8 2 k6_2
 have k8_18 := kt hg8 18 (hB8.is 0)
 obtain ⟨W9, hW9⟩ : ∃ W', W' = W8.setRow (s1 1) #[.int .i64 tab, .slice (some ⟨g1', 0, none⟩) (4) (c2'), .int .i64 hh, .slice (some ⟨g5', 0, none⟩) (2) (c6'), .slice (some ⟨g9', 0, none⟩) (2) (c10'), .int .i64 sl, .bool op] := ⟨_, rfl⟩
 refine tail_skip (o := _) rfl ⟨rfl, rfl⟩ (run_seg hW9 (fr_ev k8_2) (fr_ev k8_18) b8_1 rfl rfl rfl rfl) ?_
 obtain ⟨fB9, nb9, ot9, z9⟩ := seg_facts hW9 fB8 b8_1 (by omega)
 clear hW9
 have b9_0 := ot9 _ _ (by omega) b8_0
 have b9_2 := ot9 _ _ (by omega) b8_2
 have b9_3 := ot9 _ _ (by omega) b8_3
 have b9_4 := ot9 _ _ (by omega) b8_4
 have q25' := q22'.other ot9 (by omega) z9
 have q26' := q23'.other ot9 (by omega) z9
 have q27' := q24'.other ot9 (by omega) z9
 refine wpOps_end ?_
 refine hK3 _ _ ?_
 refine wp_ret ?_
 refine leave_gen (v := .agg #[.int .i64 tab, .slice (some ⟨g1', 0, none⟩) (4) (c2'), .int .i64 hh, .slice (some ⟨g5', 0, none⟩) (2) (c6'), .slice (some ⟨g9', 0, none⟩) (2) (c10'), .int .i64 sl, .bool op]) (.inr rfl) (by simp [results, Tryz.results48, go_sem, frv 19 k8_2, cl nb9 0, cl nb9 1, cl nb9 2, cl nb9 3, cl nb9 4, cl nb9 5, cl nb9 6]) ?_
 exact ⟨_, rfl, ⟨_, _, _, _, _, _, rfl, q25', q26', q27', by omega, by omega, by omega⟩, fB9⟩
end Go.Proofs.YthnediamopehfaaGreat
namespace Go.Proofs.YthnediamopehfaaGreat
open Go.RowKit
/-- Nothing is changed but new blocks of the kind T; what G says of such a block's content stays said. -/
structure LeT (B : Nat) (T : TypeId) (G : Array Value → World → Prop) (a b : World) : Prop where
  os : b.os = a.os
  tape : b.tape = a.tape
  output : b.output = a.output
  size : a.heap.size ≤ b.heap.size
  block : ∀ k x, a.heap[k]? = some x → (k < B ∨ ∀ cs, x ≠ .cells cs T (0, 0)) → b.heap[k]? = some x
  kind : ∀ k cs, B ≤ k → a.heap[k]? = some (.cells cs T (0, 0)) → ∃ cs', b.heap[k]? = some (.cells cs' T (0, 0)) ∧ cs'.size = cs.size ∧ (G cs a → G cs' b)
section
variable {B : Nat} {T : TypeId} {G : Array Value → World → Prop}
end
section
variable {P : Program} {ops : Array Oper} {Q : Exit → Act → World → Prop}
end
end Go.Proofs.YthnediamopehfaaGreat
namespace Go.Proofs.YthnediamopehfaaGreat
open Go.RowKit
def fitsR (n lo hi : Int) : Bool := inB n (1000 * lo) (1000 * hi)
set_option maxRecDepth 100000 in
set_option maxHeartbeats 400000 in
theorem fitsR_any (n lo hi : Int) (w : World) (g1 : -100000 ≤ lo) (g2 : lo ≤ 100000) (g3 : -100000 ≤ hi) (g4 : hi ≤ 100000) :
  Calls Tryz.prog 88 #[.int .i64 n, .agg #[.int .i64 lo, .int .i64 hi]] w (fun e w' => e = .returned (.bool (fitsR n lo hi)) ∧ Below w.heap.size w w') := by
 refine calls_fr Tryz.func88 Tryz.ntmps88 rfl rfl fun g hg => ?_
 have k0 : g 0 = .int .i64 n := hg 0
 have k1 : g 1 = .agg #[.int .i64 lo, .int .i64 hi] := hg 1
 clear hg
 have fB0 : Below w.heap.size w w := Below.refl _ _
 refine wp_seq_k fun K1 hK1 => ?_
 refine region_dk 2 [(3, 0), (4, 1)] [[], []] (rel [bx 0 #[.int .i64 lo, .int .i64 hi] 26,
   is (.bool false)])
  ⟨bx_k, is_k, trivial⟩
  ⟨fun f s W c d h i j a => opb rfl rfl (by simp [go_sem, a.e 1 k1]),
  fun f s W c d h i j a => opv rfl rfl (by simp [go_sem]) rfl, trivial⟩ ?_
 intro f1 s1 W1 hB1 g1 hg1
 have fB1 := hB1.f fB0
 have z1 := hB1.below.size
 obtain ⟨r1_0, br1_0⟩ := hB1.is 0
 have lr1_0 := hB1.lr 0 br1_0
 refine hK1 _ _ ?_
 have k1_0 := kt hg1 0 k0
 have k1_3 := kt hg1 3 r1_0
 have k1_4 := kt hg1 4 (hB1.is 1)
 refine wp_seq_k fun K2 hK2 => ?_
 refine region_dk 9 [(5, 0), (6, 1), (7, 2), (8, 3), (9, 4), (10, 5), (11, 6), (12, 7), (4, 8)] [[], [], [1], [1, 2], [], [4], [4, 5], [0, 1, 2, 3, 4, 5, 6], [0, 1, 2, 3, 4, 5, 6, 7]] (rel [is (.int .i64 n),
   is (.pointer (some ⟨(s1 0), 0, none⟩)),
   is (.int .i64 lo),
   is (.int .i64 (1000 * lo)),
   is (.pointer (some ⟨(s1 0), 1, none⟩)),
   is (.int .i64 hi),
   is (.int .i64 (1000 * hi)),
   is (.bool (inB (n) (1000 * lo) (1000 * hi))),
   is (.bool (inB (n) (1000 * lo) (1000 * hi)))])
  ⟨is_k, is_k, is_k, is_k, is_k, is_k, is_k, is_k, is_k, trivial⟩
  ⟨fun f s W c d h i j a => opv rfl rfl (by simp [go_sem, a.e 0 k1_0]) rfl,
  fun f s W c d h i j a => opv rfl rfl (by simp [go_sem, a.e 3 k1_3]) rfl,
  fun f s W c d h i j a => opv rfl rfl (by simp [go_sem, a.e 6 (d 1 rfl), cb br1_0 c 0]) rfl,
  fun f s W c d h i j a => opv rfl rfl (by simp [go_sem, a.e 7 (d 2 rfl), IntWalk.i64_in (1000 * lo) (by omega)]) rfl,
  fun f s W c d h i j a => opv rfl rfl (by simp [go_sem, a.e 3 k1_3]) rfl,
  fun f s W c d h i j a => opv rfl rfl (by simp [go_sem, a.e 9 (d 4 rfl), cb br1_0 c 1]) rfl,
  fun f s W c d h i j a => opv rfl rfl (by simp [go_sem, a.e 10 (d 5 rfl), IntWalk.i64_in (1000 * hi) (by omega)]) rfl,
  fun f s W c d h i j a => opc rfl rfl (by simp [go_sem, a.e 5 (d 0 rfl), a.e 8 (d 3 rfl), a.e 11 (d 6 rfl)]) (in_any (n) (1000 * lo) (1000 * hi) W),
  fun f s W c d h i j a => opv rfl rfl (by simp [go_sem, a.e 12 (d 7 rfl)]) rfl, trivial⟩ ?_
 intro f2 s2 W2 hB2 g2 hg2
 have fB2 := hB2.f fB1
 have z2 := hB2.below.size
 have b2_0 := hB2.b br1_0
 refine hK2 _ _ ?_
 have k2_4 := kt hg2 4 (hB2.is 8)
 refine wp_ret ?_
 refine leave_one (N := 13) (v := .bool (inB (n) (1000 * lo) (1000 * hi))) (.inr rfl) Tryz.results88 rfl k2_4 ?_
 exact ⟨rfl, fB2⟩
def flapR (b : Bl) (top outer : Bool) : Int := (if top = true then b.top else b.bottom).getD (if outer = true then 0 else 1) 0
def gapR (b : Bl) (top outer : Bool) (c : Int) : Int := (panR b (if outer = true then 1 else 0) c - 1000 * flapR b top outer) - 1000 * flapR b top outer
set_option maxRecDepth 100000 in
set_option maxHeartbeats 2000000 in
theorem gapR_any (a1 a2 a3 : Option Addr) (c1 c2 c3 : Nat) (b : Bl) (top outer : Bool) (cal : Int) (w : World) (h1 : Ii w a1 b.panels.length c1 b.panels) (h2 : Ii w a2 b.top.length c2 b.top) (h3 : Ii w a3 b.bottom.length c3 b.bottom) (hck : checkErr b = 0) (gc : 0 ≤ cal ∧ cal ≤ 100000) :
  Calls Tryz.prog 58 #[.agg #[.int .i64 b.tab, .slice (a1) (b.panels.length) (c1), .int .i64 b.height, .slice (a2) (b.top.length) (c2), .slice (a3) (b.bottom.length) (c3), .int .i64 b.slot, .bool b.isOpen], .bool top, .bool outer, .int .i64 cal] w (fun e w' => e = .returned (.int .i64 (gapR b top outer cal)) ∧ Below w.heap.size w w') := by
 have hm1 := h1.len_le
 have hm2 := h2.len_le
 have hm3 := h3.len_le
 obtain ⟨⟨hl1, hl2, hl3⟩, gt, gs, gh, ⟨gp0, gp1, gp2, gp3⟩, gt0, gt1, gu0, gu1⟩ := good_nums hck
 obtain ⟨q2, o2, hq2, hql2, hqc2⟩ := h2.at (by omega)
 obtain ⟨q3, o3, hq3, hql3, hqc3⟩ := h3.at (by omega)
 obtain ⟨t0, ht0⟩ : ∃ y, b.top.getD 0 0 = y := ⟨_, rfl⟩
 obtain ⟨t1, ht1⟩ : ∃ y, b.top.getD 1 0 = y := ⟨_, rfl⟩
 obtain ⟨u0, hu0⟩ : ∃ y, b.bottom.getD 0 0 = y := ⟨_, rfl⟩
 obtain ⟨u1, hu1⟩ : ∃ y, b.bottom.getD 1 0 = y := ⟨_, rfl⟩
 rw [ht0] at gt0; rw [ht1] at gt1; rw [hu0] at gu0; rw [hu1] at gu1
 have wp0 : panR b 0 cal = 1000 * b.panels.getD 0 0 - cal := rfl
 have wp1 : panR b 1 cal = 1000 * b.panels.getD 1 0 - cal := rfl
 refine calls_fr Tryz.func58 Tryz.ntmps58 rfl rfl fun g hg => ?_
 have k0 : g 0 = .agg #[.int .i64 b.tab, .slice (a1) (b.panels.length) (c1), .int .i64 b.height, .slice (a2) (b.top.length) (c2), .slice (a3) (b.bottom.length) (c3), .int .i64 b.slot, .bool b.isOpen] := hg 0
 have k1 : g 1 = .bool top := hg 1
 have k2 : g 2 = .bool outer := hg 2
 have k3 : g 3 = .int .i64 cal := hg 3
 clear hg
 have fB0 : Below w.heap.size w w := Below.refl _ _
 refine wp_seq_k fun K1 hK1 => ?_
 refine region_dk 2 [(4, 0), (8, 1)] [[], []] (rel [bx 0 #[.int .i64 b.tab, .slice (a1) (b.panels.length) (c1), .int .i64 b.height, .slice (a2) (b.top.length) (c2), .slice (a3) (b.bottom.length) (c3), .int .i64 b.slot, .bool b.isOpen] 24,
   is (.int .i64 0)])
  ⟨bx_k, is_k, trivial⟩
  ⟨fun f s W c d h i j a => opb rfl rfl (by simp [go_sem, a.e 0 k0]),
  fun f s W c d h i j a => opv rfl rfl (by simp [go_sem]) rfl, trivial⟩ ?_
 intro f1 s1 W1 hB1 g1 hg1
 have fB1 := hB1.f fB0
 have z1 := hB1.below.size
 obtain ⟨r1_0, br1_0⟩ := hB1.is 0
 have lr1_0 := hB1.lr 0 br1_0
 refine hK1 _ _ ?_
 have k1_1 := kt hg1 1 k1
 have k1_2 := kt hg1 2 k2
 have k1_3 := kt hg1 3 k3
 have k1_4 := kt hg1 4 r1_0
 have k1_8 := kt hg1 8 (hB1.is 1)
 refine wp_seq_k fun K2 hK2 => ?_
 refine region_dk 3 [(10, 0), (11, 1), (9, 2)] [[], [0], [0, 1]] (rel [is (.pointer (some ⟨(s1 0), 4, none⟩)),
   is (.slice (a3) (b.bottom.length) (c3)),
   is (.slice (a3) (b.bottom.length) (c3))])
  ⟨is_k, is_k, is_k, trivial⟩
  ⟨fun f s W c d h i j a => opv rfl rfl (by simp [go_sem, a.e 4 k1_4]) rfl,
  fun f s W c d h i j a => opv rfl rfl (by simp [go_sem, a.e 10 (d 0 rfl), cb br1_0 c 4]) rfl,
  fun f s W c d h i j a => opv rfl rfl (by simp [go_sem, a.e 11 (d 1 rfl)]) rfl, trivial⟩ ?_
 intro f2 s2 W2 hB2 g2 hg2
 have fB2 := hB2.f fB1
 have z2 := hB2.below.size
 have b2_0 := hB2.b br1_0
 refine hK2 _ _ ?_
 have k2_1 := kt hg2 1 k1_1
 have k2_2 := kt hg2 2 k1_2
 have k2_3 := kt hg2 3 k1_3
 have k2_4 := kt hg2 4 k1_4
 have k2_8 := kt hg2 8 k1_8
 have k2_9 := kt hg2 9 (hB2.is 2)
 refine wp_seq_k fun K3 hK3 => ?_
 refine wp_seq_k fun K4 hK4 => ?_
 refine region_dk 1 [(12, 0)] [[]] (rel [is (.bool top)])
  ⟨is_k, trivial⟩
  ⟨fun f s W c d h i j a => opv rfl rfl (by simp [go_sem, a.e 1 k2_1]) rfl, trivial⟩ ?_
 intro f3 s3 W3 hB3 g3 hg3
 have fB3 := hB3.f fB2
 have z3 := hB3.below.size
 have b3_0 := hB3.b b2_0
 refine hK4 _ _ ?_
 have k3_2 := kt hg3 2 k2_2
 have k3_3 := kt hg3 3 k2_3
 have k3_4 := kt hg3 4 k2_4
 have k3_8 := kt hg3 8 k2_8
 have k3_9 := kt hg3 9 k2_9
 have k3_12 := kt hg3 12 (hB3.is 0)
 refine wp_cond_split (t := top) ((fr_eval rfl).trans k3_12) (fun hc5 => ?_) (fun hc5 => ?_)
 ·
  have hc5' := hc5; try simp only [ba] at hc5'
  refine region_dk 3 [(13, 0), (14, 1), (9, 2)] [[], [0], [0, 1]] (rel [is (.pointer (some ⟨(s1 0), 3, none⟩)),
   is (.slice (a2) (b.top.length) (c2)),
   is (.slice (a2) (b.top.length) (c2))])
   ⟨is_k, is_k, is_k, trivial⟩
   ⟨fun f s W c d h i j a => opv rfl rfl (by simp [go_sem, a.e 4 k3_4]) rfl,
  fun f s W c d h i j a => opv rfl rfl (by simp [go_sem, a.e 13 (d 0 rfl), cb b3_0 c 3]) rfl,
  fun f s W c d h i j a => opv rfl rfl (by simp [go_sem, a.e 14 (d 1 rfl)]) rfl, trivial⟩ ?_
  intro f4 s4 W4 hB4 g4 hg4
  have fB4 := hB4.f fB3
  have z4 := hB4.below.size
  have b4_0 := hB4.b b3_0
  refine hK3 _ _ ?_
  have k4_2 := kt hg4 2 k3_2
  have k4_3 := kt hg4 3 k3_3
  have k4_4 := kt hg4 4 k3_4
  have k4_8 := kt hg4 8 k3_8
  have k4_9 := kt hg4 9 (hB4.is 2)
  refine wp_seq_k fun K6 hK6 => ?_
  refine wp_seq_k fun K7 hK7 => ?_
  refine region_dk 1 [(15, 0)] [[]] (rel [is (.bool outer)])
   ⟨is_k, trivial⟩
   ⟨fun f s W c d h i j a => opv rfl rfl (by simp [go_sem, a.e 2 k4_2]) rfl, trivial⟩ ?_
  intro f5 s5 W5 hB5 g5 hg5
  have fB5 := hB5.f fB4
  have z5 := hB5.below.size
  have b5_0 := hB5.b b4_0
  refine hK7 _ _ ?_
  have k5_3 := kt hg5 3 k4_3
  have k5_4 := kt hg5 4 k4_4
  have k5_8 := kt hg5 8 k4_8
  have k5_9 := kt hg5 9 k4_9
  have k5_15 := kt hg5 15 (hB5.is 0)
  refine wp_cond_split (t := outer) ((fr_eval rfl).trans k5_15) (fun hc8 => ?_) (fun hc8 => ?_)
  ·
   have hc8' := hc8; try simp only [ba] at hc8'
   refine wp_seq_k fun K9 hK9 => ?_
   refine region_dk 14 [(16, 0), (17, 1), (18, 2), (19, 3), (20, 4), (21, 5), (22, 6), (23, 7), (24, 8), (25, 9), (26, 10), (27, 11), (28, 12), (8, 13)] [[], [], [0, 1], [], [3], [3, 4], [3, 4, 5], [0, 1, 2, 3, 4, 5, 6], [], [8], [8, 9], [8, 9, 10], [0, 1, 2, 3, 4, 5, 6, 7, 8, 9, 10, 11], [0, 1, 2, 3, 4, 5, 6, 7, 8, 9, 10, 11, 12]] (rel [is (.agg #[.int .i64 b.tab, .slice (a1) (b.panels.length) (c1), .int .i64 b.height, .slice (a2) (b.top.length) (c2), .slice (a3) (b.bottom.length) (c3), .int .i64 b.slot, .bool b.isOpen]),
   is (.int .i64 cal),
   is (.int .i64 ((panR b 1 cal))),
   is (.slice (a2) (b.top.length) (c2)),
   is (.pointer (some ⟨q2, o2, none⟩)),
   is (.int .i64 t0),
   is (.int .i64 (1000 * t0)),
   is (.int .i64 ((panR b 1 cal) - (1000 * t0))),
   is (.slice (a2) (b.top.length) (c2)),
   is (.pointer (some ⟨q2, o2, none⟩)),
   is (.int .i64 t0),
   is (.int .i64 (1000 * t0)),
   is (.int .i64 (((panR b 1 cal) - (1000 * t0)) - (1000 * t0))),
   is (.int .i64 (((panR b 1 cal) - (1000 * t0)) - (1000 * t0)))])
    ⟨is_k, is_k, is_k, is_k, is_k, is_k, is_k, is_k, is_k, is_k, is_k, is_k, is_k, is_k, trivial⟩
    ⟨fun f s W c d h i j a => opv rfl rfl (by simp [go_sem, a.e 4 k5_4, cb b5_0 c 0, cb b5_0 c 1, cb b5_0 c 2, cb b5_0 c 3, cb b5_0 c 4, cb b5_0 c 5, cb b5_0 c 6]) rfl,
  fun f s W c d h i j a => opv rfl rfl (by simp [go_sem, a.e 3 k5_3]) rfl,
  fun f s W c d h i j a => by have k := below_trans fB5 c; exact opc (args := #[.agg #[.int .i64 b.tab, .slice (a1) (b.panels.length) (c1), .int .i64 b.height, .slice (a2) (b.top.length) (c2), .slice (a3) (b.bottom.length) (c3), .int .i64 b.slot, .bool b.isOpen], .int .i64 1, .int .i64 cal]) rfl rfl (by simp [go_sem, a.e 16 (d 0 rfl), a.e 17 (d 1 rfl)]) (panR_any a1 a2 a3 c1 c2 c3 b 1 1 _ cal W (h1.below k (Nat.le_refl _)) (h2.below k (Nat.le_refl _)) (h3.below k (Nat.le_refl _)) rfl (by omega) rfl (by omega) (by omega) (by omega) (by omega)),
  fun f s W c d h i j a => opv rfl rfl (by simp [go_sem, a.e 9 k5_9]) rfl,
  fun f s W c d h i j a => opv rfl rfl (by simp [go_sem, a.e 19 (d 3 rfl), hq2, hl2]) rfl,
  fun f s W c d h i j a => by have k := below_trans fB5 c; have u2_0 : W.cell? ⟨q2, o2, none⟩ = some (.int .i64 t0) := (k.cell (p := ⟨q2, o2, none⟩) hql2).trans (by have hq_ := hqc2 0 (by omega); rw [ht0] at hq_; exact hq_); exact opv rfl rfl (by simp [go_sem, a.e 20 (d 4 rfl), u2_0]) rfl,
  fun f s W c d h i j a => opv rfl rfl (by simp [go_sem, a.e 21 (d 5 rfl), IntWalk.i64_in (1000 * t0) (by omega)]) rfl,
  fun f s W c d h i j a => opv rfl rfl (by simp [go_sem, a.e 18 (d 2 rfl), a.e 22 (d 6 rfl), IntWalk.i64_in ((panR b 1 cal) - (1000 * t0)) (by omega)]) rfl,
  fun f s W c d h i j a => opv rfl rfl (by simp [go_sem, a.e 9 k5_9]) rfl,
  fun f s W c d h i j a => opv rfl rfl (by simp [go_sem, a.e 24 (d 8 rfl), hq2, hl2]) rfl,
  fun f s W c d h i j a => by have k := below_trans fB5 c; have u2_0 : W.cell? ⟨q2, o2, none⟩ = some (.int .i64 t0) := (k.cell (p := ⟨q2, o2, none⟩) hql2).trans (by have hq_ := hqc2 0 (by omega); rw [ht0] at hq_; exact hq_); exact opv rfl rfl (by simp [go_sem, a.e 25 (d 9 rfl), u2_0]) rfl,
  fun f s W c d h i j a => opv rfl rfl (by simp [go_sem, a.e 26 (d 10 rfl), IntWalk.i64_in (1000 * t0) (by omega)]) rfl,
  fun f s W c d h i j a => opv rfl rfl (by simp [go_sem, a.e 23 (d 7 rfl), a.e 27 (d 11 rfl), IntWalk.i64_in (((panR b 1 cal) - (1000 * t0)) - (1000 * t0)) (by omega)]) rfl,
  fun f s W c d h i j a => opv rfl rfl (by simp [go_sem, a.e 28 (d 12 rfl)]) rfl, trivial⟩ ?_
   intro f6 s6 W6 hB6 g6 hg6
   have fB6 := hB6.f fB5
   have z6 := hB6.below.size
   have b6_0 := hB6.b b5_0
   refine hK9 _ _ ?_
   have k6_3 := kt hg6 3 k5_3
   have k6_4 := kt hg6 4 k5_4
   have k6_9 := kt hg6 9 k5_9
   have k6_8 := kt hg6 8 (hB6.is 13)
   refine wp_ret ?_
   refine then_ret ?_
   refine leave_one (N := 42) (v := .int .i64 (((panR b 1 cal) - (1000 * t0)) - (1000 * t0))) (.inr rfl) Tryz.results58 rfl k6_8 ?_
   exact ⟨by rw [hc5, hc8]; show _ = Ending.returned (.int .i64 ((panR b 1 cal - 1000 * (b.top).getD 0 0) - 1000 * (b.top).getD 0 0)); rw [ht0], fB6⟩
  ·
   have hc8' := hc8; try simp only [ba] at hc8'
   refine wp_skip ?_
   refine hK6 _ _ ?_
   refine wp_seq_k fun K10 hK10 => ?_
   refine region_dk 14 [(29, 0), (30, 1), (31, 2), (32, 3), (33, 4), (34, 5), (35, 6), (36, 7), (37, 8), (38, 9), (39, 10), (40, 11), (41, 12), (8, 13)] [[], [], [0, 1], [], [3], [3, 4], [3, 4, 5], [0, 1, 2, 3, 4, 5, 6], [], [8], [8, 9], [8, 9, 10], [0, 1, 2, 3, 4, 5, 6, 7, 8, 9, 10, 11], [0, 1, 2, 3, 4, 5, 6, 7, 8, 9, 10, 11, 12]] (rel [is (.agg #[.int .i64 b.tab, .slice (a1) (b.panels.length) (c1), .int .i64 b.height, .slice (a2) (b.top.length) (c2), .slice (a3) (b.bottom.length) (c3), .int .i64 b.slot, .bool b.isOpen]),
   is (.int .i64 cal),
   is (.int .i64 ((panR b 0 cal))),
   is (.slice (a2) (b.top.length) (c2)),
   is (.pointer (some ⟨q2, o2 + 1, none⟩)),
   is (.int .i64 t1),
   is (.int .i64 (1000 * t1)),
   is (.int .i64 ((panR b 0 cal) - (1000 * t1))),
   is (.slice (a2) (b.top.length) (c2)),
   is (.pointer (some ⟨q2, o2 + 1, none⟩)),
   is (.int .i64 t1),
   is (.int .i64 (1000 * t1)),
   is (.int .i64 (((panR b 0 cal) - (1000 * t1)) - (1000 * t1))),
   is (.int .i64 (((panR b 0 cal) - (1000 * t1)) - (1000 * t1)))])
    ⟨is_k, is_k, is_k, is_k, is_k, is_k, is_k, is_k, is_k, is_k, is_k, is_k, is_k, is_k, trivial⟩
    ⟨fun f s W c d h i j a => opv rfl rfl (by simp [go_sem, a.e 4 k5_4, cb b5_0 c 0, cb b5_0 c 1, cb b5_0 c 2, cb b5_0 c 3, cb b5_0 c 4, cb b5_0 c 5, cb b5_0 c 6]) rfl,
  fun f s W c d h i j a => opv rfl rfl (by simp [go_sem, a.e 3 k5_3]) rfl,
  fun f s W c d h i j a => by have k := below_trans fB5 c; exact opc (args := #[.agg #[.int .i64 b.tab, .slice (a1) (b.panels.length) (c1), .int .i64 b.height, .slice (a2) (b.top.length) (c2), .slice (a3) (b.bottom.length) (c3), .int .i64 b.slot, .bool b.isOpen], .int .i64 0, .int .i64 cal]) rfl rfl (by simp [go_sem, a.e 29 (d 0 rfl), a.e 30 (d 1 rfl)]) (panR_any a1 a2 a3 c1 c2 c3 b 0 0 _ cal W (h1.below k (Nat.le_refl _)) (h2.below k (Nat.le_refl _)) (h3.below k (Nat.le_refl _)) rfl (by omega) rfl (by omega) (by omega) (by omega) (by omega)),
  fun f s W c d h i j a => opv rfl rfl (by simp [go_sem, a.e 9 k5_9]) rfl,
  fun f s W c d h i j a => opv rfl rfl (by simp [go_sem, a.e 32 (d 3 rfl), hq2, hl2]) rfl,
  fun f s W c d h i j a => by have k := below_trans fB5 c; have u2_1 : W.cell? ⟨q2, o2 + 1, none⟩ = some (.int .i64 t1) := (k.cell (p := ⟨q2, o2 + 1, none⟩) hql2).trans (by have hq_ := hqc2 1 (by omega); rw [ht1] at hq_; exact hq_); exact opv rfl rfl (by simp [go_sem, a.e 33 (d 4 rfl), u2_1]) rfl,
  fun f s W c d h i j a => opv rfl rfl (by simp [go_sem, a.e 34 (d 5 rfl), IntWalk.i64_in (1000 * t1) (by omega)]) rfl,
  fun f s W c d h i j a => opv rfl rfl (by simp [go_sem, a.e 31 (d 2 rfl), a.e 35 (d 6 rfl), IntWalk.i64_in ((panR b 0 cal) - (1000 * t1)) (by omega)]) rfl,
  fun f s W c d h i j a => opv rfl rfl (by simp [go_sem, a.e 9 k5_9]) rfl,
  fun f s W c d h i j a => opv rfl rfl (by simp [go_sem, a.e 37 (d 8 rfl), hq2, hl2]) rfl,
  fun f s W c d h i j a => by have k := below_trans fB5 c; have u2_1 : W.cell? ⟨q2, o2 + 1, none⟩ = some (.int .i64 t1) := (k.cell (p := ⟨q2, o2 + 1, none⟩) hql2).trans (by have hq_ := hqc2 1 (by omega); rw [ht1] at hq_; exact hq_); exact opv rfl rfl (by simp [go_sem, a.e 38 (d 9 rfl), u2_1]) rfl,
  fun f s W c d h i j a => opv rfl rfl (by simp [go_sem, a.e 39 (d 10 rfl), IntWalk.i64_in (1000 * t1) (by omega)]) rfl,
  fun f s W c d h i j a => opv rfl rfl (by simp [go_sem, a.e 36 (d 7 rfl), a.e 40 (d 11 rfl), IntWalk.i64_in (((panR b 0 cal) - (1000 * t1)) - (1000 * t1)) (by omega)]) rfl,
  fun f s W c d h i j a => opv rfl rfl (by simp [go_sem, a.e 41 (d 12 rfl)]) rfl, trivial⟩ ?_
   intro f7 s7 W7 hB7 g7 hg7
   have fB7 := hB7.f fB5
   have z7 := hB7.below.size
   have b7_0 := hB7.b b5_0
   refine hK10 _ _ ?_
   have k7_8 := kt hg7 8 (hB7.is 13)
   refine wp_ret ?_
   refine leave_one (N := 42) (v := .int .i64 (((panR b 0 cal) - (1000 * t1)) - (1000 * t1))) (.inr rfl) Tryz.results58 rfl k7_8 ?_
   exact ⟨by rw [hc5, hc8]; show _ = Ending.returned (.int .i64 ((panR b 0 cal - 1000 * (b.top).getD 1 0) - 1000 * (b.top).getD 1 0)); rw [ht1], fB7⟩
 ·
  have hc5' := hc5; try simp only [ba] at hc5'
  refine wp_skip ?_
  refine hK3 _ _ ?_
  refine wp_seq_k fun K11 hK11 => ?_
  refine wp_seq_k fun K12 hK12 => ?_
  refine region_dk 1 [(15, 0)] [[]] (rel [is (.bool outer)])
   ⟨is_k, trivial⟩
   ⟨fun f s W c d h i j a => opv rfl rfl (by simp [go_sem, a.e 2 k3_2]) rfl, trivial⟩ ?_
  intro f8 s8 W8 hB8 g8 hg8
  have fB8 := hB8.f fB3
  have z8 := hB8.below.size
  have b8_0 := hB8.b b3_0
  refine hK12 _ _ ?_
  have k8_3 := kt hg8 3 k3_3
  have k8_4 := kt hg8 4 k3_4
  have k8_8 := kt hg8 8 k3_8
  have k8_9 := kt hg8 9 k3_9
  have k8_15 := kt hg8 15 (hB8.is 0)
  refine wp_cond_split (t := outer) ((fr_eval rfl).trans k8_15) (fun hc13 => ?_) (fun hc13 => ?_)
  ·
   have hc13' := hc13; try simp only [ba] at hc13'
   refine wp_seq_k fun K14 hK14 => ?_
   refine region_dk 14 [(16, 0), (17, 1), (18, 2), (19, 3), (20, 4), (21, 5), (22, 6), (23, 7), (24, 8), (25, 9), (26, 10), (27, 11), (28, 12), (8, 13)] [[], [], [0, 1], [], [3], [3, 4], [3, 4, 5], [0, 1, 2, 3, 4, 5, 6], [], [8], [8, 9], [8, 9, 10], [0, 1, 2, 3, 4, 5, 6, 7, 8, 9, 10, 11], [0, 1, 2, 3, 4, 5, 6, 7, 8, 9, 10, 11, 12]] (rel [is (.agg #[.int .i64 b.tab, .slice (a1) (b.panels.length) (c1), .int .i64 b.height, .slice (a2) (b.top.length) (c2), .slice (a3) (b.bottom.length) (c3), .int .i64 b.slot, .bool b.isOpen]),
   is (.int .i64 cal),
   is (.int .i64 ((panR b 1 cal))),
   is (.slice (a3) (b.bottom.length) (c3)),
   is (.pointer (some ⟨q3, o3, none⟩)),
   is (.int .i64 u0),
   is (.int .i64 (1000 * u0)),
   is (.int .i64 ((panR b 1 cal) - (1000 * u0))),
   is (.slice (a3) (b.bottom.length) (c3)),
   is (.pointer (some ⟨q3, o3, none⟩)),
   is (.int .i64 u0),
   is (.int .i64 (1000 * u0)),
   is (.int .i64 (((panR b 1 cal) - (1000 * u0)) - (1000 * u0))),
   is (.int .i64 (((panR b 1 cal) - (1000 * u0)) - (1000 * u0)))])
    ⟨is_k, is_k, is_k, is_k, is_k, is_k, is_k, is_k, is_k, is_k, is_k, is_k, is_k, is_k, trivial⟩
    ⟨fun f s W c d h i j a => opv rfl rfl (by simp [go_sem, a.e 4 k8_4, cb b8_0 c 0, cb b8_0 c 1, cb b8_0 c 2, cb b8_0 c 3, cb b8_0 c 4, cb b8_0 c 5, cb b8_0 c 6]) rfl,
  fun f s W c d h i j a => opv rfl rfl (by simp [go_sem, a.e 3 k8_3]) rfl,
  fun f s W c d h i j a => by have k := below_trans fB8 c; exact opc (args := #[.agg #[.int .i64 b.tab, .slice (a1) (b.panels.length) (c1), .int .i64 b.height, .slice (a2) (b.top.length) (c2), .slice (a3) (b.bottom.length) (c3), .int .i64 b.slot, .bool b.isOpen], .int .i64 1, .int .i64 cal]) rfl rfl (by simp [go_sem, a.e 16 (d 0 rfl), a.e 17 (d 1 rfl)]) (panR_any a1 a2 a3 c1 c2 c3 b 1 1 _ cal W (h1.below k (Nat.le_refl _)) (h2.below k (Nat.le_refl _)) (h3.below k (Nat.le_refl _)) rfl (by omega) rfl (by omega) (by omega) (by omega) (by omega)),
  fun f s W c d h i j a => opv rfl rfl (by simp [go_sem, a.e 9 k8_9]) rfl,
  fun f s W c d h i j a => opv rfl rfl (by simp [go_sem, a.e 19 (d 3 rfl), hq3, hl3]) rfl,
  fun f s W c d h i j a => by have k := below_trans fB8 c; have u3_0 : W.cell? ⟨q3, o3, none⟩ = some (.int .i64 u0) := (k.cell (p := ⟨q3, o3, none⟩) hql3).trans (by have hq_ := hqc3 0 (by omega); rw [hu0] at hq_; exact hq_); exact opv rfl rfl (by simp [go_sem, a.e 20 (d 4 rfl), u3_0]) rfl,
  fun f s W c d h i j a => opv rfl rfl (by simp [go_sem, a.e 21 (d 5 rfl), IntWalk.i64_in (1000 * u0) (by omega)]) rfl,
  fun f s W c d h i j a => opv rfl rfl (by simp [go_sem, a.e 18 (d 2 rfl), a.e 22 (d 6 rfl), IntWalk.i64_in ((panR b 1 cal) - (1000 * u0)) (by omega)]) rfl,
  fun f s W c d h i j a => opv rfl rfl (by simp [go_sem, a.e 9 k8_9]) rfl,
  fun f s W c d h i j a => opv rfl rfl (by simp [go_sem, a.e 24 (d 8 rfl), hq3, hl3]) rfl,
  fun f s W c d h i j a => by have k := below_trans fB8 c; have u3_0 : W.cell? ⟨q3, o3, none⟩ = some (.int .i64 u0) := (k.cell (p := ⟨q3, o3, none⟩) hql3).trans (by have hq_ := hqc3 0 (by omega); rw [hu0] at hq_; exact hq_); exact opv rfl rfl (by simp [go_sem, a.e 25 (d 9 rfl), u3_0]) rfl,
  fun f s W c d h i j a => opv rfl rfl (by simp [go_sem, a.e 26 (d 10 rfl), IntWalk.i64_in (1000 * u0) (by omega)]) rfl,
  fun f s W c d h i j a => opv rfl rfl (by simp [go_sem, a.e 23 (d 7 rfl), a.e 27 (d 11 rfl), IntWalk.i64_in (((panR b 1 cal) - (1000 * u0)) - (1000 * u0)) (by omega)]) rfl,
  fun f s W c d h i j a => opv rfl rfl (by simp [go_sem, a.e 28 (d 12 rfl)]) rfl, trivial⟩ ?_
   intro f9 s9 W9 hB9 g9 hg9
   have fB9 := hB9.f fB8
   have z9 := hB9.below.size
   have b9_0 := hB9.b b8_0
   refine hK14 _ _ ?_
   have k9_3 := kt hg9 3 k8_3
   have k9_4 := kt hg9 4 k8_4
   have k9_9 := kt hg9 9 k8_9
   have k9_8 := kt hg9 8 (hB9.is 13)
   refine wp_ret ?_
   refine then_ret ?_
   refine leave_one (N := 42) (v := .int .i64 (((panR b 1 cal) - (1000 * u0)) - (1000 * u0))) (.inr rfl) Tryz.results58 rfl k9_8 ?_
   exact ⟨by rw [hc5, hc13]; show _ = Ending.returned (.int .i64 ((panR b 1 cal - 1000 * (b.bottom).getD 0 0) - 1000 * (b.bottom).getD 0 0)); rw [hu0], fB9⟩
  ·
   have hc13' := hc13; try simp only [ba] at hc13'
   refine wp_skip ?_
   refine hK11 _ _ ?_
   refine wp_seq_k fun K15 hK15 => ?_
   refine region_dk 14 [(29, 0), (30, 1), (31, 2), (32, 3), (33, 4), (34, 5), (35, 6), (36, 7), (37, 8), (38, 9), (39, 10), (40, 11), (41, 12), (8, 13)] [[], [], [0, 1], [], [3], [3, 4], [3, 4, 5], [0, 1, 2, 3, 4, 5, 6], [], [8], [8, 9], [8, 9, 10], [0, 1, 2, 3, 4, 5, 6, 7, 8, 9, 10, 11], [0, 1, 2, 3, 4, 5, 6, 7, 8, 9, 10, 11, 12]] (rel [is (.agg #[.int .i64 b.tab, .slice (a1) (b.panels.length) (c1), .int .i64 b.height, .slice (a2) (b.top.length) (c2), .slice (a3) (b.bottom.length) (c3), .int .i64 b.slot, .bool b.isOpen]),
   is (.int .i64 cal),
   is (.int .i64 ((panR b 0 cal))),
   is (.slice (a3) (b.bottom.length) (c3)),
   is (.pointer (some ⟨q3, o3 + 1, none⟩)),
   is (.int .i64 u1),
   is (.int .i64 (1000 * u1)),
   is (.int .i64 ((panR b 0 cal) - (1000 * u1))),
   is (.slice (a3) (b.bottom.length) (c3)),
   is (.pointer (some ⟨q3, o3 + 1, none⟩)),
   is (.int .i64 u1),
   is (.int .i64 (1000 * u1)),
   is (.int .i64 (((panR b 0 cal) - (1000 * u1)) - (1000 * u1))),
   is (.int .i64 (((panR b 0 cal) - (1000 * u1)) - (1000 * u1)))])
    ⟨is_k, is_k, is_k, is_k, is_k, is_k, is_k, is_k, is_k, is_k, is_k, is_k, is_k, is_k, trivial⟩
    ⟨fun f s W c d h i j a => opv rfl rfl (by simp [go_sem, a.e 4 k8_4, cb b8_0 c 0, cb b8_0 c 1, cb b8_0 c 2, cb b8_0 c 3, cb b8_0 c 4, cb b8_0 c 5, cb b8_0 c 6]) rfl,
  fun f s W c d h i j a => opv rfl rfl (by simp [go_sem, a.e 3 k8_3]) rfl,
  fun f s W c d h i j a => by have k := below_trans fB8 c; exact opc (args := #[.agg #[.int .i64 b.tab, .slice (a1) (b.panels.length) (c1), .int .i64 b.height, .slice (a2) (b.top.length) (c2), .slice (a3) (b.bottom.length) (c3), .int .i64 b.slot, .bool b.isOpen], .int .i64 0, .int .i64 cal]) rfl rfl (by simp [go_sem, a.e 29 (d 0 rfl), a.e 30 (d 1 rfl)]) (panR_any a1 a2 a3 c1 c2 c3 b 0 0 _ cal W (h1.below k (Nat.le_refl _)) (h2.below k (Nat.le_refl _)) (h3.below k (Nat.le_refl _)) rfl (by omega) rfl (by omega) (by omega) (by omega) (by omega)),
  fun f s W c d h i j a => opv rfl rfl (by simp [go_sem, a.e 9 k8_9]) rfl,
  fun f s W c d h i j a => opv rfl rfl (by simp [go_sem, a.e 32 (d 3 rfl), hq3, hl3]) rfl,
  fun f s W c d h i j a => by have k := below_trans fB8 c; have u3_1 : W.cell? ⟨q3, o3 + 1, none⟩ = some (.int .i64 u1) := (k.cell (p := ⟨q3, o3 + 1, none⟩) hql3).trans (by have hq_ := hqc3 1 (by omega); rw [hu1] at hq_; exact hq_); exact opv rfl rfl (by simp [go_sem, a.e 33 (d 4 rfl), u3_1]) rfl,
  fun f s W c d h i j a => opv rfl rfl (by simp [go_sem, a.e 34 (d 5 rfl), IntWalk.i64_in (1000 * u1) (by omega)]) rfl,
  fun f s W c d h i j a => opv rfl rfl (by simp [go_sem, a.e 31 (d 2 rfl), a.e 35 (d 6 rfl), IntWalk.i64_in ((panR b 0 cal) - (1000 * u1)) (by omega)]) rfl,
  fun f s W c d h i j a => opv rfl rfl (by simp [go_sem, a.e 9 k8_9]) rfl,
  fun f s W c d h i j a => opv rfl rfl (by simp [go_sem, a.e 37 (d 8 rfl), hq3, hl3]) rfl,
  fun f s W c d h i j a => by have k := below_trans fB8 c; have u3_1 : W.cell? ⟨q3, o3 + 1, none⟩ = some (.int .i64 u1) := (k.cell (p := ⟨q3, o3 + 1, none⟩) hql3).trans (by have hq_ := hqc3 1 (by omega); rw [hu1] at hq_; exact hq_); exact opv rfl rfl (by simp [go_sem, a.e 38 (d 9 rfl), u3_1]) rfl,
  fun f s W c d h i j a => opv rfl rfl (by simp [go_sem, a.e 39 (d 10 rfl), IntWalk.i64_in (1000 * u1) (by omega)]) rfl,
  fun f s W c d h i j a => opv rfl rfl (by simp [go_sem, a.e 36 (d 7 rfl), a.e 40 (d 11 rfl), IntWalk.i64_in (((panR b 0 cal) - (1000 * u1)) - (1000 * u1)) (by omega)]) rfl,
  fun f s W c d h i j a => opv rfl rfl (by simp [go_sem, a.e 41 (d 12 rfl)]) rfl, trivial⟩ ?_
   intro f10 s10 W10 hB10 g10 hg10
   have fB10 := hB10.f fB8
   have z10 := hB10.below.size
   have b10_0 := hB10.b b8_0
   refine hK15 _ _ ?_
   have k10_8 := kt hg10 8 (hB10.is 13)
   refine wp_ret ?_
   refine leave_one (N := 42) (v := .int .i64 (((panR b 0 cal) - (1000 * u1)) - (1000 * u1))) (.inr rfl) Tryz.results58 rfl k10_8 ?_
   exact ⟨by rw [hc5, hc13]; show _ = Ending.returned (.int .i64 ((panR b 0 cal - 1000 * (b.bottom).getD 1 0) - 1000 * (b.bottom).getD 1 0)); rw [hu1], fB10⟩
end Go.Proofs.YthnediamopehfaaGreat
namespace Go.Proofs.YthnediamopehfaaGreat
open Go.RowKit
/-- All whole numbers of a span. -/
def rangeL (lo hi : Int) : List Int := (List.range (hi + 1 - lo).toNat).map fun (k : Nat) => lo + (k : Int)
theorem open_top {b : Bl} (h : checkErr b = 0) (ho : b.isOpen = true) : b.top.getD 0 0 = 0 ∧ b.top.getD 1 0 = 0 := by
  obtain ⟨⟨-, h2, -⟩, -⟩ := good_nums h
  unfold checkErr at h
  split at h
  · cases h
  · split at h
    · cases h
    · split at h
      · cases h
      · rename_i hn
        obtain ⟨t, p, hh, top, u, s, o⟩ := b
        simp only at ho h2 hn
        match top, h2 with
        | [x, y], _ =>
          simp [ho, within] at hn
          simp; omega
end Go.Proofs.YthnediamopehfaaGreat
